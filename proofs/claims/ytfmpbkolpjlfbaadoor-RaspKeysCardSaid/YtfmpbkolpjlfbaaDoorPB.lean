import Derived.Test.YtfmpbkolpjlfbaaDoorPA
import Derived.Test.YtfmpbkolpjlfbaaDoorCK
set_option linter.unusedVariables false
set_option linter.unusedSimpArgs false
namespace Go.Proofs.YtfmpbkolpjlfbaaDoor.Q
open Go.RowKit Go.Proofs.YtfmpbkolpjlfbaaDoorW.PrintWords Go.Proofs.YtfmpbkolpjlfbaaDoorW.PrintLast Go.Proofs.YtfmpbkolpjlfbaaDoor.PRaspKeys Go.Proofs.YtfmpbkolpjlfbaaDoor.R
section
variable (tools : List S57) (lo hi : Int) (l3 : List S69)
theorem len4 {l0 : List S57} {lo hi : Int} {l3 : List S69} (h : bookOk l0 lo hi l3 = true) : l0.length ≤ 4 := by
  unfold bookOk isIn at h
  simp only [Bool.and_eq_true, decide_eq_true_eq] at h
  omega
theorem key_ok_at {l0 : List S57} {lo hi : Int} {l3 : List S69} (h : bookOk l0 lo hi l3 = true) (k : Nat) (hk : k < l3.length) :
    -60 ≤ (l3.getD k z69).f0.f0 ∧ (l3.getD k z69).f0.f0 ≤ (l3.getD k z69).f0.f1 ∧ (l3.getD k z69).f0.f1 ≤ 60 ∧ 0 ≤ (l3.getD k z69).f1 ∧ (l3.getD k z69).f1 ≤ 30 := by
  have hok := keys_ok h k hk
  unfold keyOk isIn at hok
  simp only [Bool.and_eq_true, decide_eq_true_eq] at hok
  omega
theorem keyTo_fo (a m : Int) : ∀ n, keyTo tools lo hi a m n = fo (fun b x => max b (strk tools lo hi 0 x m).2) n 0 a
  | 0 => rfl
  | n + 1 => by rw [fo_snoc, keyTo, keyTo_fo a m n]
theorem strokes_l0 (a b m : Int) (ha : -60 ≤ a) (hb : b ≤ 60) (h0 : 0 ≤ m) (hm : m ≤ 30) : ∀ (n : Nat) (s x : Int), x + n = b + 1 → -60 ≤ x →
    Ev (fun k => saronref03_strokes.l0 k (rowsTo tools lo hi 0 31) s x a b m) (fo (fun c x => max c (strk tools lo hi 0 x m).2) n s x)
  | 0, s, x, hx, hx' => by
    refine Ev.step (fun k => by rw [saronref03_strokes.l0, if_neg (by omega)]) ?_
    exact Ev.now _
  | n + 1, s, x, hx, hx' => by
    refine Ev.step (fun k => by rw [saronref03_strokes.l0, if_pos (by omega), if_pos h0, if_pos (by rw [rowsTo_len]; omega), rowsTo_rd _ _ _ _ _ _ h0 (by omega), row_at_f _ _ _ _ _ _ (by omega) (by omega), Option.bind_some, w64 (x := x + 1) (by omega) (by omega)]) ?_
    have := strokes_l0 a b m ha hb h0 hm n (max s (strk tools lo hi 0 x m).2) (x + 1) (by omega) (by omega)
    rw [show mx s (strk tools lo hi 0 x m).2 = max s (strk tools lo hi 0 x m).2 by unfold mx; omega]
    exact this
theorem rstrokes_f (hbk : bookOk tools lo hi l3 = true) (ix : Int) (h0 : 0 ≤ ix) (h1 : ix < l3.length) :
    Ev (fun k => saronref03_strokes.f k tools lo hi l3 (rowsTo tools lo hi 0 31) ix) (keyF tools lo hi (l3.getD ix.toNat z69)) := by
  have hk := key_ok_at hbk ix.toNat (by omega)
  refine evc (fun k => by rw [saronref03_strokes.f, if_pos h0, if_pos h1]) ?_
  unfold keyF rd_T69
  rw [keyTo_fo]
  exact strokes_l0 tools lo hi _ _ _ (by omega) (by omega) (by omega) (by omega) _ 0 _ (by omega) (by omega)
theorem rStrokes_f (hs0 : tools.length ≤ 9223372036854775807) (hs : l3.length ≤ 9223372036854775807) (ix : Int) : Ev (fun k => saronref03_Strokes.f k tools lo hi l3 ix) (strokesF tools lo hi l3 ix) := by
  unfold strokesF
  refine evc (fun k => by rw [saronref03_Strokes.f, w64 (by omega) (by omega), sits_f, Option.bind_some]) ?_
  refine ebind (rasked_f tools lo hi l3 _ hs0 hs) ?_
  by_cases h : openV tools lo hi l3 (isIn ix 0 ((l3.length : Int) - 1)) = 0
  · obtain ⟨hbk, hin⟩ := openV_zero h
    rw [isIn_iff] at hin
    refine evc (fun k => by rw [if_pos h]) ?_
    rw [if_neg (by simpa using h)]
    refine ebind (rows_f tools lo hi l3 (sound_of hbk) (len4 hbk) true) ?_
    refine ebind (rstrokes_f tools lo hi l3 hbk ix (by omega) (by omega)) ?_
    refine ev_some fun k => ?_
    split <;> rfl
  · refine ev_some fun k => ?_
    rw [if_neg h, if_pos h]
theorem rSpoilt_l0 (hbk : bookOk tools lo hi l3 = true) : ∀ (d n : Nat), n + d = l3.length →
    Ev (fun k => saronref03_Spoilt.l0 k (rowsTo tools lo hi 0 31) (spList tools lo hi l3 n) (n : Int) tools lo hi l3) (spList tools lo hi l3 l3.length, 0)
  | 0, n, hd => by
    refine Ev.step (fun k => by rw [saronref03_Spoilt.l0, if_neg (by omega)]) ?_
    obtain rfl : n = l3.length := by omega
    exact Ev.now _
  | d + 1, n, hd => by
    have hlen := book_len hbk
    have hsl := spList_len tools lo hi l3 n
    have ih := rSpoilt_l0 hbk d (n + 1) (by omega)
    refine Ev.step (fun k => by rw [saronref03_Spoilt.l0, if_pos (by omega)]) ?_
    refine ebind (rstrokes_f tools lo hi l3 hbk (n : Int) (by omega) (by omega)) ?_
    have hu : spList tools lo hi l3 (n + 1) = if spoiltAt tools lo hi l3 l3.length n = true then spList tools lo hi l3 n ++ [(n : Int)] else spList tools lo hi l3 n := rfl
    rw [hu] at ih
    unfold spoiltAt at ih
    rw [show decide (n < l3.length) = true by simp; omega, Bool.true_and] at ih
    by_cases c : keyF tools lo hi (l3.getD n z69) = 1000
    · refine evc (fun k => by rw [if_pos (by simpa using c), if_pos (by omega), w64 (by omega) (by omega), show ((n : Int) + 1) = ((n + 1 : Nat) : Int) by omega]) ?_
      simpa only [c, decide_true, if_true] using ih
    · refine evc (fun k => by rw [if_neg (by simpa using c), w64 (by omega) (by omega), show ((n : Int) + 1) = ((n + 1 : Nat) : Int) by omega]) ?_
      rw [if_neg (by simpa using c)] at ih
      exact ih
theorem rSpoilt_f (hs0 : tools.length ≤ 9223372036854775807) (hs : l3.length ≤ 9223372036854775807) : Ev (fun k => saronref03_Spoilt.f k tools lo hi l3) (spoiltF tools lo hi l3) := by
  unfold spoiltF openV openE
  refine ebind (rcheck_f tools lo hi l3 hs0 hs) ?_
  by_cases h : checkE tools lo hi l3 = 0
  · have hbk : bookOk tools lo hi l3 = true := by
      unfold checkE at h
      by_cases hb : bookOk tools lo hi l3 = true
      · exact hb
      · rw [if_neg hb] at h; omega
    refine evc (fun k => by rw [if_pos h]) ?_
    simp only [h, ne_eq, not_true_eq_false, if_false, if_true]
    refine ebind (rows_f tools lo hi l3 (sound_of hbk) (len4 hbk) true) ?_
    exact rSpoilt_l0 tools lo hi l3 hbk l3.length 0 (by omega)
  · refine ev_some fun k => ?_
    simp only [h, ne_eq, not_false_eq_true, if_true, if_false]
theorem keyTo_spec (a m : Int) : ∀ n : Nat, (∀ i : Nat, i < n → (strk tools lo hi 0 (a + i) m).2 ≤ keyTo tools lo hi a m n) ∧ (keyTo tools lo hi a m n = 0 ∨ ∃ i : Nat, i < n ∧ keyTo tools lo hi a m n = (strk tools lo hi 0 (a + i) m).2)
  | 0 => ⟨fun i h => by omega, .inl rfl⟩
  | n + 1 => by
    obtain ⟨h1, h2⟩ := keyTo_spec a m n
    unfold keyTo
    refine ⟨fun i hi => ?_, ?_⟩
    · by_cases e : i = n
      · subst e; omega
      · have := h1 i (by omega); omega
    · by_cases c : keyTo tools lo hi a m n ≤ (strk tools lo hi 0 (a + n) m).2
      · exact .inr ⟨n, by omega, by omega⟩
      · rcases h2 with h2 | ⟨i, hi, h2⟩
        · exact .inl (by omega)
        · exact .inr ⟨i, by omega, by omega⟩
theorem keyF_small {tools : List S57} {lo hi : Int} (hs : Sound tools) (kk : S69) (h : 0 ≤ kk.f1) : keyF tools lo hi kk ≤ kk.f1 ∨ keyF tools lo hi kk = 1000 := by
  unfold keyF
  rcases (keyTo_spec tools lo hi kk.f0.f0 kk.f1 (kk.f0.f1 - kk.f0.f0 + 1).toNat).2 with h2 | ⟨i, hi', h2⟩
  · left; omega
  · rw [h2]
    exact strk_le hs (.inl rfl) _ _ h
/-- All strokes, the spoilt keys' never among them. -/
def sumK : Nat → Int
  | 0 => 0
  | n + 1 => sumK n + keyF tools lo hi (l3.getD n z69)
theorem keyF_bnd (kk : S69) : 0 ≤ keyF tools lo hi kk ∧ keyF tools lo hi kk ≤ 1000 := keyTo_bnd _ _ _ _ _ _
theorem sumK_bnd : ∀ n, 0 ≤ sumK tools lo hi l3 n ∧ sumK tools lo hi l3 n ≤ 1000 * n
  | 0 => by simp [sumK]
  | n + 1 => by
    have := sumK_bnd n
    have := keyF_bnd tools lo hi (l3.getD n z69)
    unfold sumK
    omega
theorem sumK_eq (hbk : bookOk tools lo hi l3 = true) : ∀ n, n ≤ l3.length → (∀ i, i < n → keyF tools lo hi (l3.getD i z69) ≠ 1000) → sumK tools lo hi l3 n = sumTo tools lo hi l3 n ∧ sumK tools lo hi l3 n ≤ 30 * n
  | 0, _, _ => by simp [sumK, sumTo]
  | n + 1, hn, h => by
    obtain ⟨h1, h2⟩ := sumK_eq hbk n (by omega) (fun i hi => h i (by omega))
    have hk := h n (by omega)
    have ho := key_ok_at hbk n (by omega)
    have hs := keyF_small (lo := lo) (hi := hi) (sound_of hbk) (l3.getD n z69) (by omega)
    have hb := keyF_bnd tools lo hi (l3.getD n z69)
    unfold sumK sumTo
    rw [if_neg hk, h1]
    refine ⟨rfl, ?_⟩
    rw [← h1]
    omega
theorem sumK_big : ∀ n i, i < n → keyF tools lo hi (l3.getD i z69) = 1000 → 1000 ≤ sumK tools lo hi l3 n
  | 0, i, h, _ => by omega
  | n + 1, i, h, hk => by
    have hb := keyF_bnd tools lo hi (l3.getD n z69)
    have hsb := sumK_bnd tools lo hi l3 n
    unfold sumK
    by_cases e : i = n
    · subst e; omega
    · have := sumK_big n i (by omega) hk
      omega
theorem anySpoilt_iff (h6 : l3.length ≤ 6) : anySpoilt tools lo hi l3 = true ↔ ∃ i, i < l3.length ∧ keyF tools lo hi (l3.getD i z69) = 1000 := by
  unfold anySpoilt spoiltAt
  simp only [Bool.or_eq_true, Bool.and_eq_true, decide_eq_true_eq]
  constructor
  · rintro (((((h | h) | h) | h) | h) | h) <;> exact ⟨_, h⟩
  · rintro ⟨i, hi, hk⟩
    match i, hi, hk with
    | 0, hi, hk => exact .inl (.inl (.inl (.inl (.inl ⟨hi, hk⟩))))
    | 1, hi, hk => exact .inl (.inl (.inl (.inl (.inr ⟨hi, hk⟩))))
    | 2, hi, hk => exact .inl (.inl (.inl (.inr ⟨hi, hk⟩)))
    | 3, hi, hk => exact .inl (.inl (.inr ⟨hi, hk⟩))
    | 4, hi, hk => exact .inl (.inr ⟨hi, hk⟩)
    | 5, hi, hk => exact .inr ⟨hi, hk⟩
    | i + 6, hi, hk => omega
theorem sum_total (hbk : bookOk tools lo hi l3 = true) : (if sumK tools lo hi l3 l3.length ≥ 1000 then ((0, 4) : Int × Int) else (sumK tools lo hi l3 l3.length, 0)) = if anySpoilt tools lo hi l3 = true then (0, 4) else (sumTo tools lo hi l3 l3.length, 0) := by
  have hl := book_len hbk
  by_cases c : anySpoilt tools lo hi l3 = true
  · obtain ⟨i, hi', hk⟩ := (anySpoilt_iff tools lo hi l3 hl).1 c
    rw [if_pos c, if_pos (sumK_big tools lo hi l3 _ i hi' hk)]
  · have hn : ∀ i, i < l3.length → keyF tools lo hi (l3.getD i z69) ≠ 1000 := fun i hi' hk => c ((anySpoilt_iff tools lo hi l3 hl).2 ⟨i, hi', hk⟩)
    obtain ⟨h1, h2⟩ := sumK_eq tools lo hi l3 hbk _ (Nat.le_refl _) hn
    rw [if_neg c, if_neg (by omega), h1]
theorem rTotal_l0 (hbk : bookOk tools lo hi l3 = true) : ∀ (d n : Nat), n + d = l3.length →
    Ev (fun k => saronref03_Total.l0 k (rowsTo tools lo hi 0 31) (sumK tools lo hi l3 n) (n : Int) tools lo hi l3) (if sumK tools lo hi l3 l3.length ≥ 1000 then (0, 4) else (sumK tools lo hi l3 l3.length, 0))
  | 0, n, hd => by
    obtain rfl : n = l3.length := by omega
    refine Ev.step (fun k => by rw [saronref03_Total.l0, if_neg (by omega)]) ?_
    refine ev_some fun k => ?_
    split <;> rfl
  | d + 1, n, hd => by
    have hlen := book_len hbk
    have hsl := sumK_bnd tools lo hi l3 n
    have hkb := keyF_bnd tools lo hi (l3.getD n z69)
    have ih := rTotal_l0 hbk d (n + 1) (by omega)
    refine Ev.step (fun k => by rw [saronref03_Total.l0, if_pos (by omega)]) ?_
    refine ebind (rstrokes_f tools lo hi l3 hbk (n : Int) (by omega) (by omega)) ?_
    refine evc (fun k => by rw [w64 (x := (n : Int) + 1) (by omega) (by omega), show ((n : Int) + 1) = ((n + 1 : Nat) : Int) by omega, Int.toNat_natCast, w64 (x := sumK tools lo hi l3 n + _) (by omega) (by omega)]) ?_
    exact ih
theorem openV_check : openV tools lo hi l3 true = checkE tools lo hi l3 := by
  unfold openV openE
  split
  · rfl
  · rename_i h
    simp at h
    rw [h]; rfl
theorem rTotal_f (hs0 : tools.length ≤ 9223372036854775807) (hs : l3.length ≤ 9223372036854775807) : Ev (fun k => saronref03_Total.f k tools lo hi l3) (totalF tools lo hi l3) := by
  unfold totalF
  rw [openV_check]
  refine ebind (rcheck_f tools lo hi l3 hs0 hs) ?_
  by_cases h : checkE tools lo hi l3 = 0
  · have hbk := (openV_zero ((openV_check tools lo hi l3).trans h)).1
    refine evc (fun k => by rw [if_pos h]) ?_
    rw [if_neg (by simpa using h), ← sum_total tools lo hi l3 hbk]
    refine ebind (rows_f tools lo hi l3 (sound_of hbk) (len4 hbk) true) ?_
    exact rTotal_l0 tools lo hi l3 hbk l3.length 0 (by omega)
  · refine ev_some fun k => ?_
    rw [if_neg h, if_pos h]
theorem rNeed_l0 (off : Int) (hb : -60 ≤ off) (hb' : off ≤ 60) : ∀ (d m : Nat), m + d = 31 →
    Ev (fun k => saronref03_Need.l0 k off (rowsTo tools lo hi 0 31) (m : Int)) (needFrom tools lo hi off d m)
  | 0, m, hd => by
    refine Ev.step (fun k => by rw [saronref03_Need.l0, if_neg (by omega)]) ?_
    exact Ev.now _
  | d + 1, m, hd => by
    have hsb := strk_bnd tools lo hi 0 off m
    refine Ev.step (fun k => by rw [saronref03_Need.l0, if_pos (by omega), if_pos (by omega), if_pos (by rw [rowsTo_len]; omega), rowsTo_rd _ _ _ _ _ _ (by omega) (by omega), row_at_f _ _ _ _ _ _ (by omega) (by omega), Option.bind_some, w64 (x := (m : Int) + 1) (by omega) (by omega), show ((m : Int) + 1) = ((m + 1 : Nat) : Int) by omega]) ?_
    unfold needFrom
    by_cases c : (strk tools lo hi 0 off m).2 = 1000
    · refine evc (fun k => by rw [if_neg (by omega)]) ?_
      rw [if_pos c]
      exact rNeed_l0 off hb hb' d (m + 1) (by omega)
    · refine ev_some fun k => ?_
      rw [if_pos (by omega), if_neg c]
theorem rNeed_f (hs0 : tools.length ≤ 9223372036854775807) (hs : l3.length ≤ 9223372036854775807) (off : Int) : Ev (fun k => saronref03_Need.f k tools lo hi l3 off) (needF tools lo hi l3 off) := by
  unfold needF
  refine evc (fun k => by rw [saronref03_Need.f, isState_f, Option.bind_some]) ?_
  refine ebind (rasked_f tools lo hi l3 _ hs0 hs) ?_
  by_cases h : openV tools lo hi l3 (asked off 0) = 0
  · obtain ⟨hbk, hin⟩ := openV_zero h
    unfold asked at hin
    simp only [Bool.and_eq_true, isIn_iff] at hin
    refine evc (fun k => by rw [if_pos h]) ?_
    rw [if_neg (by simpa using h)]
    refine ebind (rows_f tools lo hi l3 (sound_of hbk) (len4 hbk) true) ?_
    exact rNeed_l0 tools lo hi off hin.1.1 hin.1.2 31 0 (by omega)
  · refine ev_some fun k => ?_
    rw [if_neg h, if_pos h]
end
end Go.Proofs.YtfmpbkolpjlfbaaDoor.Q
