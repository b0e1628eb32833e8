import Derived.Test.YtfmpbkolpjlfbaaDoorPS
import Derived.Test.YtfmpbkolpjlfbaaDoorCH
set_option linter.unusedVariables false
set_option linter.unusedSimpArgs false
namespace Go.Proofs.YtfmpbkolpjlfbaaDoor.Q
open Go.RowKit Go.Proofs.YtfmpbkolpjlfbaaDoorW.PrintWords Go.Proofs.YtfmpbkolpjlfbaaDoorW.PrintLast Go.Proofs.YtfmpbkolpjlfbaaDoor.PRaspKeys Go.Proofs.YtfmpbkolpjlfbaaDoor.R
/-! ### What the statements that don't use the reference share -/
theorem sound_l1 (l0 : List S57) (lo hi : Int) (l3 : List S69) (hs : l3.length ≤ 9223372036854775807) : ∀ (d n : Nat) (q : Bool), n + d = l3.length →
    Ev (fun k => saronlaw03_sound.l1 k q (n : Int) l0 lo hi l3) (q && (l3.drop n).all keyOk)
  | d, n, false, hd => by
    refine Ev.step (fun k => by rw [saronlaw03_sound.l1, if_neg (by simp)]) ?_
    refine Ev.step (fun k => by rw [saronlaw03_sound.j4, if_neg (by simp)]) ?_
    simpa using Ev.now false
  | 0, n, true, hd => by
    refine Ev.step (fun k => by rw [saronlaw03_sound.l1, if_pos rfl, show decide ((n : Int) < (l3.length : Int)) = false by simp; omega]) ?_
    refine Ev.step (fun k => by rw [saronlaw03_sound.j4, if_neg (by simp)]) ?_
    rw [List.drop_of_length_le (by omega)]
    simpa using Ev.now true
  | d + 1, n, true, hd => by
    have hn : n < l3.length := by omega
    refine Ev.step (fun k => by rw [saronlaw03_sound.l1, if_pos rfl, show decide ((n : Int) < (l3.length : Int)) = true by simp; omega]) ?_
    have hrd : rd_T69 l3 (n : Int) = l3[n] := by simp [rd_T69, hn]
    rw [List.drop_eq_getElem_cons hn, List.all_cons]
    refine Ev.step (fun k => by rw [saronlaw03_sound.j4, if_pos rfl, if_pos (by omega), if_pos (by omega), hrd, good_f, Option.bind_some, w64 (by omega) (by omega), show ((n : Int) + 1) = ((n + 1 : Nat) : Int) by omega]) ?_
    by_cases c : (decide (-60 ≤ l3[n].f0.f0) && (decide (l3[n].f0.f0 ≤ l3[n].f0.f1) && decide (l3[n].f0.f1 ≤ 60))) = true
    · refine evc (fun k => by rw [if_pos c, sits_f, Option.bind_some]) ?_
      have := sound_l1 l0 lo hi l3 hs d (n + 1) (isIn l3[n].f1 0 30) (by omega)
      unfold keyOk at this ⊢
      rw [c]
      simpa using this
    · refine evc (fun k => by rw [if_neg c]) ?_
      have := sound_l1 l0 lo hi l3 hs d (n + 1) false (by omega)
      unfold keyOk at this ⊢
      rw [Bool.not_eq_true] at c
      rw [c]
      simpa using this
theorem sound_l0 (l0 : List S57) (lo hi : Int) (l3 : List S69) (hs0 : l0.length ≤ 9223372036854775807) (hs : l3.length ≤ 9223372036854775807) : ∀ (d n : Nat) (q : Bool), n + d = l0.length →
    Ev (fun k => saronlaw03_sound.l0 k q (n : Int) l0 lo hi l3) (q && ((l0.drop n).all toolOk && l3.all keyOk))
  | d, n, false, hd => by
    refine Ev.step (fun k => by rw [saronlaw03_sound.l0, if_neg (by simp)]) ?_
    refine Ev.step (fun k => by rw [saronlaw03_sound.j2, if_neg (by simp)]) ?_
    have := sound_l1 l0 lo hi l3 hs l3.length 0 false (by omega)
    simpa using this
  | 0, n, true, hd => by
    refine Ev.step (fun k => by rw [saronlaw03_sound.l0, if_pos rfl, show decide ((n : Int) < (l0.length : Int)) = false by simp; omega]) ?_
    refine Ev.step (fun k => by rw [saronlaw03_sound.j2, if_neg (by simp)]) ?_
    rw [List.drop_of_length_le (by omega)]
    have := sound_l1 l0 lo hi l3 hs l3.length 0 true (by omega)
    simpa using this
  | d + 1, n, true, hd => by
    have hn : n < l0.length := by omega
    refine Ev.step (fun k => by rw [saronlaw03_sound.l0, if_pos rfl, show decide ((n : Int) < (l0.length : Int)) = true by simp; omega]) ?_
    have hrd : rd_T57 l0 (n : Int) = l0[n] := by simp [rd_T57, hn]
    rw [List.drop_eq_getElem_cons hn, List.all_cons]
    refine Ev.step (fun k => by rw [saronlaw03_sound.j2, if_pos rfl, if_pos (by omega), if_pos (by omega), hrd, good_f, Option.bind_some, w64 (by omega) (by omega), show ((n : Int) + 1) = ((n + 1 : Nat) : Int) by omega]) ?_
    by_cases c : (decide (-30 ≤ l0[n].f0.f0) && (decide (l0[n].f0.f0 ≤ l0[n].f0.f1) && decide (l0[n].f0.f1 ≤ 30))) = true
    · refine evc (fun k => by rw [if_pos c, sits_f, Option.bind_some]) ?_
      have := sound_l0 l0 lo hi l3 hs0 hs d (n + 1) (isIn l0[n].f1 1 10) (by omega)
      unfold toolOk at this ⊢
      rw [c]
      simpa [Bool.and_assoc] using this
    · refine evc (fun k => by rw [if_neg c]) ?_
      have := sound_l0 l0 lo hi l3 hs0 hs d (n + 1) false (by omega)
      unfold toolOk at this ⊢
      rw [Bool.not_eq_true] at c
      rw [c]
      simpa using this
theorem check_ev (l0 : List S57) (lo hi : Int) (l3 : List S69) (hs0 : l0.length ≤ 9223372036854775807) (hs : l3.length ≤ 9223372036854775807) : Ev (fun k => rasp_Check.f k l0 lo hi l3) (checkE l0 lo hi l3) :=
  ⟨l0.length + l3.length + 4, fun k hk => check_f l0 lo hi l3 (by omega) (by omega) k (by omega)⟩
theorem sound_f (l0 : List S57) (lo hi : Int) (l3 : List S69) (hs0 : l0.length ≤ 9223372036854775807) (hs : l3.length ≤ 9223372036854775807) : Ev (fun k => saronlaw03_sound.f k l0 lo hi l3) (bookOk l0 lo hi l3) := by
  have hj : ∀ q, Ev (fun k => saronlaw03_sound.j0 k q l0 lo hi l3) (q && (l0.all toolOk && l3.all keyOk)) := by
    intro q
    refine Ev.step (fun k => by rw [saronlaw03_sound.j0]) ?_
    have := sound_l0 l0 lo hi l3 hs0 hs l0.length 0 q (by omega)
    simpa using this
  refine ebind (check_ev l0 lo hi l3 hs0 hs) ?_
  unfold checkE
  by_cases hb : bookOk l0 lo hi l3 = true
  · rw [if_pos hb, hb]
    unfold bookOk at hb
    simp only [Bool.and_eq_true] at hb
    obtain ⟨⟨h1, ⟨h2, h3, h4⟩, h5⟩, h6, h7⟩ := hb
    refine evc (fun k => by rw [if_pos rfl, sits_f, Option.bind_some, if_pos h1, good_f, Option.bind_some, if_pos (by simp only [h2, h3, h4, Bool.and_self])]) ?_
    have e : decide ((l3.length : Int) ≤ 6) = true := by simp at h5 ⊢; omega
    rw [e]
    have := hj true
    rwa [h6, h7] at this
  · rw [if_neg hb]
    refine evc (fun k => by rw [if_neg (by omega)]) ?_
    rw [Bool.not_eq_true] at hb
    rw [hb]
    have := hj false
    rwa [Bool.false_and] at this
theorem turn_f (n b : Int) (hb : 1 ≤ b) (hb' : b ≤ 9223372036854775807) : saronref00_Turn.f n b = some (n % b) := by
  unfold saronref00_Turn.f
  rw [if_neg (by omega), if_neg (by omega)]
  have h1 : Int.tmod n b = if 0 ≤ n ∨ b ∣ n then n % b else n % b - b.natAbs := by rw [Int.tmod_eq_emod]; split <;> simp_all
  have hp := Int.emod_nonneg n (show b ≠ 0 by omega)
  have hl := Int.emod_lt_of_pos n (show 0 < b by omega)
  by_cases c : 0 ≤ n ∨ b ∣ n
  · rw [if_pos c] at h1
    rw [h1, if_neg (by omega)]
  · rw [if_neg c] at h1
    rw [h1, if_pos (by omega), w64 (by omega) (by omega)]
    congr 1
    omega
theorem state_f (a b : Int) : saronlaw03_state.f a b = some (a % 121 - 60, b % 31) := by
  unfold saronlaw03_state.f
  rw [turn_f _ _ (by omega) (by omega), turn_f _ _ (by omega) (by omega)]
  simp only [Option.bind_some]
  rw [w64 (by omega) (by omega)]
theorem nth_f (l : List Int) (n : Int) (hl : l.length ≤ 9223372036854775807) : ∃ v, saronref00_Nth.f l n = some v := by
  unfold saronref00_Nth.f
  by_cases c : (l.length : Int) = 0
  · exact ⟨0, by rw [if_pos c]⟩
  · have hp := Int.emod_nonneg n c
    have hlt := Int.emod_lt_of_pos n (show (0 : Int) < l.length by omega)
    refine ⟨rd l (n % l.length), ?_⟩
    rw [if_neg c, turn_f _ _ (by omega) (by omega), Option.bind_some, if_pos hp, if_pos hlt]
theorem draw_f (lo hi n : Int) (h1 : -1000 ≤ lo) (h2 : lo ≤ hi) (h3 : hi ≤ 1000) : ∃ d, saronref00_Draw.f lo hi n = some d ∧ lo ≤ d ∧ d ≤ hi := by
  unfold saronref00_Draw.f
  by_cases c : hi ≤ lo
  · exact ⟨lo, by rw [if_pos c], by omega, by omega⟩
  · have hp := Int.emod_nonneg n (show hi - lo + 1 ≠ 0 by omega)
    have hlt := Int.emod_lt_of_pos n (show (0 : Int) < hi - lo + 1 by omega)
    refine ⟨lo + n % (hi - lo + 1), ?_, by omega, by omega⟩
    rw [if_neg c, w64 (x := hi - lo) (by omega) (by omega), w64 (x := hi - lo + 1) (by omega) (by omega), if_neg (by omega), turn_f _ _ (by omega) (by omega), Option.bind_some, w64 (by omega) (by omega)]
/-! What Next and Lucky tell of a shop that is one -/
section
variable {l0 : List S57} {lo hi : Int} {l3 : List S69}
theorem asked_of {o m : Int} (ho : -60 ≤ o ∧ o ≤ 60) (h0 : 0 ≤ m) (hm : m ≤ 30) : asked o m = true := by
  unfold asked; rw [Bool.and_eq_true, isIn_iff, isIn_iff]; omega
theorem openV_ok (hb : bookOk l0 lo hi l3 = true) : openV l0 lo hi l3 true = 0 := by
  unfold openV openE checkE
  simp [hb]
theorem next_ok (hb : bookOk l0 lo hi l3 = true) {o m : Int} (ho : -60 ≤ o ∧ o ≤ 60) (h0 : 0 ≤ m) (hm : m ≤ 30) : nextF l0 lo hi l3 o m = if (strk l0 lo hi 0 o m).2 = 1000 then (0, 0, 4) else ((strk l0 lo hi 0 o m).1, (strk l0 lo hi 0 o m).2, 0) := by
  unfold nextF
  rw [asked_of ho h0 hm, openV_ok hb]
  rw [if_neg (by simp)]
theorem lucky_ok (hb : bookOk l0 lo hi l3 = true) {o m : Int} (ho : -60 ≤ o ∧ o ≤ 60) (h0 : 0 ≤ m) (hm : m ≤ 30) : luckyF l0 lo hi l3 o m = if (strk l0 lo hi 1 o m).2 = 1000 then (0, 4) else ((strk l0 lo hi 1 o m).2, 0) := by
  unfold luckyF
  rw [asked_of ho h0 hm, openV_ok hb]
  rw [if_neg (by simp)]
theorem key_ok_h (h : bookOk l0 lo hi l3 = true) (k : Nat) (hk : k < l3.length) :
    -60 ≤ (l3.getD k z69).f0.f0 ∧ (l3.getD k z69).f0.f0 ≤ (l3.getD k z69).f0.f1 ∧ (l3.getD k z69).f0.f1 ≤ 60 ∧ 0 ≤ (l3.getD k z69).f1 ∧ (l3.getD k z69).f1 ≤ 30 := by
  have hok := keys_ok h k hk
  unfold keyOk isIn at hok
  simp only [Bool.and_eq_true, decide_eq_true_eq] at hok
  omega
theorem len_ok (h : bookOk l0 lo hi l3 = true) : 1 ≤ l0.length ∧ l0.length ≤ 4 ∧ -60 ≤ lo ∧ lo ≤ hi ∧ hi ≤ 60 ∧ l3.length ≤ 6 := by
  unfold bookOk isIn at h
  simp only [Bool.and_eq_true, decide_eq_true_eq] at h
  omega
/-- A stroke of the tool that is told leads to where the key isn't spoilt, with a stroke fewer at least. -/
theorem step_ok {tools : List S57} {lo hi : Int} (hs : Sound tools) (off m : Int) (h0 : 0 ≤ m) (hm : m ≤ 30) (hin : -60 ≤ off ∧ off ≤ 60) (hf : ¬ (lo ≤ off ∧ off ≤ hi)) (hn : (strk tools lo hi 0 off m).2 ≠ 1000) :
    ∃ j : Nat, j < tools.length ∧ (strk tools lo hi 0 off m).1 = (j : Int) ∧ (tools.getD j z57).f1 ≤ m ∧ 1 ≤ (tools.getD j z57).f1 ∧ 1 ≤ (strk tools lo hi 0 off m).2 ∧ ∀ x, (tools.getD j z57).f0.f0 ≤ x → x ≤ (tools.getD j z57).f0.f1 →
      (strk tools lo hi 0 (off + x) (m - (tools.getD j z57).f1)).2 ≠ 1000 ∧ (strk tools lo hi 0 (off + x) (m - (tools.getD j z57).f1)).2 < (strk tools lo hi 0 off m).2 ∧ -60 ≤ off + x ∧ off + x ≤ 60 := by
  rcases strk_cases hs (.inl rfl) off m h0 hm hin with ⟨h, _⟩ | ⟨_, e, _⟩ | ⟨_, j, hj, e, hc, hl, hlm, _⟩
  · exact absurd h hf
  · rw [e] at hn; exact absurd rfl hn
  · refine ⟨j, hj, by rw [e], hc, (hs.cost j hj).1, by rw [e]; dsimp only; omega, fun x hx hx' => ?_⟩
    have hw := (Ld_worst hs (lo := lo) (hi := hi) (off := off) (m := m) hj).1 x hx hx'
    have hne : (strk tools lo hi 0 (off + x) (m - (tools.getD j z57).f1)).2 ≠ 1000 := by have := (hs.cost j hj); omega
    refine ⟨hne, by rw [e]; dsimp only; omega, ?_⟩
    by_cases c : -60 ≤ off + x ∧ off + x ≤ 60
    · exact c
    · rw [strk_out _ _ _ _ _ _ c] at hne; exact absurd rfl hne
end
end Go.Proofs.YtfmpbkolpjlfbaaDoor.Q
