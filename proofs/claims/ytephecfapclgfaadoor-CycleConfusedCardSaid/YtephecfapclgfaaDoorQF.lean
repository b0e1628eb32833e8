import Derived.Test.YtephecfapclgfaaDoorQE
set_option linter.unusedVariables false
set_option linter.unusedSimpArgs false
namespace Go.Proofs.YtephecfapclgfaaDoor.Q
open Go.RowKit Go.Proofs.YtephecfapclgfaaDoorW.PrintWords Go.Proofs.YtephecfapclgfaaDoorW.PrintLast Go.Proofs.YtephecfapclgfaaDoor.PRaspKeys Go.Proofs.YtephecfapclgfaaDoor.R

/-! ### Spots that can be confused -/
theorem mem_pairs {ss : List S38} {s t : S38} : (s, t) ∈ pairsL ss ↔ s ∈ ss ∧ t ∈ ss ∧ befB s t = true := by
  unfold pairsL
  rw [List.mem_flatMap]
  constructor
  · rintro ⟨a, ha, h⟩
    unfold pairsS at h
    obtain ⟨b, hb, e⟩ := List.mem_map.1 h
    obtain ⟨hb1, hb2⟩ := List.mem_filter.1 hb
    injection e with e1 e2
    subst e1 e2
    exact ⟨ha, hb1, hb2⟩
  · rintro ⟨h1, h2, h3⟩
    exact ⟨s, h1, List.mem_map.2 ⟨t, List.mem_filter.2 ⟨h2, h3⟩, rfl⟩⟩
theorem sure_max (l : List S63) (lost : Int) : ∀ (ps : List (S38 × S38)) (acc : Int), acc ≤ ps.foldl (sureS l lost) acc ∧ (∀ st ∈ ps, untilF l st.1.f0 st.1.f1 st.2.f0 st.2.f1 lost ≤ ps.foldl (sureS l lost) acc) ∧
    (ps.foldl (sureS l lost) acc = acc ∨ ∃ st ∈ ps, ps.foldl (sureS l lost) acc = untilF l st.1.f0 st.1.f1 st.2.f0 st.2.f1 lost)
  | [], acc => ⟨Int.le_refl _, fun st h => (by cases h), .inl rfl⟩
  | p :: ps, acc => by
    rw [List.foldl_cons]
    obtain ⟨i1, i2, i3⟩ := sure_max l lost ps (sureS l lost acc p)
    have h1 : acc ≤ sureS l lost acc p ∧ untilF l p.1.f0 p.1.f1 p.2.f0 p.2.f1 lost ≤ sureS l lost acc p ∧ (sureS l lost acc p = acc ∨ sureS l lost acc p = untilF l p.1.f0 p.1.f1 p.2.f0 p.2.f1 lost) := by
      unfold sureS mx
      split
      · exact ⟨by omega, by omega, .inr rfl⟩
      · exact ⟨by omega, by omega, .inl rfl⟩
    refine ⟨by omega, fun st hst => ?_, ?_⟩
    · rcases List.mem_cons.1 hst with rfl | hst
      · omega
      · exact i2 st hst
    · rcases i3 with e | ⟨st, hst, e⟩
      · rcases h1.2.2 with e' | e'
        · exact .inl (by omega)
        · exact .inr ⟨p, List.mem_cons_self, by omega⟩
      · exact .inr ⟨st, List.mem_cons_of_mem _ hst, e⟩
section
variable {g : Int} {l : List S63}
theorem confF_ok (hb : bookOk g l = true) {lost many : Int} (h0 : 0 ≤ lost) (h6 : lost ≤ 6) (h1 : 1 ≤ many) (h64 : many ≤ 64) :
    confF g l lost many = (match (pairsL (spotsN l l.length)).find? (confP l lost many) with | some st => (st, 0) | none => ((⟨0, 0⟩, ⟨0, 0⟩), 4)) := by
  unfold confF okConfused
  rw [isIn_iff.2 (by omega), isIn_iff.2 (by omega), Bool.and_self, openE_yes hb, if_pos rfl]
  cases (pairsL (spotsN l l.length)).find? (confP l lost many) <;> rfl
/-- None can be confused, or the first two that can. -/
theorem conf_cases (hb : bookOk g l = true) {lost many : Int} (h0 : 0 ≤ lost) (h6 : lost ≤ 6) (h1 : 1 ≤ many) (h64 : many ≤ 64) :
    (confF g l lost many = ((⟨0, 0⟩, ⟨0, 0⟩), 4) ∧ ∀ s ∈ spotsN l l.length, ∀ t ∈ spotsN l l.length, befB s t = true → untilF l s.f0 s.f1 t.f0 t.f1 lost < many) ∨
    (∃ s ∈ spotsN l l.length, ∃ t ∈ spotsN l l.length, confF g l lost many = ((s, t), 0) ∧ befB s t = true ∧ many ≤ untilF l s.f0 s.f1 t.f0 t.f1 lost) := by
  rw [confF_ok hb h0 h6 h1 h64]
  cases hf : (pairsL (spotsN l l.length)).find? (confP l lost many) with
  | none =>
    left
    refine ⟨rfl, fun s hs t ht hbf => ?_⟩
    have := List.find?_eq_none.1 hf (s, t) (mem_pairs.2 ⟨hs, ht, hbf⟩)
    unfold confP at this
    rw [decide_eq_true_eq] at this
    simp only at this
    omega
  | some st =>
    right
    have hm := List.mem_of_find?_eq_some hf
    have hp := List.find?_some hf
    obtain ⟨s, t⟩ := st
    obtain ⟨a1, a2, a3⟩ := mem_pairs.1 hm
    unfold confP at hp
    rw [decide_eq_true_eq] at hp
    exact ⟨s, a1, t, a2, rfl, a3, hp⟩
theorem sureM_spec (l : List S63) (lost : Int) : 0 ≤ sureM l lost ∧ sureM l lost ≤ 64 ∧ (∀ s ∈ spotsN l l.length, ∀ t ∈ spotsN l l.length, befB s t = true → untilF l s.f0 s.f1 t.f0 t.f1 lost ≤ sureM l lost) ∧
    (1 ≤ sureM l lost → ∃ s ∈ spotsN l l.length, ∃ t ∈ spotsN l l.length, befB s t = true ∧ sureM l lost = untilF l s.f0 s.f1 t.f0 t.f1 lost) := by
  have hbd := sureS_bnd l lost (pairsL (spotsN l l.length)) 0 (by omega)
  obtain ⟨i1, i2, i3⟩ := sure_max l lost (pairsL (spotsN l l.length)) 0
  refine ⟨hbd.1, hbd.2, fun s hs t ht hbf => i2 (s, t) (mem_pairs.2 ⟨hs, ht, hbf⟩), fun h => ?_⟩
  rcases i3 with e | ⟨⟨s, t⟩, hst, e⟩
  · unfold sureM at h; omega
  · obtain ⟨a1, a2, a3⟩ := mem_pairs.1 hst
    exact ⟨s, a1, t, a2, a3, e⟩
theorem sureF_ok (hb : bookOk g l = true) {lost : Int} (h0 : 0 ≤ lost) (h6 : lost ≤ 6) : sureF g l lost = if sureM l lost = 64 then (0, 4) else (sureM l lost + 1, 0) := by
  unfold sureF okSure
  rw [isIn_iff.2 (by omega), openE_yes hb, if_pos rfl]
theorem lst_mono {h h' : Nat → Bool} (hh : ∀ i, i < 5 → h i = true → h' i = true) : ∀ n, n ≤ 5 → (lst h n).length ≤ (lst h' n).length
  | 0, _ => Nat.le_refl _
  | n + 1, hn => by
    have ih := lst_mono hh n (by omega)
    have e : ∀ h, lst h (n + 1) = if h n = true then lst h n ++ [(n : Int)] else lst h n := fun _ => rfl
    rw [e, e]
    by_cases c : h n = true
    · rw [if_pos c, if_pos (hh n (by omega) c), List.length_append, List.length_append]
      simp; omega
    · rw [if_neg c]
      split
      · rw [List.length_append]; omega
      · exact ih
/-- What one spot strikes alone was lost there, if what was heard fits the other one. -/
theorem lone_le (l : List S63) (s t : S38) (p : List (List Int)) (hin : ∀ k, ∀ x ∈ p.getD k [], 0 ≤ x ∧ x < 5) : ∀ k, fitN l t.f0 t.f1 p k = true → lone l s t k ≤ ((lostN l s.f0 s.f1 p k).length : Int)
  | 0, _ => by simp [lone, sumA, lostN]
  | k + 1, hf => by
    unfold fitN at hf
    rw [Bool.and_eq_true] at hf
    have ih := lone_le l s t p hin k hf.1
    have hf2 := hf.2
    unfold fitK pRow at hf2
    rw [List.all_eq_true] at hf2
    have hm : aloneF l s.f0 s.f1 t.f0 t.f1 (k : Int) ≤ ((lst (missH (passH l s.f0 s.f1 k) (p.getD k [])) 5).length : Int) := by
      have := lst_mono (h := fun i => passH l s.f0 s.f1 k i && !passH l t.f0 t.f1 k i) (h' := missH (passH l s.f0 s.f1 k) (p.getD k [])) (fun i hi h => by
        rw [Bool.and_eq_true] at h
        unfold missH
        rw [h.1, Bool.true_and, Bool.not_eq_true', ← Bool.not_eq_true]
        intro hc
        have hx : (i : Int) ∈ p.getD k [] := by simpa using hc
        have := hf2 _ hx
        rw [Int.toNat_natCast] at this
        rw [this] at h
        simp at h) 5 (Nat.le_refl _)
      show ((lst (fun i => passH l s.f0 s.f1 k i && !passH l t.f0 t.f1 k i) 5).length : Int) ≤ _
      omega
    show lone l s t k + aloneF l s.f0 s.f1 t.f0 t.f1 (k : Int) ≤ ((lostN l s.f0 s.f1 p k ++ lostK l s.f0 s.f1 p k).length : Int)
    rw [List.length_append]
    unfold lostK pRow
    rw [List.length_map]
    omega
theorem bef_or {s t : S38} (h : s ≠ t) : befB s t = true ∨ befB t s = true := by
  rw [befB_iff, befB_iff]
  by_cases c : s.f0 = t.f0
  · have : ¬ s.f1 = t.f1 := fun e => h (by cases s; cases t; simp_all)
    omega
  · omega
theorem bef_ne {s t : S38} (h : befB s t = true) : s ≠ t := by
  rintro rfl
  rw [befB_iff] at h
  omega
/-- If none can be confused in so many beats, what was heard from a spot fits this one alone. -/
theorem one_spot (hb : bookOk g l = true) {lost : Int} (many : Nat) (h1 : 1 ≤ many) (h64 : many ≤ 64) (hno : ∀ s ∈ spotsN l l.length, ∀ t ∈ spotsN l l.length, befB s t = true → untilF l s.f0 s.f1 t.f0 t.f1 lost < many)
    {heard : List (List Int)} (hh : heardB g heard = true) (hlen : heard.length = many) {s : S38} (hs : s ∈ spotsN l l.length) (hf : fitN l s.f0 s.f1 heard heard.length = true) (hl : ((lostN l s.f0 s.f1 heard heard.length).length : Int) ≤ lost) :
    (spotsN l l.length).filter (fitsP l heard lost) = [s] := by
  have hg := gong_of hb
  have hin : ∀ k, ∀ x ∈ heard.getD k [], 0 ≤ x ∧ x < 5 := fun k x hx => by have := (heard_rows hb hh).2.2.2 k x hx; omega
  have hsf : s ∈ (spotsN l l.length).filter (fitsP l heard lost) := List.mem_filter.2 ⟨hs, fitsP_iff.2 ⟨hf, hl⟩⟩
  have hall : ∀ t ∈ (spotsN l l.length).filter (fitsP l heard lost), t = s := fun t ht => by
    obtain ⟨ht1, ht2⟩ := List.mem_filter.1 ht
    obtain ⟨f1, f2⟩ := fitsP_iff.1 ht2
    apply Classical.byContradiction
    intro hne
    have a := lone_le l s t heard hin heard.length f1
    have b := lone_le l t s heard hin heard.length hf
    rw [hlen] at a b hl f2
    rcases bef_or hne with h | h
    · have := hno t ht1 s hs h
      have := (untilF_iff l t s lost many h1 h64).2 ⟨by omega, by omega⟩
      omega
    · have := hno s hs t ht1 h
      have := (untilF_iff l s t lost many h1 h64).2 ⟨by omega, by omega⟩
      omega
  have hpw := (spotsN_sorted l l.length).filter (fitsP l heard lost)
  generalize (spotsN l l.length).filter (fitsP l heard lost) = L at hsf hall hpw
  match L, hsf with
  | [a], _ => rw [hall a List.mem_cons_self]
  | a :: b :: r, _ =>
    have e1 := hall a List.mem_cons_self
    have e2 := hall b (List.mem_cons_of_mem _ List.mem_cons_self)
    have := (List.pairwise_cons.1 hpw).1 b List.mem_cons_self
    rw [e1, e2] at this
    exact absurd rfl (bef_ne this)
end
theorem draw_f (lo hi n : Int) (h1 : 1 ≤ lo) (h2 : lo ≤ hi) (h3 : hi ≤ 64) : ∃ v, saronref00_Draw.f lo hi n = some v ∧ lo ≤ v ∧ v ≤ hi := by
  unfold saronref00_Draw.f
  by_cases c : hi ≤ lo
  · rw [if_pos c]; exact ⟨lo, rfl, by omega, by omega⟩
  · have e1 := Int.emod_nonneg n (show hi - lo + 1 ≠ 0 by omega)
    have e2 := Int.emod_lt_of_pos n (show 0 < hi - lo + 1 by omega)
    rw [if_neg c, w64 (x := hi - lo) (by omega) (by omega), w64 (x := hi - lo + 1) (by omega) (by omega), if_neg (by omega), turn_f _ _ (by omega) (by omega), Option.bind_some, w64 (by omega) (by omega)]
    exact ⟨_, rfl, by omega, by omega⟩
end Go.Proofs.YtephecfapclgfaaDoor.Q
