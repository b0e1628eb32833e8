import Derived.Test.YtfdenclnneigfaaDoorQH0
set_option linter.unusedVariables false
set_option linter.unusedSimpArgs false
namespace Go.Proofs.YtfdenclnneigfaaDoor.Q
open Go.RowKit Go.Proofs.YtfdenclnneigfaaDoorW.PrintWords Go.Proofs.YtfdenclnneigfaaDoorW.PrintLast Go.Proofs.YtfdenclnneigfaaDoor.PRaspKeys Go.Proofs.YtfdenclnneigfaaDoor.R

/-! ### Readings of a note in a piece -/
theorem rd_le_last {c : Nat → Nat → Int} (hc : ∀ k s, 0 ≤ c k s) {k s d e : Nat} {x : Int} (h : H.Rd c k s d e x) : c (k + d) e ≤ x := by
  induction h with
  | one _ => exact Int.le_refl _
  | @cons k s j d e y a b h ih =>
    have := hc k s
    rw [show k + (d + 1) = k + 1 + d by omega]
    omega
theorem rd_first {c : Nat → Nat → Int} (hc : ∀ k s, 0 ≤ c k s) {k s d e : Nat} {x : Int} (h : H.Rd c k s d e x) : c k s ≤ x ∧ c k s < 1000 := by
  cases h with
  | one a => exact ⟨Int.le_refl _, a⟩
  | @cons _ _ j d _ y a b h =>
    have := h.nn hc
    exact ⟨by omega, a⟩
/-- A reading of all notes with at most so many strokes lost, from stroke f to stroke e. -/
def Lsn (x : HC) (c : Nat → Nat → Int) (lost : Int) (f e : Nat) : Prop :=
  f < x.p.length ∧ e < x.p.length ∧ (e : Int) ≤ (f : Int) + x.t.length - 1 + lost ∧ ∃ y, H.Rd c 0 f (x.t.length - 1) e y ∧ y ≤ x.wrong
theorem begB_iff {x : HC} {may : Nat → Nat → Bool} {lost : Int} {f : Nat} (ht : 1 ≤ x.t.length) (hf : f < x.p.length) (hl : 0 ≤ lost) (hw : x.wrong < 1000) : x.begB may lost f = true ↔ ∃ e, Lsn x (x.costM may) lost f e := by
  unfold HC.begB HC.rd
  rw [decide_eq_true_iff, H.rd_le (fun k s => (x.costM_bnd may k s).1) hw _ _ _ _ (Int.le_refl _)]
  constructor
  · rintro ⟨e, y, h, hy, hd⟩
    have hle := h.le
    by_cases h0 : x.t.length - 1 = 0
    · have : e = f := by
        rw [h0] at h
        cases h
        rfl
      subst this
      exact ⟨e, hf, hf, by omega, y, h, hy⟩
    · exact ⟨e, hf, by omega, by omega, y, h, hy⟩
  · rintro ⟨e, _, he, hel, y, h, hy⟩
    exact ⟨e, y, h, hy, .inr (by omega)⟩
theorem costM_any (x : HC) : x.costM (fun _ _ => true) = x.cost := by
  funext k s
  unfold HC.costM
  rw [if_pos rfl]
theorem costM_at (x : HC) (q r : Nat) : x.costM (mayAt (q : Int) r) = H.cAt x.cost q r := by
  funext k s
  unfold HC.costM mayAt H.cAt
  by_cases h1 : k = q
  · by_cases h2 : s = r
    · rw [if_pos (by simp [h2]), if_neg (by simp [h2])]
    · rw [if_neg (by simp [h1]; omega), if_pos ⟨h1, h2⟩]
  · rw [if_pos (by simp; omega), if_neg (fun h => h1 h.1)]
theorem fitsB_iff {x : HC} {lost : Int} (ht : 1 ≤ x.t.length) (hl : 0 ≤ lost) (hw : x.wrong < 1000) : x.fitsB lost = true ↔ ∃ f e, Lsn x x.cost lost f e := by
  unfold HC.fitsB
  rw [any_range]
  constructor
  · rintro ⟨f, hf, h⟩
    obtain ⟨e, h⟩ := (begB_iff ht hf hl hw).1 h
    rw [costM_any] at h
    exact ⟨f, e, h⟩
  · rintro ⟨f, e, h⟩
    exact ⟨f, h.1, (begB_iff ht h.1 hl hw).2 ⟨e, by rw [costM_any]; exact h⟩⟩
/-- A stroke that a note can be. -/
def CanBe (x : HC) (q j : Nat) : Prop := ∃ f e, Lsn x (H.cAt x.cost q j) x.lost f e
theorem metH_end (bg : Nat → Nat → Bool) (pl j : Nat) : metH bg pl pl 0 j = (decide (j < pl) && (List.range pl).any (bg j)) := by
  unfold metH
  by_cases h : j = pl
  · rw [if_pos h, decide_eq_false (by omega), Bool.false_and]
    rfl
  · rw [if_neg h]
theorem str_has {x : HC} {q j : Nat} (ht : 1 ≤ x.t.length) (hp : x.p.length ≤ 24) (hl : 0 ≤ x.lost) (hw : x.wrong < 1000) : (strL x (q : Int)).contains (j : Int) = true ↔ j < x.p.length ∧ CanBe x q j := by
  unfold strL CanBe
  rw [lst_has, metH_end, Bool.and_eq_true, Bool.and_eq_true, decide_eq_true_iff, decide_eq_true_iff, any_range]
  constructor
  · rintro ⟨_, hj, f, hf, h⟩
    obtain ⟨e, h⟩ := (begB_iff ht hf hl hw).1 h
    rw [costM_at] at h
    exact ⟨hj, f, e, h⟩
  · rintro ⟨hj, f, e, h⟩
    exact ⟨by omega, hj, f, h.1, (begB_iff ht h.1 hl hw).2 ⟨e, by rw [costM_at]; exact h⟩⟩
theorem str_in {x : HC} {q : Nat} (ht : 1 ≤ x.t.length) (hp : x.p.length ≤ 24) (hl : 0 ≤ x.lost) (hw : x.wrong < 1000) {v : Int} (h : v ∈ strL x (q : Int)) : ∃ j : Nat, v = j ∧ j < x.p.length ∧ CanBe x q j := by
  have hv : 0 ≤ v := (lst_in _ _ v h).1
  obtain ⟨j, rfl⟩ := Int.eq_ofNat_of_zero_le hv
  exact ⟨j, rfl, (str_has ht hp hl hw).1 (List.contains_iff_mem.2 h)⟩
theorem lsn_cost {x : HC} {q j f e : Nat} {lost : Int} (h : Lsn x (H.cAt x.cost q j) lost f e) : Lsn x x.cost lost f e := by
  obtain ⟨h1, h2, h3, y, h4, h5⟩ := h
  exact ⟨h1, h2, h3, y, h4.of_at, h5⟩
/-- What a stroke that a note can be tells. -/
theorem canBe_f {x : HC} {q j : Nat} (hq : q < x.t.length) (h : CanBe x q j) : ∃ f e, Lsn x x.cost x.lost f e ∧ f + q ≤ j ∧ j + (x.t.length - 1 - q) ≤ e ∧ x.cost q j < 1000 ∧ x.cost q j ≤ x.wrong := by
  obtain ⟨f, e, h⟩ := h
  refine ⟨f, e, lsn_cost h, ?_⟩
  obtain ⟨h1, h2, h3, y, h4, h5⟩ := h
  rw [show x.t.length - 1 = q + (x.t.length - 1 - q) by omega] at h4
  obtain ⟨a, b, k1, k2, k3⟩ := H.rd_at.1 h4
  have hc := fun k s => (x.cost_bnd k s).1
  have l1 := k1.le
  have l2 := k2.le
  have m1 := rd_le_last hc k1
  rw [Nat.zero_add] at m1
  have m2 := rd_first hc k2
  exact ⟨by omega, by omega, m2.2, by omega⟩
/-- Each reading has a stroke of each note. -/
theorem lsn_at {x : HC} {q f e : Nat} (hq : q < x.t.length) (h : Lsn x x.cost x.lost f e) : ∃ j, j < x.p.length ∧ CanBe x q j := by
  obtain ⟨h1, h2, h3, y, h4, h5⟩ := h
  rw [show x.t.length - 1 = q + (x.t.length - 1 - q) by omega] at h4
  obtain ⟨j, a, b, k1, k2, k3⟩ := h4.split
  rw [Nat.zero_add] at k2 k3
  have l2 := k2.le
  exact ⟨j, by omega, f, e, h1, h2, h3, y, by rw [show x.t.length - 1 = q + (x.t.length - 1 - q) by omega]; exact H.rd_at.2 ⟨a, b, k1, k2, k3⟩, h5⟩
theorem lsn_first {x : HC} {f e : Nat} (h : Lsn x x.cost x.lost f e) : CanBe x 0 f := by
  obtain ⟨h1, h2, h3, y, h4, h5⟩ := h
  refine ⟨f, e, h1, h2, h3, y, h4.at_first, h5⟩
/-! ### A row told by a test goes up -/
theorem lst_pw (h : Nat → Bool) : ∀ n, (lst h n).Pairwise (· < ·)
  | 0 => List.Pairwise.nil
  | n + 1 => by
    unfold lst
    split
    · rw [List.pairwise_append]
      exact ⟨lst_pw h n, List.pairwise_singleton _ _, fun a ha b hb => by rw [List.mem_singleton] at hb; have := (lst_in h n a ha).2.1; omega⟩
    · exact lst_pw h n
theorem pw_bnd {l : List Int} (h : l.Pairwise (· < ·)) {v : Int} (hv : v ∈ l) : rd l 0 ≤ v ∧ v ≤ rd l ((l.length - 1 : Nat) : Int) := by
  obtain ⟨i, hi, rfl⟩ := List.mem_iff_getElem.1 hv
  rw [List.pairwise_iff_getElem] at h
  have h0 := rd_nat l 0
  have h1 := rd_nat l (l.length - 1)
  rw [show ((0 : Nat) : Int) = 0 from rfl] at h0
  rw [h0, h1, show l.getD 0 0 = l[0] by simp [show 0 < l.length by omega], show l.getD (l.length - 1) 0 = l[l.length - 1] by simp [show l.length - 1 < l.length by omega]]
  constructor
  · by_cases c : i = 0
    · subst c; exact Int.le_refl _
    · exact Int.le_of_lt (h 0 i (by omega) hi (by omega))
  · by_cases c : i = l.length - 1
    · subst c; exact Int.le_refl _
    · exact Int.le_of_lt (h i (l.length - 1) hi (by omega) (by omega))
theorem str_bnd (x : HC) (w : Int) {v : Int} (hv : v ∈ strL x w) : rd (strL x w) 0 ≤ v ∧ v ≤ rd (strL x w) (((strL x w).length - 1 : Nat) : Int) := pw_bnd (lst_pw _ _) hv
theorem str_gr {x : HC} {q : Int} : gr (x.p.length : Int) (-1) (strL x q) = true := by
  unfold strL
  refine gr_lst _ _ (fun i hi => ?_) 24
  rw [metH_end, Bool.and_eq_true, decide_eq_true_iff] at hi
  omega
/-- What a stroke costs. -/
theorem cost_f {x : HC} {q j : Nat} (h : x.cost q j < 1000) : (x.t.getD q 0 - x.p.getD j 0 = x.cost q j ∨ x.t.getD q 0 - x.p.getD j 0 = - x.cost q j) ∧ 0 ≤ x.cost q j ∧ x.cost q j ≤ 1 ∧ (x.gs.contains (q : Int) = true → x.gong (j : Int) = true) := by
  unfold HC.cost at h ⊢
  by_cases c1 : (x.gs.contains (q : Int) && !x.gong (j : Int)) = true
  · rw [if_pos c1] at h
    omega
  · rw [if_neg c1] at h ⊢
    have hg : x.gs.contains (q : Int) = true → x.gong (j : Int) = true := by
      intro hc
      cases hgj : x.gong (j : Int)
      · exact absurd (by rw [hc, hgj]; rfl) c1
      · rfl
    by_cases c2 : x.t.getD q 0 = x.p.getD j 0
    · rw [if_pos c2]
      exact ⟨.inl (by omega), by omega, by omega, hg⟩
    · rw [if_neg c2] at h ⊢
      by_cases c3 : x.t.getD q 0 - x.p.getD j 0 = 1 ∨ x.t.getD q 0 - x.p.getD j 0 = -1
      · rw [if_pos c3]
        exact ⟨by omega, by omega, by omega, hg⟩
      · rw [if_neg c3] at h
        omega
end Go.Proofs.YtfdenclnneigfaaDoor.Q
