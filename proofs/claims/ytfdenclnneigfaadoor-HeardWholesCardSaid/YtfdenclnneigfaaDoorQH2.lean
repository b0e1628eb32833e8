import Derived.Test.YtfdenclnneigfaaDoorQH1
set_option linter.unusedVariables false
set_option linter.unusedSimpArgs false
namespace Go.Proofs.YtfdenclnneigfaaDoor
open Go.RowKit PRaspKeys R Q Go.Proofs.YtfdenclnneigfaaDoorW.PrintWords Go.Proofs.YtfdenclnneigfaaDoorW.PrintLast

/-! ### What Known tells -/
theorem great_ev (a b : Int) : Ev (fun k => heard_greatest_int.f k a [b]) (max a b) :=
  ⟨2, fun k hk => by
    obtain ⟨j, rfl⟩ : ∃ j, k = j + 2 := ⟨k - 2, by omega⟩
    simp [heard_greatest_int.f, heard_greatest_int.l0, wrap64, rd, mx]
    omega⟩
theorem least_ev (a b : Int) (ha : -1000000 ≤ a) (ha' : a ≤ 1000000) (hb : -1000000 ≤ b) (hb' : b ≤ 1000000) : Ev (fun k => heard_least_int.f k a [b]) (min a b) :=
  ⟨2, fun k hk => by
    obtain ⟨j, rfl⟩ : ∃ j, k = j + 2 := ⟨k - 2, by omega⟩
    simp [heard_least_int.f, heard_turned_int.f, heard_turned_int.l0, heard_greatest_int.f, heard_greatest_int.l0, wrap64, rd, mx]
    omega⟩
/-- What the longer one of two pieces loses. -/
def loP (ps : List S62) (i j : Nat) : Int := max ((rd_T62 ps (i : Int)).f1.length : Int) ((rd_T62 ps (j : Int)).f1.length : Int) - H.lcs (rd_T62 ps (i : Int)).f1 (rd_T62 ps (j : Int)).f1
theorem loP_comm (ps : List S62) (i j : Nat) : loP ps i j = loP ps j i := by
  unfold loP
  rw [H.lcs_comm (rd_T62 ps (i : Int)).f1, Int.max_comm]
section
variable {g : Int} {l : List S114} {ps : List S62}
theorem loP_bnd (hk : hbookOk g l ps = true) {i j : Nat} (hi : i < ps.length) (hj : j < ps.length) : 0 ≤ loP ps i j ∧ loP ps i j ≤ 24 := by
  have pi := piece_f (piece_at hk (n := (i : Int)) (by omega) (by omega))
  have pj := piece_f (piece_at hk (n := (j : Int)) (by omega) (by omega))
  have := H.lcs_bnd (rd_T62 ps (i : Int)).f1 (rd_T62 ps (j : Int)).f1
  unfold loP
  omega
/-- The least of all pairs that were looked at: those of V. -/
structure Lst (ps : List S62) (V : Nat → Nat → Prop) (b : Int) : Prop where
  le : ∀ i j, V i j → b ≤ loP ps i j
  at_ : b = 1000 ∨ ∃ i j, V i j ∧ b = loP ps i j
theorem rd_take (ps : List S62) (i j : Nat) (hj : j < i) : rd_T62 (ps.take i) (j : Int) = rd_T62 ps (j : Int) := by
  unfold rd_T62
  rw [Int.toNat_natCast, List.getD_eq_getElem?_getD, List.getD_eq_getElem?_getD, List.getElem?_take_of_lt hj]
theorem known_l1 (hk : hbookOk g l ps = true) (i : Nat) (hi : i < ps.length) :
    ∀ (d j : Nat) (b : Int), j + d = i → Lst ps (fun a c => c < a ∧ (a < i ∨ a = i ∧ c < j)) b → b ≤ 1000 → 0 ≤ b →
    ∃ b', Lst ps (fun a c => c < a ∧ a < i + 1) b' ∧ b' ≤ 1000 ∧ 0 ≤ b' ∧ ∀ R, Ev (fun k => heard_Known.l0 k b' ps (ps.length : Int) ((i + 1 : Nat) : Int) g l ps) R →
      Ev (fun k => heard_Known.l1 k b ps (ps.length : Int) (i : Int) (ps.take i) ((ps.take i).length : Int) (j : Int) g l ps (rd_T62 ps (i : Int)).f0 (rd_T62 ps (i : Int)).f1) R
  | 0, j, b, hd, hL, hb, hb0 => by
    have htl : (ps.take i).length = i := by rw [List.length_take]; omega
    have h6 := (hbookOk_iff.1 hk).2.1
    refine ⟨b, ⟨fun a c h => hL.le a c ⟨h.1, by omega⟩, hL.at_.imp id (fun ⟨a, c, h, e⟩ => ⟨a, c, ⟨h.1, by omega⟩, e⟩)⟩, hb, hb0, fun R hR => ?_⟩
    exact Ev.step (fun k => by rw [heard_Known.l1, if_neg (by omega), w64 (x := (i : Int) + 1) (by omega) (by omega), show ((i : Int) + 1) = ((i + 1 : Nat) : Int) by omega]) hR
  | d + 1, j, b, hd, hL, hb, hb0 => by
    have htl : (ps.take i).length = i := by rw [List.length_take]; omega
    have h6 := (hbookOk_iff.1 hk).2.1
    have pi := piece_f (piece_at hk (n := (i : Int)) (by omega) (by omega))
    have pj := piece_f (piece_at hk (n := (j : Int)) (by omega) (by omega))
    have hlo := loP_bnd hk hi (show j < ps.length by omega)
    obtain ⟨b', h1, h2, h3, h4⟩ := known_l1 hk i hi d (j + 1) (min b (loP ps i j)) (by omega) ⟨fun a c h => by
        by_cases e : a = i ∧ c = j
        · rw [e.1, e.2]; omega
        · have := hL.le a c ⟨h.1, by omega⟩
          omega, by
        by_cases c : b ≤ loP ps i j
        · rw [Int.min_eq_left c]
          exact hL.at_.imp id (fun ⟨a, c, h, e⟩ => ⟨a, c, ⟨h.1, by omega⟩, e⟩)
        · rw [Int.min_eq_right (by omega)]
          exact .inr ⟨i, j, ⟨by omega, by omega⟩, rfl⟩⟩ (by omega) (by omega)
    refine ⟨b', h1, h2, h3, fun R hR => ?_⟩
    refine Ev.step (fun k => by rw [heard_Known.l1, if_pos (by omega), if_pos (by omega), if_pos (by omega), rd_take ps i j (by omega)]) ?_
    refine ebind (great_ev _ _) ?_
    refine evc (fun k => by rw [heard_common.f, if_pos (by omega), Option.bind_some, show max ((rd_T62 ps (i : Int)).f1.length : Int) ((rd_T62 ps (j : Int)).f1.length : Int) - H.lcs (rd_T62 ps (i : Int)).f1 (rd_T62 ps (j : Int)).f1 = loP ps i j from rfl, w64 (x := loP ps i j) (by omega) (by omega)]) ?_
    refine ebind (least_ev b (loP ps i j) (by omega) (by omega) (by omega) (by omega)) ?_
    refine evc (fun k => by rw [w64 (x := (j : Int) + 1) (by omega) (by omega), show ((j : Int) + 1) = ((j + 1 : Nat) : Int) by omega]) ?_
    exact h4 R hR
theorem known_l0 (hk : hbookOk g l ps = true) : ∀ (d i : Nat) (b : Int), i + d = ps.length → Lst ps (fun a c => c < a ∧ a < i) b → b ≤ 1000 → 0 ≤ b →
    ∃ M, Lst ps (fun a c => c < a ∧ a < ps.length) M ∧ 0 ≤ M ∧ M ≤ 1000 ∧ Ev (fun k => heard_Known.l0 k b ps (ps.length : Int) (i : Int) g l ps) (if M = 0 then (0, 4) else (M - 1, 0))
  | 0, i, b, hd, hL, hb, hb0 => by
    obtain rfl : i = ps.length := by omega
    refine ⟨b, hL, hb0, hb, ?_⟩
    refine Ev.step (fun k => by rw [heard_Known.l0, if_neg (by omega)]) ?_
    by_cases c : b = 0
    · rw [if_pos c]
      exact evc (fun k => by rw [if_pos c]) (Ev.now _)
    · rw [if_neg c]
      exact evc (fun k => by rw [if_neg c, w64 (x := b - 1) (by omega) (by omega)]) (Ev.now _)
  | d + 1, i, b, hd, hL, hb, hb0 => by
    have h6 := (hbookOk_iff.1 hk).2.1
    obtain ⟨b', h1, h2, h3, h4⟩ := known_l1 hk i (by omega) i 0 b (by omega) ⟨fun a c h => hL.le a c ⟨h.1, by omega⟩, hL.at_.imp id (fun ⟨a, c, h, e⟩ => ⟨a, c, ⟨h.1, by omega⟩, e⟩)⟩ hb hb0
    obtain ⟨M, m1, m2, m3, m4⟩ := known_l0 hk d (i + 1) b' (by omega) h1 h2 h3
    refine ⟨M, m1, m2, m3, ?_⟩
    refine Ev.step (fun k => by rw [heard_Known.l0, if_pos (by omega), if_pos (by omega), if_pos (by omega), if_pos (by omega), Option.bind_some, Int.toNat_natCast]) ?_
    exact h4 _ m4
/-- How many strokes can be lost. -/
theorem known_f (hk : hbookOk g l ps = true) : (ps.length = 1 ∧ Ev (fun k => heard_Known.f k g l ps) (((rd_T62 ps 0).f1.length : Int), 0)) ∨
    (2 ≤ ps.length ∧ ∃ M, (∀ i j : Nat, j < i → i < ps.length → M ≤ loP ps i j) ∧ (∃ i j : Nat, j < i ∧ i < ps.length ∧ M = loP ps i j) ∧ 0 ≤ M ∧ M ≤ 24 ∧ Ev (fun k => heard_Known.f k g l ps) (if M = 0 then (0, 4) else (M - 1, 0))) := by
  have h6 := (hbookOk_iff.1 hk).2.1
  by_cases h1 : ps.length = 1
  · refine .inl ⟨h1, ?_⟩
    refine evc (fun k => by rw [heard_Known.f, heard_Check.f, Option.bind_some, show hcheckE g l ps = 0 by unfold hcheckE; rw [if_pos hk], if_pos rfl, if_pos (by omega), if_pos (by omega)]) ?_
    exact Ev.now _
  · obtain ⟨M, m1, m2, m3, m4⟩ := known_l0 hk ps.length 0 1000 (by omega) ⟨fun a c h => by omega, .inl rfl⟩ (by omega) (by omega)
    have hat : ∃ i j : Nat, j < i ∧ i < ps.length ∧ M = loP ps i j := by
      rcases m1.at_ with h | ⟨i, j, h, e⟩
      · have := m1.le 1 0 ⟨by omega, by omega⟩
        have := loP_bnd hk (i := 1) (j := 0) (by omega) (by omega)
        omega
      · exact ⟨i, j, h.1, h.2, e⟩
    have hM : M ≤ 24 := by
      obtain ⟨i, j, h1, h2, e⟩ := hat
      have := loP_bnd hk (i := i) (j := j) (by omega) (by omega)
      omega
    refine .inr ⟨by omega, M, fun i j h h' => m1.le i j ⟨h, h'⟩, hat, m2, hM, ?_⟩
    refine evc (fun k => by rw [heard_Known.f, heard_Check.f, Option.bind_some, show hcheckE g l ps = 0 by unfold hcheckE; rw [if_pos hk], if_pos rfl, if_neg (by omega)]) ?_
    exact m4
end
end Go.Proofs.YtfdenclnneigfaaDoor
