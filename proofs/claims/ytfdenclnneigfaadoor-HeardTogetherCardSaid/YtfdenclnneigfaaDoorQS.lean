import Derived.Test.YtfdenclnneigfaaDoorQH0
import Derived.Test.YtfdenclnneigfaaDoorCG
set_option linter.unusedVariables false
set_option linter.unusedSimpArgs false
namespace Go.Proofs.YtfdenclnneigfaaDoor.Q
open Go.RowKit Go.Proofs.YtfdenclnneigfaaDoorW.PrintWords Go.Proofs.YtfdenclnneigfaaDoorW.PrintLast Go.Proofs.YtfdenclnneigfaaDoor.PRaspKeys Go.Proofs.YtfdenclnneigfaaDoor.R
/-! ### Is there a book? -/
section
variable {g : Int} {l : List S114} {ps : List S62}
theorem hbookOk_iff : hbookOk g l ps = true ↔ bookOk g l = true ∧ (1 ≤ (ps.length : Int) ∧ (ps.length : Int) ≤ 6) ∧ ∀ p ∈ ps, pieceOk l.length p = true := by
  unfold hbookOk
  rw [Bool.and_eq_true, Bool.and_eq_true, isIn_iff, List.all_eq_true, and_assoc]
theorem piece_at (hk : hbookOk g l ps = true) {n : Int} (h0 : 0 ≤ n) (h1 : n < ps.length) : pieceOk l.length (rd_T62 ps n) = true := by
  obtain ⟨m, rfl⟩ := Int.eq_ofNat_of_zero_le h0
  rw [show ((m : Nat) : Int) = (m : Int) from rfl, rdT62 ps m (by omega)]
  exact (hbookOk_iff.1 hk).2.2 _ (List.getElem_mem _)
theorem piece_f {n : Int} (h : pieceOk l.length (rd_T62 ps n) = true) : (0 ≤ (rd_T62 ps n).f0 ∧ (rd_T62 ps n).f0 ≤ (l.length : Int) - 1) ∧ (1 ≤ ((rd_T62 ps n).f1.length : Int) ∧ ((rd_T62 ps n).f1.length : Int) ≤ 24) ∧ ∀ y ∈ (rd_T62 ps n).f1, 0 ≤ y ∧ y ≤ 6 := by
  unfold pieceOk at h
  rw [Bool.and_eq_true, isIn_iff, tonesB_iff] at h
  exact ⟨h.1, h.2.1, h.2.2⟩
theorem hsound_l1 (hl : l.length ≤ 9223372036854775807) (x4 : Int) (t : List Int) (ht : (t.length : Int) ≤ 24) (hv : ∀ y ∈ t, 0 ≤ y ∧ y ≤ 6) {R : Bool} (hn : Ev (fun k => saronlaw09_sound.l0 k true (wrap64 (x4 + 1)) g l ps) R) : ∀ (d n : Nat), n + d = t.length →
    Ev (fun k => saronlaw09_sound.l1 k true x4 t (n : Int) g l ps) R
  | 0, n, hd => Ev.step (fun k => by rw [saronlaw09_sound.l1, if_pos rfl, if_neg (by omega)]) hn
  | d + 1, n, hd => by
    have hlt : n < t.length := by omega
    have hy := hv t[n] (List.getElem_mem hlt)
    refine Ev.step (fun k => by rw [saronlaw09_sound.l1, if_pos rfl, if_pos (by omega), if_pos (by omega), rd_nat, show t.getD n 0 = t[n] by simp [hlt], sits_f, Option.bind_some, show isIn t[n] 0 6 = true from isIn_iff.2 hy, w64 (x := (n : Int) + 1) (by omega) (by omega), show ((n : Int) + 1) = ((n + 1 : Nat) : Int) by omega]) ?_
    exact hsound_l1 hl x4 t ht hv hn d (n + 1) (by omega)
theorem hsound_l0 (hl : l.length ≤ 9223372036854775807) (hk : hbookOk g l ps = true) : ∀ (d n : Nat), n + d = ps.length → Ev (fun k => saronlaw09_sound.l0 k true (n : Int) g l ps) true
  | 0, n, hd => by
    refine Ev.step (fun k => by rw [saronlaw09_sound.l0, if_pos rfl, show decide ((n : Int) < (ps.length : Int)) = false from decide_eq_false (by omega)]) ?_
    exact Ev.step (fun k => by rw [saronlaw09_sound.j2, if_neg (by simp)]) (Ev.now true)
  | d + 1, n, hd => by
    have hp := piece_f (piece_at hk (n := (n : Int)) (by omega) (by omega))
    have h6 := (hbookOk_iff.1 hk).2.1
    refine Ev.step (fun k => by rw [saronlaw09_sound.l0, if_pos rfl, show decide ((n : Int) < (ps.length : Int)) = true from decide_eq_true (by omega)]) ?_
    refine Ev.step (fun k => by rw [saronlaw09_sound.j2, if_pos rfl, if_pos (by omega), if_pos (by omega), sits_f, Option.bind_some, show isIn ((rd_T62 ps (n : Int)).f1.length : Int) 1 24 = true from isIn_iff.2 hp.2.1, if_pos rfl, sits_f, Option.bind_some, w64 (x := (l.length : Int) - 1) (by omega) (by omega), show isIn (rd_T62 ps (n : Int)).f0 0 ((l.length : Int) - 1) = true from isIn_iff.2 hp.1]) ?_
    refine Ev.step (fun k => by rw [saronlaw09_sound.j3]) ?_
    refine hsound_l1 hl (n : Int) _ hp.2.1.2 hp.2.2 ?_ (rd_T62 ps (n : Int)).f1.length 0 (by omega)
    refine evc (fun k => by rw [w64 (x := (n : Int) + 1) (by omega) (by omega), show ((n : Int) + 1) = ((n + 1 : Nat) : Int) by omega]) ?_
    exact hsound_l0 hl hk d (n + 1) (by omega)
theorem hsound_f (hs : l.length ≤ 9223372036854775807 ∧ ∀ f ∈ l, f.f1.length ≤ 9223372036854775807 ∧ ∀ r ∈ f.f1, r.length ≤ 9223372036854775807) : Ev (fun k => saronlaw09_sound.f k g l ps) (hbookOk g l ps) := by
  by_cases hk : hbookOk g l ps = true
  · have hb := hbookOk_iff.1 hk
    refine evc (fun k => by rw [saronlaw09_sound.f, heard_Check.f, Option.bind_some, show hcheckE g l ps = 0 by unfold hcheckE; rw [if_pos hk], if_pos rfl]) ?_
    have hc := check_f (g := g) (l := l) hs.1 hs.2
    rw [show checkE g l = 0 by unfold checkE; rw [if_pos hb.1]] at hc
    refine ebind hc ?_
    refine evc (fun k => by rw [if_pos rfl, sits_f, Option.bind_some, show isIn (ps.length : Int) 1 6 = true from isIn_iff.2 hb.2.1]) ?_
    rw [hk]
    exact Ev.step (fun k => by rw [saronlaw09_sound.j0]; rfl) (hsound_l0 hs.1 hk ps.length 0 (by omega))
  · refine evc (fun k => by rw [saronlaw09_sound.f, heard_Check.f, Option.bind_some, show hcheckE g l ps = 90 by unfold hcheckE; rw [if_neg hk], if_neg (by omega)]) ?_
    rw [Bool.not_eq_true] at hk
    rw [hk]
    refine Ev.step (fun k => by rw [saronlaw09_sound.j0]) ?_
    refine Ev.step (fun k => by rw [saronlaw09_sound.l0, if_neg (by simp)]) ?_
    exact Ev.step (fun k => by rw [saronlaw09_sound.j2, if_neg (by simp)]) (Ev.now false)
end
end Go.Proofs.YtfdenclnneigfaaDoor.Q
