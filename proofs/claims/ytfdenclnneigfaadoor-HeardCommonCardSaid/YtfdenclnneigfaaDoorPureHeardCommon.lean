import Derived.Test.YtfdenclnneigfaaDoorQH1
import Derived.Test.YtfdenclnneigfaaDoorLCommon
set_option linter.unusedVariables false
set_option linter.unusedSimpArgs false
namespace Go.Proofs.YtfdenclnneigfaaDoor
open Go.RowKit PRaspKeys R Q Go.Proofs.YtfdenclnneigfaaDoorW.PrintWords Go.Proofs.YtfdenclnneigfaaDoorW.PrintLast
theorem mn_le {a b c : Int} (h1 : c ≤ a) (h2 : c ≤ b) : c ≤ mn a b := by unfold mn; split <;> assumption
theorem lst_congr {h h' : Nat → Bool} : ∀ n, (∀ i, i < n → h i = h' i) → lst h n = lst h' n
  | 0, _ => rfl
  | n + 1, e => by
    unfold lst
    rw [e n (by omega), lst_congr n (fun i hi => e i (by omega))]
theorem gr_lst' (h : Nat → Bool) (n : Nat) : gr (n : Int) (-1) (lst h n) = true := by
  rw [lst_congr (h' := fun i => decide (i < n) && h i) n (fun i hi => by rw [decide_eq_true hi, Bool.true_and])]
  exact gr_lst _ _ (fun i hi => by rw [Bool.and_eq_true, decide_eq_true_eq] at hi; omega) n
theorem HeardCommon.rest {g : Int} {l : List S114} {ps : List S62} (hk : hbookOk g l ps = true) (bits : List Int) (hbits : bits.length ≤ 9223372036854775807) (i : Int) (i0 : 0 ≤ i) (i1 : i < ps.length) :
    Ev (fun k => saronlaw09_HeardCommon.j0 k bits i (rd_T62 ps i).f1 false g l ps) true := by
  have h6 := (hbookOk_iff.1 hk).2.1
  obtain ⟨m, rfl⟩ := Int.eq_ofNat_of_zero_le i0
  have pi := piece_f (piece_at hk i0 i1)
  obtain ⟨r, hr, hsub, hgone⟩ := some_f (rd_T62 ps (m : Int)).f1 bits 6 (by omega) hbits (by omega)
  have hrl := hsub.length_le
  have hrv : ∀ y ∈ r, 0 ≤ y ∧ y ≤ 6 := fun y hy => pi.2.2 y (hsub.subset hy)
  have hlcs : H.lcs (rd_T62 ps (m : Int)).f1 r = r.length := H.lcs_sub.2 hsub
  have hw := fun lost (h0 : 0 ≤ lost) (h1 : lost ≤ 6) => whole_f hk r lost (by omega) hrv h0 h1
  refine Ev.step (fun k => by rw [saronlaw09_HeardCommon.j0, if_neg (by simp)]) ?_
  refine ebind hr ?_
  refine evc (fun k => by rw [w64 (x := ((rd_T62 ps (m : Int)).f1.length : Int) - (r.length : Int)) (by omega) (by omega)]) ?_
  obtain ⟨gone, hg⟩ : ∃ gone : Int, gone = ((rd_T62 ps (m : Int)).f1.length : Int) - (r.length : Int) := ⟨_, rfl⟩
  rw [← hg]
  refine ebind (hw gone (by omega) (by omega)) ?_
  have hin : (lst (whB ps r gone) ps.length).contains (m : Int) = true := by
    rw [lst_has, decide_eq_true (by omega), Bool.true_and]
    unfold whB
    rw [decide_eq_true hlcs, decide_eq_true (by omega)]
    rfl
  have hwh := (wh_iff (m : Int) (lst (whB ps r gone) ps.length) 0 (by omega)).2 hin
  have hll := lst_len (whB ps r gone) ps.length
  refine evc (fun k => by rw [if_pos rfl]) ?_
  refine ebind (where_f (lst (whB ps r gone) ps.length) (m : Int) (by omega)) ?_
  refine evc (fun k => by rw [if_neg (by omega)]) ?_
  refine ebind (rgrows_f (ps.length : Int) (lst (whB ps r gone) ps.length) (by omega)) ?_
  rw [gr_lst']
  refine Ev.step (fun k => by rw [saronlaw09_HeardCommon.j1, if_neg (by simp)]) ?_
  by_cases hz : gone = 0
  · refine evc (fun k => by rw [if_pos hz, saronlaw09_listened.f, Option.bind_some]) ?_
    exact Ev.now true
  · refine evc (fun k => by rw [if_neg hz, w64 (x := gone - 1) (by omega) (by omega)]) ?_
    refine ebind (hw (gone - 1) (by omega) (by omega)) ?_
    have hout : (lst (whB ps r (gone - 1)) ps.length).contains (m : Int) = false := by
      rw [lst_has]
      unfold whB
      rw [show decide (((rd_T62 ps (m : Int)).f1.length : Int) - (r.length : Int) ≤ gone - 1) = false from decide_eq_false (by omega), Bool.and_false, Bool.and_false]
    have hwl := (wh_lt (m : Int) (lst (whB ps r (gone - 1)) ps.length) 0 (by omega)).2 hout
    have hll2 := lst_len (whB ps r (gone - 1)) ps.length
    refine evc (fun k => by rw [if_pos rfl]) ?_
    refine ebind (where_f (lst (whB ps r (gone - 1)) ps.length) (m : Int) (by omega)) ?_
    refine evc (fun k => by rw [if_pos hwl, saronlaw09_listened.f, Option.bind_some]) ?_
    exact Ev.now true
theorem HeardCommon.pure (g : Int) (l : List S114) (ps : List S62) (wg : (Lit.int .i64 g).wf = true) (hs : l.length ≤ 9223372036854775807 ∧ ∀ f ∈ l, f.f1.length ≤ 9223372036854775807 ∧ ∀ r ∈ f.f1, r.length ≤ 9223372036854775807) (hp : ps.length ≤ 9223372036854775807) (hpp : ∀ f ∈ ps, f.f1.length ≤ 9223372036854775807) (a b : Int) (wa : (Lit.int .i64 a).wf = true) (wb : (Lit.int .i64 b).wf = true) (bits : List Int) (hbits : bits.length ≤ 9223372036854775807) :
    ∃ k, saronlaw09_HeardCommon.f k g l ps a b bits = some true := by
  refine Ev.rounds (g := fun k => saronlaw09_HeardCommon.f k g l ps a b bits) ?_
  refine evc (fun k => by rw [saronlaw09_HeardCommon.f]) ?_
  refine ebind (hsound_f hs) ?_
  by_cases hk : hbookOk g l ps = true
  · have h6 := (hbookOk_iff.1 hk).2.1
    refine evc (fun k => by rw [if_pos hk, turn_f a _ (by omega) (by omega), Option.bind_some, turn_f b _ (by omega) (by omega), Option.bind_some]) ?_
    have i0 := Int.emod_nonneg a (show (ps.length : Int) ≠ 0 by omega)
    have i1 := Int.emod_lt_of_pos a (show (0 : Int) < ps.length by omega)
    have k0 := Int.emod_nonneg b (show (ps.length : Int) ≠ 0 by omega)
    have k1 := Int.emod_lt_of_pos b (show (0 : Int) < ps.length by omega)
    generalize a % (ps.length : Int) = i at i0 i1 ⊢
    generalize b % (ps.length : Int) = j at k0 k1 ⊢
    have pi := piece_f (piece_at hk i0 i1)
    have pj := piece_f (piece_at hk k0 k1)
    have hbd := H.lcs_bnd (rd_T62 ps i).f1 (rd_T62 ps j).f1
    have hself := H.lcs_self (rd_T62 ps i).f1
    have hcomm := H.lcs_comm (rd_T62 ps j).f1 (rd_T62 ps i).f1
    refine evc (fun k => by rw [if_pos i0, if_pos i1, if_pos k0, if_pos k1, common_f hk i0 i1 k0 k1, Option.bind_some, common_f hk k0 k1 i0 i1, Option.bind_some, common_f hk i0 i1 i0 i1, Option.bind_some, if_pos rfl, if_pos rfl, if_pos rfl, if_pos hcomm.symm, if_pos hself, sits_f, Option.bind_some, show isIn (H.lcs (rd_T62 ps i).f1 (rd_T62 ps j).f1) 0 (mn ((rd_T62 ps i).f1.length : Int) ((rd_T62 ps j).f1.length : Int)) = true from isIn_iff.2 ⟨hbd.1, mn_le hbd.2.1 hbd.2.2⟩]) ?_
    have hm := HeardCommon.rest hk bits hbits i i0 i1
    by_cases hij : i = j
    · subst hij
      exact evc (fun k => by rw [if_pos rfl, if_pos rfl]; simp) hm
    · exact evc (fun k => by rw [if_pos rfl, if_neg hij]) hm
  · refine evc (fun k => by rw [if_neg hk, saronlaw09_listened.f, Option.bind_some]) ?_
    exact Ev.now true
end Go.Proofs.YtfdenclnneigfaaDoor
