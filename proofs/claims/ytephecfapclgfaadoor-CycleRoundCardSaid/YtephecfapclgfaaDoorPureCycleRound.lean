import Derived.Test.YtephecfapclgfaaDoorQD
import Derived.Test.YtephecfapclgfaaDoorLRound
set_option linter.unusedVariables false
set_option linter.unusedSimpArgs false
namespace Go.Proofs.YtephecfapclgfaaDoor
open Go.RowKit PRaspKeys R Q Go.Proofs.YtephecfapclgfaaDoorW.PrintWords
theorem CycleRound.loop {g : Int} {l : List S63} (hs : Small l) (hb : bookOk g l = true) {form beat : Int} (h0 : 0 ≤ form) (h1 : form < l.length) (hb0 : 0 ≤ beat) (hb1 : beat ≤ 1000) : ∀ (d n : Nat), (n : Int) + d = g →
    Ev (fun k => saronlaw05_CycleRound.l0 k beat (lst (hits l form (beat % (rd_T63 l form).f0)) 5) (n : Int) g l (rd_T63 l form).f0 (rd_T63 l form).f1) true
  | 0, n, hd => by
    refine Ev.step (fun k => by rw [saronlaw05_CycleRound.l0, if_neg (by omega), saronlaw05_marked.f, Option.bind_some]) ?_
    exact Ev.now true
  | d + 1, n, hd => by
    have hlen := form_len hb h0 h1
    have hg := gong_of hb
    have h2 := (beats_of hb).two form h0 h1
    have hll := lst_len (hits l form (beat % (rd_T63 l form).f0)) 5
    refine Ev.step (fun k => by rw [saronlaw05_CycleRound.l0, if_pos (by omega)]) ?_
    refine ebind (where_f _ (n : Int) (by omega)) ?_
    refine evc (fun k => by rw [if_pos (by omega), if_pos (by omega), turn_f _ _ (by omega) (by omega), Option.bind_some, rd_L1_row]) ?_
    refine ebind (where_f _ _ (rowlen hs h1 h0 n)) ?_
    refine evc (fun k => by rw [wh_dec, wh_dec, lst_has, show decide (n < 5) = true from decide_eq_true (by omega), Bool.true_and, if_neg (by unfold hits; simp), w64 (x := (n : Int) + 1) (by omega) (by omega), show ((n : Int) + 1) = ((n + 1 : Nat) : Int) by omega]) ?_
    exact CycleRound.loop hs hb h0 h1 hb0 hb1 d (n + 1) (by omega)
theorem CycleRound.pure (g : Int) (l : List S63) (wg : (Lit.int .i64 g).wf = true) (hs : Small l) (a b : Int) (wa : (Lit.int .i64 a).wf = true) (wb : (Lit.int .i64 b).wf = true) :
    ∃ k, saronlaw05_CycleRound.f k g l a b = some true := by
  refine Ev.rounds (g := fun k => saronlaw05_CycleRound.f k g l a b) ?_
  refine evc (fun k => by rw [saronlaw05_CycleRound.f]) ?_
  refine ebind (sound_f hs) ?_
  by_cases hb : bookOk g l = true
  · obtain ⟨t1, h0, h1⟩ := form_turn hb a
    have hb0 := Int.emod_nonneg b (show (1000 : Int) ≠ 0 by omega)
    have hb1 := Int.emod_lt_of_pos b (show (0 : Int) < 1000 by omega)
    refine evc (fun k => by rw [if_pos hb, t1, Option.bind_some, turn_f b 1000 (by omega) (by omega), Option.bind_some]) ?_
    generalize a % (l.length : Int) = form at h0 h1 ⊢
    generalize b % 1000 = beat at hb0 hb1 ⊢
    have h2 := (beats_of hb).two form h0 h1
    have hg := gong_of hb
    have hr0 := row_zero hb h0 h1
    have hr : row l form 0 ≠ [] := by rw [hr0]; simp
    obtain ⟨n1, n2, n3, n4⟩ := nextB_is hb h0 h1 0 hr beat hb0
    have hll := lst_len (hits l form (beat % (rd_T63 l form).f0)) 5
    have hgr : gr g (-1) (lst (hits l form (beat % (rd_T63 l form).f0)) 5) = true := gr_lst _ g (fun i hi => by
      apply Decidable.byContradiction
      intro c
      have hlen := form_len hb h0 h1
      rw [hits_none (by omega)] at hi
      cases hi) 5
    have hmod : (beat + (rd_T63 l form).f0) % (rd_T63 l form).f0 = beat % (rd_T63 l form).f0 := Int.add_emod_right _ _
    have hS2 := struckF_ok hb h0 h1 (show 0 ≤ beat + (rd_T63 l form).f0 by omega) (by omega)
    rw [hmod] at hS2
    have hN := nextF_ok hb h0 h1 0 (by omega) hb0 (by omega)
    rw [if_neg hr] at hN
    have hhit : ∀ x : Int, hitB l form 0 x = true ↔ x % (rd_T63 l form).f0 = (rd_T63 l form).f0 - 1 := fun x => by
      unfold hitB hits
      rw [hr0]
      simp
    have hz : (lst (hits l form (beat % (rd_T63 l form).f0)) 5).contains 0 = (nextB l form 0 beat == beat) := by
      have := lst_has (hits l form (beat % (rd_T63 l form).f0)) 5 0
      rw [show ((0 : Nat) : Int) = 0 from rfl] at this
      rw [this, Bool.eq_iff_iff, beq_iff_eq]
      show (decide (0 < 5) && hitB l form 0 beat) = true ↔ _
      rw [show decide (0 < 5) = true from rfl, Bool.true_and]
      constructor
      · intro hh
        apply Decidable.byContradiction
        intro hne
        rw [n4 beat (by omega) (by omega)] at hh
        cases hh
      · intro he
        rw [he] at n3
        exact n3
    refine evc (fun k => by rw [if_pos h0, if_pos h1, cycle_Struck.f, struckF_ok hb h0 h1 hb0 (by omega), Option.bind_some, w64 (x := beat + (rd_T63 l form).f0) (by omega) (by omega), cycle_Struck.f, hS2, Option.bind_some, cycle_Next.f, show nextF g l form 0 beat = _ from hN, Option.bind_some, if_pos rfl, if_pos rfl, if_pos rfl]) ?_
    refine ebind (equal_self _ (by show (lst (hits l form (beat % (rd_T63 l form).f0)) 5).length ≤ _; omega)) ?_
    refine evc (fun k => by rw [if_pos rfl]) ?_
    refine ebind (rgrows_f g _ (by show (lst (hits l form (beat % (rd_T63 l form).f0)) 5).length ≤ _; omega)) ?_
    refine evc (fun k => by rw [if_pos hgr]) ?_
    refine ebind (where_f _ 0 (by show (lst (hits l form (beat % (rd_T63 l form).f0)) 5).length ≤ _; omega)) ?_
    refine evc (fun k => by rw [wh_dec, hz, if_neg (by simp), turn_f _ _ (by omega) (by omega), Option.bind_some, w64 (x := (rd_T63 l form).f0 - 1) (by omega) (by omega), if_pos ((hhit _).1 n3), sits_f, Option.bind_some, w64 (x := beat + (rd_T63 l form).f0 - 1) (by omega) (by omega), isIn_iff.2 ⟨n1, n2⟩]) ?_
    refine Ev.step (fun k => by rw [saronlaw05_CycleRound.j0, if_neg (by simp)]) ?_
    exact CycleRound.loop hs hb h0 h1 hb0 (by omega) g.toNat 0 (by omega)
  · refine evc (fun k => by rw [if_neg hb, saronlaw05_marked.f, Option.bind_some]) ?_
    exact Ev.now true
end Go.Proofs.YtephecfapclgfaaDoor
