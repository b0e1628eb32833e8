import Derived.Test.YtephecfapclgfaaDoorQA
import Derived.Test.YtephecfapclgfaaDoorLStrokes
set_option linter.unusedVariables false
set_option linter.unusedSimpArgs false
namespace Go.Proofs.YtephecfapclgfaaDoor
open Go.RowKit PRaspKeys R Q Go.Proofs.YtephecfapclgfaaDoorW.PrintWords
theorem struckF_len (g : Int) (l : List S63) (a c : Int) : (struckF g l a c).1.length ≤ 5 := by
  unfold struckF
  split
  · exact lst_len _ 5
  · simp
theorem CycleStrokes.pure (g : Int) (l : List S63) (wg : (Lit.int .i64 g).wf = true) (hs : Small l) (a b c : Int) (wa : (Lit.int .i64 a).wf = true) (wb : (Lit.int .i64 b).wf = true) (wc : (Lit.int .i64 c).wf = true) :
    ∃ k, saronlaw05_CycleStrokes.f k g l a b c = some true := by
  refine Ev.rounds (g := fun k => saronlaw05_CycleStrokes.f k g l a b c) ?_
  have h5 := struckF_len g l a c
  refine evc (fun k => by rw [saronlaw05_CycleStrokes.f, cycle_Struck.f, Option.bind_some]) ?_
  refine ebind (Struck_f hs a c) ?_
  refine ebind (equal_self _ (by omega)) ?_
  refine evc (fun k => by rw [if_pos rfl, if_pos rfl]) ?_
  refine ebind (check_f g l hs.1 hs.2) ?_
  refine ebind (rcheck_f g l hs) ?_
  refine Ev.step (fun k => by rw [saronlaw05_CycleStrokes.j0, if_neg (by simp), cycle_Next.f, Option.bind_some]) ?_
  refine ebind (Next_f hs a b c) ?_
  refine evc (fun k => by rw [if_pos rfl]) ?_
  refine Ev.step (fun k => by rw [saronlaw05_CycleStrokes.j1, if_neg (by simp), cycle_Even.f, Option.bind_some]) ?_
  refine ebind (Even_f hs a b) ?_
  refine evc (fun k => by rw [if_pos rfl, if_pos rfl, saronlaw05_marked.f]) ?_
  exact Ev.now true
end Go.Proofs.YtephecfapclgfaaDoor
