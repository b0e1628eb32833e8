import Derived.Test.YtephecfapclgfaaDoorLSures
import Derived.Test.YtephecfapclgfaaDoorQC
set_option linter.unusedVariables false
set_option linter.unusedSimpArgs false
namespace Go.Proofs.YtephecfapclgfaaDoor
open Go.RowKit PRaspKeys R Q Go.Proofs.YtephecfapclgfaaDoorW.PrintWords
theorem CycleSures.pure (g : Int) (l : List S63) (wg : (Lit.int .i64 g).wf = true) (hs : Small l) (a b : Int) (wa : (Lit.int .i64 a).wf = true) (wb : (Lit.int .i64 b).wf = true) :
    ∃ k, saronlaw05_CycleSures.f k g l a b = some true := by
  refine Ev.rounds (g := fun k => saronlaw05_CycleSures.f k g l a b) ?_
  refine evc (fun k => by rw [saronlaw05_CycleSures.f, cycle_Confused.f, Option.bind_some, saronref05_Confused.f, Option.bind_some, if_neg (by simp), if_neg (by simp)]) ?_
  refine Ev.step (fun k => by rw [saronlaw05_CycleSures.j0, if_neg (by simp), cycle_Sure.f, Option.bind_some, saronref05_Sure.f, Option.bind_some, if_pos rfl, if_pos rfl, saronlaw05_marked.f, Option.bind_some]) ?_
  exact Ev.now true
end Go.Proofs.YtephecfapclgfaaDoor
