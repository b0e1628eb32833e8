import Derived.Test.YtfmpbkolpjlfbaaDoorPB
import Derived.Test.YtfmpbkolpjlfbaaDoorLKeys
set_option linter.unusedVariables false
set_option linter.unusedSimpArgs false
namespace Go.Proofs.YtfmpbkolpjlfbaaDoor
open Go.RowKit PRaspKeys R Q Go.Proofs.YtfmpbkolpjlfbaaDoorW.PrintWords
theorem RaspKeys.pure (l0 : List S57) (lo hi : Int) (l3 : List S69) (h0 : l0.length ≤ 9223372036854775807) (h3 : l3.length ≤ 9223372036854775807) (a b : Int) (wa : (Lit.int .i64 a).wf = true) (wb : (Lit.int .i64 b).wf = true) :
    ∃ k, saronlaw03_RaspKeys.f k l0 lo hi l3 a b = some true := by
  refine Ev.rounds (g := fun k => saronlaw03_RaspKeys.f k l0 lo hi l3 a b) ?_
  refine evc (fun k => by rw [saronlaw03_RaspKeys.f, rasp_Strokes.f, Option.bind_some]) ?_
  refine ebind (rStrokes_f l0 lo hi l3 h0 h3 a) ?_
  refine evc (fun k => by rw [if_pos rfl, bne_self_eq_false]) ?_
  refine Ev.step (fun k => by rw [saronlaw03_RaspKeys.j0, if_neg (by simp), rasp_Spoilt.f, Option.bind_some]) ?_
  refine ebind (rSpoilt_f l0 lo hi l3 h0 h3) ?_
  have hsl : (spoiltF l0 lo hi l3).1.length ≤ 9223372036854775807 := by
    unfold spoiltF
    split
    · simp
    · exact Nat.le_trans (spList_len _ _ _ _ _) h3
  refine ebind (equal_self _ hsl) ?_
  refine evc (fun k => by rw [if_pos rfl, bne_self_eq_false]) ?_
  refine Ev.step (fun k => by rw [saronlaw03_RaspKeys.j1, if_neg (by simp), rasp_Total.f, Option.bind_some]) ?_
  refine ebind (rTotal_f l0 lo hi l3 h0 h3) ?_
  refine evc (fun k => by rw [if_pos rfl, bne_self_eq_false]) ?_
  refine Ev.step (fun k => by rw [saronlaw03_RaspKeys.j2, if_neg (by simp), rasp_Need.f, Option.bind_some]) ?_
  refine ebind (rNeed_f l0 lo hi l3 h0 h3 b) ?_
  refine ev_some fun k => ?_
  rw [if_pos rfl, if_pos rfl, saronlaw03_filed.f]
  rfl
end Go.Proofs.YtfmpbkolpjlfbaaDoor
