import Derived.Test.YtfdenclnneigfaaDoorQVA
import Derived.Test.YtfdenclnneigfaaDoorLAll
set_option linter.unusedVariables false
set_option linter.unusedSimpArgs false
namespace Go.Proofs.YtfdenclnneigfaaDoor
open Go.RowKit PRaspKeys R Q Go.Proofs.YtfdenclnneigfaaDoorW.PrintWords Go.Proofs.YtfdenclnneigfaaDoorW.PrintLast
theorem HeardAll.pure (g : Int) (l : List S114) (ps : List S62) (wg : (Lit.int .i64 g).wf = true) (hs : l.length ≤ 9223372036854775807 ∧ ∀ f ∈ l, f.f1.length ≤ 9223372036854775807 ∧ ∀ r ∈ f.f1, r.length ≤ 9223372036854775807) (hp : ps.length ≤ 9223372036854775807) (hpp : ∀ f ∈ ps, f.f1.length ≤ 9223372036854775807)
    (ns : List S30) (hnl : ns.length ≤ 9223372036854775807) (hn : ∀ x ∈ ns, x.f0.length ≤ 9223372036854775807 ∧ x.f1.length ≤ 9223372036854775807) : ∃ k, sHA.f k g l ps ns = some true := by
  refine Ev.rounds (g := fun k => sHA.f k g l ps ns) ?_
  have hl : (allF g l ps ns).1.length ≤ 9223372036854775807 := by
    unfold allF
    split
    · split
      · exact Nat.le_trans (lst_len _ _) hp
      · simp
    · simp
  refine evc (fun k => by rw [sHA.f, heard_All.f, Option.bind_some]) ?_
  refine ebind (rall_f hs hp hpp ns hnl hn) ?_
  refine ebind (equal_self (allF g l ps ns).1 hl) ?_
  exact evc (fun k => by rw [if_pos rfl, if_pos rfl, saronlaw09_listened.f, Option.bind_some]) (Ev.now true)
end Go.Proofs.YtfdenclnneigfaaDoor
