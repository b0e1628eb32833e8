import Derived.Test.YtfdenclnneigfaaDoorGT
set_option linter.unusedVariables false
set_option linter.unusedSimpArgs false
namespace Go.Proofs.YtfdenclnneigfaaDoor
open Go.RowKit PRaspKeys R Go.Proofs.YtfdenclnneigfaaDoorW.PrintWords Go.Proofs.YtfdenclnneigfaaDoorW.PrintLast
theorem HeardTogether.pure (g : Int) (l : List S114) (ps : List S62) (wg : (Lit.int .i64 g).wf = true) (hs : l.length ≤ 9223372036854775807 ∧ ∀ f ∈ l, f.f1.length ≤ 9223372036854775807 ∧ ∀ r ∈ f.f1, r.length ≤ 9223372036854775807) (hp : ps.length ≤ 9223372036854775807) (hpp : ∀ f ∈ ps, f.f1.length ≤ 9223372036854775807)
    (ns : List S30) (hnl : ns.length ≤ 9223372036854775807) (hn : ∀ x ∈ ns, x.f0.length ≤ 9223372036854775807 ∧ x.f1.length ≤ 9223372036854775807) : ∃ k, saronlaw09_HeardTogether.f k g l ps ns = some true := ⟨0, rfl⟩
end Go.Proofs.YtfdenclnneigfaaDoor
