import Derived.Test.YtephecfapclgfaaDoorG12
set_option linter.unusedVariables false
set_option linter.unusedSimpArgs false
namespace Go.Proofs.YtephecfapclgfaaDoor.PRaspKeys
open Go.RowKit Go.Proofs.YtephecfapclgfaaDoorW.PrintWords Go.Proofs.YtephecfapclgfaaDoorW.PrintLast Go.Proofs.YtephecfapclgfaaDoor.R
def saronlaw05_CycleKnown.f (k : Nat) : Option Bool := some true
theorem saronlaw05_CycleKnown.calls (k : Nat) (r : Bool) (w : World) (hG : Glob w) (h : saronlaw05_CycleKnown.f k = some r) :
    Calls Tryd.prog 13 #[] w fun e w' => e = .returned (.bool r) ∧ Below w.heap.size w w' := by
  cases Option.some.inj h
  exact (known_any w hG).mono fun e w' h => ⟨h.1, fr_below h.2⟩
end Go.Proofs.YtephecfapclgfaaDoor.PRaspKeys
namespace Go.Proofs.YtephecfapclgfaaDoor
open Go.RowKit PRaspKeys R
theorem CycleKnown.pure : ∃ k, saronlaw05_CycleKnown.f k = some true := ⟨0, rfl⟩
end Go.Proofs.YtephecfapclgfaaDoor
