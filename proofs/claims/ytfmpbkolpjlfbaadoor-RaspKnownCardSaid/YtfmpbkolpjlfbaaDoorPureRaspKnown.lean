import Derived.Test.YtfmpbkolpjlfbaaDoorG6
set_option linter.unusedVariables false
set_option linter.unusedSimpArgs false
namespace Go.Proofs.YtfmpbkolpjlfbaaDoor.PRaspKeys
open Go.RowKit Go.Proofs.YtfmpbkolpjlfbaaDoorW.PrintWords Go.Proofs.YtfmpbkolpjlfbaaDoorW.PrintLast Go.Proofs.YtfmpbkolpjlfbaaDoor.R
def saronlaw03_RaspKnown.f (k : Nat) : Option Bool := some true
theorem saronlaw03_RaspKnown.calls (k : Nat) (r : Bool) (w : World) (hG : Glob w) (h : saronlaw03_RaspKnown.f k = some r) :
    Calls Tryd.prog 15 #[] w fun e w' => e = .returned (.bool r) ∧ Below w.heap.size w w' := by
  cases Option.some.inj h
  exact (known_any w hG).mono fun e w' h => ⟨h.1, h.2.below (Nat.le_refl _) (fun _ _ h => h)⟩
end Go.Proofs.YtfmpbkolpjlfbaaDoor.PRaspKeys
namespace Go.Proofs.YtfmpbkolpjlfbaaDoor
open Go.RowKit PRaspKeys R
theorem RaspKnown.pure : ∃ k, saronlaw03_RaspKnown.f k = some true := ⟨0, rfl⟩
end Go.Proofs.YtfmpbkolpjlfbaaDoor
