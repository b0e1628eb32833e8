/-
  DERIVED. GIVEN WITH THE SEED: THE CARDS: each row of YtephecfapclgfaaDoorRows.lean that lists a variable, with what it lists TIED to the program's text (the seventh form; the later family's looks); each row that meets fmt, with fmt's text TOLD by the authors' own Lean function (tested against real Go, not proved from fmt's source: count such statements apart). THE CARD IS WHAT COUNTS. Prove the row's statement (the work); the ties are given (YtephecfapclgfaaDoorTie.lean); close each card by the builder's one call (the guide's Derived/Test/ToyasCard.lean, 'card_holds'). Laid BY PROGRAM, IN A SANDBOX (cutbox-door.mjs). By AI agents, Wed Nov 11 2026. No macro, syntax, notation, axiom, sorry.
-/
import Derived.Test.YtephecfapclgfaaDoorRows
import GoSem.ClaimSeven
namespace Go.Proofs.YtephecfapclgfaaDoor
namespace Rows

/-- THE TIED CARD OF 'saronlaw05.CycleStrokes'. -/
def cycleStrokesCard : Claim7 := { stood := { row := cycleStrokesRow, standIns := [], harness := (true, "a3dabe2c76b2f6a81544042fcd0c820874ab79cfc61259970b0a31ee3cc988c5"), looks := false }, kinds := [], alts := [], laidByText := true, laidKinds := [.funcs], laidTests := true, laidLooks := .later }
def CycleStrokesCardSaid : Prop := Claim7.holds Tryd.pinned (.plain (OpenSpec.ofChange cycleStrokesSpec)) cycleStrokesCard

/-- THE TIED CARD OF 'saronlaw05.CycleHears'. -/
def cycleHearsCard : Claim7 := { stood := { row := cycleHearsRow, standIns := [], harness := (true, "a3dabe2c76b2f6a81544042fcd0c820874ab79cfc61259970b0a31ee3cc988c5"), looks := false }, kinds := [], alts := [], laidByText := true, laidKinds := [.funcs], laidTests := true, laidLooks := .later }
def CycleHearsCardSaid : Prop := Claim7.holds Tryd.pinned (.plain (OpenSpec.ofChange cycleHearsSpec)) cycleHearsCard

/-- THE TIED CARD OF 'saronlaw05.CycleSures'. -/
def cycleSuresCard : Claim7 := { stood := { row := cycleSuresRow, standIns := [], harness := (true, "a3dabe2c76b2f6a81544042fcd0c820874ab79cfc61259970b0a31ee3cc988c5"), looks := false }, kinds := [], alts := [], laidByText := true, laidKinds := [.funcs], laidTests := true, laidLooks := .later }
def CycleSuresCardSaid : Prop := Claim7.holds Tryd.pinned (.plain (OpenSpec.ofChange cycleSuresSpec)) cycleSuresCard

/-- THE TIED CARD OF 'saronlaw05.CycleRound'. -/
def cycleRoundCard : Claim7 := { stood := { row := cycleRoundRow, standIns := [], harness := (true, "a3dabe2c76b2f6a81544042fcd0c820874ab79cfc61259970b0a31ee3cc988c5"), looks := false }, kinds := [], alts := [], laidByText := true, laidKinds := [.funcs], laidTests := true, laidLooks := .later }
def CycleRoundCardSaid : Prop := Claim7.holds Tryd.pinned (.plain (OpenSpec.ofChange cycleRoundSpec)) cycleRoundCard

/-- THE TIED CARD OF 'saronlaw05.CycleNext'. -/
def cycleNextCard : Claim7 := { stood := { row := cycleNextRow, standIns := [], harness := (true, "a3dabe2c76b2f6a81544042fcd0c820874ab79cfc61259970b0a31ee3cc988c5"), looks := false }, kinds := [], alts := [], laidByText := true, laidKinds := [.funcs], laidTests := true, laidLooks := .later }
def CycleNextCardSaid : Prop := Claim7.holds Tryd.pinned (.plain (OpenSpec.ofChange cycleNextSpec)) cycleNextCard

/-- THE TIED CARD OF 'saronlaw05.CycleTrue'. -/
def cycleTrueCard : Claim7 := { stood := { row := cycleTrueRow, standIns := [], harness := (true, "a3dabe2c76b2f6a81544042fcd0c820874ab79cfc61259970b0a31ee3cc988c5"), looks := false }, kinds := [], alts := [], laidByText := true, laidKinds := [.funcs], laidTests := true, laidLooks := .later }
def CycleTrueCardSaid : Prop := Claim7.holds Tryd.pinned (.plain (OpenSpec.ofChange cycleTrueSpec)) cycleTrueCard

/-- THE TIED CARD OF 'saronlaw05.CycleOther'. -/
def cycleOtherCard : Claim7 := { stood := { row := cycleOtherRow, standIns := [], harness := (true, "a3dabe2c76b2f6a81544042fcd0c820874ab79cfc61259970b0a31ee3cc988c5"), looks := false }, kinds := [], alts := [], laidByText := true, laidKinds := [.funcs], laidTests := true, laidLooks := .later }
def CycleOtherCardSaid : Prop := Claim7.holds Tryd.pinned (.plain (OpenSpec.ofChange cycleOtherSpec)) cycleOtherCard

/-- THE TIED CARD OF 'saronlaw05.CycleFewer'. -/
def cycleFewerCard : Claim7 := { stood := { row := cycleFewerRow, standIns := [], harness := (true, "a3dabe2c76b2f6a81544042fcd0c820874ab79cfc61259970b0a31ee3cc988c5"), looks := false }, kinds := [], alts := [], laidByText := true, laidKinds := [.funcs], laidTests := true, laidLooks := .later }
def CycleFewerCardSaid : Prop := Claim7.holds Tryd.pinned (.plain (OpenSpec.ofChange cycleFewerSpec)) cycleFewerCard

/-- THE TIED CARD OF 'saronlaw05.CycleSure'. -/
def cycleSureCard : Claim7 := { stood := { row := cycleSureRow, standIns := [], harness := (true, "a3dabe2c76b2f6a81544042fcd0c820874ab79cfc61259970b0a31ee3cc988c5"), looks := false }, kinds := [], alts := [], laidByText := true, laidKinds := [.funcs], laidTests := true, laidLooks := .later }
def CycleSureCardSaid : Prop := Claim7.holds Tryd.pinned (.plain (OpenSpec.ofChange cycleSureSpec)) cycleSureCard

/-- THE TIED CARD OF 'saronlaw05.CycleConfused'. -/
def cycleConfusedCard : Claim7 := { stood := { row := cycleConfusedRow, standIns := [], harness := (true, "a3dabe2c76b2f6a81544042fcd0c820874ab79cfc61259970b0a31ee3cc988c5"), looks := false }, kinds := [], alts := [], laidByText := true, laidKinds := [.funcs], laidTests := true, laidLooks := .later }
def CycleConfusedCardSaid : Prop := Claim7.holds Tryd.pinned (.plain (OpenSpec.ofChange cycleConfusedSpec)) cycleConfusedCard

/-- THE TIED CARD OF 'saronlaw05.CycleKnown'. -/
def cycleKnownCard : Claim7 := { stood := { row := cycleKnownRow, standIns := [], harness := (true, "a3dabe2c76b2f6a81544042fcd0c820874ab79cfc61259970b0a31ee3cc988c5"), looks := false }, kinds := [], alts := [], laidByText := true, laidKinds := [.funcs], laidTests := true, laidLooks := .later }
def CycleKnownCardSaid : Prop := Claim7.holds Tryd.pinned (.plain (OpenSpec.ofChange cycleKnownSpec)) cycleKnownCard

/-- THE SECOND FORM's CARD OF 'saronlaw05.CycleStrokes'. -/
def cycleStrokesUptoCard : Claim7 := { stood := { row := cycleStrokesUptoRow, standIns := [], harness := (true, "a3dabe2c76b2f6a81544042fcd0c820874ab79cfc61259970b0a31ee3cc988c5"), looks := false }, kinds := [], alts := [], laidByText := true, laidKinds := [.funcs], laidTests := true, laidLooks := .later }
def CycleStrokesUptoCardSaid : Prop := Claim7.holds Tryd.pinned (.plain (OpenSpec.upto cycleStrokesSpec)) cycleStrokesUptoCard

/-- THE SECOND FORM's CARD OF 'saronlaw05.CycleHears'. -/
def cycleHearsUptoCard : Claim7 := { stood := { row := cycleHearsUptoRow, standIns := [], harness := (true, "a3dabe2c76b2f6a81544042fcd0c820874ab79cfc61259970b0a31ee3cc988c5"), looks := false }, kinds := [], alts := [], laidByText := true, laidKinds := [.funcs], laidTests := true, laidLooks := .later }
def CycleHearsUptoCardSaid : Prop := Claim7.holds Tryd.pinned (.plain (OpenSpec.upto cycleHearsSpec)) cycleHearsUptoCard

/-- THE SECOND FORM's CARD OF 'saronlaw05.CycleSures'. -/
def cycleSuresUptoCard : Claim7 := { stood := { row := cycleSuresUptoRow, standIns := [], harness := (true, "a3dabe2c76b2f6a81544042fcd0c820874ab79cfc61259970b0a31ee3cc988c5"), looks := false }, kinds := [], alts := [], laidByText := true, laidKinds := [.funcs], laidTests := true, laidLooks := .later }
def CycleSuresUptoCardSaid : Prop := Claim7.holds Tryd.pinned (.plain (OpenSpec.upto cycleSuresSpec)) cycleSuresUptoCard

/-- THE SECOND FORM's CARD OF 'saronlaw05.CycleRound'. -/
def cycleRoundUptoCard : Claim7 := { stood := { row := cycleRoundUptoRow, standIns := [], harness := (true, "a3dabe2c76b2f6a81544042fcd0c820874ab79cfc61259970b0a31ee3cc988c5"), looks := false }, kinds := [], alts := [], laidByText := true, laidKinds := [.funcs], laidTests := true, laidLooks := .later }
def CycleRoundUptoCardSaid : Prop := Claim7.holds Tryd.pinned (.plain (OpenSpec.upto cycleRoundSpec)) cycleRoundUptoCard

/-- THE SECOND FORM's CARD OF 'saronlaw05.CycleNext'. -/
def cycleNextUptoCard : Claim7 := { stood := { row := cycleNextUptoRow, standIns := [], harness := (true, "a3dabe2c76b2f6a81544042fcd0c820874ab79cfc61259970b0a31ee3cc988c5"), looks := false }, kinds := [], alts := [], laidByText := true, laidKinds := [.funcs], laidTests := true, laidLooks := .later }
def CycleNextUptoCardSaid : Prop := Claim7.holds Tryd.pinned (.plain (OpenSpec.upto cycleNextSpec)) cycleNextUptoCard

/-- THE SECOND FORM's CARD OF 'saronlaw05.CycleTrue'. -/
def cycleTrueUptoCard : Claim7 := { stood := { row := cycleTrueUptoRow, standIns := [], harness := (true, "a3dabe2c76b2f6a81544042fcd0c820874ab79cfc61259970b0a31ee3cc988c5"), looks := false }, kinds := [], alts := [], laidByText := true, laidKinds := [.funcs], laidTests := true, laidLooks := .later }
def CycleTrueUptoCardSaid : Prop := Claim7.holds Tryd.pinned (.plain (OpenSpec.upto cycleTrueSpec)) cycleTrueUptoCard

/-- THE SECOND FORM's CARD OF 'saronlaw05.CycleOther'. -/
def cycleOtherUptoCard : Claim7 := { stood := { row := cycleOtherUptoRow, standIns := [], harness := (true, "a3dabe2c76b2f6a81544042fcd0c820874ab79cfc61259970b0a31ee3cc988c5"), looks := false }, kinds := [], alts := [], laidByText := true, laidKinds := [.funcs], laidTests := true, laidLooks := .later }
def CycleOtherUptoCardSaid : Prop := Claim7.holds Tryd.pinned (.plain (OpenSpec.upto cycleOtherSpec)) cycleOtherUptoCard

/-- THE SECOND FORM's CARD OF 'saronlaw05.CycleFewer'. -/
def cycleFewerUptoCard : Claim7 := { stood := { row := cycleFewerUptoRow, standIns := [], harness := (true, "a3dabe2c76b2f6a81544042fcd0c820874ab79cfc61259970b0a31ee3cc988c5"), looks := false }, kinds := [], alts := [], laidByText := true, laidKinds := [.funcs], laidTests := true, laidLooks := .later }
def CycleFewerUptoCardSaid : Prop := Claim7.holds Tryd.pinned (.plain (OpenSpec.upto cycleFewerSpec)) cycleFewerUptoCard

/-- THE SECOND FORM's CARD OF 'saronlaw05.CycleSure'. -/
def cycleSureUptoCard : Claim7 := { stood := { row := cycleSureUptoRow, standIns := [], harness := (true, "a3dabe2c76b2f6a81544042fcd0c820874ab79cfc61259970b0a31ee3cc988c5"), looks := false }, kinds := [], alts := [], laidByText := true, laidKinds := [.funcs], laidTests := true, laidLooks := .later }
def CycleSureUptoCardSaid : Prop := Claim7.holds Tryd.pinned (.plain (OpenSpec.upto cycleSureSpec)) cycleSureUptoCard

/-- THE SECOND FORM's CARD OF 'saronlaw05.CycleConfused'. -/
def cycleConfusedUptoCard : Claim7 := { stood := { row := cycleConfusedUptoRow, standIns := [], harness := (true, "a3dabe2c76b2f6a81544042fcd0c820874ab79cfc61259970b0a31ee3cc988c5"), looks := false }, kinds := [], alts := [], laidByText := true, laidKinds := [.funcs], laidTests := true, laidLooks := .later }
def CycleConfusedUptoCardSaid : Prop := Claim7.holds Tryd.pinned (.plain (OpenSpec.upto cycleConfusedSpec)) cycleConfusedUptoCard

/-- THE SECOND FORM's CARD OF 'saronlaw05.CycleKnown'. -/
def cycleKnownUptoCard : Claim7 := { stood := { row := cycleKnownUptoRow, standIns := [], harness := (true, "a3dabe2c76b2f6a81544042fcd0c820874ab79cfc61259970b0a31ee3cc988c5"), looks := false }, kinds := [], alts := [], laidByText := true, laidKinds := [.funcs], laidTests := true, laidLooks := .later }
def CycleKnownUptoCardSaid : Prop := Claim7.holds Tryd.pinned (.plain (OpenSpec.upto cycleKnownSpec)) cycleKnownUptoCard
end Rows
end Go.Proofs.YtephecfapclgfaaDoor
