/-
  DERIVED. GIVEN WITH THE SEED: THE CARDS: each row of YtfmpbkolpjlfbaaDoorRows.lean that lists a variable, with what it lists TIED to the program's text (the seventh form; the later family's looks); each row that meets fmt, with fmt's text TOLD by the authors' own Lean function (tested against real Go, not proved from fmt's source: count such statements apart). THE CARD IS WHAT COUNTS. Prove the row's statement (the work); the ties are given (YtfmpbkolpjlfbaaDoorTie.lean); close each card by the builder's one call (the guide's Derived/Test/ToyasCard.lean, 'card_holds'). Laid BY PROGRAM, IN A SANDBOX (cutbox-door.mjs). By AI agents, Wed Nov 11 2026. No macro, syntax, notation, axiom, sorry.
-/
import Derived.Test.YtfmpbkolpjlfbaaDoorRows
import GoSem.ClaimSeven
namespace Go.Proofs.YtfmpbkolpjlfbaaDoor
namespace Rows

/-- THE TIED CARD OF 'saronlaw03.RaspNexts'. -/
def raspNextsCard : Claim7 := { stood := { row := raspNextsRow, standIns := [], harness := (true, "42085157845c52d29e159896979a8c5bb1f23c47d3329bd57ee842e9fc529b29"), looks := false }, kinds := [], alts := [], laidByText := true, laidKinds := [.funcs], laidTests := true, laidLooks := .later }
def RaspNextsCardSaid : Prop := Claim7.holds Tryd.pinned (.plain (OpenSpec.ofChange raspNextsSpec)) raspNextsCard

/-- THE TIED CARD OF 'saronlaw03.RaspKeys'. -/
def raspKeysCard : Claim7 := { stood := { row := raspKeysRow, standIns := [], harness := (true, "42085157845c52d29e159896979a8c5bb1f23c47d3329bd57ee842e9fc529b29"), looks := false }, kinds := [], alts := [], laidByText := true, laidKinds := [.funcs], laidTests := true, laidLooks := .later }
def RaspKeysCardSaid : Prop := Claim7.holds Tryd.pinned (.plain (OpenSpec.ofChange raspKeysSpec)) raspKeysCard

/-- THE TIED CARD OF 'saronlaw03.RaspPlays'. -/
def raspPlaysCard : Claim7 := { stood := { row := raspPlaysRow, standIns := [], harness := (true, "42085157845c52d29e159896979a8c5bb1f23c47d3329bd57ee842e9fc529b29"), looks := false }, kinds := [], alts := [], laidByText := true, laidKinds := [.funcs], laidTests := true, laidLooks := .later }
def RaspPlaysCardSaid : Prop := Claim7.holds Tryd.pinned (.plain (OpenSpec.ofChange raspPlaysSpec)) raspPlaysCard

/-- THE TIED CARD OF 'saronlaw03.RaspTolds'. -/
def raspToldsCard : Claim7 := { stood := { row := raspToldsRow, standIns := [], harness := (true, "42085157845c52d29e159896979a8c5bb1f23c47d3329bd57ee842e9fc529b29"), looks := false }, kinds := [], alts := [], laidByText := true, laidKinds := [.funcs], laidTests := true, laidLooks := .later }
def RaspToldsCardSaid : Prop := Claim7.holds Tryd.pinned (.plain (OpenSpec.ofChange raspToldsSpec)) raspToldsCard

/-- THE TIED CARD OF 'saronlaw03.RaspSure'. -/
def raspSureCard : Claim7 := { stood := { row := raspSureRow, standIns := [], harness := (true, "42085157845c52d29e159896979a8c5bb1f23c47d3329bd57ee842e9fc529b29"), looks := false }, kinds := [], alts := [], laidByText := true, laidKinds := [.funcs], laidTests := true, laidLooks := .later }
def RaspSureCardSaid : Prop := Claim7.holds Tryd.pinned (.plain (OpenSpec.ofChange raspSureSpec)) raspSureCard

/-- THE TIED CARD OF 'saronlaw03.RaspLeast'. -/
def raspLeastCard : Claim7 := { stood := { row := raspLeastRow, standIns := [], harness := (true, "42085157845c52d29e159896979a8c5bb1f23c47d3329bd57ee842e9fc529b29"), looks := false }, kinds := [], alts := [], laidByText := true, laidKinds := [.funcs], laidTests := true, laidLooks := .later }
def RaspLeastCardSaid : Prop := Claim7.holds Tryd.pinned (.plain (OpenSpec.ofChange raspLeastSpec)) raspLeastCard

/-- THE TIED CARD OF 'saronlaw03.RaspMore'. -/
def raspMoreCard : Claim7 := { stood := { row := raspMoreRow, standIns := [], harness := (true, "42085157845c52d29e159896979a8c5bb1f23c47d3329bd57ee842e9fc529b29"), looks := false }, kinds := [], alts := [], laidByText := true, laidKinds := [.funcs], laidTests := true, laidLooks := .later }
def RaspMoreCardSaid : Prop := Claim7.holds Tryd.pinned (.plain (OpenSpec.ofChange raspMoreSpec)) raspMoreCard

/-- THE TIED CARD OF 'saronlaw03.RaspEasier'. -/
def raspEasierCard : Claim7 := { stood := { row := raspEasierRow, standIns := [], harness := (true, "42085157845c52d29e159896979a8c5bb1f23c47d3329bd57ee842e9fc529b29"), looks := false }, kinds := [], alts := [], laidByText := true, laidKinds := [.funcs], laidTests := true, laidLooks := .later }
def RaspEasierCardSaid : Prop := Claim7.holds Tryd.pinned (.plain (OpenSpec.ofChange raspEasierSpec)) raspEasierCard

/-- THE TIED CARD OF 'saronlaw03.RaspEnough'. -/
def raspEnoughCard : Claim7 := { stood := { row := raspEnoughRow, standIns := [], harness := (true, "42085157845c52d29e159896979a8c5bb1f23c47d3329bd57ee842e9fc529b29"), looks := false }, kinds := [], alts := [], laidByText := true, laidKinds := [.funcs], laidTests := true, laidLooks := .later }
def RaspEnoughCardSaid : Prop := Claim7.holds Tryd.pinned (.plain (OpenSpec.ofChange raspEnoughSpec)) raspEnoughCard

/-- THE TIED CARD OF 'saronlaw03.RaspSingle'. -/
def raspSingleCard : Claim7 := { stood := { row := raspSingleRow, standIns := [], harness := (true, "42085157845c52d29e159896979a8c5bb1f23c47d3329bd57ee842e9fc529b29"), looks := false }, kinds := [], alts := [], laidByText := true, laidKinds := [.funcs], laidTests := true, laidLooks := .later }
def RaspSingleCardSaid : Prop := Claim7.holds Tryd.pinned (.plain (OpenSpec.ofChange raspSingleSpec)) raspSingleCard

/-- THE TIED CARD OF 'saronlaw03.RaspTurned'. -/
def raspTurnedCard : Claim7 := { stood := { row := raspTurnedRow, standIns := [], harness := (true, "42085157845c52d29e159896979a8c5bb1f23c47d3329bd57ee842e9fc529b29"), looks := false }, kinds := [], alts := [], laidByText := true, laidKinds := [.funcs], laidTests := true, laidLooks := .later }
def RaspTurnedCardSaid : Prop := Claim7.holds Tryd.pinned (.plain (OpenSpec.ofChange raspTurnedSpec)) raspTurnedCard

/-- THE TIED CARD OF 'saronlaw03.RaspPlayed'. -/
def raspPlayedCard : Claim7 := { stood := { row := raspPlayedRow, standIns := [], harness := (true, "42085157845c52d29e159896979a8c5bb1f23c47d3329bd57ee842e9fc529b29"), looks := false }, kinds := [], alts := [], laidByText := true, laidKinds := [.funcs], laidTests := true, laidLooks := .later }
def RaspPlayedCardSaid : Prop := Claim7.holds Tryd.pinned (.plain (OpenSpec.ofChange raspPlayedSpec)) raspPlayedCard

/-- THE TIED CARD OF 'saronlaw03.RaspKnown'. -/
def raspKnownCard : Claim7 := { stood := { row := raspKnownRow, standIns := [], harness := (true, "42085157845c52d29e159896979a8c5bb1f23c47d3329bd57ee842e9fc529b29"), looks := false }, kinds := [], alts := [], laidByText := true, laidKinds := [.funcs], laidTests := true, laidLooks := .later }
def RaspKnownCardSaid : Prop := Claim7.holds Tryd.pinned (.plain (OpenSpec.ofChange raspKnownSpec)) raspKnownCard

/-- THE SECOND FORM's CARD OF 'saronlaw03.RaspNexts'. -/
def raspNextsUptoCard : Claim7 := { stood := { row := raspNextsUptoRow, standIns := [], harness := (true, "42085157845c52d29e159896979a8c5bb1f23c47d3329bd57ee842e9fc529b29"), looks := false }, kinds := [], alts := [], laidByText := true, laidKinds := [.funcs], laidTests := true, laidLooks := .later }
def RaspNextsUptoCardSaid : Prop := Claim7.holds Tryd.pinned (.plain (OpenSpec.upto raspNextsSpec)) raspNextsUptoCard

/-- THE SECOND FORM's CARD OF 'saronlaw03.RaspKeys'. -/
def raspKeysUptoCard : Claim7 := { stood := { row := raspKeysUptoRow, standIns := [], harness := (true, "42085157845c52d29e159896979a8c5bb1f23c47d3329bd57ee842e9fc529b29"), looks := false }, kinds := [], alts := [], laidByText := true, laidKinds := [.funcs], laidTests := true, laidLooks := .later }
def RaspKeysUptoCardSaid : Prop := Claim7.holds Tryd.pinned (.plain (OpenSpec.upto raspKeysSpec)) raspKeysUptoCard

/-- THE SECOND FORM's CARD OF 'saronlaw03.RaspPlays'. -/
def raspPlaysUptoCard : Claim7 := { stood := { row := raspPlaysUptoRow, standIns := [], harness := (true, "42085157845c52d29e159896979a8c5bb1f23c47d3329bd57ee842e9fc529b29"), looks := false }, kinds := [], alts := [], laidByText := true, laidKinds := [.funcs], laidTests := true, laidLooks := .later }
def RaspPlaysUptoCardSaid : Prop := Claim7.holds Tryd.pinned (.plain (OpenSpec.upto raspPlaysSpec)) raspPlaysUptoCard

/-- THE SECOND FORM's CARD OF 'saronlaw03.RaspTolds'. -/
def raspToldsUptoCard : Claim7 := { stood := { row := raspToldsUptoRow, standIns := [], harness := (true, "42085157845c52d29e159896979a8c5bb1f23c47d3329bd57ee842e9fc529b29"), looks := false }, kinds := [], alts := [], laidByText := true, laidKinds := [.funcs], laidTests := true, laidLooks := .later }
def RaspToldsUptoCardSaid : Prop := Claim7.holds Tryd.pinned (.plain (OpenSpec.upto raspToldsSpec)) raspToldsUptoCard

/-- THE SECOND FORM's CARD OF 'saronlaw03.RaspSure'. -/
def raspSureUptoCard : Claim7 := { stood := { row := raspSureUptoRow, standIns := [], harness := (true, "42085157845c52d29e159896979a8c5bb1f23c47d3329bd57ee842e9fc529b29"), looks := false }, kinds := [], alts := [], laidByText := true, laidKinds := [.funcs], laidTests := true, laidLooks := .later }
def RaspSureUptoCardSaid : Prop := Claim7.holds Tryd.pinned (.plain (OpenSpec.upto raspSureSpec)) raspSureUptoCard

/-- THE SECOND FORM's CARD OF 'saronlaw03.RaspLeast'. -/
def raspLeastUptoCard : Claim7 := { stood := { row := raspLeastUptoRow, standIns := [], harness := (true, "42085157845c52d29e159896979a8c5bb1f23c47d3329bd57ee842e9fc529b29"), looks := false }, kinds := [], alts := [], laidByText := true, laidKinds := [.funcs], laidTests := true, laidLooks := .later }
def RaspLeastUptoCardSaid : Prop := Claim7.holds Tryd.pinned (.plain (OpenSpec.upto raspLeastSpec)) raspLeastUptoCard

/-- THE SECOND FORM's CARD OF 'saronlaw03.RaspMore'. -/
def raspMoreUptoCard : Claim7 := { stood := { row := raspMoreUptoRow, standIns := [], harness := (true, "42085157845c52d29e159896979a8c5bb1f23c47d3329bd57ee842e9fc529b29"), looks := false }, kinds := [], alts := [], laidByText := true, laidKinds := [.funcs], laidTests := true, laidLooks := .later }
def RaspMoreUptoCardSaid : Prop := Claim7.holds Tryd.pinned (.plain (OpenSpec.upto raspMoreSpec)) raspMoreUptoCard

/-- THE SECOND FORM's CARD OF 'saronlaw03.RaspEasier'. -/
def raspEasierUptoCard : Claim7 := { stood := { row := raspEasierUptoRow, standIns := [], harness := (true, "42085157845c52d29e159896979a8c5bb1f23c47d3329bd57ee842e9fc529b29"), looks := false }, kinds := [], alts := [], laidByText := true, laidKinds := [.funcs], laidTests := true, laidLooks := .later }
def RaspEasierUptoCardSaid : Prop := Claim7.holds Tryd.pinned (.plain (OpenSpec.upto raspEasierSpec)) raspEasierUptoCard

/-- THE SECOND FORM's CARD OF 'saronlaw03.RaspEnough'. -/
def raspEnoughUptoCard : Claim7 := { stood := { row := raspEnoughUptoRow, standIns := [], harness := (true, "42085157845c52d29e159896979a8c5bb1f23c47d3329bd57ee842e9fc529b29"), looks := false }, kinds := [], alts := [], laidByText := true, laidKinds := [.funcs], laidTests := true, laidLooks := .later }
def RaspEnoughUptoCardSaid : Prop := Claim7.holds Tryd.pinned (.plain (OpenSpec.upto raspEnoughSpec)) raspEnoughUptoCard

/-- THE SECOND FORM's CARD OF 'saronlaw03.RaspSingle'. -/
def raspSingleUptoCard : Claim7 := { stood := { row := raspSingleUptoRow, standIns := [], harness := (true, "42085157845c52d29e159896979a8c5bb1f23c47d3329bd57ee842e9fc529b29"), looks := false }, kinds := [], alts := [], laidByText := true, laidKinds := [.funcs], laidTests := true, laidLooks := .later }
def RaspSingleUptoCardSaid : Prop := Claim7.holds Tryd.pinned (.plain (OpenSpec.upto raspSingleSpec)) raspSingleUptoCard

/-- THE SECOND FORM's CARD OF 'saronlaw03.RaspTurned'. -/
def raspTurnedUptoCard : Claim7 := { stood := { row := raspTurnedUptoRow, standIns := [], harness := (true, "42085157845c52d29e159896979a8c5bb1f23c47d3329bd57ee842e9fc529b29"), looks := false }, kinds := [], alts := [], laidByText := true, laidKinds := [.funcs], laidTests := true, laidLooks := .later }
def RaspTurnedUptoCardSaid : Prop := Claim7.holds Tryd.pinned (.plain (OpenSpec.upto raspTurnedSpec)) raspTurnedUptoCard

/-- THE SECOND FORM's CARD OF 'saronlaw03.RaspPlayed'. -/
def raspPlayedUptoCard : Claim7 := { stood := { row := raspPlayedUptoRow, standIns := [], harness := (true, "42085157845c52d29e159896979a8c5bb1f23c47d3329bd57ee842e9fc529b29"), looks := false }, kinds := [], alts := [], laidByText := true, laidKinds := [.funcs], laidTests := true, laidLooks := .later }
def RaspPlayedUptoCardSaid : Prop := Claim7.holds Tryd.pinned (.plain (OpenSpec.upto raspPlayedSpec)) raspPlayedUptoCard

/-- THE SECOND FORM's CARD OF 'saronlaw03.RaspKnown'. -/
def raspKnownUptoCard : Claim7 := { stood := { row := raspKnownUptoRow, standIns := [], harness := (true, "42085157845c52d29e159896979a8c5bb1f23c47d3329bd57ee842e9fc529b29"), looks := false }, kinds := [], alts := [], laidByText := true, laidKinds := [.funcs], laidTests := true, laidLooks := .later }
def RaspKnownUptoCardSaid : Prop := Claim7.holds Tryd.pinned (.plain (OpenSpec.upto raspKnownSpec)) raspKnownUptoCard
end Rows
end Go.Proofs.YtfmpbkolpjlfbaaDoor
