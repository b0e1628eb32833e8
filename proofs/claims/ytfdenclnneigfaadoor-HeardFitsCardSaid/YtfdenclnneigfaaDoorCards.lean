/-
  DERIVED. GIVEN WITH THE SEED: THE CARDS: each row of YtfdenclnneigfaaDoorRows.lean that lists a variable, with what it lists TIED to the program's text (the seventh form; the later family's looks); each row that meets fmt, with fmt's text TOLD by the authors' own Lean function (tested against real Go, not proved from fmt's source: count such statements apart). THE CARD IS WHAT COUNTS. Prove the row's statement (the work); the ties are given (YtfdenclnneigfaaDoorTie.lean); close each card by the builder's one call (the guide's Derived/Test/ToyasCard.lean, 'card_holds'). Laid BY PROGRAM, IN A SANDBOX (cutbox-door.mjs). By AI agents, Wed Nov 11 2026. No macro, syntax, notation, axiom, sorry.
-/
import Derived.Test.YtfdenclnneigfaaDoorRows
import GoSem.ClaimSeven
namespace Go.Proofs.YtfdenclnneigfaaDoor
namespace Rows

/-- THE TIED CARD OF 'saronlaw09.HeardFits'. -/
def heardFitsCard : Claim7 := { stood := { row := heardFitsRow, standIns := [], harness := (true, "10262c8289aeee3d9a966e37e9ea2ad6fb9b2369198df6d2e92e3238241feb95"), looks := false }, kinds := [], alts := [], laidByText := true, laidKinds := [.funcs], laidTests := true, laidLooks := .later }
def HeardFitsCardSaid : Prop := Claim7.holds Tryd.pinned (.plain (OpenSpec.ofChange heardFitsSpec)) heardFitsCard

/-- THE TIED CARD OF 'saronlaw09.HeardStrokes'. -/
def heardStrokesCard : Claim7 := { stood := { row := heardStrokesRow, standIns := [], harness := (true, "10262c8289aeee3d9a966e37e9ea2ad6fb9b2369198df6d2e92e3238241feb95"), looks := false }, kinds := [], alts := [], laidByText := true, laidKinds := [.funcs], laidTests := true, laidLooks := .later }
def HeardStrokesCardSaid : Prop := Claim7.holds Tryd.pinned (.plain (OpenSpec.ofChange heardStrokesSpec)) heardStrokesCard

/-- THE TIED CARD OF 'saronlaw09.HeardAll'. -/
def heardAllCard : Claim7 := { stood := { row := heardAllRow, standIns := [], harness := (true, "10262c8289aeee3d9a966e37e9ea2ad6fb9b2369198df6d2e92e3238241feb95"), looks := false }, kinds := [], alts := [], laidByText := true, laidKinds := [.funcs], laidTests := true, laidLooks := .later }
def HeardAllCardSaid : Prop := Claim7.holds Tryd.pinned (.plain (OpenSpec.ofChange heardAllSpec)) heardAllCard

/-- THE TIED CARD OF 'saronlaw09.HeardWholes'. -/
def heardWholesCard : Claim7 := { stood := { row := heardWholesRow, standIns := [], harness := (true, "10262c8289aeee3d9a966e37e9ea2ad6fb9b2369198df6d2e92e3238241feb95"), looks := false }, kinds := [], alts := [], laidByText := true, laidKinds := [.funcs], laidTests := true, laidLooks := .later }
def HeardWholesCardSaid : Prop := Claim7.holds Tryd.pinned (.plain (OpenSpec.ofChange heardWholesSpec)) heardWholesCard

/-- THE TIED CARD OF 'saronlaw09.HeardTrue'. -/
def heardTrueCard : Claim7 := { stood := { row := heardTrueRow, standIns := [], harness := (true, "10262c8289aeee3d9a966e37e9ea2ad6fb9b2369198df6d2e92e3238241feb95"), looks := false }, kinds := [], alts := [], laidByText := true, laidKinds := [.funcs], laidTests := true, laidLooks := .later }
def HeardTrueCardSaid : Prop := Claim7.holds Tryd.pinned (.plain (OpenSpec.ofChange heardTrueSpec)) heardTrueCard

/-- THE TIED CARD OF 'saronlaw09.HeardRead'. -/
def heardReadCard : Claim7 := { stood := { row := heardReadRow, standIns := [], harness := (true, "10262c8289aeee3d9a966e37e9ea2ad6fb9b2369198df6d2e92e3238241feb95"), looks := false }, kinds := [], alts := [], laidByText := true, laidKinds := [.funcs], laidTests := true, laidLooks := .later }
def HeardReadCardSaid : Prop := Claim7.holds Tryd.pinned (.plain (OpenSpec.ofChange heardReadSpec)) heardReadCard

/-- THE TIED CARD OF 'saronlaw09.HeardMore'. -/
def heardMoreCard : Claim7 := { stood := { row := heardMoreRow, standIns := [], harness := (true, "10262c8289aeee3d9a966e37e9ea2ad6fb9b2369198df6d2e92e3238241feb95"), looks := false }, kinds := [], alts := [], laidByText := true, laidKinds := [.funcs], laidTests := true, laidLooks := .later }
def HeardMoreCardSaid : Prop := Claim7.holds Tryd.pinned (.plain (OpenSpec.ofChange heardMoreSpec)) heardMoreCard

/-- THE TIED CARD OF 'saronlaw09.HeardTogether'. -/
def heardTogetherCard : Claim7 := { stood := { row := heardTogetherRow, standIns := [], harness := (true, "10262c8289aeee3d9a966e37e9ea2ad6fb9b2369198df6d2e92e3238241feb95"), looks := false }, kinds := [], alts := [], laidByText := true, laidKinds := [.funcs], laidTests := true, laidLooks := .later }
def HeardTogetherCardSaid : Prop := Claim7.holds Tryd.pinned (.plain (OpenSpec.ofChange heardTogetherSpec)) heardTogetherCard

/-- THE TIED CARD OF 'saronlaw09.HeardSure'. -/
def heardSureCard : Claim7 := { stood := { row := heardSureRow, standIns := [], harness := (true, "10262c8289aeee3d9a966e37e9ea2ad6fb9b2369198df6d2e92e3238241feb95"), looks := false }, kinds := [], alts := [], laidByText := true, laidKinds := [.funcs], laidTests := true, laidLooks := .later }
def HeardSureCardSaid : Prop := Claim7.holds Tryd.pinned (.plain (OpenSpec.ofChange heardSureSpec)) heardSureCard

/-- THE TIED CARD OF 'saronlaw09.HeardCommon'. -/
def heardCommonCard : Claim7 := { stood := { row := heardCommonRow, standIns := [], harness := (true, "10262c8289aeee3d9a966e37e9ea2ad6fb9b2369198df6d2e92e3238241feb95"), looks := false }, kinds := [], alts := [], laidByText := true, laidKinds := [.funcs], laidTests := true, laidLooks := .later }
def HeardCommonCardSaid : Prop := Claim7.holds Tryd.pinned (.plain (OpenSpec.ofChange heardCommonSpec)) heardCommonCard

/-- THE TIED CARD OF 'saronlaw09.HeardKnown'. -/
def heardKnownCard : Claim7 := { stood := { row := heardKnownRow, standIns := [], harness := (true, "10262c8289aeee3d9a966e37e9ea2ad6fb9b2369198df6d2e92e3238241feb95"), looks := false }, kinds := [], alts := [], laidByText := true, laidKinds := [.funcs], laidTests := true, laidLooks := .later }
def HeardKnownCardSaid : Prop := Claim7.holds Tryd.pinned (.plain (OpenSpec.ofChange heardKnownSpec)) heardKnownCard

/-- THE SECOND FORM's CARD OF 'saronlaw09.HeardFits'. -/
def heardFitsUptoCard : Claim7 := { stood := { row := heardFitsUptoRow, standIns := [], harness := (true, "10262c8289aeee3d9a966e37e9ea2ad6fb9b2369198df6d2e92e3238241feb95"), looks := false }, kinds := [], alts := [], laidByText := true, laidKinds := [.funcs], laidTests := true, laidLooks := .later }
def HeardFitsUptoCardSaid : Prop := Claim7.holds Tryd.pinned (.plain (OpenSpec.upto heardFitsSpec)) heardFitsUptoCard

/-- THE SECOND FORM's CARD OF 'saronlaw09.HeardStrokes'. -/
def heardStrokesUptoCard : Claim7 := { stood := { row := heardStrokesUptoRow, standIns := [], harness := (true, "10262c8289aeee3d9a966e37e9ea2ad6fb9b2369198df6d2e92e3238241feb95"), looks := false }, kinds := [], alts := [], laidByText := true, laidKinds := [.funcs], laidTests := true, laidLooks := .later }
def HeardStrokesUptoCardSaid : Prop := Claim7.holds Tryd.pinned (.plain (OpenSpec.upto heardStrokesSpec)) heardStrokesUptoCard

/-- THE SECOND FORM's CARD OF 'saronlaw09.HeardAll'. -/
def heardAllUptoCard : Claim7 := { stood := { row := heardAllUptoRow, standIns := [], harness := (true, "10262c8289aeee3d9a966e37e9ea2ad6fb9b2369198df6d2e92e3238241feb95"), looks := false }, kinds := [], alts := [], laidByText := true, laidKinds := [.funcs], laidTests := true, laidLooks := .later }
def HeardAllUptoCardSaid : Prop := Claim7.holds Tryd.pinned (.plain (OpenSpec.upto heardAllSpec)) heardAllUptoCard

/-- THE SECOND FORM's CARD OF 'saronlaw09.HeardWholes'. -/
def heardWholesUptoCard : Claim7 := { stood := { row := heardWholesUptoRow, standIns := [], harness := (true, "10262c8289aeee3d9a966e37e9ea2ad6fb9b2369198df6d2e92e3238241feb95"), looks := false }, kinds := [], alts := [], laidByText := true, laidKinds := [.funcs], laidTests := true, laidLooks := .later }
def HeardWholesUptoCardSaid : Prop := Claim7.holds Tryd.pinned (.plain (OpenSpec.upto heardWholesSpec)) heardWholesUptoCard

/-- THE SECOND FORM's CARD OF 'saronlaw09.HeardTrue'. -/
def heardTrueUptoCard : Claim7 := { stood := { row := heardTrueUptoRow, standIns := [], harness := (true, "10262c8289aeee3d9a966e37e9ea2ad6fb9b2369198df6d2e92e3238241feb95"), looks := false }, kinds := [], alts := [], laidByText := true, laidKinds := [.funcs], laidTests := true, laidLooks := .later }
def HeardTrueUptoCardSaid : Prop := Claim7.holds Tryd.pinned (.plain (OpenSpec.upto heardTrueSpec)) heardTrueUptoCard

/-- THE SECOND FORM's CARD OF 'saronlaw09.HeardRead'. -/
def heardReadUptoCard : Claim7 := { stood := { row := heardReadUptoRow, standIns := [], harness := (true, "10262c8289aeee3d9a966e37e9ea2ad6fb9b2369198df6d2e92e3238241feb95"), looks := false }, kinds := [], alts := [], laidByText := true, laidKinds := [.funcs], laidTests := true, laidLooks := .later }
def HeardReadUptoCardSaid : Prop := Claim7.holds Tryd.pinned (.plain (OpenSpec.upto heardReadSpec)) heardReadUptoCard

/-- THE SECOND FORM's CARD OF 'saronlaw09.HeardMore'. -/
def heardMoreUptoCard : Claim7 := { stood := { row := heardMoreUptoRow, standIns := [], harness := (true, "10262c8289aeee3d9a966e37e9ea2ad6fb9b2369198df6d2e92e3238241feb95"), looks := false }, kinds := [], alts := [], laidByText := true, laidKinds := [.funcs], laidTests := true, laidLooks := .later }
def HeardMoreUptoCardSaid : Prop := Claim7.holds Tryd.pinned (.plain (OpenSpec.upto heardMoreSpec)) heardMoreUptoCard

/-- THE SECOND FORM's CARD OF 'saronlaw09.HeardTogether'. -/
def heardTogetherUptoCard : Claim7 := { stood := { row := heardTogetherUptoRow, standIns := [], harness := (true, "10262c8289aeee3d9a966e37e9ea2ad6fb9b2369198df6d2e92e3238241feb95"), looks := false }, kinds := [], alts := [], laidByText := true, laidKinds := [.funcs], laidTests := true, laidLooks := .later }
def HeardTogetherUptoCardSaid : Prop := Claim7.holds Tryd.pinned (.plain (OpenSpec.upto heardTogetherSpec)) heardTogetherUptoCard

/-- THE SECOND FORM's CARD OF 'saronlaw09.HeardSure'. -/
def heardSureUptoCard : Claim7 := { stood := { row := heardSureUptoRow, standIns := [], harness := (true, "10262c8289aeee3d9a966e37e9ea2ad6fb9b2369198df6d2e92e3238241feb95"), looks := false }, kinds := [], alts := [], laidByText := true, laidKinds := [.funcs], laidTests := true, laidLooks := .later }
def HeardSureUptoCardSaid : Prop := Claim7.holds Tryd.pinned (.plain (OpenSpec.upto heardSureSpec)) heardSureUptoCard

/-- THE SECOND FORM's CARD OF 'saronlaw09.HeardCommon'. -/
def heardCommonUptoCard : Claim7 := { stood := { row := heardCommonUptoRow, standIns := [], harness := (true, "10262c8289aeee3d9a966e37e9ea2ad6fb9b2369198df6d2e92e3238241feb95"), looks := false }, kinds := [], alts := [], laidByText := true, laidKinds := [.funcs], laidTests := true, laidLooks := .later }
def HeardCommonUptoCardSaid : Prop := Claim7.holds Tryd.pinned (.plain (OpenSpec.upto heardCommonSpec)) heardCommonUptoCard

/-- THE SECOND FORM's CARD OF 'saronlaw09.HeardKnown'. -/
def heardKnownUptoCard : Claim7 := { stood := { row := heardKnownUptoRow, standIns := [], harness := (true, "10262c8289aeee3d9a966e37e9ea2ad6fb9b2369198df6d2e92e3238241feb95"), looks := false }, kinds := [], alts := [], laidByText := true, laidKinds := [.funcs], laidTests := true, laidLooks := .later }
def HeardKnownUptoCardSaid : Prop := Claim7.holds Tryd.pinned (.plain (OpenSpec.upto heardKnownSpec)) heardKnownUptoCard
end Rows
end Go.Proofs.YtfdenclnneigfaaDoor
