/-
  NARROWER THAN 'FOR EVERY INPUT', by the rows' own cells (each row's printed sentence says how): RaspNexts: laid · RaspKeys: laid · RaspPlays: laid · RaspTolds: laid · RaspSure: laid · RaspLeast: laid · RaspMore: laid · RaspEasier: laid · RaspEnough: laid · RaspSingle: laid · RaspTurned: laid · RaspPlayed: laid · RaspKnown: laid.
  DERIVED. THE GIVEN ROWS OF THIS SEAT. 13 by the template 'for every input the law returns true; each argument reads behind the call as it read before'; 0 by the template 'total and deterministic' (their statements: YtfmpbkolpjlfbaaDoorTotals.lean).
  GIVEN WITH THE SEED: the statements are not yours to turn. If you find one false, say at which input.
  Laid BY PROGRAM, IN A SANDBOX (cutbox-rows.mjs): the forced cells as the released guide's own fill.sh prints them over the translation 09e6817a81072101… (all of the seat's roots in one cut). By AI agents, Wed Nov 11 2026. No macro, syntax, notation, axiom, sorry.
-/
import Derived.Test.YtfmpbkolpjlfbaaDoorChecked
import GoSem.Claim
import GoSem.ClaimJoined
import GoSem.ClaimMapViews
import Derived.JoinedTies
import Derived.KernelRfl
namespace Go.Proofs.YtfmpbkolpjlfbaaDoor
/- THE CELL 'sum', in the pinned program and in every row, IS THE sha256 OF THE DUMP (.gsa) THAT YtfmpbkolpjlfbaaDoorProg.lean LOADS. Nothing in Lean hashes anything: it is a label: what it is worth is what the hold of that sum in a sandbox is worth. -/
noncomputable def Tryd.pinned : Pinned := { name := "ytfmpbkolpjlfbaadoor", sum := "09e6817a81072101a3820e48ca99d1cc8a89ba4a7791a9a9fdde48c872549597", checked := Tryd.checked }
namespace Rows
def none {H : Type} : Left H := { results := [], args := [] }

/- WHAT THE LISTED PACKAGE-LEVEL VARIABLES READ AS WHEN THE CALL BEGINS. Each datum BY PROGRAM (the guide's laid-datum.mjs) off the statement by which the dump's own 'gosem.cut.vars' lays the variable. In a bare row this is a premise. The card (YtfmpbkolpjlfbaaDoorCards.lean) ties it to the program's text. -/
def laid_saron_rasp_counts {H : Type} : DataW H := .iface "func table" (.agg [.iface "func" (.lit (.string [40, 115, 97, 114, 111, 110, 47, 114, 97, 115, 112, 46, 115, 104, 111, 112, 41, 46, 119, 111, 114, 115, 116])), .iface "func" (.lit (.string [40, 115, 97, 114, 111, 110, 47, 114, 97, 115, 112, 46, 115, 104, 111, 112, 41, 46, 98, 101, 115, 116]))])

/-- 'saronlaw03.RaspNexts': WHATEVER THE INPUT: true; the input reads as it did. -/
def raspNextsSpec : ChangeSpec := { name := "raspNexts", fn := fun _ => fun
  | [d1, d2] => { results := [.lit (.bool true)], args := [d1, d2] }
  | _ => none }
def raspNextsRow : OpenClaim := { program := "ytfmpbkolpjlfbaadoor", sum := "09e6817a81072101a3820e48ca99d1cc8a89ba4a7791a9a9fdde48c872549597", func := "saron/saronlaw03.RaspNexts", spec := "raspNexts", unfollowed := true, recurses := true, named := ["saron/rasp.counts"], plainKeys := false, apart := false, laid := [("saron/rasp.counts", laid_saron_rasp_counts)] }
def RaspNextsSaid : Prop := raspNextsRow.holds Tryd.pinned (OpenSpec.ofChange raspNextsSpec)

/-- ITS FALSE NEIGHBOUR: 'it returns false'. Refute it at one input. -/
def raspNextsWrong : ChangeSpec := { name := "raspNexts", fn := fun _ => fun
  | [d1, d2] => { results := [.lit (.bool false)], args := [d1, d2] }
  | _ => none }
def RaspNextsWrongFalsely : Prop := raspNextsRow.holds Tryd.pinned (OpenSpec.ofChange raspNextsWrong)

/-- 'saronlaw03.RaspKeys': WHATEVER THE INPUT: true; the input reads as it did. -/
def raspKeysSpec : ChangeSpec := { name := "raspKeys", fn := fun _ => fun
  | [d1, d2] => { results := [.lit (.bool true)], args := [d1, d2] }
  | _ => none }
def raspKeysRow : OpenClaim := { program := "ytfmpbkolpjlfbaadoor", sum := "09e6817a81072101a3820e48ca99d1cc8a89ba4a7791a9a9fdde48c872549597", func := "saron/saronlaw03.RaspKeys", spec := "raspKeys", unfollowed := true, recurses := true, named := ["saron/rasp.counts"], plainKeys := false, apart := false, laid := [("saron/rasp.counts", laid_saron_rasp_counts)] }
def RaspKeysSaid : Prop := raspKeysRow.holds Tryd.pinned (OpenSpec.ofChange raspKeysSpec)

/-- ITS FALSE NEIGHBOUR: 'it returns false'. Refute it at one input. -/
def raspKeysWrong : ChangeSpec := { name := "raspKeys", fn := fun _ => fun
  | [d1, d2] => { results := [.lit (.bool false)], args := [d1, d2] }
  | _ => none }
def RaspKeysWrongFalsely : Prop := raspKeysRow.holds Tryd.pinned (OpenSpec.ofChange raspKeysWrong)

/-- 'saronlaw03.RaspPlays': WHATEVER THE INPUT: true; the input reads as it did. -/
def raspPlaysSpec : ChangeSpec := { name := "raspPlays", fn := fun _ => fun
  | [d1, d2, d3] => { results := [.lit (.bool true)], args := [d1, d2, d3] }
  | _ => none }
def raspPlaysRow : OpenClaim := { program := "ytfmpbkolpjlfbaadoor", sum := "09e6817a81072101a3820e48ca99d1cc8a89ba4a7791a9a9fdde48c872549597", func := "saron/saronlaw03.RaspPlays", spec := "raspPlays", unfollowed := true, recurses := true, named := ["saron/rasp.counts"], plainKeys := false, apart := false, laid := [("saron/rasp.counts", laid_saron_rasp_counts)] }
def RaspPlaysSaid : Prop := raspPlaysRow.holds Tryd.pinned (OpenSpec.ofChange raspPlaysSpec)

/-- ITS FALSE NEIGHBOUR: 'it returns false'. Refute it at one input. -/
def raspPlaysWrong : ChangeSpec := { name := "raspPlays", fn := fun _ => fun
  | [d1, d2, d3] => { results := [.lit (.bool false)], args := [d1, d2, d3] }
  | _ => none }
def RaspPlaysWrongFalsely : Prop := raspPlaysRow.holds Tryd.pinned (OpenSpec.ofChange raspPlaysWrong)

/-- 'saronlaw03.RaspTolds': WHATEVER THE INPUT: true; the input reads as it did. -/
def raspToldsSpec : ChangeSpec := { name := "raspTolds", fn := fun _ => fun
  | [d1, d2] => { results := [.lit (.bool true)], args := [d1, d2] }
  | _ => none }
def raspToldsRow : OpenClaim := { program := "ytfmpbkolpjlfbaadoor", sum := "09e6817a81072101a3820e48ca99d1cc8a89ba4a7791a9a9fdde48c872549597", func := "saron/saronlaw03.RaspTolds", spec := "raspTolds", unfollowed := true, recurses := true, named := ["saron/rasp.counts"], plainKeys := false, apart := false, laid := [("saron/rasp.counts", laid_saron_rasp_counts)] }
def RaspToldsSaid : Prop := raspToldsRow.holds Tryd.pinned (OpenSpec.ofChange raspToldsSpec)

/-- ITS FALSE NEIGHBOUR: 'it returns false'. Refute it at one input. -/
def raspToldsWrong : ChangeSpec := { name := "raspTolds", fn := fun _ => fun
  | [d1, d2] => { results := [.lit (.bool false)], args := [d1, d2] }
  | _ => none }
def RaspToldsWrongFalsely : Prop := raspToldsRow.holds Tryd.pinned (OpenSpec.ofChange raspToldsWrong)

/-- 'saronlaw03.RaspSure': WHATEVER THE INPUT: true; the input reads as it did. -/
def raspSureSpec : ChangeSpec := { name := "raspSure", fn := fun _ => fun
  | [d1, d2, d3] => { results := [.lit (.bool true)], args := [d1, d2, d3] }
  | _ => none }
def raspSureRow : OpenClaim := { program := "ytfmpbkolpjlfbaadoor", sum := "09e6817a81072101a3820e48ca99d1cc8a89ba4a7791a9a9fdde48c872549597", func := "saron/saronlaw03.RaspSure", spec := "raspSure", unfollowed := true, recurses := true, named := ["saron/rasp.counts"], plainKeys := false, apart := false, laid := [("saron/rasp.counts", laid_saron_rasp_counts)] }
def RaspSureSaid : Prop := raspSureRow.holds Tryd.pinned (OpenSpec.ofChange raspSureSpec)

/-- ITS FALSE NEIGHBOUR: 'it returns false'. Refute it at one input. -/
def raspSureWrong : ChangeSpec := { name := "raspSure", fn := fun _ => fun
  | [d1, d2, d3] => { results := [.lit (.bool false)], args := [d1, d2, d3] }
  | _ => none }
def RaspSureWrongFalsely : Prop := raspSureRow.holds Tryd.pinned (OpenSpec.ofChange raspSureWrong)

/-- 'saronlaw03.RaspLeast': WHATEVER THE INPUT: true; the input reads as it did. -/
def raspLeastSpec : ChangeSpec := { name := "raspLeast", fn := fun _ => fun
  | [d1, d2] => { results := [.lit (.bool true)], args := [d1, d2] }
  | _ => none }
def raspLeastRow : OpenClaim := { program := "ytfmpbkolpjlfbaadoor", sum := "09e6817a81072101a3820e48ca99d1cc8a89ba4a7791a9a9fdde48c872549597", func := "saron/saronlaw03.RaspLeast", spec := "raspLeast", unfollowed := true, recurses := true, named := ["saron/rasp.counts"], plainKeys := false, apart := false, laid := [("saron/rasp.counts", laid_saron_rasp_counts)] }
def RaspLeastSaid : Prop := raspLeastRow.holds Tryd.pinned (OpenSpec.ofChange raspLeastSpec)

/-- ITS FALSE NEIGHBOUR: 'it returns false'. Refute it at one input. -/
def raspLeastWrong : ChangeSpec := { name := "raspLeast", fn := fun _ => fun
  | [d1, d2] => { results := [.lit (.bool false)], args := [d1, d2] }
  | _ => none }
def RaspLeastWrongFalsely : Prop := raspLeastRow.holds Tryd.pinned (OpenSpec.ofChange raspLeastWrong)

/-- 'saronlaw03.RaspMore': WHATEVER THE INPUT: true; the input reads as it did. -/
def raspMoreSpec : ChangeSpec := { name := "raspMore", fn := fun _ => fun
  | [d1, d2, d3, d4] => { results := [.lit (.bool true)], args := [d1, d2, d3, d4] }
  | _ => none }
def raspMoreRow : OpenClaim := { program := "ytfmpbkolpjlfbaadoor", sum := "09e6817a81072101a3820e48ca99d1cc8a89ba4a7791a9a9fdde48c872549597", func := "saron/saronlaw03.RaspMore", spec := "raspMore", unfollowed := true, recurses := true, named := ["saron/rasp.counts"], plainKeys := false, apart := false, laid := [("saron/rasp.counts", laid_saron_rasp_counts)] }
def RaspMoreSaid : Prop := raspMoreRow.holds Tryd.pinned (OpenSpec.ofChange raspMoreSpec)

/-- ITS FALSE NEIGHBOUR: 'it returns false'. Refute it at one input. -/
def raspMoreWrong : ChangeSpec := { name := "raspMore", fn := fun _ => fun
  | [d1, d2, d3, d4] => { results := [.lit (.bool false)], args := [d1, d2, d3, d4] }
  | _ => none }
def RaspMoreWrongFalsely : Prop := raspMoreRow.holds Tryd.pinned (OpenSpec.ofChange raspMoreWrong)

/-- 'saronlaw03.RaspEasier': WHATEVER THE INPUT: true; the input reads as it did. -/
def raspEasierSpec : ChangeSpec := { name := "raspEasier", fn := fun _ => fun
  | [d1, d2, d3] => { results := [.lit (.bool true)], args := [d1, d2, d3] }
  | _ => none }
def raspEasierRow : OpenClaim := { program := "ytfmpbkolpjlfbaadoor", sum := "09e6817a81072101a3820e48ca99d1cc8a89ba4a7791a9a9fdde48c872549597", func := "saron/saronlaw03.RaspEasier", spec := "raspEasier", unfollowed := true, recurses := true, named := ["saron/rasp.counts"], plainKeys := false, apart := false, laid := [("saron/rasp.counts", laid_saron_rasp_counts)] }
def RaspEasierSaid : Prop := raspEasierRow.holds Tryd.pinned (OpenSpec.ofChange raspEasierSpec)

/-- ITS FALSE NEIGHBOUR: 'it returns false'. Refute it at one input. -/
def raspEasierWrong : ChangeSpec := { name := "raspEasier", fn := fun _ => fun
  | [d1, d2, d3] => { results := [.lit (.bool false)], args := [d1, d2, d3] }
  | _ => none }
def RaspEasierWrongFalsely : Prop := raspEasierRow.holds Tryd.pinned (OpenSpec.ofChange raspEasierWrong)

/-- 'saronlaw03.RaspEnough': WHATEVER THE INPUT: true; the input reads as it did. -/
def raspEnoughSpec : ChangeSpec := { name := "raspEnough", fn := fun _ => fun
  | [d1, d2] => { results := [.lit (.bool true)], args := [d1, d2] }
  | _ => none }
def raspEnoughRow : OpenClaim := { program := "ytfmpbkolpjlfbaadoor", sum := "09e6817a81072101a3820e48ca99d1cc8a89ba4a7791a9a9fdde48c872549597", func := "saron/saronlaw03.RaspEnough", spec := "raspEnough", unfollowed := true, recurses := true, named := ["saron/rasp.counts"], plainKeys := false, apart := false, laid := [("saron/rasp.counts", laid_saron_rasp_counts)] }
def RaspEnoughSaid : Prop := raspEnoughRow.holds Tryd.pinned (OpenSpec.ofChange raspEnoughSpec)

/-- ITS FALSE NEIGHBOUR: 'it returns false'. Refute it at one input. -/
def raspEnoughWrong : ChangeSpec := { name := "raspEnough", fn := fun _ => fun
  | [d1, d2] => { results := [.lit (.bool false)], args := [d1, d2] }
  | _ => none }
def RaspEnoughWrongFalsely : Prop := raspEnoughRow.holds Tryd.pinned (OpenSpec.ofChange raspEnoughWrong)

/-- 'saronlaw03.RaspSingle': WHATEVER THE INPUT: true; the input reads as it did. -/
def raspSingleSpec : ChangeSpec := { name := "raspSingle", fn := fun _ => fun
  | [d1, d2, d3] => { results := [.lit (.bool true)], args := [d1, d2, d3] }
  | _ => none }
def raspSingleRow : OpenClaim := { program := "ytfmpbkolpjlfbaadoor", sum := "09e6817a81072101a3820e48ca99d1cc8a89ba4a7791a9a9fdde48c872549597", func := "saron/saronlaw03.RaspSingle", spec := "raspSingle", unfollowed := true, recurses := true, named := ["saron/rasp.counts"], plainKeys := false, apart := false, laid := [("saron/rasp.counts", laid_saron_rasp_counts)] }
def RaspSingleSaid : Prop := raspSingleRow.holds Tryd.pinned (OpenSpec.ofChange raspSingleSpec)

/-- ITS FALSE NEIGHBOUR: 'it returns false'. Refute it at one input. -/
def raspSingleWrong : ChangeSpec := { name := "raspSingle", fn := fun _ => fun
  | [d1, d2, d3] => { results := [.lit (.bool false)], args := [d1, d2, d3] }
  | _ => none }
def RaspSingleWrongFalsely : Prop := raspSingleRow.holds Tryd.pinned (OpenSpec.ofChange raspSingleWrong)

/-- 'saronlaw03.RaspTurned': WHATEVER THE INPUT: true; the input reads as it did. -/
def raspTurnedSpec : ChangeSpec := { name := "raspTurned", fn := fun _ => fun
  | [d1, d2] => { results := [.lit (.bool true)], args := [d1, d2] }
  | _ => none }
def raspTurnedRow : OpenClaim := { program := "ytfmpbkolpjlfbaadoor", sum := "09e6817a81072101a3820e48ca99d1cc8a89ba4a7791a9a9fdde48c872549597", func := "saron/saronlaw03.RaspTurned", spec := "raspTurned", unfollowed := true, recurses := true, named := ["saron/rasp.counts"], plainKeys := false, apart := false, laid := [("saron/rasp.counts", laid_saron_rasp_counts)] }
def RaspTurnedSaid : Prop := raspTurnedRow.holds Tryd.pinned (OpenSpec.ofChange raspTurnedSpec)

/-- ITS FALSE NEIGHBOUR: 'it returns false'. Refute it at one input. -/
def raspTurnedWrong : ChangeSpec := { name := "raspTurned", fn := fun _ => fun
  | [d1, d2] => { results := [.lit (.bool false)], args := [d1, d2] }
  | _ => none }
def RaspTurnedWrongFalsely : Prop := raspTurnedRow.holds Tryd.pinned (OpenSpec.ofChange raspTurnedWrong)

/-- 'saronlaw03.RaspPlayed': WHATEVER THE INPUT: true; the input reads as it did. -/
def raspPlayedSpec : ChangeSpec := { name := "raspPlayed", fn := fun _ => fun
  | [d1, d2, d3] => { results := [.lit (.bool true)], args := [d1, d2, d3] }
  | _ => none }
def raspPlayedRow : OpenClaim := { program := "ytfmpbkolpjlfbaadoor", sum := "09e6817a81072101a3820e48ca99d1cc8a89ba4a7791a9a9fdde48c872549597", func := "saron/saronlaw03.RaspPlayed", spec := "raspPlayed", unfollowed := true, recurses := true, named := ["saron/rasp.counts"], plainKeys := false, apart := false, laid := [("saron/rasp.counts", laid_saron_rasp_counts)] }
def RaspPlayedSaid : Prop := raspPlayedRow.holds Tryd.pinned (OpenSpec.ofChange raspPlayedSpec)

/-- ITS FALSE NEIGHBOUR: 'it returns false'. Refute it at one input. -/
def raspPlayedWrong : ChangeSpec := { name := "raspPlayed", fn := fun _ => fun
  | [d1, d2, d3] => { results := [.lit (.bool false)], args := [d1, d2, d3] }
  | _ => none }
def RaspPlayedWrongFalsely : Prop := raspPlayedRow.holds Tryd.pinned (OpenSpec.ofChange raspPlayedWrong)

/-- 'saronlaw03.RaspKnown': WHATEVER THE INPUT: true; the input reads as it did. -/
def raspKnownSpec : ChangeSpec := { name := "raspKnown", fn := fun _ => fun
  | [] => { results := [.lit (.bool true)], args := [] }
  | _ => none }
def raspKnownRow : OpenClaim := { program := "ytfmpbkolpjlfbaadoor", sum := "09e6817a81072101a3820e48ca99d1cc8a89ba4a7791a9a9fdde48c872549597", func := "saron/saronlaw03.RaspKnown", spec := "raspKnown", unfollowed := true, recurses := true, named := ["saron/rasp.counts"], plainKeys := false, apart := false, laid := [("saron/rasp.counts", laid_saron_rasp_counts)] }
def RaspKnownSaid : Prop := raspKnownRow.holds Tryd.pinned (OpenSpec.ofChange raspKnownSpec)

/-- ITS FALSE NEIGHBOUR: 'it returns false'. Refute it at one input. -/
def raspKnownWrong : ChangeSpec := { name := "raspKnown", fn := fun _ => fun
  | [] => { results := [.lit (.bool false)], args := [] }
  | _ => none }
def RaspKnownWrongFalsely : Prop := raspKnownRow.holds Tryd.pinned (OpenSpec.ofChange raspKnownWrong)

/- THE SECOND FORM. 'bulk': how many values and letters a reading holds, each counted each time it is reached (what is shared counts as often as it is met; a slice's spare places count too). A statement '..UptoSaid' is the law's where the arguments, and the package variables that the reading takes, are together of bulk at most 1048576: NARROWER than '..Said'. Prove '..Said' where nothing that the law and all that it calls make is longer than what came in: it says more and counts as full. Else prove '..UptoSaid'. A law counts once. -/
mutual
def uptoBulk {H : Type} : DataW H → Nat
  | .lit (.string bytes) => bytes.length + 1
  | .lit _ => 1
  | .nil => 1
  | .ptr d => uptoBulk d + 1
  | .slice elems spare => uptoBulkAll elems + uptoBulkAll spare + 1
  | .agg parts => uptoBulkAll parts + 1
  | .iface _ d => uptoBulk d + 1
  | .map entries => uptoBulkEntries entries + 1
  | .held _ => 1
def uptoBulkAll {H : Type} : List (DataW H) → Nat
  | [] => 0
  | d :: r => uptoBulk d + uptoBulkAll r
def uptoBulkEntries {H : Type} : List (Lit × DataW H) → Nat
  | [] => 0
  | x :: r => uptoBulkEntry x + uptoBulkEntries r
def uptoBulkEntry {H : Type} : Lit × DataW H → Nat
  | (.string bytes, d) => bytes.length + uptoBulk d + 1
  | (_, d) => uptoBulk d + 1
 end
def uptoSmall : (H : Type) → List (DataW H) → Bool := fun _ ds => decide (uptoBulkAll ds ≤ 1048576)
def OpenSpec.upto (s : _root_.Go.ChangeSpec) : _root_.Go.OpenSpec := { _root_.Go.OpenSpec.ofChange s with cond := some uptoSmall }

/-- 'saronlaw03.RaspNexts', WHERE WHAT IT READS IS OF BULK AT MOST 1048576: true; the input reads as it did. -/
def raspNextsUptoRow : OpenClaim := { program := "ytfmpbkolpjlfbaadoor", sum := "09e6817a81072101a3820e48ca99d1cc8a89ba4a7791a9a9fdde48c872549597", func := "saron/saronlaw03.RaspNexts", spec := "raspNexts", unfollowed := true, recurses := true, named := ["saron/rasp.counts"], plainKeys := false, apart := false, laid := [("saron/rasp.counts", laid_saron_rasp_counts)], narrowed := true }
def RaspNextsUptoSaid : Prop := raspNextsUptoRow.holds Tryd.pinned (OpenSpec.upto raspNextsSpec)

/-- 'saronlaw03.RaspKeys', WHERE WHAT IT READS IS OF BULK AT MOST 1048576: true; the input reads as it did. -/
def raspKeysUptoRow : OpenClaim := { program := "ytfmpbkolpjlfbaadoor", sum := "09e6817a81072101a3820e48ca99d1cc8a89ba4a7791a9a9fdde48c872549597", func := "saron/saronlaw03.RaspKeys", spec := "raspKeys", unfollowed := true, recurses := true, named := ["saron/rasp.counts"], plainKeys := false, apart := false, laid := [("saron/rasp.counts", laid_saron_rasp_counts)], narrowed := true }
def RaspKeysUptoSaid : Prop := raspKeysUptoRow.holds Tryd.pinned (OpenSpec.upto raspKeysSpec)

/-- 'saronlaw03.RaspPlays', WHERE WHAT IT READS IS OF BULK AT MOST 1048576: true; the input reads as it did. -/
def raspPlaysUptoRow : OpenClaim := { program := "ytfmpbkolpjlfbaadoor", sum := "09e6817a81072101a3820e48ca99d1cc8a89ba4a7791a9a9fdde48c872549597", func := "saron/saronlaw03.RaspPlays", spec := "raspPlays", unfollowed := true, recurses := true, named := ["saron/rasp.counts"], plainKeys := false, apart := false, laid := [("saron/rasp.counts", laid_saron_rasp_counts)], narrowed := true }
def RaspPlaysUptoSaid : Prop := raspPlaysUptoRow.holds Tryd.pinned (OpenSpec.upto raspPlaysSpec)

/-- 'saronlaw03.RaspTolds', WHERE WHAT IT READS IS OF BULK AT MOST 1048576: true; the input reads as it did. -/
def raspToldsUptoRow : OpenClaim := { program := "ytfmpbkolpjlfbaadoor", sum := "09e6817a81072101a3820e48ca99d1cc8a89ba4a7791a9a9fdde48c872549597", func := "saron/saronlaw03.RaspTolds", spec := "raspTolds", unfollowed := true, recurses := true, named := ["saron/rasp.counts"], plainKeys := false, apart := false, laid := [("saron/rasp.counts", laid_saron_rasp_counts)], narrowed := true }
def RaspToldsUptoSaid : Prop := raspToldsUptoRow.holds Tryd.pinned (OpenSpec.upto raspToldsSpec)

/-- 'saronlaw03.RaspSure', WHERE WHAT IT READS IS OF BULK AT MOST 1048576: true; the input reads as it did. -/
def raspSureUptoRow : OpenClaim := { program := "ytfmpbkolpjlfbaadoor", sum := "09e6817a81072101a3820e48ca99d1cc8a89ba4a7791a9a9fdde48c872549597", func := "saron/saronlaw03.RaspSure", spec := "raspSure", unfollowed := true, recurses := true, named := ["saron/rasp.counts"], plainKeys := false, apart := false, laid := [("saron/rasp.counts", laid_saron_rasp_counts)], narrowed := true }
def RaspSureUptoSaid : Prop := raspSureUptoRow.holds Tryd.pinned (OpenSpec.upto raspSureSpec)

/-- 'saronlaw03.RaspLeast', WHERE WHAT IT READS IS OF BULK AT MOST 1048576: true; the input reads as it did. -/
def raspLeastUptoRow : OpenClaim := { program := "ytfmpbkolpjlfbaadoor", sum := "09e6817a81072101a3820e48ca99d1cc8a89ba4a7791a9a9fdde48c872549597", func := "saron/saronlaw03.RaspLeast", spec := "raspLeast", unfollowed := true, recurses := true, named := ["saron/rasp.counts"], plainKeys := false, apart := false, laid := [("saron/rasp.counts", laid_saron_rasp_counts)], narrowed := true }
def RaspLeastUptoSaid : Prop := raspLeastUptoRow.holds Tryd.pinned (OpenSpec.upto raspLeastSpec)

/-- 'saronlaw03.RaspMore', WHERE WHAT IT READS IS OF BULK AT MOST 1048576: true; the input reads as it did. -/
def raspMoreUptoRow : OpenClaim := { program := "ytfmpbkolpjlfbaadoor", sum := "09e6817a81072101a3820e48ca99d1cc8a89ba4a7791a9a9fdde48c872549597", func := "saron/saronlaw03.RaspMore", spec := "raspMore", unfollowed := true, recurses := true, named := ["saron/rasp.counts"], plainKeys := false, apart := false, laid := [("saron/rasp.counts", laid_saron_rasp_counts)], narrowed := true }
def RaspMoreUptoSaid : Prop := raspMoreUptoRow.holds Tryd.pinned (OpenSpec.upto raspMoreSpec)

/-- 'saronlaw03.RaspEasier', WHERE WHAT IT READS IS OF BULK AT MOST 1048576: true; the input reads as it did. -/
def raspEasierUptoRow : OpenClaim := { program := "ytfmpbkolpjlfbaadoor", sum := "09e6817a81072101a3820e48ca99d1cc8a89ba4a7791a9a9fdde48c872549597", func := "saron/saronlaw03.RaspEasier", spec := "raspEasier", unfollowed := true, recurses := true, named := ["saron/rasp.counts"], plainKeys := false, apart := false, laid := [("saron/rasp.counts", laid_saron_rasp_counts)], narrowed := true }
def RaspEasierUptoSaid : Prop := raspEasierUptoRow.holds Tryd.pinned (OpenSpec.upto raspEasierSpec)

/-- 'saronlaw03.RaspEnough', WHERE WHAT IT READS IS OF BULK AT MOST 1048576: true; the input reads as it did. -/
def raspEnoughUptoRow : OpenClaim := { program := "ytfmpbkolpjlfbaadoor", sum := "09e6817a81072101a3820e48ca99d1cc8a89ba4a7791a9a9fdde48c872549597", func := "saron/saronlaw03.RaspEnough", spec := "raspEnough", unfollowed := true, recurses := true, named := ["saron/rasp.counts"], plainKeys := false, apart := false, laid := [("saron/rasp.counts", laid_saron_rasp_counts)], narrowed := true }
def RaspEnoughUptoSaid : Prop := raspEnoughUptoRow.holds Tryd.pinned (OpenSpec.upto raspEnoughSpec)

/-- 'saronlaw03.RaspSingle', WHERE WHAT IT READS IS OF BULK AT MOST 1048576: true; the input reads as it did. -/
def raspSingleUptoRow : OpenClaim := { program := "ytfmpbkolpjlfbaadoor", sum := "09e6817a81072101a3820e48ca99d1cc8a89ba4a7791a9a9fdde48c872549597", func := "saron/saronlaw03.RaspSingle", spec := "raspSingle", unfollowed := true, recurses := true, named := ["saron/rasp.counts"], plainKeys := false, apart := false, laid := [("saron/rasp.counts", laid_saron_rasp_counts)], narrowed := true }
def RaspSingleUptoSaid : Prop := raspSingleUptoRow.holds Tryd.pinned (OpenSpec.upto raspSingleSpec)

/-- 'saronlaw03.RaspTurned', WHERE WHAT IT READS IS OF BULK AT MOST 1048576: true; the input reads as it did. -/
def raspTurnedUptoRow : OpenClaim := { program := "ytfmpbkolpjlfbaadoor", sum := "09e6817a81072101a3820e48ca99d1cc8a89ba4a7791a9a9fdde48c872549597", func := "saron/saronlaw03.RaspTurned", spec := "raspTurned", unfollowed := true, recurses := true, named := ["saron/rasp.counts"], plainKeys := false, apart := false, laid := [("saron/rasp.counts", laid_saron_rasp_counts)], narrowed := true }
def RaspTurnedUptoSaid : Prop := raspTurnedUptoRow.holds Tryd.pinned (OpenSpec.upto raspTurnedSpec)

/-- 'saronlaw03.RaspPlayed', WHERE WHAT IT READS IS OF BULK AT MOST 1048576: true; the input reads as it did. -/
def raspPlayedUptoRow : OpenClaim := { program := "ytfmpbkolpjlfbaadoor", sum := "09e6817a81072101a3820e48ca99d1cc8a89ba4a7791a9a9fdde48c872549597", func := "saron/saronlaw03.RaspPlayed", spec := "raspPlayed", unfollowed := true, recurses := true, named := ["saron/rasp.counts"], plainKeys := false, apart := false, laid := [("saron/rasp.counts", laid_saron_rasp_counts)], narrowed := true }
def RaspPlayedUptoSaid : Prop := raspPlayedUptoRow.holds Tryd.pinned (OpenSpec.upto raspPlayedSpec)

/-- 'saronlaw03.RaspKnown', WHERE WHAT IT READS IS OF BULK AT MOST 1048576: true; the input reads as it did. -/
def raspKnownUptoRow : OpenClaim := { program := "ytfmpbkolpjlfbaadoor", sum := "09e6817a81072101a3820e48ca99d1cc8a89ba4a7791a9a9fdde48c872549597", func := "saron/saronlaw03.RaspKnown", spec := "raspKnown", unfollowed := true, recurses := true, named := ["saron/rasp.counts"], plainKeys := false, apart := false, laid := [("saron/rasp.counts", laid_saron_rasp_counts)], narrowed := true }
def RaspKnownUptoSaid : Prop := raspKnownUptoRow.holds Tryd.pinned (OpenSpec.upto raspKnownSpec)

end Rows
end Go.Proofs.YtfmpbkolpjlfbaaDoor
