/-
  NARROWER THAN 'FOR EVERY INPUT', by the rows' own cells (each row's printed sentence says how): CycleStrokes: laid · CycleHears: laid · CycleSures: laid · CycleRound: laid · CycleNext: laid · CycleTrue: laid · CycleOther: laid · CycleFewer: laid · CycleSure: laid · CycleConfused: laid · CycleKnown: laid.
  DERIVED. THE GIVEN ROWS OF THIS SEAT. 11 by the template 'for every input the law returns true; each argument reads behind the call as it read before'; 0 by the template 'total and deterministic' (their statements: YtephecfapclgfaaDoorTotals.lean).
  GIVEN WITH THE SEED: the statements are not yours to turn. If you find one false, say at which input.
  Laid BY PROGRAM, IN A SANDBOX (cutbox-rows.mjs): the forced cells as the released guide's own fill.sh prints them over the translation dba5d4ccdb841f62… (all of the seat's roots in one cut). By AI agents, Wed Nov 11 2026. No macro, syntax, notation, axiom, sorry.
-/
import Derived.Test.YtephecfapclgfaaDoorChecked
import GoSem.Claim
import GoSem.ClaimJoined
import GoSem.ClaimMapViews
import Derived.JoinedTies
import Derived.KernelRfl
namespace Go.Proofs.YtephecfapclgfaaDoor
/- THE CELL 'sum', in the pinned program and in every row, IS THE sha256 OF THE DUMP (.gsa) THAT YtephecfapclgfaaDoorProg.lean LOADS. Nothing in Lean hashes anything: it is a label: what it is worth is what the hold of that sum in a sandbox is worth. -/
noncomputable def Tryd.pinned : Pinned := { name := "ytephecfapclgfaadoor", sum := "dba5d4ccdb841f629b012412314f9fc52e27fe1c67b0de3095695132c589a346", checked := Tryd.checked }
namespace Rows
def none {H : Type} : Left H := { results := [], args := [] }

/- WHAT THE LISTED PACKAGE-LEVEL VARIABLES READ AS WHEN THE CALL BEGINS. Each datum BY PROGRAM (the guide's laid-datum.mjs) off the statement by which the dump's own 'gosem.cut.vars' lays the variable. In a bare row this is a premise. The card (YtephecfapclgfaaDoorCards.lean) ties it to the program's text. -/
def laid_saron_cycle_sides {H : Type} : DataW H := .iface "func table" (.agg [.iface "func" (.lit (.string [40, 115, 97, 114, 111, 110, 47, 99, 121, 99, 108, 101, 46, 116, 119, 111, 41, 46, 109, 105, 110, 101])), .iface "func" (.lit (.string [40, 115, 97, 114, 111, 110, 47, 99, 121, 99, 108, 101, 46, 116, 119, 111, 41, 46, 116, 104, 101, 105, 114, 115]))])

/-- 'saronlaw05.CycleStrokes': WHATEVER THE INPUT: true; the input reads as it did. -/
def cycleStrokesSpec : ChangeSpec := { name := "cycleStrokes", fn := fun _ => fun
  | [d1, d2] => { results := [.lit (.bool true)], args := [d1, d2] }
  | _ => none }
def cycleStrokesRow : OpenClaim := { program := "ytephecfapclgfaadoor", sum := "dba5d4ccdb841f629b012412314f9fc52e27fe1c67b0de3095695132c589a346", func := "saron/saronlaw05.CycleStrokes", spec := "cycleStrokes", unfollowed := true, recurses := true, named := ["saron/cycle.sides"], plainKeys := false, apart := false, laid := [("saron/cycle.sides", laid_saron_cycle_sides)] }
def CycleStrokesSaid : Prop := cycleStrokesRow.holds Tryd.pinned (OpenSpec.ofChange cycleStrokesSpec)

/-- ITS FALSE NEIGHBOUR: 'it returns false'. Refute it at one input. -/
def cycleStrokesWrong : ChangeSpec := { name := "cycleStrokes", fn := fun _ => fun
  | [d1, d2] => { results := [.lit (.bool false)], args := [d1, d2] }
  | _ => none }
def CycleStrokesWrongFalsely : Prop := cycleStrokesRow.holds Tryd.pinned (OpenSpec.ofChange cycleStrokesWrong)

/-- 'saronlaw05.CycleHears': WHATEVER THE INPUT: true; the input reads as it did. -/
def cycleHearsSpec : ChangeSpec := { name := "cycleHears", fn := fun _ => fun
  | [d] => { results := [.lit (.bool true)], args := [d] }
  | _ => none }
def cycleHearsRow : OpenClaim := { program := "ytephecfapclgfaadoor", sum := "dba5d4ccdb841f629b012412314f9fc52e27fe1c67b0de3095695132c589a346", func := "saron/saronlaw05.CycleHears", spec := "cycleHears", unfollowed := true, recurses := true, named := ["saron/cycle.sides"], plainKeys := false, apart := false, laid := [("saron/cycle.sides", laid_saron_cycle_sides)] }
def CycleHearsSaid : Prop := cycleHearsRow.holds Tryd.pinned (OpenSpec.ofChange cycleHearsSpec)

/-- ITS FALSE NEIGHBOUR: 'it returns false'. Refute it at one input. -/
def cycleHearsWrong : ChangeSpec := { name := "cycleHears", fn := fun _ => fun
  | [d] => { results := [.lit (.bool false)], args := [d] }
  | _ => none }
def CycleHearsWrongFalsely : Prop := cycleHearsRow.holds Tryd.pinned (OpenSpec.ofChange cycleHearsWrong)

/-- 'saronlaw05.CycleSures': WHATEVER THE INPUT: true; the input reads as it did. -/
def cycleSuresSpec : ChangeSpec := { name := "cycleSures", fn := fun _ => fun
  | [d1, d2] => { results := [.lit (.bool true)], args := [d1, d2] }
  | _ => none }
def cycleSuresRow : OpenClaim := { program := "ytephecfapclgfaadoor", sum := "dba5d4ccdb841f629b012412314f9fc52e27fe1c67b0de3095695132c589a346", func := "saron/saronlaw05.CycleSures", spec := "cycleSures", unfollowed := true, recurses := true, named := ["saron/cycle.sides"], plainKeys := false, apart := false, laid := [("saron/cycle.sides", laid_saron_cycle_sides)] }
def CycleSuresSaid : Prop := cycleSuresRow.holds Tryd.pinned (OpenSpec.ofChange cycleSuresSpec)

/-- ITS FALSE NEIGHBOUR: 'it returns false'. Refute it at one input. -/
def cycleSuresWrong : ChangeSpec := { name := "cycleSures", fn := fun _ => fun
  | [d1, d2] => { results := [.lit (.bool false)], args := [d1, d2] }
  | _ => none }
def CycleSuresWrongFalsely : Prop := cycleSuresRow.holds Tryd.pinned (OpenSpec.ofChange cycleSuresWrong)

/-- 'saronlaw05.CycleRound': WHATEVER THE INPUT: true; the input reads as it did. -/
def cycleRoundSpec : ChangeSpec := { name := "cycleRound", fn := fun _ => fun
  | [d1, d2] => { results := [.lit (.bool true)], args := [d1, d2] }
  | _ => none }
def cycleRoundRow : OpenClaim := { program := "ytephecfapclgfaadoor", sum := "dba5d4ccdb841f629b012412314f9fc52e27fe1c67b0de3095695132c589a346", func := "saron/saronlaw05.CycleRound", spec := "cycleRound", unfollowed := true, recurses := true, named := ["saron/cycle.sides"], plainKeys := false, apart := false, laid := [("saron/cycle.sides", laid_saron_cycle_sides)] }
def CycleRoundSaid : Prop := cycleRoundRow.holds Tryd.pinned (OpenSpec.ofChange cycleRoundSpec)

/-- ITS FALSE NEIGHBOUR: 'it returns false'. Refute it at one input. -/
def cycleRoundWrong : ChangeSpec := { name := "cycleRound", fn := fun _ => fun
  | [d1, d2] => { results := [.lit (.bool false)], args := [d1, d2] }
  | _ => none }
def CycleRoundWrongFalsely : Prop := cycleRoundRow.holds Tryd.pinned (OpenSpec.ofChange cycleRoundWrong)

/-- 'saronlaw05.CycleNext': WHATEVER THE INPUT: true; the input reads as it did. -/
def cycleNextSpec : ChangeSpec := { name := "cycleNext", fn := fun _ => fun
  | [d1, d2] => { results := [.lit (.bool true)], args := [d1, d2] }
  | _ => none }
def cycleNextRow : OpenClaim := { program := "ytephecfapclgfaadoor", sum := "dba5d4ccdb841f629b012412314f9fc52e27fe1c67b0de3095695132c589a346", func := "saron/saronlaw05.CycleNext", spec := "cycleNext", unfollowed := true, recurses := true, named := ["saron/cycle.sides"], plainKeys := false, apart := false, laid := [("saron/cycle.sides", laid_saron_cycle_sides)] }
def CycleNextSaid : Prop := cycleNextRow.holds Tryd.pinned (OpenSpec.ofChange cycleNextSpec)

/-- ITS FALSE NEIGHBOUR: 'it returns false'. Refute it at one input. -/
def cycleNextWrong : ChangeSpec := { name := "cycleNext", fn := fun _ => fun
  | [d1, d2] => { results := [.lit (.bool false)], args := [d1, d2] }
  | _ => none }
def CycleNextWrongFalsely : Prop := cycleNextRow.holds Tryd.pinned (OpenSpec.ofChange cycleNextWrong)

/-- 'saronlaw05.CycleTrue': WHATEVER THE INPUT: true; the input reads as it did. -/
def cycleTrueSpec : ChangeSpec := { name := "cycleTrue", fn := fun _ => fun
  | [d1, d2, d3] => { results := [.lit (.bool true)], args := [d1, d2, d3] }
  | _ => none }
def cycleTrueRow : OpenClaim := { program := "ytephecfapclgfaadoor", sum := "dba5d4ccdb841f629b012412314f9fc52e27fe1c67b0de3095695132c589a346", func := "saron/saronlaw05.CycleTrue", spec := "cycleTrue", unfollowed := true, recurses := true, named := ["saron/cycle.sides"], plainKeys := false, apart := false, laid := [("saron/cycle.sides", laid_saron_cycle_sides)] }
def CycleTrueSaid : Prop := cycleTrueRow.holds Tryd.pinned (OpenSpec.ofChange cycleTrueSpec)

/-- ITS FALSE NEIGHBOUR: 'it returns false'. Refute it at one input. -/
def cycleTrueWrong : ChangeSpec := { name := "cycleTrue", fn := fun _ => fun
  | [d1, d2, d3] => { results := [.lit (.bool false)], args := [d1, d2, d3] }
  | _ => none }
def CycleTrueWrongFalsely : Prop := cycleTrueRow.holds Tryd.pinned (OpenSpec.ofChange cycleTrueWrong)

/-- 'saronlaw05.CycleOther': WHATEVER THE INPUT: true; the input reads as it did. -/
def cycleOtherSpec : ChangeSpec := { name := "cycleOther", fn := fun _ => fun
  | [d1, d2, d3] => { results := [.lit (.bool true)], args := [d1, d2, d3] }
  | _ => none }
def cycleOtherRow : OpenClaim := { program := "ytephecfapclgfaadoor", sum := "dba5d4ccdb841f629b012412314f9fc52e27fe1c67b0de3095695132c589a346", func := "saron/saronlaw05.CycleOther", spec := "cycleOther", unfollowed := true, recurses := true, named := ["saron/cycle.sides"], plainKeys := false, apart := false, laid := [("saron/cycle.sides", laid_saron_cycle_sides)] }
def CycleOtherSaid : Prop := cycleOtherRow.holds Tryd.pinned (OpenSpec.ofChange cycleOtherSpec)

/-- ITS FALSE NEIGHBOUR: 'it returns false'. Refute it at one input. -/
def cycleOtherWrong : ChangeSpec := { name := "cycleOther", fn := fun _ => fun
  | [d1, d2, d3] => { results := [.lit (.bool false)], args := [d1, d2, d3] }
  | _ => none }
def CycleOtherWrongFalsely : Prop := cycleOtherRow.holds Tryd.pinned (OpenSpec.ofChange cycleOtherWrong)

/-- 'saronlaw05.CycleFewer': WHATEVER THE INPUT: true; the input reads as it did. -/
def cycleFewerSpec : ChangeSpec := { name := "cycleFewer", fn := fun _ => fun
  | [d1, d2, d3] => { results := [.lit (.bool true)], args := [d1, d2, d3] }
  | _ => none }
def cycleFewerRow : OpenClaim := { program := "ytephecfapclgfaadoor", sum := "dba5d4ccdb841f629b012412314f9fc52e27fe1c67b0de3095695132c589a346", func := "saron/saronlaw05.CycleFewer", spec := "cycleFewer", unfollowed := true, recurses := true, named := ["saron/cycle.sides"], plainKeys := false, apart := false, laid := [("saron/cycle.sides", laid_saron_cycle_sides)] }
def CycleFewerSaid : Prop := cycleFewerRow.holds Tryd.pinned (OpenSpec.ofChange cycleFewerSpec)

/-- ITS FALSE NEIGHBOUR: 'it returns false'. Refute it at one input. -/
def cycleFewerWrong : ChangeSpec := { name := "cycleFewer", fn := fun _ => fun
  | [d1, d2, d3] => { results := [.lit (.bool false)], args := [d1, d2, d3] }
  | _ => none }
def CycleFewerWrongFalsely : Prop := cycleFewerRow.holds Tryd.pinned (OpenSpec.ofChange cycleFewerWrong)

/-- 'saronlaw05.CycleSure': WHATEVER THE INPUT: true; the input reads as it did. -/
def cycleSureSpec : ChangeSpec := { name := "cycleSure", fn := fun _ => fun
  | [d1, d2, d3] => { results := [.lit (.bool true)], args := [d1, d2, d3] }
  | _ => none }
def cycleSureRow : OpenClaim := { program := "ytephecfapclgfaadoor", sum := "dba5d4ccdb841f629b012412314f9fc52e27fe1c67b0de3095695132c589a346", func := "saron/saronlaw05.CycleSure", spec := "cycleSure", unfollowed := true, recurses := true, named := ["saron/cycle.sides"], plainKeys := false, apart := false, laid := [("saron/cycle.sides", laid_saron_cycle_sides)] }
def CycleSureSaid : Prop := cycleSureRow.holds Tryd.pinned (OpenSpec.ofChange cycleSureSpec)

/-- ITS FALSE NEIGHBOUR: 'it returns false'. Refute it at one input. -/
def cycleSureWrong : ChangeSpec := { name := "cycleSure", fn := fun _ => fun
  | [d1, d2, d3] => { results := [.lit (.bool false)], args := [d1, d2, d3] }
  | _ => none }
def CycleSureWrongFalsely : Prop := cycleSureRow.holds Tryd.pinned (OpenSpec.ofChange cycleSureWrong)

/-- 'saronlaw05.CycleConfused': WHATEVER THE INPUT: true; the input reads as it did. -/
def cycleConfusedSpec : ChangeSpec := { name := "cycleConfused", fn := fun _ => fun
  | [d1, d2] => { results := [.lit (.bool true)], args := [d1, d2] }
  | _ => none }
def cycleConfusedRow : OpenClaim := { program := "ytephecfapclgfaadoor", sum := "dba5d4ccdb841f629b012412314f9fc52e27fe1c67b0de3095695132c589a346", func := "saron/saronlaw05.CycleConfused", spec := "cycleConfused", unfollowed := true, recurses := true, named := ["saron/cycle.sides"], plainKeys := false, apart := false, laid := [("saron/cycle.sides", laid_saron_cycle_sides)] }
def CycleConfusedSaid : Prop := cycleConfusedRow.holds Tryd.pinned (OpenSpec.ofChange cycleConfusedSpec)

/-- ITS FALSE NEIGHBOUR: 'it returns false'. Refute it at one input. -/
def cycleConfusedWrong : ChangeSpec := { name := "cycleConfused", fn := fun _ => fun
  | [d1, d2] => { results := [.lit (.bool false)], args := [d1, d2] }
  | _ => none }
def CycleConfusedWrongFalsely : Prop := cycleConfusedRow.holds Tryd.pinned (OpenSpec.ofChange cycleConfusedWrong)

/-- 'saronlaw05.CycleKnown': WHATEVER THE INPUT: true; the input reads as it did. -/
def cycleKnownSpec : ChangeSpec := { name := "cycleKnown", fn := fun _ => fun
  | [] => { results := [.lit (.bool true)], args := [] }
  | _ => none }
def cycleKnownRow : OpenClaim := { program := "ytephecfapclgfaadoor", sum := "dba5d4ccdb841f629b012412314f9fc52e27fe1c67b0de3095695132c589a346", func := "saron/saronlaw05.CycleKnown", spec := "cycleKnown", unfollowed := true, recurses := true, named := ["saron/cycle.sides"], plainKeys := false, apart := false, laid := [("saron/cycle.sides", laid_saron_cycle_sides)] }
def CycleKnownSaid : Prop := cycleKnownRow.holds Tryd.pinned (OpenSpec.ofChange cycleKnownSpec)

/-- ITS FALSE NEIGHBOUR: 'it returns false'. Refute it at one input. -/
def cycleKnownWrong : ChangeSpec := { name := "cycleKnown", fn := fun _ => fun
  | [] => { results := [.lit (.bool false)], args := [] }
  | _ => none }
def CycleKnownWrongFalsely : Prop := cycleKnownRow.holds Tryd.pinned (OpenSpec.ofChange cycleKnownWrong)

/- THE SECOND FORM. 'bulk': how many values and letters a reading holds, each counted each time it is reached (what is shared counts as often as it is met; a slice's spare places count too). A statement '..UptoSaid' is the law's where the arguments, and the package variables that the reading takes, are together of bulk at most 1048576: NARROWER than '..Said'. Prove '..Said' where nothing that the law and all that it calls make is longer than what came in: it says more and counts as full. Else prove '..UptoSaid'. A law counts once. -/
mutual
def uptoBulk {H : Type} : DataW H → Nat
  | .lit (.string bytes) => bytes.length + 1
  | .lit _ => 1
  | .nil => 1
  | .ptr d => uptoBulk d + 1
  | .slice elems spare => uptoBulkAll elems + uptoBulkAll spare + 1
  | .agg parts => uptoBulkAll parts + 1
  | .iface _ d => uptoBulk d + 1
  | .map entries => uptoBulkEntries entries + 1
  | .held _ => 1
def uptoBulkAll {H : Type} : List (DataW H) → Nat
  | [] => 0
  | d :: r => uptoBulk d + uptoBulkAll r
def uptoBulkEntries {H : Type} : List (Lit × DataW H) → Nat
  | [] => 0
  | x :: r => uptoBulkEntry x + uptoBulkEntries r
def uptoBulkEntry {H : Type} : Lit × DataW H → Nat
  | (.string bytes, d) => bytes.length + uptoBulk d + 1
  | (_, d) => uptoBulk d + 1
 end
def uptoSmall : (H : Type) → List (DataW H) → Bool := fun _ ds => decide (uptoBulkAll ds ≤ 1048576)
def OpenSpec.upto (s : _root_.Go.ChangeSpec) : _root_.Go.OpenSpec := { _root_.Go.OpenSpec.ofChange s with cond := some uptoSmall }

/-- 'saronlaw05.CycleStrokes', WHERE WHAT IT READS IS OF BULK AT MOST 1048576: true; the input reads as it did. -/
def cycleStrokesUptoRow : OpenClaim := { program := "ytephecfapclgfaadoor", sum := "dba5d4ccdb841f629b012412314f9fc52e27fe1c67b0de3095695132c589a346", func := "saron/saronlaw05.CycleStrokes", spec := "cycleStrokes", unfollowed := true, recurses := true, named := ["saron/cycle.sides"], plainKeys := false, apart := false, laid := [("saron/cycle.sides", laid_saron_cycle_sides)], narrowed := true }
def CycleStrokesUptoSaid : Prop := cycleStrokesUptoRow.holds Tryd.pinned (OpenSpec.upto cycleStrokesSpec)

/-- 'saronlaw05.CycleHears', WHERE WHAT IT READS IS OF BULK AT MOST 1048576: true; the input reads as it did. -/
def cycleHearsUptoRow : OpenClaim := { program := "ytephecfapclgfaadoor", sum := "dba5d4ccdb841f629b012412314f9fc52e27fe1c67b0de3095695132c589a346", func := "saron/saronlaw05.CycleHears", spec := "cycleHears", unfollowed := true, recurses := true, named := ["saron/cycle.sides"], plainKeys := false, apart := false, laid := [("saron/cycle.sides", laid_saron_cycle_sides)], narrowed := true }
def CycleHearsUptoSaid : Prop := cycleHearsUptoRow.holds Tryd.pinned (OpenSpec.upto cycleHearsSpec)

/-- 'saronlaw05.CycleSures', WHERE WHAT IT READS IS OF BULK AT MOST 1048576: true; the input reads as it did. -/
def cycleSuresUptoRow : OpenClaim := { program := "ytephecfapclgfaadoor", sum := "dba5d4ccdb841f629b012412314f9fc52e27fe1c67b0de3095695132c589a346", func := "saron/saronlaw05.CycleSures", spec := "cycleSures", unfollowed := true, recurses := true, named := ["saron/cycle.sides"], plainKeys := false, apart := false, laid := [("saron/cycle.sides", laid_saron_cycle_sides)], narrowed := true }
def CycleSuresUptoSaid : Prop := cycleSuresUptoRow.holds Tryd.pinned (OpenSpec.upto cycleSuresSpec)

/-- 'saronlaw05.CycleRound', WHERE WHAT IT READS IS OF BULK AT MOST 1048576: true; the input reads as it did. -/
def cycleRoundUptoRow : OpenClaim := { program := "ytephecfapclgfaadoor", sum := "dba5d4ccdb841f629b012412314f9fc52e27fe1c67b0de3095695132c589a346", func := "saron/saronlaw05.CycleRound", spec := "cycleRound", unfollowed := true, recurses := true, named := ["saron/cycle.sides"], plainKeys := false, apart := false, laid := [("saron/cycle.sides", laid_saron_cycle_sides)], narrowed := true }
def CycleRoundUptoSaid : Prop := cycleRoundUptoRow.holds Tryd.pinned (OpenSpec.upto cycleRoundSpec)

/-- 'saronlaw05.CycleNext', WHERE WHAT IT READS IS OF BULK AT MOST 1048576: true; the input reads as it did. -/
def cycleNextUptoRow : OpenClaim := { program := "ytephecfapclgfaadoor", sum := "dba5d4ccdb841f629b012412314f9fc52e27fe1c67b0de3095695132c589a346", func := "saron/saronlaw05.CycleNext", spec := "cycleNext", unfollowed := true, recurses := true, named := ["saron/cycle.sides"], plainKeys := false, apart := false, laid := [("saron/cycle.sides", laid_saron_cycle_sides)], narrowed := true }
def CycleNextUptoSaid : Prop := cycleNextUptoRow.holds Tryd.pinned (OpenSpec.upto cycleNextSpec)

/-- 'saronlaw05.CycleTrue', WHERE WHAT IT READS IS OF BULK AT MOST 1048576: true; the input reads as it did. -/
def cycleTrueUptoRow : OpenClaim := { program := "ytephecfapclgfaadoor", sum := "dba5d4ccdb841f629b012412314f9fc52e27fe1c67b0de3095695132c589a346", func := "saron/saronlaw05.CycleTrue", spec := "cycleTrue", unfollowed := true, recurses := true, named := ["saron/cycle.sides"], plainKeys := false, apart := false, laid := [("saron/cycle.sides", laid_saron_cycle_sides)], narrowed := true }
def CycleTrueUptoSaid : Prop := cycleTrueUptoRow.holds Tryd.pinned (OpenSpec.upto cycleTrueSpec)

/-- 'saronlaw05.CycleOther', WHERE WHAT IT READS IS OF BULK AT MOST 1048576: true; the input reads as it did. -/
def cycleOtherUptoRow : OpenClaim := { program := "ytephecfapclgfaadoor", sum := "dba5d4ccdb841f629b012412314f9fc52e27fe1c67b0de3095695132c589a346", func := "saron/saronlaw05.CycleOther", spec := "cycleOther", unfollowed := true, recurses := true, named := ["saron/cycle.sides"], plainKeys := false, apart := false, laid := [("saron/cycle.sides", laid_saron_cycle_sides)], narrowed := true }
def CycleOtherUptoSaid : Prop := cycleOtherUptoRow.holds Tryd.pinned (OpenSpec.upto cycleOtherSpec)

/-- 'saronlaw05.CycleFewer', WHERE WHAT IT READS IS OF BULK AT MOST 1048576: true; the input reads as it did. -/
def cycleFewerUptoRow : OpenClaim := { program := "ytephecfapclgfaadoor", sum := "dba5d4ccdb841f629b012412314f9fc52e27fe1c67b0de3095695132c589a346", func := "saron/saronlaw05.CycleFewer", spec := "cycleFewer", unfollowed := true, recurses := true, named := ["saron/cycle.sides"], plainKeys := false, apart := false, laid := [("saron/cycle.sides", laid_saron_cycle_sides)], narrowed := true }
def CycleFewerUptoSaid : Prop := cycleFewerUptoRow.holds Tryd.pinned (OpenSpec.upto cycleFewerSpec)

/-- 'saronlaw05.CycleSure', WHERE WHAT IT READS IS OF BULK AT MOST 1048576: true; the input reads as it did. -/
def cycleSureUptoRow : OpenClaim := { program := "ytephecfapclgfaadoor", sum := "dba5d4ccdb841f629b012412314f9fc52e27fe1c67b0de3095695132c589a346", func := "saron/saronlaw05.CycleSure", spec := "cycleSure", unfollowed := true, recurses := true, named := ["saron/cycle.sides"], plainKeys := false, apart := false, laid := [("saron/cycle.sides", laid_saron_cycle_sides)], narrowed := true }
def CycleSureUptoSaid : Prop := cycleSureUptoRow.holds Tryd.pinned (OpenSpec.upto cycleSureSpec)

/-- 'saronlaw05.CycleConfused', WHERE WHAT IT READS IS OF BULK AT MOST 1048576: true; the input reads as it did. -/
def cycleConfusedUptoRow : OpenClaim := { program := "ytephecfapclgfaadoor", sum := "dba5d4ccdb841f629b012412314f9fc52e27fe1c67b0de3095695132c589a346", func := "saron/saronlaw05.CycleConfused", spec := "cycleConfused", unfollowed := true, recurses := true, named := ["saron/cycle.sides"], plainKeys := false, apart := false, laid := [("saron/cycle.sides", laid_saron_cycle_sides)], narrowed := true }
def CycleConfusedUptoSaid : Prop := cycleConfusedUptoRow.holds Tryd.pinned (OpenSpec.upto cycleConfusedSpec)

/-- 'saronlaw05.CycleKnown', WHERE WHAT IT READS IS OF BULK AT MOST 1048576: true; the input reads as it did. -/
def cycleKnownUptoRow : OpenClaim := { program := "ytephecfapclgfaadoor", sum := "dba5d4ccdb841f629b012412314f9fc52e27fe1c67b0de3095695132c589a346", func := "saron/saronlaw05.CycleKnown", spec := "cycleKnown", unfollowed := true, recurses := true, named := ["saron/cycle.sides"], plainKeys := false, apart := false, laid := [("saron/cycle.sides", laid_saron_cycle_sides)], narrowed := true }
def CycleKnownUptoSaid : Prop := cycleKnownUptoRow.holds Tryd.pinned (OpenSpec.upto cycleKnownSpec)

end Rows
end Go.Proofs.YtephecfapclgfaaDoor
