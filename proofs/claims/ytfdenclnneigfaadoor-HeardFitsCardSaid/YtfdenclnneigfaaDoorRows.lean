/-
  NARROWER THAN 'FOR EVERY INPUT', by the rows' own cells (each row's printed sentence says how): HeardFits: laid · HeardStrokes: laid · HeardAll: laid · HeardWholes: laid · HeardTrue: laid · HeardRead: laid · HeardMore: laid · HeardTogether: laid · HeardSure: laid · HeardCommon: laid · HeardKnown: laid.
  DERIVED. THE GIVEN ROWS OF THIS SEAT. 11 by the template 'for every input the law returns true; each argument reads behind the call as it read before'; 0 by the template 'total and deterministic' (their statements: YtfdenclnneigfaaDoorTotals.lean).
  GIVEN WITH THE SEED: the statements are not yours to turn. If you find one false, say at which input.
  Laid BY PROGRAM, IN A SANDBOX (cutbox-rows.mjs): the forced cells as the released guide's own fill.sh prints them over the translation cc299c8cd0a59d30… (all of the seat's roots in one cut). By AI agents, Wed Nov 11 2026. No macro, syntax, notation, axiom, sorry.
-/
import Derived.Test.YtfdenclnneigfaaDoorChecked
import GoSem.Claim
import GoSem.ClaimJoined
import GoSem.ClaimMapViews
import Derived.JoinedTies
import Derived.KernelRfl
namespace Go.Proofs.YtfdenclnneigfaaDoor
/- THE CELL 'sum', in the pinned program and in every row, IS THE sha256 OF THE DUMP (.gsa) THAT YtfdenclnneigfaaDoorProg.lean LOADS. Nothing in Lean hashes anything: it is a label: what it is worth is what the hold of that sum in a sandbox is worth. -/
noncomputable def Tryd.pinned : Pinned := { name := "ytfdenclnneigfaadoor", sum := "cc299c8cd0a59d30599a287214c13cfddecc3d010b6fc7f8485fc45734217a9d", checked := Tryd.checked }
namespace Rows
def none {H : Type} : Left H := { results := [], args := [] }

/- WHAT THE LISTED PACKAGE-LEVEL VARIABLES READ AS WHEN THE CALL BEGINS. Each datum BY PROGRAM (the guide's laid-datum.mjs) off the statement by which the dump's own 'gosem.cut.vars' lays the variable. In a bare row this is a premise. The card (YtfdenclnneigfaaDoorCards.lean) ties it to the program's text. -/
def laid_saron_heard_offs {H : Type} : DataW H := .iface "func table" (.agg [.iface "func" (.lit (.string [40, 115, 97, 114, 111, 110, 47, 104, 101, 97, 114, 100, 46, 98, 111, 111, 107, 41, 46, 114, 105, 103, 104, 116])), .iface "func" (.lit (.string [40, 115, 97, 114, 111, 110, 47, 104, 101, 97, 114, 100, 46, 98, 111, 111, 107, 41, 46, 119, 114, 111, 110, 103]))])

/-- 'saronlaw09.HeardFits': WHATEVER THE INPUT: true; the input reads as it did. -/
def heardFitsSpec : ChangeSpec := { name := "heardFits", fn := fun _ => fun
  | [d1, d2, d3] => { results := [.lit (.bool true)], args := [d1, d2, d3] }
  | _ => none }
def heardFitsRow : OpenClaim := { program := "ytfdenclnneigfaadoor", sum := "cc299c8cd0a59d30599a287214c13cfddecc3d010b6fc7f8485fc45734217a9d", func := "saron/saronlaw09.HeardFits", spec := "heardFits", unfollowed := true, recurses := true, named := ["saron/heard.offs"], plainKeys := false, apart := false, laid := [("saron/heard.offs", laid_saron_heard_offs)] }
def HeardFitsSaid : Prop := heardFitsRow.holds Tryd.pinned (OpenSpec.ofChange heardFitsSpec)

/-- ITS FALSE NEIGHBOUR: 'it returns false'. Refute it at one input. -/
def heardFitsWrong : ChangeSpec := { name := "heardFits", fn := fun _ => fun
  | [d1, d2, d3] => { results := [.lit (.bool false)], args := [d1, d2, d3] }
  | _ => none }
def HeardFitsWrongFalsely : Prop := heardFitsRow.holds Tryd.pinned (OpenSpec.ofChange heardFitsWrong)

/-- 'saronlaw09.HeardStrokes': WHATEVER THE INPUT: true; the input reads as it did. -/
def heardStrokesSpec : ChangeSpec := { name := "heardStrokes", fn := fun _ => fun
  | [d1, d2, d3] => { results := [.lit (.bool true)], args := [d1, d2, d3] }
  | _ => none }
def heardStrokesRow : OpenClaim := { program := "ytfdenclnneigfaadoor", sum := "cc299c8cd0a59d30599a287214c13cfddecc3d010b6fc7f8485fc45734217a9d", func := "saron/saronlaw09.HeardStrokes", spec := "heardStrokes", unfollowed := true, recurses := true, named := ["saron/heard.offs"], plainKeys := false, apart := false, laid := [("saron/heard.offs", laid_saron_heard_offs)] }
def HeardStrokesSaid : Prop := heardStrokesRow.holds Tryd.pinned (OpenSpec.ofChange heardStrokesSpec)

/-- ITS FALSE NEIGHBOUR: 'it returns false'. Refute it at one input. -/
def heardStrokesWrong : ChangeSpec := { name := "heardStrokes", fn := fun _ => fun
  | [d1, d2, d3] => { results := [.lit (.bool false)], args := [d1, d2, d3] }
  | _ => none }
def HeardStrokesWrongFalsely : Prop := heardStrokesRow.holds Tryd.pinned (OpenSpec.ofChange heardStrokesWrong)

/-- 'saronlaw09.HeardAll': WHATEVER THE INPUT: true; the input reads as it did. -/
def heardAllSpec : ChangeSpec := { name := "heardAll", fn := fun _ => fun
  | [d1, d2] => { results := [.lit (.bool true)], args := [d1, d2] }
  | _ => none }
def heardAllRow : OpenClaim := { program := "ytfdenclnneigfaadoor", sum := "cc299c8cd0a59d30599a287214c13cfddecc3d010b6fc7f8485fc45734217a9d", func := "saron/saronlaw09.HeardAll", spec := "heardAll", unfollowed := true, recurses := true, named := ["saron/heard.offs"], plainKeys := false, apart := false, laid := [("saron/heard.offs", laid_saron_heard_offs)] }
def HeardAllSaid : Prop := heardAllRow.holds Tryd.pinned (OpenSpec.ofChange heardAllSpec)

/-- ITS FALSE NEIGHBOUR: 'it returns false'. Refute it at one input. -/
def heardAllWrong : ChangeSpec := { name := "heardAll", fn := fun _ => fun
  | [d1, d2] => { results := [.lit (.bool false)], args := [d1, d2] }
  | _ => none }
def HeardAllWrongFalsely : Prop := heardAllRow.holds Tryd.pinned (OpenSpec.ofChange heardAllWrong)

/-- 'saronlaw09.HeardWholes': WHATEVER THE INPUT: true; the input reads as it did. -/
def heardWholesSpec : ChangeSpec := { name := "heardWholes", fn := fun _ => fun
  | [d1, d2, d3] => { results := [.lit (.bool true)], args := [d1, d2, d3] }
  | _ => none }
def heardWholesRow : OpenClaim := { program := "ytfdenclnneigfaadoor", sum := "cc299c8cd0a59d30599a287214c13cfddecc3d010b6fc7f8485fc45734217a9d", func := "saron/saronlaw09.HeardWholes", spec := "heardWholes", unfollowed := true, recurses := true, named := ["saron/heard.offs"], plainKeys := false, apart := false, laid := [("saron/heard.offs", laid_saron_heard_offs)] }
def HeardWholesSaid : Prop := heardWholesRow.holds Tryd.pinned (OpenSpec.ofChange heardWholesSpec)

/-- ITS FALSE NEIGHBOUR: 'it returns false'. Refute it at one input. -/
def heardWholesWrong : ChangeSpec := { name := "heardWholes", fn := fun _ => fun
  | [d1, d2, d3] => { results := [.lit (.bool false)], args := [d1, d2, d3] }
  | _ => none }
def HeardWholesWrongFalsely : Prop := heardWholesRow.holds Tryd.pinned (OpenSpec.ofChange heardWholesWrong)

/-- 'saronlaw09.HeardTrue': WHATEVER THE INPUT: true; the input reads as it did. -/
def heardTrueSpec : ChangeSpec := { name := "heardTrue", fn := fun _ => fun
  | [d1, d2, d3] => { results := [.lit (.bool true)], args := [d1, d2, d3] }
  | _ => none }
def heardTrueRow : OpenClaim := { program := "ytfdenclnneigfaadoor", sum := "cc299c8cd0a59d30599a287214c13cfddecc3d010b6fc7f8485fc45734217a9d", func := "saron/saronlaw09.HeardTrue", spec := "heardTrue", unfollowed := true, recurses := true, named := ["saron/heard.offs"], plainKeys := false, apart := false, laid := [("saron/heard.offs", laid_saron_heard_offs)] }
def HeardTrueSaid : Prop := heardTrueRow.holds Tryd.pinned (OpenSpec.ofChange heardTrueSpec)

/-- ITS FALSE NEIGHBOUR: 'it returns false'. Refute it at one input. -/
def heardTrueWrong : ChangeSpec := { name := "heardTrue", fn := fun _ => fun
  | [d1, d2, d3] => { results := [.lit (.bool false)], args := [d1, d2, d3] }
  | _ => none }
def HeardTrueWrongFalsely : Prop := heardTrueRow.holds Tryd.pinned (OpenSpec.ofChange heardTrueWrong)

/-- 'saronlaw09.HeardRead': WHATEVER THE INPUT: true; the input reads as it did. -/
def heardReadSpec : ChangeSpec := { name := "heardRead", fn := fun _ => fun
  | [d1, d2, d3] => { results := [.lit (.bool true)], args := [d1, d2, d3] }
  | _ => none }
def heardReadRow : OpenClaim := { program := "ytfdenclnneigfaadoor", sum := "cc299c8cd0a59d30599a287214c13cfddecc3d010b6fc7f8485fc45734217a9d", func := "saron/saronlaw09.HeardRead", spec := "heardRead", unfollowed := true, recurses := true, named := ["saron/heard.offs"], plainKeys := false, apart := false, laid := [("saron/heard.offs", laid_saron_heard_offs)] }
def HeardReadSaid : Prop := heardReadRow.holds Tryd.pinned (OpenSpec.ofChange heardReadSpec)

/-- ITS FALSE NEIGHBOUR: 'it returns false'. Refute it at one input. -/
def heardReadWrong : ChangeSpec := { name := "heardRead", fn := fun _ => fun
  | [d1, d2, d3] => { results := [.lit (.bool false)], args := [d1, d2, d3] }
  | _ => none }
def HeardReadWrongFalsely : Prop := heardReadRow.holds Tryd.pinned (OpenSpec.ofChange heardReadWrong)

/-- 'saronlaw09.HeardMore': WHATEVER THE INPUT: true; the input reads as it did. -/
def heardMoreSpec : ChangeSpec := { name := "heardMore", fn := fun _ => fun
  | [d1, d2, d3] => { results := [.lit (.bool true)], args := [d1, d2, d3] }
  | _ => none }
def heardMoreRow : OpenClaim := { program := "ytfdenclnneigfaadoor", sum := "cc299c8cd0a59d30599a287214c13cfddecc3d010b6fc7f8485fc45734217a9d", func := "saron/saronlaw09.HeardMore", spec := "heardMore", unfollowed := true, recurses := true, named := ["saron/heard.offs"], plainKeys := false, apart := false, laid := [("saron/heard.offs", laid_saron_heard_offs)] }
def HeardMoreSaid : Prop := heardMoreRow.holds Tryd.pinned (OpenSpec.ofChange heardMoreSpec)

/-- ITS FALSE NEIGHBOUR: 'it returns false'. Refute it at one input. -/
def heardMoreWrong : ChangeSpec := { name := "heardMore", fn := fun _ => fun
  | [d1, d2, d3] => { results := [.lit (.bool false)], args := [d1, d2, d3] }
  | _ => none }
def HeardMoreWrongFalsely : Prop := heardMoreRow.holds Tryd.pinned (OpenSpec.ofChange heardMoreWrong)

/-- 'saronlaw09.HeardTogether': WHATEVER THE INPUT: true; the input reads as it did. -/
def heardTogetherSpec : ChangeSpec := { name := "heardTogether", fn := fun _ => fun
  | [d1, d2] => { results := [.lit (.bool true)], args := [d1, d2] }
  | _ => none }
def heardTogetherRow : OpenClaim := { program := "ytfdenclnneigfaadoor", sum := "cc299c8cd0a59d30599a287214c13cfddecc3d010b6fc7f8485fc45734217a9d", func := "saron/saronlaw09.HeardTogether", spec := "heardTogether", unfollowed := true, recurses := true, named := ["saron/heard.offs"], plainKeys := false, apart := false, laid := [("saron/heard.offs", laid_saron_heard_offs)] }
def HeardTogetherSaid : Prop := heardTogetherRow.holds Tryd.pinned (OpenSpec.ofChange heardTogetherSpec)

/-- ITS FALSE NEIGHBOUR: 'it returns false'. Refute it at one input. -/
def heardTogetherWrong : ChangeSpec := { name := "heardTogether", fn := fun _ => fun
  | [d1, d2] => { results := [.lit (.bool false)], args := [d1, d2] }
  | _ => none }
def HeardTogetherWrongFalsely : Prop := heardTogetherRow.holds Tryd.pinned (OpenSpec.ofChange heardTogetherWrong)

/-- 'saronlaw09.HeardSure': WHATEVER THE INPUT: true; the input reads as it did. -/
def heardSureSpec : ChangeSpec := { name := "heardSure", fn := fun _ => fun
  | [d1, d2, d3] => { results := [.lit (.bool true)], args := [d1, d2, d3] }
  | _ => none }
def heardSureRow : OpenClaim := { program := "ytfdenclnneigfaadoor", sum := "cc299c8cd0a59d30599a287214c13cfddecc3d010b6fc7f8485fc45734217a9d", func := "saron/saronlaw09.HeardSure", spec := "heardSure", unfollowed := true, recurses := true, named := ["saron/heard.offs"], plainKeys := false, apart := false, laid := [("saron/heard.offs", laid_saron_heard_offs)] }
def HeardSureSaid : Prop := heardSureRow.holds Tryd.pinned (OpenSpec.ofChange heardSureSpec)

/-- ITS FALSE NEIGHBOUR: 'it returns false'. Refute it at one input. -/
def heardSureWrong : ChangeSpec := { name := "heardSure", fn := fun _ => fun
  | [d1, d2, d3] => { results := [.lit (.bool false)], args := [d1, d2, d3] }
  | _ => none }
def HeardSureWrongFalsely : Prop := heardSureRow.holds Tryd.pinned (OpenSpec.ofChange heardSureWrong)

/-- 'saronlaw09.HeardCommon': WHATEVER THE INPUT: true; the input reads as it did. -/
def heardCommonSpec : ChangeSpec := { name := "heardCommon", fn := fun _ => fun
  | [d1, d2, d3] => { results := [.lit (.bool true)], args := [d1, d2, d3] }
  | _ => none }
def heardCommonRow : OpenClaim := { program := "ytfdenclnneigfaadoor", sum := "cc299c8cd0a59d30599a287214c13cfddecc3d010b6fc7f8485fc45734217a9d", func := "saron/saronlaw09.HeardCommon", spec := "heardCommon", unfollowed := true, recurses := true, named := ["saron/heard.offs"], plainKeys := false, apart := false, laid := [("saron/heard.offs", laid_saron_heard_offs)] }
def HeardCommonSaid : Prop := heardCommonRow.holds Tryd.pinned (OpenSpec.ofChange heardCommonSpec)

/-- ITS FALSE NEIGHBOUR: 'it returns false'. Refute it at one input. -/
def heardCommonWrong : ChangeSpec := { name := "heardCommon", fn := fun _ => fun
  | [d1, d2, d3] => { results := [.lit (.bool false)], args := [d1, d2, d3] }
  | _ => none }
def HeardCommonWrongFalsely : Prop := heardCommonRow.holds Tryd.pinned (OpenSpec.ofChange heardCommonWrong)

/-- 'saronlaw09.HeardKnown': WHATEVER THE INPUT: true; the input reads as it did. -/
def heardKnownSpec : ChangeSpec := { name := "heardKnown", fn := fun _ => fun
  | [] => { results := [.lit (.bool true)], args := [] }
  | _ => none }
def heardKnownRow : OpenClaim := { program := "ytfdenclnneigfaadoor", sum := "cc299c8cd0a59d30599a287214c13cfddecc3d010b6fc7f8485fc45734217a9d", func := "saron/saronlaw09.HeardKnown", spec := "heardKnown", unfollowed := true, recurses := true, named := ["saron/heard.offs"], plainKeys := false, apart := false, laid := [("saron/heard.offs", laid_saron_heard_offs)] }
def HeardKnownSaid : Prop := heardKnownRow.holds Tryd.pinned (OpenSpec.ofChange heardKnownSpec)

/-- ITS FALSE NEIGHBOUR: 'it returns false'. Refute it at one input. -/
def heardKnownWrong : ChangeSpec := { name := "heardKnown", fn := fun _ => fun
  | [] => { results := [.lit (.bool false)], args := [] }
  | _ => none }
def HeardKnownWrongFalsely : Prop := heardKnownRow.holds Tryd.pinned (OpenSpec.ofChange heardKnownWrong)

/- THE SECOND FORM. 'bulk': how many values and letters a reading holds, each counted each time it is reached (what is shared counts as often as it is met; a slice's spare places count too). A statement '..UptoSaid' is the law's where the arguments, and the package variables that the reading takes, are together of bulk at most 1048576: NARROWER than '..Said'. Prove '..Said' where nothing that the law and all that it calls make is longer than what came in: it says more and counts as full. Else prove '..UptoSaid'. A law counts once. -/
mutual
def uptoBulk {H : Type} : DataW H → Nat
  | .lit (.string bytes) => bytes.length + 1
  | .lit _ => 1
  | .nil => 1
  | .ptr d => uptoBulk d + 1
  | .slice elems spare => uptoBulkAll elems + uptoBulkAll spare + 1
  | .agg parts => uptoBulkAll parts + 1
  | .iface _ d => uptoBulk d + 1
  | .map entries => uptoBulkEntries entries + 1
  | .held _ => 1
def uptoBulkAll {H : Type} : List (DataW H) → Nat
  | [] => 0
  | d :: r => uptoBulk d + uptoBulkAll r
def uptoBulkEntries {H : Type} : List (Lit × DataW H) → Nat
  | [] => 0
  | x :: r => uptoBulkEntry x + uptoBulkEntries r
def uptoBulkEntry {H : Type} : Lit × DataW H → Nat
  | (.string bytes, d) => bytes.length + uptoBulk d + 1
  | (_, d) => uptoBulk d + 1
 end
def uptoSmall : (H : Type) → List (DataW H) → Bool := fun _ ds => decide (uptoBulkAll ds ≤ 1048576)
def OpenSpec.upto (s : _root_.Go.ChangeSpec) : _root_.Go.OpenSpec := { _root_.Go.OpenSpec.ofChange s with cond := some uptoSmall }

/-- 'saronlaw09.HeardFits', WHERE WHAT IT READS IS OF BULK AT MOST 1048576: true; the input reads as it did. -/
def heardFitsUptoRow : OpenClaim := { program := "ytfdenclnneigfaadoor", sum := "cc299c8cd0a59d30599a287214c13cfddecc3d010b6fc7f8485fc45734217a9d", func := "saron/saronlaw09.HeardFits", spec := "heardFits", unfollowed := true, recurses := true, named := ["saron/heard.offs"], plainKeys := false, apart := false, laid := [("saron/heard.offs", laid_saron_heard_offs)], narrowed := true }
def HeardFitsUptoSaid : Prop := heardFitsUptoRow.holds Tryd.pinned (OpenSpec.upto heardFitsSpec)

/-- 'saronlaw09.HeardStrokes', WHERE WHAT IT READS IS OF BULK AT MOST 1048576: true; the input reads as it did. -/
def heardStrokesUptoRow : OpenClaim := { program := "ytfdenclnneigfaadoor", sum := "cc299c8cd0a59d30599a287214c13cfddecc3d010b6fc7f8485fc45734217a9d", func := "saron/saronlaw09.HeardStrokes", spec := "heardStrokes", unfollowed := true, recurses := true, named := ["saron/heard.offs"], plainKeys := false, apart := false, laid := [("saron/heard.offs", laid_saron_heard_offs)], narrowed := true }
def HeardStrokesUptoSaid : Prop := heardStrokesUptoRow.holds Tryd.pinned (OpenSpec.upto heardStrokesSpec)

/-- 'saronlaw09.HeardAll', WHERE WHAT IT READS IS OF BULK AT MOST 1048576: true; the input reads as it did. -/
def heardAllUptoRow : OpenClaim := { program := "ytfdenclnneigfaadoor", sum := "cc299c8cd0a59d30599a287214c13cfddecc3d010b6fc7f8485fc45734217a9d", func := "saron/saronlaw09.HeardAll", spec := "heardAll", unfollowed := true, recurses := true, named := ["saron/heard.offs"], plainKeys := false, apart := false, laid := [("saron/heard.offs", laid_saron_heard_offs)], narrowed := true }
def HeardAllUptoSaid : Prop := heardAllUptoRow.holds Tryd.pinned (OpenSpec.upto heardAllSpec)

/-- 'saronlaw09.HeardWholes', WHERE WHAT IT READS IS OF BULK AT MOST 1048576: true; the input reads as it did. -/
def heardWholesUptoRow : OpenClaim := { program := "ytfdenclnneigfaadoor", sum := "cc299c8cd0a59d30599a287214c13cfddecc3d010b6fc7f8485fc45734217a9d", func := "saron/saronlaw09.HeardWholes", spec := "heardWholes", unfollowed := true, recurses := true, named := ["saron/heard.offs"], plainKeys := false, apart := false, laid := [("saron/heard.offs", laid_saron_heard_offs)], narrowed := true }
def HeardWholesUptoSaid : Prop := heardWholesUptoRow.holds Tryd.pinned (OpenSpec.upto heardWholesSpec)

/-- 'saronlaw09.HeardTrue', WHERE WHAT IT READS IS OF BULK AT MOST 1048576: true; the input reads as it did. -/
def heardTrueUptoRow : OpenClaim := { program := "ytfdenclnneigfaadoor", sum := "cc299c8cd0a59d30599a287214c13cfddecc3d010b6fc7f8485fc45734217a9d", func := "saron/saronlaw09.HeardTrue", spec := "heardTrue", unfollowed := true, recurses := true, named := ["saron/heard.offs"], plainKeys := false, apart := false, laid := [("saron/heard.offs", laid_saron_heard_offs)], narrowed := true }
def HeardTrueUptoSaid : Prop := heardTrueUptoRow.holds Tryd.pinned (OpenSpec.upto heardTrueSpec)

/-- 'saronlaw09.HeardRead', WHERE WHAT IT READS IS OF BULK AT MOST 1048576: true; the input reads as it did. -/
def heardReadUptoRow : OpenClaim := { program := "ytfdenclnneigfaadoor", sum := "cc299c8cd0a59d30599a287214c13cfddecc3d010b6fc7f8485fc45734217a9d", func := "saron/saronlaw09.HeardRead", spec := "heardRead", unfollowed := true, recurses := true, named := ["saron/heard.offs"], plainKeys := false, apart := false, laid := [("saron/heard.offs", laid_saron_heard_offs)], narrowed := true }
def HeardReadUptoSaid : Prop := heardReadUptoRow.holds Tryd.pinned (OpenSpec.upto heardReadSpec)

/-- 'saronlaw09.HeardMore', WHERE WHAT IT READS IS OF BULK AT MOST 1048576: true; the input reads as it did. -/
def heardMoreUptoRow : OpenClaim := { program := "ytfdenclnneigfaadoor", sum := "cc299c8cd0a59d30599a287214c13cfddecc3d010b6fc7f8485fc45734217a9d", func := "saron/saronlaw09.HeardMore", spec := "heardMore", unfollowed := true, recurses := true, named := ["saron/heard.offs"], plainKeys := false, apart := false, laid := [("saron/heard.offs", laid_saron_heard_offs)], narrowed := true }
def HeardMoreUptoSaid : Prop := heardMoreUptoRow.holds Tryd.pinned (OpenSpec.upto heardMoreSpec)

/-- 'saronlaw09.HeardTogether', WHERE WHAT IT READS IS OF BULK AT MOST 1048576: true; the input reads as it did. -/
def heardTogetherUptoRow : OpenClaim := { program := "ytfdenclnneigfaadoor", sum := "cc299c8cd0a59d30599a287214c13cfddecc3d010b6fc7f8485fc45734217a9d", func := "saron/saronlaw09.HeardTogether", spec := "heardTogether", unfollowed := true, recurses := true, named := ["saron/heard.offs"], plainKeys := false, apart := false, laid := [("saron/heard.offs", laid_saron_heard_offs)], narrowed := true }
def HeardTogetherUptoSaid : Prop := heardTogetherUptoRow.holds Tryd.pinned (OpenSpec.upto heardTogetherSpec)

/-- 'saronlaw09.HeardSure', WHERE WHAT IT READS IS OF BULK AT MOST 1048576: true; the input reads as it did. -/
def heardSureUptoRow : OpenClaim := { program := "ytfdenclnneigfaadoor", sum := "cc299c8cd0a59d30599a287214c13cfddecc3d010b6fc7f8485fc45734217a9d", func := "saron/saronlaw09.HeardSure", spec := "heardSure", unfollowed := true, recurses := true, named := ["saron/heard.offs"], plainKeys := false, apart := false, laid := [("saron/heard.offs", laid_saron_heard_offs)], narrowed := true }
def HeardSureUptoSaid : Prop := heardSureUptoRow.holds Tryd.pinned (OpenSpec.upto heardSureSpec)

/-- 'saronlaw09.HeardCommon', WHERE WHAT IT READS IS OF BULK AT MOST 1048576: true; the input reads as it did. -/
def heardCommonUptoRow : OpenClaim := { program := "ytfdenclnneigfaadoor", sum := "cc299c8cd0a59d30599a287214c13cfddecc3d010b6fc7f8485fc45734217a9d", func := "saron/saronlaw09.HeardCommon", spec := "heardCommon", unfollowed := true, recurses := true, named := ["saron/heard.offs"], plainKeys := false, apart := false, laid := [("saron/heard.offs", laid_saron_heard_offs)], narrowed := true }
def HeardCommonUptoSaid : Prop := heardCommonUptoRow.holds Tryd.pinned (OpenSpec.upto heardCommonSpec)

/-- 'saronlaw09.HeardKnown', WHERE WHAT IT READS IS OF BULK AT MOST 1048576: true; the input reads as it did. -/
def heardKnownUptoRow : OpenClaim := { program := "ytfdenclnneigfaadoor", sum := "cc299c8cd0a59d30599a287214c13cfddecc3d010b6fc7f8485fc45734217a9d", func := "saron/saronlaw09.HeardKnown", spec := "heardKnown", unfollowed := true, recurses := true, named := ["saron/heard.offs"], plainKeys := false, apart := false, laid := [("saron/heard.offs", laid_saron_heard_offs)], narrowed := true }
def HeardKnownUptoSaid : Prop := heardKnownUptoRow.holds Tryd.pinned (OpenSpec.upto heardKnownSpec)

end Rows
end Go.Proofs.YtfdenclnneigfaaDoor
