import Derived.Test.YtfdenclnneigfaaDoorGF
import Derived.Test.YtfdenclnneigfaaDoorM0
set_option linter.unusedVariables false
set_option linter.unusedSimpArgs false
namespace Go.Proofs.YtfdenclnneigfaaDoor.PRaspKeys
open Go.RowKit Go.Proofs.YtfdenclnneigfaaDoorW.PrintWords Go.Proofs.YtfdenclnneigfaaDoorW.PrintLast Go.Proofs.YtfdenclnneigfaaDoor.R Go.Proofs.YtfdenclnneigfaaDoor.M
def heard_Fits.f (a0_0 : Int) (l0_1 : List S114) (l0_2 : List S62) (a1 : Int) (l2_0 : List Int) (l2_1 : List Int) (a2_2 : Int) (a2_3 : Int) : Option (Bool × Int) := some (fitF a0_0 l0_1 l0_2 a1 l2_0 l2_1 a2_2 a2_3)
theorem heard_Fits.calls (a0_0 : Int) (A0_1 : Option Addr) (c0_1 : Nat) (l0_1 : List S114) (A0_2 : Option Addr) (c0_2 : Nat) (l0_2 : List S62) (a1 : Int) (A2_0 : Option Addr) (c2_0 : Nat) (l2_0 : List Int) (A2_1 : Option Addr) (c2_1 : Nat) (l2_1 : List Int) (a2_2 : Int) (a2_3 : Int) (r1 : Bool) (r2 : Int) (w : World) (hr0_1 : Kd.C k114 w A0_1 l0_1.length l0_1) (hc0_1 : l0_1.length ≤ c0_1) (hr0_2 : Kd.C k62 w A0_2 l0_2.length l0_2) (hc0_2 : l0_2.length ≤ c0_2) (hr2_0 : Kd.C (Kd.int .i64) w A2_0 l2_0.length l2_0) (hc2_0 : l2_0.length ≤ c2_0) (hr2_1 : Kd.C (Kd.int .i64) w A2_1 l2_1.length l2_1) (hc2_1 : l2_1.length ≤ c2_1) (hG : Glob w) (h : heard_Fits.f a0_0 l0_1 l0_2 a1 l2_0 l2_1 a2_2 a2_3 = some (r1, r2)) :
  Calls Tryd.prog 14 #[.agg #[.int .i64 a0_0, .slice A0_1 l0_1.length c0_1, .slice A0_2 l0_2.length c0_2], .int .i64 a1, .agg #[.slice A2_0 l2_0.length c2_0, .slice A2_1 l2_1.length c2_1, .int .i64 a2_2, .int .i64 a2_3]] w fun e w' => e = .returned (.tuple #[.bool r1, .int .i64 r2]) ∧ Below w.heap.size w w' := by
 have e := Option.some.inj h
 have := fits14 a0_0 A0_1 c0_1 l0_1 A0_2 c0_2 l0_2 a1 A2_0 c2_0 l2_0 A2_1 c2_1 l2_1 a2_2 a2_3 w ⟨⟨hr0_1, hc0_1, hG⟩, hr0_2, hc0_2⟩ ⟨hr2_0, hc2_0, hr2_1, hc2_1⟩
 rw [e] at this
 exact this.mono fun e w' h => ⟨h.1, fr_below h.2⟩
def heard_Least.f (a0_0 : Int) (l0_1 : List S114) (l0_2 : List S62) (a1 : Int) (l2_0 : List Int) (l2_1 : List Int) (a2_2 : Int) (a2_3 : Int) : Option (Int × Int) := some (leaF a0_0 l0_1 l0_2 a1 l2_0 l2_1 a2_2 a2_3)
theorem heard_Least.calls (a0_0 : Int) (A0_1 : Option Addr) (c0_1 : Nat) (l0_1 : List S114) (A0_2 : Option Addr) (c0_2 : Nat) (l0_2 : List S62) (a1 : Int) (A2_0 : Option Addr) (c2_0 : Nat) (l2_0 : List Int) (A2_1 : Option Addr) (c2_1 : Nat) (l2_1 : List Int) (a2_2 : Int) (a2_3 : Int) (r1 : Int) (r2 : Int) (w : World) (hr0_1 : Kd.C k114 w A0_1 l0_1.length l0_1) (hc0_1 : l0_1.length ≤ c0_1) (hr0_2 : Kd.C k62 w A0_2 l0_2.length l0_2) (hc0_2 : l0_2.length ≤ c0_2) (hr2_0 : Kd.C (Kd.int .i64) w A2_0 l2_0.length l2_0) (hc2_0 : l2_0.length ≤ c2_0) (hr2_1 : Kd.C (Kd.int .i64) w A2_1 l2_1.length l2_1) (hc2_1 : l2_1.length ≤ c2_1) (hG : Glob w) (h : heard_Least.f a0_0 l0_1 l0_2 a1 l2_0 l2_1 a2_2 a2_3 = some (r1, r2)) :
  Calls Tryd.prog 23 #[.agg #[.int .i64 a0_0, .slice A0_1 l0_1.length c0_1, .slice A0_2 l0_2.length c0_2], .int .i64 a1, .agg #[.slice A2_0 l2_0.length c2_0, .slice A2_1 l2_1.length c2_1, .int .i64 a2_2, .int .i64 a2_3]] w fun e w' => e = .returned (.tuple #[.int .i64 r1, .int .i64 r2]) ∧ Below w.heap.size w w' := by
 have e := Option.some.inj h
 have := least23 a0_0 A0_1 c0_1 l0_1 A0_2 c0_2 l0_2 a1 A2_0 c2_0 l2_0 A2_1 c2_1 l2_1 a2_2 a2_3 w ⟨⟨hr0_1, hc0_1, hG⟩, hr0_2, hc0_2⟩ ⟨hr2_0, hc2_0, hr2_1, hc2_1⟩
 rw [e] at this
 exact this.mono fun e w' h => ⟨h.1, fr_below h.2⟩
def heard_Begins.f (a0_0 : Int) (l0_1 : List S114) (l0_2 : List S62) (a1 : Int) (l2_0 : List Int) (l2_1 : List Int) (a2_2 : Int) (a2_3 : Int) : Option (List Int × Int) := some (stroF a0_0 l0_1 l0_2 a1 l2_0 l2_1 a2_2 a2_3 0)
theorem heard_Begins.calls (a0_0 : Int) (A0_1 : Option Addr) (c0_1 : Nat) (l0_1 : List S114) (A0_2 : Option Addr) (c0_2 : Nat) (l0_2 : List S62) (a1 : Int) (A2_0 : Option Addr) (c2_0 : Nat) (l2_0 : List Int) (A2_1 : Option Addr) (c2_1 : Nat) (l2_1 : List Int) (a2_2 : Int) (a2_3 : Int) (r1 : List Int) (r2 : Int) (w : World) (hr0_1 : Kd.C k114 w A0_1 l0_1.length l0_1) (hc0_1 : l0_1.length ≤ c0_1) (hr0_2 : Kd.C k62 w A0_2 l0_2.length l0_2) (hc0_2 : l0_2.length ≤ c0_2) (hr2_0 : Kd.C (Kd.int .i64) w A2_0 l2_0.length l2_0) (hc2_0 : l2_0.length ≤ c2_0) (hr2_1 : Kd.C (Kd.int .i64) w A2_1 l2_1.length l2_1) (hc2_1 : l2_1.length ≤ c2_1) (hG : Glob w) (h : heard_Begins.f a0_0 l0_1 l0_2 a1 l2_0 l2_1 a2_2 a2_3 = some (r1, r2)) :
  Calls Tryd.prog 21 #[.agg #[.int .i64 a0_0, .slice A0_1 l0_1.length c0_1, .slice A0_2 l0_2.length c0_2], .int .i64 a1, .agg #[.slice A2_0 l2_0.length c2_0, .slice A2_1 l2_1.length c2_1, .int .i64 a2_2, .int .i64 a2_3]] w fun e w' => ∃ v0_ : Value, e = .returned (.tuple #[v0_, .int .i64 r2]) ∧ Kd.V (Kd.int .i64) 3 w' w.heap.size (fun k_ => (w.heap.size ≤ k_)) v0_ r1 ∧ Below w.heap.size w w' := by
 have e := Option.some.inj h
 have := begins21 a0_0 A0_1 c0_1 l0_1 A0_2 c0_2 l0_2 a1 A2_0 c2_0 l2_0 A2_1 c2_1 l2_1 a2_2 a2_3 w ⟨⟨hr0_1, hc0_1, hG⟩, hr0_2, hc0_2⟩ ⟨hr2_0, hc2_0, hr2_1, hc2_1⟩
 rw [e] at this
 exact this.mono fun e w' ⟨v, h1, h2, h3⟩ => ⟨v, h1, h2, fr_below h3⟩
def heard_Strokes.f (a0_0 : Int) (l0_1 : List S114) (l0_2 : List S62) (a1 : Int) (l2_0 : List Int) (l2_1 : List Int) (a2_2 : Int) (a2_3 : Int) (a3 : Int) : Option (List Int × Int) := some (stroF a0_0 l0_1 l0_2 a1 l2_0 l2_1 a2_2 a2_3 a3)
theorem heard_Strokes.calls (a0_0 : Int) (A0_1 : Option Addr) (c0_1 : Nat) (l0_1 : List S114) (A0_2 : Option Addr) (c0_2 : Nat) (l0_2 : List S62) (a1 : Int) (A2_0 : Option Addr) (c2_0 : Nat) (l2_0 : List Int) (A2_1 : Option Addr) (c2_1 : Nat) (l2_1 : List Int) (a2_2 : Int) (a2_3 : Int) (a3 : Int) (r1 : List Int) (r2 : Int) (w : World) (hr0_1 : Kd.C k114 w A0_1 l0_1.length l0_1) (hc0_1 : l0_1.length ≤ c0_1) (hr0_2 : Kd.C k62 w A0_2 l0_2.length l0_2) (hc0_2 : l0_2.length ≤ c0_2) (hr2_0 : Kd.C (Kd.int .i64) w A2_0 l2_0.length l2_0) (hc2_0 : l2_0.length ≤ c2_0) (hr2_1 : Kd.C (Kd.int .i64) w A2_1 l2_1.length l2_1) (hc2_1 : l2_1.length ≤ c2_1) (hG : Glob w) (h : heard_Strokes.f a0_0 l0_1 l0_2 a1 l2_0 l2_1 a2_2 a2_3 a3 = some (r1, r2)) :
  Calls Tryd.prog 26 #[.agg #[.int .i64 a0_0, .slice A0_1 l0_1.length c0_1, .slice A0_2 l0_2.length c0_2], .int .i64 a1, .agg #[.slice A2_0 l2_0.length c2_0, .slice A2_1 l2_1.length c2_1, .int .i64 a2_2, .int .i64 a2_3], .int .i64 a3] w fun e w' => ∃ v0_ : Value, e = .returned (.tuple #[v0_, .int .i64 r2]) ∧ Kd.V (Kd.int .i64) 3 w' w.heap.size (fun k_ => (w.heap.size ≤ k_)) v0_ r1 ∧ Below w.heap.size w w' := by
 have e := Option.some.inj h
 have := strokes26 a0_0 A0_1 c0_1 l0_1 A0_2 c0_2 l0_2 a1 A2_0 c2_0 l2_0 A2_1 c2_1 l2_1 a2_2 a2_3 a3 w ⟨⟨hr0_1, hc0_1, hG⟩, hr0_2, hc0_2⟩ ⟨hr2_0, hc2_0, hr2_1, hc2_1⟩
 rw [e] at this
 exact this.mono fun e w' ⟨v, h1, h2, h3⟩ => ⟨v, h1, h2, fr_below h3⟩
def heard_Pieces.f (a0_0 : Int) (l0_1 : List S114) (l0_2 : List S62) (l1_0 : List Int) (l1_1 : List Int) (a1_2 : Int) (a1_3 : Int) : Option (List Int × Int) := some (allF a0_0 l0_1 l0_2 [⟨l1_0, l1_1, a1_2, a1_3⟩])
theorem heard_Pieces.calls (a0_0 : Int) (A0_1 : Option Addr) (c0_1 : Nat) (l0_1 : List S114) (A0_2 : Option Addr) (c0_2 : Nat) (l0_2 : List S62) (A1_0 : Option Addr) (c1_0 : Nat) (l1_0 : List Int) (A1_1 : Option Addr) (c1_1 : Nat) (l1_1 : List Int) (a1_2 : Int) (a1_3 : Int) (r1 : List Int) (r2 : Int) (w : World) (hr0_1 : Kd.C k114 w A0_1 l0_1.length l0_1) (hc0_1 : l0_1.length ≤ c0_1) (hr0_2 : Kd.C k62 w A0_2 l0_2.length l0_2) (hc0_2 : l0_2.length ≤ c0_2) (hr1_0 : Kd.C (Kd.int .i64) w A1_0 l1_0.length l1_0) (hc1_0 : l1_0.length ≤ c1_0) (hr1_1 : Kd.C (Kd.int .i64) w A1_1 l1_1.length l1_1) (hc1_1 : l1_1.length ≤ c1_1) (hG : Glob w) (h : heard_Pieces.f a0_0 l0_1 l0_2 l1_0 l1_1 a1_2 a1_3 = some (r1, r2)) :
  Calls Tryd.prog 18 #[.agg #[.int .i64 a0_0, .slice A0_1 l0_1.length c0_1, .slice A0_2 l0_2.length c0_2], .agg #[.slice A1_0 l1_0.length c1_0, .slice A1_1 l1_1.length c1_1, .int .i64 a1_2, .int .i64 a1_3]] w fun e w' => ∃ v0_ : Value, e = .returned (.tuple #[v0_, .int .i64 r2]) ∧ Kd.V (Kd.int .i64) 3 w' w.heap.size (fun k_ => (w.heap.size ≤ k_)) v0_ r1 ∧ Below w.heap.size w w' := by
 have e := Option.some.inj h
 have := pieces18 a0_0 A0_1 c0_1 l0_1 A0_2 c0_2 l0_2 A1_0 c1_0 l1_0 A1_1 c1_1 l1_1 a1_2 a1_3 w ⟨⟨hr0_1, hc0_1, hG⟩, hr0_2, hc0_2⟩ ⟨hr1_0, hc1_0, hr1_1, hc1_1⟩
 rw [e] at this
 exact this
def heard_All.f (a0_0 : Int) (l0_1 : List S114) (l0_2 : List S62) (l1 : List S30) : Option (List Int × Int) := some (allF a0_0 l0_1 l0_2 l1)
theorem heard_All.calls (a0_0 : Int) (A0_1 : Option Addr) (c0_1 : Nat) (l0_1 : List S114) (A0_2 : Option Addr) (c0_2 : Nat) (l0_2 : List S62) (A1 : Option Addr) (c1 : Nat) (l1 : List S30) (r1 : List Int) (r2 : Int) (w : World) (hr0_1 : Kd.C k114 w A0_1 l0_1.length l0_1) (hc0_1 : l0_1.length ≤ c0_1) (hr0_2 : Kd.C k62 w A0_2 l0_2.length l0_2) (hc0_2 : l0_2.length ≤ c0_2) (hr1 : Kd.C k30 w A1 l1.length l1) (hc1 : l1.length ≤ c1) (hG : Glob w) (h : heard_All.f a0_0 l0_1 l0_2 l1 = some (r1, r2)) :
  Calls Tryd.prog 28 #[.agg #[.int .i64 a0_0, .slice A0_1 l0_1.length c0_1, .slice A0_2 l0_2.length c0_2], .slice A1 l1.length c1] w fun e w' => ∃ v0_ : Value, e = .returned (.tuple #[v0_, .int .i64 r2]) ∧ Kd.V (Kd.int .i64) 3 w' w.heap.size (fun k_ => (w.heap.size ≤ k_)) v0_ r1 ∧ Below w.heap.size w w' := by
 have e := Option.some.inj h
 have := all28 a0_0 A0_1 c0_1 l0_1 A0_2 c0_2 l0_2 A1 c1 l1 w ⟨⟨hr0_1, hc0_1, hG⟩, hr0_2, hc0_2⟩ hr1 hc1
 rw [e] at this
 exact this
def cycle_Struck.f (a0_0 : Int) (l0_1 : List S114) (a1 : Int) (a2 : Int) : Option (List Int × Int) := some (struckF a0_0 l0_1 a1 a2)
theorem cycle_Struck.calls (a0_0 : Int) (A0_1 : Option Addr) (c0_1 : Nat) (l0_1 : List S114) (a1 : Int) (a2 : Int) (r1 : List Int) (r2 : Int) (w : World) (hr0_1 : Kd.C k114 w A0_1 l0_1.length l0_1) (hc0_1 : l0_1.length ≤ c0_1) (hG : Glob w) (h : cycle_Struck.f a0_0 l0_1 a1 a2 = some (r1, r2)) :
  Calls Tryd.prog 43 #[.agg #[.int .i64 a0_0, .slice A0_1 l0_1.length c0_1], .int .i64 a1, .int .i64 a2] w fun e w' => ∃ v0_ : Value, e = .returned (.tuple #[v0_, .int .i64 r2]) ∧ Kd.V (Kd.int .i64) 3 w' w.heap.size (fun k_ => (w.heap.size ≤ k_)) v0_ r1 ∧ Below w.heap.size w w' := by
 have e := Option.some.inj h
 have := struck_any a0_0 A0_1 c0_1 l0_1 a1 a2 w ⟨hr0_1, hc0_1, hG⟩
 rw [e] at this
 exact this
end Go.Proofs.YtfdenclnneigfaaDoor.PRaspKeys
