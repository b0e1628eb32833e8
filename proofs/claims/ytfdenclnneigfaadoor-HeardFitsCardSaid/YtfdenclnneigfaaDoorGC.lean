import Derived.Test.YtfdenclnneigfaaDoorGB
import Derived.Test.YtfdenclnneigfaaDoorM0
set_option linter.unusedVariables false
set_option linter.unusedSimpArgs false
namespace Go.Proofs.YtfdenclnneigfaaDoor.PRaspKeys
open Go.RowKit Go.Proofs.YtfdenclnneigfaaDoorW.PrintWords Go.Proofs.YtfdenclnneigfaaDoorW.PrintLast Go.Proofs.YtfdenclnneigfaaDoor.R Go.Proofs.YtfdenclnneigfaaDoor.M
def heard_lies.f (a0 : Int) (a1 : Int) (a2 : Int) : Option (Bool) := some (isIn a0 a1 a2)
theorem heard_lies.calls (a0 : Int) (a1 : Int) (a2 : Int) (r : Bool) (w : World) (hG : Glob w) (h : heard_lies.f a0 a1 a2 = some r) :
  Calls Tryd.prog 59 #[.int .i64 a0, .int .i64 a1, .int .i64 a2] w fun e w' => e = .returned (.bool r) ∧ Below w.heap.size w w' := by
 cases Option.some.inj h
 exact (hlies a0 a1 a2 w).mono fun e w' h => ⟨h.1, fr_below h.2⟩
def heard_areTones.f (l0 : List Int) (a1 : Int) : Option (Bool) := some (tonesB l0 a1)
theorem heard_areTones.calls (A0 : Option Addr) (c0 : Nat) (l0 : List Int) (a1 : Int) (r : Bool) (w : World) (hr0 : Kd.C (Kd.int .i64) w A0 l0.length l0) (hc0 : l0.length ≤ c0) (hG : Glob w) (h : heard_areTones.f l0 a1 = some r) :
  Calls Tryd.prog 60 #[.slice A0 l0.length c0, .int .i64 a1] w fun e w' => e = .returned (.bool r) ∧ Below w.heap.size w w' := by
 cases Option.some.inj h
 exact (tones_any A0 c0 l0 a1 w hr0 hc0).mono fun e w' h => ⟨h.1, fr_below h.2⟩
def heard_Check.f (a0_0 : Int) (l0_1 : List S114) (l0_2 : List S62) : Option (Int) := some (hcheckE a0_0 l0_1 l0_2)
theorem heard_Check.calls (a0_0 : Int) (A0_1 : Option Addr) (c0_1 : Nat) (l0_1 : List S114) (A0_2 : Option Addr) (c0_2 : Nat) (l0_2 : List S62) (r : Int) (w : World) (hr0_1 : Kd.C k114 w A0_1 l0_1.length l0_1) (hc0_1 : l0_1.length ≤ c0_1) (hr0_2 : Kd.C k62 w A0_2 l0_2.length l0_2) (hc0_2 : l0_2.length ≤ c0_2) (hG : Glob w) (h : heard_Check.f a0_0 l0_1 l0_2 = some r) :
  Calls Tryd.prog 16 #[.agg #[.int .i64 a0_0, .slice A0_1 l0_1.length c0_1, .slice A0_2 l0_2.length c0_2]] w fun e w' => e = .returned (.int .i64 r) ∧ Below w.heap.size w w' := by
 cases Option.some.inj h
 exact (hcheck_any a0_0 A0_1 c0_1 l0_1 A0_2 c0_2 l0_2 w ⟨⟨hr0_1, hc0_1, hG⟩, hr0_2, hc0_2⟩).mono fun e w' h => ⟨h.1, fr_below h.2⟩
def heard_common.f (l0 : List Int) (l1 : List Int) : Option (Int) := if l0.length ≤ 24 ∧ l1.length ≤ 24 then some (H.lcs l0 l1) else none
theorem heard_common.calls (A0 : Option Addr) (c0 : Nat) (l0 : List Int) (A1 : Option Addr) (c1 : Nat) (l1 : List Int) (r : Int) (w : World) (hr0 : Kd.C (Kd.int .i64) w A0 l0.length l0) (hc0 : l0.length ≤ c0) (hr1 : Kd.C (Kd.int .i64) w A1 l1.length l1) (hc1 : l1.length ≤ c1) (hG : Glob w) (h : heard_common.f l0 l1 = some r) :
  Calls Tryd.prog 72 #[.slice A0 l0.length c0, .slice A1 l1.length c1] w fun e w' => e = .returned (.int .i64 r) ∧ Below w.heap.size w w' := by
 unfold heard_common.f at h
 by_cases hb : l0.length ≤ 24 ∧ l1.length ≤ 24
 ·rw [if_pos hb] at h
  cases Option.some.inj h
  exact (common72 l0 l1 A0 c0 A1 c1 w hr0 hr1 hb.1 hb.2).mono fun e w' h => ⟨h.1, fr_below h.2⟩
 ·rw [if_neg hb] at h
  cases h
end Go.Proofs.YtfdenclnneigfaaDoor.PRaspKeys
