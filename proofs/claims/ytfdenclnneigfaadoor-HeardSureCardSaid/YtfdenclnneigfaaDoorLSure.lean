import Derived.Test.YtfdenclnneigfaaDoorGF
import Derived.Test.YtfdenclnneigfaaDoorCS
import Derived.Test.YtfdenclnneigfaaDoorCD
import Derived.Test.YtfdenclnneigfaaDoorM0
import Derived.Test.YtfdenclnneigfaaDoorProg
import Derived.Below
import Derived.Deep.Draws
import Derived.Deep.AppendLies
import Derived.Maps.AppendAt
import Derived.OwnWalk
import Derived.Laws.BytesArg
import Derived.Laws.MakeOwn
import Derived.Laws.OwnMore
import Derived.Deep.OwnRows
import Derived.Tactics
import Derived.Lib.ConvBytes
import Derived.Laws.Slices
import Derived.WalkKit
import Derived.KernelRfl
import Derived.RowKit3
import Derived.Deep.LoopGhost
import Derived.Deep.QuietTactic
import Derived.BigQuiet
import Derived.WideLaws
import Derived.Deep.DeepCutAuto
import Derived.Deep.CutBlock
import Derived.Deep.RegionHeld3
import Derived.Laws.Rows
import Derived.Lib.AppendStr
import Derived.ArgAppend
import Derived.Laws.IdiomCopy
import Derived.OrdersHeld
import Derived.Laws.BitsLemmas
import Derived.RowKit
set_option linter.unusedVariables false
set_option linter.unusedSimpArgs false
namespace Go.Proofs.YtfdenclnneigfaaDoor.M
open Go.RowKit Go.Proofs.YtfdenclnneigfaaDoorW.PrintWords Go.Proofs.YtfdenclnneigfaaDoorW.PrintLast
theorem czz {w : World} {g : Nat} {cs : Array Value} {t : TypeId} {v : Value} (h : w.heap[g]? = some (.cells cs t (0, 0))) (i : Nat) (hv : cs[i]? = some v := by (first | (simp only [List.getElem?_toArray, List.getElem?_cons_zero, List.getElem?_cons_succ]; rfl) | exact rfl)) : w.cell? ⟨g, i, none⟩ = some v := (blk_cell h i).trans hv
end Go.Proofs.YtfdenclnneigfaaDoor.M
namespace Go.Proofs.YtfdenclnneigfaaDoor.PRaspKeys
open Go.RowKit Go.Proofs.YtfdenclnneigfaaDoorW.PrintWords Go.Proofs.YtfdenclnneigfaaDoorW.PrintLast Go.Proofs.YtfdenclnneigfaaDoorW.PrintMore Go.Proofs.YtfdenclnneigfaaDoor.M
attribute [local go_sem] max2_int min2_int max_two min_two max_three min_three max_four min_four   -- for this text's walks alone
/-! #### struct type 114 -/
/-! #### struct type 62 -/
end Go.Proofs.YtfdenclnneigfaaDoor.PRaspKeys
namespace Go.Proofs.YtfdenclnneigfaaDoor.PRaspKeys
open Go.RowKit Go.Proofs.YtfdenclnneigfaaDoorW.PrintWords Go.Proofs.YtfdenclnneigfaaDoorW.PrintLast Go.Proofs.YtfdenclnneigfaaDoorW.PrintMore Go.Proofs.YtfdenclnneigfaaDoor.M
attribute [local go_sem] max2_int min2_int max_two min_two max_three min_three max_four min_four   -- for this text's walks alone
end Go.Proofs.YtfdenclnneigfaaDoor.PRaspKeys
namespace Go.Proofs.YtfdenclnneigfaaDoor.PRaspKeys
open Go.RowKit Go.Proofs.YtfdenclnneigfaaDoorW.PrintWords Go.Proofs.YtfdenclnneigfaaDoorW.PrintLast Go.Proofs.YtfdenclnneigfaaDoorW.PrintMore Go.Proofs.YtfdenclnneigfaaDoor.M
attribute [local go_sem] max2_int min2_int max_two min_two max_three min_three max_four min_four   -- for this text's walks alone
/-! ### saronlaw09_HeardSure: function 11 -/
mutual
def saronlaw09_HeardSure.l0 : Nat → List Int → Int → Int → Int → List Int → Bool → Int → Int → Int → List (S114) → List (S62) → Option (Bool)
 | 0, _, _, _, _, _, _, _, _, _, _, _ => none
 | k + 1, x2, x7, x8, x9, x10, x11, x12, x13, x235000, x235001, x235002 => if x13 < (x235002.length : Int) then (saronlaw09_HeardSure.l1 k x2 x7 x8 x9 x10 x11 x12 x13 (wrap64 (x13 + 1)) x235000 x235001 x235002) else (if x8 = 0 then (if x12 < 0 then (if x7 = (x10.length : Int) then ((saronlaw09_listened.f).bind fun t246 => (some t246)) else (some false)) else (if x11 = true then (saronlaw09_HeardSure.j3 k x2 x7 x9 x10 true x235000 x235001 x235002) else (saronlaw09_HeardSure.j3 k x2 x7 x9 x10 (x7 != (wrap64 (x12 - 1))) x235000 x235001 x235002))) else (if x8 = 4 then (if x7 = 0 then (if x11 = true then ((saronlaw09_listened.f).bind fun t245 => (some t245)) else (some false)) else (some false)) else (some false)))
def saronlaw09_HeardSure.l1 : Nat → List Int → Int → Int → Int → List Int → Bool → Int → Int → Int → Int → List (S114) → List (S62) → Option (Bool)
 | 0, _, _, _, _, _, _, _, _, _, _, _, _ => none
 | k + 1, x2, x7, x8, x9, x10, x11, x12, x13, x14, x235000, x235001, x235002 => if x14 < (x235002.length : Int) then ((heard_Common.f x235000 x235001 x235002 x13 x14).bind fun bt241 => (if 0 ≤ x13 then (if x13 < (x235002.length : Int) then (if 0 ≤ x14 then (if bt241.2 = 0 then (saronlaw09_HeardSure.j2 k x2 x7 x8 x9 x10 x11 x12 x13 x14 (wrap64 ((mx (((rd_T62 x235002 x13).f1).length : Int) (((rd_T62 x235002 x14).f1).length : Int)) - bt241.1)) (decide ((wrap64 ((mx (((rd_T62 x235002 x13).f1).length : Int) (((rd_T62 x235002 x14).f1).length : Int)) - bt241.1)) < 0)) x235000 x235001 x235002) else (saronlaw09_HeardSure.j2 k x2 x7 x8 x9 x10 x11 x12 x13 x14 (wrap64 ((mx (((rd_T62 x235002 x13).f1).length : Int) (((rd_T62 x235002 x14).f1).length : Int)) - bt241.1)) true x235000 x235001 x235002)) else (none)) else (none)) else (none))) else (saronlaw09_HeardSure.l0 k x2 x7 x8 x9 x10 x11 x12 (wrap64 (x13 + 1)) x235000 x235001 x235002)
def saronlaw09_HeardSure.j2 : Nat → List Int → Int → Int → Int → List Int → Bool → Int → Int → Int → Int → Bool → Int → List (S114) → List (S62) → Option (Bool)
 | 0, _, _, _, _, _, _, _, _, _, _, _, _, _, _ => none
 | k + 1, x2, x7, x8, x9, x10, x11, x12, x13, x14, x17, x94, x235000, x235001, x235002 => if x94 = true then (some false) else (if x11 = true then (if x12 < 0 then (saronlaw09_HeardSure.l1 k x2 x7 x8 x9 x10 true x17 x13 (wrap64 (x14 + 1)) x235000 x235001 x235002) else (if x17 < x12 then (saronlaw09_HeardSure.l1 k x2 x7 x8 x9 x10 true x17 x13 (wrap64 (x14 + 1)) x235000 x235001 x235002) else (saronlaw09_HeardSure.l1 k x2 x7 x8 x9 x10 true x12 x13 (wrap64 (x14 + 1)) x235000 x235001 x235002))) else (if x12 < 0 then (saronlaw09_HeardSure.l1 k x2 x7 x8 x9 x10 (x17 == 0) x17 x13 (wrap64 (x14 + 1)) x235000 x235001 x235002) else (if x17 < x12 then (saronlaw09_HeardSure.l1 k x2 x7 x8 x9 x10 (x17 == 0) x17 x13 (wrap64 (x14 + 1)) x235000 x235001 x235002) else (saronlaw09_HeardSure.l1 k x2 x7 x8 x9 x10 (x17 == 0) x12 x13 (wrap64 (x14 + 1)) x235000 x235001 x235002))))
def saronlaw09_HeardSure.j3 : Nat → List Int → Int → Int → List Int → Bool → Int → List (S114) → List (S62) → Option (Bool)
 | 0, _, _, _, _, _, _, _, _ => none
 | k + 1, x2, x7, x9, x10, x137, x235000, x235001, x235002 => if x137 = true then (some false) else ((saronlaw09_some.f k x10 (mn x7 6) x2).bind fun t247 => ((heard_Whole.f k x235000 x235001 x235002 t247 (mn x7 6)).bind fun bt250 => (if bt250.2 = 0 then ((saronref00_Equal.f k bt250.1 (([x9] : List Int))).bind fun t257 => (if t257 = true then ((saronlaw09_listened.f).bind fun t258 => (some t258)) else (some false))) else (some false))))
end
def saronlaw09_HeardSure.f (k : Nat) (a0_0 : Int) (l0_1 : List (S114)) (l0_2 : List (S62)) (a1 : Int) (l2 : List Int) : Option (Bool) := (heard_Known.f k a0_0 l0_1 l0_2).bind fun bt235 => ((saronlaw09_sound.f k a0_0 l0_1 l0_2).bind fun t237 => (if t237 = true then ((saronref00_Turn.f a1 (l0_2.length : Int)).bind fun t239 => (if 0 ≤ t239 then (if t239 < (l0_2.length : Int) then (saronlaw09_HeardSure.l0 k l2 bt235.1 bt235.2 t239 ((rd_T62 l0_2 t239).f1) false (-1) 0 a0_0 l0_1 l0_2) else (none)) else (none))) else (if bt235.2 = 90 then (if bt235.1 = 0 then ((saronlaw09_listened.f).bind fun t238 => (some t238)) else (some false)) else (some false))))
theorem saronlaw09_HeardSure.mono_l : ∀ k, (∀ y0 y1 y2 y3 y4 y5 y6 y7 y8 y9 y10, LeO (saronlaw09_HeardSure.l0 k y0 y1 y2 y3 y4 y5 y6 y7 y8 y9 y10) (saronlaw09_HeardSure.l0 (k + 1) y0 y1 y2 y3 y4 y5 y6 y7 y8 y9 y10)) ∧ (∀ y0 y1 y2 y3 y4 y5 y6 y7 y8 y9 y10 y11, LeO (saronlaw09_HeardSure.l1 k y0 y1 y2 y3 y4 y5 y6 y7 y8 y9 y10 y11) (saronlaw09_HeardSure.l1 (k + 1) y0 y1 y2 y3 y4 y5 y6 y7 y8 y9 y10 y11)) ∧ (∀ y0 y1 y2 y3 y4 y5 y6 y7 y8 y9 y10 y11 y12 y13, LeO (saronlaw09_HeardSure.j2 k y0 y1 y2 y3 y4 y5 y6 y7 y8 y9 y10 y11 y12 y13) (saronlaw09_HeardSure.j2 (k + 1) y0 y1 y2 y3 y4 y5 y6 y7 y8 y9 y10 y11 y12 y13)) ∧ (∀ y0 y1 y2 y3 y4 y5 y6 y7, LeO (saronlaw09_HeardSure.j3 k y0 y1 y2 y3 y4 y5 y6 y7) (saronlaw09_HeardSure.j3 (k + 1) y0 y1 y2 y3 y4 y5 y6 y7))
 | 0 => ⟨fun _ _ _ _ _ _ _ _ _ _ _ r h => by simp [saronlaw09_HeardSure.l0] at h, fun _ _ _ _ _ _ _ _ _ _ _ _ r h => by simp [saronlaw09_HeardSure.l1] at h, fun _ _ _ _ _ _ _ _ _ _ _ _ _ _ r h => by simp [saronlaw09_HeardSure.j2] at h, fun _ _ _ _ _ _ _ _ r h => by simp [saronlaw09_HeardSure.j3] at h⟩
 | k + 1 => by
  obtain ⟨ih0, ih1, ih2, ih3⟩ := saronlaw09_HeardSure.mono_l k
  refine ⟨?_, ?_, ?_, ?_⟩
  ·intro y0 y1 y2 y3 y4 y5 y6 y7 y8 y9 y10
   unfold saronlaw09_HeardSure.l0
   repeat' first
   | (with_reducible exact ih0 _ _ _ _ _ _ _ _ _ _ _)
   | (with_reducible exact ih1 _ _ _ _ _ _ _ _ _ _ _ _)
   | (with_reducible exact ih2 _ _ _ _ _ _ _ _ _ _ _ _ _ _)
   | (with_reducible exact ih3 _ _ _ _ _ _ _ _)
   | (with_reducible exact heard_Known.mono _ _ _ _)
   | (with_reducible exact heard_Whole.mono _ _ _ _ _ _)
   | (with_reducible exact saronlaw09_some.mono _ _ _ _)
   | (with_reducible exact saronlaw09_sound.mono _ _ _ _)
   | (with_reducible exact saronref00_Equal.mono _ _ _)
   | (with_reducible exact LeO.refl _)
   | (with_reducible exact LeO.none _)
   | (with_reducible refine LeO.ite ?_ ?_)
   | (with_reducible refine LeO.bind ?_ (fun _ => ?_))
   | exact ih0 _ _ _ _ _ _ _ _ _ _ _
   | exact ih1 _ _ _ _ _ _ _ _ _ _ _ _
   | exact ih2 _ _ _ _ _ _ _ _ _ _ _ _ _ _
   | exact ih3 _ _ _ _ _ _ _ _
   | exact heard_Known.mono _ _ _ _
   | exact heard_Whole.mono _ _ _ _ _ _
   | exact saronlaw09_some.mono _ _ _ _
   | exact saronlaw09_sound.mono _ _ _ _
   | exact saronref00_Equal.mono _ _ _
   | exact LeO.none _
   | refine LeO.ite ?_ ?_
   | refine LeO.bind ?_ (fun _ => ?_)
  ·intro y0 y1 y2 y3 y4 y5 y6 y7 y8 y9 y10 y11
   unfold saronlaw09_HeardSure.l1
   repeat' first
   | (with_reducible exact ih0 _ _ _ _ _ _ _ _ _ _ _)
   | (with_reducible exact ih1 _ _ _ _ _ _ _ _ _ _ _ _)
   | (with_reducible exact ih2 _ _ _ _ _ _ _ _ _ _ _ _ _ _)
   | (with_reducible exact ih3 _ _ _ _ _ _ _ _)
   | (with_reducible exact heard_Known.mono _ _ _ _)
   | (with_reducible exact heard_Whole.mono _ _ _ _ _ _)
   | (with_reducible exact saronlaw09_some.mono _ _ _ _)
   | (with_reducible exact saronlaw09_sound.mono _ _ _ _)
   | (with_reducible exact saronref00_Equal.mono _ _ _)
   | (with_reducible exact LeO.refl _)
   | (with_reducible exact LeO.none _)
   | (with_reducible refine LeO.ite ?_ ?_)
   | (with_reducible refine LeO.bind ?_ (fun _ => ?_))
   | exact ih0 _ _ _ _ _ _ _ _ _ _ _
   | exact ih1 _ _ _ _ _ _ _ _ _ _ _ _
   | exact ih2 _ _ _ _ _ _ _ _ _ _ _ _ _ _
   | exact ih3 _ _ _ _ _ _ _ _
   | exact heard_Known.mono _ _ _ _
   | exact heard_Whole.mono _ _ _ _ _ _
   | exact saronlaw09_some.mono _ _ _ _
   | exact saronlaw09_sound.mono _ _ _ _
   | exact saronref00_Equal.mono _ _ _
   | exact LeO.none _
   | refine LeO.ite ?_ ?_
   | refine LeO.bind ?_ (fun _ => ?_)
  ·intro y0 y1 y2 y3 y4 y5 y6 y7 y8 y9 y10 y11 y12 y13
   unfold saronlaw09_HeardSure.j2
   repeat' first
   | (with_reducible exact ih0 _ _ _ _ _ _ _ _ _ _ _)
   | (with_reducible exact ih1 _ _ _ _ _ _ _ _ _ _ _ _)
   | (with_reducible exact ih2 _ _ _ _ _ _ _ _ _ _ _ _ _ _)
   | (with_reducible exact ih3 _ _ _ _ _ _ _ _)
   | (with_reducible exact heard_Known.mono _ _ _ _)
   | (with_reducible exact heard_Whole.mono _ _ _ _ _ _)
   | (with_reducible exact saronlaw09_some.mono _ _ _ _)
   | (with_reducible exact saronlaw09_sound.mono _ _ _ _)
   | (with_reducible exact saronref00_Equal.mono _ _ _)
   | (with_reducible exact LeO.refl _)
   | (with_reducible exact LeO.none _)
   | (with_reducible refine LeO.ite ?_ ?_)
   | (with_reducible refine LeO.bind ?_ (fun _ => ?_))
   | exact ih0 _ _ _ _ _ _ _ _ _ _ _
   | exact ih1 _ _ _ _ _ _ _ _ _ _ _ _
   | exact ih2 _ _ _ _ _ _ _ _ _ _ _ _ _ _
   | exact ih3 _ _ _ _ _ _ _ _
   | exact heard_Known.mono _ _ _ _
   | exact heard_Whole.mono _ _ _ _ _ _
   | exact saronlaw09_some.mono _ _ _ _
   | exact saronlaw09_sound.mono _ _ _ _
   | exact saronref00_Equal.mono _ _ _
   | exact LeO.none _
   | refine LeO.ite ?_ ?_
   | refine LeO.bind ?_ (fun _ => ?_)
  ·intro y0 y1 y2 y3 y4 y5 y6 y7
   unfold saronlaw09_HeardSure.j3
   repeat' first
   | (with_reducible exact ih0 _ _ _ _ _ _ _ _ _ _ _)
   | (with_reducible exact ih1 _ _ _ _ _ _ _ _ _ _ _ _)
   | (with_reducible exact ih2 _ _ _ _ _ _ _ _ _ _ _ _ _ _)
   | (with_reducible exact ih3 _ _ _ _ _ _ _ _)
   | (with_reducible exact heard_Known.mono _ _ _ _)
   | (with_reducible exact heard_Whole.mono _ _ _ _ _ _)
   | (with_reducible exact saronlaw09_some.mono _ _ _ _)
   | (with_reducible exact saronlaw09_sound.mono _ _ _ _)
   | (with_reducible exact saronref00_Equal.mono _ _ _)
   | (with_reducible exact LeO.refl _)
   | (with_reducible exact LeO.none _)
   | (with_reducible refine LeO.ite ?_ ?_)
   | (with_reducible refine LeO.bind ?_ (fun _ => ?_))
   | exact ih0 _ _ _ _ _ _ _ _ _ _ _
   | exact ih1 _ _ _ _ _ _ _ _ _ _ _ _
   | exact ih2 _ _ _ _ _ _ _ _ _ _ _ _ _ _
   | exact ih3 _ _ _ _ _ _ _ _
   | exact heard_Known.mono _ _ _ _
   | exact heard_Whole.mono _ _ _ _ _ _
   | exact saronlaw09_some.mono _ _ _ _
   | exact saronlaw09_sound.mono _ _ _ _
   | exact saronref00_Equal.mono _ _ _
   | exact LeO.none _
   | refine LeO.ite ?_ ?_
   | refine LeO.bind ?_ (fun _ => ?_)
theorem saronlaw09_HeardSure.mono : ∀ a0 a1 a2 a3 a4 k, LeO (saronlaw09_HeardSure.f k a0 a1 a2 a3 a4) (saronlaw09_HeardSure.f (k + 1) a0 a1 a2 a3 a4) := by
 intro a0 a1 a2 a3 a4 k
 obtain ⟨ih0, ih1, ih2, ih3⟩ := saronlaw09_HeardSure.mono_l k
 unfold saronlaw09_HeardSure.f
 repeat' first
   | (with_reducible exact ih0 _ _ _ _ _ _ _ _ _ _ _)
   | (with_reducible exact ih1 _ _ _ _ _ _ _ _ _ _ _ _)
   | (with_reducible exact ih2 _ _ _ _ _ _ _ _ _ _ _ _ _ _)
   | (with_reducible exact ih3 _ _ _ _ _ _ _ _)
   | (with_reducible exact heard_Known.mono _ _ _ _)
   | (with_reducible exact heard_Whole.mono _ _ _ _ _ _)
   | (with_reducible exact saronlaw09_some.mono _ _ _ _)
   | (with_reducible exact saronlaw09_sound.mono _ _ _ _)
   | (with_reducible exact saronref00_Equal.mono _ _ _)
   | (with_reducible exact LeO.refl _)
   | (with_reducible exact LeO.none _)
   | (with_reducible refine LeO.ite ?_ ?_)
   | (with_reducible refine LeO.bind ?_ (fun _ => ?_))
   | exact ih0 _ _ _ _ _ _ _ _ _ _ _
   | exact ih1 _ _ _ _ _ _ _ _ _ _ _ _
   | exact ih2 _ _ _ _ _ _ _ _ _ _ _ _ _ _
   | exact ih3 _ _ _ _ _ _ _ _
   | exact heard_Known.mono _ _ _ _
   | exact heard_Whole.mono _ _ _ _ _ _
   | exact saronlaw09_some.mono _ _ _ _
   | exact saronlaw09_sound.mono _ _ _ _
   | exact saronref00_Equal.mono _ _ _
   | exact LeO.none _
   | refine LeO.ite ?_ ?_
   | refine LeO.bind ?_ (fun _ => ?_)
def saronlaw09_HeardSure.T15 : Bool × List (List Nat × List Nat) := (true, [([], []), ([0], [0]), ([], []), ([1, 2], [1, 2]), ([3], [3]), ([4], [4]), ([5], [5]), ([], []), ([7], [7]), ([], []), ([8, 9], [8, 9]), ([10], [10]), ([11], [11]), ([12], [12]), ([6, 13], [6, 13]), ([], []), ([14, 15], [14, 15]), ([16, 0, 1, 2, 3, 4, 5, 6, 7, 8, 9, 10, 11, 12, 13, 14, 15, 16], [16])])
def saronlaw09_HeardSure.B15 : List Nat := [0, 1, 0, 7, 15, 31, 63, 0, 128, 0, 896, 1920, 3968, 8064, 16383, 0, 65535, 131071]
theorem saronlaw09_HeardSure.tab15 : rtab .any (opsOf Tryd.f11 15) = saronlaw09_HeardSure.T15 := by kernel_rfl
theorem saronlaw09_HeardSure.bits15 : waitsOk saronlaw09_HeardSure.T15.2 saronlaw09_HeardSure.B15 = true := by kernel_rfl
def saronlaw09_HeardSure.T28 : Bool × List (List Nat × List Nat) := (true, [([], []), ([], []), ([], []), ([], []), ([1, 2, 3], [1, 2, 3]), ([], []), ([0, 4, 5, 4], [0, 4, 5]), ([6], [6]), ([7], [7]), ([7], [7]), ([8, 6, 0, 1, 2, 3, 4, 5, 6, 7, 8], [8]), ([9, 10, 0, 1, 2, 3, 4, 5, 6, 7, 8, 9, 10], [9])])
def saronlaw09_HeardSure.B28 : List Nat := [0, 0, 0, 0, 14, 0, 63, 127, 255, 255, 511, 2047]
theorem saronlaw09_HeardSure.tab28 : rtab .any (opsOf Tryd.f11 28) = saronlaw09_HeardSure.T28 := by kernel_rfl
theorem saronlaw09_HeardSure.bits28 : waitsOk saronlaw09_HeardSure.T28.2 saronlaw09_HeardSure.B28 = true := by kernel_rfl
set_option maxHeartbeats 8000000 in
set_option maxRecDepth 100000 in
theorem saronlaw09_HeardSure.calls (k : Nat) (a0_0 : Int) (A0_1 : Option Addr) (c0_1 : Nat) (l0_1 : List (S114)) (A0_2 : Option Addr) (c0_2 : Nat) (l0_2 : List (S62)) (a1 : Int) (A2 : Option Addr) (c2 : Nat) (l2 : List Int) (r : Bool) (w : World) (hr0_1 : Kd.C k114 w A0_1 l0_1.length l0_1) (hc0_1 : l0_1.length ≤ c0_1) (hr0_2 : Kd.C k62 w A0_2 l0_2.length l0_2) (hc0_2 : l0_2.length ≤ c0_2) (hr2 : Kd.C (Kd.int .i64) w A2 l2.length l2) (hc2 : l2.length ≤ c2) (hG : Glob w) (h : saronlaw09_HeardSure.f k a0_0 l0_1 l0_2 a1 l2 = some r) :
  Calls Tryd.prog 11 #[.agg #[.int .i64 a0_0, .slice A0_1 l0_1.length c0_1, .slice A0_2 l0_2.length c0_2], .int .i64 a1, .slice A2 l2.length c2] w fun e w' => e = .returned (.bool r) ∧ Below w.heap.size w w' := by
 have hu27 := Tryd.underlying27
 have HR0_1 := Aside0.mk hr0_1
 have HC0_1 := Aside0.mk hc0_1
 clear hr0_1 hc0_1
 have HR0_2 := Aside0.mk hr0_2
 have HC0_2 := Aside0.mk hc0_2
 clear hr0_2 hc0_2
 have HR2 := Aside0.mk hr2
 have HC2 := Aside0.mk hc2
 clear hr2 hc2
 have HB := Aside0.mk (Below.refl w.heap.size w)
 have HG := Aside0.mk hG
 clear hG
 have H : ((heard_Known.f k a0_0 l0_1 l0_2).bind fun bt235 => ((saronlaw09_sound.f k a0_0 l0_1 l0_2).bind fun t237 => (if t237 = true then ((saronref00_Turn.f a1 (l0_2.length : Int)).bind fun t239 => (if 0 ≤ t239 then (if t239 < (l0_2.length : Int) then (saronlaw09_HeardSure.l0 k l2 bt235.1 bt235.2 t239 ((rd_T62 l0_2 t239).f1) false (-1) 0 a0_0 l0_1 l0_2) else (none)) else (none))) else (if bt235.2 = 90 then (if bt235.1 = 0 then ((saronlaw09_listened.f).bind fun t238 => (some t238)) else (some false)) else (some false))))) = some r := h
 clear h
 replace H := Option.bind_eq_some_iff.mp H
 obtain ⟨⟨t235, t236⟩, A40, H⟩ := H
 replace H : ((saronlaw09_sound.f k a0_0 l0_1 l0_2).bind fun t237 => (if t237 = true then ((saronref00_Turn.f a1 (l0_2.length : Int)).bind fun t239 => (if 0 ≤ t239 then (if t239 < (l0_2.length : Int) then (saronlaw09_HeardSure.l0 k l2 t235 t236 t239 ((rd_T62 l0_2 t239).f1) false (-1) 0 a0_0 l0_1 l0_2) else (none)) else (none))) else (if t236 = 90 then (if t235 = 0 then ((saronlaw09_listened.f).bind fun t238 => (some t238)) else (some false)) else (some false)))) = some r := H
 have A4 := Aside0.mk A40
 clear A40
 replace H := Option.bind_eq_some_iff.mp H
 obtain ⟨t237, A50, H⟩ := H
 replace H : (if t237 = true then ((saronref00_Turn.f a1 (l0_2.length : Int)).bind fun t239 => (if 0 ≤ t239 then (if t239 < (l0_2.length : Int) then (saronlaw09_HeardSure.l0 k l2 t235 t236 t239 ((rd_T62 l0_2 t239).f1) false (-1) 0 a0_0 l0_1 l0_2) else (none)) else (none))) else (if t236 = 90 then (if t235 = 0 then ((saronlaw09_listened.f).bind fun t238 => (some t238)) else (some false)) else (some false))) = some r := H
 have A5 := Aside0.mk A50
 clear A50
 by_cases c6 : t237 = true
 ·subst c6
  have H1 : ((saronref00_Turn.f a1 (l0_2.length : Int)).bind fun t239 => (if 0 ≤ t239 then (if t239 < (l0_2.length : Int) then (saronlaw09_HeardSure.l0 k l2 t235 t236 t239 ((rd_T62 l0_2 t239).f1) false (-1) 0 a0_0 l0_1 l0_2) else (none)) else (none))) = some r := by rw [if_pos rfl] at H; exact H
  clear H
  have H := H1
  clear H1
  replace H := Option.bind_eq_some_iff.mp H
  obtain ⟨t239, A70, H⟩ := H
  replace H : (if 0 ≤ t239 then (if t239 < (l0_2.length : Int) then (saronlaw09_HeardSure.l0 k l2 t235 t236 t239 ((rd_T62 l0_2 t239).f1) false (-1) 0 a0_0 l0_1 l0_2) else (none)) else (none)) = some r := H
  have A7 := Aside0.mk A70
  clear A70
  by_cases c8 : 0 ≤ t239
  ·rw [if_pos c8] at H
   have c8b0 : decide (0 ≤ t239) = true := decide_eq_true c8
   clear c8
   by_cases c9 : t239 < (l0_2.length : Int)
   ·rw [if_pos c9] at H
    have c9b0 : decide (t239 < (l0_2.length : Int)) = true := decide_eq_true c9
    clear c9
    have H' := Aside0.mk H
    clear H
    go_enter Tryd.func11, Tryd.ntmps11
    go_wp2_with (first | ((with_reducible refine gate_dst (N := 3) rfl ?_); (try (refine gate_guard (by rfl) ?_; dsimp only)); refine box_event ?hg (N := 3) ?hd (cs := #[.int .i64 a0_0, .slice A0_1 l0_1.length c0_1, .slice A0_2 l0_2.length c0_2]) (t := 27) ?hr ?_; (case hd => rfl); (case hg => rfl); (case hr => exact TS); intro gb234 hg w10 hbox hb; have BK234 := Aside0.mk (hbox); have GW234 := Aside0.mk ((TG : w.heap.size ≤ gb234)); have GE234 := Aside0.mk ((TG : w.heap.size ≤ gb234)); replace HB := Aside0.mk (below_step TB hb); clear hb hbox hg; have hcz11_0 := czz BK234.out 0; have hcz11_1 := czz BK234.out 1; have hcz11_2 := czz BK234.out 2; have hfz11_0 := fz BK234.out 0; have hfz11_1 := fz BK234.out 1; have hfz11_2 := fz BK234.out 2) | ((with_reducible refine gate_callee (f := 34) rfl ?_); refine goesL_ (some 23) rfl rfl Tryd.func34 (by kernel_rfl) rfl #[.agg #[.int .i64 a0_0, .slice A0_1 l0_1.length c0_1, .slice A0_2 l0_2.length c0_2]] rfl TM ?_; (with_reducible refine (heard_Known.calls k a0_0 _ _ l0_1 _ _ l0_2 t235 t236 _ ?side1 ?side2 ?side3 ?side4 ?side5 A4.out).mono ?_); (case side1 => exact TC HR0_1.out); (case side2 => exact HC0_1.out); (case side3 => exact TC HR0_2.out); (case side4 => exact HC0_2.out); (case side5 => exact Glob.fr HG.out (Fr.of_below (TB1 GE234.out))); rintro e w12 ⟨rfl, hb⟩; refine ⟨_, rfl, ?_⟩; replace BK234 := Aside0.mk (blk_below (g := gb234) (o := .cells #[.int .i64 a0_0, .slice A0_1 l0_1.length c0_1, .slice A0_2 l0_2.length c0_2] 27 (0, 0)) (by (with_reducible repeat (first | refine blk_drewN ?_ _ | refine blk_drew ?_ | refine blk_alloc ?_ _)); exact BK234.out) hb); replace HB := Aside0.mk (below_step (TB1 GE234.out) hb); (try clear hb); (try clear hb2); (try clear hk); (try clear hi); have hcz13_0 := czz BK234.out 0; have hcz13_1 := czz BK234.out 1; have hcz13_2 := czz BK234.out 2; have hfz13_0 := fz BK234.out 0; have hfz13_1 := fz BK234.out 1; have hfz13_2 := fz BK234.out 2) | ((with_reducible refine gate_callee (f := 36) rfl ?_); refine goesL_ (some 27) rfl rfl Tryd.func36 (by kernel_rfl) rfl #[.agg #[.int .i64 a0_0, .slice A0_1 l0_1.length c0_1, .slice A0_2 l0_2.length c0_2]] rfl TM ?_; (with_reducible refine (saronlaw09_sound.calls k a0_0 _ _ l0_1 _ _ l0_2 true _ ?side1 ?side2 ?side3 ?side4 ?side5 A5.out).mono ?_); (case side1 => exact TC HR0_1.out); (case side2 => exact HC0_1.out); (case side3 => exact TC HR0_2.out); (case side4 => exact HC0_2.out); (case side5 => exact Glob.fr HG.out (Fr.of_below (TB1 GE234.out))); rintro e w14 ⟨rfl, hb⟩; refine ⟨_, rfl, ?_⟩; replace BK234 := Aside0.mk (blk_below (g := gb234) (o := .cells #[.int .i64 a0_0, .slice A0_1 l0_1.length c0_1, .slice A0_2 l0_2.length c0_2] 27 (0, 0)) (by (with_reducible repeat (first | refine blk_drewN ?_ _ | refine blk_drew ?_ | refine blk_alloc ?_ _)); exact BK234.out) hb); replace HB := Aside0.mk (below_step (TB1 GE234.out) hb); (try clear hb); (try clear hb2); (try clear hk); (try clear hi); have hcz15_0 := czz BK234.out 0; have hcz15_1 := czz BK234.out 1; have hcz15_2 := czz BK234.out 2; have hfz15_0 := fz BK234.out 0; have hfz15_1 := fz BK234.out 1; have hfz15_2 := fz BK234.out 2) | ((with_reducible refine gate_callee (f := 37) rfl ?_); refine goesL_ (some 42) rfl rfl Tryd.func37 (by kernel_rfl) rfl #[.int .i64 a1, .int .i64 (l0_2.length : Int)] rfl TM ?_; (with_reducible refine (saronref00_Turn.calls a1 (l0_2.length : Int) t239 _ A7.out).mono ?_); rintro e w' ⟨rfl, ⟨nd, rfl⟩⟩; refine ⟨_, rfl, ?_⟩; have p240 : 0 ≤ (t239 : Int) := of_decide_eq_true TA; have q240 : t239 < (l0_2.length : Int) := of_decide_eq_true TA; obtain ⟨ad240, A240_1, c240_1, e240, hx240_0, hx240_1, hl240_1, hi240_1⟩ := at_T62 HR0_2.out t239 p240 q240; cases e240; replace hx240_0 := (HB.out.cell  (World.block_lt_of_cell? w _ hx240_0)).trans hx240_0; replace hx240_1 := (HB.out.cell  (World.block_lt_of_cell? w _ hx240_1)).trans hx240_1; have HR240_1 := Aside0.mk hi240_1; have HC240_1 := Aside0.mk hl240_1; clear hi240_1 hl240_1; replace p240 := eq_true p240; replace q240 := eq_true q240))
    go_loopg [11, 12, 13] k (fun kq v11 v12 v13 w' => ∃ (x11_1 : Bool) (x12_1 : Int) (x13_1 : Int), v11 = .bool x11_1 ∧ v12 = .int .i64 x12_1 ∧ v13 = .int .i64 x13_1 ∧ Aside0 (saronlaw09_HeardSure.l0 kq l2 t235 t236 t239 ((rd_T62 l0_2 t239).f1) x11_1 x12_1 x13_1 a0_0 l0_1 l0_2 = some r) ∧ Aside0 (kq ≤ k) ∧ Aside0 (w'.heap[gb234]? = some (.cells #[.int .i64 a0_0, (.slice A0_1 l0_1.length c0_1), (.slice (some ad240) l0_2.length c0_2)] 27 (0, 0))) ∧ Aside0 (Below w.heap.size w w'))
    case atStart => exact ⟨(false), ((-1)), (0), TT, TT, TT, H', ⟨Nat.le_refl _⟩, ⟨by (with_reducible repeat (first | refine blk_drewN ?_ _ | refine blk_drew ?_ | refine blk_alloc ?_ _)); exact BK234.out⟩, ⟨TB1 GE234.out⟩⟩
    case round => as_aux_lemma =>
     clear H'
     try clear c1
     try clear c2
     try clear p2
     try clear q2
     try clear hx2
     try clear c3
     try clear c6
     try clear c8
     try clear c8b0
     try clear c9
     try clear c9b0
     try clear c11
     try clear hcz11_0 hcz11_1 hcz11_2
     try clear hcz13_0 hcz13_1 hcz13_2
     try clear hcz15_0 hcz15_1 hcz15_2
     try clear hfz11_0 hfz11_1 hfz11_2
     try clear hfz13_0 hfz13_1 hfz13_2
     try clear hfz15_0 hfz15_1 hfz15_2
     try clear hx240_0
     try clear hx240_1
     try clear p240
     try clear q240
     obtain ⟨x11_1, x12_1, x13_1, rfl, rfl, rfl, HA, HK1, BK234, HB⟩ := hrel
     cases gk with
     | zero => exact absurd HA.out (by simp [saronlaw09_HeardSure.l0])
     | succ k1 =>
      have H := HA.out
      clear HA
      simp only [saronlaw09_HeardSure.l0] at H
      by_cases c16 : x13_1 < (l0_2.length : Int)
      ·rw [if_pos c16] at H
       have c16b0 : decide (x13_1 < (l0_2.length : Int)) = true := decide_eq_true c16
       clear c16
       have H' := Aside0.mk H
       clear H
       have hcz17_0 := czz BK234.out 0
       have hcz17_1 := czz BK234.out 1
       have hcz17_2 := czz BK234.out 2
       have hfz17_0 := fz BK234.out 0
       have hfz17_1 := fz BK234.out 1
       have hfz17_2 := fz BK234.out 2
       go_wp2
       go_loopg [11, 12, 14] k1 (fun kq v11 v12 v14 w' => ∃ (x11_2 : Bool) (x12_2 : Int) (x14_2 : Int), v11 = .bool x11_2 ∧ v12 = .int .i64 x12_2 ∧ v14 = .int .i64 x14_2 ∧ Aside0 (saronlaw09_HeardSure.l1 kq l2 t235 t236 t239 ((rd_T62 l0_2 t239).f1) x11_2 x12_2 x13_1 x14_2 a0_0 l0_1 l0_2 = some r) ∧ Aside0 (kq ≤ k1) ∧ Aside0 (w'.heap[gb234]? = some (.cells #[.int .i64 a0_0, (.slice A0_1 l0_1.length c0_1), (.slice (some ad240) l0_2.length c0_2)] 27 (0, 0))) ∧ Aside0 (Below w.heap.size w w'))
       case atStart => exact ⟨(x11_1), (x12_1), (wrap64 (x13_1 + 1)), TT, TT, TT, H', ⟨Nat.le_refl _⟩, ⟨by (with_reducible repeat (first | refine blk_drewN ?_ _ | refine blk_drew ?_ | refine blk_alloc ?_ _)); exact BK234.out⟩, ⟨TB1 GE234.out⟩⟩
       case round => as_aux_lemma =>
        clear H'
        try clear c1
        try clear c2
        try clear p2
        try clear q2
        try clear hx2
        try clear c3
        try clear c6
        try clear p6
        try clear c8
        try clear c8b0
        try clear c9
        try clear c9b0
        try clear c11
        try clear c16
        try clear c16b0
        try clear hcz11_0 hcz11_1 hcz11_2
        try clear hcz13_0 hcz13_1 hcz13_2
        try clear hcz15_0 hcz15_1 hcz15_2
        try clear hcz17_0 hcz17_1 hcz17_2
        try clear hfz11_0 hfz11_1 hfz11_2
        try clear hfz13_0 hfz13_1 hfz13_2
        try clear hfz15_0 hfz15_1 hfz15_2
        try clear hfz17_0 hfz17_1 hfz17_2
        try clear hx240_0
        try clear hx240_1
        try clear p2
        try clear p240
        try clear q2
        try clear q240
        obtain ⟨x11_2, x12_2, x14_2, rfl, rfl, rfl, HA, HK2, BK234, HB⟩ := hrel
        cases gk with
        | zero => exact absurd HA.out (by simp [saronlaw09_HeardSure.l1])
        | succ k2 =>
         have H := HA.out
         clear HA
         simp only [saronlaw09_HeardSure.l1] at H
         by_cases c18 : x14_2 < (l0_2.length : Int)
         ·rw [if_pos c18] at H
          have c18b0 : decide (x14_2 < (l0_2.length : Int)) = true := decide_eq_true c18
          clear c18
          replace H := Option.bind_eq_some_iff.mp H
          obtain ⟨⟨t241, t242⟩, A190, H⟩ := H
          replace H : (if 0 ≤ x13_1 then (if x13_1 < (l0_2.length : Int) then (if 0 ≤ x14_2 then (if t242 = 0 then (saronlaw09_HeardSure.j2 k2 l2 t235 t236 t239 ((rd_T62 l0_2 t239).f1) x11_2 x12_2 x13_1 x14_2 (wrap64 ((mx (((rd_T62 l0_2 x13_1).f1).length : Int) (((rd_T62 l0_2 x14_2).f1).length : Int)) - t241)) (decide ((wrap64 ((mx (((rd_T62 l0_2 x13_1).f1).length : Int) (((rd_T62 l0_2 x14_2).f1).length : Int)) - t241)) < 0)) a0_0 l0_1 l0_2) else (saronlaw09_HeardSure.j2 k2 l2 t235 t236 t239 ((rd_T62 l0_2 t239).f1) x11_2 x12_2 x13_1 x14_2 (wrap64 ((mx (((rd_T62 l0_2 x13_1).f1).length : Int) (((rd_T62 l0_2 x14_2).f1).length : Int)) - t241)) true a0_0 l0_1 l0_2)) else (none)) else (none)) else (none)) = some r := H
          have A19 := Aside0.mk A190
          clear A190
          by_cases c20 : 0 ≤ x13_1
          ·rw [if_pos c20] at H
           have c20b0 : decide (0 ≤ x13_1) = true := decide_eq_true c20
           clear c20
           by_cases c21 : x13_1 < (l0_2.length : Int)
           ·rw [if_pos c21] at H
            have c21b0 : decide (x13_1 < (l0_2.length : Int)) = true := decide_eq_true c21
            clear c21
            by_cases c22 : 0 ≤ x14_2
            ·rw [if_pos c22] at H
             have c22b0 : decide (0 ≤ x14_2) = true := decide_eq_true c22
             clear c22
             obtain ⟨ji23, hji23⟩ : ∃ j_ : Int, (mx (((rd_T62 l0_2 x13_1).f1).length : Int) (((rd_T62 l0_2 x14_2).f1).length : Int)) = j_ := ⟨_, rfl⟩
             replace H : (if t242 = 0 then (saronlaw09_HeardSure.j2 k2 l2 t235 t236 t239 ((rd_T62 l0_2 t239).f1) x11_2 x12_2 x13_1 x14_2 (wrap64 ((ji23) - t241)) (decide ((wrap64 ((ji23) - t241)) < 0)) a0_0 l0_1 l0_2) else (saronlaw09_HeardSure.j2 k2 l2 t235 t236 t239 ((rd_T62 l0_2 t239).f1) x11_2 x12_2 x13_1 x14_2 (wrap64 ((ji23) - t241)) true a0_0 l0_1 l0_2)) = some r := by first | (rw [hji23] at H; exact H) | (simp only [hji23] at H ⊢; exact H)
             (try rw [hji23] at A19)
             have hji23_ : (if (((rd_T62 l0_2 x13_1).f1).length : Int) < (((rd_T62 l0_2 x14_2).f1).length : Int) then (((rd_T62 l0_2 x14_2).f1).length : Int) else (((rd_T62 l0_2 x13_1).f1).length : Int)) = ji23 := hji23
             (try (have hji23n := hji23_; simp only [Int.ofNat_lt] at hji23n))
             have HC24 := Aside0.mk H
             clear H
             have hcz25_0 := czz BK234.out 0
             have hcz25_1 := czz BK234.out 1
             have hcz25_2 := czz BK234.out 2
             have hfz25_0 := fz BK234.out 0
             have hfz25_1 := fz BK234.out 1
             have hfz25_2 := fz BK234.out 2
             try go_wp2_with (first | ((with_reducible refine gate_callee (f := 30) rfl ?_); refine goesL_ (some 69) rfl rfl Tryd.func30 (by kernel_rfl) rfl #[.agg #[.int .i64 a0_0, .slice A0_1 l0_1.length c0_1, .slice (some ad240) l0_2.length c0_2], .int .i64 x13_1, .int .i64 x14_2] rfl TM ?_; (with_reducible refine (heard_Common.calls a0_0 _ _ l0_1 _ _ l0_2 x13_1 x14_2 t241 t242 _ ?side1 ?side2 ?side3 ?side4 ?side5 A19.out).mono ?_); (case side1 => exact TC HR0_1.out); (case side2 => exact HC0_1.out); (case side3 => exact TC HR0_2.out); (case side4 => exact HC0_2.out); (case side5 => exact Glob.fr HG.out (Fr.of_below (TB1 GE234.out))); rintro e w26 ⟨rfl, hb⟩; refine ⟨_, rfl, ?_⟩; replace BK234 := Aside0.mk (blk_below (g := gb234) (o := .cells #[.int .i64 a0_0, .slice A0_1 l0_1.length c0_1, .slice (some ad240) l0_2.length c0_2] 27 (0, 0)) (by (with_reducible repeat (first | refine blk_drewN ?_ _ | refine blk_drew ?_ | refine blk_alloc ?_ _)); exact BK234.out) hb); replace HB := Aside0.mk (below_step (TB1 GE234.out) hb); (try clear hb); (try clear hb2); (try clear hk); (try clear hi)))
             have n0_ := Aside0.mk (blk_drew BK234.out)
             have n1_ := Aside0.mk (below_drew1 HB.out)
             clear BK234
             clear HB
             have BK234 := n0_
             have HB := n1_
             clear n0_ n1_
             have p243 : 0 ≤ (x13_1 : Int) := of_decide_eq_true TA
             have q243 : x13_1 < (l0_2.length : Int) := of_decide_eq_true TA
             obtain ⟨ad243, A243_1, c243_1, e243, hx243_0, hx243_1, hl243_1, hi243_1⟩ := at_T62 HR0_2.out x13_1 p243 q243
             have hw243_1 := hx243_1
             have hw243_0 := hx243_0
             obtain rfl : ad240 = ad243 := (by injection e243)
             replace hx243_0 := (HB.out.cell  (World.block_lt_of_cell? w _ hx243_0)).trans hx243_0
             replace hx243_1 := (HB.out.cell  (World.block_lt_of_cell? w _ hx243_1)).trans hx243_1
             have HR243_1 := Aside0.mk hi243_1
             have HC243_1 := Aside0.mk hl243_1
             clear hi243_1 hl243_1
             replace p243 := eq_true p243
             replace q243 := eq_true q243
             have p244 : 0 ≤ (x14_2 : Int) := of_decide_eq_true TA
             have q244 : x14_2 < (l0_2.length : Int) := of_decide_eq_true TA
             obtain ⟨ad244, A244_1, c244_1, e244, hx244_0, hx244_1, hl244_1, hi244_1⟩ := at_T62 HR0_2.out x14_2 p244 q244
             have hw244_1 := hx244_1
             have hw244_0 := hx244_0
             obtain rfl : ad240 = ad244 := (by injection e244)
             replace hx244_0 := (HB.out.cell  (World.block_lt_of_cell? w _ hx244_0)).trans hx244_0
             replace hx244_1 := (HB.out.cell  (World.block_lt_of_cell? w _ hx244_1)).trans hx244_1
             have HR244_1 := Aside0.mk hi244_1
             have HC244_1 := Aside0.mk hl244_1
             clear hi244_1 hl244_1
             replace p244 := eq_true p244
             replace q244 := eq_true q244
             refine start_ (n := 18) (S := fun w' => w'.cell? ⟨gb234, 0, none⟩ = some (.int .i64 a0_0) ∧ w'.cell? ⟨gb234, 1, none⟩ = some (.slice A0_1 l0_1.length c0_1) ∧ w'.cell? ⟨gb234, 2, none⟩ = some (.slice (some ad240) l0_2.length c0_2) ∧ w'.cell? (ad240.add ((x13_1).toNat * 2)) = some (.int .i64 ((rd_T62 l0_2 x13_1).f0)) ∧ w'.cell? ⟨(ad240.add ((x13_1).toNat * 2)).block, (ad240.add ((x13_1).toNat * 2)).off + 1, none⟩ = some (.slice A243_1 ((rd_T62 l0_2 x13_1).f1).length c243_1) ∧ w'.cell? (ad240.add ((x14_2).toNat * 2)) = some (.int .i64 ((rd_T62 l0_2 x14_2).f0)) ∧ w'.cell? ⟨(ad240.add ((x14_2).toNat * 2)).block, (ad240.add ((x14_2).toNat * 2)).off + 1, none⟩ = some (.slice A244_1 ((rd_T62 l0_2 x14_2).f1).length c244_1)) (ds := []) (.replicate 18 false) (by kernel_rfl) rfl rfl ⟨czz BK234.out 0, czz BK234.out 1, czz BK234.out 2, ((HB.out.cell  (World.block_lt_of_cell? w _ hw243_0)).trans hw243_0), ((HB.out.cell  (World.block_lt_of_cell? w _ hw243_1)).trans hw243_1), ((HB.out.cell  (World.block_lt_of_cell? w _ hw244_0)).trans hw244_0), ((HB.out.cell  (World.block_lt_of_cell? w _ hw244_1)).trans hw244_1)⟩ (fun hHeld => ?_); refine with_tabW saronlaw09_HeardSure.tab15 saronlaw09_HeardSure.bits15 (fun HT_ HW_ => ?_)
             generalize w26.drew = w27 at BK234 HB HR243_1 HR244_1 hx243_0 hx243_1 hx244_0 hx244_1 hHeld ⊢
             refine pT 0 72 (bt 18 1) (k := ?_)
             refine pT 2 74 (bt 18 5) (k := ?_)
             refine pT 7 79 (bt 18 133) (k := ?_)
             refine pT 9 81 (bt 18 645) (k := ?_)
             refine pT 15 87 (bt 18 33413) (k := ?_)
             refine tT7 1 73 (bt 18 33415) hHeld (k := ?_)
             refine pT 3 75 (bt 18 33423) (k := ?_)
             refine pT 4 76 (bt 18 33439) (k := ?_)
             refine tT7 5 77 (bt 18 33471) hHeld (k := ?_)
             refine pT 6 78 (bt 18 33535) (k := ?_)
             refine tT7 8 80 (bt 18 33791) hHeld (k := ?_)
             refine pT 10 82 (bt 18 34815) (k := ?_)
             refine pT 11 83 (bt 18 36863) (k := ?_)
             refine tT7 12 84 (bt 18 40959) hHeld (k := ?_)
             refine pT 13 85 (bt 18 49151) (k := ?_)
             refine pT 14 86 (bt 18 65535) (k := ?_)
             refine pT 16 88 (bt 18 131071) (k := ?_)
             refine pT 17 17 (bt 18 262143) (k := ?_)
             refine done_ (done_of HT_.out (by kernel_rfl)) ?_
             go_upto_region 16 with (fail)
             go_cut [94] (fun v94 wc => ∃ (kq : Nat) (x94_23 : Bool), v94 = .bool x94_23 ∧ Aside0 (saronlaw09_HeardSure.j2 kq l2 t235 t236 t239 ((rd_T62 l0_2 t239).f1) x11_2 x12_2 x13_1 x14_2 (wrap64 ((ji23) - t241)) x94_23 a0_0 l0_1 l0_2 = some r) ∧ Aside0 (kq ≤ k2) ∧ Aside0 (wc.heap[gb234]? = some (.cells #[.int .i64 a0_0, (.slice A0_1 l0_1.length c0_1), (.slice (some ad240) l0_2.length c0_2)] 27 (0, 0))) ∧ Aside0 (Below w.heap.size w wc))
             case first => as_aux_lemma =>
              have H := HC24.out
              clear HC24
              by_cases c28 : t242 = 0
              ·rw [if_pos c28] at H
               have c28b0 : (t242 == 0) = true := beq_iff_eq.mpr c28
               have c28b1 : (t242 != 0) = false := bne_eq_false_iff_eq.mpr c28
               clear c28
               (first | rw [c28b0] | (simp only [i64_w, i32_w]; rw [c28b0]) | skip)
               have H' := Aside0.mk H
               clear H
               go_wp2
               go_meet
               case rel => exact ⟨_, (decide ((wrap64 ((ji23) - t241)) < 0)), (by first | rfl | (simp; done) | (simp only [← hji23] <;> (first | rfl | simp)) | (simp [*]; done)), H', ⟨by have := HK1.out; have := HK2.out; first | omega | exact Nat.le_refl _⟩, ⟨by (with_reducible repeat (first | refine blk_drewN ?_ _ | refine blk_drew ?_ | refine blk_alloc ?_ _)); exact BK234.out⟩, ⟨TB1 GE234.out⟩⟩
              ·rw [if_neg c28] at H
               have c28b0 : (t242 == 0) = false := beq_eq_false_iff_ne.mpr c28
               have c28b1 : (t242 != 0) = true := bne_iff_ne.mpr c28
               (first | rw [c28b0] | (simp only [i64_w, i32_w]; rw [c28b0]) | skip)
               have H' := Aside0.mk H
               clear H
               go_wp2
               go_meet
               case rel => exact ⟨_, (true), TT, H', ⟨by have := HK1.out; have := HK2.out; first | omega | exact Nat.le_refl _⟩, ⟨by (with_reducible repeat (first | refine blk_drewN ?_ _ | refine blk_drew ?_ | refine blk_alloc ?_ _)); exact BK234.out⟩, ⟨TB1 GE234.out⟩⟩
             case rest => as_aux_lemma =>
              clear HC24
              try clear c1
              try clear c2
              try clear p2
              try clear q2
              try clear hx2
              try clear c3
              try clear c6
              try clear p6
              try clear c8
              try clear c8b0
              try clear c9
              try clear c9b0
              try clear c11
              try clear c16
              try clear c16b0
              try clear c18
              try clear c18b0
              try clear c20
              try clear c20b0
              try clear c21
              try clear c21b0
              try clear c22
              try clear c22b0
              try clear c24
              try clear p24
              try clear q24
              try clear hx24
              try clear c28
              try clear c28b0
              try clear c28b1
              try clear hcz11_0 hcz11_1 hcz11_2
              try clear hcz13_0 hcz13_1 hcz13_2
              try clear hcz15_0 hcz15_1 hcz15_2
              try clear hcz17_0 hcz17_1 hcz17_2
              try clear hcz25_0 hcz25_1 hcz25_2
              try clear hfz11_0 hfz11_1 hfz11_2
              try clear hfz13_0 hfz13_1 hfz13_2
              try clear hfz15_0 hfz15_1 hfz15_2
              try clear hfz17_0 hfz17_1 hfz17_2
              try clear hfz25_0 hfz25_1 hfz25_2
              try clear hx240_0
              try clear hx240_1
              try clear hx243_0
              try clear hx243_1
              try clear hx244_0
              try clear hx244_1
              try clear p2
              try clear p240
              try clear p243
              try clear p244
              try clear p6
              try clear q2
              try clear q240
              try clear q243
              try clear q244
              try clear BK234
              try clear HB
              obtain ⟨kq, x94_23, rfl, HA, HJ23, BK234, HB⟩ := hcut
              cases kq with
              | zero => exact absurd HA.out (by simp [saronlaw09_HeardSure.j2])
              | succ kj23 =>
               have H := HA.out
               clear HA
               simp only [saronlaw09_HeardSure.j2] at H
               by_cases c29 : x94_23 = true
               ·subst c29
                have H1 : (some false) = some r := by rw [if_pos rfl] at H; exact H
                clear H
                have H := H1
                clear H1
                obtain rfl := Option.some.inj H
                go_wp2
                go_ret
                exact ⟨by first | rfl | (simp [errW_none, errW_some] <;> rfl) | (simp only [← hji23]; first | rfl | (simp [errW_none, errW_some] <;> rfl)) | (simp [*, errW_none, errW_some] <;> rfl), TB1 GE234.out⟩
               ·replace c29 := Bool.eq_false_iff.mpr c29
                subst c29
                have H1 : (if x11_2 = true then (if x12_2 < 0 then (saronlaw09_HeardSure.l1 kj23 l2 t235 t236 t239 ((rd_T62 l0_2 t239).f1) true (wrap64 ((ji23) - t241)) x13_1 (wrap64 (x14_2 + 1)) a0_0 l0_1 l0_2) else (if (wrap64 ((ji23) - t241)) < x12_2 then (saronlaw09_HeardSure.l1 kj23 l2 t235 t236 t239 ((rd_T62 l0_2 t239).f1) true (wrap64 ((ji23) - t241)) x13_1 (wrap64 (x14_2 + 1)) a0_0 l0_1 l0_2) else (saronlaw09_HeardSure.l1 kj23 l2 t235 t236 t239 ((rd_T62 l0_2 t239).f1) true x12_2 x13_1 (wrap64 (x14_2 + 1)) a0_0 l0_1 l0_2))) else (if x12_2 < 0 then (saronlaw09_HeardSure.l1 kj23 l2 t235 t236 t239 ((rd_T62 l0_2 t239).f1) ((wrap64 ((ji23) - t241)) == 0) (wrap64 ((ji23) - t241)) x13_1 (wrap64 (x14_2 + 1)) a0_0 l0_1 l0_2) else (if (wrap64 ((ji23) - t241)) < x12_2 then (saronlaw09_HeardSure.l1 kj23 l2 t235 t236 t239 ((rd_T62 l0_2 t239).f1) ((wrap64 ((ji23) - t241)) == 0) (wrap64 ((ji23) - t241)) x13_1 (wrap64 (x14_2 + 1)) a0_0 l0_1 l0_2) else (saronlaw09_HeardSure.l1 kj23 l2 t235 t236 t239 ((rd_T62 l0_2 t239).f1) ((wrap64 ((ji23) - t241)) == 0) x12_2 x13_1 (wrap64 (x14_2 + 1)) a0_0 l0_1 l0_2)))) = some r := by rw [if_neg (show ¬ (false = true) by decide)] at H; exact H
                clear H
                have H := H1
                clear H1
                by_cases c30 : x11_2 = true
                ·subst c30
                 have H1 : (if x12_2 < 0 then (saronlaw09_HeardSure.l1 kj23 l2 t235 t236 t239 ((rd_T62 l0_2 t239).f1) true (wrap64 ((ji23) - t241)) x13_1 (wrap64 (x14_2 + 1)) a0_0 l0_1 l0_2) else (if (wrap64 ((ji23) - t241)) < x12_2 then (saronlaw09_HeardSure.l1 kj23 l2 t235 t236 t239 ((rd_T62 l0_2 t239).f1) true (wrap64 ((ji23) - t241)) x13_1 (wrap64 (x14_2 + 1)) a0_0 l0_1 l0_2) else (saronlaw09_HeardSure.l1 kj23 l2 t235 t236 t239 ((rd_T62 l0_2 t239).f1) true x12_2 x13_1 (wrap64 (x14_2 + 1)) a0_0 l0_1 l0_2))) = some r := by rw [if_pos rfl] at H; exact H
                 clear H
                 have H := H1
                 clear H1
                 by_cases c31 : x12_2 < 0
                 ·rw [if_pos c31] at H
                  have c31b0 : decide (x12_2 < 0) = true := decide_eq_true c31
                  clear c31
                  have H' := Aside0.mk H
                  clear H
                  go_wp2
                  go_roundg kj23
                  case measure => have := HK1.out; have := HK2.out; have := HJ23.out; omega
                  case rel => exact ⟨(true), ((wrap64 ((ji23) - t241))), (wrap64 (x14_2 + 1)), TT, (by first | rfl | (simp; done) | (simp only [← hji23] <;> (first | rfl | simp)) | (simp [*]; done)), TT, H', ⟨by have := HK1.out; have := HK2.out; have := HJ23.out; omega⟩, ⟨by (with_reducible repeat (first | refine blk_drewN ?_ _ | refine blk_drew ?_ | refine blk_alloc ?_ _)); exact BK234.out⟩, ⟨TB1 GE234.out⟩⟩
                 ·rw [if_neg c31] at H
                  have c31b0 : decide (x12_2 < 0) = false := decide_eq_false c31
                  clear c31
                  by_cases c32 : (wrap64 ((ji23) - t241)) < x12_2
                  ·rw [if_pos c32] at H
                   have c32b0 : decide ((wrap64 ((ji23) - t241)) < x12_2) = true := decide_eq_true c32
                   clear c32
                   have H' := Aside0.mk H
                   clear H
                   go_wp2
                   go_roundg kj23
                   case measure => have := HK1.out; have := HK2.out; have := HJ23.out; omega
                   case rel => exact ⟨(true), ((wrap64 ((ji23) - t241))), (wrap64 (x14_2 + 1)), TT, (by first | rfl | (simp; done) | (simp only [← hji23] <;> (first | rfl | simp)) | (simp [*]; done)), TT, H', ⟨by have := HK1.out; have := HK2.out; have := HJ23.out; omega⟩, ⟨by (with_reducible repeat (first | refine blk_drewN ?_ _ | refine blk_drew ?_ | refine blk_alloc ?_ _)); exact BK234.out⟩, ⟨TB1 GE234.out⟩⟩
                  ·rw [if_neg c32] at H
                   have c32b0 : decide ((wrap64 ((ji23) - t241)) < x12_2) = false := decide_eq_false c32
                   clear c32
                   have H' := Aside0.mk H
                   clear H
                   go_wp2
                   go_roundg kj23
                   case measure => have := HK1.out; have := HK2.out; have := HJ23.out; omega
                   case rel => exact ⟨(true), (x12_2), (wrap64 (x14_2 + 1)), TT, TT, TT, H', ⟨by have := HK1.out; have := HK2.out; have := HJ23.out; omega⟩, ⟨by (with_reducible repeat (first | refine blk_drewN ?_ _ | refine blk_drew ?_ | refine blk_alloc ?_ _)); exact BK234.out⟩, ⟨TB1 GE234.out⟩⟩
                ·replace c30 := Bool.eq_false_iff.mpr c30
                 subst c30
                 have H1 : (if x12_2 < 0 then (saronlaw09_HeardSure.l1 kj23 l2 t235 t236 t239 ((rd_T62 l0_2 t239).f1) ((wrap64 ((ji23) - t241)) == 0) (wrap64 ((ji23) - t241)) x13_1 (wrap64 (x14_2 + 1)) a0_0 l0_1 l0_2) else (if (wrap64 ((ji23) - t241)) < x12_2 then (saronlaw09_HeardSure.l1 kj23 l2 t235 t236 t239 ((rd_T62 l0_2 t239).f1) ((wrap64 ((ji23) - t241)) == 0) (wrap64 ((ji23) - t241)) x13_1 (wrap64 (x14_2 + 1)) a0_0 l0_1 l0_2) else (saronlaw09_HeardSure.l1 kj23 l2 t235 t236 t239 ((rd_T62 l0_2 t239).f1) ((wrap64 ((ji23) - t241)) == 0) x12_2 x13_1 (wrap64 (x14_2 + 1)) a0_0 l0_1 l0_2))) = some r := by rw [if_neg (show ¬ (false = true) by decide)] at H; exact H
                 clear H
                 have H := H1
                 clear H1
                 by_cases c33 : x12_2 < 0
                 ·rw [if_pos c33] at H
                  have c33b0 : decide (x12_2 < 0) = true := decide_eq_true c33
                  clear c33
                  have H' := Aside0.mk H
                  clear H
                  go_wp2
                  go_roundg kj23
                  case measure => have := HK1.out; have := HK2.out; have := HJ23.out; omega
                  case rel => exact ⟨(((wrap64 ((ji23) - t241)) == 0)), ((wrap64 ((ji23) - t241))), (wrap64 (x14_2 + 1)), (by first | rfl | (simp; done) | (simp only [← hji23] <;> (first | rfl | simp)) | (simp [*]; done)), (by first | rfl | (simp; done) | (simp only [← hji23] <;> (first | rfl | simp)) | (simp [*]; done)), TT, H', ⟨by have := HK1.out; have := HK2.out; have := HJ23.out; omega⟩, ⟨by (with_reducible repeat (first | refine blk_drewN ?_ _ | refine blk_drew ?_ | refine blk_alloc ?_ _)); exact BK234.out⟩, ⟨TB1 GE234.out⟩⟩
                 ·rw [if_neg c33] at H
                  have c33b0 : decide (x12_2 < 0) = false := decide_eq_false c33
                  clear c33
                  by_cases c34 : (wrap64 ((ji23) - t241)) < x12_2
                  ·rw [if_pos c34] at H
                   have c34b0 : decide ((wrap64 ((ji23) - t241)) < x12_2) = true := decide_eq_true c34
                   clear c34
                   have H' := Aside0.mk H
                   clear H
                   go_wp2
                   go_roundg kj23
                   case measure => have := HK1.out; have := HK2.out; have := HJ23.out; omega
                   case rel => exact ⟨(((wrap64 ((ji23) - t241)) == 0)), ((wrap64 ((ji23) - t241))), (wrap64 (x14_2 + 1)), (by first | rfl | (simp; done) | (simp only [← hji23] <;> (first | rfl | simp)) | (simp [*]; done)), (by first | rfl | (simp; done) | (simp only [← hji23] <;> (first | rfl | simp)) | (simp [*]; done)), TT, H', ⟨by have := HK1.out; have := HK2.out; have := HJ23.out; omega⟩, ⟨by (with_reducible repeat (first | refine blk_drewN ?_ _ | refine blk_drew ?_ | refine blk_alloc ?_ _)); exact BK234.out⟩, ⟨TB1 GE234.out⟩⟩
                  ·rw [if_neg c34] at H
                   have c34b0 : decide ((wrap64 ((ji23) - t241)) < x12_2) = false := decide_eq_false c34
                   clear c34
                   have H' := Aside0.mk H
                   clear H
                   go_wp2
                   go_roundg kj23
                   case measure => have := HK1.out; have := HK2.out; have := HJ23.out; omega
                   case rel => exact ⟨(((wrap64 ((ji23) - t241)) == 0)), (x12_2), (wrap64 (x14_2 + 1)), (by first | rfl | (simp; done) | (simp only [← hji23] <;> (first | rfl | simp)) | (simp [*]; done)), TT, TT, H', ⟨by have := HK1.out; have := HK2.out; have := HJ23.out; omega⟩, ⟨by (with_reducible repeat (first | refine blk_drewN ?_ _ | refine blk_drew ?_ | refine blk_alloc ?_ _)); exact BK234.out⟩, ⟨TB1 GE234.out⟩⟩
            ·rw [if_neg c22] at H
             exact absurd H (by simp)
           ·rw [if_neg c21] at H
            exact absurd H (by simp)
          ·rw [if_neg c20] at H
           exact absurd H (by simp)
         ·rw [if_neg c18] at H
          have c18b0 : decide (x14_2 < (l0_2.length : Int)) = false := decide_eq_false c18
          clear c18
          have H' := Aside0.mk H
          clear H
          have hcz35_0 := czz BK234.out 0
          have hcz35_1 := czz BK234.out 1
          have hcz35_2 := czz BK234.out 2
          have hfz35_0 := fz BK234.out 0
          have hfz35_1 := fz BK234.out 1
          have hfz35_2 := fz BK234.out 2
          go_wp2
          go_roundg k2
          case measure => have := HK1.out; have := HK2.out; omega
          case rel => exact ⟨(x11_2), (x12_2), (wrap64 (x13_1 + 1)), TT, TT, TT, H', ⟨by have := HK1.out; have := HK2.out; omega⟩, ⟨by (with_reducible repeat (first | refine blk_drewN ?_ _ | refine blk_drew ?_ | refine blk_alloc ?_ _)); exact BK234.out⟩, ⟨TB1 GE234.out⟩⟩
      ·rw [if_neg c16] at H
       have c16b0 : decide (x13_1 < (l0_2.length : Int)) = false := decide_eq_false c16
       clear c16
       by_cases c36 : t236 = 0
       ·rw [if_pos c36] at H
        have c36b0 : (t236 == 0) = true := beq_iff_eq.mpr c36
        have c36b1 : (t236 != 0) = false := bne_eq_false_iff_eq.mpr c36
        clear c36
        by_cases c37 : x12_1 < 0
        ·rw [if_pos c37] at H
         have c37b0 : decide (x12_1 < 0) = true := decide_eq_true c37
         clear c37
         by_cases c38 : t235 = (((rd_T62 l0_2 t239).f1).length : Int)
         ·rw [if_pos c38] at H
          have c38b0 : (t235 == (((rd_T62 l0_2 t239).f1).length : Int)) = true := beq_iff_eq.mpr c38
          have c38b1 : (t235 != (((rd_T62 l0_2 t239).f1).length : Int)) = false := bne_eq_false_iff_eq.mpr c38
          clear c38
          replace H := Option.bind_eq_some_iff.mp H
          obtain ⟨t246, A390, H⟩ := H
          replace H : (some t246) = some r := H
          have A39 := Aside0.mk A390
          clear A390
          obtain rfl := Option.some.inj H
          have hcz40_0 := czz BK234.out 0
          have hcz40_1 := czz BK234.out 1
          have hcz40_2 := czz BK234.out 2
          have hfz40_0 := fz BK234.out 0
          have hfz40_1 := fz BK234.out 1
          have hfz40_2 := fz BK234.out 2
          go_wp2_with (first | (go_at_call 25; (with_reducible refine (saronlaw09_listened.calls  t246 _ ?side1 A39.out).mono ?_); (case side1 => exact Glob.fr HG.out (Fr.of_below (TB1 GE234.out))); rintro e w41 ⟨rfl, hb⟩; replace BK234 := Aside0.mk (blk_below (g := gb234) (o := .cells #[.int .i64 a0_0, .slice A0_1 l0_1.length c0_1, .slice (some ad240) l0_2.length c0_2] 27 (0, 0)) (by (with_reducible repeat (first | refine blk_drewN ?_ _ | refine blk_drew ?_ | refine blk_alloc ?_ _)); exact BK234.out) hb); replace HB := Aside0.mk (below_step (TB1 GE234.out) hb); (try clear hb); (try clear hb2); (try clear hk); (try clear hi)))
          go_ret
          exact ⟨TR, TB1 GE234.out⟩
         ·rw [if_neg c38] at H
          have c38b0 : (t235 == (((rd_T62 l0_2 t239).f1).length : Int)) = false := beq_eq_false_iff_ne.mpr c38
          have c38b1 : (t235 != (((rd_T62 l0_2 t239).f1).length : Int)) = true := bne_iff_ne.mpr c38
          obtain rfl := Option.some.inj H
          have hcz42_0 := czz BK234.out 0
          have hcz42_1 := czz BK234.out 1
          have hcz42_2 := czz BK234.out 2
          have hfz42_0 := fz BK234.out 0
          have hfz42_1 := fz BK234.out 1
          have hfz42_2 := fz BK234.out 2
          go_wp2
          go_ret
          exact ⟨TR, TB1 GE234.out⟩
        ·rw [if_neg c37] at H
         have c37b0 : decide (x12_1 < 0) = false := decide_eq_false c37
         clear c37
         have HC43 := Aside0.mk H
         clear H
         have hcz44_0 := czz BK234.out 0
         have hcz44_1 := czz BK234.out 1
         have hcz44_2 := czz BK234.out 2
         have hfz44_0 := fz BK234.out 0
         have hfz44_1 := fz BK234.out 1
         have hfz44_2 := fz BK234.out 2
         go_upto_region 25 with (fail)
         go_cut [137] (fun v137 wc => ∃ (kq : Nat) (x137_42 : Bool), v137 = .bool x137_42 ∧ Aside0 (saronlaw09_HeardSure.j3 kq l2 t235 t239 ((rd_T62 l0_2 t239).f1) x137_42 a0_0 l0_1 l0_2 = some r) ∧ Aside0 (kq ≤ k1) ∧ Aside0 (wc.heap[gb234]? = some (.cells #[.int .i64 a0_0, (.slice A0_1 l0_1.length c0_1), (.slice (some ad240) l0_2.length c0_2)] 27 (0, 0))) ∧ Aside0 (Below w.heap.size w wc))
         case first => as_aux_lemma =>
          have H := HC43.out
          clear HC43
          by_cases c45 : x11_1 = true
          ·subst c45
           have H1 : (saronlaw09_HeardSure.j3 k1 l2 t235 t239 ((rd_T62 l0_2 t239).f1) true a0_0 l0_1 l0_2) = some r := by rw [if_pos rfl] at H; exact H
           clear H
           have H := H1
           clear H1
           have H' := Aside0.mk H
           clear H
           go_wp2
           go_meet
           case rel => exact ⟨_, (true), TT, H', ⟨by have := HK1.out; first | omega | exact Nat.le_refl _⟩, ⟨by (with_reducible repeat (first | refine blk_drewN ?_ _ | refine blk_drew ?_ | refine blk_alloc ?_ _)); exact BK234.out⟩, ⟨TB1 GE234.out⟩⟩
          ·replace c45 := Bool.eq_false_iff.mpr c45
           subst c45
           have H1 : (saronlaw09_HeardSure.j3 k1 l2 t235 t239 ((rd_T62 l0_2 t239).f1) (t235 != (wrap64 (x12_1 - 1))) a0_0 l0_1 l0_2) = some r := by rw [if_neg (show ¬ (false = true) by decide)] at H; exact H
           clear H
           have H := H1
           clear H1
           have H' := Aside0.mk H
           clear H
           go_wp2
           go_meet
           case rel => exact ⟨_, ((t235 != (wrap64 (x12_1 - 1)))), TT, H', ⟨by have := HK1.out; first | omega | exact Nat.le_refl _⟩, ⟨by (with_reducible repeat (first | refine blk_drewN ?_ _ | refine blk_drew ?_ | refine blk_alloc ?_ _)); exact BK234.out⟩, ⟨TB1 GE234.out⟩⟩
         case rest => as_aux_lemma =>
          clear HC43
          try clear c1
          try clear c2
          try clear p2
          try clear q2
          try clear hx2
          try clear c3
          try clear c4
          try clear c6
          try clear p6
          try clear c8
          try clear c8b0
          try clear c9
          try clear c9b0
          try clear c11
          try clear c16
          try clear c16b0
          try clear c18
          try clear c18b0
          try clear c20
          try clear c20b0
          try clear c21
          try clear c21b0
          try clear c22
          try clear c22b0
          try clear c24
          try clear p24
          try clear q24
          try clear hx24
          try clear c28
          try clear c28b0
          try clear c28b1
          try clear c29
          try clear c30
          try clear c31
          try clear c31b0
          try clear c32
          try clear c32b0
          try clear c33
          try clear c33b0
          try clear c34
          try clear c34b0
          try clear c36
          try clear c36b0
          try clear c36b1
          try clear c37
          try clear c37b0
          try clear c38
          try clear c38b0
          try clear c38b1
          try clear c45
          try clear hcz11_0 hcz11_1 hcz11_2
          try clear hcz13_0 hcz13_1 hcz13_2
          try clear hcz15_0 hcz15_1 hcz15_2
          try clear hcz17_0 hcz17_1 hcz17_2
          try clear hcz25_0 hcz25_1 hcz25_2
          try clear hcz35_0 hcz35_1 hcz35_2
          try clear hcz40_0 hcz40_1 hcz40_2
          try clear hcz42_0 hcz42_1 hcz42_2
          try clear hcz44_0 hcz44_1 hcz44_2
          try clear hfz11_0 hfz11_1 hfz11_2
          try clear hfz13_0 hfz13_1 hfz13_2
          try clear hfz15_0 hfz15_1 hfz15_2
          try clear hfz17_0 hfz17_1 hfz17_2
          try clear hfz25_0 hfz25_1 hfz25_2
          try clear hfz35_0 hfz35_1 hfz35_2
          try clear hfz40_0 hfz40_1 hfz40_2
          try clear hfz42_0 hfz42_1 hfz42_2
          try clear hfz44_0 hfz44_1 hfz44_2
          try clear hx240_0
          try clear hx240_1
          try clear hx243_0
          try clear hx243_1
          try clear hx244_0
          try clear hx244_1
          try clear p2
          try clear p24
          try clear p240
          try clear p243
          try clear p244
          try clear p6
          try clear q2
          try clear q24
          try clear q240
          try clear q243
          try clear q244
          try clear BK234
          try clear HB
          obtain ⟨kq, x137_42, rfl, HA, HJ42, BK234, HB⟩ := hcut
          cases kq with
          | zero => exact absurd HA.out (by simp [saronlaw09_HeardSure.j3])
          | succ kj42 =>
           have H := HA.out
           clear HA
           simp only [saronlaw09_HeardSure.j3] at H
           by_cases c46 : x137_42 = true
           ·subst c46
            have H1 : (some false) = some r := by rw [if_pos rfl] at H; exact H
            clear H
            have H := H1
            clear H1
            obtain rfl := Option.some.inj H
            go_wp2
            go_ret
            exact ⟨TR, TB1 GE234.out⟩
           ·replace c46 := Bool.eq_false_iff.mpr c46
            subst c46
            have H1 : ((saronlaw09_some.f kj42 ((rd_T62 l0_2 t239).f1) (mn t235 6) l2).bind fun t247 => ((heard_Whole.f kj42 a0_0 l0_1 l0_2 t247 (mn t235 6)).bind fun bt250 => (if bt250.2 = 0 then ((saronref00_Equal.f kj42 bt250.1 (([t239] : List Int))).bind fun t257 => (if t257 = true then ((saronlaw09_listened.f).bind fun t258 => (some t258)) else (some false))) else (some false)))) = some r := by rw [if_neg (show ¬ (false = true) by decide)] at H; exact H
            clear H
            have H := H1
            clear H1
            obtain ⟨ji47, hji47⟩ : ∃ j_ : Int, (mn t235 6) = j_ := ⟨_, rfl⟩
            replace H : ((saronlaw09_some.f kj42 ((rd_T62 l0_2 t239).f1) (ji47) l2).bind fun t247 => ((heard_Whole.f kj42 a0_0 l0_1 l0_2 t247 (ji47)).bind fun bt250 => (if bt250.2 = 0 then ((saronref00_Equal.f kj42 bt250.1 (([t239] : List Int))).bind fun t257 => (if t257 = true then ((saronlaw09_listened.f).bind fun t258 => (some t258)) else (some false))) else (some false)))) = some r := by first | (rw [hji47] at H; exact H) | (simp only [hji47] at H ⊢; exact H)
            have hji47_ : (if 6 < t235 then 6 else t235) = ji47 := hji47
            replace H := Option.bind_eq_some_iff.mp H
            obtain ⟨t247, A480, H⟩ := H
            replace H : ((heard_Whole.f kj42 a0_0 l0_1 l0_2 t247 (ji47)).bind fun bt250 => (if bt250.2 = 0 then ((saronref00_Equal.f kj42 bt250.1 (([t239] : List Int))).bind fun t257 => (if t257 = true then ((saronlaw09_listened.f).bind fun t258 => (some t258)) else (some false))) else (some false))) = some r := H
            have A48 := Aside0.mk A480
            clear A480
            replace H := Option.bind_eq_some_iff.mp H
            obtain ⟨⟨t250, t253⟩, A490, H⟩ := H
            replace H : (if t253 = 0 then ((saronref00_Equal.f kj42 t250 (([t239] : List Int))).bind fun t257 => (if t257 = true then ((saronlaw09_listened.f).bind fun t258 => (some t258)) else (some false))) else (some false)) = some r := H
            have A49 := Aside0.mk A490
            clear A490
            by_cases c50 : t253 = 0
            ·rw [if_pos c50] at H
             have c50b0 : (t253 == 0) = true := beq_iff_eq.mpr c50
             have c50b1 : (t253 != 0) = false := bne_eq_false_iff_eq.mpr c50
             clear c50
             obtain ⟨y254, hy254⟩ : ∃ y_ : List Int, y_ = (([t239] : List Int)) := ⟨_, rfl⟩
             replace H : ((saronref00_Equal.f kj42 t250 y254).bind fun t257 => (if t257 = true then ((saronlaw09_listened.f).bind fun t258 => (some t258)) else (some false))) = some r := by first | (rw [hy254]; with_reducible exact H) | (have H2_ := (Option.bind_some _ _).symm.trans H; rw [hy254]; with_reducible exact H2_) | (have H2_ := (Option.bind_some _ _).symm.trans H; with_reducible exact H2_) | with_reducible exact H | (rw [hy254]; exact H) | exact H
             have Ny254 := Aside0.mk hy254
             clear hy254
             replace H := Option.bind_eq_some_iff.mp H
             obtain ⟨t257, A510, H⟩ := H
             replace H : (if t257 = true then ((saronlaw09_listened.f).bind fun t258 => (some t258)) else (some false)) = some r := H
             have A51 := Aside0.mk A510
             clear A510
             by_cases c52 : t257 = true
             ·subst c52
              have H1 : ((saronlaw09_listened.f).bind fun t258 => (some t258)) = some r := by rw [if_pos rfl] at H; exact H
              clear H
              have H := H1
              clear H1
              replace H := Option.bind_eq_some_iff.mp H
              obtain ⟨t258, A530, H⟩ := H
              replace H : (some t258) = some r := H
              have A53 := Aside0.mk A530
              clear A530
              obtain rfl := Option.some.inj H
              try go_wp2
              have n0_ := Aside0.mk (blk_drew BK234.out)
              have n1_ := Aside0.mk (below_drew1 HB.out)
              clear BK234
              clear HB
              have BK234 := n0_
              have HB := n1_
              clear n0_ n1_
              refine start_ (n := 12) (S := fun w' => w'.cell? ⟨gb234, 0, none⟩ = some (.int .i64 a0_0) ∧ w'.cell? ⟨gb234, 1, none⟩ = some (.slice A0_1 l0_1.length c0_1) ∧ w'.cell? ⟨gb234, 2, none⟩ = some (.slice (some ad240) l0_2.length c0_2)) (ds := []) (.replicate 12 false) (by kernel_rfl) rfl rfl ⟨czz BK234.out 0, czz BK234.out 1, czz BK234.out 2⟩ (fun hHeld => ?_); refine with_tabW saronlaw09_HeardSure.tab28 saronlaw09_HeardSure.bits28 (fun HT_ HW_ => ?_)
              generalize wc.drew = w54 at BK234 HB hHeld ⊢
              refine pT 1 142 (bt 12 2) (k := ?_)
              refine pT 2 143 (bt 12 6) (k := ?_)
              refine pT 3 144 (bt 12 14) (k := ?_)
              refine pT 5 146 (bt 12 46) (k := ?_)
              refine tT3 0 141 (bt 12 47) hHeld (k := ?_)
              refine one_ (i := 4) (N := some 145) (bt 12 63) rfl rfl (one_of HT_.out (by kernel_rfl)) (by decide) (fun K hK => ?_)
              refine goes_ Tryd.func48 (by kernel_rfl) rfl #[.slice A240_1 ((rd_T62 l0_2 t239).f1).length c240_1, .int .i64 ji47, .slice A2 l2.length c2] (by rfl) rfl rfl (by (try simp only [lM, mC, mN]); first | done | (simp only [hji47]; rfl) | rfl | (simp only [List.length_drop, List.length_take]; rfl)) ?_
              with_reducible refine (saronlaw09_some.calls kj42 _ _ ((rd_T62 l0_2 t239).f1) ji47 _ _ l2 t247 _ ?side1 ?side2 ?side3 ?side4 A48.out).mono ?_
              (case side1 => exact TC HR240_1.out)
              (case side2 => exact HC240_1.out)
              (case side3 => exact TC HR2.out)
              (case side4 => exact HC2.out)
              rintro e w55 ⟨v248, rfl, ho0, hb⟩
              refine ⟨_, rfl, ?_⟩
              have n0_ := Aside0.mk (Kd.R_lower ho0 (below_size (TB1 GE234.out)))
              have n1_ := Aside0.mk (blk_below (g := gb234) (o := .cells #[.int .i64 a0_0, .slice A0_1 l0_1.length c0_1, .slice (some ad240) l0_2.length c0_2] 27 (0, 0)) (by (with_reducible repeat (first | refine blk_drewN ?_ _ | refine blk_drew ?_ | refine blk_alloc ?_ _)); exact BK234.out) hb)
              have n2_ := Aside0.mk (below_step (TB1 GE234.out) hb)
              clear BK234
              clear HB
              have HO249 := n0_
              have BK234 := n1_
              have HB := n2_
              clear n0_ n1_ n2_
              (try clear hb)
              (try clear hb2)
              (try clear hk)
              (try clear hi)
              (try clear ho0)
              obtain ⟨Ao56, co56, eo56⟩ := Kd.R_slice HO249.out
              (first | subst eo56 | (injection eo56 with f1_ f2_ f3_; have f4_ := f1_.symm; have f5_ := f3_.symm; clear f1_ f2_ f3_; subst f4_; subst f5_))
              refine hK.out _ _ ⟨czz BK234.out 0, czz BK234.out 1, czz BK234.out 2⟩ (fun hHeld => ?_)
              clear hK K
              refine norm_ (a' := ?_) ?_ ?_
              rotate_left
              ·show Act.put _ (some 145) _ = _
               simp only [Act.put, lA, lZ, lS, i64_w, i32_w]
               rfl
              refine one_ (i := 6) (N := some 147) (bt 12 127) rfl rfl (one_of HT_.out (by kernel_rfl)) (by decide) (fun K hK => ?_)
              refine goes_ Tryd.func32 (by kernel_rfl) rfl #[.agg #[.int .i64 a0_0, .slice A0_1 l0_1.length c0_1, .slice (some ad240) l0_2.length c0_2], .slice Ao56 t247.length co56, .int .i64 ji47] (by rfl) rfl rfl (by (try simp only [lM, mC, mN]); first | done | (simp only [hji47]; rfl) | rfl | (simp only [List.length_drop, List.length_take]; rfl)) ?_
              with_reducible refine (heard_Whole.calls kj42 a0_0 _ _ l0_1 _ _ l0_2 _ _ t247 ji47 t250 t253 _ ?side1 ?side2 ?side3 ?side4 ?side5 ?side6 ?side7 A49.out).mono ?_
              (case side1 => exact TC HR0_1.out)
              (case side2 => exact HC0_1.out)
              (case side3 => exact TC HR0_2.out)
              (case side4 => exact HC0_2.out)
              (case side5 => repeat (first | exact (Kd.R_reads' HO249.out).2.2 | (with_reducible refine Kd.C_alloc ?_ _) | (with_reducible refine Kd.C_drewN ?_ _) | (with_reducible refine Kd.C_drew ?_)))
              (case side6 => exact (Kd.R_reads' HO249.out).2.1)
              (case side7 => exact Glob.fr HG.out (Fr.of_below (TB1 GE234.out)))
              rintro e w57 ⟨v251, rfl, ho0, hb⟩
              refine ⟨_, rfl, ?_⟩
              have n0_ := Aside0.mk (Kd.R_below (TRo HO249.out) hb)
              have n1_ := Aside0.mk (Kd.V_lower (Kd.V_mono (ok' := fun k_ => some k_ ≠ (.slice Ao56 t247.length co56 : Value).ownBlock ∧ k_ ≠ gb234) ho0 (fun k_ hk_ => ⟨(Kd.fresh' (Kd.R_lt (TRo HO249.out)) k_ hk_), (Kd.freshB (g := gb234) (o := .cells #[.int .i64 a0_0, .slice A0_1 l0_1.length c0_1, .slice (some ad240) l0_2.length c0_2] 27 (0, 0)) (by (with_reducible repeat (first | refine blk_drewN ?_ _ | refine blk_drew ?_ | refine blk_alloc ?_ _)); exact BK234.out) k_ hk_)⟩)) (below_size (TB1 GE234.out)))
              have n2_ := Aside0.mk (blk_below (g := gb234) (o := .cells #[.int .i64 a0_0, .slice A0_1 l0_1.length c0_1, .slice (some ad240) l0_2.length c0_2] 27 (0, 0)) (by (with_reducible repeat (first | refine blk_drewN ?_ _ | refine blk_drew ?_ | refine blk_alloc ?_ _)); exact BK234.out) hb)
              have n3_ := Aside0.mk (below_step (TB1 GE234.out) hb)
              clear HO249
              clear BK234
              clear HB
              have HO249 := n0_
              have HO252 := n1_
              have BK234 := n2_
              have HB := n3_
              clear n0_ n1_ n2_ n3_
              (try clear hb)
              (try clear hb2)
              (try clear hk)
              (try clear hi)
              (try clear ho0)
              refine hK.out _ _ ⟨czz BK234.out 0, czz BK234.out 1, czz BK234.out 2⟩ (fun hHeld => ?_)
              clear hK K
              refine norm_ (a' := ?_) ?_ ?_
              rotate_left
              ·show Act.put _ (some 147) _ = _
               simp only [Act.put, lA, lZ, lS, i64_w, i32_w]
               rfl
              refine pT 7 140 (bt 12 255) (k := ?_)
              refine pT 8 148 (bt 12 511) (k := ?_)
              refine pT 9 149 (bt 12 1023) (k := ?_)
              refine pT 10 19 (bt 12 2047) (k := ?_)
              refine pT 11 20 (bt 12 4095) (k := ?_)
              refine done_ (done_of HT_.out (by kernel_rfl)) ?_
              try go_wp2_with (first | ((with_reducible refine gate_dst (N := 155) rfl ?_); (try (refine gate_guard (by rfl) ?_; dsimp only)); refine Kd.R_lit (Kd.int .i64) _ 3 ?hg (N := 155) ?hd (xs := ([t239] : List Int)) (inner := [.int .i64 t239]) (ok := fun _ => True) (okp := fun _ => True) ?hr ?hp (fun _ hk => hk) trivial (Below.refl _ _) (Nat.le_refl _) (by simp) ?_; (case hd => rfl); (case hg => rfl); (case hr => exact TS); (case hp => exact (Reps.one (show Kd.M (Kd.int .i64) _ _ _ t239 [.int .i64 t239] from rfl) (Reps.none _ _))); intro v255 w58 ho59 hb hg_ hnew_; clear hg_ hnew_; (first | rw [← Ny254.out] at ho59 | (simp only [Int.reduceToNat] at ho59; rw [← Ny254.out] at ho59)); have HO256 := Aside0.mk (Kd.R_lower (Kd.R_new' ho59 (Kd.R_lt (TRo HO249.out))) (below_size (TB1 GE234.out))); replace HO249 := Aside0.mk (Kd.R_elder' (TRo HO249.out) (Kd.R_base ho59) hb); replace HO252 := Aside0.mk (Kd.V_elder' (by (with_reducible repeat (first | apply Kd.V_alloc | apply Kd.V_drewN | apply Kd.V_drew)); exact HO252.out) (Kd.R_base ho59) hb); replace BK234 := Aside0.mk (blk_below (g := gb234) (o := .cells #[.int .i64 a0_0, .slice A0_1 l0_1.length c0_1, .slice (some ad240) l0_2.length c0_2] 27 (0, 0)) (by (with_reducible repeat (first | refine blk_drewN ?_ _ | refine blk_drew ?_ | refine blk_alloc ?_ _)); exact BK234.out) hb); replace HB := Aside0.mk (below_step (TB1 GE234.out) hb); clear hb ho59; obtain ⟨Ao60, co60, eo60⟩ := Kd.V_slice HO252.out; subst eo60; obtain ⟨Ao61, co61, eo61⟩ := Kd.R_slice HO256.out; subst eo61) | (go_at_call 20; (with_reducible refine (saronref00_Equal.calls kj42 _ _ t250 _ _ y254 true _ ?side1 ?side2 ?side3 ?side4 A51.out).mono ?_); (case side1 => repeat (first | exact (Kd.V_reads' HO252.out).2.2 | (with_reducible refine Kd.C_alloc ?_ _) | (with_reducible refine Kd.C_drewN ?_ _) | (with_reducible refine Kd.C_drew ?_))); (case side2 => exact (Kd.V_reads' HO252.out).2.1); (case side3 => repeat (first | exact (Kd.R_reads' HO256.out).2.2 | (with_reducible refine Kd.C_alloc ?_ _) | (with_reducible refine Kd.C_drewN ?_ _) | (with_reducible refine Kd.C_drew ?_))); (case side4 => exact (Kd.R_reads' HO256.out).2.1); rintro e w' ⟨rfl, ⟨nd, rfl⟩⟩) | (go_at_call 25; (with_reducible refine (saronlaw09_listened.calls  t258 _ ?side1 A53.out).mono ?_); (case side1 => exact Glob.fr HG.out (Fr.of_below (TB1 GE234.out))); rintro e w62 ⟨rfl, hb⟩; replace HO249 := Aside0.mk (Kd.R_below (TRo HO249.out) hb); replace HO252 := Aside0.mk (Kd.V_below (by (with_reducible repeat (first | apply Kd.V_alloc | apply Kd.V_drewN | apply Kd.V_drew)); exact HO252.out) hb); replace HO256 := Aside0.mk (Kd.R_below (TRo HO256.out) hb); replace BK234 := Aside0.mk (blk_below (g := gb234) (o := .cells #[.int .i64 a0_0, .slice A0_1 l0_1.length c0_1, .slice (some ad240) l0_2.length c0_2] 27 (0, 0)) (by (with_reducible repeat (first | refine blk_drewN ?_ _ | refine blk_drew ?_ | refine blk_alloc ?_ _)); exact BK234.out) hb); replace HB := Aside0.mk (below_step (TB1 GE234.out) hb); (try clear hb); (try clear hb2); (try clear hk); (try clear hi)))
              go_ret
              exact ⟨by first | rfl | (simp [errW_none, errW_some] <;> rfl) | (simp only [← hji47]; first | rfl | (simp [errW_none, errW_some] <;> rfl)) | (simp [*, errW_none, errW_some] <;> rfl), TB1 GE234.out⟩
             ·replace c52 := Bool.eq_false_iff.mpr c52
              subst c52
              have H1 : (some false) = some r := by rw [if_neg (show ¬ (false = true) by decide)] at H; exact H
              clear H
              have H := H1
              clear H1
              obtain rfl := Option.some.inj H
              try go_wp2
              have n0_ := Aside0.mk (blk_drew BK234.out)
              have n1_ := Aside0.mk (below_drew1 HB.out)
              clear BK234
              clear HB
              have BK234 := n0_
              have HB := n1_
              clear n0_ n1_
              refine start_ (n := 12) (S := fun w' => w'.cell? ⟨gb234, 0, none⟩ = some (.int .i64 a0_0) ∧ w'.cell? ⟨gb234, 1, none⟩ = some (.slice A0_1 l0_1.length c0_1) ∧ w'.cell? ⟨gb234, 2, none⟩ = some (.slice (some ad240) l0_2.length c0_2)) (ds := []) (.replicate 12 false) (by kernel_rfl) rfl rfl ⟨czz BK234.out 0, czz BK234.out 1, czz BK234.out 2⟩ (fun hHeld => ?_); refine with_tabW saronlaw09_HeardSure.tab28 saronlaw09_HeardSure.bits28 (fun HT_ HW_ => ?_)
              generalize wc.drew = w63 at BK234 HB hHeld ⊢
              refine pT 1 142 (bt 12 2) (k := ?_)
              refine pT 2 143 (bt 12 6) (k := ?_)
              refine pT 3 144 (bt 12 14) (k := ?_)
              refine pT 5 146 (bt 12 46) (k := ?_)
              refine tT3 0 141 (bt 12 47) hHeld (k := ?_)
              refine one_ (i := 4) (N := some 145) (bt 12 63) rfl rfl (one_of HT_.out (by kernel_rfl)) (by decide) (fun K hK => ?_)
              refine goes_ Tryd.func48 (by kernel_rfl) rfl #[.slice A240_1 ((rd_T62 l0_2 t239).f1).length c240_1, .int .i64 ji47, .slice A2 l2.length c2] (by rfl) rfl rfl (by (try simp only [lM, mC, mN]); first | done | (simp only [hji47]; rfl) | rfl | (simp only [List.length_drop, List.length_take]; rfl)) ?_
              with_reducible refine (saronlaw09_some.calls kj42 _ _ ((rd_T62 l0_2 t239).f1) ji47 _ _ l2 t247 _ ?side1 ?side2 ?side3 ?side4 A48.out).mono ?_
              (case side1 => exact TC HR240_1.out)
              (case side2 => exact HC240_1.out)
              (case side3 => exact TC HR2.out)
              (case side4 => exact HC2.out)
              rintro e w64 ⟨v248, rfl, ho0, hb⟩
              refine ⟨_, rfl, ?_⟩
              have n0_ := Aside0.mk (Kd.R_lower ho0 (below_size (TB1 GE234.out)))
              have n1_ := Aside0.mk (blk_below (g := gb234) (o := .cells #[.int .i64 a0_0, .slice A0_1 l0_1.length c0_1, .slice (some ad240) l0_2.length c0_2] 27 (0, 0)) (by (with_reducible repeat (first | refine blk_drewN ?_ _ | refine blk_drew ?_ | refine blk_alloc ?_ _)); exact BK234.out) hb)
              have n2_ := Aside0.mk (below_step (TB1 GE234.out) hb)
              clear BK234
              clear HB
              have HO249 := n0_
              have BK234 := n1_
              have HB := n2_
              clear n0_ n1_ n2_
              (try clear hb)
              (try clear hb2)
              (try clear hk)
              (try clear hi)
              (try clear ho0)
              obtain ⟨Ao65, co65, eo65⟩ := Kd.R_slice HO249.out
              (first | subst eo65 | (injection eo65 with f1_ f2_ f3_; have f4_ := f1_.symm; have f5_ := f3_.symm; clear f1_ f2_ f3_; subst f4_; subst f5_))
              refine hK.out _ _ ⟨czz BK234.out 0, czz BK234.out 1, czz BK234.out 2⟩ (fun hHeld => ?_)
              clear hK K
              refine norm_ (a' := ?_) ?_ ?_
              rotate_left
              ·show Act.put _ (some 145) _ = _
               simp only [Act.put, lA, lZ, lS, i64_w, i32_w]
               rfl
              refine one_ (i := 6) (N := some 147) (bt 12 127) rfl rfl (one_of HT_.out (by kernel_rfl)) (by decide) (fun K hK => ?_)
              refine goes_ Tryd.func32 (by kernel_rfl) rfl #[.agg #[.int .i64 a0_0, .slice A0_1 l0_1.length c0_1, .slice (some ad240) l0_2.length c0_2], .slice Ao65 t247.length co65, .int .i64 ji47] (by rfl) rfl rfl (by (try simp only [lM, mC, mN]); first | done | (simp only [hji47]; rfl) | rfl | (simp only [List.length_drop, List.length_take]; rfl)) ?_
              with_reducible refine (heard_Whole.calls kj42 a0_0 _ _ l0_1 _ _ l0_2 _ _ t247 ji47 t250 t253 _ ?side1 ?side2 ?side3 ?side4 ?side5 ?side6 ?side7 A49.out).mono ?_
              (case side1 => exact TC HR0_1.out)
              (case side2 => exact HC0_1.out)
              (case side3 => exact TC HR0_2.out)
              (case side4 => exact HC0_2.out)
              (case side5 => repeat (first | exact (Kd.R_reads' HO249.out).2.2 | (with_reducible refine Kd.C_alloc ?_ _) | (with_reducible refine Kd.C_drewN ?_ _) | (with_reducible refine Kd.C_drew ?_)))
              (case side6 => exact (Kd.R_reads' HO249.out).2.1)
              (case side7 => exact Glob.fr HG.out (Fr.of_below (TB1 GE234.out)))
              rintro e w66 ⟨v251, rfl, ho0, hb⟩
              refine ⟨_, rfl, ?_⟩
              have n0_ := Aside0.mk (Kd.R_below (TRo HO249.out) hb)
              have n1_ := Aside0.mk (Kd.V_lower (Kd.V_mono (ok' := fun k_ => some k_ ≠ (.slice Ao65 t247.length co65 : Value).ownBlock ∧ k_ ≠ gb234) ho0 (fun k_ hk_ => ⟨(Kd.fresh' (Kd.R_lt (TRo HO249.out)) k_ hk_), (Kd.freshB (g := gb234) (o := .cells #[.int .i64 a0_0, .slice A0_1 l0_1.length c0_1, .slice (some ad240) l0_2.length c0_2] 27 (0, 0)) (by (with_reducible repeat (first | refine blk_drewN ?_ _ | refine blk_drew ?_ | refine blk_alloc ?_ _)); exact BK234.out) k_ hk_)⟩)) (below_size (TB1 GE234.out)))
              have n2_ := Aside0.mk (blk_below (g := gb234) (o := .cells #[.int .i64 a0_0, .slice A0_1 l0_1.length c0_1, .slice (some ad240) l0_2.length c0_2] 27 (0, 0)) (by (with_reducible repeat (first | refine blk_drewN ?_ _ | refine blk_drew ?_ | refine blk_alloc ?_ _)); exact BK234.out) hb)
              have n3_ := Aside0.mk (below_step (TB1 GE234.out) hb)
              clear HO249
              clear BK234
              clear HB
              have HO249 := n0_
              have HO252 := n1_
              have BK234 := n2_
              have HB := n3_
              clear n0_ n1_ n2_ n3_
              (try clear hb)
              (try clear hb2)
              (try clear hk)
              (try clear hi)
              (try clear ho0)
              refine hK.out _ _ ⟨czz BK234.out 0, czz BK234.out 1, czz BK234.out 2⟩ (fun hHeld => ?_)
              clear hK K
              refine norm_ (a' := ?_) ?_ ?_
              rotate_left
              ·show Act.put _ (some 147) _ = _
               simp only [Act.put, lA, lZ, lS, i64_w, i32_w]
               rfl
              refine pT 7 140 (bt 12 255) (k := ?_)
              refine pT 8 148 (bt 12 511) (k := ?_)
              refine pT 9 149 (bt 12 1023) (k := ?_)
              refine pT 10 19 (bt 12 2047) (k := ?_)
              refine pT 11 20 (bt 12 4095) (k := ?_)
              refine done_ (done_of HT_.out (by kernel_rfl)) ?_
              try go_wp2_with (first | ((with_reducible refine gate_dst (N := 155) rfl ?_); (try (refine gate_guard (by rfl) ?_; dsimp only)); refine Kd.R_lit (Kd.int .i64) _ 3 ?hg (N := 155) ?hd (xs := ([t239] : List Int)) (inner := [.int .i64 t239]) (ok := fun _ => True) (okp := fun _ => True) ?hr ?hp (fun _ hk => hk) trivial (Below.refl _ _) (Nat.le_refl _) (by simp) ?_; (case hd => rfl); (case hg => rfl); (case hr => exact TS); (case hp => exact (Reps.one (show Kd.M (Kd.int .i64) _ _ _ t239 [.int .i64 t239] from rfl) (Reps.none _ _))); intro v255 w67 ho68 hb hg_ hnew_; clear hg_ hnew_; (first | rw [← Ny254.out] at ho68 | (simp only [Int.reduceToNat] at ho68; rw [← Ny254.out] at ho68)); have HO256 := Aside0.mk (Kd.R_lower (Kd.R_new' ho68 (Kd.R_lt (TRo HO249.out))) (below_size (TB1 GE234.out))); replace HO249 := Aside0.mk (Kd.R_elder' (TRo HO249.out) (Kd.R_base ho68) hb); replace HO252 := Aside0.mk (Kd.V_elder' (by (with_reducible repeat (first | apply Kd.V_alloc | apply Kd.V_drewN | apply Kd.V_drew)); exact HO252.out) (Kd.R_base ho68) hb); replace BK234 := Aside0.mk (blk_below (g := gb234) (o := .cells #[.int .i64 a0_0, .slice A0_1 l0_1.length c0_1, .slice (some ad240) l0_2.length c0_2] 27 (0, 0)) (by (with_reducible repeat (first | refine blk_drewN ?_ _ | refine blk_drew ?_ | refine blk_alloc ?_ _)); exact BK234.out) hb); replace HB := Aside0.mk (below_step (TB1 GE234.out) hb); clear hb ho68; obtain ⟨Ao69, co69, eo69⟩ := Kd.V_slice HO252.out; subst eo69; obtain ⟨Ao70, co70, eo70⟩ := Kd.R_slice HO256.out; subst eo70) | (go_at_call 20; (with_reducible refine (saronref00_Equal.calls kj42 _ _ t250 _ _ y254 false _ ?side1 ?side2 ?side3 ?side4 A51.out).mono ?_); (case side1 => repeat (first | exact (Kd.V_reads' HO252.out).2.2 | (with_reducible refine Kd.C_alloc ?_ _) | (with_reducible refine Kd.C_drewN ?_ _) | (with_reducible refine Kd.C_drew ?_))); (case side2 => exact (Kd.V_reads' HO252.out).2.1); (case side3 => repeat (first | exact (Kd.R_reads' HO256.out).2.2 | (with_reducible refine Kd.C_alloc ?_ _) | (with_reducible refine Kd.C_drewN ?_ _) | (with_reducible refine Kd.C_drew ?_))); (case side4 => exact (Kd.R_reads' HO256.out).2.1); rintro e w' ⟨rfl, ⟨nd, rfl⟩⟩))
              go_ret
              exact ⟨by first | rfl | (simp [errW_none, errW_some] <;> rfl) | (simp only [← hji47]; first | rfl | (simp [errW_none, errW_some] <;> rfl)) | (simp [*, errW_none, errW_some] <;> rfl), TB1 GE234.out⟩
            ·rw [if_neg c50] at H
             have c50b0 : (t253 == 0) = false := beq_eq_false_iff_ne.mpr c50
             have c50b1 : (t253 != 0) = true := bne_iff_ne.mpr c50
             obtain rfl := Option.some.inj H
             try go_wp2
             have n0_ := Aside0.mk (blk_drew BK234.out)
             have n1_ := Aside0.mk (below_drew1 HB.out)
             clear BK234
             clear HB
             have BK234 := n0_
             have HB := n1_
             clear n0_ n1_
             refine start_ (n := 12) (S := fun w' => w'.cell? ⟨gb234, 0, none⟩ = some (.int .i64 a0_0) ∧ w'.cell? ⟨gb234, 1, none⟩ = some (.slice A0_1 l0_1.length c0_1) ∧ w'.cell? ⟨gb234, 2, none⟩ = some (.slice (some ad240) l0_2.length c0_2)) (ds := []) (.replicate 12 false) (by kernel_rfl) rfl rfl ⟨czz BK234.out 0, czz BK234.out 1, czz BK234.out 2⟩ (fun hHeld => ?_); refine with_tabW saronlaw09_HeardSure.tab28 saronlaw09_HeardSure.bits28 (fun HT_ HW_ => ?_)
             generalize wc.drew = w71 at BK234 HB hHeld ⊢
             refine pT 1 142 (bt 12 2) (k := ?_)
             refine pT 2 143 (bt 12 6) (k := ?_)
             refine pT 3 144 (bt 12 14) (k := ?_)
             refine pT 5 146 (bt 12 46) (k := ?_)
             refine tT3 0 141 (bt 12 47) hHeld (k := ?_)
             refine one_ (i := 4) (N := some 145) (bt 12 63) rfl rfl (one_of HT_.out (by kernel_rfl)) (by decide) (fun K hK => ?_)
             refine goes_ Tryd.func48 (by kernel_rfl) rfl #[.slice A240_1 ((rd_T62 l0_2 t239).f1).length c240_1, .int .i64 ji47, .slice A2 l2.length c2] (by rfl) rfl rfl (by (try simp only [lM, mC, mN]); first | done | (simp only [hji47]; rfl) | rfl | (simp only [List.length_drop, List.length_take]; rfl)) ?_
             with_reducible refine (saronlaw09_some.calls kj42 _ _ ((rd_T62 l0_2 t239).f1) ji47 _ _ l2 t247 _ ?side1 ?side2 ?side3 ?side4 A48.out).mono ?_
             (case side1 => exact TC HR240_1.out)
             (case side2 => exact HC240_1.out)
             (case side3 => exact TC HR2.out)
             (case side4 => exact HC2.out)
             rintro e w72 ⟨v248, rfl, ho0, hb⟩
             refine ⟨_, rfl, ?_⟩
             have n0_ := Aside0.mk (Kd.R_lower ho0 (below_size (TB1 GE234.out)))
             have n1_ := Aside0.mk (blk_below (g := gb234) (o := .cells #[.int .i64 a0_0, .slice A0_1 l0_1.length c0_1, .slice (some ad240) l0_2.length c0_2] 27 (0, 0)) (by (with_reducible repeat (first | refine blk_drewN ?_ _ | refine blk_drew ?_ | refine blk_alloc ?_ _)); exact BK234.out) hb)
             have n2_ := Aside0.mk (below_step (TB1 GE234.out) hb)
             clear BK234
             clear HB
             have HO249 := n0_
             have BK234 := n1_
             have HB := n2_
             clear n0_ n1_ n2_
             (try clear hb)
             (try clear hb2)
             (try clear hk)
             (try clear hi)
             (try clear ho0)
             obtain ⟨Ao73, co73, eo73⟩ := Kd.R_slice HO249.out
             (first | subst eo73 | (injection eo73 with f1_ f2_ f3_; have f4_ := f1_.symm; have f5_ := f3_.symm; clear f1_ f2_ f3_; subst f4_; subst f5_))
             refine hK.out _ _ ⟨czz BK234.out 0, czz BK234.out 1, czz BK234.out 2⟩ (fun hHeld => ?_)
             clear hK K
             refine norm_ (a' := ?_) ?_ ?_
             rotate_left
             ·show Act.put _ (some 145) _ = _
              simp only [Act.put, lA, lZ, lS, i64_w, i32_w]
              rfl
             refine one_ (i := 6) (N := some 147) (bt 12 127) rfl rfl (one_of HT_.out (by kernel_rfl)) (by decide) (fun K hK => ?_)
             refine goes_ Tryd.func32 (by kernel_rfl) rfl #[.agg #[.int .i64 a0_0, .slice A0_1 l0_1.length c0_1, .slice (some ad240) l0_2.length c0_2], .slice Ao73 t247.length co73, .int .i64 ji47] (by rfl) rfl rfl (by (try simp only [lM, mC, mN]); first | done | (simp only [hji47]; rfl) | rfl | (simp only [List.length_drop, List.length_take]; rfl)) ?_
             with_reducible refine (heard_Whole.calls kj42 a0_0 _ _ l0_1 _ _ l0_2 _ _ t247 ji47 t250 t253 _ ?side1 ?side2 ?side3 ?side4 ?side5 ?side6 ?side7 A49.out).mono ?_
             (case side1 => exact TC HR0_1.out)
             (case side2 => exact HC0_1.out)
             (case side3 => exact TC HR0_2.out)
             (case side4 => exact HC0_2.out)
             (case side5 => repeat (first | exact (Kd.R_reads' HO249.out).2.2 | (with_reducible refine Kd.C_alloc ?_ _) | (with_reducible refine Kd.C_drewN ?_ _) | (with_reducible refine Kd.C_drew ?_)))
             (case side6 => exact (Kd.R_reads' HO249.out).2.1)
             (case side7 => exact Glob.fr HG.out (Fr.of_below (TB1 GE234.out)))
             rintro e w74 ⟨v251, rfl, ho0, hb⟩
             refine ⟨_, rfl, ?_⟩
             have n0_ := Aside0.mk (Kd.R_below (TRo HO249.out) hb)
             have n1_ := Aside0.mk (Kd.V_lower (Kd.V_mono (ok' := fun k_ => some k_ ≠ (.slice Ao73 t247.length co73 : Value).ownBlock ∧ k_ ≠ gb234) ho0 (fun k_ hk_ => ⟨(Kd.fresh' (Kd.R_lt (TRo HO249.out)) k_ hk_), (Kd.freshB (g := gb234) (o := .cells #[.int .i64 a0_0, .slice A0_1 l0_1.length c0_1, .slice (some ad240) l0_2.length c0_2] 27 (0, 0)) (by (with_reducible repeat (first | refine blk_drewN ?_ _ | refine blk_drew ?_ | refine blk_alloc ?_ _)); exact BK234.out) k_ hk_)⟩)) (below_size (TB1 GE234.out)))
             have n2_ := Aside0.mk (blk_below (g := gb234) (o := .cells #[.int .i64 a0_0, .slice A0_1 l0_1.length c0_1, .slice (some ad240) l0_2.length c0_2] 27 (0, 0)) (by (with_reducible repeat (first | refine blk_drewN ?_ _ | refine blk_drew ?_ | refine blk_alloc ?_ _)); exact BK234.out) hb)
             have n3_ := Aside0.mk (below_step (TB1 GE234.out) hb)
             clear HO249
             clear BK234
             clear HB
             have HO249 := n0_
             have HO252 := n1_
             have BK234 := n2_
             have HB := n3_
             clear n0_ n1_ n2_ n3_
             (try clear hb)
             (try clear hb2)
             (try clear hk)
             (try clear hi)
             (try clear ho0)
             refine hK.out _ _ ⟨czz BK234.out 0, czz BK234.out 1, czz BK234.out 2⟩ (fun hHeld => ?_)
             clear hK K
             refine norm_ (a' := ?_) ?_ ?_
             rotate_left
             ·show Act.put _ (some 147) _ = _
              simp only [Act.put, lA, lZ, lS, i64_w, i32_w]
              rfl
             refine pT 7 140 (bt 12 255) (k := ?_)
             refine pT 8 148 (bt 12 511) (k := ?_)
             refine pT 9 149 (bt 12 1023) (k := ?_)
             refine pT 10 19 (bt 12 2047) (k := ?_)
             refine pT 11 20 (bt 12 4095) (k := ?_)
             refine done_ (done_of HT_.out (by kernel_rfl)) ?_
             try go_wp2
             go_ret
             exact ⟨by first | rfl | (simp [errW_none, errW_some] <;> rfl) | (simp only [← hji47]; first | rfl | (simp [errW_none, errW_some] <;> rfl)) | (simp [*, errW_none, errW_some] <;> rfl), TB1 GE234.out⟩
       ·rw [if_neg c36] at H
        have c36b0 : (t236 == 0) = false := beq_eq_false_iff_ne.mpr c36
        have c36b1 : (t236 != 0) = true := bne_iff_ne.mpr c36
        by_cases c75 : t236 = 4
        ·rw [if_pos c75] at H
         have c75b0 : (t236 == 4) = true := beq_iff_eq.mpr c75
         have c75b1 : (t236 != 4) = false := bne_eq_false_iff_eq.mpr c75
         clear c75
         by_cases c76 : t235 = 0
         ·rw [if_pos c76] at H
          have c76b0 : (t235 == 0) = true := beq_iff_eq.mpr c76
          have c76b1 : (t235 != 0) = false := bne_eq_false_iff_eq.mpr c76
          clear c76
          by_cases c77 : x11_1 = true
          ·subst c77
           have H1 : ((saronlaw09_listened.f).bind fun t245 => (some t245)) = some r := by rw [if_pos rfl] at H; exact H
           clear H
           have H := H1
           clear H1
           replace H := Option.bind_eq_some_iff.mp H
           obtain ⟨t245, A780, H⟩ := H
           replace H : (some t245) = some r := H
           have A78 := Aside0.mk A780
           clear A780
           obtain rfl := Option.some.inj H
           have hcz79_0 := czz BK234.out 0
           have hcz79_1 := czz BK234.out 1
           have hcz79_2 := czz BK234.out 2
           have hfz79_0 := fz BK234.out 0
           have hfz79_1 := fz BK234.out 1
           have hfz79_2 := fz BK234.out 2
           go_wp2_with (first | (go_at_call 25; (with_reducible refine (saronlaw09_listened.calls  t245 _ ?side1 A78.out).mono ?_); (case side1 => exact Glob.fr HG.out (Fr.of_below (TB1 GE234.out))); rintro e w80 ⟨rfl, hb⟩; replace BK234 := Aside0.mk (blk_below (g := gb234) (o := .cells #[.int .i64 a0_0, .slice A0_1 l0_1.length c0_1, .slice (some ad240) l0_2.length c0_2] 27 (0, 0)) (by (with_reducible repeat (first | refine blk_drewN ?_ _ | refine blk_drew ?_ | refine blk_alloc ?_ _)); exact BK234.out) hb); replace HB := Aside0.mk (below_step (TB1 GE234.out) hb); (try clear hb); (try clear hb2); (try clear hk); (try clear hi)))
           go_ret
           exact ⟨TR, TB1 GE234.out⟩
          ·replace c77 := Bool.eq_false_iff.mpr c77
           subst c77
           have H1 : (some false) = some r := by rw [if_neg (show ¬ (false = true) by decide)] at H; exact H
           clear H
           have H := H1
           clear H1
           obtain rfl := Option.some.inj H
           have hcz81_0 := czz BK234.out 0
           have hcz81_1 := czz BK234.out 1
           have hcz81_2 := czz BK234.out 2
           have hfz81_0 := fz BK234.out 0
           have hfz81_1 := fz BK234.out 1
           have hfz81_2 := fz BK234.out 2
           go_wp2
           go_ret
           exact ⟨TR, TB1 GE234.out⟩
         ·rw [if_neg c76] at H
          have c76b0 : (t235 == 0) = false := beq_eq_false_iff_ne.mpr c76
          have c76b1 : (t235 != 0) = true := bne_iff_ne.mpr c76
          obtain rfl := Option.some.inj H
          have hcz82_0 := czz BK234.out 0
          have hcz82_1 := czz BK234.out 1
          have hcz82_2 := czz BK234.out 2
          have hfz82_0 := fz BK234.out 0
          have hfz82_1 := fz BK234.out 1
          have hfz82_2 := fz BK234.out 2
          go_wp2
          go_ret
          exact ⟨TR, TB1 GE234.out⟩
        ·rw [if_neg c75] at H
         have c75b0 : (t236 == 4) = false := beq_eq_false_iff_ne.mpr c75
         have c75b1 : (t236 != 4) = true := bne_iff_ne.mpr c75
         obtain rfl := Option.some.inj H
         have hcz83_0 := czz BK234.out 0
         have hcz83_1 := czz BK234.out 1
         have hcz83_2 := czz BK234.out 2
         have hfz83_0 := fz BK234.out 0
         have hfz83_1 := fz BK234.out 1
         have hfz83_2 := fz BK234.out 2
         go_wp2
         go_ret
         exact ⟨TR, TB1 GE234.out⟩
   ·rw [if_neg c9] at H
    exact absurd H (by simp)
  ·rw [if_neg c8] at H
   exact absurd H (by simp)
 ·replace c6 := Bool.eq_false_iff.mpr c6
  subst c6
  have H1 : (if t236 = 90 then (if t235 = 0 then ((saronlaw09_listened.f).bind fun t238 => (some t238)) else (some false)) else (some false)) = some r := by rw [if_neg (show ¬ (false = true) by decide)] at H; exact H
  clear H
  have H := H1
  clear H1
  by_cases c84 : t236 = 90
  ·rw [if_pos c84] at H
   have c84b0 : (t236 == 90) = true := beq_iff_eq.mpr c84
   have c84b1 : (t236 != 90) = false := bne_eq_false_iff_eq.mpr c84
   clear c84
   by_cases c85 : t235 = 0
   ·rw [if_pos c85] at H
    have c85b0 : (t235 == 0) = true := beq_iff_eq.mpr c85
    have c85b1 : (t235 != 0) = false := bne_eq_false_iff_eq.mpr c85
    clear c85
    replace H := Option.bind_eq_some_iff.mp H
    obtain ⟨t238, A860, H⟩ := H
    replace H : (some t238) = some r := H
    have A86 := Aside0.mk A860
    clear A860
    obtain rfl := Option.some.inj H
    go_enter Tryd.func11, Tryd.ntmps11
    go_wp2_with (first | ((with_reducible refine gate_dst (N := 3) rfl ?_); (try (refine gate_guard (by rfl) ?_; dsimp only)); refine box_event ?hg (N := 3) ?hd (cs := #[.int .i64 a0_0, .slice A0_1 l0_1.length c0_1, .slice A0_2 l0_2.length c0_2]) (t := 27) ?hr ?_; (case hd => rfl); (case hg => rfl); (case hr => exact TS); intro gb234 hg w87 hbox hb; have BK234 := Aside0.mk (hbox); have GW234 := Aside0.mk ((TG : w.heap.size ≤ gb234)); have GE234 := Aside0.mk ((TG : w.heap.size ≤ gb234)); replace HB := Aside0.mk (below_step TB hb); clear hb hbox hg; have hcz88_0 := czz BK234.out 0; have hcz88_1 := czz BK234.out 1; have hcz88_2 := czz BK234.out 2; have hfz88_0 := fz BK234.out 0; have hfz88_1 := fz BK234.out 1; have hfz88_2 := fz BK234.out 2) | ((with_reducible refine gate_callee (f := 34) rfl ?_); refine goesL_ (some 23) rfl rfl Tryd.func34 (by kernel_rfl) rfl #[.agg #[.int .i64 a0_0, .slice A0_1 l0_1.length c0_1, .slice A0_2 l0_2.length c0_2]] rfl TM ?_; (with_reducible refine (heard_Known.calls k a0_0 _ _ l0_1 _ _ l0_2 t235 t236 _ ?side1 ?side2 ?side3 ?side4 ?side5 A4.out).mono ?_); (case side1 => exact TC HR0_1.out); (case side2 => exact HC0_1.out); (case side3 => exact TC HR0_2.out); (case side4 => exact HC0_2.out); (case side5 => exact Glob.fr HG.out (Fr.of_below (TB1 GE234.out))); rintro e w89 ⟨rfl, hb⟩; refine ⟨_, rfl, ?_⟩; replace BK234 := Aside0.mk (blk_below (g := gb234) (o := .cells #[.int .i64 a0_0, .slice A0_1 l0_1.length c0_1, .slice A0_2 l0_2.length c0_2] 27 (0, 0)) (by (with_reducible repeat (first | refine blk_drewN ?_ _ | refine blk_drew ?_ | refine blk_alloc ?_ _)); exact BK234.out) hb); replace HB := Aside0.mk (below_step (TB1 GE234.out) hb); (try clear hb); (try clear hb2); (try clear hk); (try clear hi); have hcz90_0 := czz BK234.out 0; have hcz90_1 := czz BK234.out 1; have hcz90_2 := czz BK234.out 2; have hfz90_0 := fz BK234.out 0; have hfz90_1 := fz BK234.out 1; have hfz90_2 := fz BK234.out 2) | ((with_reducible refine gate_callee (f := 36) rfl ?_); refine goesL_ (some 27) rfl rfl Tryd.func36 (by kernel_rfl) rfl #[.agg #[.int .i64 a0_0, .slice A0_1 l0_1.length c0_1, .slice A0_2 l0_2.length c0_2]] rfl TM ?_; (with_reducible refine (saronlaw09_sound.calls k a0_0 _ _ l0_1 _ _ l0_2 false _ ?side1 ?side2 ?side3 ?side4 ?side5 A5.out).mono ?_); (case side1 => exact TC HR0_1.out); (case side2 => exact HC0_1.out); (case side3 => exact TC HR0_2.out); (case side4 => exact HC0_2.out); (case side5 => exact Glob.fr HG.out (Fr.of_below (TB1 GE234.out))); rintro e w91 ⟨rfl, hb⟩; refine ⟨_, rfl, ?_⟩; replace BK234 := Aside0.mk (blk_below (g := gb234) (o := .cells #[.int .i64 a0_0, .slice A0_1 l0_1.length c0_1, .slice A0_2 l0_2.length c0_2] 27 (0, 0)) (by (with_reducible repeat (first | refine blk_drewN ?_ _ | refine blk_drew ?_ | refine blk_alloc ?_ _)); exact BK234.out) hb); replace HB := Aside0.mk (below_step (TB1 GE234.out) hb); (try clear hb); (try clear hb2); (try clear hk); (try clear hi)) | (go_at_call 25; (with_reducible refine (saronlaw09_listened.calls  t238 _ ?side1 A86.out).mono ?_); (case side1 => exact Glob.fr HG.out (Fr.of_below (TB1 GE234.out))); rintro e w92 ⟨rfl, hb⟩; replace BK234 := Aside0.mk (blk_below (g := gb234) (o := .cells #[.int .i64 a0_0, .slice A0_1 l0_1.length c0_1, .slice A0_2 l0_2.length c0_2] 27 (0, 0)) (by (with_reducible repeat (first | refine blk_drewN ?_ _ | refine blk_drew ?_ | refine blk_alloc ?_ _)); exact BK234.out) hb); replace HB := Aside0.mk (below_step (TB1 GE234.out) hb); (try clear hb); (try clear hb2); (try clear hk); (try clear hi)))
    go_ret
    exact ⟨TR, TB1 GE234.out⟩
   ·rw [if_neg c85] at H
    have c85b0 : (t235 == 0) = false := beq_eq_false_iff_ne.mpr c85
    have c85b1 : (t235 != 0) = true := bne_iff_ne.mpr c85
    obtain rfl := Option.some.inj H
    go_enter Tryd.func11, Tryd.ntmps11
    go_wp2_with (first | ((with_reducible refine gate_dst (N := 3) rfl ?_); (try (refine gate_guard (by rfl) ?_; dsimp only)); refine box_event ?hg (N := 3) ?hd (cs := #[.int .i64 a0_0, .slice A0_1 l0_1.length c0_1, .slice A0_2 l0_2.length c0_2]) (t := 27) ?hr ?_; (case hd => rfl); (case hg => rfl); (case hr => exact TS); intro gb234 hg w93 hbox hb; have BK234 := Aside0.mk (hbox); have GW234 := Aside0.mk ((TG : w.heap.size ≤ gb234)); have GE234 := Aside0.mk ((TG : w.heap.size ≤ gb234)); replace HB := Aside0.mk (below_step TB hb); clear hb hbox hg; have hcz94_0 := czz BK234.out 0; have hcz94_1 := czz BK234.out 1; have hcz94_2 := czz BK234.out 2; have hfz94_0 := fz BK234.out 0; have hfz94_1 := fz BK234.out 1; have hfz94_2 := fz BK234.out 2) | ((with_reducible refine gate_callee (f := 34) rfl ?_); refine goesL_ (some 23) rfl rfl Tryd.func34 (by kernel_rfl) rfl #[.agg #[.int .i64 a0_0, .slice A0_1 l0_1.length c0_1, .slice A0_2 l0_2.length c0_2]] rfl TM ?_; (with_reducible refine (heard_Known.calls k a0_0 _ _ l0_1 _ _ l0_2 t235 t236 _ ?side1 ?side2 ?side3 ?side4 ?side5 A4.out).mono ?_); (case side1 => exact TC HR0_1.out); (case side2 => exact HC0_1.out); (case side3 => exact TC HR0_2.out); (case side4 => exact HC0_2.out); (case side5 => exact Glob.fr HG.out (Fr.of_below (TB1 GE234.out))); rintro e w95 ⟨rfl, hb⟩; refine ⟨_, rfl, ?_⟩; replace BK234 := Aside0.mk (blk_below (g := gb234) (o := .cells #[.int .i64 a0_0, .slice A0_1 l0_1.length c0_1, .slice A0_2 l0_2.length c0_2] 27 (0, 0)) (by (with_reducible repeat (first | refine blk_drewN ?_ _ | refine blk_drew ?_ | refine blk_alloc ?_ _)); exact BK234.out) hb); replace HB := Aside0.mk (below_step (TB1 GE234.out) hb); (try clear hb); (try clear hb2); (try clear hk); (try clear hi); have hcz96_0 := czz BK234.out 0; have hcz96_1 := czz BK234.out 1; have hcz96_2 := czz BK234.out 2; have hfz96_0 := fz BK234.out 0; have hfz96_1 := fz BK234.out 1; have hfz96_2 := fz BK234.out 2) | ((with_reducible refine gate_callee (f := 36) rfl ?_); refine goesL_ (some 27) rfl rfl Tryd.func36 (by kernel_rfl) rfl #[.agg #[.int .i64 a0_0, .slice A0_1 l0_1.length c0_1, .slice A0_2 l0_2.length c0_2]] rfl TM ?_; (with_reducible refine (saronlaw09_sound.calls k a0_0 _ _ l0_1 _ _ l0_2 false _ ?side1 ?side2 ?side3 ?side4 ?side5 A5.out).mono ?_); (case side1 => exact TC HR0_1.out); (case side2 => exact HC0_1.out); (case side3 => exact TC HR0_2.out); (case side4 => exact HC0_2.out); (case side5 => exact Glob.fr HG.out (Fr.of_below (TB1 GE234.out))); rintro e w97 ⟨rfl, hb⟩; refine ⟨_, rfl, ?_⟩; replace BK234 := Aside0.mk (blk_below (g := gb234) (o := .cells #[.int .i64 a0_0, .slice A0_1 l0_1.length c0_1, .slice A0_2 l0_2.length c0_2] 27 (0, 0)) (by (with_reducible repeat (first | refine blk_drewN ?_ _ | refine blk_drew ?_ | refine blk_alloc ?_ _)); exact BK234.out) hb); replace HB := Aside0.mk (below_step (TB1 GE234.out) hb); (try clear hb); (try clear hb2); (try clear hk); (try clear hi)))
    go_ret
    exact ⟨TR, TB1 GE234.out⟩
  ·rw [if_neg c84] at H
   have c84b0 : (t236 == 90) = false := beq_eq_false_iff_ne.mpr c84
   have c84b1 : (t236 != 90) = true := bne_iff_ne.mpr c84
   obtain rfl := Option.some.inj H
   go_enter Tryd.func11, Tryd.ntmps11
   go_wp2_with (first | ((with_reducible refine gate_dst (N := 3) rfl ?_); (try (refine gate_guard (by rfl) ?_; dsimp only)); refine box_event ?hg (N := 3) ?hd (cs := #[.int .i64 a0_0, .slice A0_1 l0_1.length c0_1, .slice A0_2 l0_2.length c0_2]) (t := 27) ?hr ?_; (case hd => rfl); (case hg => rfl); (case hr => exact TS); intro gb234 hg w98 hbox hb; have BK234 := Aside0.mk (hbox); have GW234 := Aside0.mk ((TG : w.heap.size ≤ gb234)); have GE234 := Aside0.mk ((TG : w.heap.size ≤ gb234)); replace HB := Aside0.mk (below_step TB hb); clear hb hbox hg; have hcz99_0 := czz BK234.out 0; have hcz99_1 := czz BK234.out 1; have hcz99_2 := czz BK234.out 2; have hfz99_0 := fz BK234.out 0; have hfz99_1 := fz BK234.out 1; have hfz99_2 := fz BK234.out 2) | ((with_reducible refine gate_callee (f := 34) rfl ?_); refine goesL_ (some 23) rfl rfl Tryd.func34 (by kernel_rfl) rfl #[.agg #[.int .i64 a0_0, .slice A0_1 l0_1.length c0_1, .slice A0_2 l0_2.length c0_2]] rfl TM ?_; (with_reducible refine (heard_Known.calls k a0_0 _ _ l0_1 _ _ l0_2 t235 t236 _ ?side1 ?side2 ?side3 ?side4 ?side5 A4.out).mono ?_); (case side1 => exact TC HR0_1.out); (case side2 => exact HC0_1.out); (case side3 => exact TC HR0_2.out); (case side4 => exact HC0_2.out); (case side5 => exact Glob.fr HG.out (Fr.of_below (TB1 GE234.out))); rintro e w100 ⟨rfl, hb⟩; refine ⟨_, rfl, ?_⟩; replace BK234 := Aside0.mk (blk_below (g := gb234) (o := .cells #[.int .i64 a0_0, .slice A0_1 l0_1.length c0_1, .slice A0_2 l0_2.length c0_2] 27 (0, 0)) (by (with_reducible repeat (first | refine blk_drewN ?_ _ | refine blk_drew ?_ | refine blk_alloc ?_ _)); exact BK234.out) hb); replace HB := Aside0.mk (below_step (TB1 GE234.out) hb); (try clear hb); (try clear hb2); (try clear hk); (try clear hi); have hcz101_0 := czz BK234.out 0; have hcz101_1 := czz BK234.out 1; have hcz101_2 := czz BK234.out 2; have hfz101_0 := fz BK234.out 0; have hfz101_1 := fz BK234.out 1; have hfz101_2 := fz BK234.out 2) | ((with_reducible refine gate_callee (f := 36) rfl ?_); refine goesL_ (some 27) rfl rfl Tryd.func36 (by kernel_rfl) rfl #[.agg #[.int .i64 a0_0, .slice A0_1 l0_1.length c0_1, .slice A0_2 l0_2.length c0_2]] rfl TM ?_; (with_reducible refine (saronlaw09_sound.calls k a0_0 _ _ l0_1 _ _ l0_2 false _ ?side1 ?side2 ?side3 ?side4 ?side5 A5.out).mono ?_); (case side1 => exact TC HR0_1.out); (case side2 => exact HC0_1.out); (case side3 => exact TC HR0_2.out); (case side4 => exact HC0_2.out); (case side5 => exact Glob.fr HG.out (Fr.of_below (TB1 GE234.out))); rintro e w102 ⟨rfl, hb⟩; refine ⟨_, rfl, ?_⟩; replace BK234 := Aside0.mk (blk_below (g := gb234) (o := .cells #[.int .i64 a0_0, .slice A0_1 l0_1.length c0_1, .slice A0_2 l0_2.length c0_2] 27 (0, 0)) (by (with_reducible repeat (first | refine blk_drewN ?_ _ | refine blk_drew ?_ | refine blk_alloc ?_ _)); exact BK234.out) hb); replace HB := Aside0.mk (below_step (TB1 GE234.out) hb); (try clear hb); (try clear hb2); (try clear hk); (try clear hi)))
   go_ret
   exact ⟨TR, TB1 GE234.out⟩
end Go.Proofs.YtfdenclnneigfaaDoor.PRaspKeys
