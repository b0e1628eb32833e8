import Derived.Test.YtfdenclnneigfaaDoorGF
import Derived.Test.YtfdenclnneigfaaDoorCS
import Derived.Test.YtfdenclnneigfaaDoorCD
import Derived.Test.YtfdenclnneigfaaDoorM0
import Derived.Test.YtfdenclnneigfaaDoorProg
import Derived.Below
import Derived.Deep.Draws
import Derived.Deep.AppendLies
import Derived.Maps.AppendAt
import Derived.OwnWalk
import Derived.Laws.BytesArg
import Derived.Laws.MakeOwn
import Derived.Laws.OwnMore
import Derived.Deep.OwnRows
import Derived.Tactics
import Derived.Lib.ConvBytes
import Derived.Laws.Slices
import Derived.WalkKit
import Derived.KernelRfl
import Derived.RowKit3
import Derived.Deep.LoopGhost
import Derived.Deep.QuietTactic
import Derived.BigQuiet
import Derived.WideLaws
import Derived.Deep.DeepCutAuto
import Derived.Deep.CutBlock
import Derived.Deep.RegionHeld3
import Derived.Laws.Rows
import Derived.Lib.AppendStr
import Derived.ArgAppend
import Derived.Laws.IdiomCopy
import Derived.OrdersHeld
import Derived.Laws.BitsLemmas
import Derived.RowKit
set_option linter.unusedVariables false
set_option linter.unusedSimpArgs false
namespace Go.Proofs.YtfdenclnneigfaaDoor.M
open Go.RowKit Go.Proofs.YtfdenclnneigfaaDoorW.PrintWords Go.Proofs.YtfdenclnneigfaaDoorW.PrintLast
theorem czz {w : World} {g : Nat} {cs : Array Value} {t : TypeId} {v : Value} (h : w.heap[g]? = some (.cells cs t (0, 0))) (i : Nat) (hv : cs[i]? = some v := by (first | (simp only [List.getElem?_toArray, List.getElem?_cons_zero, List.getElem?_cons_succ]; rfl) | exact rfl)) : w.cell? ⟨g, i, none⟩ = some v := (blk_cell h i).trans hv
end Go.Proofs.YtfdenclnneigfaaDoor.M
namespace Go.Proofs.YtfdenclnneigfaaDoor.PRaspKeys
open Go.RowKit Go.Proofs.YtfdenclnneigfaaDoorW.PrintWords Go.Proofs.YtfdenclnneigfaaDoorW.PrintLast Go.Proofs.YtfdenclnneigfaaDoorW.PrintMore Go.Proofs.YtfdenclnneigfaaDoor.M
attribute [local go_sem] max2_int min2_int max_two min_two max_three min_three max_four min_four   -- for this text's walks alone
/-! #### struct type 114 -/
/-! #### struct type 62 -/
end Go.Proofs.YtfdenclnneigfaaDoor.PRaspKeys
namespace Go.Proofs.YtfdenclnneigfaaDoor.PRaspKeys
open Go.RowKit Go.Proofs.YtfdenclnneigfaaDoorW.PrintWords Go.Proofs.YtfdenclnneigfaaDoorW.PrintLast Go.Proofs.YtfdenclnneigfaaDoorW.PrintMore Go.Proofs.YtfdenclnneigfaaDoor.M
attribute [local go_sem] max2_int min2_int max_two min_two max_three min_three max_four min_four   -- for this text's walks alone
/-! ### saronlaw09_HeardCommon: function 12 -/
mutual
def saronlaw09_HeardCommon.j0 : Nat → List Int → Int → List Int → Bool → Int → List (S114) → List (S62) → Option (Bool)
 | 0, _, _, _, _, _, _, _ => none
 | k + 1, x2, x7, x9, x109, x239000, x239001, x239002 => if x109 = true then (some false) else ((saronlaw09_some.f k x9 6 x2).bind fun t253 => ((heard_Whole.f k x239000 x239001 x239002 t253 (wrap64 ((x9.length : Int) - (t253.length : Int)))).bind fun bt256 => (if bt256.2 = 0 then ((saronref00_Where.f k bt256.1 x7).bind fun t260 => (if t260 < 0 then (saronlaw09_HeardCommon.j1 k x7 t253 (wrap64 ((x9.length : Int) - (t253.length : Int))) true x239000 x239001 x239002) else ((saronref00_Grows.f k bt256.1 (x239002.length : Int)).bind fun t261 => (saronlaw09_HeardCommon.j1 k x7 t253 (wrap64 ((x9.length : Int) - (t253.length : Int))) (!t261) x239000 x239001 x239002)))) else (saronlaw09_HeardCommon.j1 k x7 t253 (wrap64 ((x9.length : Int) - (t253.length : Int))) true x239000 x239001 x239002))))
def saronlaw09_HeardCommon.j1 : Nat → Int → List Int → Int → Bool → Int → List (S114) → List (S62) → Option (Bool)
 | 0, _, _, _, _, _, _, _ => none
 | k + 1, x7, x17, x18, x140, x239000, x239001, x239002 => if x140 = true then (some false) else (if x18 = 0 then ((saronlaw09_listened.f).bind fun t262 => (some t262)) else ((heard_Whole.f k x239000 x239001 x239002 x17 (wrap64 (x18 - 1))).bind fun bt263 => (if bt263.2 = 0 then ((saronref00_Where.f k bt263.1 x7).bind fun t267 => (if t267 < 0 then ((saronlaw09_listened.f).bind fun t268 => (some t268)) else (some false))) else (some false))))
end
def saronlaw09_HeardCommon.f (k : Nat) (a0_0 : Int) (l0_1 : List (S114)) (l0_2 : List (S62)) (a1_0 : Int) (a1_1 : Int) (l2 : List Int) : Option (Bool) := (saronlaw09_sound.f k a0_0 l0_1 l0_2).bind fun t240 => (if t240 = true then ((saronref00_Turn.f a1_0 (l0_2.length : Int)).bind fun t242 => ((saronref00_Turn.f a1_1 (l0_2.length : Int)).bind fun t243 => (if 0 ≤ t242 then (if t242 < (l0_2.length : Int) then (if 0 ≤ t243 then (if t243 < (l0_2.length : Int) then ((heard_Common.f a0_0 l0_1 l0_2 t242 t243).bind fun bt246 => ((heard_Common.f a0_0 l0_1 l0_2 t243 t242).bind fun bt248 => ((heard_Common.f a0_0 l0_1 l0_2 t242 t242).bind fun bt250 => (if bt246.2 = 0 then (if bt248.2 = 0 then (if bt250.2 = 0 then (if bt246.1 = bt248.1 then (if bt250.1 = (((rd_T62 l0_2 t242).f1).length : Int) then ((saronref00_Sits.f bt246.1 0 (mn (((rd_T62 l0_2 t242).f1).length : Int) (((rd_T62 l0_2 t243).f1).length : Int))).bind fun t252 => (if t252 = true then (if t242 = t243 then (saronlaw09_HeardCommon.j0 k l2 t242 ((rd_T62 l0_2 t242).f1) (bt246.1 != bt250.1) a0_0 l0_1 l0_2) else (saronlaw09_HeardCommon.j0 k l2 t242 ((rd_T62 l0_2 t242).f1) false a0_0 l0_1 l0_2)) else (saronlaw09_HeardCommon.j0 k l2 t242 ((rd_T62 l0_2 t242).f1) true a0_0 l0_1 l0_2))) else (saronlaw09_HeardCommon.j0 k l2 t242 ((rd_T62 l0_2 t242).f1) true a0_0 l0_1 l0_2)) else (saronlaw09_HeardCommon.j0 k l2 t242 ((rd_T62 l0_2 t242).f1) true a0_0 l0_1 l0_2)) else (saronlaw09_HeardCommon.j0 k l2 t242 ((rd_T62 l0_2 t242).f1) true a0_0 l0_1 l0_2)) else (saronlaw09_HeardCommon.j0 k l2 t242 ((rd_T62 l0_2 t242).f1) true a0_0 l0_1 l0_2)) else (saronlaw09_HeardCommon.j0 k l2 t242 ((rd_T62 l0_2 t242).f1) true a0_0 l0_1 l0_2))))) else (none)) else (none)) else (none)) else (none)))) else ((saronlaw09_listened.f).bind fun t241 => (some t241)))
theorem saronlaw09_HeardCommon.mono_l : ∀ k, (∀ y0 y1 y2 y3 y4 y5 y6, LeO (saronlaw09_HeardCommon.j0 k y0 y1 y2 y3 y4 y5 y6) (saronlaw09_HeardCommon.j0 (k + 1) y0 y1 y2 y3 y4 y5 y6)) ∧ (∀ y0 y1 y2 y3 y4 y5 y6, LeO (saronlaw09_HeardCommon.j1 k y0 y1 y2 y3 y4 y5 y6) (saronlaw09_HeardCommon.j1 (k + 1) y0 y1 y2 y3 y4 y5 y6))
 | 0 => ⟨fun _ _ _ _ _ _ _ r h => by simp [saronlaw09_HeardCommon.j0] at h, fun _ _ _ _ _ _ _ r h => by simp [saronlaw09_HeardCommon.j1] at h⟩
 | k + 1 => by
  obtain ⟨ih0, ih1⟩ := saronlaw09_HeardCommon.mono_l k
  refine ⟨?_, ?_⟩
  ·intro y0 y1 y2 y3 y4 y5 y6
   unfold saronlaw09_HeardCommon.j0
   repeat' first
   | (with_reducible exact ih0 _ _ _ _ _ _ _)
   | (with_reducible exact ih1 _ _ _ _ _ _ _)
   | (with_reducible exact heard_Whole.mono _ _ _ _ _ _)
   | (with_reducible exact saronlaw09_some.mono _ _ _ _)
   | (with_reducible exact saronlaw09_sound.mono _ _ _ _)
   | (with_reducible exact saronref00_Grows.mono _ _ _)
   | (with_reducible exact saronref00_Where.mono _ _ _)
   | (with_reducible exact LeO.refl _)
   | (with_reducible exact LeO.none _)
   | (with_reducible refine LeO.ite ?_ ?_)
   | (with_reducible refine LeO.bind ?_ (fun _ => ?_))
   | exact ih0 _ _ _ _ _ _ _
   | exact ih1 _ _ _ _ _ _ _
   | exact heard_Whole.mono _ _ _ _ _ _
   | exact saronlaw09_some.mono _ _ _ _
   | exact saronlaw09_sound.mono _ _ _ _
   | exact saronref00_Grows.mono _ _ _
   | exact saronref00_Where.mono _ _ _
   | exact LeO.none _
   | refine LeO.ite ?_ ?_
   | refine LeO.bind ?_ (fun _ => ?_)
  ·intro y0 y1 y2 y3 y4 y5 y6
   unfold saronlaw09_HeardCommon.j1
   repeat' first
   | (with_reducible exact ih0 _ _ _ _ _ _ _)
   | (with_reducible exact ih1 _ _ _ _ _ _ _)
   | (with_reducible exact heard_Whole.mono _ _ _ _ _ _)
   | (with_reducible exact saronlaw09_some.mono _ _ _ _)
   | (with_reducible exact saronlaw09_sound.mono _ _ _ _)
   | (with_reducible exact saronref00_Grows.mono _ _ _)
   | (with_reducible exact saronref00_Where.mono _ _ _)
   | (with_reducible exact LeO.refl _)
   | (with_reducible exact LeO.none _)
   | (with_reducible refine LeO.ite ?_ ?_)
   | (with_reducible refine LeO.bind ?_ (fun _ => ?_))
   | exact ih0 _ _ _ _ _ _ _
   | exact ih1 _ _ _ _ _ _ _
   | exact heard_Whole.mono _ _ _ _ _ _
   | exact saronlaw09_some.mono _ _ _ _
   | exact saronlaw09_sound.mono _ _ _ _
   | exact saronref00_Grows.mono _ _ _
   | exact saronref00_Where.mono _ _ _
   | exact LeO.none _
   | refine LeO.ite ?_ ?_
   | refine LeO.bind ?_ (fun _ => ?_)
theorem saronlaw09_HeardCommon.mono : ∀ a0 a1 a2 a3 a4 a5 k, LeO (saronlaw09_HeardCommon.f k a0 a1 a2 a3 a4 a5) (saronlaw09_HeardCommon.f (k + 1) a0 a1 a2 a3 a4 a5) := by
 intro a0 a1 a2 a3 a4 a5 k
 obtain ⟨ih0, ih1⟩ := saronlaw09_HeardCommon.mono_l k
 unfold saronlaw09_HeardCommon.f
 repeat' first
   | (with_reducible exact ih0 _ _ _ _ _ _ _)
   | (with_reducible exact ih1 _ _ _ _ _ _ _)
   | (with_reducible exact heard_Whole.mono _ _ _ _ _ _)
   | (with_reducible exact saronlaw09_some.mono _ _ _ _)
   | (with_reducible exact saronlaw09_sound.mono _ _ _ _)
   | (with_reducible exact saronref00_Grows.mono _ _ _)
   | (with_reducible exact saronref00_Where.mono _ _ _)
   | (with_reducible exact LeO.refl _)
   | (with_reducible exact LeO.none _)
   | (with_reducible refine LeO.ite ?_ ?_)
   | (with_reducible refine LeO.bind ?_ (fun _ => ?_))
   | exact ih0 _ _ _ _ _ _ _
   | exact ih1 _ _ _ _ _ _ _
   | exact heard_Whole.mono _ _ _ _ _ _
   | exact saronlaw09_some.mono _ _ _ _
   | exact saronlaw09_sound.mono _ _ _ _
   | exact saronref00_Grows.mono _ _ _
   | exact saronref00_Where.mono _ _ _
   | exact LeO.none _
   | refine LeO.ite ?_ ?_
   | refine LeO.bind ?_ (fun _ => ?_)
set_option maxHeartbeats 8000000 in
set_option maxRecDepth 100000 in
theorem saronlaw09_HeardCommon.calls (k : Nat) (a0_0 : Int) (A0_1 : Option Addr) (c0_1 : Nat) (l0_1 : List (S114)) (A0_2 : Option Addr) (c0_2 : Nat) (l0_2 : List (S62)) (a1_0 : Int) (a1_1 : Int) (A2 : Option Addr) (c2 : Nat) (l2 : List Int) (r : Bool) (w : World) (hr0_1 : Kd.C k114 w A0_1 l0_1.length l0_1) (hc0_1 : l0_1.length ≤ c0_1) (hr0_2 : Kd.C k62 w A0_2 l0_2.length l0_2) (hc0_2 : l0_2.length ≤ c0_2) (hr2 : Kd.C (Kd.int .i64) w A2 l2.length l2) (hc2 : l2.length ≤ c2) (hG : Glob w) (h : saronlaw09_HeardCommon.f k a0_0 l0_1 l0_2 a1_0 a1_1 l2 = some r) :
  Calls Tryd.prog 12 #[.agg #[.int .i64 a0_0, .slice A0_1 l0_1.length c0_1, .slice A0_2 l0_2.length c0_2], .agg #[.int .i64 a1_0, .int .i64 a1_1], .slice A2 l2.length c2] w fun e w' => e = .returned (.bool r) ∧ Below w.heap.size w w' := by
 have hu27 := Tryd.underlying27
 have hu43 := Tryd.underlying43
 have HR0_1 := Aside0.mk hr0_1
 have HC0_1 := Aside0.mk hc0_1
 clear hr0_1 hc0_1
 have HR0_2 := Aside0.mk hr0_2
 have HC0_2 := Aside0.mk hc0_2
 clear hr0_2 hc0_2
 have HR2 := Aside0.mk hr2
 have HC2 := Aside0.mk hc2
 clear hr2 hc2
 have HB := Aside0.mk (Below.refl w.heap.size w)
 have HG := Aside0.mk hG
 clear hG
 have H : ((saronlaw09_sound.f k a0_0 l0_1 l0_2).bind fun t240 => (if t240 = true then ((saronref00_Turn.f a1_0 (l0_2.length : Int)).bind fun t242 => ((saronref00_Turn.f a1_1 (l0_2.length : Int)).bind fun t243 => (if 0 ≤ t242 then (if t242 < (l0_2.length : Int) then (if 0 ≤ t243 then (if t243 < (l0_2.length : Int) then ((heard_Common.f a0_0 l0_1 l0_2 t242 t243).bind fun bt246 => ((heard_Common.f a0_0 l0_1 l0_2 t243 t242).bind fun bt248 => ((heard_Common.f a0_0 l0_1 l0_2 t242 t242).bind fun bt250 => (if bt246.2 = 0 then (if bt248.2 = 0 then (if bt250.2 = 0 then (if bt246.1 = bt248.1 then (if bt250.1 = (((rd_T62 l0_2 t242).f1).length : Int) then ((saronref00_Sits.f bt246.1 0 (mn (((rd_T62 l0_2 t242).f1).length : Int) (((rd_T62 l0_2 t243).f1).length : Int))).bind fun t252 => (if t252 = true then (if t242 = t243 then (saronlaw09_HeardCommon.j0 k l2 t242 ((rd_T62 l0_2 t242).f1) (bt246.1 != bt250.1) a0_0 l0_1 l0_2) else (saronlaw09_HeardCommon.j0 k l2 t242 ((rd_T62 l0_2 t242).f1) false a0_0 l0_1 l0_2)) else (saronlaw09_HeardCommon.j0 k l2 t242 ((rd_T62 l0_2 t242).f1) true a0_0 l0_1 l0_2))) else (saronlaw09_HeardCommon.j0 k l2 t242 ((rd_T62 l0_2 t242).f1) true a0_0 l0_1 l0_2)) else (saronlaw09_HeardCommon.j0 k l2 t242 ((rd_T62 l0_2 t242).f1) true a0_0 l0_1 l0_2)) else (saronlaw09_HeardCommon.j0 k l2 t242 ((rd_T62 l0_2 t242).f1) true a0_0 l0_1 l0_2)) else (saronlaw09_HeardCommon.j0 k l2 t242 ((rd_T62 l0_2 t242).f1) true a0_0 l0_1 l0_2)) else (saronlaw09_HeardCommon.j0 k l2 t242 ((rd_T62 l0_2 t242).f1) true a0_0 l0_1 l0_2))))) else (none)) else (none)) else (none)) else (none)))) else ((saronlaw09_listened.f).bind fun t241 => (some t241)))) = some r := h
 clear h
 replace H := Option.bind_eq_some_iff.mp H
 obtain ⟨t240, A40, H⟩ := H
 replace H : (if t240 = true then ((saronref00_Turn.f a1_0 (l0_2.length : Int)).bind fun t242 => ((saronref00_Turn.f a1_1 (l0_2.length : Int)).bind fun t243 => (if 0 ≤ t242 then (if t242 < (l0_2.length : Int) then (if 0 ≤ t243 then (if t243 < (l0_2.length : Int) then ((heard_Common.f a0_0 l0_1 l0_2 t242 t243).bind fun bt246 => ((heard_Common.f a0_0 l0_1 l0_2 t243 t242).bind fun bt248 => ((heard_Common.f a0_0 l0_1 l0_2 t242 t242).bind fun bt250 => (if bt246.2 = 0 then (if bt248.2 = 0 then (if bt250.2 = 0 then (if bt246.1 = bt248.1 then (if bt250.1 = (((rd_T62 l0_2 t242).f1).length : Int) then ((saronref00_Sits.f bt246.1 0 (mn (((rd_T62 l0_2 t242).f1).length : Int) (((rd_T62 l0_2 t243).f1).length : Int))).bind fun t252 => (if t252 = true then (if t242 = t243 then (saronlaw09_HeardCommon.j0 k l2 t242 ((rd_T62 l0_2 t242).f1) (bt246.1 != bt250.1) a0_0 l0_1 l0_2) else (saronlaw09_HeardCommon.j0 k l2 t242 ((rd_T62 l0_2 t242).f1) false a0_0 l0_1 l0_2)) else (saronlaw09_HeardCommon.j0 k l2 t242 ((rd_T62 l0_2 t242).f1) true a0_0 l0_1 l0_2))) else (saronlaw09_HeardCommon.j0 k l2 t242 ((rd_T62 l0_2 t242).f1) true a0_0 l0_1 l0_2)) else (saronlaw09_HeardCommon.j0 k l2 t242 ((rd_T62 l0_2 t242).f1) true a0_0 l0_1 l0_2)) else (saronlaw09_HeardCommon.j0 k l2 t242 ((rd_T62 l0_2 t242).f1) true a0_0 l0_1 l0_2)) else (saronlaw09_HeardCommon.j0 k l2 t242 ((rd_T62 l0_2 t242).f1) true a0_0 l0_1 l0_2)) else (saronlaw09_HeardCommon.j0 k l2 t242 ((rd_T62 l0_2 t242).f1) true a0_0 l0_1 l0_2))))) else (none)) else (none)) else (none)) else (none)))) else ((saronlaw09_listened.f).bind fun t241 => (some t241))) = some r := H
 have A4 := Aside0.mk A40
 clear A40
 by_cases c5 : t240 = true
 ·subst c5
  have H1 : ((saronref00_Turn.f a1_0 (l0_2.length : Int)).bind fun t242 => ((saronref00_Turn.f a1_1 (l0_2.length : Int)).bind fun t243 => (if 0 ≤ t242 then (if t242 < (l0_2.length : Int) then (if 0 ≤ t243 then (if t243 < (l0_2.length : Int) then ((heard_Common.f a0_0 l0_1 l0_2 t242 t243).bind fun bt246 => ((heard_Common.f a0_0 l0_1 l0_2 t243 t242).bind fun bt248 => ((heard_Common.f a0_0 l0_1 l0_2 t242 t242).bind fun bt250 => (if bt246.2 = 0 then (if bt248.2 = 0 then (if bt250.2 = 0 then (if bt246.1 = bt248.1 then (if bt250.1 = (((rd_T62 l0_2 t242).f1).length : Int) then ((saronref00_Sits.f bt246.1 0 (mn (((rd_T62 l0_2 t242).f1).length : Int) (((rd_T62 l0_2 t243).f1).length : Int))).bind fun t252 => (if t252 = true then (if t242 = t243 then (saronlaw09_HeardCommon.j0 k l2 t242 ((rd_T62 l0_2 t242).f1) (bt246.1 != bt250.1) a0_0 l0_1 l0_2) else (saronlaw09_HeardCommon.j0 k l2 t242 ((rd_T62 l0_2 t242).f1) false a0_0 l0_1 l0_2)) else (saronlaw09_HeardCommon.j0 k l2 t242 ((rd_T62 l0_2 t242).f1) true a0_0 l0_1 l0_2))) else (saronlaw09_HeardCommon.j0 k l2 t242 ((rd_T62 l0_2 t242).f1) true a0_0 l0_1 l0_2)) else (saronlaw09_HeardCommon.j0 k l2 t242 ((rd_T62 l0_2 t242).f1) true a0_0 l0_1 l0_2)) else (saronlaw09_HeardCommon.j0 k l2 t242 ((rd_T62 l0_2 t242).f1) true a0_0 l0_1 l0_2)) else (saronlaw09_HeardCommon.j0 k l2 t242 ((rd_T62 l0_2 t242).f1) true a0_0 l0_1 l0_2)) else (saronlaw09_HeardCommon.j0 k l2 t242 ((rd_T62 l0_2 t242).f1) true a0_0 l0_1 l0_2))))) else (none)) else (none)) else (none)) else (none)))) = some r := by rw [if_pos rfl] at H; exact H
  clear H
  have H := H1
  clear H1
  replace H := Option.bind_eq_some_iff.mp H
  obtain ⟨t242, A60, H⟩ := H
  replace H : ((saronref00_Turn.f a1_1 (l0_2.length : Int)).bind fun t243 => (if 0 ≤ t242 then (if t242 < (l0_2.length : Int) then (if 0 ≤ t243 then (if t243 < (l0_2.length : Int) then ((heard_Common.f a0_0 l0_1 l0_2 t242 t243).bind fun bt246 => ((heard_Common.f a0_0 l0_1 l0_2 t243 t242).bind fun bt248 => ((heard_Common.f a0_0 l0_1 l0_2 t242 t242).bind fun bt250 => (if bt246.2 = 0 then (if bt248.2 = 0 then (if bt250.2 = 0 then (if bt246.1 = bt248.1 then (if bt250.1 = (((rd_T62 l0_2 t242).f1).length : Int) then ((saronref00_Sits.f bt246.1 0 (mn (((rd_T62 l0_2 t242).f1).length : Int) (((rd_T62 l0_2 t243).f1).length : Int))).bind fun t252 => (if t252 = true then (if t242 = t243 then (saronlaw09_HeardCommon.j0 k l2 t242 ((rd_T62 l0_2 t242).f1) (bt246.1 != bt250.1) a0_0 l0_1 l0_2) else (saronlaw09_HeardCommon.j0 k l2 t242 ((rd_T62 l0_2 t242).f1) false a0_0 l0_1 l0_2)) else (saronlaw09_HeardCommon.j0 k l2 t242 ((rd_T62 l0_2 t242).f1) true a0_0 l0_1 l0_2))) else (saronlaw09_HeardCommon.j0 k l2 t242 ((rd_T62 l0_2 t242).f1) true a0_0 l0_1 l0_2)) else (saronlaw09_HeardCommon.j0 k l2 t242 ((rd_T62 l0_2 t242).f1) true a0_0 l0_1 l0_2)) else (saronlaw09_HeardCommon.j0 k l2 t242 ((rd_T62 l0_2 t242).f1) true a0_0 l0_1 l0_2)) else (saronlaw09_HeardCommon.j0 k l2 t242 ((rd_T62 l0_2 t242).f1) true a0_0 l0_1 l0_2)) else (saronlaw09_HeardCommon.j0 k l2 t242 ((rd_T62 l0_2 t242).f1) true a0_0 l0_1 l0_2))))) else (none)) else (none)) else (none)) else (none))) = some r := H
  have A6 := Aside0.mk A60
  clear A60
  replace H := Option.bind_eq_some_iff.mp H
  obtain ⟨t243, A70, H⟩ := H
  replace H : (if 0 ≤ t242 then (if t242 < (l0_2.length : Int) then (if 0 ≤ t243 then (if t243 < (l0_2.length : Int) then ((heard_Common.f a0_0 l0_1 l0_2 t242 t243).bind fun bt246 => ((heard_Common.f a0_0 l0_1 l0_2 t243 t242).bind fun bt248 => ((heard_Common.f a0_0 l0_1 l0_2 t242 t242).bind fun bt250 => (if bt246.2 = 0 then (if bt248.2 = 0 then (if bt250.2 = 0 then (if bt246.1 = bt248.1 then (if bt250.1 = (((rd_T62 l0_2 t242).f1).length : Int) then ((saronref00_Sits.f bt246.1 0 (mn (((rd_T62 l0_2 t242).f1).length : Int) (((rd_T62 l0_2 t243).f1).length : Int))).bind fun t252 => (if t252 = true then (if t242 = t243 then (saronlaw09_HeardCommon.j0 k l2 t242 ((rd_T62 l0_2 t242).f1) (bt246.1 != bt250.1) a0_0 l0_1 l0_2) else (saronlaw09_HeardCommon.j0 k l2 t242 ((rd_T62 l0_2 t242).f1) false a0_0 l0_1 l0_2)) else (saronlaw09_HeardCommon.j0 k l2 t242 ((rd_T62 l0_2 t242).f1) true a0_0 l0_1 l0_2))) else (saronlaw09_HeardCommon.j0 k l2 t242 ((rd_T62 l0_2 t242).f1) true a0_0 l0_1 l0_2)) else (saronlaw09_HeardCommon.j0 k l2 t242 ((rd_T62 l0_2 t242).f1) true a0_0 l0_1 l0_2)) else (saronlaw09_HeardCommon.j0 k l2 t242 ((rd_T62 l0_2 t242).f1) true a0_0 l0_1 l0_2)) else (saronlaw09_HeardCommon.j0 k l2 t242 ((rd_T62 l0_2 t242).f1) true a0_0 l0_1 l0_2)) else (saronlaw09_HeardCommon.j0 k l2 t242 ((rd_T62 l0_2 t242).f1) true a0_0 l0_1 l0_2))))) else (none)) else (none)) else (none)) else (none)) = some r := H
  have A7 := Aside0.mk A70
  clear A70
  by_cases c8 : 0 ≤ t242
  ·rw [if_pos c8] at H
   have c8b0 : decide (0 ≤ t242) = true := decide_eq_true c8
   clear c8
   by_cases c9 : t242 < (l0_2.length : Int)
   ·rw [if_pos c9] at H
    have c9b0 : decide (t242 < (l0_2.length : Int)) = true := decide_eq_true c9
    clear c9
    by_cases c10 : 0 ≤ t243
    ·rw [if_pos c10] at H
     have c10b0 : decide (0 ≤ t243) = true := decide_eq_true c10
     clear c10
     by_cases c11 : t243 < (l0_2.length : Int)
     ·rw [if_pos c11] at H
      have c11b0 : decide (t243 < (l0_2.length : Int)) = true := decide_eq_true c11
      clear c11
      replace H := Option.bind_eq_some_iff.mp H
      obtain ⟨⟨t246, t247⟩, A120, H⟩ := H
      replace H : ((heard_Common.f a0_0 l0_1 l0_2 t243 t242).bind fun bt248 => ((heard_Common.f a0_0 l0_1 l0_2 t242 t242).bind fun bt250 => (if t247 = 0 then (if bt248.2 = 0 then (if bt250.2 = 0 then (if t246 = bt248.1 then (if bt250.1 = (((rd_T62 l0_2 t242).f1).length : Int) then ((saronref00_Sits.f t246 0 (mn (((rd_T62 l0_2 t242).f1).length : Int) (((rd_T62 l0_2 t243).f1).length : Int))).bind fun t252 => (if t252 = true then (if t242 = t243 then (saronlaw09_HeardCommon.j0 k l2 t242 ((rd_T62 l0_2 t242).f1) (t246 != bt250.1) a0_0 l0_1 l0_2) else (saronlaw09_HeardCommon.j0 k l2 t242 ((rd_T62 l0_2 t242).f1) false a0_0 l0_1 l0_2)) else (saronlaw09_HeardCommon.j0 k l2 t242 ((rd_T62 l0_2 t242).f1) true a0_0 l0_1 l0_2))) else (saronlaw09_HeardCommon.j0 k l2 t242 ((rd_T62 l0_2 t242).f1) true a0_0 l0_1 l0_2)) else (saronlaw09_HeardCommon.j0 k l2 t242 ((rd_T62 l0_2 t242).f1) true a0_0 l0_1 l0_2)) else (saronlaw09_HeardCommon.j0 k l2 t242 ((rd_T62 l0_2 t242).f1) true a0_0 l0_1 l0_2)) else (saronlaw09_HeardCommon.j0 k l2 t242 ((rd_T62 l0_2 t242).f1) true a0_0 l0_1 l0_2)) else (saronlaw09_HeardCommon.j0 k l2 t242 ((rd_T62 l0_2 t242).f1) true a0_0 l0_1 l0_2)))) = some r := H
      have A12 := Aside0.mk A120
      clear A120
      replace H := Option.bind_eq_some_iff.mp H
      obtain ⟨⟨t248, t249⟩, A130, H⟩ := H
      replace H : ((heard_Common.f a0_0 l0_1 l0_2 t242 t242).bind fun bt250 => (if t247 = 0 then (if t249 = 0 then (if bt250.2 = 0 then (if t246 = t248 then (if bt250.1 = (((rd_T62 l0_2 t242).f1).length : Int) then ((saronref00_Sits.f t246 0 (mn (((rd_T62 l0_2 t242).f1).length : Int) (((rd_T62 l0_2 t243).f1).length : Int))).bind fun t252 => (if t252 = true then (if t242 = t243 then (saronlaw09_HeardCommon.j0 k l2 t242 ((rd_T62 l0_2 t242).f1) (t246 != bt250.1) a0_0 l0_1 l0_2) else (saronlaw09_HeardCommon.j0 k l2 t242 ((rd_T62 l0_2 t242).f1) false a0_0 l0_1 l0_2)) else (saronlaw09_HeardCommon.j0 k l2 t242 ((rd_T62 l0_2 t242).f1) true a0_0 l0_1 l0_2))) else (saronlaw09_HeardCommon.j0 k l2 t242 ((rd_T62 l0_2 t242).f1) true a0_0 l0_1 l0_2)) else (saronlaw09_HeardCommon.j0 k l2 t242 ((rd_T62 l0_2 t242).f1) true a0_0 l0_1 l0_2)) else (saronlaw09_HeardCommon.j0 k l2 t242 ((rd_T62 l0_2 t242).f1) true a0_0 l0_1 l0_2)) else (saronlaw09_HeardCommon.j0 k l2 t242 ((rd_T62 l0_2 t242).f1) true a0_0 l0_1 l0_2)) else (saronlaw09_HeardCommon.j0 k l2 t242 ((rd_T62 l0_2 t242).f1) true a0_0 l0_1 l0_2))) = some r := H
      have A13 := Aside0.mk A130
      clear A130
      replace H := Option.bind_eq_some_iff.mp H
      obtain ⟨⟨t250, t251⟩, A140, H⟩ := H
      replace H : (if t247 = 0 then (if t249 = 0 then (if t251 = 0 then (if t246 = t248 then (if t250 = (((rd_T62 l0_2 t242).f1).length : Int) then ((saronref00_Sits.f t246 0 (mn (((rd_T62 l0_2 t242).f1).length : Int) (((rd_T62 l0_2 t243).f1).length : Int))).bind fun t252 => (if t252 = true then (if t242 = t243 then (saronlaw09_HeardCommon.j0 k l2 t242 ((rd_T62 l0_2 t242).f1) (t246 != t250) a0_0 l0_1 l0_2) else (saronlaw09_HeardCommon.j0 k l2 t242 ((rd_T62 l0_2 t242).f1) false a0_0 l0_1 l0_2)) else (saronlaw09_HeardCommon.j0 k l2 t242 ((rd_T62 l0_2 t242).f1) true a0_0 l0_1 l0_2))) else (saronlaw09_HeardCommon.j0 k l2 t242 ((rd_T62 l0_2 t242).f1) true a0_0 l0_1 l0_2)) else (saronlaw09_HeardCommon.j0 k l2 t242 ((rd_T62 l0_2 t242).f1) true a0_0 l0_1 l0_2)) else (saronlaw09_HeardCommon.j0 k l2 t242 ((rd_T62 l0_2 t242).f1) true a0_0 l0_1 l0_2)) else (saronlaw09_HeardCommon.j0 k l2 t242 ((rd_T62 l0_2 t242).f1) true a0_0 l0_1 l0_2)) else (saronlaw09_HeardCommon.j0 k l2 t242 ((rd_T62 l0_2 t242).f1) true a0_0 l0_1 l0_2)) = some r := H
      have A14 := Aside0.mk A140
      clear A140
      have HC15 := Aside0.mk H
      clear H
      go_enter Tryd.func12, Tryd.ntmps12
      go_upto_region 8 with (first | ((with_reducible refine gate_dst (N := 3) rfl ?_); (try (refine gate_guard (by rfl) ?_; dsimp only)); refine box_event ?hg (N := 3) ?hd (cs := #[.int .i64 a0_0, .slice A0_1 l0_1.length c0_1, .slice A0_2 l0_2.length c0_2]) (t := 27) ?hr ?_; (case hd => rfl); (case hg => rfl); (case hr => exact TS); intro gb238 hg w16 hbox hb; have BK238 := Aside0.mk (hbox); have GW238 := Aside0.mk ((TG : w.heap.size ≤ gb238)); have GE238 := Aside0.mk ((TG : w.heap.size ≤ gb238)); replace HB := Aside0.mk (below_step TB hb); clear hb hbox hg) | ((with_reducible refine gate_dst (N := 4) rfl ?_); (try (refine gate_guard (by rfl) ?_; dsimp only)); refine box_event ?hg (N := 4) ?hd (cs := #[.int .i64 a1_0, .int .i64 a1_1]) (t := 43) ?hr ?_; (case hd => rfl); (case hg => rfl); (case hr => exact TS); intro gb239 hg w17 hbox hb; have BK239 := Aside0.mk (hbox); have GW239 := Aside0.mk ((TG1 GE238.out : w.heap.size ≤ gb239)); have GE239 := Aside0.mk ((TG1 GE238.out : w.heap.size ≤ gb239)); have NB238_239 := Aside0.mk ((by rw [hg]; exact Nat.ne_of_lt (blk_lt (g := gb238) (o := .cells #[.int .i64 a0_0, .slice A0_1 l0_1.length c0_1, .slice A0_2 l0_2.length c0_2] 27 (0, 0)) (by (with_reducible repeat (first | refine blk_drewN ?_ _ | refine blk_drew ?_ | refine blk_alloc ?_ _)); exact BK238.out)) : gb238 ≠ gb239)); have NB239_238 := Aside0.mk ((by rw [hg]; exact Nat.ne_of_gt (blk_lt (g := gb238) (o := .cells #[.int .i64 a0_0, .slice A0_1 l0_1.length c0_1, .slice A0_2 l0_2.length c0_2] 27 (0, 0)) (by (with_reducible repeat (first | refine blk_drewN ?_ _ | refine blk_drew ?_ | refine blk_alloc ?_ _)); exact BK238.out)) : gb239 ≠ gb238)); replace BK238 := Aside0.mk (blk_below (g := gb238) (o := .cells #[.int .i64 a0_0, .slice A0_1 l0_1.length c0_1, .slice A0_2 l0_2.length c0_2] 27 (0, 0)) (by (with_reducible repeat (first | refine blk_drewN ?_ _ | refine blk_drew ?_ | refine blk_alloc ?_ _)); exact BK238.out) hb); replace HB := Aside0.mk (below_step (TB1 GE238.out) hb); clear hb hbox hg; have hnb18 := NB238_239.out; have hnc18 := NB239_238.out; have hcz19_0 := czz BK238.out 0; have hcz19_1 := czz BK238.out 1; have hcz19_2 := czz BK238.out 2; have hfz19_0 := fz BK238.out 0; have hfz19_1 := fz BK238.out 1; have hfz19_2 := fz BK238.out 2) | (go_at_call 36; (with_reducible refine (saronlaw09_sound.calls k a0_0 _ _ l0_1 _ _ l0_2 true _ ?side1 ?side2 ?side3 ?side4 ?side5 A4.out).mono ?_); (case side1 => exact TC HR0_1.out); (case side2 => exact HC0_1.out); (case side3 => exact TC HR0_2.out); (case side4 => exact HC0_2.out); (case side5 => exact Glob.fr HG.out (Fr.of_below (TB2 GE238.out GE239.out))); rintro e w20 ⟨rfl, hb⟩; replace BK238 := Aside0.mk (blk_below (g := gb238) (o := .cells #[.int .i64 a0_0, .slice A0_1 l0_1.length c0_1, .slice A0_2 l0_2.length c0_2] 27 (0, 0)) (by (with_reducible repeat (first | refine blk_drewN ?_ _ | refine blk_drew ?_ | refine blk_alloc ?_ _)); exact BK238.out) hb); replace BK239 := Aside0.mk (blk_below (g := gb239) (o := .cells #[.int .i64 a1_0, .int .i64 a1_1] 43 (0, 0)) (by (with_reducible repeat (first | refine blk_drewN ?_ _ | refine blk_drew ?_ | refine blk_alloc ?_ _)); exact BK239.out) hb); replace HB := Aside0.mk (below_step (TB2 GE238.out GE239.out) hb); (try clear hb); (try clear hb2); (try clear hk); (try clear hi); have hcz21_0 := czz BK239.out 0; have hcz21_1 := czz BK239.out 1; have hfz21_0 := fz BK239.out 0; have hfz21_1 := fz BK239.out 1; have hcz22_0 := czz BK238.out 0; have hcz22_1 := czz BK238.out 1; have hcz22_2 := czz BK238.out 2; have hfz22_0 := fz BK238.out 0; have hfz22_1 := fz BK238.out 1; have hfz22_2 := fz BK238.out 2) | (go_at_call 37; (with_reducible refine (saronref00_Turn.calls a1_0 (l0_2.length : Int) t242 _ A6.out).mono ?_); rintro e w' ⟨rfl, ⟨nd, rfl⟩⟩; (try first | exact ⟨rfl, _, World.drewN_drewN _ _ _⟩ | exact ⟨rfl, _, Eq.trans (World.drewN_drewN _ _ _) (congrArg (World.drewN _) (Nat.add_assoc _ _ _))⟩)) | (go_at_call 37; (with_reducible refine (saronref00_Turn.calls a1_1 (l0_2.length : Int) t243 _ A7.out).mono ?_); rintro e w' ⟨rfl, ⟨nd, rfl⟩⟩; (try first | exact ⟨rfl, _, World.drewN_drewN _ _ _⟩ | exact ⟨rfl, _, Eq.trans (World.drewN_drewN _ _ _) (congrArg (World.drewN _) (Nat.add_assoc _ _ _))⟩); have p244 : 0 ≤ (t242 : Int) := of_decide_eq_true TA; have q244 : t242 < (l0_2.length : Int) := of_decide_eq_true TA; obtain ⟨ad244, A244_1, c244_1, e244, hx244_0, hx244_1, hl244_1, hi244_1⟩ := at_T62 HR0_2.out t242 p244 q244; cases e244; replace hx244_0 := (HB.out.cell  (World.block_lt_of_cell? w _ hx244_0)).trans hx244_0; replace hx244_1 := (HB.out.cell  (World.block_lt_of_cell? w _ hx244_1)).trans hx244_1; have HR244_1 := Aside0.mk hi244_1; have HC244_1 := Aside0.mk hl244_1; clear hi244_1 hl244_1; replace p244 := eq_true p244; replace q244 := eq_true q244; have p245 : 0 ≤ (t243 : Int) := of_decide_eq_true TA; have q245 : t243 < (l0_2.length : Int) := of_decide_eq_true TA; obtain ⟨ad245, A245_1, c245_1, e245, hx245_0, hx245_1, hl245_1, hi245_1⟩ := at_T62 HR0_2.out t243 p245 q245; obtain rfl : ad244 = ad245 := (by injection e245); replace hx245_0 := (HB.out.cell  (World.block_lt_of_cell? w _ hx245_0)).trans hx245_0; replace hx245_1 := (HB.out.cell  (World.block_lt_of_cell? w _ hx245_1)).trans hx245_1; have HR245_1 := Aside0.mk hi245_1; have HC245_1 := Aside0.mk hl245_1; clear hi245_1 hl245_1; replace p245 := eq_true p245; replace q245 := eq_true q245) | (go_at_call 30; (with_reducible refine (heard_Common.calls a0_0 _ _ l0_1 _ _ l0_2 t242 t243 t246 t247 _ ?side1 ?side2 ?side3 ?side4 ?side5 A12.out).mono ?_); (case side1 => exact TD HR0_1.out (TB2 GE238.out GE239.out)); (case side2 => exact HC0_1.out); (case side3 => exact TD HR0_2.out (TB2 GE238.out GE239.out)); (case side4 => exact HC0_2.out); (case side5 => exact Glob.fr HG.out (Fr.of_below (TB2 GE238.out GE239.out))); rintro e w23 ⟨rfl, hb⟩; replace BK238 := Aside0.mk (blk_below (g := gb238) (o := .cells #[.int .i64 a0_0, .slice A0_1 l0_1.length c0_1, .slice (some ad244) l0_2.length c0_2] 27 (0, 0)) (by (with_reducible repeat (first | refine blk_drewN ?_ _ | refine blk_drew ?_ | refine blk_alloc ?_ _)); exact BK238.out) hb); replace BK239 := Aside0.mk (blk_below (g := gb239) (o := .cells #[.int .i64 a1_0, .int .i64 a1_1] 43 (0, 0)) (by (with_reducible repeat (first | refine blk_drewN ?_ _ | refine blk_drew ?_ | refine blk_alloc ?_ _)); exact BK239.out) hb); replace HB := Aside0.mk (below_step (TB2 GE238.out GE239.out) hb); (try clear hb); (try clear hb2); (try clear hk); (try clear hi); have hcz24_0 := czz BK238.out 0; have hcz24_1 := czz BK238.out 1; have hcz24_2 := czz BK238.out 2; have hfz24_0 := fz BK238.out 0; have hfz24_1 := fz BK238.out 1; have hfz24_2 := fz BK238.out 2) | (go_at_call 30; (with_reducible refine (heard_Common.calls a0_0 _ _ l0_1 _ _ l0_2 t243 t242 t248 t249 _ ?side1 ?side2 ?side3 ?side4 ?side5 A13.out).mono ?_); (case side1 => exact TC HR0_1.out); (case side2 => exact HC0_1.out); (case side3 => exact TC HR0_2.out); (case side4 => exact HC0_2.out); (case side5 => exact Glob.fr HG.out (Fr.of_below (TB2 GE238.out GE239.out))); rintro e w25 ⟨rfl, hb⟩; replace BK238 := Aside0.mk (blk_below (g := gb238) (o := .cells #[.int .i64 a0_0, .slice A0_1 l0_1.length c0_1, .slice (some ad244) l0_2.length c0_2] 27 (0, 0)) (by (with_reducible repeat (first | refine blk_drewN ?_ _ | refine blk_drew ?_ | refine blk_alloc ?_ _)); exact BK238.out) hb); replace BK239 := Aside0.mk (blk_below (g := gb239) (o := .cells #[.int .i64 a1_0, .int .i64 a1_1] 43 (0, 0)) (by (with_reducible repeat (first | refine blk_drewN ?_ _ | refine blk_drew ?_ | refine blk_alloc ?_ _)); exact BK239.out) hb); replace HB := Aside0.mk (below_step (TB2 GE238.out GE239.out) hb); (try clear hb); (try clear hb2); (try clear hk); (try clear hi); have hcz26_0 := czz BK238.out 0; have hcz26_1 := czz BK238.out 1; have hcz26_2 := czz BK238.out 2; have hfz26_0 := fz BK238.out 0; have hfz26_1 := fz BK238.out 1; have hfz26_2 := fz BK238.out 2) | (go_at_call 30; (with_reducible refine (heard_Common.calls a0_0 _ _ l0_1 _ _ l0_2 t242 t242 t250 t251 _ ?side1 ?side2 ?side3 ?side4 ?side5 A14.out).mono ?_); (case side1 => exact TC HR0_1.out); (case side2 => exact HC0_1.out); (case side3 => exact TC HR0_2.out); (case side4 => exact HC0_2.out); (case side5 => exact Glob.fr HG.out (Fr.of_below (TB2 GE238.out GE239.out))); rintro e w27 ⟨rfl, hb⟩; replace BK238 := Aside0.mk (blk_below (g := gb238) (o := .cells #[.int .i64 a0_0, .slice A0_1 l0_1.length c0_1, .slice (some ad244) l0_2.length c0_2] 27 (0, 0)) (by (with_reducible repeat (first | refine blk_drewN ?_ _ | refine blk_drew ?_ | refine blk_alloc ?_ _)); exact BK238.out) hb); replace BK239 := Aside0.mk (blk_below (g := gb239) (o := .cells #[.int .i64 a1_0, .int .i64 a1_1] 43 (0, 0)) (by (with_reducible repeat (first | refine blk_drewN ?_ _ | refine blk_drew ?_ | refine blk_alloc ?_ _)); exact BK239.out) hb); replace HB := Aside0.mk (below_step (TB2 GE238.out GE239.out) hb); (try clear hb); (try clear hb2); (try clear hk); (try clear hi)))
      repeat (go_quiet (first | ((with_reducible refine gate_dst (N := 3) rfl ?_); (try (refine gate_guard (by rfl) ?_; dsimp only)); refine box_event ?hg (N := 3) ?hd (cs := #[.int .i64 a0_0, .slice A0_1 l0_1.length c0_1, .slice A0_2 l0_2.length c0_2]) (t := 27) ?hr ?_; (case hd => rfl); (case hg => rfl); (case hr => exact TS); intro gb238 hg w16 hbox hb; have BK238 := Aside0.mk (hbox); have GW238 := Aside0.mk ((TG : w.heap.size ≤ gb238)); have GE238 := Aside0.mk ((TG : w.heap.size ≤ gb238)); replace HB := Aside0.mk (below_step TB hb); clear hb hbox hg) | ((with_reducible refine gate_dst (N := 4) rfl ?_); (try (refine gate_guard (by rfl) ?_; dsimp only)); refine box_event ?hg (N := 4) ?hd (cs := #[.int .i64 a1_0, .int .i64 a1_1]) (t := 43) ?hr ?_; (case hd => rfl); (case hg => rfl); (case hr => exact TS); intro gb239 hg w17 hbox hb; have BK239 := Aside0.mk (hbox); have GW239 := Aside0.mk ((TG1 GE238.out : w.heap.size ≤ gb239)); have GE239 := Aside0.mk ((TG1 GE238.out : w.heap.size ≤ gb239)); have NB238_239 := Aside0.mk ((by rw [hg]; exact Nat.ne_of_lt (blk_lt (g := gb238) (o := .cells #[.int .i64 a0_0, .slice A0_1 l0_1.length c0_1, .slice A0_2 l0_2.length c0_2] 27 (0, 0)) (by (with_reducible repeat (first | refine blk_drewN ?_ _ | refine blk_drew ?_ | refine blk_alloc ?_ _)); exact BK238.out)) : gb238 ≠ gb239)); have NB239_238 := Aside0.mk ((by rw [hg]; exact Nat.ne_of_gt (blk_lt (g := gb238) (o := .cells #[.int .i64 a0_0, .slice A0_1 l0_1.length c0_1, .slice A0_2 l0_2.length c0_2] 27 (0, 0)) (by (with_reducible repeat (first | refine blk_drewN ?_ _ | refine blk_drew ?_ | refine blk_alloc ?_ _)); exact BK238.out)) : gb239 ≠ gb238)); replace BK238 := Aside0.mk (blk_below (g := gb238) (o := .cells #[.int .i64 a0_0, .slice A0_1 l0_1.length c0_1, .slice A0_2 l0_2.length c0_2] 27 (0, 0)) (by (with_reducible repeat (first | refine blk_drewN ?_ _ | refine blk_drew ?_ | refine blk_alloc ?_ _)); exact BK238.out) hb); replace HB := Aside0.mk (below_step (TB1 GE238.out) hb); clear hb hbox hg; have hnb18 := NB238_239.out; have hnc18 := NB239_238.out; have hcz19_0 := czz BK238.out 0; have hcz19_1 := czz BK238.out 1; have hcz19_2 := czz BK238.out 2; have hfz19_0 := fz BK238.out 0; have hfz19_1 := fz BK238.out 1; have hfz19_2 := fz BK238.out 2) | (go_at_call 36; (with_reducible refine (saronlaw09_sound.calls k a0_0 _ _ l0_1 _ _ l0_2 true _ ?side1 ?side2 ?side3 ?side4 ?side5 A4.out).mono ?_); (case side1 => exact TC HR0_1.out); (case side2 => exact HC0_1.out); (case side3 => exact TC HR0_2.out); (case side4 => exact HC0_2.out); (case side5 => exact Glob.fr HG.out (Fr.of_below (TB2 GE238.out GE239.out))); rintro e w20 ⟨rfl, hb⟩; replace BK238 := Aside0.mk (blk_below (g := gb238) (o := .cells #[.int .i64 a0_0, .slice A0_1 l0_1.length c0_1, .slice A0_2 l0_2.length c0_2] 27 (0, 0)) (by (with_reducible repeat (first | refine blk_drewN ?_ _ | refine blk_drew ?_ | refine blk_alloc ?_ _)); exact BK238.out) hb); replace BK239 := Aside0.mk (blk_below (g := gb239) (o := .cells #[.int .i64 a1_0, .int .i64 a1_1] 43 (0, 0)) (by (with_reducible repeat (first | refine blk_drewN ?_ _ | refine blk_drew ?_ | refine blk_alloc ?_ _)); exact BK239.out) hb); replace HB := Aside0.mk (below_step (TB2 GE238.out GE239.out) hb); (try clear hb); (try clear hb2); (try clear hk); (try clear hi); have hcz21_0 := czz BK239.out 0; have hcz21_1 := czz BK239.out 1; have hfz21_0 := fz BK239.out 0; have hfz21_1 := fz BK239.out 1; have hcz22_0 := czz BK238.out 0; have hcz22_1 := czz BK238.out 1; have hcz22_2 := czz BK238.out 2; have hfz22_0 := fz BK238.out 0; have hfz22_1 := fz BK238.out 1; have hfz22_2 := fz BK238.out 2) | (go_at_call 37; (with_reducible refine (saronref00_Turn.calls a1_0 (l0_2.length : Int) t242 _ A6.out).mono ?_); rintro e w' ⟨rfl, ⟨nd, rfl⟩⟩; (try first | exact ⟨rfl, _, World.drewN_drewN _ _ _⟩ | exact ⟨rfl, _, Eq.trans (World.drewN_drewN _ _ _) (congrArg (World.drewN _) (Nat.add_assoc _ _ _))⟩)) | (go_at_call 37; (with_reducible refine (saronref00_Turn.calls a1_1 (l0_2.length : Int) t243 _ A7.out).mono ?_); rintro e w' ⟨rfl, ⟨nd, rfl⟩⟩; (try first | exact ⟨rfl, _, World.drewN_drewN _ _ _⟩ | exact ⟨rfl, _, Eq.trans (World.drewN_drewN _ _ _) (congrArg (World.drewN _) (Nat.add_assoc _ _ _))⟩); have p244 : 0 ≤ (t242 : Int) := of_decide_eq_true TA; have q244 : t242 < (l0_2.length : Int) := of_decide_eq_true TA; obtain ⟨ad244, A244_1, c244_1, e244, hx244_0, hx244_1, hl244_1, hi244_1⟩ := at_T62 HR0_2.out t242 p244 q244; cases e244; replace hx244_0 := (HB.out.cell  (World.block_lt_of_cell? w _ hx244_0)).trans hx244_0; replace hx244_1 := (HB.out.cell  (World.block_lt_of_cell? w _ hx244_1)).trans hx244_1; have HR244_1 := Aside0.mk hi244_1; have HC244_1 := Aside0.mk hl244_1; clear hi244_1 hl244_1; replace p244 := eq_true p244; replace q244 := eq_true q244; have p245 : 0 ≤ (t243 : Int) := of_decide_eq_true TA; have q245 : t243 < (l0_2.length : Int) := of_decide_eq_true TA; obtain ⟨ad245, A245_1, c245_1, e245, hx245_0, hx245_1, hl245_1, hi245_1⟩ := at_T62 HR0_2.out t243 p245 q245; obtain rfl : ad244 = ad245 := (by injection e245); replace hx245_0 := (HB.out.cell  (World.block_lt_of_cell? w _ hx245_0)).trans hx245_0; replace hx245_1 := (HB.out.cell  (World.block_lt_of_cell? w _ hx245_1)).trans hx245_1; have HR245_1 := Aside0.mk hi245_1; have HC245_1 := Aside0.mk hl245_1; clear hi245_1 hl245_1; replace p245 := eq_true p245; replace q245 := eq_true q245) | (go_at_call 30; (with_reducible refine (heard_Common.calls a0_0 _ _ l0_1 _ _ l0_2 t242 t243 t246 t247 _ ?side1 ?side2 ?side3 ?side4 ?side5 A12.out).mono ?_); (case side1 => exact TD HR0_1.out (TB2 GE238.out GE239.out)); (case side2 => exact HC0_1.out); (case side3 => exact TD HR0_2.out (TB2 GE238.out GE239.out)); (case side4 => exact HC0_2.out); (case side5 => exact Glob.fr HG.out (Fr.of_below (TB2 GE238.out GE239.out))); rintro e w23 ⟨rfl, hb⟩; replace BK238 := Aside0.mk (blk_below (g := gb238) (o := .cells #[.int .i64 a0_0, .slice A0_1 l0_1.length c0_1, .slice (some ad244) l0_2.length c0_2] 27 (0, 0)) (by (with_reducible repeat (first | refine blk_drewN ?_ _ | refine blk_drew ?_ | refine blk_alloc ?_ _)); exact BK238.out) hb); replace BK239 := Aside0.mk (blk_below (g := gb239) (o := .cells #[.int .i64 a1_0, .int .i64 a1_1] 43 (0, 0)) (by (with_reducible repeat (first | refine blk_drewN ?_ _ | refine blk_drew ?_ | refine blk_alloc ?_ _)); exact BK239.out) hb); replace HB := Aside0.mk (below_step (TB2 GE238.out GE239.out) hb); (try clear hb); (try clear hb2); (try clear hk); (try clear hi); have hcz24_0 := czz BK238.out 0; have hcz24_1 := czz BK238.out 1; have hcz24_2 := czz BK238.out 2; have hfz24_0 := fz BK238.out 0; have hfz24_1 := fz BK238.out 1; have hfz24_2 := fz BK238.out 2) | (go_at_call 30; (with_reducible refine (heard_Common.calls a0_0 _ _ l0_1 _ _ l0_2 t243 t242 t248 t249 _ ?side1 ?side2 ?side3 ?side4 ?side5 A13.out).mono ?_); (case side1 => exact TC HR0_1.out); (case side2 => exact HC0_1.out); (case side3 => exact TC HR0_2.out); (case side4 => exact HC0_2.out); (case side5 => exact Glob.fr HG.out (Fr.of_below (TB2 GE238.out GE239.out))); rintro e w25 ⟨rfl, hb⟩; replace BK238 := Aside0.mk (blk_below (g := gb238) (o := .cells #[.int .i64 a0_0, .slice A0_1 l0_1.length c0_1, .slice (some ad244) l0_2.length c0_2] 27 (0, 0)) (by (with_reducible repeat (first | refine blk_drewN ?_ _ | refine blk_drew ?_ | refine blk_alloc ?_ _)); exact BK238.out) hb); replace BK239 := Aside0.mk (blk_below (g := gb239) (o := .cells #[.int .i64 a1_0, .int .i64 a1_1] 43 (0, 0)) (by (with_reducible repeat (first | refine blk_drewN ?_ _ | refine blk_drew ?_ | refine blk_alloc ?_ _)); exact BK239.out) hb); replace HB := Aside0.mk (below_step (TB2 GE238.out GE239.out) hb); (try clear hb); (try clear hb2); (try clear hk); (try clear hi); have hcz26_0 := czz BK238.out 0; have hcz26_1 := czz BK238.out 1; have hcz26_2 := czz BK238.out 2; have hfz26_0 := fz BK238.out 0; have hfz26_1 := fz BK238.out 1; have hfz26_2 := fz BK238.out 2) | (go_at_call 30; (with_reducible refine (heard_Common.calls a0_0 _ _ l0_1 _ _ l0_2 t242 t242 t250 t251 _ ?side1 ?side2 ?side3 ?side4 ?side5 A14.out).mono ?_); (case side1 => exact TC HR0_1.out); (case side2 => exact HC0_1.out); (case side3 => exact TC HR0_2.out); (case side4 => exact HC0_2.out); (case side5 => exact Glob.fr HG.out (Fr.of_below (TB2 GE238.out GE239.out))); rintro e w27 ⟨rfl, hb⟩; replace BK238 := Aside0.mk (blk_below (g := gb238) (o := .cells #[.int .i64 a0_0, .slice A0_1 l0_1.length c0_1, .slice (some ad244) l0_2.length c0_2] 27 (0, 0)) (by (with_reducible repeat (first | refine blk_drewN ?_ _ | refine blk_drew ?_ | refine blk_alloc ?_ _)); exact BK238.out) hb); replace BK239 := Aside0.mk (blk_below (g := gb239) (o := .cells #[.int .i64 a1_0, .int .i64 a1_1] 43 (0, 0)) (by (with_reducible repeat (first | refine blk_drewN ?_ _ | refine blk_drew ?_ | refine blk_alloc ?_ _)); exact BK239.out) hb); replace HB := Aside0.mk (below_step (TB2 GE238.out GE239.out) hb); (try clear hb); (try clear hb2); (try clear hk); (try clear hi))); go_upto_region 8 with (first | ((with_reducible refine gate_dst (N := 3) rfl ?_); (try (refine gate_guard (by rfl) ?_; dsimp only)); refine box_event ?hg (N := 3) ?hd (cs := #[.int .i64 a0_0, .slice A0_1 l0_1.length c0_1, .slice A0_2 l0_2.length c0_2]) (t := 27) ?hr ?_; (case hd => rfl); (case hg => rfl); (case hr => exact TS); intro gb238 hg w16 hbox hb; have BK238 := Aside0.mk (hbox); have GW238 := Aside0.mk ((TG : w.heap.size ≤ gb238)); have GE238 := Aside0.mk ((TG : w.heap.size ≤ gb238)); replace HB := Aside0.mk (below_step TB hb); clear hb hbox hg) | ((with_reducible refine gate_dst (N := 4) rfl ?_); (try (refine gate_guard (by rfl) ?_; dsimp only)); refine box_event ?hg (N := 4) ?hd (cs := #[.int .i64 a1_0, .int .i64 a1_1]) (t := 43) ?hr ?_; (case hd => rfl); (case hg => rfl); (case hr => exact TS); intro gb239 hg w17 hbox hb; have BK239 := Aside0.mk (hbox); have GW239 := Aside0.mk ((TG1 GE238.out : w.heap.size ≤ gb239)); have GE239 := Aside0.mk ((TG1 GE238.out : w.heap.size ≤ gb239)); have NB238_239 := Aside0.mk ((by rw [hg]; exact Nat.ne_of_lt (blk_lt (g := gb238) (o := .cells #[.int .i64 a0_0, .slice A0_1 l0_1.length c0_1, .slice A0_2 l0_2.length c0_2] 27 (0, 0)) (by (with_reducible repeat (first | refine blk_drewN ?_ _ | refine blk_drew ?_ | refine blk_alloc ?_ _)); exact BK238.out)) : gb238 ≠ gb239)); have NB239_238 := Aside0.mk ((by rw [hg]; exact Nat.ne_of_gt (blk_lt (g := gb238) (o := .cells #[.int .i64 a0_0, .slice A0_1 l0_1.length c0_1, .slice A0_2 l0_2.length c0_2] 27 (0, 0)) (by (with_reducible repeat (first | refine blk_drewN ?_ _ | refine blk_drew ?_ | refine blk_alloc ?_ _)); exact BK238.out)) : gb239 ≠ gb238)); replace BK238 := Aside0.mk (blk_below (g := gb238) (o := .cells #[.int .i64 a0_0, .slice A0_1 l0_1.length c0_1, .slice A0_2 l0_2.length c0_2] 27 (0, 0)) (by (with_reducible repeat (first | refine blk_drewN ?_ _ | refine blk_drew ?_ | refine blk_alloc ?_ _)); exact BK238.out) hb); replace HB := Aside0.mk (below_step (TB1 GE238.out) hb); clear hb hbox hg; have hnb18 := NB238_239.out; have hnc18 := NB239_238.out; have hcz19_0 := czz BK238.out 0; have hcz19_1 := czz BK238.out 1; have hcz19_2 := czz BK238.out 2; have hfz19_0 := fz BK238.out 0; have hfz19_1 := fz BK238.out 1; have hfz19_2 := fz BK238.out 2) | (go_at_call 36; (with_reducible refine (saronlaw09_sound.calls k a0_0 _ _ l0_1 _ _ l0_2 true _ ?side1 ?side2 ?side3 ?side4 ?side5 A4.out).mono ?_); (case side1 => exact TC HR0_1.out); (case side2 => exact HC0_1.out); (case side3 => exact TC HR0_2.out); (case side4 => exact HC0_2.out); (case side5 => exact Glob.fr HG.out (Fr.of_below (TB2 GE238.out GE239.out))); rintro e w20 ⟨rfl, hb⟩; replace BK238 := Aside0.mk (blk_below (g := gb238) (o := .cells #[.int .i64 a0_0, .slice A0_1 l0_1.length c0_1, .slice A0_2 l0_2.length c0_2] 27 (0, 0)) (by (with_reducible repeat (first | refine blk_drewN ?_ _ | refine blk_drew ?_ | refine blk_alloc ?_ _)); exact BK238.out) hb); replace BK239 := Aside0.mk (blk_below (g := gb239) (o := .cells #[.int .i64 a1_0, .int .i64 a1_1] 43 (0, 0)) (by (with_reducible repeat (first | refine blk_drewN ?_ _ | refine blk_drew ?_ | refine blk_alloc ?_ _)); exact BK239.out) hb); replace HB := Aside0.mk (below_step (TB2 GE238.out GE239.out) hb); (try clear hb); (try clear hb2); (try clear hk); (try clear hi); have hcz21_0 := czz BK239.out 0; have hcz21_1 := czz BK239.out 1; have hfz21_0 := fz BK239.out 0; have hfz21_1 := fz BK239.out 1; have hcz22_0 := czz BK238.out 0; have hcz22_1 := czz BK238.out 1; have hcz22_2 := czz BK238.out 2; have hfz22_0 := fz BK238.out 0; have hfz22_1 := fz BK238.out 1; have hfz22_2 := fz BK238.out 2) | (go_at_call 37; (with_reducible refine (saronref00_Turn.calls a1_0 (l0_2.length : Int) t242 _ A6.out).mono ?_); rintro e w' ⟨rfl, ⟨nd, rfl⟩⟩; (try first | exact ⟨rfl, _, World.drewN_drewN _ _ _⟩ | exact ⟨rfl, _, Eq.trans (World.drewN_drewN _ _ _) (congrArg (World.drewN _) (Nat.add_assoc _ _ _))⟩)) | (go_at_call 37; (with_reducible refine (saronref00_Turn.calls a1_1 (l0_2.length : Int) t243 _ A7.out).mono ?_); rintro e w' ⟨rfl, ⟨nd, rfl⟩⟩; (try first | exact ⟨rfl, _, World.drewN_drewN _ _ _⟩ | exact ⟨rfl, _, Eq.trans (World.drewN_drewN _ _ _) (congrArg (World.drewN _) (Nat.add_assoc _ _ _))⟩); have p244 : 0 ≤ (t242 : Int) := of_decide_eq_true TA; have q244 : t242 < (l0_2.length : Int) := of_decide_eq_true TA; obtain ⟨ad244, A244_1, c244_1, e244, hx244_0, hx244_1, hl244_1, hi244_1⟩ := at_T62 HR0_2.out t242 p244 q244; cases e244; replace hx244_0 := (HB.out.cell  (World.block_lt_of_cell? w _ hx244_0)).trans hx244_0; replace hx244_1 := (HB.out.cell  (World.block_lt_of_cell? w _ hx244_1)).trans hx244_1; have HR244_1 := Aside0.mk hi244_1; have HC244_1 := Aside0.mk hl244_1; clear hi244_1 hl244_1; replace p244 := eq_true p244; replace q244 := eq_true q244; have p245 : 0 ≤ (t243 : Int) := of_decide_eq_true TA; have q245 : t243 < (l0_2.length : Int) := of_decide_eq_true TA; obtain ⟨ad245, A245_1, c245_1, e245, hx245_0, hx245_1, hl245_1, hi245_1⟩ := at_T62 HR0_2.out t243 p245 q245; obtain rfl : ad244 = ad245 := (by injection e245); replace hx245_0 := (HB.out.cell  (World.block_lt_of_cell? w _ hx245_0)).trans hx245_0; replace hx245_1 := (HB.out.cell  (World.block_lt_of_cell? w _ hx245_1)).trans hx245_1; have HR245_1 := Aside0.mk hi245_1; have HC245_1 := Aside0.mk hl245_1; clear hi245_1 hl245_1; replace p245 := eq_true p245; replace q245 := eq_true q245) | (go_at_call 30; (with_reducible refine (heard_Common.calls a0_0 _ _ l0_1 _ _ l0_2 t242 t243 t246 t247 _ ?side1 ?side2 ?side3 ?side4 ?side5 A12.out).mono ?_); (case side1 => exact TD HR0_1.out (TB2 GE238.out GE239.out)); (case side2 => exact HC0_1.out); (case side3 => exact TD HR0_2.out (TB2 GE238.out GE239.out)); (case side4 => exact HC0_2.out); (case side5 => exact Glob.fr HG.out (Fr.of_below (TB2 GE238.out GE239.out))); rintro e w23 ⟨rfl, hb⟩; replace BK238 := Aside0.mk (blk_below (g := gb238) (o := .cells #[.int .i64 a0_0, .slice A0_1 l0_1.length c0_1, .slice (some ad244) l0_2.length c0_2] 27 (0, 0)) (by (with_reducible repeat (first | refine blk_drewN ?_ _ | refine blk_drew ?_ | refine blk_alloc ?_ _)); exact BK238.out) hb); replace BK239 := Aside0.mk (blk_below (g := gb239) (o := .cells #[.int .i64 a1_0, .int .i64 a1_1] 43 (0, 0)) (by (with_reducible repeat (first | refine blk_drewN ?_ _ | refine blk_drew ?_ | refine blk_alloc ?_ _)); exact BK239.out) hb); replace HB := Aside0.mk (below_step (TB2 GE238.out GE239.out) hb); (try clear hb); (try clear hb2); (try clear hk); (try clear hi); have hcz24_0 := czz BK238.out 0; have hcz24_1 := czz BK238.out 1; have hcz24_2 := czz BK238.out 2; have hfz24_0 := fz BK238.out 0; have hfz24_1 := fz BK238.out 1; have hfz24_2 := fz BK238.out 2) | (go_at_call 30; (with_reducible refine (heard_Common.calls a0_0 _ _ l0_1 _ _ l0_2 t243 t242 t248 t249 _ ?side1 ?side2 ?side3 ?side4 ?side5 A13.out).mono ?_); (case side1 => exact TC HR0_1.out); (case side2 => exact HC0_1.out); (case side3 => exact TC HR0_2.out); (case side4 => exact HC0_2.out); (case side5 => exact Glob.fr HG.out (Fr.of_below (TB2 GE238.out GE239.out))); rintro e w25 ⟨rfl, hb⟩; replace BK238 := Aside0.mk (blk_below (g := gb238) (o := .cells #[.int .i64 a0_0, .slice A0_1 l0_1.length c0_1, .slice (some ad244) l0_2.length c0_2] 27 (0, 0)) (by (with_reducible repeat (first | refine blk_drewN ?_ _ | refine blk_drew ?_ | refine blk_alloc ?_ _)); exact BK238.out) hb); replace BK239 := Aside0.mk (blk_below (g := gb239) (o := .cells #[.int .i64 a1_0, .int .i64 a1_1] 43 (0, 0)) (by (with_reducible repeat (first | refine blk_drewN ?_ _ | refine blk_drew ?_ | refine blk_alloc ?_ _)); exact BK239.out) hb); replace HB := Aside0.mk (below_step (TB2 GE238.out GE239.out) hb); (try clear hb); (try clear hb2); (try clear hk); (try clear hi); have hcz26_0 := czz BK238.out 0; have hcz26_1 := czz BK238.out 1; have hcz26_2 := czz BK238.out 2; have hfz26_0 := fz BK238.out 0; have hfz26_1 := fz BK238.out 1; have hfz26_2 := fz BK238.out 2) | (go_at_call 30; (with_reducible refine (heard_Common.calls a0_0 _ _ l0_1 _ _ l0_2 t242 t242 t250 t251 _ ?side1 ?side2 ?side3 ?side4 ?side5 A14.out).mono ?_); (case side1 => exact TC HR0_1.out); (case side2 => exact HC0_1.out); (case side3 => exact TC HR0_2.out); (case side4 => exact HC0_2.out); (case side5 => exact Glob.fr HG.out (Fr.of_below (TB2 GE238.out GE239.out))); rintro e w27 ⟨rfl, hb⟩; replace BK238 := Aside0.mk (blk_below (g := gb238) (o := .cells #[.int .i64 a0_0, .slice A0_1 l0_1.length c0_1, .slice (some ad244) l0_2.length c0_2] 27 (0, 0)) (by (with_reducible repeat (first | refine blk_drewN ?_ _ | refine blk_drew ?_ | refine blk_alloc ?_ _)); exact BK238.out) hb); replace BK239 := Aside0.mk (blk_below (g := gb239) (o := .cells #[.int .i64 a1_0, .int .i64 a1_1] 43 (0, 0)) (by (with_reducible repeat (first | refine blk_drewN ?_ _ | refine blk_drew ?_ | refine blk_alloc ?_ _)); exact BK239.out) hb); replace HB := Aside0.mk (below_step (TB2 GE238.out GE239.out) hb); (try clear hb); (try clear hb2); (try clear hk); (try clear hi))))
      (try simp only [Act.put, lA, lZ, lS])
      go_cut [109] (fun v109 wc => ∃ (kq : Nat) (x109_14 : Bool), v109 = .bool x109_14 ∧ Aside0 (saronlaw09_HeardCommon.j0 kq l2 t242 ((rd_T62 l0_2 t242).f1) x109_14 a0_0 l0_1 l0_2 = some r) ∧ Aside0 (kq ≤ k) ∧ Aside0 (wc.heap[gb238]? = some (.cells #[.int .i64 a0_0, (.slice A0_1 l0_1.length c0_1), (.slice (some ad244) l0_2.length c0_2)] 27 (0, 0))) ∧ Aside0 (wc.heap[gb239]? = some (.cells #[.int .i64 a1_0, .int .i64 a1_1] 43 (0, 0))) ∧ Aside0 (Below w.heap.size w wc))
      case first => as_aux_lemma =>
       have H := HC15.out
       clear HC15
       by_cases c28 : t247 = 0
       ·rw [if_pos c28] at H
        have c28b0 : (t247 == 0) = true := beq_iff_eq.mpr c28
        have c28b1 : (t247 != 0) = false := bne_eq_false_iff_eq.mpr c28
        clear c28
        (first | rw [c28b0] | (simp only [i64_w, i32_w]; rw [c28b0]) | skip)
        by_cases c29 : t249 = 0
        ·rw [if_pos c29] at H
         have c29b0 : (t249 == 0) = true := beq_iff_eq.mpr c29
         have c29b1 : (t249 != 0) = false := bne_eq_false_iff_eq.mpr c29
         clear c29
         by_cases c30 : t251 = 0
         ·rw [if_pos c30] at H
          have c30b0 : (t251 == 0) = true := beq_iff_eq.mpr c30
          have c30b1 : (t251 != 0) = false := bne_eq_false_iff_eq.mpr c30
          clear c30
          by_cases c31 : t246 = t248
          ·rw [if_pos c31] at H
           have c31b0 : (t246 == t248) = true := beq_iff_eq.mpr c31
           have c31b1 : (t246 != t248) = false := bne_eq_false_iff_eq.mpr c31
           clear c31
           by_cases c32 : t250 = (((rd_T62 l0_2 t242).f1).length : Int)
           ·rw [if_pos c32] at H
            have c32b0 : (t250 == (((rd_T62 l0_2 t242).f1).length : Int)) = true := beq_iff_eq.mpr c32
            have c32b1 : (t250 != (((rd_T62 l0_2 t242).f1).length : Int)) = false := bne_eq_false_iff_eq.mpr c32
            clear c32
            obtain ⟨ji33, hji33⟩ : ∃ j_ : Int, (mn (((rd_T62 l0_2 t242).f1).length : Int) (((rd_T62 l0_2 t243).f1).length : Int)) = j_ := ⟨_, rfl⟩
            replace H : ((saronref00_Sits.f t246 0 (ji33)).bind fun t252 => (if t252 = true then (if t242 = t243 then (saronlaw09_HeardCommon.j0 k l2 t242 ((rd_T62 l0_2 t242).f1) (t246 != t250) a0_0 l0_1 l0_2) else (saronlaw09_HeardCommon.j0 k l2 t242 ((rd_T62 l0_2 t242).f1) false a0_0 l0_1 l0_2)) else (saronlaw09_HeardCommon.j0 k l2 t242 ((rd_T62 l0_2 t242).f1) true a0_0 l0_1 l0_2))) = some r := by first | (rw [hji33] at H; exact H) | (simp only [hji33] at H ⊢; exact H)
            (try (have hji33l : 0 ≤ ji33 := by (rw [← hji33]; unfold mn; (repeat' split) <;> omega)))
            (try (have hji33m : 0 ≤ ji33 := by omega))
            have hji33_ : (if (((rd_T62 l0_2 t243).f1).length : Int) < (((rd_T62 l0_2 t242).f1).length : Int) then (((rd_T62 l0_2 t243).f1).length : Int) else (((rd_T62 l0_2 t242).f1).length : Int)) = ji33 := hji33
            (try (have hji33n := hji33_; simp only [Int.ofNat_lt] at hji33n))
            replace H := Option.bind_eq_some_iff.mp H
            obtain ⟨t252, A340, H⟩ := H
            replace H : (if t252 = true then (if t242 = t243 then (saronlaw09_HeardCommon.j0 k l2 t242 ((rd_T62 l0_2 t242).f1) (t246 != t250) a0_0 l0_1 l0_2) else (saronlaw09_HeardCommon.j0 k l2 t242 ((rd_T62 l0_2 t242).f1) false a0_0 l0_1 l0_2)) else (saronlaw09_HeardCommon.j0 k l2 t242 ((rd_T62 l0_2 t242).f1) true a0_0 l0_1 l0_2)) = some r := H
            have A34 := Aside0.mk A340
            clear A340
            by_cases c35 : t252 = true
            ·subst c35
             have H1 : (if t242 = t243 then (saronlaw09_HeardCommon.j0 k l2 t242 ((rd_T62 l0_2 t242).f1) (t246 != t250) a0_0 l0_1 l0_2) else (saronlaw09_HeardCommon.j0 k l2 t242 ((rd_T62 l0_2 t242).f1) false a0_0 l0_1 l0_2)) = some r := by rw [if_pos rfl] at H; exact H
             clear H
             have H := H1
             clear H1
             by_cases c36 : t242 = t243
             ·rw [if_pos c36] at H
              have c36b0 : (t242 == t243) = true := beq_iff_eq.mpr c36
              have c36b1 : (t242 != t243) = false := bne_eq_false_iff_eq.mpr c36
              clear c36
              have H' := Aside0.mk H
              clear H
              go_wp2_with (first | (go_at_call 40; (with_reducible refine (saronref00_Sits.calls t246 0 ji33 true _ A34.out).mono ?_); rintro e w' ⟨rfl, ⟨nd, rfl⟩⟩; (try first | exact ⟨rfl, _, World.drewN_drewN _ _ _⟩ | exact ⟨rfl, _, Eq.trans (World.drewN_drewN _ _ _) (congrArg (World.drewN _) (Nat.add_assoc _ _ _))⟩)))
              repeat (go_quiet (first | (go_at_call 40; (with_reducible refine (saronref00_Sits.calls t246 0 ji33 true _ A34.out).mono ?_); rintro e w' ⟨rfl, ⟨nd, rfl⟩⟩; (try first | exact ⟨rfl, _, World.drewN_drewN _ _ _⟩ | exact ⟨rfl, _, Eq.trans (World.drewN_drewN _ _ _) (congrArg (World.drewN _) (Nat.add_assoc _ _ _))⟩))); try go_wp2_with (first | (go_at_call 40; (with_reducible refine (saronref00_Sits.calls t246 0 ji33 true _ A34.out).mono ?_); rintro e w' ⟨rfl, ⟨nd, rfl⟩⟩; (try first | exact ⟨rfl, _, World.drewN_drewN _ _ _⟩ | exact ⟨rfl, _, Eq.trans (World.drewN_drewN _ _ _) (congrArg (World.drewN _) (Nat.add_assoc _ _ _))⟩))))
              go_meet
              case rel => exact ⟨_, ((t246 != t250)), TT, H', ⟨by first | omega | exact Nat.le_refl _⟩, ⟨by (with_reducible repeat (first | refine blk_drewN ?_ _ | refine blk_drew ?_ | refine blk_alloc ?_ _)); exact BK238.out⟩, ⟨by (with_reducible repeat (first | refine blk_drewN ?_ _ | refine blk_drew ?_ | refine blk_alloc ?_ _)); exact BK239.out⟩, ⟨TB2 GE238.out GE239.out⟩⟩
             ·rw [if_neg c36] at H
              have c36b0 : (t242 == t243) = false := beq_eq_false_iff_ne.mpr c36
              have c36b1 : (t242 != t243) = true := bne_iff_ne.mpr c36
              have H' := Aside0.mk H
              clear H
              go_wp2_with (first | (go_at_call 40; (with_reducible refine (saronref00_Sits.calls t246 0 ji33 true _ A34.out).mono ?_); rintro e w' ⟨rfl, ⟨nd, rfl⟩⟩; (try first | exact ⟨rfl, _, World.drewN_drewN _ _ _⟩ | exact ⟨rfl, _, Eq.trans (World.drewN_drewN _ _ _) (congrArg (World.drewN _) (Nat.add_assoc _ _ _))⟩)))
              repeat (go_quiet (first | (go_at_call 40; (with_reducible refine (saronref00_Sits.calls t246 0 ji33 true _ A34.out).mono ?_); rintro e w' ⟨rfl, ⟨nd, rfl⟩⟩; (try first | exact ⟨rfl, _, World.drewN_drewN _ _ _⟩ | exact ⟨rfl, _, Eq.trans (World.drewN_drewN _ _ _) (congrArg (World.drewN _) (Nat.add_assoc _ _ _))⟩))); try go_wp2_with (first | (go_at_call 40; (with_reducible refine (saronref00_Sits.calls t246 0 ji33 true _ A34.out).mono ?_); rintro e w' ⟨rfl, ⟨nd, rfl⟩⟩; (try first | exact ⟨rfl, _, World.drewN_drewN _ _ _⟩ | exact ⟨rfl, _, Eq.trans (World.drewN_drewN _ _ _) (congrArg (World.drewN _) (Nat.add_assoc _ _ _))⟩))))
              go_meet
              case rel => exact ⟨_, (false), TT, H', ⟨by first | omega | exact Nat.le_refl _⟩, ⟨by (with_reducible repeat (first | refine blk_drewN ?_ _ | refine blk_drew ?_ | refine blk_alloc ?_ _)); exact BK238.out⟩, ⟨by (with_reducible repeat (first | refine blk_drewN ?_ _ | refine blk_drew ?_ | refine blk_alloc ?_ _)); exact BK239.out⟩, ⟨TB2 GE238.out GE239.out⟩⟩
            ·replace c35 := Bool.eq_false_iff.mpr c35
             subst c35
             have H1 : (saronlaw09_HeardCommon.j0 k l2 t242 ((rd_T62 l0_2 t242).f1) true a0_0 l0_1 l0_2) = some r := by rw [if_neg (show ¬ (false = true) by decide)] at H; exact H
             clear H
             have H := H1
             clear H1
             have H' := Aside0.mk H
             clear H
             go_wp2_with (first | (go_at_call 40; (with_reducible refine (saronref00_Sits.calls t246 0 ji33 false _ A34.out).mono ?_); rintro e w' ⟨rfl, ⟨nd, rfl⟩⟩; (try first | exact ⟨rfl, _, World.drewN_drewN _ _ _⟩ | exact ⟨rfl, _, Eq.trans (World.drewN_drewN _ _ _) (congrArg (World.drewN _) (Nat.add_assoc _ _ _))⟩)))
             repeat (go_quiet (first | (go_at_call 40; (with_reducible refine (saronref00_Sits.calls t246 0 ji33 false _ A34.out).mono ?_); rintro e w' ⟨rfl, ⟨nd, rfl⟩⟩; (try first | exact ⟨rfl, _, World.drewN_drewN _ _ _⟩ | exact ⟨rfl, _, Eq.trans (World.drewN_drewN _ _ _) (congrArg (World.drewN _) (Nat.add_assoc _ _ _))⟩))); try go_wp2_with (first | (go_at_call 40; (with_reducible refine (saronref00_Sits.calls t246 0 ji33 false _ A34.out).mono ?_); rintro e w' ⟨rfl, ⟨nd, rfl⟩⟩; (try first | exact ⟨rfl, _, World.drewN_drewN _ _ _⟩ | exact ⟨rfl, _, Eq.trans (World.drewN_drewN _ _ _) (congrArg (World.drewN _) (Nat.add_assoc _ _ _))⟩))))
             go_meet
             case rel => exact ⟨_, (true), TT, H', ⟨by first | omega | exact Nat.le_refl _⟩, ⟨by (with_reducible repeat (first | refine blk_drewN ?_ _ | refine blk_drew ?_ | refine blk_alloc ?_ _)); exact BK238.out⟩, ⟨by (with_reducible repeat (first | refine blk_drewN ?_ _ | refine blk_drew ?_ | refine blk_alloc ?_ _)); exact BK239.out⟩, ⟨TB2 GE238.out GE239.out⟩⟩
           ·rw [if_neg c32] at H
            have c32b0 : (t250 == (((rd_T62 l0_2 t242).f1).length : Int)) = false := beq_eq_false_iff_ne.mpr c32
            have c32b1 : (t250 != (((rd_T62 l0_2 t242).f1).length : Int)) = true := bne_iff_ne.mpr c32
            have H' := Aside0.mk H
            clear H
            go_wp2
            repeat (go_quiet (fail); try go_wp2)
            go_meet
            case rel => exact ⟨_, (true), TT, H', ⟨by first | omega | exact Nat.le_refl _⟩, ⟨by (with_reducible repeat (first | refine blk_drewN ?_ _ | refine blk_drew ?_ | refine blk_alloc ?_ _)); exact BK238.out⟩, ⟨by (with_reducible repeat (first | refine blk_drewN ?_ _ | refine blk_drew ?_ | refine blk_alloc ?_ _)); exact BK239.out⟩, ⟨TB2 GE238.out GE239.out⟩⟩
          ·rw [if_neg c31] at H
           have c31b0 : (t246 == t248) = false := beq_eq_false_iff_ne.mpr c31
           have c31b1 : (t246 != t248) = true := bne_iff_ne.mpr c31
           have H' := Aside0.mk H
           clear H
           go_wp2
           repeat (go_quiet (fail); try go_wp2)
           go_meet
           case rel => exact ⟨_, (true), TT, H', ⟨by first | omega | exact Nat.le_refl _⟩, ⟨by (with_reducible repeat (first | refine blk_drewN ?_ _ | refine blk_drew ?_ | refine blk_alloc ?_ _)); exact BK238.out⟩, ⟨by (with_reducible repeat (first | refine blk_drewN ?_ _ | refine blk_drew ?_ | refine blk_alloc ?_ _)); exact BK239.out⟩, ⟨TB2 GE238.out GE239.out⟩⟩
         ·rw [if_neg c30] at H
          have c30b0 : (t251 == 0) = false := beq_eq_false_iff_ne.mpr c30
          have c30b1 : (t251 != 0) = true := bne_iff_ne.mpr c30
          have H' := Aside0.mk H
          clear H
          go_wp2
          repeat (go_quiet (fail); try go_wp2)
          go_meet
          case rel => exact ⟨_, (true), TT, H', ⟨by first | omega | exact Nat.le_refl _⟩, ⟨by (with_reducible repeat (first | refine blk_drewN ?_ _ | refine blk_drew ?_ | refine blk_alloc ?_ _)); exact BK238.out⟩, ⟨by (with_reducible repeat (first | refine blk_drewN ?_ _ | refine blk_drew ?_ | refine blk_alloc ?_ _)); exact BK239.out⟩, ⟨TB2 GE238.out GE239.out⟩⟩
        ·rw [if_neg c29] at H
         have c29b0 : (t249 == 0) = false := beq_eq_false_iff_ne.mpr c29
         have c29b1 : (t249 != 0) = true := bne_iff_ne.mpr c29
         have H' := Aside0.mk H
         clear H
         go_wp2
         repeat (go_quiet (fail); try go_wp2)
         go_meet
         case rel => exact ⟨_, (true), TT, H', ⟨by first | omega | exact Nat.le_refl _⟩, ⟨by (with_reducible repeat (first | refine blk_drewN ?_ _ | refine blk_drew ?_ | refine blk_alloc ?_ _)); exact BK238.out⟩, ⟨by (with_reducible repeat (first | refine blk_drewN ?_ _ | refine blk_drew ?_ | refine blk_alloc ?_ _)); exact BK239.out⟩, ⟨TB2 GE238.out GE239.out⟩⟩
       ·rw [if_neg c28] at H
        have c28b0 : (t247 == 0) = false := beq_eq_false_iff_ne.mpr c28
        have c28b1 : (t247 != 0) = true := bne_iff_ne.mpr c28
        (first | rw [c28b0] | (simp only [i64_w, i32_w]; rw [c28b0]) | skip)
        have H' := Aside0.mk H
        clear H
        go_wp2
        repeat (go_quiet (fail); try go_wp2)
        go_meet
        case rel => exact ⟨_, (true), TT, H', ⟨by first | omega | exact Nat.le_refl _⟩, ⟨by (with_reducible repeat (first | refine blk_drewN ?_ _ | refine blk_drew ?_ | refine blk_alloc ?_ _)); exact BK238.out⟩, ⟨by (with_reducible repeat (first | refine blk_drewN ?_ _ | refine blk_drew ?_ | refine blk_alloc ?_ _)); exact BK239.out⟩, ⟨TB2 GE238.out GE239.out⟩⟩
      case rest => as_aux_lemma =>
       clear HC15
       try clear c1
       try clear c2
       try clear p2
       try clear q2
       try clear hx2
       try clear c3
       try clear c5
       try clear c8
       try clear c8b0
       try clear c9
       try clear c9b0
       try clear c10
       try clear c10b0
       try clear c11
       try clear c11b0
       try clear c12
       try clear c18
       try clear c24
       try clear p24
       try clear q24
       try clear hx24
       try clear c28
       try clear c28b0
       try clear c28b1
       try clear c29
       try clear c29b0
       try clear c29b1
       try clear c30
       try clear c30b0
       try clear c30b1
       try clear c31
       try clear c31b0
       try clear c31b1
       try clear c32
       try clear c32b0
       try clear c32b1
       try clear c35
       try clear c36
       try clear c36b0
       try clear c36b1
       try clear hcz19_0 hcz19_1 hcz19_2
       try clear hcz21_0 hcz21_1
       try clear hcz22_0 hcz22_1 hcz22_2
       try clear hcz24_0 hcz24_1 hcz24_2
       try clear hcz26_0 hcz26_1 hcz26_2
       try clear hfz19_0 hfz19_1 hfz19_2
       try clear hfz21_0 hfz21_1
       try clear hfz22_0 hfz22_1 hfz22_2
       try clear hfz24_0 hfz24_1 hfz24_2
       try clear hfz26_0 hfz26_1 hfz26_2
       try clear hx244_0
       try clear hx244_1
       try clear hx245_0
       try clear hx245_1
       try clear p244
       try clear p245
       try clear q244
       try clear q245
       try clear BK238
       try clear BK239
       try clear HB
       obtain ⟨kq, x109_14, rfl, HA, HJ14, BK238, BK239, HB⟩ := hcut
       cases kq with
       | zero => exact absurd HA.out (by simp [saronlaw09_HeardCommon.j0])
       | succ kj14 =>
        have H := HA.out
        clear HA
        simp only [saronlaw09_HeardCommon.j0] at H
        by_cases c37 : x109_14 = true
        ·subst c37
         have H1 : (some false) = some r := by rw [if_pos rfl] at H; exact H
         clear H
         have H := H1
         clear H1
         obtain rfl := Option.some.inj H
         go_wp2
         repeat (go_quiet (fail); try go_wp2)
         go_ret
         exact ⟨TR, TB2 GE238.out GE239.out⟩
        ·replace c37 := Bool.eq_false_iff.mpr c37
         subst c37
         have H1 : ((saronlaw09_some.f kj14 ((rd_T62 l0_2 t242).f1) 6 l2).bind fun t253 => ((heard_Whole.f kj14 a0_0 l0_1 l0_2 t253 (wrap64 ((((rd_T62 l0_2 t242).f1).length : Int) - (t253.length : Int)))).bind fun bt256 => (if bt256.2 = 0 then ((saronref00_Where.f kj14 bt256.1 t242).bind fun t260 => (if t260 < 0 then (saronlaw09_HeardCommon.j1 kj14 t242 t253 (wrap64 ((((rd_T62 l0_2 t242).f1).length : Int) - (t253.length : Int))) true a0_0 l0_1 l0_2) else ((saronref00_Grows.f kj14 bt256.1 (l0_2.length : Int)).bind fun t261 => (saronlaw09_HeardCommon.j1 kj14 t242 t253 (wrap64 ((((rd_T62 l0_2 t242).f1).length : Int) - (t253.length : Int))) (!t261) a0_0 l0_1 l0_2)))) else (saronlaw09_HeardCommon.j1 kj14 t242 t253 (wrap64 ((((rd_T62 l0_2 t242).f1).length : Int) - (t253.length : Int))) true a0_0 l0_1 l0_2)))) = some r := by rw [if_neg (show ¬ (false = true) by decide)] at H; exact H
         clear H
         have H := H1
         clear H1
         replace H := Option.bind_eq_some_iff.mp H
         obtain ⟨t253, A380, H⟩ := H
         replace H : ((heard_Whole.f kj14 a0_0 l0_1 l0_2 t253 (wrap64 ((((rd_T62 l0_2 t242).f1).length : Int) - (t253.length : Int)))).bind fun bt256 => (if bt256.2 = 0 then ((saronref00_Where.f kj14 bt256.1 t242).bind fun t260 => (if t260 < 0 then (saronlaw09_HeardCommon.j1 kj14 t242 t253 (wrap64 ((((rd_T62 l0_2 t242).f1).length : Int) - (t253.length : Int))) true a0_0 l0_1 l0_2) else ((saronref00_Grows.f kj14 bt256.1 (l0_2.length : Int)).bind fun t261 => (saronlaw09_HeardCommon.j1 kj14 t242 t253 (wrap64 ((((rd_T62 l0_2 t242).f1).length : Int) - (t253.length : Int))) (!t261) a0_0 l0_1 l0_2)))) else (saronlaw09_HeardCommon.j1 kj14 t242 t253 (wrap64 ((((rd_T62 l0_2 t242).f1).length : Int) - (t253.length : Int))) true a0_0 l0_1 l0_2))) = some r := H
         have A38 := Aside0.mk A380
         clear A380
         replace H := Option.bind_eq_some_iff.mp H
         obtain ⟨⟨t256, t259⟩, A390, H⟩ := H
         replace H : (if t259 = 0 then ((saronref00_Where.f kj14 t256 t242).bind fun t260 => (if t260 < 0 then (saronlaw09_HeardCommon.j1 kj14 t242 t253 (wrap64 ((((rd_T62 l0_2 t242).f1).length : Int) - (t253.length : Int))) true a0_0 l0_1 l0_2) else ((saronref00_Grows.f kj14 t256 (l0_2.length : Int)).bind fun t261 => (saronlaw09_HeardCommon.j1 kj14 t242 t253 (wrap64 ((((rd_T62 l0_2 t242).f1).length : Int) - (t253.length : Int))) (!t261) a0_0 l0_1 l0_2)))) else (saronlaw09_HeardCommon.j1 kj14 t242 t253 (wrap64 ((((rd_T62 l0_2 t242).f1).length : Int) - (t253.length : Int))) true a0_0 l0_1 l0_2)) = some r := H
         have A39 := Aside0.mk A390
         clear A390
         have HC40 := Aside0.mk H
         clear H
         go_upto_region 13 with (first | (go_at_call 48; (with_reducible refine (saronlaw09_some.calls kj14 _ _ ((rd_T62 l0_2 t242).f1) 6 _ _ l2 t253 _ ?side1 ?side2 ?side3 ?side4 A38.out).mono ?_); (case side1 => exact TC HR244_1.out); (case side2 => exact HC244_1.out); (case side3 => exact TC HR2.out); (case side4 => exact HC2.out); rintro e w41 ⟨v254, rfl, ho0, hb⟩; have HO255 := Aside0.mk (Kd.R_lower ho0 (below_size (TB2 GE238.out GE239.out))); replace BK238 := Aside0.mk (blk_below (g := gb238) (o := .cells #[.int .i64 a0_0, .slice A0_1 l0_1.length c0_1, .slice (some ad244) l0_2.length c0_2] 27 (0, 0)) (by (with_reducible repeat (first | refine blk_drewN ?_ _ | refine blk_drew ?_ | refine blk_alloc ?_ _)); exact BK238.out) hb); replace BK239 := Aside0.mk (blk_below (g := gb239) (o := .cells #[.int .i64 a1_0, .int .i64 a1_1] 43 (0, 0)) (by (with_reducible repeat (first | refine blk_drewN ?_ _ | refine blk_drew ?_ | refine blk_alloc ?_ _)); exact BK239.out) hb); replace HB := Aside0.mk (below_step (TB2 GE238.out GE239.out) hb); (try clear hb); (try clear hb2); (try clear hk); (try clear hi); (try clear ho0); obtain ⟨Ao42, co42, eo42⟩ := Kd.R_slice HO255.out; subst eo42; have hnb43 := NB238_239.out; have hnc43 := NB239_238.out; have hcz44_0 := czz BK238.out 0; have hcz44_1 := czz BK238.out 1; have hcz44_2 := czz BK238.out 2; have hfz44_0 := fz BK238.out 0; have hfz44_1 := fz BK238.out 1; have hfz44_2 := fz BK238.out 2) | (go_at_call 32; (with_reducible refine (heard_Whole.calls kj14 a0_0 _ _ l0_1 _ _ l0_2 _ _ t253 (wrap64 ((((rd_T62 l0_2 t242).f1).length : Int) - (t253.length : Int))) t256 t259 _ ?side1 ?side2 ?side3 ?side4 ?side5 ?side6 ?side7 A39.out).mono ?_); (case side1 => exact TC HR0_1.out); (case side2 => exact HC0_1.out); (case side3 => exact TC HR0_2.out); (case side4 => exact HC0_2.out); (case side5 => repeat (first | exact (Kd.R_reads' HO255.out).2.2 | (with_reducible refine Kd.C_alloc ?_ _) | (with_reducible refine Kd.C_drewN ?_ _) | (with_reducible refine Kd.C_drew ?_))); (case side6 => exact (Kd.R_reads' HO255.out).2.1); (case side7 => exact Glob.fr HG.out (Fr.of_below (TB2 GE238.out GE239.out))); rintro e w45 ⟨v257, rfl, ho0, hb⟩; have HO258 := Aside0.mk (Kd.V_lower (Kd.V_mono (ok' := fun k_ => some k_ ≠ (.slice Ao42 t253.length co42 : Value).ownBlock ∧ k_ ≠ gb238 ∧ k_ ≠ gb239) ho0 (fun k_ hk_ => ⟨(Kd.fresh' (Kd.R_lt (TRo HO255.out)) k_ hk_), (Kd.freshB (g := gb238) (o := .cells #[.int .i64 a0_0, .slice A0_1 l0_1.length c0_1, .slice (some ad244) l0_2.length c0_2] 27 (0, 0)) (by (with_reducible repeat (first | refine blk_drewN ?_ _ | refine blk_drew ?_ | refine blk_alloc ?_ _)); exact BK238.out) k_ hk_), (Kd.freshB (g := gb239) (o := .cells #[.int .i64 a1_0, .int .i64 a1_1] 43 (0, 0)) (by (with_reducible repeat (first | refine blk_drewN ?_ _ | refine blk_drew ?_ | refine blk_alloc ?_ _)); exact BK239.out) k_ hk_)⟩)) (below_size (TB2 GE238.out GE239.out))); replace HO255 := Aside0.mk (Kd.R_below (TRo HO255.out) hb); replace BK238 := Aside0.mk (blk_below (g := gb238) (o := .cells #[.int .i64 a0_0, .slice A0_1 l0_1.length c0_1, .slice (some ad244) l0_2.length c0_2] 27 (0, 0)) (by (with_reducible repeat (first | refine blk_drewN ?_ _ | refine blk_drew ?_ | refine blk_alloc ?_ _)); exact BK238.out) hb); replace BK239 := Aside0.mk (blk_below (g := gb239) (o := .cells #[.int .i64 a1_0, .int .i64 a1_1] 43 (0, 0)) (by (with_reducible repeat (first | refine blk_drewN ?_ _ | refine blk_drew ?_ | refine blk_alloc ?_ _)); exact BK239.out) hb); replace HB := Aside0.mk (below_step (TB2 GE238.out GE239.out) hb); (try clear hb); (try clear hb2); (try clear hk); (try clear hi); (try clear ho0)))
         repeat (go_quiet (first | (go_at_call 48; (with_reducible refine (saronlaw09_some.calls kj14 _ _ ((rd_T62 l0_2 t242).f1) 6 _ _ l2 t253 _ ?side1 ?side2 ?side3 ?side4 A38.out).mono ?_); (case side1 => exact TC HR244_1.out); (case side2 => exact HC244_1.out); (case side3 => exact TC HR2.out); (case side4 => exact HC2.out); rintro e w41 ⟨v254, rfl, ho0, hb⟩; have HO255 := Aside0.mk (Kd.R_lower ho0 (below_size (TB2 GE238.out GE239.out))); replace BK238 := Aside0.mk (blk_below (g := gb238) (o := .cells #[.int .i64 a0_0, .slice A0_1 l0_1.length c0_1, .slice (some ad244) l0_2.length c0_2] 27 (0, 0)) (by (with_reducible repeat (first | refine blk_drewN ?_ _ | refine blk_drew ?_ | refine blk_alloc ?_ _)); exact BK238.out) hb); replace BK239 := Aside0.mk (blk_below (g := gb239) (o := .cells #[.int .i64 a1_0, .int .i64 a1_1] 43 (0, 0)) (by (with_reducible repeat (first | refine blk_drewN ?_ _ | refine blk_drew ?_ | refine blk_alloc ?_ _)); exact BK239.out) hb); replace HB := Aside0.mk (below_step (TB2 GE238.out GE239.out) hb); (try clear hb); (try clear hb2); (try clear hk); (try clear hi); (try clear ho0); obtain ⟨Ao42, co42, eo42⟩ := Kd.R_slice HO255.out; subst eo42; have hnb43 := NB238_239.out; have hnc43 := NB239_238.out; have hcz44_0 := czz BK238.out 0; have hcz44_1 := czz BK238.out 1; have hcz44_2 := czz BK238.out 2; have hfz44_0 := fz BK238.out 0; have hfz44_1 := fz BK238.out 1; have hfz44_2 := fz BK238.out 2) | (go_at_call 32; (with_reducible refine (heard_Whole.calls kj14 a0_0 _ _ l0_1 _ _ l0_2 _ _ t253 (wrap64 ((((rd_T62 l0_2 t242).f1).length : Int) - (t253.length : Int))) t256 t259 _ ?side1 ?side2 ?side3 ?side4 ?side5 ?side6 ?side7 A39.out).mono ?_); (case side1 => exact TC HR0_1.out); (case side2 => exact HC0_1.out); (case side3 => exact TC HR0_2.out); (case side4 => exact HC0_2.out); (case side5 => repeat (first | exact (Kd.R_reads' HO255.out).2.2 | (with_reducible refine Kd.C_alloc ?_ _) | (with_reducible refine Kd.C_drewN ?_ _) | (with_reducible refine Kd.C_drew ?_))); (case side6 => exact (Kd.R_reads' HO255.out).2.1); (case side7 => exact Glob.fr HG.out (Fr.of_below (TB2 GE238.out GE239.out))); rintro e w45 ⟨v257, rfl, ho0, hb⟩; have HO258 := Aside0.mk (Kd.V_lower (Kd.V_mono (ok' := fun k_ => some k_ ≠ (.slice Ao42 t253.length co42 : Value).ownBlock ∧ k_ ≠ gb238 ∧ k_ ≠ gb239) ho0 (fun k_ hk_ => ⟨(Kd.fresh' (Kd.R_lt (TRo HO255.out)) k_ hk_), (Kd.freshB (g := gb238) (o := .cells #[.int .i64 a0_0, .slice A0_1 l0_1.length c0_1, .slice (some ad244) l0_2.length c0_2] 27 (0, 0)) (by (with_reducible repeat (first | refine blk_drewN ?_ _ | refine blk_drew ?_ | refine blk_alloc ?_ _)); exact BK238.out) k_ hk_), (Kd.freshB (g := gb239) (o := .cells #[.int .i64 a1_0, .int .i64 a1_1] 43 (0, 0)) (by (with_reducible repeat (first | refine blk_drewN ?_ _ | refine blk_drew ?_ | refine blk_alloc ?_ _)); exact BK239.out) k_ hk_)⟩)) (below_size (TB2 GE238.out GE239.out))); replace HO255 := Aside0.mk (Kd.R_below (TRo HO255.out) hb); replace BK238 := Aside0.mk (blk_below (g := gb238) (o := .cells #[.int .i64 a0_0, .slice A0_1 l0_1.length c0_1, .slice (some ad244) l0_2.length c0_2] 27 (0, 0)) (by (with_reducible repeat (first | refine blk_drewN ?_ _ | refine blk_drew ?_ | refine blk_alloc ?_ _)); exact BK238.out) hb); replace BK239 := Aside0.mk (blk_below (g := gb239) (o := .cells #[.int .i64 a1_0, .int .i64 a1_1] 43 (0, 0)) (by (with_reducible repeat (first | refine blk_drewN ?_ _ | refine blk_drew ?_ | refine blk_alloc ?_ _)); exact BK239.out) hb); replace HB := Aside0.mk (below_step (TB2 GE238.out GE239.out) hb); (try clear hb); (try clear hb2); (try clear hk); (try clear hi); (try clear ho0))); go_upto_region 13 with (first | (go_at_call 48; (with_reducible refine (saronlaw09_some.calls kj14 _ _ ((rd_T62 l0_2 t242).f1) 6 _ _ l2 t253 _ ?side1 ?side2 ?side3 ?side4 A38.out).mono ?_); (case side1 => exact TC HR244_1.out); (case side2 => exact HC244_1.out); (case side3 => exact TC HR2.out); (case side4 => exact HC2.out); rintro e w41 ⟨v254, rfl, ho0, hb⟩; have HO255 := Aside0.mk (Kd.R_lower ho0 (below_size (TB2 GE238.out GE239.out))); replace BK238 := Aside0.mk (blk_below (g := gb238) (o := .cells #[.int .i64 a0_0, .slice A0_1 l0_1.length c0_1, .slice (some ad244) l0_2.length c0_2] 27 (0, 0)) (by (with_reducible repeat (first | refine blk_drewN ?_ _ | refine blk_drew ?_ | refine blk_alloc ?_ _)); exact BK238.out) hb); replace BK239 := Aside0.mk (blk_below (g := gb239) (o := .cells #[.int .i64 a1_0, .int .i64 a1_1] 43 (0, 0)) (by (with_reducible repeat (first | refine blk_drewN ?_ _ | refine blk_drew ?_ | refine blk_alloc ?_ _)); exact BK239.out) hb); replace HB := Aside0.mk (below_step (TB2 GE238.out GE239.out) hb); (try clear hb); (try clear hb2); (try clear hk); (try clear hi); (try clear ho0); obtain ⟨Ao42, co42, eo42⟩ := Kd.R_slice HO255.out; subst eo42; have hnb43 := NB238_239.out; have hnc43 := NB239_238.out; have hcz44_0 := czz BK238.out 0; have hcz44_1 := czz BK238.out 1; have hcz44_2 := czz BK238.out 2; have hfz44_0 := fz BK238.out 0; have hfz44_1 := fz BK238.out 1; have hfz44_2 := fz BK238.out 2) | (go_at_call 32; (with_reducible refine (heard_Whole.calls kj14 a0_0 _ _ l0_1 _ _ l0_2 _ _ t253 (wrap64 ((((rd_T62 l0_2 t242).f1).length : Int) - (t253.length : Int))) t256 t259 _ ?side1 ?side2 ?side3 ?side4 ?side5 ?side6 ?side7 A39.out).mono ?_); (case side1 => exact TC HR0_1.out); (case side2 => exact HC0_1.out); (case side3 => exact TC HR0_2.out); (case side4 => exact HC0_2.out); (case side5 => repeat (first | exact (Kd.R_reads' HO255.out).2.2 | (with_reducible refine Kd.C_alloc ?_ _) | (with_reducible refine Kd.C_drewN ?_ _) | (with_reducible refine Kd.C_drew ?_))); (case side6 => exact (Kd.R_reads' HO255.out).2.1); (case side7 => exact Glob.fr HG.out (Fr.of_below (TB2 GE238.out GE239.out))); rintro e w45 ⟨v257, rfl, ho0, hb⟩; have HO258 := Aside0.mk (Kd.V_lower (Kd.V_mono (ok' := fun k_ => some k_ ≠ (.slice Ao42 t253.length co42 : Value).ownBlock ∧ k_ ≠ gb238 ∧ k_ ≠ gb239) ho0 (fun k_ hk_ => ⟨(Kd.fresh' (Kd.R_lt (TRo HO255.out)) k_ hk_), (Kd.freshB (g := gb238) (o := .cells #[.int .i64 a0_0, .slice A0_1 l0_1.length c0_1, .slice (some ad244) l0_2.length c0_2] 27 (0, 0)) (by (with_reducible repeat (first | refine blk_drewN ?_ _ | refine blk_drew ?_ | refine blk_alloc ?_ _)); exact BK238.out) k_ hk_), (Kd.freshB (g := gb239) (o := .cells #[.int .i64 a1_0, .int .i64 a1_1] 43 (0, 0)) (by (with_reducible repeat (first | refine blk_drewN ?_ _ | refine blk_drew ?_ | refine blk_alloc ?_ _)); exact BK239.out) k_ hk_)⟩)) (below_size (TB2 GE238.out GE239.out))); replace HO255 := Aside0.mk (Kd.R_below (TRo HO255.out) hb); replace BK238 := Aside0.mk (blk_below (g := gb238) (o := .cells #[.int .i64 a0_0, .slice A0_1 l0_1.length c0_1, .slice (some ad244) l0_2.length c0_2] 27 (0, 0)) (by (with_reducible repeat (first | refine blk_drewN ?_ _ | refine blk_drew ?_ | refine blk_alloc ?_ _)); exact BK238.out) hb); replace BK239 := Aside0.mk (blk_below (g := gb239) (o := .cells #[.int .i64 a1_0, .int .i64 a1_1] 43 (0, 0)) (by (with_reducible repeat (first | refine blk_drewN ?_ _ | refine blk_drew ?_ | refine blk_alloc ?_ _)); exact BK239.out) hb); replace HB := Aside0.mk (below_step (TB2 GE238.out GE239.out) hb); (try clear hb); (try clear hb2); (try clear hk); (try clear hi); (try clear ho0))))
         (try simp only [Act.put, lA, lZ, lS])
         go_cut [140] (fun v140 wc => ∃ (kq : Nat) (x140_39 : Bool), v140 = .bool x140_39 ∧ Aside0 (saronlaw09_HeardCommon.j1 kq t242 t253 (wrap64 ((((rd_T62 l0_2 t242).f1).length : Int) - (t253.length : Int))) x140_39 a0_0 l0_1 l0_2 = some r) ∧ Aside0 (kq ≤ kj14) ∧ Aside0 (Kd.R (Kd.int .i64) 3 wc w.heap.size (fun _ => True) (.slice Ao42 t253.length co42) t253) ∧ Aside0 (wc.heap[gb238]? = some (.cells #[.int .i64 a0_0, (.slice A0_1 l0_1.length c0_1), (.slice (some ad244) l0_2.length c0_2)] 27 (0, 0))) ∧ Aside0 (wc.heap[gb239]? = some (.cells #[.int .i64 a1_0, .int .i64 a1_1] 43 (0, 0))) ∧ Aside0 (Below w.heap.size w wc))
         case first => as_aux_lemma =>
          have H := HC40.out
          clear HC40
          by_cases c46 : t259 = 0
          ·rw [if_pos c46] at H
           have c46b0 : (t259 == 0) = true := beq_iff_eq.mpr c46
           have c46b1 : (t259 != 0) = false := bne_eq_false_iff_eq.mpr c46
           clear c46
           (first | rw [c46b0] | (simp only [i64_w, i32_w]; rw [c46b0]) | skip)
           replace H := Option.bind_eq_some_iff.mp H
           obtain ⟨t260, A470, H⟩ := H
           replace H : (if t260 < 0 then (saronlaw09_HeardCommon.j1 kj14 t242 t253 (wrap64 ((((rd_T62 l0_2 t242).f1).length : Int) - (t253.length : Int))) true a0_0 l0_1 l0_2) else ((saronref00_Grows.f kj14 t256 (l0_2.length : Int)).bind fun t261 => (saronlaw09_HeardCommon.j1 kj14 t242 t253 (wrap64 ((((rd_T62 l0_2 t242).f1).length : Int) - (t253.length : Int))) (!t261) a0_0 l0_1 l0_2))) = some r := H
           have A47 := Aside0.mk A470
           clear A470
           by_cases c48 : t260 < 0
           ·rw [if_pos c48] at H
            have c48b0 : decide (t260 < 0) = true := decide_eq_true c48
            clear c48
            have H' := Aside0.mk H
            clear H
            obtain ⟨Ao49, co49, eo49⟩ := Kd.V_slice HO258.out
            subst eo49
            go_wp2_with (first | (go_at_call 39; (with_reducible refine (saronref00_Where.calls kj14 _ _ t256 t242 t260 _ ?side1 ?side2 A47.out).mono ?_); (case side1 => repeat (first | exact (Kd.V_reads' HO258.out).2.2 | (with_reducible refine Kd.C_alloc ?_ _) | (with_reducible refine Kd.C_drewN ?_ _) | (with_reducible refine Kd.C_drew ?_))); (case side2 => exact (Kd.V_reads' HO258.out).2.1); rintro e w' ⟨rfl, ⟨nd, rfl⟩⟩; (try first | exact ⟨rfl, _, World.drewN_drewN _ _ _⟩ | exact ⟨rfl, _, Eq.trans (World.drewN_drewN _ _ _) (congrArg (World.drewN _) (Nat.add_assoc _ _ _))⟩)))
            repeat (go_quiet (first | (go_at_call 39; (with_reducible refine (saronref00_Where.calls kj14 _ _ t256 t242 t260 _ ?side1 ?side2 A47.out).mono ?_); (case side1 => repeat (first | exact (Kd.V_reads' HO258.out).2.2 | (with_reducible refine Kd.C_alloc ?_ _) | (with_reducible refine Kd.C_drewN ?_ _) | (with_reducible refine Kd.C_drew ?_))); (case side2 => exact (Kd.V_reads' HO258.out).2.1); rintro e w' ⟨rfl, ⟨nd, rfl⟩⟩; (try first | exact ⟨rfl, _, World.drewN_drewN _ _ _⟩ | exact ⟨rfl, _, Eq.trans (World.drewN_drewN _ _ _) (congrArg (World.drewN _) (Nat.add_assoc _ _ _))⟩))); try go_wp2_with (first | (go_at_call 39; (with_reducible refine (saronref00_Where.calls kj14 _ _ t256 t242 t260 _ ?side1 ?side2 A47.out).mono ?_); (case side1 => repeat (first | exact (Kd.V_reads' HO258.out).2.2 | (with_reducible refine Kd.C_alloc ?_ _) | (with_reducible refine Kd.C_drewN ?_ _) | (with_reducible refine Kd.C_drew ?_))); (case side2 => exact (Kd.V_reads' HO258.out).2.1); rintro e w' ⟨rfl, ⟨nd, rfl⟩⟩; (try first | exact ⟨rfl, _, World.drewN_drewN _ _ _⟩ | exact ⟨rfl, _, Eq.trans (World.drewN_drewN _ _ _) (congrArg (World.drewN _) (Nat.add_assoc _ _ _))⟩))))
            go_meet
            case rel => exact ⟨_, (true), TT, H', ⟨by have := HJ14.out; first | omega | exact Nat.le_refl _⟩, ⟨by (with_reducible repeat (first | apply Kd.R_alloc | apply Kd.R_drewN | apply Kd.R_drew)); exact HO255.out⟩, ⟨by (with_reducible repeat (first | refine blk_drewN ?_ _ | refine blk_drew ?_ | refine blk_alloc ?_ _)); exact BK238.out⟩, ⟨by (with_reducible repeat (first | refine blk_drewN ?_ _ | refine blk_drew ?_ | refine blk_alloc ?_ _)); exact BK239.out⟩, ⟨TB2 GE238.out GE239.out⟩⟩
           ·rw [if_neg c48] at H
            have c48b0 : decide (t260 < 0) = false := decide_eq_false c48
            clear c48
            replace H := Option.bind_eq_some_iff.mp H
            obtain ⟨t261, A500, H⟩ := H
            replace H : (saronlaw09_HeardCommon.j1 kj14 t242 t253 (wrap64 ((((rd_T62 l0_2 t242).f1).length : Int) - (t253.length : Int))) (!t261) a0_0 l0_1 l0_2) = some r := H
            have A50 := Aside0.mk A500
            clear A500
            have H' := Aside0.mk H
            clear H
            obtain ⟨Ao51, co51, eo51⟩ := Kd.V_slice HO258.out
            subst eo51
            go_wp2_with (first | (go_at_call 39; (with_reducible refine (saronref00_Where.calls kj14 _ _ t256 t242 t260 _ ?side1 ?side2 A47.out).mono ?_); (case side1 => repeat (first | exact (Kd.V_reads' HO258.out).2.2 | (with_reducible refine Kd.C_alloc ?_ _) | (with_reducible refine Kd.C_drewN ?_ _) | (with_reducible refine Kd.C_drew ?_))); (case side2 => exact (Kd.V_reads' HO258.out).2.1); rintro e w' ⟨rfl, ⟨nd, rfl⟩⟩; (try first | exact ⟨rfl, _, World.drewN_drewN _ _ _⟩ | exact ⟨rfl, _, Eq.trans (World.drewN_drewN _ _ _) (congrArg (World.drewN _) (Nat.add_assoc _ _ _))⟩); have hnb52 := NB238_239.out; have hnc52 := NB239_238.out; have hcz53_0 := czz BK238.out 0; have hcz53_1 := czz BK238.out 1; have hcz53_2 := czz BK238.out 2; have hfz53_0 := fz BK238.out 0; have hfz53_1 := fz BK238.out 1; have hfz53_2 := fz BK238.out 2) | (go_at_call 42; (with_reducible refine (saronref00_Grows.calls kj14 _ _ t256 (l0_2.length : Int) t261 _ ?side1 ?side2 A50.out).mono ?_); (case side1 => repeat (first | exact (Kd.V_reads' HO258.out).2.2 | (with_reducible refine Kd.C_alloc ?_ _) | (with_reducible refine Kd.C_drewN ?_ _) | (with_reducible refine Kd.C_drew ?_))); (case side2 => exact (Kd.V_reads' HO258.out).2.1); rintro e w' ⟨rfl, ⟨nd, rfl⟩⟩; (try first | exact ⟨rfl, _, World.drewN_drewN _ _ _⟩ | exact ⟨rfl, _, Eq.trans (World.drewN_drewN _ _ _) (congrArg (World.drewN _) (Nat.add_assoc _ _ _))⟩)))
            repeat (go_quiet (first | (go_at_call 39; (with_reducible refine (saronref00_Where.calls kj14 _ _ t256 t242 t260 _ ?side1 ?side2 A47.out).mono ?_); (case side1 => repeat (first | exact (Kd.V_reads' HO258.out).2.2 | (with_reducible refine Kd.C_alloc ?_ _) | (with_reducible refine Kd.C_drewN ?_ _) | (with_reducible refine Kd.C_drew ?_))); (case side2 => exact (Kd.V_reads' HO258.out).2.1); rintro e w' ⟨rfl, ⟨nd, rfl⟩⟩; (try first | exact ⟨rfl, _, World.drewN_drewN _ _ _⟩ | exact ⟨rfl, _, Eq.trans (World.drewN_drewN _ _ _) (congrArg (World.drewN _) (Nat.add_assoc _ _ _))⟩); have hnb52 := NB238_239.out; have hnc52 := NB239_238.out; have hcz53_0 := czz BK238.out 0; have hcz53_1 := czz BK238.out 1; have hcz53_2 := czz BK238.out 2; have hfz53_0 := fz BK238.out 0; have hfz53_1 := fz BK238.out 1; have hfz53_2 := fz BK238.out 2) | (go_at_call 42; (with_reducible refine (saronref00_Grows.calls kj14 _ _ t256 (l0_2.length : Int) t261 _ ?side1 ?side2 A50.out).mono ?_); (case side1 => repeat (first | exact (Kd.V_reads' HO258.out).2.2 | (with_reducible refine Kd.C_alloc ?_ _) | (with_reducible refine Kd.C_drewN ?_ _) | (with_reducible refine Kd.C_drew ?_))); (case side2 => exact (Kd.V_reads' HO258.out).2.1); rintro e w' ⟨rfl, ⟨nd, rfl⟩⟩; (try first | exact ⟨rfl, _, World.drewN_drewN _ _ _⟩ | exact ⟨rfl, _, Eq.trans (World.drewN_drewN _ _ _) (congrArg (World.drewN _) (Nat.add_assoc _ _ _))⟩))); try go_wp2_with (first | (go_at_call 39; (with_reducible refine (saronref00_Where.calls kj14 _ _ t256 t242 t260 _ ?side1 ?side2 A47.out).mono ?_); (case side1 => repeat (first | exact (Kd.V_reads' HO258.out).2.2 | (with_reducible refine Kd.C_alloc ?_ _) | (with_reducible refine Kd.C_drewN ?_ _) | (with_reducible refine Kd.C_drew ?_))); (case side2 => exact (Kd.V_reads' HO258.out).2.1); rintro e w' ⟨rfl, ⟨nd, rfl⟩⟩; (try first | exact ⟨rfl, _, World.drewN_drewN _ _ _⟩ | exact ⟨rfl, _, Eq.trans (World.drewN_drewN _ _ _) (congrArg (World.drewN _) (Nat.add_assoc _ _ _))⟩); have hnb52 := NB238_239.out; have hnc52 := NB239_238.out; have hcz53_0 := czz BK238.out 0; have hcz53_1 := czz BK238.out 1; have hcz53_2 := czz BK238.out 2; have hfz53_0 := fz BK238.out 0; have hfz53_1 := fz BK238.out 1; have hfz53_2 := fz BK238.out 2) | (go_at_call 42; (with_reducible refine (saronref00_Grows.calls kj14 _ _ t256 (l0_2.length : Int) t261 _ ?side1 ?side2 A50.out).mono ?_); (case side1 => repeat (first | exact (Kd.V_reads' HO258.out).2.2 | (with_reducible refine Kd.C_alloc ?_ _) | (with_reducible refine Kd.C_drewN ?_ _) | (with_reducible refine Kd.C_drew ?_))); (case side2 => exact (Kd.V_reads' HO258.out).2.1); rintro e w' ⟨rfl, ⟨nd, rfl⟩⟩; (try first | exact ⟨rfl, _, World.drewN_drewN _ _ _⟩ | exact ⟨rfl, _, Eq.trans (World.drewN_drewN _ _ _) (congrArg (World.drewN _) (Nat.add_assoc _ _ _))⟩))))
            go_meet
            case rel => exact ⟨_, (!t261), TT, H', ⟨by have := HJ14.out; first | omega | exact Nat.le_refl _⟩, ⟨by (with_reducible repeat (first | apply Kd.R_alloc | apply Kd.R_drewN | apply Kd.R_drew)); exact HO255.out⟩, ⟨by (with_reducible repeat (first | refine blk_drewN ?_ _ | refine blk_drew ?_ | refine blk_alloc ?_ _)); exact BK238.out⟩, ⟨by (with_reducible repeat (first | refine blk_drewN ?_ _ | refine blk_drew ?_ | refine blk_alloc ?_ _)); exact BK239.out⟩, ⟨TB2 GE238.out GE239.out⟩⟩
          ·rw [if_neg c46] at H
           have c46b0 : (t259 == 0) = false := beq_eq_false_iff_ne.mpr c46
           have c46b1 : (t259 != 0) = true := bne_iff_ne.mpr c46
           (first | rw [c46b0] | (simp only [i64_w, i32_w]; rw [c46b0]) | skip)
           have H' := Aside0.mk H
           clear H
           go_wp2
           repeat (go_quiet (fail); try go_wp2)
           go_meet
           case rel => exact ⟨_, (true), TT, H', ⟨by have := HJ14.out; first | omega | exact Nat.le_refl _⟩, ⟨by (with_reducible repeat (first | apply Kd.R_alloc | apply Kd.R_drewN | apply Kd.R_drew)); exact HO255.out⟩, ⟨by (with_reducible repeat (first | refine blk_drewN ?_ _ | refine blk_drew ?_ | refine blk_alloc ?_ _)); exact BK238.out⟩, ⟨by (with_reducible repeat (first | refine blk_drewN ?_ _ | refine blk_drew ?_ | refine blk_alloc ?_ _)); exact BK239.out⟩, ⟨TB2 GE238.out GE239.out⟩⟩
         case rest => as_aux_lemma =>
          clear HC40
          try clear c1
          try clear c2
          try clear p2
          try clear q2
          try clear hx2
          try clear c3
          try clear c4
          try clear c5
          try clear p6
          try clear c8
          try clear c8b0
          try clear c9
          try clear c9b0
          try clear c10
          try clear c10b0
          try clear c11
          try clear c11b0
          try clear c12
          try clear c18
          try clear c24
          try clear p24
          try clear q24
          try clear hx24
          try clear c28
          try clear c28b0
          try clear c28b1
          try clear c29
          try clear c29b0
          try clear c29b1
          try clear c30
          try clear c30b0
          try clear c30b1
          try clear c31
          try clear c31b0
          try clear c31b1
          try clear c32
          try clear c32b0
          try clear c32b1
          try clear c35
          try clear c36
          try clear c36b0
          try clear c36b1
          try clear c37
          try clear c43
          try clear c46
          try clear c46b0
          try clear c46b1
          try clear c48
          try clear c48b0
          try clear c52
          try clear hcz19_0 hcz19_1 hcz19_2
          try clear hcz21_0 hcz21_1
          try clear hcz22_0 hcz22_1 hcz22_2
          try clear hcz24_0 hcz24_1 hcz24_2
          try clear hcz26_0 hcz26_1 hcz26_2
          try clear hcz44_0 hcz44_1 hcz44_2
          try clear hcz53_0 hcz53_1 hcz53_2
          try clear hfz19_0 hfz19_1 hfz19_2
          try clear hfz21_0 hfz21_1
          try clear hfz22_0 hfz22_1 hfz22_2
          try clear hfz24_0 hfz24_1 hfz24_2
          try clear hfz26_0 hfz26_1 hfz26_2
          try clear hfz44_0 hfz44_1 hfz44_2
          try clear hfz53_0 hfz53_1 hfz53_2
          try clear hx244_0
          try clear hx244_1
          try clear hx245_0
          try clear hx245_1
          try clear p2
          try clear p24
          try clear p244
          try clear p245
          try clear q2
          try clear q24
          try clear q244
          try clear q245
          try clear HO_17
          try clear BK238
          try clear BK239
          try clear HB
          obtain ⟨kq, x140_39, rfl, HA, HJ39, HO_17, BK238, BK239, HB⟩ := hcut
          cases kq with
          | zero => exact absurd HA.out (by simp [saronlaw09_HeardCommon.j1])
          | succ kj39 =>
           have H := HA.out
           clear HA
           simp only [saronlaw09_HeardCommon.j1] at H
           by_cases c54 : x140_39 = true
           ·subst c54
            have H1 : (some false) = some r := by rw [if_pos rfl] at H; exact H
            clear H
            have H := H1
            clear H1
            obtain rfl := Option.some.inj H
            go_wp2
            repeat (go_quiet (fail); try go_wp2)
            go_ret
            exact ⟨TR, TB2 GE238.out GE239.out⟩
           ·replace c54 := Bool.eq_false_iff.mpr c54
            subst c54
            have H1 : (if (wrap64 ((((rd_T62 l0_2 t242).f1).length : Int) - (t253.length : Int))) = 0 then ((saronlaw09_listened.f).bind fun t262 => (some t262)) else ((heard_Whole.f kj39 a0_0 l0_1 l0_2 t253 (wrap64 ((wrap64 ((((rd_T62 l0_2 t242).f1).length : Int) - (t253.length : Int))) - 1))).bind fun bt263 => (if bt263.2 = 0 then ((saronref00_Where.f kj39 bt263.1 t242).bind fun t267 => (if t267 < 0 then ((saronlaw09_listened.f).bind fun t268 => (some t268)) else (some false))) else (some false)))) = some r := by rw [if_neg (show ¬ (false = true) by decide)] at H; exact H
            clear H
            have H := H1
            clear H1
            by_cases c55 : (wrap64 ((((rd_T62 l0_2 t242).f1).length : Int) - (t253.length : Int))) = 0
            ·rw [if_pos c55] at H
             have c55b0 : ((wrap64 ((((rd_T62 l0_2 t242).f1).length : Int) - (t253.length : Int))) == 0) = true := beq_iff_eq.mpr c55
             have c55b1 : ((wrap64 ((((rd_T62 l0_2 t242).f1).length : Int) - (t253.length : Int))) != 0) = false := bne_eq_false_iff_eq.mpr c55
             clear c55
             replace H := Option.bind_eq_some_iff.mp H
             obtain ⟨t262, A560, H⟩ := H
             replace H : (some t262) = some r := H
             have A56 := Aside0.mk A560
             clear A560
             obtain rfl := Option.some.inj H
             go_wp2_with (first | (go_at_call 25; (with_reducible refine (saronlaw09_listened.calls  t262 _ ?side1 A56.out).mono ?_); (case side1 => exact Glob.fr HG.out (Fr.of_below (TB2 GE238.out GE239.out))); rintro e w57 ⟨rfl, hb⟩; replace HO_17 := Aside0.mk (Kd.R_below (TRo HO_17.out) hb); replace BK238 := Aside0.mk (blk_below (g := gb238) (o := .cells #[.int .i64 a0_0, .slice A0_1 l0_1.length c0_1, .slice (some ad244) l0_2.length c0_2] 27 (0, 0)) (by (with_reducible repeat (first | refine blk_drewN ?_ _ | refine blk_drew ?_ | refine blk_alloc ?_ _)); exact BK238.out) hb); replace BK239 := Aside0.mk (blk_below (g := gb239) (o := .cells #[.int .i64 a1_0, .int .i64 a1_1] 43 (0, 0)) (by (with_reducible repeat (first | refine blk_drewN ?_ _ | refine blk_drew ?_ | refine blk_alloc ?_ _)); exact BK239.out) hb); replace HB := Aside0.mk (below_step (TB2 GE238.out GE239.out) hb); (try clear hb); (try clear hb2); (try clear hk); (try clear hi)))
             repeat (go_quiet (first | (go_at_call 25; (with_reducible refine (saronlaw09_listened.calls  t262 _ ?side1 A56.out).mono ?_); (case side1 => exact Glob.fr HG.out (Fr.of_below (TB2 GE238.out GE239.out))); rintro e w57 ⟨rfl, hb⟩; replace HO_17 := Aside0.mk (Kd.R_below (TRo HO_17.out) hb); replace BK238 := Aside0.mk (blk_below (g := gb238) (o := .cells #[.int .i64 a0_0, .slice A0_1 l0_1.length c0_1, .slice (some ad244) l0_2.length c0_2] 27 (0, 0)) (by (with_reducible repeat (first | refine blk_drewN ?_ _ | refine blk_drew ?_ | refine blk_alloc ?_ _)); exact BK238.out) hb); replace BK239 := Aside0.mk (blk_below (g := gb239) (o := .cells #[.int .i64 a1_0, .int .i64 a1_1] 43 (0, 0)) (by (with_reducible repeat (first | refine blk_drewN ?_ _ | refine blk_drew ?_ | refine blk_alloc ?_ _)); exact BK239.out) hb); replace HB := Aside0.mk (below_step (TB2 GE238.out GE239.out) hb); (try clear hb); (try clear hb2); (try clear hk); (try clear hi))); try go_wp2_with (first | (go_at_call 25; (with_reducible refine (saronlaw09_listened.calls  t262 _ ?side1 A56.out).mono ?_); (case side1 => exact Glob.fr HG.out (Fr.of_below (TB2 GE238.out GE239.out))); rintro e w57 ⟨rfl, hb⟩; replace HO_17 := Aside0.mk (Kd.R_below (TRo HO_17.out) hb); replace BK238 := Aside0.mk (blk_below (g := gb238) (o := .cells #[.int .i64 a0_0, .slice A0_1 l0_1.length c0_1, .slice (some ad244) l0_2.length c0_2] 27 (0, 0)) (by (with_reducible repeat (first | refine blk_drewN ?_ _ | refine blk_drew ?_ | refine blk_alloc ?_ _)); exact BK238.out) hb); replace BK239 := Aside0.mk (blk_below (g := gb239) (o := .cells #[.int .i64 a1_0, .int .i64 a1_1] 43 (0, 0)) (by (with_reducible repeat (first | refine blk_drewN ?_ _ | refine blk_drew ?_ | refine blk_alloc ?_ _)); exact BK239.out) hb); replace HB := Aside0.mk (below_step (TB2 GE238.out GE239.out) hb); (try clear hb); (try clear hb2); (try clear hk); (try clear hi))))
             go_ret
             exact ⟨TR, TB2 GE238.out GE239.out⟩
            ·rw [if_neg c55] at H
             have c55b0 : ((wrap64 ((((rd_T62 l0_2 t242).f1).length : Int) - (t253.length : Int))) == 0) = false := beq_eq_false_iff_ne.mpr c55
             have c55b1 : ((wrap64 ((((rd_T62 l0_2 t242).f1).length : Int) - (t253.length : Int))) != 0) = true := bne_iff_ne.mpr c55
             replace H := Option.bind_eq_some_iff.mp H
             obtain ⟨⟨t263, t266⟩, A580, H⟩ := H
             replace H : (if t266 = 0 then ((saronref00_Where.f kj39 t263 t242).bind fun t267 => (if t267 < 0 then ((saronlaw09_listened.f).bind fun t268 => (some t268)) else (some false))) else (some false)) = some r := H
             have A58 := Aside0.mk A580
             clear A580
             by_cases c59 : t266 = 0
             ·rw [if_pos c59] at H
              have c59b0 : (t266 == 0) = true := beq_iff_eq.mpr c59
              have c59b1 : (t266 != 0) = false := bne_eq_false_iff_eq.mpr c59
              clear c59
              replace H := Option.bind_eq_some_iff.mp H
              obtain ⟨t267, A600, H⟩ := H
              replace H : (if t267 < 0 then ((saronlaw09_listened.f).bind fun t268 => (some t268)) else (some false)) = some r := H
              have A60 := Aside0.mk A600
              clear A600
              by_cases c61 : t267 < 0
              ·rw [if_pos c61] at H
               have c61b0 : decide (t267 < 0) = true := decide_eq_true c61
               clear c61
               replace H := Option.bind_eq_some_iff.mp H
               obtain ⟨t268, A620, H⟩ := H
               replace H : (some t268) = some r := H
               have A62 := Aside0.mk A620
               clear A620
               obtain rfl := Option.some.inj H
               have hnb63 := NB238_239.out
               have hnc63 := NB239_238.out
               have hcz64_0 := czz BK238.out 0
               have hcz64_1 := czz BK238.out 1
               have hcz64_2 := czz BK238.out 2
               have hfz64_0 := fz BK238.out 0
               have hfz64_1 := fz BK238.out 1
               have hfz64_2 := fz BK238.out 2
               go_wp2_with (first | (go_at_call 32; (with_reducible refine (heard_Whole.calls kj39 a0_0 _ _ l0_1 _ _ l0_2 _ _ t253 (wrap64 ((wrap64 ((((rd_T62 l0_2 t242).f1).length : Int) - (t253.length : Int))) - 1)) t263 t266 _ ?side1 ?side2 ?side3 ?side4 ?side5 ?side6 ?side7 A58.out).mono ?_); (case side1 => exact TC HR0_1.out); (case side2 => exact HC0_1.out); (case side3 => exact TC HR0_2.out); (case side4 => exact HC0_2.out); (case side5 => repeat (first | exact (Kd.R_reads' HO_17.out).2.2 | (with_reducible refine Kd.C_alloc ?_ _) | (with_reducible refine Kd.C_drewN ?_ _) | (with_reducible refine Kd.C_drew ?_))); (case side6 => exact (Kd.R_reads' HO_17.out).2.1); (case side7 => exact Glob.fr HG.out (Fr.of_below (TB2 GE238.out GE239.out))); rintro e w65 ⟨v264, rfl, ho0, hb⟩; have HO265 := Aside0.mk (Kd.V_lower (Kd.V_mono (ok' := fun k_ => some k_ ≠ (.slice Ao42 t253.length co42 : Value).ownBlock ∧ k_ ≠ gb238 ∧ k_ ≠ gb239) ho0 (fun k_ hk_ => ⟨(Kd.fresh' (Kd.R_lt (TRo HO_17.out)) k_ hk_), (Kd.freshB (g := gb238) (o := .cells #[.int .i64 a0_0, .slice A0_1 l0_1.length c0_1, .slice (some ad244) l0_2.length c0_2] 27 (0, 0)) (by (with_reducible repeat (first | refine blk_drewN ?_ _ | refine blk_drew ?_ | refine blk_alloc ?_ _)); exact BK238.out) k_ hk_), (Kd.freshB (g := gb239) (o := .cells #[.int .i64 a1_0, .int .i64 a1_1] 43 (0, 0)) (by (with_reducible repeat (first | refine blk_drewN ?_ _ | refine blk_drew ?_ | refine blk_alloc ?_ _)); exact BK239.out) k_ hk_)⟩)) (below_size (TB2 GE238.out GE239.out))); replace HO_17 := Aside0.mk (Kd.R_below (TRo HO_17.out) hb); replace BK238 := Aside0.mk (blk_below (g := gb238) (o := .cells #[.int .i64 a0_0, .slice A0_1 l0_1.length c0_1, .slice (some ad244) l0_2.length c0_2] 27 (0, 0)) (by (with_reducible repeat (first | refine blk_drewN ?_ _ | refine blk_drew ?_ | refine blk_alloc ?_ _)); exact BK238.out) hb); replace BK239 := Aside0.mk (blk_below (g := gb239) (o := .cells #[.int .i64 a1_0, .int .i64 a1_1] 43 (0, 0)) (by (with_reducible repeat (first | refine blk_drewN ?_ _ | refine blk_drew ?_ | refine blk_alloc ?_ _)); exact BK239.out) hb); replace HB := Aside0.mk (below_step (TB2 GE238.out GE239.out) hb); (try clear hb); (try clear hb2); (try clear hk); (try clear hi); (try clear ho0); obtain ⟨Ao66, co66, eo66⟩ := Kd.V_slice HO265.out; subst eo66) | (go_at_call 39; (with_reducible refine (saronref00_Where.calls kj39 _ _ t263 t242 t267 _ ?side1 ?side2 A60.out).mono ?_); (case side1 => repeat (first | exact (Kd.V_reads' HO265.out).2.2 | (with_reducible refine Kd.C_alloc ?_ _) | (with_reducible refine Kd.C_drewN ?_ _) | (with_reducible refine Kd.C_drew ?_))); (case side2 => exact (Kd.V_reads' HO265.out).2.1); rintro e w' ⟨rfl, ⟨nd, rfl⟩⟩; (try first | exact ⟨rfl, _, World.drewN_drewN _ _ _⟩ | exact ⟨rfl, _, Eq.trans (World.drewN_drewN _ _ _) (congrArg (World.drewN _) (Nat.add_assoc _ _ _))⟩)) | (go_at_call 25; (with_reducible refine (saronlaw09_listened.calls  t268 _ ?side1 A62.out).mono ?_); (case side1 => exact Glob.fr HG.out (Fr.of_below (TB2 GE238.out GE239.out))); rintro e w67 ⟨rfl, hb⟩; replace HO_17 := Aside0.mk (Kd.R_below (TRo HO_17.out) hb); replace HO265 := Aside0.mk (Kd.V_below (by (with_reducible repeat (first | apply Kd.V_alloc | apply Kd.V_drewN | apply Kd.V_drew)); exact HO265.out) hb); replace BK238 := Aside0.mk (blk_below (g := gb238) (o := .cells #[.int .i64 a0_0, .slice A0_1 l0_1.length c0_1, .slice (some ad244) l0_2.length c0_2] 27 (0, 0)) (by (with_reducible repeat (first | refine blk_drewN ?_ _ | refine blk_drew ?_ | refine blk_alloc ?_ _)); exact BK238.out) hb); replace BK239 := Aside0.mk (blk_below (g := gb239) (o := .cells #[.int .i64 a1_0, .int .i64 a1_1] 43 (0, 0)) (by (with_reducible repeat (first | refine blk_drewN ?_ _ | refine blk_drew ?_ | refine blk_alloc ?_ _)); exact BK239.out) hb); replace HB := Aside0.mk (below_step (TB2 GE238.out GE239.out) hb); (try clear hb); (try clear hb2); (try clear hk); (try clear hi)))
               repeat (go_quiet (first | (go_at_call 32; (with_reducible refine (heard_Whole.calls kj39 a0_0 _ _ l0_1 _ _ l0_2 _ _ t253 (wrap64 ((wrap64 ((((rd_T62 l0_2 t242).f1).length : Int) - (t253.length : Int))) - 1)) t263 t266 _ ?side1 ?side2 ?side3 ?side4 ?side5 ?side6 ?side7 A58.out).mono ?_); (case side1 => exact TC HR0_1.out); (case side2 => exact HC0_1.out); (case side3 => exact TC HR0_2.out); (case side4 => exact HC0_2.out); (case side5 => repeat (first | exact (Kd.R_reads' HO_17.out).2.2 | (with_reducible refine Kd.C_alloc ?_ _) | (with_reducible refine Kd.C_drewN ?_ _) | (with_reducible refine Kd.C_drew ?_))); (case side6 => exact (Kd.R_reads' HO_17.out).2.1); (case side7 => exact Glob.fr HG.out (Fr.of_below (TB2 GE238.out GE239.out))); rintro e w65 ⟨v264, rfl, ho0, hb⟩; have HO265 := Aside0.mk (Kd.V_lower (Kd.V_mono (ok' := fun k_ => some k_ ≠ (.slice Ao42 t253.length co42 : Value).ownBlock ∧ k_ ≠ gb238 ∧ k_ ≠ gb239) ho0 (fun k_ hk_ => ⟨(Kd.fresh' (Kd.R_lt (TRo HO_17.out)) k_ hk_), (Kd.freshB (g := gb238) (o := .cells #[.int .i64 a0_0, .slice A0_1 l0_1.length c0_1, .slice (some ad244) l0_2.length c0_2] 27 (0, 0)) (by (with_reducible repeat (first | refine blk_drewN ?_ _ | refine blk_drew ?_ | refine blk_alloc ?_ _)); exact BK238.out) k_ hk_), (Kd.freshB (g := gb239) (o := .cells #[.int .i64 a1_0, .int .i64 a1_1] 43 (0, 0)) (by (with_reducible repeat (first | refine blk_drewN ?_ _ | refine blk_drew ?_ | refine blk_alloc ?_ _)); exact BK239.out) k_ hk_)⟩)) (below_size (TB2 GE238.out GE239.out))); replace HO_17 := Aside0.mk (Kd.R_below (TRo HO_17.out) hb); replace BK238 := Aside0.mk (blk_below (g := gb238) (o := .cells #[.int .i64 a0_0, .slice A0_1 l0_1.length c0_1, .slice (some ad244) l0_2.length c0_2] 27 (0, 0)) (by (with_reducible repeat (first | refine blk_drewN ?_ _ | refine blk_drew ?_ | refine blk_alloc ?_ _)); exact BK238.out) hb); replace BK239 := Aside0.mk (blk_below (g := gb239) (o := .cells #[.int .i64 a1_0, .int .i64 a1_1] 43 (0, 0)) (by (with_reducible repeat (first | refine blk_drewN ?_ _ | refine blk_drew ?_ | refine blk_alloc ?_ _)); exact BK239.out) hb); replace HB := Aside0.mk (below_step (TB2 GE238.out GE239.out) hb); (try clear hb); (try clear hb2); (try clear hk); (try clear hi); (try clear ho0); obtain ⟨Ao66, co66, eo66⟩ := Kd.V_slice HO265.out; subst eo66) | (go_at_call 39; (with_reducible refine (saronref00_Where.calls kj39 _ _ t263 t242 t267 _ ?side1 ?side2 A60.out).mono ?_); (case side1 => repeat (first | exact (Kd.V_reads' HO265.out).2.2 | (with_reducible refine Kd.C_alloc ?_ _) | (with_reducible refine Kd.C_drewN ?_ _) | (with_reducible refine Kd.C_drew ?_))); (case side2 => exact (Kd.V_reads' HO265.out).2.1); rintro e w' ⟨rfl, ⟨nd, rfl⟩⟩; (try first | exact ⟨rfl, _, World.drewN_drewN _ _ _⟩ | exact ⟨rfl, _, Eq.trans (World.drewN_drewN _ _ _) (congrArg (World.drewN _) (Nat.add_assoc _ _ _))⟩)) | (go_at_call 25; (with_reducible refine (saronlaw09_listened.calls  t268 _ ?side1 A62.out).mono ?_); (case side1 => exact Glob.fr HG.out (Fr.of_below (TB2 GE238.out GE239.out))); rintro e w67 ⟨rfl, hb⟩; replace HO_17 := Aside0.mk (Kd.R_below (TRo HO_17.out) hb); replace HO265 := Aside0.mk (Kd.V_below (by (with_reducible repeat (first | apply Kd.V_alloc | apply Kd.V_drewN | apply Kd.V_drew)); exact HO265.out) hb); replace BK238 := Aside0.mk (blk_below (g := gb238) (o := .cells #[.int .i64 a0_0, .slice A0_1 l0_1.length c0_1, .slice (some ad244) l0_2.length c0_2] 27 (0, 0)) (by (with_reducible repeat (first | refine blk_drewN ?_ _ | refine blk_drew ?_ | refine blk_alloc ?_ _)); exact BK238.out) hb); replace BK239 := Aside0.mk (blk_below (g := gb239) (o := .cells #[.int .i64 a1_0, .int .i64 a1_1] 43 (0, 0)) (by (with_reducible repeat (first | refine blk_drewN ?_ _ | refine blk_drew ?_ | refine blk_alloc ?_ _)); exact BK239.out) hb); replace HB := Aside0.mk (below_step (TB2 GE238.out GE239.out) hb); (try clear hb); (try clear hb2); (try clear hk); (try clear hi))); try go_wp2_with (first | (go_at_call 32; (with_reducible refine (heard_Whole.calls kj39 a0_0 _ _ l0_1 _ _ l0_2 _ _ t253 (wrap64 ((wrap64 ((((rd_T62 l0_2 t242).f1).length : Int) - (t253.length : Int))) - 1)) t263 t266 _ ?side1 ?side2 ?side3 ?side4 ?side5 ?side6 ?side7 A58.out).mono ?_); (case side1 => exact TC HR0_1.out); (case side2 => exact HC0_1.out); (case side3 => exact TC HR0_2.out); (case side4 => exact HC0_2.out); (case side5 => repeat (first | exact (Kd.R_reads' HO_17.out).2.2 | (with_reducible refine Kd.C_alloc ?_ _) | (with_reducible refine Kd.C_drewN ?_ _) | (with_reducible refine Kd.C_drew ?_))); (case side6 => exact (Kd.R_reads' HO_17.out).2.1); (case side7 => exact Glob.fr HG.out (Fr.of_below (TB2 GE238.out GE239.out))); rintro e w65 ⟨v264, rfl, ho0, hb⟩; have HO265 := Aside0.mk (Kd.V_lower (Kd.V_mono (ok' := fun k_ => some k_ ≠ (.slice Ao42 t253.length co42 : Value).ownBlock ∧ k_ ≠ gb238 ∧ k_ ≠ gb239) ho0 (fun k_ hk_ => ⟨(Kd.fresh' (Kd.R_lt (TRo HO_17.out)) k_ hk_), (Kd.freshB (g := gb238) (o := .cells #[.int .i64 a0_0, .slice A0_1 l0_1.length c0_1, .slice (some ad244) l0_2.length c0_2] 27 (0, 0)) (by (with_reducible repeat (first | refine blk_drewN ?_ _ | refine blk_drew ?_ | refine blk_alloc ?_ _)); exact BK238.out) k_ hk_), (Kd.freshB (g := gb239) (o := .cells #[.int .i64 a1_0, .int .i64 a1_1] 43 (0, 0)) (by (with_reducible repeat (first | refine blk_drewN ?_ _ | refine blk_drew ?_ | refine blk_alloc ?_ _)); exact BK239.out) k_ hk_)⟩)) (below_size (TB2 GE238.out GE239.out))); replace HO_17 := Aside0.mk (Kd.R_below (TRo HO_17.out) hb); replace BK238 := Aside0.mk (blk_below (g := gb238) (o := .cells #[.int .i64 a0_0, .slice A0_1 l0_1.length c0_1, .slice (some ad244) l0_2.length c0_2] 27 (0, 0)) (by (with_reducible repeat (first | refine blk_drewN ?_ _ | refine blk_drew ?_ | refine blk_alloc ?_ _)); exact BK238.out) hb); replace BK239 := Aside0.mk (blk_below (g := gb239) (o := .cells #[.int .i64 a1_0, .int .i64 a1_1] 43 (0, 0)) (by (with_reducible repeat (first | refine blk_drewN ?_ _ | refine blk_drew ?_ | refine blk_alloc ?_ _)); exact BK239.out) hb); replace HB := Aside0.mk (below_step (TB2 GE238.out GE239.out) hb); (try clear hb); (try clear hb2); (try clear hk); (try clear hi); (try clear ho0); obtain ⟨Ao66, co66, eo66⟩ := Kd.V_slice HO265.out; subst eo66) | (go_at_call 39; (with_reducible refine (saronref00_Where.calls kj39 _ _ t263 t242 t267 _ ?side1 ?side2 A60.out).mono ?_); (case side1 => repeat (first | exact (Kd.V_reads' HO265.out).2.2 | (with_reducible refine Kd.C_alloc ?_ _) | (with_reducible refine Kd.C_drewN ?_ _) | (with_reducible refine Kd.C_drew ?_))); (case side2 => exact (Kd.V_reads' HO265.out).2.1); rintro e w' ⟨rfl, ⟨nd, rfl⟩⟩; (try first | exact ⟨rfl, _, World.drewN_drewN _ _ _⟩ | exact ⟨rfl, _, Eq.trans (World.drewN_drewN _ _ _) (congrArg (World.drewN _) (Nat.add_assoc _ _ _))⟩)) | (go_at_call 25; (with_reducible refine (saronlaw09_listened.calls  t268 _ ?side1 A62.out).mono ?_); (case side1 => exact Glob.fr HG.out (Fr.of_below (TB2 GE238.out GE239.out))); rintro e w67 ⟨rfl, hb⟩; replace HO_17 := Aside0.mk (Kd.R_below (TRo HO_17.out) hb); replace HO265 := Aside0.mk (Kd.V_below (by (with_reducible repeat (first | apply Kd.V_alloc | apply Kd.V_drewN | apply Kd.V_drew)); exact HO265.out) hb); replace BK238 := Aside0.mk (blk_below (g := gb238) (o := .cells #[.int .i64 a0_0, .slice A0_1 l0_1.length c0_1, .slice (some ad244) l0_2.length c0_2] 27 (0, 0)) (by (with_reducible repeat (first | refine blk_drewN ?_ _ | refine blk_drew ?_ | refine blk_alloc ?_ _)); exact BK238.out) hb); replace BK239 := Aside0.mk (blk_below (g := gb239) (o := .cells #[.int .i64 a1_0, .int .i64 a1_1] 43 (0, 0)) (by (with_reducible repeat (first | refine blk_drewN ?_ _ | refine blk_drew ?_ | refine blk_alloc ?_ _)); exact BK239.out) hb); replace HB := Aside0.mk (below_step (TB2 GE238.out GE239.out) hb); (try clear hb); (try clear hb2); (try clear hk); (try clear hi))))
               go_ret
               exact ⟨TR, TB2 GE238.out GE239.out⟩
              ·rw [if_neg c61] at H
               have c61b0 : decide (t267 < 0) = false := decide_eq_false c61
               clear c61
               obtain rfl := Option.some.inj H
               have hnb68 := NB238_239.out
               have hnc68 := NB239_238.out
               have hcz69_0 := czz BK238.out 0
               have hcz69_1 := czz BK238.out 1
               have hcz69_2 := czz BK238.out 2
               have hfz69_0 := fz BK238.out 0
               have hfz69_1 := fz BK238.out 1
               have hfz69_2 := fz BK238.out 2
               go_wp2_with (first | (go_at_call 32; (with_reducible refine (heard_Whole.calls kj39 a0_0 _ _ l0_1 _ _ l0_2 _ _ t253 (wrap64 ((wrap64 ((((rd_T62 l0_2 t242).f1).length : Int) - (t253.length : Int))) - 1)) t263 t266 _ ?side1 ?side2 ?side3 ?side4 ?side5 ?side6 ?side7 A58.out).mono ?_); (case side1 => exact TC HR0_1.out); (case side2 => exact HC0_1.out); (case side3 => exact TC HR0_2.out); (case side4 => exact HC0_2.out); (case side5 => repeat (first | exact (Kd.R_reads' HO_17.out).2.2 | (with_reducible refine Kd.C_alloc ?_ _) | (with_reducible refine Kd.C_drewN ?_ _) | (with_reducible refine Kd.C_drew ?_))); (case side6 => exact (Kd.R_reads' HO_17.out).2.1); (case side7 => exact Glob.fr HG.out (Fr.of_below (TB2 GE238.out GE239.out))); rintro e w70 ⟨v264, rfl, ho0, hb⟩; have HO265 := Aside0.mk (Kd.V_lower (Kd.V_mono (ok' := fun k_ => some k_ ≠ (.slice Ao42 t253.length co42 : Value).ownBlock ∧ k_ ≠ gb238 ∧ k_ ≠ gb239) ho0 (fun k_ hk_ => ⟨(Kd.fresh' (Kd.R_lt (TRo HO_17.out)) k_ hk_), (Kd.freshB (g := gb238) (o := .cells #[.int .i64 a0_0, .slice A0_1 l0_1.length c0_1, .slice (some ad244) l0_2.length c0_2] 27 (0, 0)) (by (with_reducible repeat (first | refine blk_drewN ?_ _ | refine blk_drew ?_ | refine blk_alloc ?_ _)); exact BK238.out) k_ hk_), (Kd.freshB (g := gb239) (o := .cells #[.int .i64 a1_0, .int .i64 a1_1] 43 (0, 0)) (by (with_reducible repeat (first | refine blk_drewN ?_ _ | refine blk_drew ?_ | refine blk_alloc ?_ _)); exact BK239.out) k_ hk_)⟩)) (below_size (TB2 GE238.out GE239.out))); replace HO_17 := Aside0.mk (Kd.R_below (TRo HO_17.out) hb); replace BK238 := Aside0.mk (blk_below (g := gb238) (o := .cells #[.int .i64 a0_0, .slice A0_1 l0_1.length c0_1, .slice (some ad244) l0_2.length c0_2] 27 (0, 0)) (by (with_reducible repeat (first | refine blk_drewN ?_ _ | refine blk_drew ?_ | refine blk_alloc ?_ _)); exact BK238.out) hb); replace BK239 := Aside0.mk (blk_below (g := gb239) (o := .cells #[.int .i64 a1_0, .int .i64 a1_1] 43 (0, 0)) (by (with_reducible repeat (first | refine blk_drewN ?_ _ | refine blk_drew ?_ | refine blk_alloc ?_ _)); exact BK239.out) hb); replace HB := Aside0.mk (below_step (TB2 GE238.out GE239.out) hb); (try clear hb); (try clear hb2); (try clear hk); (try clear hi); (try clear ho0); obtain ⟨Ao71, co71, eo71⟩ := Kd.V_slice HO265.out; subst eo71) | (go_at_call 39; (with_reducible refine (saronref00_Where.calls kj39 _ _ t263 t242 t267 _ ?side1 ?side2 A60.out).mono ?_); (case side1 => repeat (first | exact (Kd.V_reads' HO265.out).2.2 | (with_reducible refine Kd.C_alloc ?_ _) | (with_reducible refine Kd.C_drewN ?_ _) | (with_reducible refine Kd.C_drew ?_))); (case side2 => exact (Kd.V_reads' HO265.out).2.1); rintro e w' ⟨rfl, ⟨nd, rfl⟩⟩; (try first | exact ⟨rfl, _, World.drewN_drewN _ _ _⟩ | exact ⟨rfl, _, Eq.trans (World.drewN_drewN _ _ _) (congrArg (World.drewN _) (Nat.add_assoc _ _ _))⟩)))
               repeat (go_quiet (first | (go_at_call 32; (with_reducible refine (heard_Whole.calls kj39 a0_0 _ _ l0_1 _ _ l0_2 _ _ t253 (wrap64 ((wrap64 ((((rd_T62 l0_2 t242).f1).length : Int) - (t253.length : Int))) - 1)) t263 t266 _ ?side1 ?side2 ?side3 ?side4 ?side5 ?side6 ?side7 A58.out).mono ?_); (case side1 => exact TC HR0_1.out); (case side2 => exact HC0_1.out); (case side3 => exact TC HR0_2.out); (case side4 => exact HC0_2.out); (case side5 => repeat (first | exact (Kd.R_reads' HO_17.out).2.2 | (with_reducible refine Kd.C_alloc ?_ _) | (with_reducible refine Kd.C_drewN ?_ _) | (with_reducible refine Kd.C_drew ?_))); (case side6 => exact (Kd.R_reads' HO_17.out).2.1); (case side7 => exact Glob.fr HG.out (Fr.of_below (TB2 GE238.out GE239.out))); rintro e w70 ⟨v264, rfl, ho0, hb⟩; have HO265 := Aside0.mk (Kd.V_lower (Kd.V_mono (ok' := fun k_ => some k_ ≠ (.slice Ao42 t253.length co42 : Value).ownBlock ∧ k_ ≠ gb238 ∧ k_ ≠ gb239) ho0 (fun k_ hk_ => ⟨(Kd.fresh' (Kd.R_lt (TRo HO_17.out)) k_ hk_), (Kd.freshB (g := gb238) (o := .cells #[.int .i64 a0_0, .slice A0_1 l0_1.length c0_1, .slice (some ad244) l0_2.length c0_2] 27 (0, 0)) (by (with_reducible repeat (first | refine blk_drewN ?_ _ | refine blk_drew ?_ | refine blk_alloc ?_ _)); exact BK238.out) k_ hk_), (Kd.freshB (g := gb239) (o := .cells #[.int .i64 a1_0, .int .i64 a1_1] 43 (0, 0)) (by (with_reducible repeat (first | refine blk_drewN ?_ _ | refine blk_drew ?_ | refine blk_alloc ?_ _)); exact BK239.out) k_ hk_)⟩)) (below_size (TB2 GE238.out GE239.out))); replace HO_17 := Aside0.mk (Kd.R_below (TRo HO_17.out) hb); replace BK238 := Aside0.mk (blk_below (g := gb238) (o := .cells #[.int .i64 a0_0, .slice A0_1 l0_1.length c0_1, .slice (some ad244) l0_2.length c0_2] 27 (0, 0)) (by (with_reducible repeat (first | refine blk_drewN ?_ _ | refine blk_drew ?_ | refine blk_alloc ?_ _)); exact BK238.out) hb); replace BK239 := Aside0.mk (blk_below (g := gb239) (o := .cells #[.int .i64 a1_0, .int .i64 a1_1] 43 (0, 0)) (by (with_reducible repeat (first | refine blk_drewN ?_ _ | refine blk_drew ?_ | refine blk_alloc ?_ _)); exact BK239.out) hb); replace HB := Aside0.mk (below_step (TB2 GE238.out GE239.out) hb); (try clear hb); (try clear hb2); (try clear hk); (try clear hi); (try clear ho0); obtain ⟨Ao71, co71, eo71⟩ := Kd.V_slice HO265.out; subst eo71) | (go_at_call 39; (with_reducible refine (saronref00_Where.calls kj39 _ _ t263 t242 t267 _ ?side1 ?side2 A60.out).mono ?_); (case side1 => repeat (first | exact (Kd.V_reads' HO265.out).2.2 | (with_reducible refine Kd.C_alloc ?_ _) | (with_reducible refine Kd.C_drewN ?_ _) | (with_reducible refine Kd.C_drew ?_))); (case side2 => exact (Kd.V_reads' HO265.out).2.1); rintro e w' ⟨rfl, ⟨nd, rfl⟩⟩; (try first | exact ⟨rfl, _, World.drewN_drewN _ _ _⟩ | exact ⟨rfl, _, Eq.trans (World.drewN_drewN _ _ _) (congrArg (World.drewN _) (Nat.add_assoc _ _ _))⟩))); try go_wp2_with (first | (go_at_call 32; (with_reducible refine (heard_Whole.calls kj39 a0_0 _ _ l0_1 _ _ l0_2 _ _ t253 (wrap64 ((wrap64 ((((rd_T62 l0_2 t242).f1).length : Int) - (t253.length : Int))) - 1)) t263 t266 _ ?side1 ?side2 ?side3 ?side4 ?side5 ?side6 ?side7 A58.out).mono ?_); (case side1 => exact TC HR0_1.out); (case side2 => exact HC0_1.out); (case side3 => exact TC HR0_2.out); (case side4 => exact HC0_2.out); (case side5 => repeat (first | exact (Kd.R_reads' HO_17.out).2.2 | (with_reducible refine Kd.C_alloc ?_ _) | (with_reducible refine Kd.C_drewN ?_ _) | (with_reducible refine Kd.C_drew ?_))); (case side6 => exact (Kd.R_reads' HO_17.out).2.1); (case side7 => exact Glob.fr HG.out (Fr.of_below (TB2 GE238.out GE239.out))); rintro e w70 ⟨v264, rfl, ho0, hb⟩; have HO265 := Aside0.mk (Kd.V_lower (Kd.V_mono (ok' := fun k_ => some k_ ≠ (.slice Ao42 t253.length co42 : Value).ownBlock ∧ k_ ≠ gb238 ∧ k_ ≠ gb239) ho0 (fun k_ hk_ => ⟨(Kd.fresh' (Kd.R_lt (TRo HO_17.out)) k_ hk_), (Kd.freshB (g := gb238) (o := .cells #[.int .i64 a0_0, .slice A0_1 l0_1.length c0_1, .slice (some ad244) l0_2.length c0_2] 27 (0, 0)) (by (with_reducible repeat (first | refine blk_drewN ?_ _ | refine blk_drew ?_ | refine blk_alloc ?_ _)); exact BK238.out) k_ hk_), (Kd.freshB (g := gb239) (o := .cells #[.int .i64 a1_0, .int .i64 a1_1] 43 (0, 0)) (by (with_reducible repeat (first | refine blk_drewN ?_ _ | refine blk_drew ?_ | refine blk_alloc ?_ _)); exact BK239.out) k_ hk_)⟩)) (below_size (TB2 GE238.out GE239.out))); replace HO_17 := Aside0.mk (Kd.R_below (TRo HO_17.out) hb); replace BK238 := Aside0.mk (blk_below (g := gb238) (o := .cells #[.int .i64 a0_0, .slice A0_1 l0_1.length c0_1, .slice (some ad244) l0_2.length c0_2] 27 (0, 0)) (by (with_reducible repeat (first | refine blk_drewN ?_ _ | refine blk_drew ?_ | refine blk_alloc ?_ _)); exact BK238.out) hb); replace BK239 := Aside0.mk (blk_below (g := gb239) (o := .cells #[.int .i64 a1_0, .int .i64 a1_1] 43 (0, 0)) (by (with_reducible repeat (first | refine blk_drewN ?_ _ | refine blk_drew ?_ | refine blk_alloc ?_ _)); exact BK239.out) hb); replace HB := Aside0.mk (below_step (TB2 GE238.out GE239.out) hb); (try clear hb); (try clear hb2); (try clear hk); (try clear hi); (try clear ho0); obtain ⟨Ao71, co71, eo71⟩ := Kd.V_slice HO265.out; subst eo71) | (go_at_call 39; (with_reducible refine (saronref00_Where.calls kj39 _ _ t263 t242 t267 _ ?side1 ?side2 A60.out).mono ?_); (case side1 => repeat (first | exact (Kd.V_reads' HO265.out).2.2 | (with_reducible refine Kd.C_alloc ?_ _) | (with_reducible refine Kd.C_drewN ?_ _) | (with_reducible refine Kd.C_drew ?_))); (case side2 => exact (Kd.V_reads' HO265.out).2.1); rintro e w' ⟨rfl, ⟨nd, rfl⟩⟩; (try first | exact ⟨rfl, _, World.drewN_drewN _ _ _⟩ | exact ⟨rfl, _, Eq.trans (World.drewN_drewN _ _ _) (congrArg (World.drewN _) (Nat.add_assoc _ _ _))⟩))))
               go_ret
               exact ⟨TR, TB2 GE238.out GE239.out⟩
             ·rw [if_neg c59] at H
              have c59b0 : (t266 == 0) = false := beq_eq_false_iff_ne.mpr c59
              have c59b1 : (t266 != 0) = true := bne_iff_ne.mpr c59
              obtain rfl := Option.some.inj H
              have hnb72 := NB238_239.out
              have hnc72 := NB239_238.out
              have hcz73_0 := czz BK238.out 0
              have hcz73_1 := czz BK238.out 1
              have hcz73_2 := czz BK238.out 2
              have hfz73_0 := fz BK238.out 0
              have hfz73_1 := fz BK238.out 1
              have hfz73_2 := fz BK238.out 2
              go_wp2_with (first | (go_at_call 32; (with_reducible refine (heard_Whole.calls kj39 a0_0 _ _ l0_1 _ _ l0_2 _ _ t253 (wrap64 ((wrap64 ((((rd_T62 l0_2 t242).f1).length : Int) - (t253.length : Int))) - 1)) t263 t266 _ ?side1 ?side2 ?side3 ?side4 ?side5 ?side6 ?side7 A58.out).mono ?_); (case side1 => exact TC HR0_1.out); (case side2 => exact HC0_1.out); (case side3 => exact TC HR0_2.out); (case side4 => exact HC0_2.out); (case side5 => repeat (first | exact (Kd.R_reads' HO_17.out).2.2 | (with_reducible refine Kd.C_alloc ?_ _) | (with_reducible refine Kd.C_drewN ?_ _) | (with_reducible refine Kd.C_drew ?_))); (case side6 => exact (Kd.R_reads' HO_17.out).2.1); (case side7 => exact Glob.fr HG.out (Fr.of_below (TB2 GE238.out GE239.out))); rintro e w74 ⟨v264, rfl, ho0, hb⟩; have HO265 := Aside0.mk (Kd.V_lower (Kd.V_mono (ok' := fun k_ => some k_ ≠ (.slice Ao42 t253.length co42 : Value).ownBlock ∧ k_ ≠ gb238 ∧ k_ ≠ gb239) ho0 (fun k_ hk_ => ⟨(Kd.fresh' (Kd.R_lt (TRo HO_17.out)) k_ hk_), (Kd.freshB (g := gb238) (o := .cells #[.int .i64 a0_0, .slice A0_1 l0_1.length c0_1, .slice (some ad244) l0_2.length c0_2] 27 (0, 0)) (by (with_reducible repeat (first | refine blk_drewN ?_ _ | refine blk_drew ?_ | refine blk_alloc ?_ _)); exact BK238.out) k_ hk_), (Kd.freshB (g := gb239) (o := .cells #[.int .i64 a1_0, .int .i64 a1_1] 43 (0, 0)) (by (with_reducible repeat (first | refine blk_drewN ?_ _ | refine blk_drew ?_ | refine blk_alloc ?_ _)); exact BK239.out) k_ hk_)⟩)) (below_size (TB2 GE238.out GE239.out))); replace HO_17 := Aside0.mk (Kd.R_below (TRo HO_17.out) hb); replace BK238 := Aside0.mk (blk_below (g := gb238) (o := .cells #[.int .i64 a0_0, .slice A0_1 l0_1.length c0_1, .slice (some ad244) l0_2.length c0_2] 27 (0, 0)) (by (with_reducible repeat (first | refine blk_drewN ?_ _ | refine blk_drew ?_ | refine blk_alloc ?_ _)); exact BK238.out) hb); replace BK239 := Aside0.mk (blk_below (g := gb239) (o := .cells #[.int .i64 a1_0, .int .i64 a1_1] 43 (0, 0)) (by (with_reducible repeat (first | refine blk_drewN ?_ _ | refine blk_drew ?_ | refine blk_alloc ?_ _)); exact BK239.out) hb); replace HB := Aside0.mk (below_step (TB2 GE238.out GE239.out) hb); (try clear hb); (try clear hb2); (try clear hk); (try clear hi); (try clear ho0)))
              repeat (go_quiet (first | (go_at_call 32; (with_reducible refine (heard_Whole.calls kj39 a0_0 _ _ l0_1 _ _ l0_2 _ _ t253 (wrap64 ((wrap64 ((((rd_T62 l0_2 t242).f1).length : Int) - (t253.length : Int))) - 1)) t263 t266 _ ?side1 ?side2 ?side3 ?side4 ?side5 ?side6 ?side7 A58.out).mono ?_); (case side1 => exact TC HR0_1.out); (case side2 => exact HC0_1.out); (case side3 => exact TC HR0_2.out); (case side4 => exact HC0_2.out); (case side5 => repeat (first | exact (Kd.R_reads' HO_17.out).2.2 | (with_reducible refine Kd.C_alloc ?_ _) | (with_reducible refine Kd.C_drewN ?_ _) | (with_reducible refine Kd.C_drew ?_))); (case side6 => exact (Kd.R_reads' HO_17.out).2.1); (case side7 => exact Glob.fr HG.out (Fr.of_below (TB2 GE238.out GE239.out))); rintro e w74 ⟨v264, rfl, ho0, hb⟩; have HO265 := Aside0.mk (Kd.V_lower (Kd.V_mono (ok' := fun k_ => some k_ ≠ (.slice Ao42 t253.length co42 : Value).ownBlock ∧ k_ ≠ gb238 ∧ k_ ≠ gb239) ho0 (fun k_ hk_ => ⟨(Kd.fresh' (Kd.R_lt (TRo HO_17.out)) k_ hk_), (Kd.freshB (g := gb238) (o := .cells #[.int .i64 a0_0, .slice A0_1 l0_1.length c0_1, .slice (some ad244) l0_2.length c0_2] 27 (0, 0)) (by (with_reducible repeat (first | refine blk_drewN ?_ _ | refine blk_drew ?_ | refine blk_alloc ?_ _)); exact BK238.out) k_ hk_), (Kd.freshB (g := gb239) (o := .cells #[.int .i64 a1_0, .int .i64 a1_1] 43 (0, 0)) (by (with_reducible repeat (first | refine blk_drewN ?_ _ | refine blk_drew ?_ | refine blk_alloc ?_ _)); exact BK239.out) k_ hk_)⟩)) (below_size (TB2 GE238.out GE239.out))); replace HO_17 := Aside0.mk (Kd.R_below (TRo HO_17.out) hb); replace BK238 := Aside0.mk (blk_below (g := gb238) (o := .cells #[.int .i64 a0_0, .slice A0_1 l0_1.length c0_1, .slice (some ad244) l0_2.length c0_2] 27 (0, 0)) (by (with_reducible repeat (first | refine blk_drewN ?_ _ | refine blk_drew ?_ | refine blk_alloc ?_ _)); exact BK238.out) hb); replace BK239 := Aside0.mk (blk_below (g := gb239) (o := .cells #[.int .i64 a1_0, .int .i64 a1_1] 43 (0, 0)) (by (with_reducible repeat (first | refine blk_drewN ?_ _ | refine blk_drew ?_ | refine blk_alloc ?_ _)); exact BK239.out) hb); replace HB := Aside0.mk (below_step (TB2 GE238.out GE239.out) hb); (try clear hb); (try clear hb2); (try clear hk); (try clear hi); (try clear ho0))); try go_wp2_with (first | (go_at_call 32; (with_reducible refine (heard_Whole.calls kj39 a0_0 _ _ l0_1 _ _ l0_2 _ _ t253 (wrap64 ((wrap64 ((((rd_T62 l0_2 t242).f1).length : Int) - (t253.length : Int))) - 1)) t263 t266 _ ?side1 ?side2 ?side3 ?side4 ?side5 ?side6 ?side7 A58.out).mono ?_); (case side1 => exact TC HR0_1.out); (case side2 => exact HC0_1.out); (case side3 => exact TC HR0_2.out); (case side4 => exact HC0_2.out); (case side5 => repeat (first | exact (Kd.R_reads' HO_17.out).2.2 | (with_reducible refine Kd.C_alloc ?_ _) | (with_reducible refine Kd.C_drewN ?_ _) | (with_reducible refine Kd.C_drew ?_))); (case side6 => exact (Kd.R_reads' HO_17.out).2.1); (case side7 => exact Glob.fr HG.out (Fr.of_below (TB2 GE238.out GE239.out))); rintro e w74 ⟨v264, rfl, ho0, hb⟩; have HO265 := Aside0.mk (Kd.V_lower (Kd.V_mono (ok' := fun k_ => some k_ ≠ (.slice Ao42 t253.length co42 : Value).ownBlock ∧ k_ ≠ gb238 ∧ k_ ≠ gb239) ho0 (fun k_ hk_ => ⟨(Kd.fresh' (Kd.R_lt (TRo HO_17.out)) k_ hk_), (Kd.freshB (g := gb238) (o := .cells #[.int .i64 a0_0, .slice A0_1 l0_1.length c0_1, .slice (some ad244) l0_2.length c0_2] 27 (0, 0)) (by (with_reducible repeat (first | refine blk_drewN ?_ _ | refine blk_drew ?_ | refine blk_alloc ?_ _)); exact BK238.out) k_ hk_), (Kd.freshB (g := gb239) (o := .cells #[.int .i64 a1_0, .int .i64 a1_1] 43 (0, 0)) (by (with_reducible repeat (first | refine blk_drewN ?_ _ | refine blk_drew ?_ | refine blk_alloc ?_ _)); exact BK239.out) k_ hk_)⟩)) (below_size (TB2 GE238.out GE239.out))); replace HO_17 := Aside0.mk (Kd.R_below (TRo HO_17.out) hb); replace BK238 := Aside0.mk (blk_below (g := gb238) (o := .cells #[.int .i64 a0_0, .slice A0_1 l0_1.length c0_1, .slice (some ad244) l0_2.length c0_2] 27 (0, 0)) (by (with_reducible repeat (first | refine blk_drewN ?_ _ | refine blk_drew ?_ | refine blk_alloc ?_ _)); exact BK238.out) hb); replace BK239 := Aside0.mk (blk_below (g := gb239) (o := .cells #[.int .i64 a1_0, .int .i64 a1_1] 43 (0, 0)) (by (with_reducible repeat (first | refine blk_drewN ?_ _ | refine blk_drew ?_ | refine blk_alloc ?_ _)); exact BK239.out) hb); replace HB := Aside0.mk (below_step (TB2 GE238.out GE239.out) hb); (try clear hb); (try clear hb2); (try clear hk); (try clear hi); (try clear ho0))))
              go_ret
              exact ⟨TR, TB2 GE238.out GE239.out⟩
     ·rw [if_neg c11] at H
      exact absurd H (by simp)
    ·rw [if_neg c10] at H
     exact absurd H (by simp)
   ·rw [if_neg c9] at H
    exact absurd H (by simp)
  ·rw [if_neg c8] at H
   exact absurd H (by simp)
 ·replace c5 := Bool.eq_false_iff.mpr c5
  subst c5
  have H1 : ((saronlaw09_listened.f).bind fun t241 => (some t241)) = some r := by rw [if_neg (show ¬ (false = true) by decide)] at H; exact H
  clear H
  have H := H1
  clear H1
  replace H := Option.bind_eq_some_iff.mp H
  obtain ⟨t241, A750, H⟩ := H
  replace H : (some t241) = some r := H
  have A75 := Aside0.mk A750
  clear A750
  obtain rfl := Option.some.inj H
  go_enter Tryd.func12, Tryd.ntmps12
  go_wp2_with (first | ((with_reducible refine gate_dst (N := 3) rfl ?_); (try (refine gate_guard (by rfl) ?_; dsimp only)); refine box_event ?hg (N := 3) ?hd (cs := #[.int .i64 a0_0, .slice A0_1 l0_1.length c0_1, .slice A0_2 l0_2.length c0_2]) (t := 27) ?hr ?_; (case hd => rfl); (case hg => rfl); (case hr => exact TS); intro gb238 hg w76 hbox hb; have BK238 := Aside0.mk (hbox); have GW238 := Aside0.mk ((TG : w.heap.size ≤ gb238)); have GE238 := Aside0.mk ((TG : w.heap.size ≤ gb238)); replace HB := Aside0.mk (below_step TB hb); clear hb hbox hg) | ((with_reducible refine gate_dst (N := 4) rfl ?_); (try (refine gate_guard (by rfl) ?_; dsimp only)); refine box_event ?hg (N := 4) ?hd (cs := #[.int .i64 a1_0, .int .i64 a1_1]) (t := 43) ?hr ?_; (case hd => rfl); (case hg => rfl); (case hr => exact TS); intro gb239 hg w77 hbox hb; have BK239 := Aside0.mk (hbox); have GW239 := Aside0.mk ((TG1 GE238.out : w.heap.size ≤ gb239)); have GE239 := Aside0.mk ((TG1 GE238.out : w.heap.size ≤ gb239)); have NB238_239 := Aside0.mk ((by rw [hg]; exact Nat.ne_of_lt (blk_lt (g := gb238) (o := .cells #[.int .i64 a0_0, .slice A0_1 l0_1.length c0_1, .slice A0_2 l0_2.length c0_2] 27 (0, 0)) (by (with_reducible repeat (first | refine blk_drewN ?_ _ | refine blk_drew ?_ | refine blk_alloc ?_ _)); exact BK238.out)) : gb238 ≠ gb239)); have NB239_238 := Aside0.mk ((by rw [hg]; exact Nat.ne_of_gt (blk_lt (g := gb238) (o := .cells #[.int .i64 a0_0, .slice A0_1 l0_1.length c0_1, .slice A0_2 l0_2.length c0_2] 27 (0, 0)) (by (with_reducible repeat (first | refine blk_drewN ?_ _ | refine blk_drew ?_ | refine blk_alloc ?_ _)); exact BK238.out)) : gb239 ≠ gb238)); replace BK238 := Aside0.mk (blk_below (g := gb238) (o := .cells #[.int .i64 a0_0, .slice A0_1 l0_1.length c0_1, .slice A0_2 l0_2.length c0_2] 27 (0, 0)) (by (with_reducible repeat (first | refine blk_drewN ?_ _ | refine blk_drew ?_ | refine blk_alloc ?_ _)); exact BK238.out) hb); replace HB := Aside0.mk (below_step (TB1 GE238.out) hb); clear hb hbox hg; have hnb78 := NB238_239.out; have hnc78 := NB239_238.out; have hcz79_0 := czz BK238.out 0; have hcz79_1 := czz BK238.out 1; have hcz79_2 := czz BK238.out 2; have hfz79_0 := fz BK238.out 0; have hfz79_1 := fz BK238.out 1; have hfz79_2 := fz BK238.out 2) | (go_at_call 36; (with_reducible refine (saronlaw09_sound.calls k a0_0 _ _ l0_1 _ _ l0_2 false _ ?side1 ?side2 ?side3 ?side4 ?side5 A4.out).mono ?_); (case side1 => exact TC HR0_1.out); (case side2 => exact HC0_1.out); (case side3 => exact TC HR0_2.out); (case side4 => exact HC0_2.out); (case side5 => exact Glob.fr HG.out (Fr.of_below (TB2 GE238.out GE239.out))); rintro e w80 ⟨rfl, hb⟩; replace BK238 := Aside0.mk (blk_below (g := gb238) (o := .cells #[.int .i64 a0_0, .slice A0_1 l0_1.length c0_1, .slice A0_2 l0_2.length c0_2] 27 (0, 0)) (by (with_reducible repeat (first | refine blk_drewN ?_ _ | refine blk_drew ?_ | refine blk_alloc ?_ _)); exact BK238.out) hb); replace BK239 := Aside0.mk (blk_below (g := gb239) (o := .cells #[.int .i64 a1_0, .int .i64 a1_1] 43 (0, 0)) (by (with_reducible repeat (first | refine blk_drewN ?_ _ | refine blk_drew ?_ | refine blk_alloc ?_ _)); exact BK239.out) hb); replace HB := Aside0.mk (below_step (TB2 GE238.out GE239.out) hb); (try clear hb); (try clear hb2); (try clear hk); (try clear hi)) | (go_at_call 25; (with_reducible refine (saronlaw09_listened.calls  t241 _ ?side1 A75.out).mono ?_); (case side1 => exact Glob.fr HG.out (Fr.of_below (TB2 GE238.out GE239.out))); rintro e w81 ⟨rfl, hb⟩; replace BK238 := Aside0.mk (blk_below (g := gb238) (o := .cells #[.int .i64 a0_0, .slice A0_1 l0_1.length c0_1, .slice A0_2 l0_2.length c0_2] 27 (0, 0)) (by (with_reducible repeat (first | refine blk_drewN ?_ _ | refine blk_drew ?_ | refine blk_alloc ?_ _)); exact BK238.out) hb); replace BK239 := Aside0.mk (blk_below (g := gb239) (o := .cells #[.int .i64 a1_0, .int .i64 a1_1] 43 (0, 0)) (by (with_reducible repeat (first | refine blk_drewN ?_ _ | refine blk_drew ?_ | refine blk_alloc ?_ _)); exact BK239.out) hb); replace HB := Aside0.mk (below_step (TB2 GE238.out GE239.out) hb); (try clear hb); (try clear hb2); (try clear hk); (try clear hi)))
  repeat (go_quiet (first | ((with_reducible refine gate_dst (N := 3) rfl ?_); (try (refine gate_guard (by rfl) ?_; dsimp only)); refine box_event ?hg (N := 3) ?hd (cs := #[.int .i64 a0_0, .slice A0_1 l0_1.length c0_1, .slice A0_2 l0_2.length c0_2]) (t := 27) ?hr ?_; (case hd => rfl); (case hg => rfl); (case hr => exact TS); intro gb238 hg w76 hbox hb; have BK238 := Aside0.mk (hbox); have GW238 := Aside0.mk ((TG : w.heap.size ≤ gb238)); have GE238 := Aside0.mk ((TG : w.heap.size ≤ gb238)); replace HB := Aside0.mk (below_step TB hb); clear hb hbox hg) | ((with_reducible refine gate_dst (N := 4) rfl ?_); (try (refine gate_guard (by rfl) ?_; dsimp only)); refine box_event ?hg (N := 4) ?hd (cs := #[.int .i64 a1_0, .int .i64 a1_1]) (t := 43) ?hr ?_; (case hd => rfl); (case hg => rfl); (case hr => exact TS); intro gb239 hg w77 hbox hb; have BK239 := Aside0.mk (hbox); have GW239 := Aside0.mk ((TG1 GE238.out : w.heap.size ≤ gb239)); have GE239 := Aside0.mk ((TG1 GE238.out : w.heap.size ≤ gb239)); have NB238_239 := Aside0.mk ((by rw [hg]; exact Nat.ne_of_lt (blk_lt (g := gb238) (o := .cells #[.int .i64 a0_0, .slice A0_1 l0_1.length c0_1, .slice A0_2 l0_2.length c0_2] 27 (0, 0)) (by (with_reducible repeat (first | refine blk_drewN ?_ _ | refine blk_drew ?_ | refine blk_alloc ?_ _)); exact BK238.out)) : gb238 ≠ gb239)); have NB239_238 := Aside0.mk ((by rw [hg]; exact Nat.ne_of_gt (blk_lt (g := gb238) (o := .cells #[.int .i64 a0_0, .slice A0_1 l0_1.length c0_1, .slice A0_2 l0_2.length c0_2] 27 (0, 0)) (by (with_reducible repeat (first | refine blk_drewN ?_ _ | refine blk_drew ?_ | refine blk_alloc ?_ _)); exact BK238.out)) : gb239 ≠ gb238)); replace BK238 := Aside0.mk (blk_below (g := gb238) (o := .cells #[.int .i64 a0_0, .slice A0_1 l0_1.length c0_1, .slice A0_2 l0_2.length c0_2] 27 (0, 0)) (by (with_reducible repeat (first | refine blk_drewN ?_ _ | refine blk_drew ?_ | refine blk_alloc ?_ _)); exact BK238.out) hb); replace HB := Aside0.mk (below_step (TB1 GE238.out) hb); clear hb hbox hg; have hnb78 := NB238_239.out; have hnc78 := NB239_238.out; have hcz79_0 := czz BK238.out 0; have hcz79_1 := czz BK238.out 1; have hcz79_2 := czz BK238.out 2; have hfz79_0 := fz BK238.out 0; have hfz79_1 := fz BK238.out 1; have hfz79_2 := fz BK238.out 2) | (go_at_call 36; (with_reducible refine (saronlaw09_sound.calls k a0_0 _ _ l0_1 _ _ l0_2 false _ ?side1 ?side2 ?side3 ?side4 ?side5 A4.out).mono ?_); (case side1 => exact TC HR0_1.out); (case side2 => exact HC0_1.out); (case side3 => exact TC HR0_2.out); (case side4 => exact HC0_2.out); (case side5 => exact Glob.fr HG.out (Fr.of_below (TB2 GE238.out GE239.out))); rintro e w80 ⟨rfl, hb⟩; replace BK238 := Aside0.mk (blk_below (g := gb238) (o := .cells #[.int .i64 a0_0, .slice A0_1 l0_1.length c0_1, .slice A0_2 l0_2.length c0_2] 27 (0, 0)) (by (with_reducible repeat (first | refine blk_drewN ?_ _ | refine blk_drew ?_ | refine blk_alloc ?_ _)); exact BK238.out) hb); replace BK239 := Aside0.mk (blk_below (g := gb239) (o := .cells #[.int .i64 a1_0, .int .i64 a1_1] 43 (0, 0)) (by (with_reducible repeat (first | refine blk_drewN ?_ _ | refine blk_drew ?_ | refine blk_alloc ?_ _)); exact BK239.out) hb); replace HB := Aside0.mk (below_step (TB2 GE238.out GE239.out) hb); (try clear hb); (try clear hb2); (try clear hk); (try clear hi)) | (go_at_call 25; (with_reducible refine (saronlaw09_listened.calls  t241 _ ?side1 A75.out).mono ?_); (case side1 => exact Glob.fr HG.out (Fr.of_below (TB2 GE238.out GE239.out))); rintro e w81 ⟨rfl, hb⟩; replace BK238 := Aside0.mk (blk_below (g := gb238) (o := .cells #[.int .i64 a0_0, .slice A0_1 l0_1.length c0_1, .slice A0_2 l0_2.length c0_2] 27 (0, 0)) (by (with_reducible repeat (first | refine blk_drewN ?_ _ | refine blk_drew ?_ | refine blk_alloc ?_ _)); exact BK238.out) hb); replace BK239 := Aside0.mk (blk_below (g := gb239) (o := .cells #[.int .i64 a1_0, .int .i64 a1_1] 43 (0, 0)) (by (with_reducible repeat (first | refine blk_drewN ?_ _ | refine blk_drew ?_ | refine blk_alloc ?_ _)); exact BK239.out) hb); replace HB := Aside0.mk (below_step (TB2 GE238.out GE239.out) hb); (try clear hb); (try clear hb2); (try clear hk); (try clear hi))); try go_wp2_with (first | ((with_reducible refine gate_dst (N := 3) rfl ?_); (try (refine gate_guard (by rfl) ?_; dsimp only)); refine box_event ?hg (N := 3) ?hd (cs := #[.int .i64 a0_0, .slice A0_1 l0_1.length c0_1, .slice A0_2 l0_2.length c0_2]) (t := 27) ?hr ?_; (case hd => rfl); (case hg => rfl); (case hr => exact TS); intro gb238 hg w76 hbox hb; have BK238 := Aside0.mk (hbox); have GW238 := Aside0.mk ((TG : w.heap.size ≤ gb238)); have GE238 := Aside0.mk ((TG : w.heap.size ≤ gb238)); replace HB := Aside0.mk (below_step TB hb); clear hb hbox hg) | ((with_reducible refine gate_dst (N := 4) rfl ?_); (try (refine gate_guard (by rfl) ?_; dsimp only)); refine box_event ?hg (N := 4) ?hd (cs := #[.int .i64 a1_0, .int .i64 a1_1]) (t := 43) ?hr ?_; (case hd => rfl); (case hg => rfl); (case hr => exact TS); intro gb239 hg w77 hbox hb; have BK239 := Aside0.mk (hbox); have GW239 := Aside0.mk ((TG1 GE238.out : w.heap.size ≤ gb239)); have GE239 := Aside0.mk ((TG1 GE238.out : w.heap.size ≤ gb239)); have NB238_239 := Aside0.mk ((by rw [hg]; exact Nat.ne_of_lt (blk_lt (g := gb238) (o := .cells #[.int .i64 a0_0, .slice A0_1 l0_1.length c0_1, .slice A0_2 l0_2.length c0_2] 27 (0, 0)) (by (with_reducible repeat (first | refine blk_drewN ?_ _ | refine blk_drew ?_ | refine blk_alloc ?_ _)); exact BK238.out)) : gb238 ≠ gb239)); have NB239_238 := Aside0.mk ((by rw [hg]; exact Nat.ne_of_gt (blk_lt (g := gb238) (o := .cells #[.int .i64 a0_0, .slice A0_1 l0_1.length c0_1, .slice A0_2 l0_2.length c0_2] 27 (0, 0)) (by (with_reducible repeat (first | refine blk_drewN ?_ _ | refine blk_drew ?_ | refine blk_alloc ?_ _)); exact BK238.out)) : gb239 ≠ gb238)); replace BK238 := Aside0.mk (blk_below (g := gb238) (o := .cells #[.int .i64 a0_0, .slice A0_1 l0_1.length c0_1, .slice A0_2 l0_2.length c0_2] 27 (0, 0)) (by (with_reducible repeat (first | refine blk_drewN ?_ _ | refine blk_drew ?_ | refine blk_alloc ?_ _)); exact BK238.out) hb); replace HB := Aside0.mk (below_step (TB1 GE238.out) hb); clear hb hbox hg; have hnb78 := NB238_239.out; have hnc78 := NB239_238.out; have hcz79_0 := czz BK238.out 0; have hcz79_1 := czz BK238.out 1; have hcz79_2 := czz BK238.out 2; have hfz79_0 := fz BK238.out 0; have hfz79_1 := fz BK238.out 1; have hfz79_2 := fz BK238.out 2) | (go_at_call 36; (with_reducible refine (saronlaw09_sound.calls k a0_0 _ _ l0_1 _ _ l0_2 false _ ?side1 ?side2 ?side3 ?side4 ?side5 A4.out).mono ?_); (case side1 => exact TC HR0_1.out); (case side2 => exact HC0_1.out); (case side3 => exact TC HR0_2.out); (case side4 => exact HC0_2.out); (case side5 => exact Glob.fr HG.out (Fr.of_below (TB2 GE238.out GE239.out))); rintro e w80 ⟨rfl, hb⟩; replace BK238 := Aside0.mk (blk_below (g := gb238) (o := .cells #[.int .i64 a0_0, .slice A0_1 l0_1.length c0_1, .slice A0_2 l0_2.length c0_2] 27 (0, 0)) (by (with_reducible repeat (first | refine blk_drewN ?_ _ | refine blk_drew ?_ | refine blk_alloc ?_ _)); exact BK238.out) hb); replace BK239 := Aside0.mk (blk_below (g := gb239) (o := .cells #[.int .i64 a1_0, .int .i64 a1_1] 43 (0, 0)) (by (with_reducible repeat (first | refine blk_drewN ?_ _ | refine blk_drew ?_ | refine blk_alloc ?_ _)); exact BK239.out) hb); replace HB := Aside0.mk (below_step (TB2 GE238.out GE239.out) hb); (try clear hb); (try clear hb2); (try clear hk); (try clear hi)) | (go_at_call 25; (with_reducible refine (saronlaw09_listened.calls  t241 _ ?side1 A75.out).mono ?_); (case side1 => exact Glob.fr HG.out (Fr.of_below (TB2 GE238.out GE239.out))); rintro e w81 ⟨rfl, hb⟩; replace BK238 := Aside0.mk (blk_below (g := gb238) (o := .cells #[.int .i64 a0_0, .slice A0_1 l0_1.length c0_1, .slice A0_2 l0_2.length c0_2] 27 (0, 0)) (by (with_reducible repeat (first | refine blk_drewN ?_ _ | refine blk_drew ?_ | refine blk_alloc ?_ _)); exact BK238.out) hb); replace BK239 := Aside0.mk (blk_below (g := gb239) (o := .cells #[.int .i64 a1_0, .int .i64 a1_1] 43 (0, 0)) (by (with_reducible repeat (first | refine blk_drewN ?_ _ | refine blk_drew ?_ | refine blk_alloc ?_ _)); exact BK239.out) hb); replace HB := Aside0.mk (below_step (TB2 GE238.out GE239.out) hb); (try clear hb); (try clear hb2); (try clear hk); (try clear hi))))
  go_ret
  exact ⟨TR, TB2 GE238.out GE239.out⟩
end Go.Proofs.YtfdenclnneigfaaDoor.PRaspKeys
