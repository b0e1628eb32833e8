import Derived.Test.YtephecfapclgfaaDoorG7
import Derived.Test.YtephecfapclgfaaDoorCS
import Derived.Test.YtephecfapclgfaaDoorCD
import Derived.Test.YtephecfapclgfaaDoorM0
import Derived.Test.YtephecfapclgfaaDoorProg
import Derived.Below
import Derived.Deep.Draws
import Derived.Deep.AppendLies
import Derived.Maps.AppendAt
import Derived.OwnWalk
import Derived.Laws.BytesArg
import Derived.Laws.MakeOwn
import Derived.Laws.OwnMore
import Derived.Deep.OwnRows
import Derived.Tactics
import Derived.Lib.ConvBytes
import Derived.Laws.Slices
import Derived.WalkKit
import Derived.KernelRfl
import Derived.RowKit3
import Derived.Deep.LoopGhost
import Derived.Deep.QuietTactic
import Derived.BigQuiet
import Derived.WideLaws
import Derived.Deep.DeepCutAuto
import Derived.Deep.CutBlock
import Derived.Deep.RegionHeld3
import Derived.Laws.Rows
import Derived.Lib.AppendStr
import Derived.ArgAppend
import Derived.Laws.IdiomCopy
import Derived.OrdersHeld
import Derived.Laws.BitsLemmas
import Derived.RowKit
set_option linter.unusedVariables false
set_option linter.unusedSimpArgs false
namespace Go.Proofs.YtephecfapclgfaaDoor.M
open Go.RowKit Go.Proofs.YtephecfapclgfaaDoorW.PrintWords Go.Proofs.YtephecfapclgfaaDoorW.PrintLast
theorem czz {w : World} {g : Nat} {cs : Array Value} {t : TypeId} {v : Value} (h : w.heap[g]? = some (.cells cs t (0, 0))) (i : Nat) (hv : cs[i]? = some v := by (first | (simp only [List.getElem?_toArray, List.getElem?_cons_zero, List.getElem?_cons_succ]; rfl) | exact rfl)) : w.cell? ⟨g, i, none⟩ = some v := (blk_cell h i).trans hv
end Go.Proofs.YtephecfapclgfaaDoor.M
namespace Go.Proofs.YtephecfapclgfaaDoor.PRaspKeys
open Go.RowKit Go.Proofs.YtephecfapclgfaaDoorW.PrintWords Go.Proofs.YtephecfapclgfaaDoorW.PrintLast Go.Proofs.YtephecfapclgfaaDoorW.PrintMore Go.Proofs.YtephecfapclgfaaDoor.M
attribute [local go_sem] max2_int min2_int max_two min_two max_three min_three max_four min_four   -- for this text's walks alone
/-! #### struct type 63 -/
/-! #### struct type 38 -/
/-! #### struct type 97 -/
end Go.Proofs.YtephecfapclgfaaDoor.PRaspKeys
namespace Go.Proofs.YtephecfapclgfaaDoor.PRaspKeys
open Go.RowKit Go.Proofs.YtephecfapclgfaaDoorW.PrintWords Go.Proofs.YtephecfapclgfaaDoorW.PrintLast Go.Proofs.YtephecfapclgfaaDoorW.PrintMore Go.Proofs.YtephecfapclgfaaDoor.M
attribute [local go_sem] max2_int min2_int max_two min_two max_three min_three max_four min_four   -- for this text's walks alone
end Go.Proofs.YtephecfapclgfaaDoor.PRaspKeys
namespace Go.Proofs.YtephecfapclgfaaDoor.PRaspKeys
open Go.RowKit Go.Proofs.YtephecfapclgfaaDoorW.PrintWords Go.Proofs.YtephecfapclgfaaDoorW.PrintLast Go.Proofs.YtephecfapclgfaaDoorW.PrintMore Go.Proofs.YtephecfapclgfaaDoor.M
attribute [local go_sem] max2_int min2_int max_two min_two max_three min_three max_four min_four   -- for this text's walks alone
end Go.Proofs.YtephecfapclgfaaDoor.PRaspKeys
namespace Go.Proofs.YtephecfapclgfaaDoor.PRaspKeys
open Go.RowKit Go.Proofs.YtephecfapclgfaaDoorW.PrintWords Go.Proofs.YtephecfapclgfaaDoorW.PrintLast Go.Proofs.YtephecfapclgfaaDoorW.PrintMore Go.Proofs.YtephecfapclgfaaDoor.M
attribute [local go_sem] max2_int min2_int max_two min_two max_three min_three max_four min_four   -- for this text's walks alone
end Go.Proofs.YtephecfapclgfaaDoor.PRaspKeys
namespace Go.Proofs.YtephecfapclgfaaDoor.PRaspKeys
open Go.RowKit Go.Proofs.YtephecfapclgfaaDoorW.PrintWords Go.Proofs.YtephecfapclgfaaDoorW.PrintLast Go.Proofs.YtephecfapclgfaaDoorW.PrintMore Go.Proofs.YtephecfapclgfaaDoor.M
attribute [local go_sem] max2_int min2_int max_two min_two max_three min_three max_four min_four   -- for this text's walks alone
attribute [local go_sem high] eqA38
/-! ### saronlaw05_CycleTrue: function 8 -/
mutual
def saronlaw05_CycleTrue.j0 : Nat → List Int → Int → List (List Int) → Bool → Int → List (S63) → Int → Int → Option (Bool)
 | 0, _, _, _, _, _, _, _, _ => none
 | k + 1, x2, x9, x10, x55, x212000, x212001, x218000, x218001 => if x55 = true then (some false) else ((saronlaw05_missed.f k x10 x9 x2).bind fun bt224 => ((cycle_Places.f x212000 x212001 bt224.1 x9).bind fun bt230 => ((cycle_Missing.f x212000 x212001 x218000 x218001 bt224.1).bind fun bt234 => ((cycle_Least.f x212000 x212001 bt224.1).bind fun bt238 => (if bt230.2 = 0 then (if bt234.2 = 0 then (if bt238.2 = 0 then ((saronref00_Sits.f bt238.1 0 (bt224.2.length : Int)).bind fun t240 => (if t240 = true then ((saronref05_SameStrokes.f k bt234.1 bt224.2).bind fun t241 => (saronlaw05_CycleTrue.j1 k x9 bt224.1 bt230.1 bt238.1 (!t241) x212000 x212001 x218000 x218001)) else (saronlaw05_CycleTrue.j1 k x9 bt224.1 bt230.1 bt238.1 true x212000 x212001 x218000 x218001))) else (saronlaw05_CycleTrue.j1 k x9 bt224.1 bt230.1 bt238.1 true x212000 x212001 x218000 x218001)) else (saronlaw05_CycleTrue.j1 k x9 bt224.1 bt230.1 bt238.1 true x212000 x212001 x218000 x218001)) else (saronlaw05_CycleTrue.j1 k x9 bt224.1 bt230.1 bt238.1 true x212000 x212001 x218000 x218001))))))
def saronlaw05_CycleTrue.j1 : Nat → Int → List (List Int) → List (S38) → Int → Bool → Int → List (S63) → Int → Int → Option (Bool)
 | 0, _, _, _, _, _, _, _, _, _ => none
 | k + 1, x9, x12, x14, x17, x105, x212000, x212001, x218000, x218001 => if x105 = true then (some false) else (saronlaw05_CycleTrue.l0 k x9 x12 x14 x17 false 0 x212000 x212001 x218000 x218001)
def saronlaw05_CycleTrue.l0 : Nat → Int → List (List Int) → List (S38) → Int → Bool → Int → Int → List (S63) → Int → Int → Option (Bool)
 | 0, _, _, _, _, _, _, _, _, _, _ => none
 | k + 1, x9, x12, x14, x17, x19, x20, x212000, x212001, x218000, x218001 => if x20 < (x14.length : Int) then (if x19 = true then (if 0 ≤ x20 then ((cycle_Missing.f x212000 x212001 ((rd_T38 x14 x20).f0) ((rd_T38 x14 x20).f1) x12).bind fun bt243 => (if bt243.2 = 0 then (if (bt243.1.length : Int) > x9 then (some false) else (if (bt243.1.length : Int) < x17 then (some false) else (saronlaw05_CycleTrue.l0 k x9 x12 x14 x17 true (wrap64 (x20 + 1)) x212000 x212001 x218000 x218001))) else (some false))) else (none)) else (if 0 ≤ x20 then ((cycle_Missing.f x212000 x212001 ((rd_T38 x14 x20).f0) ((rd_T38 x14 x20).f1) x12).bind fun bt249 => (if bt249.2 = 0 then (if (bt249.1.length : Int) > x9 then (some false) else (if (bt249.1.length : Int) < x17 then (some false) else (saronlaw05_CycleTrue.l0 k x9 x12 x14 x17 (((rd_T38 x14 x20).f0) == x218000 && (((rd_T38 x14 x20).f1) == x218001)) (wrap64 (x20 + 1)) x212000 x212001 x218000 x218001))) else (some false))) else (none))) else (if x19 = true then ((saronlaw05_marked.f).bind fun t253 => (some t253)) else (some false))
end
def saronlaw05_CycleTrue.f (k : Nat) (a0_0 : Int) (l0_1 : List (S63)) (a1_0 : Int) (a1_1 : Int) (a1_2 : Int) (a1_3 : Int) (l2 : List Int) : Option (Bool) := (saronlaw05_sound.f k a0_0 l0_1).bind fun t213 => (if t213 = true then ((saronlaw05_spot.f a0_0 l0_1 a1_0 a1_1).bind fun bt215 => ((saronref00_Turn.f a1_2 64).bind fun t218 => ((saronref00_Turn.f a1_3 7).bind fun t219 => ((cycle_Passage.f a0_0 l0_1 bt215.1 bt215.2 (wrap64 (1 + t218))).bind fun bt220 => (if bt220.2 = 0 then (saronlaw05_CycleTrue.j0 k l2 t219 bt220.1 ((bt220.1.length : Int) != (wrap64 (1 + t218))) a0_0 l0_1 bt215.1 bt215.2) else (saronlaw05_CycleTrue.j0 k l2 t219 bt220.1 true a0_0 l0_1 bt215.1 bt215.2)))))) else ((saronlaw05_marked.f).bind fun t214 => (some t214)))
theorem saronlaw05_CycleTrue.mono_l : ∀ k, (∀ y0 y1 y2 y3 y4 y5 y6 y7, LeO (saronlaw05_CycleTrue.j0 k y0 y1 y2 y3 y4 y5 y6 y7) (saronlaw05_CycleTrue.j0 (k + 1) y0 y1 y2 y3 y4 y5 y6 y7)) ∧ (∀ y0 y1 y2 y3 y4 y5 y6 y7 y8, LeO (saronlaw05_CycleTrue.j1 k y0 y1 y2 y3 y4 y5 y6 y7 y8) (saronlaw05_CycleTrue.j1 (k + 1) y0 y1 y2 y3 y4 y5 y6 y7 y8)) ∧ (∀ y0 y1 y2 y3 y4 y5 y6 y7 y8 y9, LeO (saronlaw05_CycleTrue.l0 k y0 y1 y2 y3 y4 y5 y6 y7 y8 y9) (saronlaw05_CycleTrue.l0 (k + 1) y0 y1 y2 y3 y4 y5 y6 y7 y8 y9))
 | 0 => ⟨fun _ _ _ _ _ _ _ _ r h => by simp [saronlaw05_CycleTrue.j0] at h, fun _ _ _ _ _ _ _ _ _ r h => by simp [saronlaw05_CycleTrue.j1] at h, fun _ _ _ _ _ _ _ _ _ _ r h => by simp [saronlaw05_CycleTrue.l0] at h⟩
 | k + 1 => by
  obtain ⟨ih0, ih1, ih2⟩ := saronlaw05_CycleTrue.mono_l k
  refine ⟨?_, ?_, ?_⟩
  ·intro y0 y1 y2 y3 y4 y5 y6 y7
   unfold saronlaw05_CycleTrue.j0
   repeat' first
   | (with_reducible exact ih0 _ _ _ _ _ _ _ _)
   | (with_reducible exact ih1 _ _ _ _ _ _ _ _ _)
   | (with_reducible exact ih2 _ _ _ _ _ _ _ _ _ _)
   | (with_reducible exact saronlaw05_missed.mono _ _ _ _)
   | (with_reducible exact saronlaw05_sound.mono _ _ _)
   | (with_reducible exact saronref05_SameStrokes.mono _ _ _)
   | (with_reducible exact LeO.refl _)
   | (with_reducible exact LeO.none _)
   | (with_reducible refine LeO.ite ?_ ?_)
   | (with_reducible refine LeO.bind ?_ (fun _ => ?_))
   | exact ih0 _ _ _ _ _ _ _ _
   | exact ih1 _ _ _ _ _ _ _ _ _
   | exact ih2 _ _ _ _ _ _ _ _ _ _
   | exact saronlaw05_missed.mono _ _ _ _
   | exact saronlaw05_sound.mono _ _ _
   | exact saronref05_SameStrokes.mono _ _ _
   | exact LeO.none _
   | refine LeO.ite ?_ ?_
   | refine LeO.bind ?_ (fun _ => ?_)
  ·intro y0 y1 y2 y3 y4 y5 y6 y7 y8
   unfold saronlaw05_CycleTrue.j1
   repeat' first
   | (with_reducible exact ih0 _ _ _ _ _ _ _ _)
   | (with_reducible exact ih1 _ _ _ _ _ _ _ _ _)
   | (with_reducible exact ih2 _ _ _ _ _ _ _ _ _ _)
   | (with_reducible exact saronlaw05_missed.mono _ _ _ _)
   | (with_reducible exact saronlaw05_sound.mono _ _ _)
   | (with_reducible exact saronref05_SameStrokes.mono _ _ _)
   | (with_reducible exact LeO.refl _)
   | (with_reducible exact LeO.none _)
   | (with_reducible refine LeO.ite ?_ ?_)
   | (with_reducible refine LeO.bind ?_ (fun _ => ?_))
   | exact ih0 _ _ _ _ _ _ _ _
   | exact ih1 _ _ _ _ _ _ _ _ _
   | exact ih2 _ _ _ _ _ _ _ _ _ _
   | exact saronlaw05_missed.mono _ _ _ _
   | exact saronlaw05_sound.mono _ _ _
   | exact saronref05_SameStrokes.mono _ _ _
   | exact LeO.none _
   | refine LeO.ite ?_ ?_
   | refine LeO.bind ?_ (fun _ => ?_)
  ·intro y0 y1 y2 y3 y4 y5 y6 y7 y8 y9
   unfold saronlaw05_CycleTrue.l0
   repeat' first
   | (with_reducible exact ih0 _ _ _ _ _ _ _ _)
   | (with_reducible exact ih1 _ _ _ _ _ _ _ _ _)
   | (with_reducible exact ih2 _ _ _ _ _ _ _ _ _ _)
   | (with_reducible exact saronlaw05_missed.mono _ _ _ _)
   | (with_reducible exact saronlaw05_sound.mono _ _ _)
   | (with_reducible exact saronref05_SameStrokes.mono _ _ _)
   | (with_reducible exact LeO.refl _)
   | (with_reducible exact LeO.none _)
   | (with_reducible refine LeO.ite ?_ ?_)
   | (with_reducible refine LeO.bind ?_ (fun _ => ?_))
   | exact ih0 _ _ _ _ _ _ _ _
   | exact ih1 _ _ _ _ _ _ _ _ _
   | exact ih2 _ _ _ _ _ _ _ _ _ _
   | exact saronlaw05_missed.mono _ _ _ _
   | exact saronlaw05_sound.mono _ _ _
   | exact saronref05_SameStrokes.mono _ _ _
   | exact LeO.none _
   | refine LeO.ite ?_ ?_
   | refine LeO.bind ?_ (fun _ => ?_)
theorem saronlaw05_CycleTrue.mono : ∀ a0 a1 a2 a3 a4 a5 a6 k, LeO (saronlaw05_CycleTrue.f k a0 a1 a2 a3 a4 a5 a6) (saronlaw05_CycleTrue.f (k + 1) a0 a1 a2 a3 a4 a5 a6) := by
 intro a0 a1 a2 a3 a4 a5 a6 k
 obtain ⟨ih0, ih1, ih2⟩ := saronlaw05_CycleTrue.mono_l k
 unfold saronlaw05_CycleTrue.f
 repeat' first
   | (with_reducible exact ih0 _ _ _ _ _ _ _ _)
   | (with_reducible exact ih1 _ _ _ _ _ _ _ _ _)
   | (with_reducible exact ih2 _ _ _ _ _ _ _ _ _ _)
   | (with_reducible exact saronlaw05_missed.mono _ _ _ _)
   | (with_reducible exact saronlaw05_sound.mono _ _ _)
   | (with_reducible exact saronref05_SameStrokes.mono _ _ _)
   | (with_reducible exact LeO.refl _)
   | (with_reducible exact LeO.none _)
   | (with_reducible refine LeO.ite ?_ ?_)
   | (with_reducible refine LeO.bind ?_ (fun _ => ?_))
   | exact ih0 _ _ _ _ _ _ _ _
   | exact ih1 _ _ _ _ _ _ _ _ _
   | exact ih2 _ _ _ _ _ _ _ _ _ _
   | exact saronlaw05_missed.mono _ _ _ _
   | exact saronlaw05_sound.mono _ _ _
   | exact saronref05_SameStrokes.mono _ _ _
   | exact LeO.none _
   | refine LeO.ite ?_ ?_
   | refine LeO.bind ?_ (fun _ => ?_)
def saronlaw05_CycleTrue.T4 : Bool × List (List Nat × List Nat) := (true, [([], []), ([0], [0]), ([1], [1]), ([2], [2]), ([], []), ([4], [4]), ([5, 2], [5]), ([3, 6, 0, 1, 2, 3], [3]), ([6, 7, 0, 1, 2, 3, 4, 5, 6, 7], [6])])
def saronlaw05_CycleTrue.B4 : List Nat := [0, 1, 3, 7, 0, 16, 55, 127, 255]
theorem saronlaw05_CycleTrue.tab4 : rtab .any (opsOf Tryd.f8 4) = saronlaw05_CycleTrue.T4 := by kernel_rfl
theorem saronlaw05_CycleTrue.bits4 : waitsOk saronlaw05_CycleTrue.T4.2 saronlaw05_CycleTrue.B4 = true := by kernel_rfl
def saronlaw05_CycleTrue.T18 : Bool × List (List Nat × List Nat) := (true, [([], []), ([0], [0]), ([1], [1]), ([1], [1]), ([2, 3, 1], [1, 2, 3]), ([4, 1], [1, 4]), ([1], [1]), ([5, 6, 1], [1, 5, 6]), ([1, 7], [1, 7]), ([8, 1, 0, 1, 2, 3, 4, 5, 6, 7, 8], [0, 8])])
def saronlaw05_CycleTrue.B18 : List Nat := [0, 1, 3, 3, 15, 31, 3, 127, 255, 511]
theorem saronlaw05_CycleTrue.tab18 : rtab .any (opsOf Tryd.f8 18) = saronlaw05_CycleTrue.T18 := by kernel_rfl
theorem saronlaw05_CycleTrue.bits18 : waitsOk saronlaw05_CycleTrue.T18.2 saronlaw05_CycleTrue.B18 = true := by kernel_rfl
def saronlaw05_CycleTrue.T19 : Bool × List (List Nat × List Nat) := (true, [([], []), ([], []), ([], []), ([1, 2], [1, 2]), ([3], [3]), ([], []), ([0, 4, 5], [0, 4, 5]), ([6], [6]), ([7], [7]), ([7], [7]), ([8, 6, 0, 1, 2, 3, 4, 5, 6, 7, 8], [8]), ([9, 10, 0, 1, 2, 3, 4, 5, 6, 7, 8, 9, 10], [9])])
def saronlaw05_CycleTrue.B19 : List Nat := [0, 0, 0, 6, 14, 0, 63, 127, 255, 255, 511, 2047]
theorem saronlaw05_CycleTrue.tab19 : rtab .any (opsOf Tryd.f8 19) = saronlaw05_CycleTrue.T19 := by kernel_rfl
theorem saronlaw05_CycleTrue.bits19 : waitsOk saronlaw05_CycleTrue.T19.2 saronlaw05_CycleTrue.B19 = true := by kernel_rfl
set_option maxHeartbeats 8000000 in
set_option maxRecDepth 100000 in
theorem saronlaw05_CycleTrue.calls (k : Nat) (a0_0 : Int) (A0_1 : Option Addr) (c0_1 : Nat) (l0_1 : List (S63)) (a1_0 : Int) (a1_1 : Int) (a1_2 : Int) (a1_3 : Int) (A2 : Option Addr) (c2 : Nat) (l2 : List Int) (r : Bool) (w : World) (hr0_1 : Kd.C k63 w A0_1 l0_1.length l0_1) (hc0_1 : l0_1.length ≤ c0_1) (hr2 : Kd.C (Kd.int .i64) w A2 l2.length l2) (hc2 : l2.length ≤ c2) (hG : Glob w) (h : saronlaw05_CycleTrue.f k a0_0 l0_1 a1_0 a1_1 a1_2 a1_3 l2 = some r) :
  Calls Tryd.prog 8 #[.agg #[.int .i64 a0_0, .slice A0_1 l0_1.length c0_1], .agg #[.int .i64 a1_0, .int .i64 a1_1, .int .i64 a1_2, .int .i64 a1_3], .slice A2 l2.length c2] w fun e w' => e = .returned (.bool r) ∧ Below w.heap.size w w' := by
 have hu24 := Tryd.underlying24
 have hu67 := Tryd.underlying67
 have hu55 := Tryd.underlying55
 have hu38 := Tryd.underlying38
 have HR0_1 := Aside0.mk hr0_1
 have HC0_1 := Aside0.mk hc0_1
 clear hr0_1 hc0_1
 have HR2 := Aside0.mk hr2
 have HC2 := Aside0.mk hc2
 clear hr2 hc2
 have HB := Aside0.mk (Below.refl w.heap.size w)
 have HG := Aside0.mk hG
 clear hG
 have H : ((saronlaw05_sound.f k a0_0 l0_1).bind fun t213 => (if t213 = true then ((saronlaw05_spot.f a0_0 l0_1 a1_0 a1_1).bind fun bt215 => ((saronref00_Turn.f a1_2 64).bind fun t218 => ((saronref00_Turn.f a1_3 7).bind fun t219 => ((cycle_Passage.f a0_0 l0_1 bt215.1 bt215.2 (wrap64 (1 + t218))).bind fun bt220 => (if bt220.2 = 0 then (saronlaw05_CycleTrue.j0 k l2 t219 bt220.1 ((bt220.1.length : Int) != (wrap64 (1 + t218))) a0_0 l0_1 bt215.1 bt215.2) else (saronlaw05_CycleTrue.j0 k l2 t219 bt220.1 true a0_0 l0_1 bt215.1 bt215.2)))))) else ((saronlaw05_marked.f).bind fun t214 => (some t214)))) = some r := h
 clear h
 replace H := Option.bind_eq_some_iff.mp H
 obtain ⟨t213, A40, H⟩ := H
 replace H : (if t213 = true then ((saronlaw05_spot.f a0_0 l0_1 a1_0 a1_1).bind fun bt215 => ((saronref00_Turn.f a1_2 64).bind fun t218 => ((saronref00_Turn.f a1_3 7).bind fun t219 => ((cycle_Passage.f a0_0 l0_1 bt215.1 bt215.2 (wrap64 (1 + t218))).bind fun bt220 => (if bt220.2 = 0 then (saronlaw05_CycleTrue.j0 k l2 t219 bt220.1 ((bt220.1.length : Int) != (wrap64 (1 + t218))) a0_0 l0_1 bt215.1 bt215.2) else (saronlaw05_CycleTrue.j0 k l2 t219 bt220.1 true a0_0 l0_1 bt215.1 bt215.2)))))) else ((saronlaw05_marked.f).bind fun t214 => (some t214))) = some r := H
 have A4 := Aside0.mk A40
 clear A40
 by_cases c5 : t213 = true
 ·subst c5
  have H1 : ((saronlaw05_spot.f a0_0 l0_1 a1_0 a1_1).bind fun bt215 => ((saronref00_Turn.f a1_2 64).bind fun t218 => ((saronref00_Turn.f a1_3 7).bind fun t219 => ((cycle_Passage.f a0_0 l0_1 bt215.1 bt215.2 (wrap64 (1 + t218))).bind fun bt220 => (if bt220.2 = 0 then (saronlaw05_CycleTrue.j0 k l2 t219 bt220.1 ((bt220.1.length : Int) != (wrap64 (1 + t218))) a0_0 l0_1 bt215.1 bt215.2) else (saronlaw05_CycleTrue.j0 k l2 t219 bt220.1 true a0_0 l0_1 bt215.1 bt215.2)))))) = some r := by rw [if_pos rfl] at H; exact H
  clear H
  have H := H1
  clear H1
  replace H := Option.bind_eq_some_iff.mp H
  obtain ⟨⟨t215, t216⟩, A60, H⟩ := H
  replace H : ((saronref00_Turn.f a1_2 64).bind fun t218 => ((saronref00_Turn.f a1_3 7).bind fun t219 => ((cycle_Passage.f a0_0 l0_1 t215 t216 (wrap64 (1 + t218))).bind fun bt220 => (if bt220.2 = 0 then (saronlaw05_CycleTrue.j0 k l2 t219 bt220.1 ((bt220.1.length : Int) != (wrap64 (1 + t218))) a0_0 l0_1 t215 t216) else (saronlaw05_CycleTrue.j0 k l2 t219 bt220.1 true a0_0 l0_1 t215 t216))))) = some r := H
  have A6 := Aside0.mk A60
  clear A60
  replace H := Option.bind_eq_some_iff.mp H
  obtain ⟨t218, A70, H⟩ := H
  replace H : ((saronref00_Turn.f a1_3 7).bind fun t219 => ((cycle_Passage.f a0_0 l0_1 t215 t216 (wrap64 (1 + t218))).bind fun bt220 => (if bt220.2 = 0 then (saronlaw05_CycleTrue.j0 k l2 t219 bt220.1 ((bt220.1.length : Int) != (wrap64 (1 + t218))) a0_0 l0_1 t215 t216) else (saronlaw05_CycleTrue.j0 k l2 t219 bt220.1 true a0_0 l0_1 t215 t216)))) = some r := H
  have A7 := Aside0.mk A70
  clear A70
  replace H := Option.bind_eq_some_iff.mp H
  obtain ⟨t219, A80, H⟩ := H
  replace H : ((cycle_Passage.f a0_0 l0_1 t215 t216 (wrap64 (1 + t218))).bind fun bt220 => (if bt220.2 = 0 then (saronlaw05_CycleTrue.j0 k l2 t219 bt220.1 ((bt220.1.length : Int) != (wrap64 (1 + t218))) a0_0 l0_1 t215 t216) else (saronlaw05_CycleTrue.j0 k l2 t219 bt220.1 true a0_0 l0_1 t215 t216))) = some r := H
  have A8 := Aside0.mk A80
  clear A80
  replace H := Option.bind_eq_some_iff.mp H
  obtain ⟨⟨t220, t223⟩, A90, H⟩ := H
  replace H : (if t223 = 0 then (saronlaw05_CycleTrue.j0 k l2 t219 t220 ((t220.length : Int) != (wrap64 (1 + t218))) a0_0 l0_1 t215 t216) else (saronlaw05_CycleTrue.j0 k l2 t219 t220 true a0_0 l0_1 t215 t216)) = some r := H
  have A9 := Aside0.mk A90
  clear A90
  have HC10 := Aside0.mk H
  clear H
  go_enter Tryd.func8, Tryd.ntmps8
  try go_wp2_with (first | ((with_reducible refine gate_dst (N := 3) rfl ?_); (try (refine gate_guard (by rfl) ?_; dsimp only)); refine box_event ?hg (N := 3) ?hd (cs := #[.int .i64 a0_0, .slice A0_1 l0_1.length c0_1]) (t := 24) ?hr ?_; (case hd => rfl); (case hg => rfl); (case hr => exact TS); intro gb211 hg w11 hbox hb; have BK211 := Aside0.mk (hbox); have GW211 := Aside0.mk ((TG : w.heap.size ≤ gb211)); have GE211 := Aside0.mk ((TG : w.heap.size ≤ gb211)); replace HB := Aside0.mk (below_step TB hb); clear hb hbox hg) | ((with_reducible refine gate_dst (N := 4) rfl ?_); (try (refine gate_guard (by rfl) ?_; dsimp only)); refine box_event ?hg (N := 4) ?hd (cs := #[.int .i64 a1_0, .int .i64 a1_1, .int .i64 a1_2, .int .i64 a1_3]) (t := 67) ?hr ?_; (case hd => rfl); (case hg => rfl); (case hr => exact TS); intro gb212 hg w12 hbox hb; have BK212 := Aside0.mk (hbox); have GW212 := Aside0.mk ((TG1 GE211.out : w.heap.size ≤ gb212)); have GE212 := Aside0.mk ((TG1 GE211.out : w.heap.size ≤ gb212)); have NB211_212 := Aside0.mk ((by rw [hg]; exact Nat.ne_of_lt (blk_lt (g := gb211) (o := .cells #[.int .i64 a0_0, .slice A0_1 l0_1.length c0_1] 24 (0, 0)) (by (with_reducible repeat (first | refine blk_drewN ?_ _ | refine blk_drew ?_ | refine blk_alloc ?_ _)); exact BK211.out)) : gb211 ≠ gb212)); have NB212_211 := Aside0.mk ((by rw [hg]; exact Nat.ne_of_gt (blk_lt (g := gb211) (o := .cells #[.int .i64 a0_0, .slice A0_1 l0_1.length c0_1] 24 (0, 0)) (by (with_reducible repeat (first | refine blk_drewN ?_ _ | refine blk_drew ?_ | refine blk_alloc ?_ _)); exact BK211.out)) : gb212 ≠ gb211)); replace BK211 := Aside0.mk (blk_below (g := gb211) (o := .cells #[.int .i64 a0_0, .slice A0_1 l0_1.length c0_1] 24 (0, 0)) (by (with_reducible repeat (first | refine blk_drewN ?_ _ | refine blk_drew ?_ | refine blk_alloc ?_ _)); exact BK211.out) hb); replace HB := Aside0.mk (below_step (TB1 GE211.out) hb); clear hb hbox hg; have hnb13 := NB211_212.out; have hnc13 := NB212_211.out; have hcz14_0 := czz BK211.out 0; have hcz14_1 := czz BK211.out 1; have hfz14_0 := fz BK211.out 0; have hfz14_1 := fz BK211.out 1) | ((with_reducible refine gate_callee (f := 39) rfl ?_); refine goesL_ (some 24) rfl rfl Tryd.func39 (by kernel_rfl) rfl #[.agg #[.int .i64 a0_0, .slice A0_1 l0_1.length c0_1]] rfl TM ?_; (with_reducible refine (saronlaw05_sound.calls k a0_0 _ _ l0_1 true _ ?side1 ?side2 A4.out).mono ?_); (case side1 => exact TC HR0_1.out); (case side2 => exact HC0_1.out); rintro e w15 ⟨rfl, hb⟩; refine ⟨_, rfl, ?_⟩; replace BK211 := Aside0.mk (blk_below (g := gb211) (o := .cells #[.int .i64 a0_0, .slice A0_1 l0_1.length c0_1] 24 (0, 0)) (by (with_reducible repeat (first | refine blk_drewN ?_ _ | refine blk_drew ?_ | refine blk_alloc ?_ _)); exact BK211.out) hb); replace BK212 := Aside0.mk (blk_below (g := gb212) (o := .cells #[.int .i64 a1_0, .int .i64 a1_1, .int .i64 a1_2, .int .i64 a1_3] 67 (0, 0)) (by (with_reducible repeat (first | refine blk_drewN ?_ _ | refine blk_drew ?_ | refine blk_alloc ?_ _)); exact BK212.out) hb); replace HB := Aside0.mk (below_step (TB2 GE211.out GE212.out) hb); (try clear hb); (try clear hb2); (try clear hk); (try clear hi); have hcz16_0 := czz BK211.out 0; have hcz16_1 := czz BK211.out 1; have hfz16_0 := fz BK211.out 0; have hfz16_1 := fz BK211.out 1; have hcz17_0 := czz BK212.out 0; have hcz17_1 := czz BK212.out 1; have hcz17_2 := czz BK212.out 2; have hcz17_3 := czz BK212.out 3; have hfz17_0 := fz BK212.out 0; have hfz17_1 := fz BK212.out 1; have hfz17_2 := fz BK212.out 2; have hfz17_3 := fz BK212.out 3) | ((with_reducible refine gate_callee (f := 44) rfl ?_); refine goesL_ (some 33) rfl rfl Tryd.func44 (by kernel_rfl) rfl #[.agg #[.int .i64 a0_0, .slice A0_1 l0_1.length c0_1], .agg #[.int .i64 a1_0, .int .i64 a1_1]] rfl TM ?_; (with_reducible refine (saronlaw05_spot.calls a0_0 _ _ l0_1 a1_0 a1_1 t215 t216 _ ?side1 ?side2 A6.out).mono ?_); (case side1 => exact TC HR0_1.out); (case side2 => exact HC0_1.out); rintro e w18 ⟨rfl, hb⟩; refine ⟨_, rfl, ?_⟩; replace BK211 := Aside0.mk (blk_below (g := gb211) (o := .cells #[.int .i64 a0_0, .slice A0_1 l0_1.length c0_1] 24 (0, 0)) (by (with_reducible repeat (first | refine blk_drewN ?_ _ | refine blk_drew ?_ | refine blk_alloc ?_ _)); exact BK211.out) hb); replace BK212 := Aside0.mk (blk_below (g := gb212) (o := .cells #[.int .i64 a1_0, .int .i64 a1_1, .int .i64 a1_2, .int .i64 a1_3] 67 (0, 0)) (by (with_reducible repeat (first | refine blk_drewN ?_ _ | refine blk_drew ?_ | refine blk_alloc ?_ _)); exact BK212.out) hb); replace HB := Aside0.mk (below_step (TB2 GE211.out GE212.out) hb); (try clear hb); (try clear hb2); (try clear hk); (try clear hi)) | ((with_reducible refine gate_dst (N := 7) rfl ?_); (try (refine gate_guard (by rfl) ?_; dsimp only)); refine box_event ?hg (N := 7) ?hd (cs := #[.int .i64 0, .int .i64 0]) (t := 38) ?hr ?_; (case hd => rfl); (case hg => rfl); (case hr => exact TS); intro gb217 hg w19 hbox hb; have BK217 := Aside0.mk (hbox); have GW217 := Aside0.mk ((TG2 GE211.out GE212.out : w.heap.size ≤ gb217)); have GE217 := Aside0.mk ((TG2 GE211.out GE212.out : w.heap.size ≤ gb217)); have NB211_217 := Aside0.mk ((by rw [hg]; exact Nat.ne_of_lt (blk_lt (g := gb211) (o := .cells #[.int .i64 a0_0, .slice A0_1 l0_1.length c0_1] 24 (0, 0)) (by (with_reducible repeat (first | refine blk_drewN ?_ _ | refine blk_drew ?_ | refine blk_alloc ?_ _)); exact BK211.out)) : gb211 ≠ gb217)); have NB217_211 := Aside0.mk ((by rw [hg]; exact Nat.ne_of_gt (blk_lt (g := gb211) (o := .cells #[.int .i64 a0_0, .slice A0_1 l0_1.length c0_1] 24 (0, 0)) (by (with_reducible repeat (first | refine blk_drewN ?_ _ | refine blk_drew ?_ | refine blk_alloc ?_ _)); exact BK211.out)) : gb217 ≠ gb211)); have NB212_217 := Aside0.mk ((by rw [hg]; exact Nat.ne_of_lt (blk_lt (g := gb212) (o := .cells #[.int .i64 a1_0, .int .i64 a1_1, .int .i64 a1_2, .int .i64 a1_3] 67 (0, 0)) (by (with_reducible repeat (first | refine blk_drewN ?_ _ | refine blk_drew ?_ | refine blk_alloc ?_ _)); exact BK212.out)) : gb212 ≠ gb217)); have NB217_212 := Aside0.mk ((by rw [hg]; exact Nat.ne_of_gt (blk_lt (g := gb212) (o := .cells #[.int .i64 a1_0, .int .i64 a1_1, .int .i64 a1_2, .int .i64 a1_3] 67 (0, 0)) (by (with_reducible repeat (first | refine blk_drewN ?_ _ | refine blk_drew ?_ | refine blk_alloc ?_ _)); exact BK212.out)) : gb217 ≠ gb212)); replace BK211 := Aside0.mk (blk_below (g := gb211) (o := .cells #[.int .i64 a0_0, .slice A0_1 l0_1.length c0_1] 24 (0, 0)) (by (with_reducible repeat (first | refine blk_drewN ?_ _ | refine blk_drew ?_ | refine blk_alloc ?_ _)); exact BK211.out) hb); replace BK212 := Aside0.mk (blk_below (g := gb212) (o := .cells #[.int .i64 a1_0, .int .i64 a1_1, .int .i64 a1_2, .int .i64 a1_3] 67 (0, 0)) (by (with_reducible repeat (first | refine blk_drewN ?_ _ | refine blk_drew ?_ | refine blk_alloc ?_ _)); exact BK212.out) hb); replace HB := Aside0.mk (below_step (TB2 GE211.out GE212.out) hb); clear hb hbox hg; have hnb20 := NB217_211.out; have hnc20 := NB211_217.out; have hnb21 := NB217_212.out; have hnc21 := NB212_217.out; have hcz22_0 := czz BK217.out 0; have hcz22_1 := czz BK217.out 1; have hfz22_0 := fz BK217.out 0; have hfz22_1 := fz BK217.out 1))
  have n0_ : Aside0 (((w19.setCell ⟨gb217, 0, none⟩ (.int .i64 t215)).setCell ⟨gb217, 1, none⟩ (.int .i64 t216)).heap[gb211]? = some (.cells #[.int .i64 a0_0, .slice A0_1 l0_1.length c0_1] 24 (0, 0))) := ⟨by (with_reducible repeat (first | refine blk_drewN ?_ _ | refine blk_drew ?_ | refine blk_alloc ?_ _)); refine blk_far ?_ NB211_217.out _; (with_reducible repeat (first | refine blk_drewN ?_ _ | refine blk_drew ?_ | refine blk_alloc ?_ _)); refine blk_far ?_ NB211_217.out _; (with_reducible repeat (first | refine blk_drewN ?_ _ | refine blk_drew ?_ | refine blk_alloc ?_ _)); exact BK211.out⟩
  have n1_ : Aside0 (((w19.setCell ⟨gb217, 0, none⟩ (.int .i64 t215)).setCell ⟨gb217, 1, none⟩ (.int .i64 t216)).heap[gb212]? = some (.cells #[.int .i64 a1_0, .int .i64 a1_1, .int .i64 a1_2, .int .i64 a1_3] 67 (0, 0))) := ⟨by (with_reducible repeat (first | refine blk_drewN ?_ _ | refine blk_drew ?_ | refine blk_alloc ?_ _)); refine blk_far ?_ NB212_217.out _; (with_reducible repeat (first | refine blk_drewN ?_ _ | refine blk_drew ?_ | refine blk_alloc ?_ _)); refine blk_far ?_ NB212_217.out _; (with_reducible repeat (first | refine blk_drewN ?_ _ | refine blk_drew ?_ | refine blk_alloc ?_ _)); exact BK212.out⟩
  have n2_ : Aside0 (((w19.setCell ⟨gb217, 0, none⟩ (.int .i64 t215)).setCell ⟨gb217, 1, none⟩ (.int .i64 t216)).heap[gb217]? = some (.cells #[.int .i64 t215, .int .i64 t216] 38 (0, 0))) := ⟨by (with_reducible repeat (first | refine blk_drewN ?_ _ | refine blk_drew ?_ | refine blk_alloc ?_ _)); refine blk_put (cs := #[.int .i64 t215, .int .i64 0]) ?_ 1 _ rfl; (with_reducible repeat (first | refine blk_drewN ?_ _ | refine blk_drew ?_ | refine blk_alloc ?_ _)); refine blk_put (cs := #[.int .i64 0, .int .i64 0]) ?_ 0 _ rfl; (with_reducible repeat (first | refine blk_drewN ?_ _ | refine blk_drew ?_ | refine blk_alloc ?_ _)); exact BK217.out⟩
  have n3_ : Aside0 (Below w.heap.size w ((w19.setCell ⟨gb217, 0, none⟩ (.int .i64 t215)).setCell ⟨gb217, 1, none⟩ (.int .i64 t216))) := ⟨TB3 GE211.out GE212.out GE217.out⟩
  (try clear BK211)
  (try clear BK212)
  (try clear BK217)
  (try clear HB)
  generalize ((w19.setCell ⟨gb217, 0, none⟩ (.int .i64 t215)).setCell ⟨gb217, 1, none⟩ (.int .i64 t216)) = w23 at n0_ n1_ n2_ n3_ ⊢
  have BK211 := n0_
  have BK212 := n1_
  have BK217 := n2_
  have HB := n3_
  clear n0_ n1_ n2_ n3_
  have n0_ := Aside0.mk (blk_drew BK211.out)
  have n1_ := Aside0.mk (blk_drew BK212.out)
  have n2_ := Aside0.mk (blk_drew BK217.out)
  have n3_ := Aside0.mk (below_drew1 HB.out)
  clear BK211
  clear BK212
  clear BK217
  clear HB
  have BK211 := n0_
  have BK212 := n1_
  have BK217 := n2_
  have HB := n3_
  clear n0_ n1_ n2_ n3_
  refine start_ (n := 9) (S := fun w' => w'.cell? ⟨gb212, 0, none⟩ = some (.int .i64 a1_0) ∧ w'.cell? ⟨gb212, 1, none⟩ = some (.int .i64 a1_1) ∧ w'.cell? ⟨gb212, 2, none⟩ = some (.int .i64 a1_2) ∧ w'.cell? ⟨gb212, 3, none⟩ = some (.int .i64 a1_3)) (ds := []) (.replicate 9 false) (by kernel_rfl) rfl rfl ⟨czz BK212.out 0, czz BK212.out 1, czz BK212.out 2, czz BK212.out 3⟩ (fun hHeld => ?_); refine with_tabW saronlaw05_CycleTrue.tab4 saronlaw05_CycleTrue.bits4 (fun HT_ HW_ => ?_)
  generalize w23.drew = w24 at BK211 BK212 BK217 HB hHeld ⊢
  refine pT 0 34 (bt 9 1) (k := ?_)
  refine pT 4 38 (bt 9 17) (k := ?_)
  refine tT4 1 35 (bt 9 19) hHeld (k := ?_)
  refine tT4 5 39 (bt 9 51) hHeld (k := ?_)
  refine one_ (i := 2) (N := some 36) (bt 9 55) rfl rfl (one_of HT_.out (by kernel_rfl)) (by decide) (fun K hK => ?_)
  refine goes_ Tryd.func40 (by kernel_rfl) rfl #[.int .i64 a1_2, .int .i64 64] (by rfl) rfl rfl TM ?_
  with_reducible refine (saronref00_Turn.calls a1_2 64 t218 _ A7.out).mono ?_
  rintro e w' ⟨rfl, ⟨nd, rfl⟩⟩
  refine ⟨_, rfl, ?_⟩
  refine hK.out _ _ ⟨czz BK212.out 0, czz BK212.out 1, czz BK212.out 2, czz BK212.out 3⟩ (fun hHeld => ?_)
  clear hK K
  refine norm_ (a' := ?_) ?_ ?_
  rotate_left
  ·show Act.put _ (some 36) _ = _
   simp only [Act.put, lA, lZ, lS, i64_w, i32_w]
   rfl
  refine pT 3 37 (bt 9 63) (k := ?_)
  refine one_ (i := 6) (N := some 40) (bt 9 127) rfl rfl (one_of HT_.out (by kernel_rfl)) (by decide) (fun K hK => ?_)
  refine goes_ Tryd.func40 (by kernel_rfl) rfl #[.int .i64 a1_3, .int .i64 7] (by rfl) rfl rfl TM ?_
  with_reducible refine (saronref00_Turn.calls a1_3 7 t219 _ A8.out).mono ?_
  rintro e w' ⟨rfl, ⟨nd, rfl⟩⟩
  refine ⟨_, rfl, ?_⟩
  refine hK.out _ _ ⟨czz BK212.out 0, czz BK212.out 1, czz BK212.out 2, czz BK212.out 3⟩ (fun hHeld => ?_)
  clear hK K
  refine norm_ (a' := ?_) ?_ ?_
  rotate_left
  ·show Act.put _ (some 40) _ = _
   simp only [Act.put, lA, lZ, lS, i64_w, i32_w]
   rfl
  refine pT 7 8 (bt 9 255) (k := ?_)
  refine pT 8 9 (bt 9 511) (k := ?_)
  refine done_ (done_of HT_.out (by kernel_rfl)) ?_
  have hcz25_0 := czz BK211.out 0
  have hcz25_1 := czz BK211.out 1
  have hfz25_0 := fz BK211.out 0
  have hfz25_1 := fz BK211.out 1
  have hcz26_0 := czz BK217.out 0
  have hcz26_1 := czz BK217.out 1
  have hfz26_0 := fz BK217.out 0
  have hfz26_1 := fz BK217.out 1
  go_upto_region 6 with (first | ((with_reducible refine gate_callee (f := 24) rfl ?_); refine goesL_ (some 45) rfl rfl Tryd.func24 (by kernel_rfl) rfl #[.agg #[.int .i64 a0_0, .slice A0_1 l0_1.length c0_1], .agg #[.int .i64 t215, .int .i64 t216], .int .i64 (wrap64 (1 + t218))] rfl TM ?_; (with_reducible refine (cycle_Passage.calls a0_0 _ _ l0_1 t215 t216 (wrap64 (1 + t218)) t220 t223 _ ?side1 ?side2 ?side3 A9.out).mono ?_); (case side1 => exact TD HR0_1.out (TB3 GE211.out GE212.out GE217.out)); (case side2 => exact HC0_1.out); (case side3 => exact Glob.fr HG.out (Fr.of_below (TB3 GE211.out GE212.out GE217.out))); rintro e w27 ⟨v221, rfl, ho0, hb⟩; refine ⟨_, rfl, ?_⟩; have HO222 := Aside0.mk (Kd.V_lower (Kd.V_mono (ok' := fun k_ => k_ ≠ gb211 ∧ k_ ≠ gb212 ∧ k_ ≠ gb217) ho0 (fun k_ hk_ => ⟨(Kd.freshB (g := gb211) (o := .cells #[.int .i64 a0_0, .slice A0_1 l0_1.length c0_1] 24 (0, 0)) (by (with_reducible repeat (first | refine blk_drewN ?_ _ | refine blk_drew ?_ | refine blk_alloc ?_ _)); exact BK211.out) k_ hk_), (Kd.freshB (g := gb212) (o := .cells #[.int .i64 a1_0, .int .i64 a1_1, .int .i64 a1_2, .int .i64 a1_3] 67 (0, 0)) (by (with_reducible repeat (first | refine blk_drewN ?_ _ | refine blk_drew ?_ | refine blk_alloc ?_ _)); exact BK212.out) k_ hk_), (Kd.freshB (g := gb217) (o := .cells #[.int .i64 t215, .int .i64 t216] 38 (0, 0)) (by (with_reducible repeat (first | refine blk_drewN ?_ _ | refine blk_drew ?_ | refine blk_alloc ?_ _)); exact BK217.out) k_ hk_)⟩)) (below_size (TB3 GE211.out GE212.out GE217.out))); replace BK211 := Aside0.mk (blk_below (g := gb211) (o := .cells #[.int .i64 a0_0, .slice A0_1 l0_1.length c0_1] 24 (0, 0)) (by (with_reducible repeat (first | refine blk_drewN ?_ _ | refine blk_drew ?_ | refine blk_alloc ?_ _)); exact BK211.out) hb); replace BK212 := Aside0.mk (blk_below (g := gb212) (o := .cells #[.int .i64 a1_0, .int .i64 a1_1, .int .i64 a1_2, .int .i64 a1_3] 67 (0, 0)) (by (with_reducible repeat (first | refine blk_drewN ?_ _ | refine blk_drew ?_ | refine blk_alloc ?_ _)); exact BK212.out) hb); replace BK217 := Aside0.mk (blk_below (g := gb217) (o := .cells #[.int .i64 t215, .int .i64 t216] 38 (0, 0)) (by (with_reducible repeat (first | refine blk_drewN ?_ _ | refine blk_drew ?_ | refine blk_alloc ?_ _)); exact BK217.out) hb); replace HB := Aside0.mk (below_step (TB3 GE211.out GE212.out GE217.out) hb); (try clear hb); (try clear hb2); (try clear hk); (try clear hi); (try clear ho0)))
  (try simp only [Act.put, lA, lZ, lS])
  go_cut [55] (fun v55 wc => ∃ (kq : Nat) (x55_9 : Bool), v55 = .bool x55_9 ∧ Aside0 (saronlaw05_CycleTrue.j0 kq l2 t219 t220 x55_9 a0_0 l0_1 t215 t216 = some r) ∧ Aside0 (kq ≤ k) ∧ Aside0 (Kd.V (Kd.slice 3 (Kd.int .i64)) 26 wc w.heap.size (fun k_ => k_ ≠ gb211 ∧ k_ ≠ gb212 ∧ k_ ≠ gb217) v221 t220) ∧ Aside0 (wc.heap[gb211]? = some (.cells #[.int .i64 a0_0, (.slice A0_1 l0_1.length c0_1)] 24 (0, 0))) ∧ Aside0 (wc.heap[gb212]? = some (.cells #[.int .i64 a1_0, .int .i64 a1_1, .int .i64 a1_2, .int .i64 a1_3] 67 (0, 0))) ∧ Aside0 (wc.heap[gb217]? = some (.cells #[.int .i64 t215, .int .i64 t216] 38 (0, 0))) ∧ Aside0 (Below w.heap.size w wc))
  case first => as_aux_lemma =>
   have H := HC10.out
   clear HC10
   by_cases c28 : t223 = 0
   ·rw [if_pos c28] at H
    have c28b0 : (t223 == 0) = true := beq_iff_eq.mpr c28
    have c28b1 : (t223 != 0) = false := bne_eq_false_iff_eq.mpr c28
    clear c28
    (first | rw [c28b0] | (simp only [i64_w, i32_w]; rw [c28b0]) | skip)
    have H' := Aside0.mk H
    clear H
    obtain ⟨Ao29, co29, eo29⟩ := Kd.V_slice HO222.out
    subst eo29
    go_wp2
    go_meet
    case rel => exact ⟨_, (((t220.length : Int) != (wrap64 (1 + t218)))), TT, H', ⟨by first | omega | exact Nat.le_refl _⟩, ⟨by (with_reducible repeat (first | apply Kd.V_alloc | apply Kd.V_drewN | apply Kd.V_drew)); exact HO222.out⟩, ⟨by (with_reducible repeat (first | refine blk_drewN ?_ _ | refine blk_drew ?_ | refine blk_alloc ?_ _)); exact BK211.out⟩, ⟨by (with_reducible repeat (first | refine blk_drewN ?_ _ | refine blk_drew ?_ | refine blk_alloc ?_ _)); exact BK212.out⟩, ⟨by (with_reducible repeat (first | refine blk_drewN ?_ _ | refine blk_drew ?_ | refine blk_alloc ?_ _)); exact BK217.out⟩, ⟨TB3 GE211.out GE212.out GE217.out⟩⟩
   ·rw [if_neg c28] at H
    have c28b0 : (t223 == 0) = false := beq_eq_false_iff_ne.mpr c28
    have c28b1 : (t223 != 0) = true := bne_iff_ne.mpr c28
    (first | rw [c28b0] | (simp only [i64_w, i32_w]; rw [c28b0]) | skip)
    have H' := Aside0.mk H
    clear H
    go_wp2
    go_meet
    case rel => exact ⟨_, (true), TT, H', ⟨by first | omega | exact Nat.le_refl _⟩, ⟨by (with_reducible repeat (first | apply Kd.V_alloc | apply Kd.V_drewN | apply Kd.V_drew)); exact HO222.out⟩, ⟨by (with_reducible repeat (first | refine blk_drewN ?_ _ | refine blk_drew ?_ | refine blk_alloc ?_ _)); exact BK211.out⟩, ⟨by (with_reducible repeat (first | refine blk_drewN ?_ _ | refine blk_drew ?_ | refine blk_alloc ?_ _)); exact BK212.out⟩, ⟨by (with_reducible repeat (first | refine blk_drewN ?_ _ | refine blk_drew ?_ | refine blk_alloc ?_ _)); exact BK217.out⟩, ⟨TB3 GE211.out GE212.out GE217.out⟩⟩
  case rest => as_aux_lemma =>
   clear HC10
   try clear c1
   try clear c2
   try clear p2
   try clear c3
   try clear c4
   try clear c5
   try clear p6
   try clear c8
   try clear c13
   try clear c20
   try clear c21
   try clear c24
   try clear c28
   try clear c28b0
   try clear c28b1
   try clear hcz14_0 hcz14_1
   try clear hcz16_0 hcz16_1
   try clear hcz17_0 hcz17_1 hcz17_2 hcz17_3
   try clear hcz22_0 hcz22_1
   try clear hcz25_0 hcz25_1
   try clear hcz26_0 hcz26_1
   try clear hfz14_0 hfz14_1
   try clear hfz16_0 hfz16_1
   try clear hfz17_0 hfz17_1 hfz17_2 hfz17_3
   try clear hfz22_0 hfz22_1
   try clear hfz25_0 hfz25_1
   try clear hfz26_0 hfz26_1
   try clear HO_10
   try clear BK211
   try clear BK212
   try clear BK217
   try clear HB
   obtain ⟨kq, x55_9, rfl, HA, HJ9, HO_10, BK211, BK212, BK217, HB⟩ := hcut
   cases kq with
   | zero => exact absurd HA.out (by simp [saronlaw05_CycleTrue.j0])
   | succ kj9 =>
    have H := HA.out
    clear HA
    simp only [saronlaw05_CycleTrue.j0] at H
    by_cases c30 : x55_9 = true
    ·subst c30
     have H1 : (some false) = some r := by rw [if_pos rfl] at H; exact H
     clear H
     have H := H1
     clear H1
     obtain rfl := Option.some.inj H
     go_wp2
     go_ret
     exact ⟨TR, TB3 GE211.out GE212.out GE217.out⟩
    ·replace c30 := Bool.eq_false_iff.mpr c30
     subst c30
     have H1 : ((saronlaw05_missed.f kj9 t220 t219 l2).bind fun bt224 => ((cycle_Places.f a0_0 l0_1 bt224.1 t219).bind fun bt230 => ((cycle_Missing.f a0_0 l0_1 t215 t216 bt224.1).bind fun bt234 => ((cycle_Least.f a0_0 l0_1 bt224.1).bind fun bt238 => (if bt230.2 = 0 then (if bt234.2 = 0 then (if bt238.2 = 0 then ((saronref00_Sits.f bt238.1 0 (bt224.2.length : Int)).bind fun t240 => (if t240 = true then ((saronref05_SameStrokes.f kj9 bt234.1 bt224.2).bind fun t241 => (saronlaw05_CycleTrue.j1 kj9 t219 bt224.1 bt230.1 bt238.1 (!t241) a0_0 l0_1 t215 t216)) else (saronlaw05_CycleTrue.j1 kj9 t219 bt224.1 bt230.1 bt238.1 true a0_0 l0_1 t215 t216))) else (saronlaw05_CycleTrue.j1 kj9 t219 bt224.1 bt230.1 bt238.1 true a0_0 l0_1 t215 t216)) else (saronlaw05_CycleTrue.j1 kj9 t219 bt224.1 bt230.1 bt238.1 true a0_0 l0_1 t215 t216)) else (saronlaw05_CycleTrue.j1 kj9 t219 bt224.1 bt230.1 bt238.1 true a0_0 l0_1 t215 t216)))))) = some r := by rw [if_neg (show ¬ (false = true) by decide)] at H; exact H
     clear H
     have H := H1
     clear H1
     replace H := Option.bind_eq_some_iff.mp H
     obtain ⟨⟨t224, t225⟩, A310, H⟩ := H
     replace H : ((cycle_Places.f a0_0 l0_1 t224 t219).bind fun bt230 => ((cycle_Missing.f a0_0 l0_1 t215 t216 t224).bind fun bt234 => ((cycle_Least.f a0_0 l0_1 t224).bind fun bt238 => (if bt230.2 = 0 then (if bt234.2 = 0 then (if bt238.2 = 0 then ((saronref00_Sits.f bt238.1 0 (t225.length : Int)).bind fun t240 => (if t240 = true then ((saronref05_SameStrokes.f kj9 bt234.1 t225).bind fun t241 => (saronlaw05_CycleTrue.j1 kj9 t219 t224 bt230.1 bt238.1 (!t241) a0_0 l0_1 t215 t216)) else (saronlaw05_CycleTrue.j1 kj9 t219 t224 bt230.1 bt238.1 true a0_0 l0_1 t215 t216))) else (saronlaw05_CycleTrue.j1 kj9 t219 t224 bt230.1 bt238.1 true a0_0 l0_1 t215 t216)) else (saronlaw05_CycleTrue.j1 kj9 t219 t224 bt230.1 bt238.1 true a0_0 l0_1 t215 t216)) else (saronlaw05_CycleTrue.j1 kj9 t219 t224 bt230.1 bt238.1 true a0_0 l0_1 t215 t216))))) = some r := H
     have A31 := Aside0.mk A310
     clear A310
     replace H := Option.bind_eq_some_iff.mp H
     obtain ⟨⟨t230, t233⟩, A320, H⟩ := H
     replace H : ((cycle_Missing.f a0_0 l0_1 t215 t216 t224).bind fun bt234 => ((cycle_Least.f a0_0 l0_1 t224).bind fun bt238 => (if t233 = 0 then (if bt234.2 = 0 then (if bt238.2 = 0 then ((saronref00_Sits.f bt238.1 0 (t225.length : Int)).bind fun t240 => (if t240 = true then ((saronref05_SameStrokes.f kj9 bt234.1 t225).bind fun t241 => (saronlaw05_CycleTrue.j1 kj9 t219 t224 t230 bt238.1 (!t241) a0_0 l0_1 t215 t216)) else (saronlaw05_CycleTrue.j1 kj9 t219 t224 t230 bt238.1 true a0_0 l0_1 t215 t216))) else (saronlaw05_CycleTrue.j1 kj9 t219 t224 t230 bt238.1 true a0_0 l0_1 t215 t216)) else (saronlaw05_CycleTrue.j1 kj9 t219 t224 t230 bt238.1 true a0_0 l0_1 t215 t216)) else (saronlaw05_CycleTrue.j1 kj9 t219 t224 t230 bt238.1 true a0_0 l0_1 t215 t216)))) = some r := H
     have A32 := Aside0.mk A320
     clear A320
     replace H := Option.bind_eq_some_iff.mp H
     obtain ⟨⟨t234, t237⟩, A330, H⟩ := H
     replace H : ((cycle_Least.f a0_0 l0_1 t224).bind fun bt238 => (if t233 = 0 then (if t237 = 0 then (if bt238.2 = 0 then ((saronref00_Sits.f bt238.1 0 (t225.length : Int)).bind fun t240 => (if t240 = true then ((saronref05_SameStrokes.f kj9 t234 t225).bind fun t241 => (saronlaw05_CycleTrue.j1 kj9 t219 t224 t230 bt238.1 (!t241) a0_0 l0_1 t215 t216)) else (saronlaw05_CycleTrue.j1 kj9 t219 t224 t230 bt238.1 true a0_0 l0_1 t215 t216))) else (saronlaw05_CycleTrue.j1 kj9 t219 t224 t230 bt238.1 true a0_0 l0_1 t215 t216)) else (saronlaw05_CycleTrue.j1 kj9 t219 t224 t230 bt238.1 true a0_0 l0_1 t215 t216)) else (saronlaw05_CycleTrue.j1 kj9 t219 t224 t230 bt238.1 true a0_0 l0_1 t215 t216))) = some r := H
     have A33 := Aside0.mk A330
     clear A330
     replace H := Option.bind_eq_some_iff.mp H
     obtain ⟨⟨t238, t239⟩, A340, H⟩ := H
     replace H : (if t233 = 0 then (if t237 = 0 then (if t239 = 0 then ((saronref00_Sits.f t238 0 (t225.length : Int)).bind fun t240 => (if t240 = true then ((saronref05_SameStrokes.f kj9 t234 t225).bind fun t241 => (saronlaw05_CycleTrue.j1 kj9 t219 t224 t230 t238 (!t241) a0_0 l0_1 t215 t216)) else (saronlaw05_CycleTrue.j1 kj9 t219 t224 t230 t238 true a0_0 l0_1 t215 t216))) else (saronlaw05_CycleTrue.j1 kj9 t219 t224 t230 t238 true a0_0 l0_1 t215 t216)) else (saronlaw05_CycleTrue.j1 kj9 t219 t224 t230 t238 true a0_0 l0_1 t215 t216)) else (saronlaw05_CycleTrue.j1 kj9 t219 t224 t230 t238 true a0_0 l0_1 t215 t216)) = some r := H
     have A34 := Aside0.mk A340
     clear A340
     have HC35 := Aside0.mk H
     clear H
     obtain ⟨Ao36, co36, eo36⟩ := Kd.V_slice HO_10.out
     subst eo36
     go_upto_region 12 with (first | ((with_reducible refine gate_callee (f := 45) rfl ?_); refine goesL_ (some 60) rfl rfl Tryd.func45 (by kernel_rfl) rfl #[.slice Ao36 t220.length co36, .int .i64 t219, .slice A2 l2.length c2] rfl TM ?_; (with_reducible refine (saronlaw05_missed.calls kj9 _ _ t220 t219 _ _ l2 t224 t225 _ ?side1 ?side2 ?side3 ?side4 A31.out).mono ?_); (case side1 => repeat (first | exact (Kd.V_reads' HO_10.out).2.2 | (with_reducible refine Kd.C_alloc ?_ _) | (with_reducible refine Kd.C_drewN ?_ _) | (with_reducible refine Kd.C_drew ?_))); (case side2 => exact (Kd.V_reads' HO_10.out).2.1); (case side3 => exact TC HR2.out); (case side4 => exact HC2.out); rintro e w37 ⟨v226, v228, rfl, ho0, ho1, hb⟩; refine ⟨_, rfl, ?_⟩; have HO227 := Aside0.mk (Kd.S_lower ho0 (below_size (TB3 GE211.out GE212.out GE217.out))); have HO229 := Aside0.mk (Kd.R_lower ho1 (below_size (TB3 GE211.out GE212.out GE217.out))); replace HO_10 := Aside0.mk (Kd.V_mono (Kd.V_told (Kd.V_told (Kd.V_old (by (with_reducible repeat (first | apply Kd.V_alloc | apply Kd.V_drewN | apply Kd.V_drew)); exact HO_10.out) hb) (Kd.S_base ho0)) (Kd.R_base ho1)) (fun _ h_ => h_.1)); replace BK211 := Aside0.mk (blk_below (g := gb211) (o := .cells #[.int .i64 a0_0, .slice A0_1 l0_1.length c0_1] 24 (0, 0)) (by (with_reducible repeat (first | refine blk_drewN ?_ _ | refine blk_drew ?_ | refine blk_alloc ?_ _)); exact BK211.out) hb); replace BK212 := Aside0.mk (blk_below (g := gb212) (o := .cells #[.int .i64 a1_0, .int .i64 a1_1, .int .i64 a1_2, .int .i64 a1_3] 67 (0, 0)) (by (with_reducible repeat (first | refine blk_drewN ?_ _ | refine blk_drew ?_ | refine blk_alloc ?_ _)); exact BK212.out) hb); replace BK217 := Aside0.mk (blk_below (g := gb217) (o := .cells #[.int .i64 t215, .int .i64 t216] 38 (0, 0)) (by (with_reducible repeat (first | refine blk_drewN ?_ _ | refine blk_drew ?_ | refine blk_alloc ?_ _)); exact BK217.out) hb); replace HB := Aside0.mk (below_step (TB3 GE211.out GE212.out GE217.out) hb); (try clear hb); (try clear hb2); (try clear hk); (try clear hi); (try clear ho0); (try clear ho1); have hnb38 := NB211_212.out; have hnc38 := NB212_211.out; have hnb39 := NB211_217.out; have hnc39 := NB217_211.out; have hcz40_0 := czz BK211.out 0; have hcz40_1 := czz BK211.out 1; have hfz40_0 := fz BK211.out 0; have hfz40_1 := fz BK211.out 1; obtain ⟨Ao41, co41, eo41⟩ := Kd.S_slice HO227.out; subst eo41) | ((with_reducible refine gate_callee (f := 27) rfl ?_); refine goesL_ (some 67) rfl rfl Tryd.func27 (by kernel_rfl) rfl #[.agg #[.int .i64 a0_0, .slice A0_1 l0_1.length c0_1], .slice Ao41 t224.length co41, .int .i64 t219] rfl TM ?_; (with_reducible refine (cycle_Places.calls a0_0 _ _ l0_1 _ _ t224 t219 t230 t233 _ ?side1 ?side2 ?side3 ?side4 ?side5 A32.out).mono ?_); (case side1 => exact TC HR0_1.out); (case side2 => exact HC0_1.out); (case side3 => exact TE (Kd.S_reads' HO227.out).2.2); (case side4 => exact (Kd.S_reads' HO227.out).2.1); (case side5 => exact Glob.fr HG.out (Fr.of_below (TB3 GE211.out GE212.out GE217.out))); rintro e w42 ⟨v231, rfl, ho0, hb⟩; refine ⟨_, rfl, ?_⟩; have HO232 := Aside0.mk (Kd.V_lower (Kd.V_mono (ok' := fun k_ => some k_ ≠ (.slice Ao41 t224.length co41 : Value).ownBlock ∧ some k_ ≠ (v228 : Value).ownBlock ∧ k_ ≠ gb211 ∧ k_ ≠ gb212 ∧ k_ ≠ gb217) ho0 (fun k_ hk_ => ⟨(Kd.fresh' (Kd.S_lt (TSo HO227.out)) k_ hk_), (Kd.fresh' (Kd.R_lt (TRo HO229.out)) k_ hk_), (Kd.freshB (g := gb211) (o := .cells #[.int .i64 a0_0, .slice A0_1 l0_1.length c0_1] 24 (0, 0)) (by (with_reducible repeat (first | refine blk_drewN ?_ _ | refine blk_drew ?_ | refine blk_alloc ?_ _)); exact BK211.out) k_ hk_), (Kd.freshB (g := gb212) (o := .cells #[.int .i64 a1_0, .int .i64 a1_1, .int .i64 a1_2, .int .i64 a1_3] 67 (0, 0)) (by (with_reducible repeat (first | refine blk_drewN ?_ _ | refine blk_drew ?_ | refine blk_alloc ?_ _)); exact BK212.out) k_ hk_), (Kd.freshB (g := gb217) (o := .cells #[.int .i64 t215, .int .i64 t216] 38 (0, 0)) (by (with_reducible repeat (first | refine blk_drewN ?_ _ | refine blk_drew ?_ | refine blk_alloc ?_ _)); exact BK217.out) k_ hk_)⟩)) (below_size (TB3 GE211.out GE212.out GE217.out))); replace HO_10 := Aside0.mk (Kd.V_below (by (with_reducible repeat (first | apply Kd.V_alloc | apply Kd.V_drewN | apply Kd.V_drew)); exact HO_10.out) hb); replace HO227 := Aside0.mk (Kd.S_below (TSo HO227.out) hb); replace HO229 := Aside0.mk (Kd.R_below (TRo HO229.out) hb); replace BK211 := Aside0.mk (blk_below (g := gb211) (o := .cells #[.int .i64 a0_0, .slice A0_1 l0_1.length c0_1] 24 (0, 0)) (by (with_reducible repeat (first | refine blk_drewN ?_ _ | refine blk_drew ?_ | refine blk_alloc ?_ _)); exact BK211.out) hb); replace BK212 := Aside0.mk (blk_below (g := gb212) (o := .cells #[.int .i64 a1_0, .int .i64 a1_1, .int .i64 a1_2, .int .i64 a1_3] 67 (0, 0)) (by (with_reducible repeat (first | refine blk_drewN ?_ _ | refine blk_drew ?_ | refine blk_alloc ?_ _)); exact BK212.out) hb); replace BK217 := Aside0.mk (blk_below (g := gb217) (o := .cells #[.int .i64 t215, .int .i64 t216] 38 (0, 0)) (by (with_reducible repeat (first | refine blk_drewN ?_ _ | refine blk_drew ?_ | refine blk_alloc ?_ _)); exact BK217.out) hb); replace HB := Aside0.mk (below_step (TB3 GE211.out GE212.out GE217.out) hb); (try clear hb); (try clear hb2); (try clear hk); (try clear hi); (try clear ho0); have hcz43_0 := czz BK211.out 0; have hcz43_1 := czz BK211.out 1; have hfz43_0 := fz BK211.out 0; have hfz43_1 := fz BK211.out 1; have hnb44 := NB217_212.out; have hnc44 := NB212_217.out; have hcz45_0 := czz BK217.out 0; have hcz45_1 := czz BK217.out 1; have hfz45_0 := fz BK217.out 0; have hfz45_1 := fz BK217.out 1) | ((with_reducible refine gate_callee (f := 32) rfl ?_); refine goesL_ (some 74) rfl rfl Tryd.func32 (by kernel_rfl) rfl #[.agg #[.int .i64 a0_0, .slice A0_1 l0_1.length c0_1], .agg #[.int .i64 t215, .int .i64 t216], .slice Ao41 t224.length co41] rfl TM ?_; (with_reducible refine (cycle_Missing.calls a0_0 _ _ l0_1 t215 t216 _ _ t224 t234 t237 _ ?side1 ?side2 ?side3 ?side4 ?side5 A33.out).mono ?_); (case side1 => exact TC HR0_1.out); (case side2 => exact HC0_1.out); (case side3 => exact TE (Kd.S_reads' HO227.out).2.2); (case side4 => exact (Kd.S_reads' HO227.out).2.1); (case side5 => exact Glob.fr HG.out (Fr.of_below (TB3 GE211.out GE212.out GE217.out))); rintro e w46 ⟨v235, rfl, ho0, hb⟩; refine ⟨_, rfl, ?_⟩; have HO236 := Aside0.mk (Kd.V_lower (Kd.V_mono (ok' := fun k_ => some k_ ≠ (.slice Ao41 t224.length co41 : Value).ownBlock ∧ some k_ ≠ (v228 : Value).ownBlock ∧ k_ ≠ gb211 ∧ k_ ≠ gb212 ∧ k_ ≠ gb217) ho0 (fun k_ hk_ => ⟨(Kd.fresh' (Kd.S_lt (TSo HO227.out)) k_ hk_), (Kd.fresh' (Kd.R_lt (TRo HO229.out)) k_ hk_), (Kd.freshB (g := gb211) (o := .cells #[.int .i64 a0_0, .slice A0_1 l0_1.length c0_1] 24 (0, 0)) (by (with_reducible repeat (first | refine blk_drewN ?_ _ | refine blk_drew ?_ | refine blk_alloc ?_ _)); exact BK211.out) k_ hk_), (Kd.freshB (g := gb212) (o := .cells #[.int .i64 a1_0, .int .i64 a1_1, .int .i64 a1_2, .int .i64 a1_3] 67 (0, 0)) (by (with_reducible repeat (first | refine blk_drewN ?_ _ | refine blk_drew ?_ | refine blk_alloc ?_ _)); exact BK212.out) k_ hk_), (Kd.freshB (g := gb217) (o := .cells #[.int .i64 t215, .int .i64 t216] 38 (0, 0)) (by (with_reducible repeat (first | refine blk_drewN ?_ _ | refine blk_drew ?_ | refine blk_alloc ?_ _)); exact BK217.out) k_ hk_)⟩)) (below_size (TB3 GE211.out GE212.out GE217.out))); replace HO_10 := Aside0.mk (Kd.V_below (by (with_reducible repeat (first | apply Kd.V_alloc | apply Kd.V_drewN | apply Kd.V_drew)); exact HO_10.out) hb); replace HO227 := Aside0.mk (Kd.S_below (TSo HO227.out) hb); replace HO229 := Aside0.mk (Kd.R_below (TRo HO229.out) hb); replace HO232 := Aside0.mk (Kd.V_below (by (with_reducible repeat (first | apply Kd.V_alloc | apply Kd.V_drewN | apply Kd.V_drew)); exact HO232.out) hb); replace BK211 := Aside0.mk (blk_below (g := gb211) (o := .cells #[.int .i64 a0_0, .slice A0_1 l0_1.length c0_1] 24 (0, 0)) (by (with_reducible repeat (first | refine blk_drewN ?_ _ | refine blk_drew ?_ | refine blk_alloc ?_ _)); exact BK211.out) hb); replace BK212 := Aside0.mk (blk_below (g := gb212) (o := .cells #[.int .i64 a1_0, .int .i64 a1_1, .int .i64 a1_2, .int .i64 a1_3] 67 (0, 0)) (by (with_reducible repeat (first | refine blk_drewN ?_ _ | refine blk_drew ?_ | refine blk_alloc ?_ _)); exact BK212.out) hb); replace BK217 := Aside0.mk (blk_below (g := gb217) (o := .cells #[.int .i64 t215, .int .i64 t216] 38 (0, 0)) (by (with_reducible repeat (first | refine blk_drewN ?_ _ | refine blk_drew ?_ | refine blk_alloc ?_ _)); exact BK217.out) hb); replace HB := Aside0.mk (below_step (TB3 GE211.out GE212.out GE217.out) hb); (try clear hb); (try clear hb2); (try clear hk); (try clear hi); (try clear ho0); have hcz47_0 := czz BK211.out 0; have hcz47_1 := czz BK211.out 1; have hfz47_0 := fz BK211.out 0; have hfz47_1 := fz BK211.out 1) | ((with_reducible refine gate_callee (f := 30) rfl ?_); refine goesL_ (some 80) rfl rfl Tryd.func30 (by kernel_rfl) rfl #[.agg #[.int .i64 a0_0, .slice A0_1 l0_1.length c0_1], .slice Ao41 t224.length co41] rfl TM ?_; (with_reducible refine (cycle_Least.calls a0_0 _ _ l0_1 _ _ t224 t238 t239 _ ?side1 ?side2 ?side3 ?side4 ?side5 A34.out).mono ?_); (case side1 => exact TC HR0_1.out); (case side2 => exact HC0_1.out); (case side3 => exact TE (Kd.S_reads' HO227.out).2.2); (case side4 => exact (Kd.S_reads' HO227.out).2.1); (case side5 => exact Glob.fr HG.out (Fr.of_below (TB3 GE211.out GE212.out GE217.out))); rintro e w48 ⟨rfl, hb⟩; refine ⟨_, rfl, ?_⟩; replace HO_10 := Aside0.mk (Kd.V_below (by (with_reducible repeat (first | apply Kd.V_alloc | apply Kd.V_drewN | apply Kd.V_drew)); exact HO_10.out) hb); replace HO227 := Aside0.mk (Kd.S_below (TSo HO227.out) hb); replace HO229 := Aside0.mk (Kd.R_below (TRo HO229.out) hb); replace HO232 := Aside0.mk (Kd.V_below (by (with_reducible repeat (first | apply Kd.V_alloc | apply Kd.V_drewN | apply Kd.V_drew)); exact HO232.out) hb); replace HO236 := Aside0.mk (Kd.V_below (by (with_reducible repeat (first | apply Kd.V_alloc | apply Kd.V_drewN | apply Kd.V_drew)); exact HO236.out) hb); replace BK211 := Aside0.mk (blk_below (g := gb211) (o := .cells #[.int .i64 a0_0, .slice A0_1 l0_1.length c0_1] 24 (0, 0)) (by (with_reducible repeat (first | refine blk_drewN ?_ _ | refine blk_drew ?_ | refine blk_alloc ?_ _)); exact BK211.out) hb); replace BK212 := Aside0.mk (blk_below (g := gb212) (o := .cells #[.int .i64 a1_0, .int .i64 a1_1, .int .i64 a1_2, .int .i64 a1_3] 67 (0, 0)) (by (with_reducible repeat (first | refine blk_drewN ?_ _ | refine blk_drew ?_ | refine blk_alloc ?_ _)); exact BK212.out) hb); replace BK217 := Aside0.mk (blk_below (g := gb217) (o := .cells #[.int .i64 t215, .int .i64 t216] 38 (0, 0)) (by (with_reducible repeat (first | refine blk_drewN ?_ _ | refine blk_drew ?_ | refine blk_alloc ?_ _)); exact BK217.out) hb); replace HB := Aside0.mk (below_step (TB3 GE211.out GE212.out GE217.out) hb); (try clear hb); (try clear hb2); (try clear hk); (try clear hi)))
     (try simp only [Act.put, lA, lZ, lS])
     go_cut [105] (fun v105 wc => ∃ (kq : Nat) (x105_34 : Bool), v105 = .bool x105_34 ∧ Aside0 (saronlaw05_CycleTrue.j1 kq t219 t224 t230 t238 x105_34 a0_0 l0_1 t215 t216 = some r) ∧ Aside0 (kq ≤ kj9) ∧ Aside0 (Kd.S (Kd.slice 3 (Kd.int .i64)) 26 wc w.heap.size (fun _ => True) (.slice Ao41 t224.length co41) t224) ∧ Aside0 (Kd.V k38 38 wc w.heap.size (fun k_ => some k_ ≠ ((.slice Ao41 t224.length co41) : Value).ownBlock ∧ k_ ≠ gb211 ∧ k_ ≠ gb212 ∧ k_ ≠ gb217) v231 t230) ∧ Aside0 (wc.heap[gb211]? = some (.cells #[.int .i64 a0_0, (.slice A0_1 l0_1.length c0_1)] 24 (0, 0))) ∧ Aside0 (wc.heap[gb212]? = some (.cells #[.int .i64 a1_0, .int .i64 a1_1, .int .i64 a1_2, .int .i64 a1_3] 67 (0, 0))) ∧ Aside0 (wc.heap[gb217]? = some (.cells #[.int .i64 t215, .int .i64 t216] 38 (0, 0))) ∧ Aside0 (Below w.heap.size w wc))
     case first => as_aux_lemma =>
      have H := HC35.out
      clear HC35
      by_cases c49 : t233 = 0
      ·rw [if_pos c49] at H
       have c49b0 : (t233 == 0) = true := beq_iff_eq.mpr c49
       have c49b1 : (t233 != 0) = false := bne_eq_false_iff_eq.mpr c49
       clear c49
       (first | rw [c49b0] | (simp only [i64_w, i32_w]; rw [c49b0]) | skip)
       by_cases c50 : t237 = 0
       ·rw [if_pos c50] at H
        have c50b0 : (t237 == 0) = true := beq_iff_eq.mpr c50
        have c50b1 : (t237 != 0) = false := bne_eq_false_iff_eq.mpr c50
        clear c50
        by_cases c51 : t239 = 0
        ·rw [if_pos c51] at H
         have c51b0 : (t239 == 0) = true := beq_iff_eq.mpr c51
         have c51b1 : (t239 != 0) = false := bne_eq_false_iff_eq.mpr c51
         clear c51
         replace H := Option.bind_eq_some_iff.mp H
         obtain ⟨t240, A520, H⟩ := H
         replace H : (if t240 = true then ((saronref05_SameStrokes.f kj9 t234 t225).bind fun t241 => (saronlaw05_CycleTrue.j1 kj9 t219 t224 t230 t238 (!t241) a0_0 l0_1 t215 t216)) else (saronlaw05_CycleTrue.j1 kj9 t219 t224 t230 t238 true a0_0 l0_1 t215 t216)) = some r := H
         have A52 := Aside0.mk A520
         clear A520
         by_cases c53 : t240 = true
         ·subst c53
          have H1 : ((saronref05_SameStrokes.f kj9 t234 t225).bind fun t241 => (saronlaw05_CycleTrue.j1 kj9 t219 t224 t230 t238 (!t241) a0_0 l0_1 t215 t216)) = some r := by rw [if_pos rfl] at H; exact H
          clear H
          have H := H1
          clear H1
          replace H := Option.bind_eq_some_iff.mp H
          obtain ⟨t241, A540, H⟩ := H
          replace H : (saronlaw05_CycleTrue.j1 kj9 t219 t224 t230 t238 (!t241) a0_0 l0_1 t215 t216) = some r := H
          have A54 := Aside0.mk A540
          clear A540
          have H' := Aside0.mk H
          clear H
          obtain ⟨Ao55, co55, eo55⟩ := Kd.R_slice HO229.out
          subst eo55
          go_wp2_with (first | (go_at_call 43; (with_reducible refine (saronref00_Sits.calls t238 0 (t225.length : Int) true _ A52.out).mono ?_); rintro e w' ⟨rfl, ⟨nd, rfl⟩⟩; obtain ⟨Ao56, co56, eo56⟩ := Kd.V_slice HO236.out; subst eo56) | (go_at_call 34; (with_reducible refine (saronref05_SameStrokes.calls kj9 _ _ t234 _ _ t225 t241 _ ?side1 ?side2 ?side3 ?side4 A54.out).mono ?_); (case side1 => repeat (first | exact (Kd.V_reads' HO236.out).2.2 | (with_reducible refine Kd.C_alloc ?_ _) | (with_reducible refine Kd.C_drewN ?_ _) | (with_reducible refine Kd.C_drew ?_))); (case side2 => exact (Kd.V_reads' HO236.out).2.1); (case side3 => repeat (first | exact (Kd.R_reads' HO229.out).2.2 | (with_reducible refine Kd.C_alloc ?_ _) | (with_reducible refine Kd.C_drewN ?_ _) | (with_reducible refine Kd.C_drew ?_))); (case side4 => exact (Kd.R_reads' HO229.out).2.1); rintro e w' ⟨rfl, ⟨nd, rfl⟩⟩))
          go_meet
          case rel => exact ⟨_, (!t241), TT, H', ⟨by have := HJ9.out; first | omega | exact Nat.le_refl _⟩, ⟨by (with_reducible repeat (first | apply Kd.S_alloc | apply Kd.S_drewN | apply Kd.S_drew)); exact HO227.out⟩, ⟨by (with_reducible repeat (first | apply Kd.V_alloc | apply Kd.V_drewN | apply Kd.V_drew)); exact Kd.V_mono HO232.out (fun _ hk => ⟨hk.1, ⟨hk.2.2.1, ⟨hk.2.2.2.1, hk.2.2.2.2⟩⟩⟩)⟩, ⟨by (with_reducible repeat (first | refine blk_drewN ?_ _ | refine blk_drew ?_ | refine blk_alloc ?_ _)); exact BK211.out⟩, ⟨by (with_reducible repeat (first | refine blk_drewN ?_ _ | refine blk_drew ?_ | refine blk_alloc ?_ _)); exact BK212.out⟩, ⟨by (with_reducible repeat (first | refine blk_drewN ?_ _ | refine blk_drew ?_ | refine blk_alloc ?_ _)); exact BK217.out⟩, ⟨TB3 GE211.out GE212.out GE217.out⟩⟩
         ·replace c53 := Bool.eq_false_iff.mpr c53
          subst c53
          have H1 : (saronlaw05_CycleTrue.j1 kj9 t219 t224 t230 t238 true a0_0 l0_1 t215 t216) = some r := by rw [if_neg (show ¬ (false = true) by decide)] at H; exact H
          clear H
          have H := H1
          clear H1
          have H' := Aside0.mk H
          clear H
          obtain ⟨Ao57, co57, eo57⟩ := Kd.R_slice HO229.out
          subst eo57
          go_wp2_with (first | (go_at_call 43; (with_reducible refine (saronref00_Sits.calls t238 0 (t225.length : Int) false _ A52.out).mono ?_); rintro e w' ⟨rfl, ⟨nd, rfl⟩⟩))
          go_meet
          case rel => exact ⟨_, (true), TT, H', ⟨by have := HJ9.out; first | omega | exact Nat.le_refl _⟩, ⟨by (with_reducible repeat (first | apply Kd.S_alloc | apply Kd.S_drewN | apply Kd.S_drew)); exact HO227.out⟩, ⟨by (with_reducible repeat (first | apply Kd.V_alloc | apply Kd.V_drewN | apply Kd.V_drew)); exact Kd.V_mono HO232.out (fun _ hk => ⟨hk.1, ⟨hk.2.2.1, ⟨hk.2.2.2.1, hk.2.2.2.2⟩⟩⟩)⟩, ⟨by (with_reducible repeat (first | refine blk_drewN ?_ _ | refine blk_drew ?_ | refine blk_alloc ?_ _)); exact BK211.out⟩, ⟨by (with_reducible repeat (first | refine blk_drewN ?_ _ | refine blk_drew ?_ | refine blk_alloc ?_ _)); exact BK212.out⟩, ⟨by (with_reducible repeat (first | refine blk_drewN ?_ _ | refine blk_drew ?_ | refine blk_alloc ?_ _)); exact BK217.out⟩, ⟨TB3 GE211.out GE212.out GE217.out⟩⟩
        ·rw [if_neg c51] at H
         have c51b0 : (t239 == 0) = false := beq_eq_false_iff_ne.mpr c51
         have c51b1 : (t239 != 0) = true := bne_iff_ne.mpr c51
         have H' := Aside0.mk H
         clear H
         go_wp2
         go_meet
         case rel => exact ⟨_, (true), TT, H', ⟨by have := HJ9.out; first | omega | exact Nat.le_refl _⟩, ⟨by (with_reducible repeat (first | apply Kd.S_alloc | apply Kd.S_drewN | apply Kd.S_drew)); exact HO227.out⟩, ⟨by (with_reducible repeat (first | apply Kd.V_alloc | apply Kd.V_drewN | apply Kd.V_drew)); exact Kd.V_mono HO232.out (fun _ hk => ⟨hk.1, ⟨hk.2.2.1, ⟨hk.2.2.2.1, hk.2.2.2.2⟩⟩⟩)⟩, ⟨by (with_reducible repeat (first | refine blk_drewN ?_ _ | refine blk_drew ?_ | refine blk_alloc ?_ _)); exact BK211.out⟩, ⟨by (with_reducible repeat (first | refine blk_drewN ?_ _ | refine blk_drew ?_ | refine blk_alloc ?_ _)); exact BK212.out⟩, ⟨by (with_reducible repeat (first | refine blk_drewN ?_ _ | refine blk_drew ?_ | refine blk_alloc ?_ _)); exact BK217.out⟩, ⟨TB3 GE211.out GE212.out GE217.out⟩⟩
       ·rw [if_neg c50] at H
        have c50b0 : (t237 == 0) = false := beq_eq_false_iff_ne.mpr c50
        have c50b1 : (t237 != 0) = true := bne_iff_ne.mpr c50
        have H' := Aside0.mk H
        clear H
        go_wp2
        go_meet
        case rel => exact ⟨_, (true), TT, H', ⟨by have := HJ9.out; first | omega | exact Nat.le_refl _⟩, ⟨by (with_reducible repeat (first | apply Kd.S_alloc | apply Kd.S_drewN | apply Kd.S_drew)); exact HO227.out⟩, ⟨by (with_reducible repeat (first | apply Kd.V_alloc | apply Kd.V_drewN | apply Kd.V_drew)); exact Kd.V_mono HO232.out (fun _ hk => ⟨hk.1, ⟨hk.2.2.1, ⟨hk.2.2.2.1, hk.2.2.2.2⟩⟩⟩)⟩, ⟨by (with_reducible repeat (first | refine blk_drewN ?_ _ | refine blk_drew ?_ | refine blk_alloc ?_ _)); exact BK211.out⟩, ⟨by (with_reducible repeat (first | refine blk_drewN ?_ _ | refine blk_drew ?_ | refine blk_alloc ?_ _)); exact BK212.out⟩, ⟨by (with_reducible repeat (first | refine blk_drewN ?_ _ | refine blk_drew ?_ | refine blk_alloc ?_ _)); exact BK217.out⟩, ⟨TB3 GE211.out GE212.out GE217.out⟩⟩
      ·rw [if_neg c49] at H
       have c49b0 : (t233 == 0) = false := beq_eq_false_iff_ne.mpr c49
       have c49b1 : (t233 != 0) = true := bne_iff_ne.mpr c49
       (first | rw [c49b0] | (simp only [i64_w, i32_w]; rw [c49b0]) | skip)
       have H' := Aside0.mk H
       clear H
       go_wp2
       go_meet
       case rel => exact ⟨_, (true), TT, H', ⟨by have := HJ9.out; first | omega | exact Nat.le_refl _⟩, ⟨by (with_reducible repeat (first | apply Kd.S_alloc | apply Kd.S_drewN | apply Kd.S_drew)); exact HO227.out⟩, ⟨by (with_reducible repeat (first | apply Kd.V_alloc | apply Kd.V_drewN | apply Kd.V_drew)); exact Kd.V_mono HO232.out (fun _ hk => ⟨hk.1, ⟨hk.2.2.1, ⟨hk.2.2.2.1, hk.2.2.2.2⟩⟩⟩)⟩, ⟨by (with_reducible repeat (first | refine blk_drewN ?_ _ | refine blk_drew ?_ | refine blk_alloc ?_ _)); exact BK211.out⟩, ⟨by (with_reducible repeat (first | refine blk_drewN ?_ _ | refine blk_drew ?_ | refine blk_alloc ?_ _)); exact BK212.out⟩, ⟨by (with_reducible repeat (first | refine blk_drewN ?_ _ | refine blk_drew ?_ | refine blk_alloc ?_ _)); exact BK217.out⟩, ⟨TB3 GE211.out GE212.out GE217.out⟩⟩
     case rest => as_aux_lemma =>
      clear HC35
      try clear c1
      try clear c2
      try clear p2
      try clear c3
      try clear c4
      try clear c5
      try clear p6
      try clear c8
      try clear c13
      try clear c20
      try clear c21
      try clear c24
      try clear c27
      try clear c28
      try clear c28b0
      try clear c28b1
      try clear c30
      try clear c32
      try clear c38
      try clear c39
      try clear c40
      try clear c44
      try clear c45
      try clear c49
      try clear c49b0
      try clear c49b1
      try clear c50
      try clear c50b0
      try clear c50b1
      try clear c51
      try clear c51b0
      try clear c51b1
      try clear c53
      try clear hcz14_0 hcz14_1
      try clear hcz16_0 hcz16_1
      try clear hcz17_0 hcz17_1 hcz17_2 hcz17_3
      try clear hcz22_0 hcz22_1
      try clear hcz25_0 hcz25_1
      try clear hcz26_0 hcz26_1
      try clear hcz40_0 hcz40_1
      try clear hcz43_0 hcz43_1
      try clear hcz45_0 hcz45_1
      try clear hcz47_0 hcz47_1
      try clear hfz14_0 hfz14_1
      try clear hfz16_0 hfz16_1
      try clear hfz17_0 hfz17_1 hfz17_2 hfz17_3
      try clear hfz22_0 hfz22_1
      try clear hfz25_0 hfz25_1
      try clear hfz26_0 hfz26_1
      try clear hfz40_0 hfz40_1
      try clear hfz43_0 hfz43_1
      try clear hfz45_0 hfz45_1
      try clear hfz47_0 hfz47_1
      try clear p2
      try clear p6
      try clear HO_12
      try clear HO_14
      try clear BK211
      try clear BK212
      try clear BK217
      try clear HB
      obtain ⟨kq, x105_34, rfl, HA, HJ34, HO_12, HO_14, BK211, BK212, BK217, HB⟩ := hcut
      cases kq with
      | zero => exact absurd HA.out (by simp [saronlaw05_CycleTrue.j1])
      | succ kj34 =>
       have H := HA.out
       clear HA
       simp only [saronlaw05_CycleTrue.j1] at H
       by_cases c58 : x105_34 = true
       ·subst c58
        have H1 : (some false) = some r := by rw [if_pos rfl] at H; exact H
        clear H
        have H := H1
        clear H1
        obtain rfl := Option.some.inj H
        go_wp2
        go_ret
        exact ⟨TR, TB3 GE211.out GE212.out GE217.out⟩
       ·replace c58 := Bool.eq_false_iff.mpr c58
        subst c58
        have H1 : (saronlaw05_CycleTrue.l0 kj34 t219 t224 t230 t238 false 0 a0_0 l0_1 t215 t216) = some r := by rw [if_neg (show ¬ (false = true) by decide)] at H; exact H
        clear H
        have H := H1
        clear H1
        have H' := Aside0.mk H
        clear H
        go_wp2
        go_loopg [19, 20] kj34 (fun kq v19 v20 w' => ∃ (x19_3 : Bool) (x20_3 : Int), v19 = .bool x19_3 ∧ v20 = .int .i64 x20_3 ∧ Aside0 (saronlaw05_CycleTrue.l0 kq t219 t224 t230 t238 x19_3 x20_3 a0_0 l0_1 t215 t216 = some r) ∧ Aside0 (kq ≤ kj34) ∧ Aside0 (Kd.S (Kd.slice 3 (Kd.int .i64)) 26 w' w.heap.size (fun _ => True) (.slice Ao41 t224.length co41) t224) ∧ Aside0 (Kd.V k38 38 w' w.heap.size (fun k_ => some k_ ≠ ((.slice Ao41 t224.length co41) : Value).ownBlock ∧ k_ ≠ gb211 ∧ k_ ≠ gb212 ∧ k_ ≠ gb217) v231 t230) ∧ Aside0 (w'.heap[gb211]? = some (.cells #[.int .i64 a0_0, (.slice A0_1 l0_1.length c0_1)] 24 (0, 0))) ∧ Aside0 (w'.heap[gb212]? = some (.cells #[.int .i64 a1_0, .int .i64 a1_1, .int .i64 a1_2, .int .i64 a1_3] 67 (0, 0))) ∧ Aside0 (w'.heap[gb217]? = some (.cells #[.int .i64 t215, .int .i64 t216] 38 (0, 0))) ∧ Aside0 (Below w.heap.size w w'))
        case atStart => exact ⟨(false), (0), TT, TT, H', ⟨Nat.le_refl _⟩, ⟨by (with_reducible repeat (first | apply Kd.S_alloc | apply Kd.S_drewN | apply Kd.S_drew)); exact HO_12.out⟩, ⟨by (with_reducible repeat (first | apply Kd.V_alloc | apply Kd.V_drewN | apply Kd.V_drew)); exact HO_14.out⟩, ⟨by (with_reducible repeat (first | refine blk_drewN ?_ _ | refine blk_drew ?_ | refine blk_alloc ?_ _)); exact BK211.out⟩, ⟨by (with_reducible repeat (first | refine blk_drewN ?_ _ | refine blk_drew ?_ | refine blk_alloc ?_ _)); exact BK212.out⟩, ⟨by (with_reducible repeat (first | refine blk_drewN ?_ _ | refine blk_drew ?_ | refine blk_alloc ?_ _)); exact BK217.out⟩, ⟨TB3 GE211.out GE212.out GE217.out⟩⟩
        case round => as_aux_lemma =>
         clear H'
         try clear c1
         try clear c2
         try clear p2
         try clear c3
         try clear c4
         try clear c5
         try clear p6
         try clear c8
         try clear c13
         try clear c20
         try clear c21
         try clear c24
         try clear c27
         try clear c28
         try clear c28b0
         try clear c28b1
         try clear c30
         try clear c32
         try clear c38
         try clear c39
         try clear c40
         try clear c44
         try clear c45
         try clear c49
         try clear c49b0
         try clear c49b1
         try clear c50
         try clear c50b0
         try clear c50b1
         try clear c51
         try clear c51b0
         try clear c51b1
         try clear c53
         try clear c58
         try clear hcz14_0 hcz14_1
         try clear hcz16_0 hcz16_1
         try clear hcz17_0 hcz17_1 hcz17_2 hcz17_3
         try clear hcz22_0 hcz22_1
         try clear hcz25_0 hcz25_1
         try clear hcz26_0 hcz26_1
         try clear hcz40_0 hcz40_1
         try clear hcz43_0 hcz43_1
         try clear hcz45_0 hcz45_1
         try clear hcz47_0 hcz47_1
         try clear hfz14_0 hfz14_1
         try clear hfz16_0 hfz16_1
         try clear hfz17_0 hfz17_1 hfz17_2 hfz17_3
         try clear hfz22_0 hfz22_1
         try clear hfz25_0 hfz25_1
         try clear hfz26_0 hfz26_1
         try clear hfz40_0 hfz40_1
         try clear hfz43_0 hfz43_1
         try clear hfz45_0 hfz45_1
         try clear hfz47_0 hfz47_1
         try clear p2
         try clear p6
         obtain ⟨x19_3, x20_3, rfl, rfl, HA, HK3, HO_12, HO_14, BK211, BK212, BK217, HB⟩ := hrel
         cases gk with
         | zero => exact absurd HA.out (by simp [saronlaw05_CycleTrue.l0])
         | succ k3 =>
          have H := HA.out
          clear HA
          simp only [saronlaw05_CycleTrue.l0] at H
          by_cases c59 : x20_3 < (t230.length : Int)
          ·rw [if_pos c59] at H
           have c59b0 : decide (x20_3 < (t230.length : Int)) = true := decide_eq_true c59
           clear c59
           by_cases c60 : x19_3 = true
           ·subst c60
            have H1 : (if 0 ≤ x20_3 then ((cycle_Missing.f a0_0 l0_1 ((rd_T38 t230 x20_3).f0) ((rd_T38 t230 x20_3).f1) t224).bind fun bt243 => (if bt243.2 = 0 then (if (bt243.1.length : Int) > t219 then (some false) else (if (bt243.1.length : Int) < t238 then (some false) else (saronlaw05_CycleTrue.l0 k3 t219 t224 t230 t238 true (wrap64 (x20_3 + 1)) a0_0 l0_1 t215 t216))) else (some false))) else (none)) = some r := by rw [if_pos rfl] at H; exact H
            clear H
            have H := H1
            clear H1
            by_cases c61 : 0 ≤ x20_3
            ·rw [if_pos c61] at H
             have c61b0 : decide (0 ≤ x20_3) = true := decide_eq_true c61
             clear c61
             replace H := Option.bind_eq_some_iff.mp H
             obtain ⟨⟨t243, t246⟩, A620, H⟩ := H
             replace H : (if t246 = 0 then (if (t243.length : Int) > t219 then (some false) else (if (t243.length : Int) < t238 then (some false) else (saronlaw05_CycleTrue.l0 k3 t219 t224 t230 t238 true (wrap64 (x20_3 + 1)) a0_0 l0_1 t215 t216))) else (some false)) = some r := H
             have A62 := Aside0.mk A620
             clear A620
             by_cases c63 : t246 = 0
             ·rw [if_pos c63] at H
              have c63b0 : (t246 == 0) = true := beq_iff_eq.mpr c63
              have c63b1 : (t246 != 0) = false := bne_eq_false_iff_eq.mpr c63
              clear c63
              by_cases c64 : (t243.length : Int) > t219
              ·rw [if_pos c64] at H
               have c64b0 : decide (t219 < (t243.length : Int)) = true := decide_eq_true c64
               clear c64
               obtain rfl := Option.some.inj H
               obtain ⟨Ao65, co65, eo65⟩ := Kd.V_slice HO_14.out
               subst eo65
               try go_wp2
               have n0_ := Aside0.mk (Kd.S_drew HO_12.out)
               have n1_ := Aside0.mk (Kd.V_drew HO_14.out)
               have n2_ := Aside0.mk (blk_drew BK211.out)
               have n3_ := Aside0.mk (blk_drew BK212.out)
               have n4_ := Aside0.mk (blk_drew BK217.out)
               have n5_ := Aside0.mk (below_drew1 HB.out)
               clear HO_12
               clear HO_14
               clear BK211
               clear BK212
               clear BK217
               clear HB
               have HO_12 := n0_
               have HO_14 := n1_
               have BK211 := n2_
               have BK212 := n3_
               have BK217 := n4_
               have HB := n5_
               clear n0_ n1_ n2_ n3_ n4_ n5_
               refine start_ (n := 10) (S := fun w' => True) (ds := []) (.replicate 10 false) (by kernel_rfl) rfl rfl trivial (fun hHeld => ?_); refine with_tabW saronlaw05_CycleTrue.tab18 saronlaw05_CycleTrue.bits18 (fun HT_ HW_ => ?_)
               generalize wr.drew = w66 at HO_12 HO_14 BK211 BK212 BK217 HB hHeld ⊢
               refine pT 0 112 (bt 10 1) (k := ?_)
               refine pT 1 113 (bt 10 3) (k := ?_)
               refine pU 2 114 (bt 10 7) (k := ?_)
               refine pU 3 115 (bt 10 15) (k := ?_)
               refine pU 4 116 (bt 10 31) (k := ?_)
               refine pU 5 117 (bt 10 63) (k := ?_)
               refine pU 6 118 (bt 10 127) (k := ?_)
               refine pU 7 119 (bt 10 255) (k := ?_)
               refine pT 8 120 (bt 10 511) (k := ?_)
               refine pT 9 19 (bt 10 1023) (k := ?_)
               refine done_ (done_of HT_.out (by kernel_rfl)) ?_
               try go_wp2
               have n0_ := Aside0.mk (Kd.S_drew HO_12.out)
               have n1_ := Aside0.mk (Kd.V_drew HO_14.out)
               have n2_ := Aside0.mk (blk_drew BK211.out)
               have n3_ := Aside0.mk (blk_drew BK212.out)
               have n4_ := Aside0.mk (blk_drew BK217.out)
               have n5_ := Aside0.mk (below_drew1 HB.out)
               clear HO_12
               clear HO_14
               clear BK211
               clear BK212
               clear BK217
               clear HB
               have HO_12 := n0_
               have HO_14 := n1_
               have BK211 := n2_
               have BK212 := n3_
               have BK217 := n4_
               have HB := n5_
               clear n0_ n1_ n2_ n3_ n4_ n5_
               have p242 : 0 ≤ (x20_3 : Int) := of_decide_eq_true TA
               have q242 : x20_3 < (t230.length : Int) := of_decide_eq_true TA
               obtain ⟨ad242, e242, hx242_0, hx242_1⟩ := at_T38 (Kd.V_reads' HO_14.out).2.2 x20_3 p242 q242
               cases e242
               replace p242 := eq_true p242
               replace q242 := eq_true q242
               refine start_ (n := 12) (S := fun w' => w'.cell? ⟨gb211, 0, none⟩ = some (.int .i64 a0_0) ∧ w'.cell? ⟨gb211, 1, none⟩ = some (.slice A0_1 l0_1.length c0_1) ∧ w'.cell? (ad242.add ((x20_3).toNat * 2)) = some (.int .i64 ((rd_T38 t230 x20_3).f0)) ∧ w'.cell? ⟨(ad242.add ((x20_3).toNat * 2)).block, (ad242.add ((x20_3).toNat * 2)).off + 1, none⟩ = some (.int .i64 ((rd_T38 t230 x20_3).f1))) (ds := []) (.replicate 12 false) (by kernel_rfl) rfl rfl ⟨czz BK211.out 0, czz BK211.out 1, hx242_0, hx242_1⟩ (fun hHeld => ?_); refine with_tabW saronlaw05_CycleTrue.tab19 saronlaw05_CycleTrue.bits19 (fun HT_ HW_ => ?_)
               generalize w66.drew = w67 at HO_12 HO_14 BK211 BK212 BK217 HB hx242_0 hx242_1 hHeld ⊢
               refine pT 1 123 (bt 12 2) (k := ?_)
               refine pT 2 124 (bt 12 6) (k := ?_)
               refine pT 3 125 (bt 12 14) (k := ?_)
               refine pT 5 127 (bt 12 46) (k := ?_)
               refine tT4 0 122 (bt 12 47) hHeld (k := ?_)
               refine tT4 4 126 (bt 12 63) hHeld (k := ?_)
               refine one_ (i := 6) (N := some 128) (bt 12 127) rfl rfl (one_of HT_.out (by kernel_rfl)) (by decide) (fun K hK => ?_)
               refine goes_ Tryd.func32 (by kernel_rfl) rfl #[.agg #[.int .i64 a0_0, .slice A0_1 l0_1.length c0_1], .agg #[.int .i64 ((rd_T38 t230 x20_3).f0), .int .i64 ((rd_T38 t230 x20_3).f1)], .slice Ao41 t224.length co41] (by rfl) rfl rfl TM ?_
               with_reducible refine (cycle_Missing.calls a0_0 _ _ l0_1 ((rd_T38 t230 x20_3).f0) ((rd_T38 t230 x20_3).f1) _ _ t224 t243 t246 _ ?side1 ?side2 ?side3 ?side4 ?side5 A62.out).mono ?_
               (case side1 => exact TC HR0_1.out)
               (case side2 => exact HC0_1.out)
               (case side3 => exact TE (Kd.S_reads' HO_12.out).2.2)
               (case side4 => exact (Kd.S_reads' HO_12.out).2.1)
               (case side5 => exact Glob.fr HG.out (Fr.of_below (TB3 GE211.out GE212.out GE217.out)))
               rintro e w68 ⟨v244, rfl, ho0, hb⟩
               have HS2_ := (hb.cell (World.block_lt_of_cell? _ _ (hHeld.2.2.1))).trans (hHeld.2.2.1)
               have HS3_ := (hb.cell (World.block_lt_of_cell? _ _ (hHeld.2.2.2))).trans (hHeld.2.2.2)
               refine ⟨_, rfl, ?_⟩
               have n0_ := Aside0.mk (Kd.S_below (TSo HO_12.out) hb)
               have n1_ := Aside0.mk (Kd.V_below (by (with_reducible repeat (first | apply Kd.V_alloc | apply Kd.V_drewN | apply Kd.V_drew)); exact HO_14.out) hb)
               have n2_ := Aside0.mk (Kd.V_lower (Kd.V_mono (ok' := fun k_ => some k_ ≠ (.slice Ao41 t224.length co41 : Value).ownBlock ∧ k_ ≠ gb211 ∧ k_ ≠ gb212 ∧ k_ ≠ gb217) ho0 (fun k_ hk_ => ⟨(Kd.fresh' (Kd.S_lt (TSo HO_12.out)) k_ hk_), (Kd.freshB (g := gb211) (o := .cells #[.int .i64 a0_0, .slice A0_1 l0_1.length c0_1] 24 (0, 0)) (by (with_reducible repeat (first | refine blk_drewN ?_ _ | refine blk_drew ?_ | refine blk_alloc ?_ _)); exact BK211.out) k_ hk_), (Kd.freshB (g := gb212) (o := .cells #[.int .i64 a1_0, .int .i64 a1_1, .int .i64 a1_2, .int .i64 a1_3] 67 (0, 0)) (by (with_reducible repeat (first | refine blk_drewN ?_ _ | refine blk_drew ?_ | refine blk_alloc ?_ _)); exact BK212.out) k_ hk_), (Kd.freshB (g := gb217) (o := .cells #[.int .i64 t215, .int .i64 t216] 38 (0, 0)) (by (with_reducible repeat (first | refine blk_drewN ?_ _ | refine blk_drew ?_ | refine blk_alloc ?_ _)); exact BK217.out) k_ hk_)⟩)) (below_size (TB3 GE211.out GE212.out GE217.out)))
               have n3_ := Aside0.mk (blk_below (g := gb211) (o := .cells #[.int .i64 a0_0, .slice A0_1 l0_1.length c0_1] 24 (0, 0)) (by (with_reducible repeat (first | refine blk_drewN ?_ _ | refine blk_drew ?_ | refine blk_alloc ?_ _)); exact BK211.out) hb)
               have n4_ := Aside0.mk (blk_below (g := gb212) (o := .cells #[.int .i64 a1_0, .int .i64 a1_1, .int .i64 a1_2, .int .i64 a1_3] 67 (0, 0)) (by (with_reducible repeat (first | refine blk_drewN ?_ _ | refine blk_drew ?_ | refine blk_alloc ?_ _)); exact BK212.out) hb)
               have n5_ := Aside0.mk (blk_below (g := gb217) (o := .cells #[.int .i64 t215, .int .i64 t216] 38 (0, 0)) (by (with_reducible repeat (first | refine blk_drewN ?_ _ | refine blk_drew ?_ | refine blk_alloc ?_ _)); exact BK217.out) hb)
               have n6_ := Aside0.mk (below_step (TB3 GE211.out GE212.out GE217.out) hb)
               clear HO_12
               clear HO_14
               clear BK211
               clear BK212
               clear BK217
               clear HB
               have HO_12 := n0_
               have HO_14 := n1_
               have HO245 := n2_
               have BK211 := n3_
               have BK212 := n4_
               have BK217 := n5_
               have HB := n6_
               clear n0_ n1_ n2_ n3_ n4_ n5_ n6_
               (try clear hb)
               (try clear hb2)
               (try clear hk)
               (try clear hi)
               (try clear ho0)
               refine hK.out _ _ ⟨czz BK211.out 0, czz BK211.out 1, HS2_, HS3_⟩ (fun hHeld => ?_)
               clear hK K
               refine norm_ (a' := ?_) ?_ ?_
               rotate_left
               ·show Act.put _ (some 128) _ = _
                simp only [Act.put, lA, lZ, lS, i64_w, i32_w]
                rfl
               refine pT 7 121 (bt 12 255) (k := ?_)
               refine pT 8 129 (bt 12 511) (k := ?_)
               refine pT 9 130 (bt 12 1023) (k := ?_)
               refine pT 10 21 (bt 12 2047) (k := ?_)
               refine pT 11 22 (bt 12 4095) (k := ?_)
               refine done_ (done_of HT_.out (by kernel_rfl)) ?_
               obtain ⟨Ao69, co69, eo69⟩ := Kd.V_slice HO245.out
               subst eo69
               try go_wp2
               go_ret
               exact ⟨TR, TB3 GE211.out GE212.out GE217.out⟩
              ·rw [if_neg c64] at H
               have c64b0 : decide (t219 < (t243.length : Int)) = false := decide_eq_false c64
               clear c64
               by_cases c70 : (t243.length : Int) < t238
               ·rw [if_pos c70] at H
                have c70b0 : decide ((t243.length : Int) < t238) = true := decide_eq_true c70
                clear c70
                obtain rfl := Option.some.inj H
                obtain ⟨Ao71, co71, eo71⟩ := Kd.V_slice HO_14.out
                subst eo71
                try go_wp2
                have n0_ := Aside0.mk (Kd.S_drew HO_12.out)
                have n1_ := Aside0.mk (Kd.V_drew HO_14.out)
                have n2_ := Aside0.mk (blk_drew BK211.out)
                have n3_ := Aside0.mk (blk_drew BK212.out)
                have n4_ := Aside0.mk (blk_drew BK217.out)
                have n5_ := Aside0.mk (below_drew1 HB.out)
                clear HO_12
                clear HO_14
                clear BK211
                clear BK212
                clear BK217
                clear HB
                have HO_12 := n0_
                have HO_14 := n1_
                have BK211 := n2_
                have BK212 := n3_
                have BK217 := n4_
                have HB := n5_
                clear n0_ n1_ n2_ n3_ n4_ n5_
                refine start_ (n := 10) (S := fun w' => True) (ds := []) (.replicate 10 false) (by kernel_rfl) rfl rfl trivial (fun hHeld => ?_); refine with_tabW saronlaw05_CycleTrue.tab18 saronlaw05_CycleTrue.bits18 (fun HT_ HW_ => ?_)
                generalize wr.drew = w72 at HO_12 HO_14 BK211 BK212 BK217 HB hHeld ⊢
                refine pT 0 112 (bt 10 1) (k := ?_)
                refine pT 1 113 (bt 10 3) (k := ?_)
                refine pU 2 114 (bt 10 7) (k := ?_)
                refine pU 3 115 (bt 10 15) (k := ?_)
                refine pU 4 116 (bt 10 31) (k := ?_)
                refine pU 5 117 (bt 10 63) (k := ?_)
                refine pU 6 118 (bt 10 127) (k := ?_)
                refine pU 7 119 (bt 10 255) (k := ?_)
                refine pT 8 120 (bt 10 511) (k := ?_)
                refine pT 9 19 (bt 10 1023) (k := ?_)
                refine done_ (done_of HT_.out (by kernel_rfl)) ?_
                try go_wp2
                have n0_ := Aside0.mk (Kd.S_drew HO_12.out)
                have n1_ := Aside0.mk (Kd.V_drew HO_14.out)
                have n2_ := Aside0.mk (blk_drew BK211.out)
                have n3_ := Aside0.mk (blk_drew BK212.out)
                have n4_ := Aside0.mk (blk_drew BK217.out)
                have n5_ := Aside0.mk (below_drew1 HB.out)
                clear HO_12
                clear HO_14
                clear BK211
                clear BK212
                clear BK217
                clear HB
                have HO_12 := n0_
                have HO_14 := n1_
                have BK211 := n2_
                have BK212 := n3_
                have BK217 := n4_
                have HB := n5_
                clear n0_ n1_ n2_ n3_ n4_ n5_
                have p242 : 0 ≤ (x20_3 : Int) := of_decide_eq_true TA
                have q242 : x20_3 < (t230.length : Int) := of_decide_eq_true TA
                obtain ⟨ad242, e242, hx242_0, hx242_1⟩ := at_T38 (Kd.V_reads' HO_14.out).2.2 x20_3 p242 q242
                cases e242
                replace p242 := eq_true p242
                replace q242 := eq_true q242
                refine start_ (n := 12) (S := fun w' => w'.cell? ⟨gb211, 0, none⟩ = some (.int .i64 a0_0) ∧ w'.cell? ⟨gb211, 1, none⟩ = some (.slice A0_1 l0_1.length c0_1) ∧ w'.cell? (ad242.add ((x20_3).toNat * 2)) = some (.int .i64 ((rd_T38 t230 x20_3).f0)) ∧ w'.cell? ⟨(ad242.add ((x20_3).toNat * 2)).block, (ad242.add ((x20_3).toNat * 2)).off + 1, none⟩ = some (.int .i64 ((rd_T38 t230 x20_3).f1))) (ds := []) (.replicate 12 false) (by kernel_rfl) rfl rfl ⟨czz BK211.out 0, czz BK211.out 1, hx242_0, hx242_1⟩ (fun hHeld => ?_); refine with_tabW saronlaw05_CycleTrue.tab19 saronlaw05_CycleTrue.bits19 (fun HT_ HW_ => ?_)
                generalize w72.drew = w73 at HO_12 HO_14 BK211 BK212 BK217 HB hx242_0 hx242_1 hHeld ⊢
                refine pT 1 123 (bt 12 2) (k := ?_)
                refine pT 2 124 (bt 12 6) (k := ?_)
                refine pT 3 125 (bt 12 14) (k := ?_)
                refine pT 5 127 (bt 12 46) (k := ?_)
                refine tT4 0 122 (bt 12 47) hHeld (k := ?_)
                refine tT4 4 126 (bt 12 63) hHeld (k := ?_)
                refine one_ (i := 6) (N := some 128) (bt 12 127) rfl rfl (one_of HT_.out (by kernel_rfl)) (by decide) (fun K hK => ?_)
                refine goes_ Tryd.func32 (by kernel_rfl) rfl #[.agg #[.int .i64 a0_0, .slice A0_1 l0_1.length c0_1], .agg #[.int .i64 ((rd_T38 t230 x20_3).f0), .int .i64 ((rd_T38 t230 x20_3).f1)], .slice Ao41 t224.length co41] (by rfl) rfl rfl TM ?_
                with_reducible refine (cycle_Missing.calls a0_0 _ _ l0_1 ((rd_T38 t230 x20_3).f0) ((rd_T38 t230 x20_3).f1) _ _ t224 t243 t246 _ ?side1 ?side2 ?side3 ?side4 ?side5 A62.out).mono ?_
                (case side1 => exact TC HR0_1.out)
                (case side2 => exact HC0_1.out)
                (case side3 => exact TE (Kd.S_reads' HO_12.out).2.2)
                (case side4 => exact (Kd.S_reads' HO_12.out).2.1)
                (case side5 => exact Glob.fr HG.out (Fr.of_below (TB3 GE211.out GE212.out GE217.out)))
                rintro e w74 ⟨v244, rfl, ho0, hb⟩
                have HS2_ := (hb.cell (World.block_lt_of_cell? _ _ (hHeld.2.2.1))).trans (hHeld.2.2.1)
                have HS3_ := (hb.cell (World.block_lt_of_cell? _ _ (hHeld.2.2.2))).trans (hHeld.2.2.2)
                refine ⟨_, rfl, ?_⟩
                have n0_ := Aside0.mk (Kd.S_below (TSo HO_12.out) hb)
                have n1_ := Aside0.mk (Kd.V_below (by (with_reducible repeat (first | apply Kd.V_alloc | apply Kd.V_drewN | apply Kd.V_drew)); exact HO_14.out) hb)
                have n2_ := Aside0.mk (Kd.V_lower (Kd.V_mono (ok' := fun k_ => some k_ ≠ (.slice Ao41 t224.length co41 : Value).ownBlock ∧ k_ ≠ gb211 ∧ k_ ≠ gb212 ∧ k_ ≠ gb217) ho0 (fun k_ hk_ => ⟨(Kd.fresh' (Kd.S_lt (TSo HO_12.out)) k_ hk_), (Kd.freshB (g := gb211) (o := .cells #[.int .i64 a0_0, .slice A0_1 l0_1.length c0_1] 24 (0, 0)) (by (with_reducible repeat (first | refine blk_drewN ?_ _ | refine blk_drew ?_ | refine blk_alloc ?_ _)); exact BK211.out) k_ hk_), (Kd.freshB (g := gb212) (o := .cells #[.int .i64 a1_0, .int .i64 a1_1, .int .i64 a1_2, .int .i64 a1_3] 67 (0, 0)) (by (with_reducible repeat (first | refine blk_drewN ?_ _ | refine blk_drew ?_ | refine blk_alloc ?_ _)); exact BK212.out) k_ hk_), (Kd.freshB (g := gb217) (o := .cells #[.int .i64 t215, .int .i64 t216] 38 (0, 0)) (by (with_reducible repeat (first | refine blk_drewN ?_ _ | refine blk_drew ?_ | refine blk_alloc ?_ _)); exact BK217.out) k_ hk_)⟩)) (below_size (TB3 GE211.out GE212.out GE217.out)))
                have n3_ := Aside0.mk (blk_below (g := gb211) (o := .cells #[.int .i64 a0_0, .slice A0_1 l0_1.length c0_1] 24 (0, 0)) (by (with_reducible repeat (first | refine blk_drewN ?_ _ | refine blk_drew ?_ | refine blk_alloc ?_ _)); exact BK211.out) hb)
                have n4_ := Aside0.mk (blk_below (g := gb212) (o := .cells #[.int .i64 a1_0, .int .i64 a1_1, .int .i64 a1_2, .int .i64 a1_3] 67 (0, 0)) (by (with_reducible repeat (first | refine blk_drewN ?_ _ | refine blk_drew ?_ | refine blk_alloc ?_ _)); exact BK212.out) hb)
                have n5_ := Aside0.mk (blk_below (g := gb217) (o := .cells #[.int .i64 t215, .int .i64 t216] 38 (0, 0)) (by (with_reducible repeat (first | refine blk_drewN ?_ _ | refine blk_drew ?_ | refine blk_alloc ?_ _)); exact BK217.out) hb)
                have n6_ := Aside0.mk (below_step (TB3 GE211.out GE212.out GE217.out) hb)
                clear HO_12
                clear HO_14
                clear BK211
                clear BK212
                clear BK217
                clear HB
                have HO_12 := n0_
                have HO_14 := n1_
                have HO245 := n2_
                have BK211 := n3_
                have BK212 := n4_
                have BK217 := n5_
                have HB := n6_
                clear n0_ n1_ n2_ n3_ n4_ n5_ n6_
                (try clear hb)
                (try clear hb2)
                (try clear hk)
                (try clear hi)
                (try clear ho0)
                refine hK.out _ _ ⟨czz BK211.out 0, czz BK211.out 1, HS2_, HS3_⟩ (fun hHeld => ?_)
                clear hK K
                refine norm_ (a' := ?_) ?_ ?_
                rotate_left
                ·show Act.put _ (some 128) _ = _
                 simp only [Act.put, lA, lZ, lS, i64_w, i32_w]
                 rfl
                refine pT 7 121 (bt 12 255) (k := ?_)
                refine pT 8 129 (bt 12 511) (k := ?_)
                refine pT 9 130 (bt 12 1023) (k := ?_)
                refine pT 10 21 (bt 12 2047) (k := ?_)
                refine pT 11 22 (bt 12 4095) (k := ?_)
                refine done_ (done_of HT_.out (by kernel_rfl)) ?_
                obtain ⟨Ao75, co75, eo75⟩ := Kd.V_slice HO245.out
                subst eo75
                try go_wp2
                go_ret
                exact ⟨TR, TB3 GE211.out GE212.out GE217.out⟩
               ·rw [if_neg c70] at H
                have c70b0 : decide ((t243.length : Int) < t238) = false := decide_eq_false c70
                clear c70
                have H' := Aside0.mk H
                clear H
                obtain ⟨Ao76, co76, eo76⟩ := Kd.V_slice HO_14.out
                subst eo76
                try go_wp2
                have n0_ := Aside0.mk (Kd.S_drew HO_12.out)
                have n1_ := Aside0.mk (Kd.V_drew HO_14.out)
                have n2_ := Aside0.mk (blk_drew BK211.out)
                have n3_ := Aside0.mk (blk_drew BK212.out)
                have n4_ := Aside0.mk (blk_drew BK217.out)
                have n5_ := Aside0.mk (below_drew1 HB.out)
                clear HO_12
                clear HO_14
                clear BK211
                clear BK212
                clear BK217
                clear HB
                have HO_12 := n0_
                have HO_14 := n1_
                have BK211 := n2_
                have BK212 := n3_
                have BK217 := n4_
                have HB := n5_
                clear n0_ n1_ n2_ n3_ n4_ n5_
                refine start_ (n := 10) (S := fun w' => True) (ds := []) (.replicate 10 false) (by kernel_rfl) rfl rfl trivial (fun hHeld => ?_); refine with_tabW saronlaw05_CycleTrue.tab18 saronlaw05_CycleTrue.bits18 (fun HT_ HW_ => ?_)
                generalize wr.drew = w77 at HO_12 HO_14 BK211 BK212 BK217 HB hHeld ⊢
                refine pT 0 112 (bt 10 1) (k := ?_)
                refine pT 1 113 (bt 10 3) (k := ?_)
                refine pU 2 114 (bt 10 7) (k := ?_)
                refine pU 3 115 (bt 10 15) (k := ?_)
                refine pU 4 116 (bt 10 31) (k := ?_)
                refine pU 5 117 (bt 10 63) (k := ?_)
                refine pU 6 118 (bt 10 127) (k := ?_)
                refine pU 7 119 (bt 10 255) (k := ?_)
                refine pT 8 120 (bt 10 511) (k := ?_)
                refine pT 9 19 (bt 10 1023) (k := ?_)
                refine done_ (done_of HT_.out (by kernel_rfl)) ?_
                try go_wp2
                have n0_ := Aside0.mk (Kd.S_drew HO_12.out)
                have n1_ := Aside0.mk (Kd.V_drew HO_14.out)
                have n2_ := Aside0.mk (blk_drew BK211.out)
                have n3_ := Aside0.mk (blk_drew BK212.out)
                have n4_ := Aside0.mk (blk_drew BK217.out)
                have n5_ := Aside0.mk (below_drew1 HB.out)
                clear HO_12
                clear HO_14
                clear BK211
                clear BK212
                clear BK217
                clear HB
                have HO_12 := n0_
                have HO_14 := n1_
                have BK211 := n2_
                have BK212 := n3_
                have BK217 := n4_
                have HB := n5_
                clear n0_ n1_ n2_ n3_ n4_ n5_
                have p242 : 0 ≤ (x20_3 : Int) := of_decide_eq_true TA
                have q242 : x20_3 < (t230.length : Int) := of_decide_eq_true TA
                obtain ⟨ad242, e242, hx242_0, hx242_1⟩ := at_T38 (Kd.V_reads' HO_14.out).2.2 x20_3 p242 q242
                cases e242
                replace p242 := eq_true p242
                replace q242 := eq_true q242
                refine start_ (n := 12) (S := fun w' => w'.cell? ⟨gb211, 0, none⟩ = some (.int .i64 a0_0) ∧ w'.cell? ⟨gb211, 1, none⟩ = some (.slice A0_1 l0_1.length c0_1) ∧ w'.cell? (ad242.add ((x20_3).toNat * 2)) = some (.int .i64 ((rd_T38 t230 x20_3).f0)) ∧ w'.cell? ⟨(ad242.add ((x20_3).toNat * 2)).block, (ad242.add ((x20_3).toNat * 2)).off + 1, none⟩ = some (.int .i64 ((rd_T38 t230 x20_3).f1))) (ds := []) (.replicate 12 false) (by kernel_rfl) rfl rfl ⟨czz BK211.out 0, czz BK211.out 1, hx242_0, hx242_1⟩ (fun hHeld => ?_); refine with_tabW saronlaw05_CycleTrue.tab19 saronlaw05_CycleTrue.bits19 (fun HT_ HW_ => ?_)
                generalize w77.drew = w78 at HO_12 HO_14 BK211 BK212 BK217 HB hx242_0 hx242_1 hHeld ⊢
                refine pT 1 123 (bt 12 2) (k := ?_)
                refine pT 2 124 (bt 12 6) (k := ?_)
                refine pT 3 125 (bt 12 14) (k := ?_)
                refine pT 5 127 (bt 12 46) (k := ?_)
                refine tT4 0 122 (bt 12 47) hHeld (k := ?_)
                refine tT4 4 126 (bt 12 63) hHeld (k := ?_)
                refine one_ (i := 6) (N := some 128) (bt 12 127) rfl rfl (one_of HT_.out (by kernel_rfl)) (by decide) (fun K hK => ?_)
                refine goes_ Tryd.func32 (by kernel_rfl) rfl #[.agg #[.int .i64 a0_0, .slice A0_1 l0_1.length c0_1], .agg #[.int .i64 ((rd_T38 t230 x20_3).f0), .int .i64 ((rd_T38 t230 x20_3).f1)], .slice Ao41 t224.length co41] (by rfl) rfl rfl TM ?_
                with_reducible refine (cycle_Missing.calls a0_0 _ _ l0_1 ((rd_T38 t230 x20_3).f0) ((rd_T38 t230 x20_3).f1) _ _ t224 t243 t246 _ ?side1 ?side2 ?side3 ?side4 ?side5 A62.out).mono ?_
                (case side1 => exact TC HR0_1.out)
                (case side2 => exact HC0_1.out)
                (case side3 => exact TE (Kd.S_reads' HO_12.out).2.2)
                (case side4 => exact (Kd.S_reads' HO_12.out).2.1)
                (case side5 => exact Glob.fr HG.out (Fr.of_below (TB3 GE211.out GE212.out GE217.out)))
                rintro e w79 ⟨v244, rfl, ho0, hb⟩
                have HS2_ := (hb.cell (World.block_lt_of_cell? _ _ (hHeld.2.2.1))).trans (hHeld.2.2.1)
                have HS3_ := (hb.cell (World.block_lt_of_cell? _ _ (hHeld.2.2.2))).trans (hHeld.2.2.2)
                refine ⟨_, rfl, ?_⟩
                have n0_ := Aside0.mk (Kd.S_below (TSo HO_12.out) hb)
                have n1_ := Aside0.mk (Kd.V_below (by (with_reducible repeat (first | apply Kd.V_alloc | apply Kd.V_drewN | apply Kd.V_drew)); exact HO_14.out) hb)
                have n2_ := Aside0.mk (Kd.V_lower (Kd.V_mono (ok' := fun k_ => some k_ ≠ (.slice Ao41 t224.length co41 : Value).ownBlock ∧ k_ ≠ gb211 ∧ k_ ≠ gb212 ∧ k_ ≠ gb217) ho0 (fun k_ hk_ => ⟨(Kd.fresh' (Kd.S_lt (TSo HO_12.out)) k_ hk_), (Kd.freshB (g := gb211) (o := .cells #[.int .i64 a0_0, .slice A0_1 l0_1.length c0_1] 24 (0, 0)) (by (with_reducible repeat (first | refine blk_drewN ?_ _ | refine blk_drew ?_ | refine blk_alloc ?_ _)); exact BK211.out) k_ hk_), (Kd.freshB (g := gb212) (o := .cells #[.int .i64 a1_0, .int .i64 a1_1, .int .i64 a1_2, .int .i64 a1_3] 67 (0, 0)) (by (with_reducible repeat (first | refine blk_drewN ?_ _ | refine blk_drew ?_ | refine blk_alloc ?_ _)); exact BK212.out) k_ hk_), (Kd.freshB (g := gb217) (o := .cells #[.int .i64 t215, .int .i64 t216] 38 (0, 0)) (by (with_reducible repeat (first | refine blk_drewN ?_ _ | refine blk_drew ?_ | refine blk_alloc ?_ _)); exact BK217.out) k_ hk_)⟩)) (below_size (TB3 GE211.out GE212.out GE217.out)))
                have n3_ := Aside0.mk (blk_below (g := gb211) (o := .cells #[.int .i64 a0_0, .slice A0_1 l0_1.length c0_1] 24 (0, 0)) (by (with_reducible repeat (first | refine blk_drewN ?_ _ | refine blk_drew ?_ | refine blk_alloc ?_ _)); exact BK211.out) hb)
                have n4_ := Aside0.mk (blk_below (g := gb212) (o := .cells #[.int .i64 a1_0, .int .i64 a1_1, .int .i64 a1_2, .int .i64 a1_3] 67 (0, 0)) (by (with_reducible repeat (first | refine blk_drewN ?_ _ | refine blk_drew ?_ | refine blk_alloc ?_ _)); exact BK212.out) hb)
                have n5_ := Aside0.mk (blk_below (g := gb217) (o := .cells #[.int .i64 t215, .int .i64 t216] 38 (0, 0)) (by (with_reducible repeat (first | refine blk_drewN ?_ _ | refine blk_drew ?_ | refine blk_alloc ?_ _)); exact BK217.out) hb)
                have n6_ := Aside0.mk (below_step (TB3 GE211.out GE212.out GE217.out) hb)
                clear HO_12
                clear HO_14
                clear BK211
                clear BK212
                clear BK217
                clear HB
                have HO_12 := n0_
                have HO_14 := n1_
                have HO245 := n2_
                have BK211 := n3_
                have BK212 := n4_
                have BK217 := n5_
                have HB := n6_
                clear n0_ n1_ n2_ n3_ n4_ n5_ n6_
                (try clear hb)
                (try clear hb2)
                (try clear hk)
                (try clear hi)
                (try clear ho0)
                refine hK.out _ _ ⟨czz BK211.out 0, czz BK211.out 1, HS2_, HS3_⟩ (fun hHeld => ?_)
                clear hK K
                refine norm_ (a' := ?_) ?_ ?_
                rotate_left
                ·show Act.put _ (some 128) _ = _
                 simp only [Act.put, lA, lZ, lS, i64_w, i32_w]
                 rfl
                refine pT 7 121 (bt 12 255) (k := ?_)
                refine pT 8 129 (bt 12 511) (k := ?_)
                refine pT 9 130 (bt 12 1023) (k := ?_)
                refine pT 10 21 (bt 12 2047) (k := ?_)
                refine pT 11 22 (bt 12 4095) (k := ?_)
                refine done_ (done_of HT_.out (by kernel_rfl)) ?_
                obtain ⟨Ao80, co80, eo80⟩ := Kd.V_slice HO245.out
                subst eo80
                try go_wp2
                go_roundg k3
                case measure => have := HJ9.out; have := HJ34.out; have := HK3.out; omega
                case rel => exact ⟨(true), (wrap64 (x20_3 + 1)), TT, TT, H', ⟨by have := HJ9.out; have := HJ34.out; have := HK3.out; omega⟩, ⟨by (with_reducible repeat (first | apply Kd.S_alloc | apply Kd.S_drewN | apply Kd.S_drew)); exact HO_12.out⟩, ⟨by (with_reducible repeat (first | apply Kd.V_alloc | apply Kd.V_drewN | apply Kd.V_drew)); exact HO_14.out⟩, ⟨by (with_reducible repeat (first | refine blk_drewN ?_ _ | refine blk_drew ?_ | refine blk_alloc ?_ _)); exact BK211.out⟩, ⟨by (with_reducible repeat (first | refine blk_drewN ?_ _ | refine blk_drew ?_ | refine blk_alloc ?_ _)); exact BK212.out⟩, ⟨by (with_reducible repeat (first | refine blk_drewN ?_ _ | refine blk_drew ?_ | refine blk_alloc ?_ _)); exact BK217.out⟩, ⟨TB3 GE211.out GE212.out GE217.out⟩⟩
             ·rw [if_neg c63] at H
              have c63b0 : (t246 == 0) = false := beq_eq_false_iff_ne.mpr c63
              have c63b1 : (t246 != 0) = true := bne_iff_ne.mpr c63
              obtain rfl := Option.some.inj H
              obtain ⟨Ao81, co81, eo81⟩ := Kd.V_slice HO_14.out
              subst eo81
              try go_wp2
              have n0_ := Aside0.mk (Kd.S_drew HO_12.out)
              have n1_ := Aside0.mk (Kd.V_drew HO_14.out)
              have n2_ := Aside0.mk (blk_drew BK211.out)
              have n3_ := Aside0.mk (blk_drew BK212.out)
              have n4_ := Aside0.mk (blk_drew BK217.out)
              have n5_ := Aside0.mk (below_drew1 HB.out)
              clear HO_12
              clear HO_14
              clear BK211
              clear BK212
              clear BK217
              clear HB
              have HO_12 := n0_
              have HO_14 := n1_
              have BK211 := n2_
              have BK212 := n3_
              have BK217 := n4_
              have HB := n5_
              clear n0_ n1_ n2_ n3_ n4_ n5_
              refine start_ (n := 10) (S := fun w' => True) (ds := []) (.replicate 10 false) (by kernel_rfl) rfl rfl trivial (fun hHeld => ?_); refine with_tabW saronlaw05_CycleTrue.tab18 saronlaw05_CycleTrue.bits18 (fun HT_ HW_ => ?_)
              generalize wr.drew = w82 at HO_12 HO_14 BK211 BK212 BK217 HB hHeld ⊢
              refine pT 0 112 (bt 10 1) (k := ?_)
              refine pT 1 113 (bt 10 3) (k := ?_)
              refine pU 2 114 (bt 10 7) (k := ?_)
              refine pU 3 115 (bt 10 15) (k := ?_)
              refine pU 4 116 (bt 10 31) (k := ?_)
              refine pU 5 117 (bt 10 63) (k := ?_)
              refine pU 6 118 (bt 10 127) (k := ?_)
              refine pU 7 119 (bt 10 255) (k := ?_)
              refine pT 8 120 (bt 10 511) (k := ?_)
              refine pT 9 19 (bt 10 1023) (k := ?_)
              refine done_ (done_of HT_.out (by kernel_rfl)) ?_
              try go_wp2
              have n0_ := Aside0.mk (Kd.S_drew HO_12.out)
              have n1_ := Aside0.mk (Kd.V_drew HO_14.out)
              have n2_ := Aside0.mk (blk_drew BK211.out)
              have n3_ := Aside0.mk (blk_drew BK212.out)
              have n4_ := Aside0.mk (blk_drew BK217.out)
              have n5_ := Aside0.mk (below_drew1 HB.out)
              clear HO_12
              clear HO_14
              clear BK211
              clear BK212
              clear BK217
              clear HB
              have HO_12 := n0_
              have HO_14 := n1_
              have BK211 := n2_
              have BK212 := n3_
              have BK217 := n4_
              have HB := n5_
              clear n0_ n1_ n2_ n3_ n4_ n5_
              have p242 : 0 ≤ (x20_3 : Int) := of_decide_eq_true TA
              have q242 : x20_3 < (t230.length : Int) := of_decide_eq_true TA
              obtain ⟨ad242, e242, hx242_0, hx242_1⟩ := at_T38 (Kd.V_reads' HO_14.out).2.2 x20_3 p242 q242
              cases e242
              replace p242 := eq_true p242
              replace q242 := eq_true q242
              refine start_ (n := 12) (S := fun w' => w'.cell? ⟨gb211, 0, none⟩ = some (.int .i64 a0_0) ∧ w'.cell? ⟨gb211, 1, none⟩ = some (.slice A0_1 l0_1.length c0_1) ∧ w'.cell? (ad242.add ((x20_3).toNat * 2)) = some (.int .i64 ((rd_T38 t230 x20_3).f0)) ∧ w'.cell? ⟨(ad242.add ((x20_3).toNat * 2)).block, (ad242.add ((x20_3).toNat * 2)).off + 1, none⟩ = some (.int .i64 ((rd_T38 t230 x20_3).f1))) (ds := []) (.replicate 12 false) (by kernel_rfl) rfl rfl ⟨czz BK211.out 0, czz BK211.out 1, hx242_0, hx242_1⟩ (fun hHeld => ?_); refine with_tabW saronlaw05_CycleTrue.tab19 saronlaw05_CycleTrue.bits19 (fun HT_ HW_ => ?_)
              generalize w82.drew = w83 at HO_12 HO_14 BK211 BK212 BK217 HB hx242_0 hx242_1 hHeld ⊢
              refine pT 1 123 (bt 12 2) (k := ?_)
              refine pT 2 124 (bt 12 6) (k := ?_)
              refine pT 3 125 (bt 12 14) (k := ?_)
              refine pT 5 127 (bt 12 46) (k := ?_)
              refine tT4 0 122 (bt 12 47) hHeld (k := ?_)
              refine tT4 4 126 (bt 12 63) hHeld (k := ?_)
              refine one_ (i := 6) (N := some 128) (bt 12 127) rfl rfl (one_of HT_.out (by kernel_rfl)) (by decide) (fun K hK => ?_)
              refine goes_ Tryd.func32 (by kernel_rfl) rfl #[.agg #[.int .i64 a0_0, .slice A0_1 l0_1.length c0_1], .agg #[.int .i64 ((rd_T38 t230 x20_3).f0), .int .i64 ((rd_T38 t230 x20_3).f1)], .slice Ao41 t224.length co41] (by rfl) rfl rfl TM ?_
              with_reducible refine (cycle_Missing.calls a0_0 _ _ l0_1 ((rd_T38 t230 x20_3).f0) ((rd_T38 t230 x20_3).f1) _ _ t224 t243 t246 _ ?side1 ?side2 ?side3 ?side4 ?side5 A62.out).mono ?_
              (case side1 => exact TC HR0_1.out)
              (case side2 => exact HC0_1.out)
              (case side3 => exact TE (Kd.S_reads' HO_12.out).2.2)
              (case side4 => exact (Kd.S_reads' HO_12.out).2.1)
              (case side5 => exact Glob.fr HG.out (Fr.of_below (TB3 GE211.out GE212.out GE217.out)))
              rintro e w84 ⟨v244, rfl, ho0, hb⟩
              have HS2_ := (hb.cell (World.block_lt_of_cell? _ _ (hHeld.2.2.1))).trans (hHeld.2.2.1)
              have HS3_ := (hb.cell (World.block_lt_of_cell? _ _ (hHeld.2.2.2))).trans (hHeld.2.2.2)
              refine ⟨_, rfl, ?_⟩
              have n0_ := Aside0.mk (Kd.S_below (TSo HO_12.out) hb)
              have n1_ := Aside0.mk (Kd.V_below (by (with_reducible repeat (first | apply Kd.V_alloc | apply Kd.V_drewN | apply Kd.V_drew)); exact HO_14.out) hb)
              have n2_ := Aside0.mk (Kd.V_lower (Kd.V_mono (ok' := fun k_ => some k_ ≠ (.slice Ao41 t224.length co41 : Value).ownBlock ∧ k_ ≠ gb211 ∧ k_ ≠ gb212 ∧ k_ ≠ gb217) ho0 (fun k_ hk_ => ⟨(Kd.fresh' (Kd.S_lt (TSo HO_12.out)) k_ hk_), (Kd.freshB (g := gb211) (o := .cells #[.int .i64 a0_0, .slice A0_1 l0_1.length c0_1] 24 (0, 0)) (by (with_reducible repeat (first | refine blk_drewN ?_ _ | refine blk_drew ?_ | refine blk_alloc ?_ _)); exact BK211.out) k_ hk_), (Kd.freshB (g := gb212) (o := .cells #[.int .i64 a1_0, .int .i64 a1_1, .int .i64 a1_2, .int .i64 a1_3] 67 (0, 0)) (by (with_reducible repeat (first | refine blk_drewN ?_ _ | refine blk_drew ?_ | refine blk_alloc ?_ _)); exact BK212.out) k_ hk_), (Kd.freshB (g := gb217) (o := .cells #[.int .i64 t215, .int .i64 t216] 38 (0, 0)) (by (with_reducible repeat (first | refine blk_drewN ?_ _ | refine blk_drew ?_ | refine blk_alloc ?_ _)); exact BK217.out) k_ hk_)⟩)) (below_size (TB3 GE211.out GE212.out GE217.out)))
              have n3_ := Aside0.mk (blk_below (g := gb211) (o := .cells #[.int .i64 a0_0, .slice A0_1 l0_1.length c0_1] 24 (0, 0)) (by (with_reducible repeat (first | refine blk_drewN ?_ _ | refine blk_drew ?_ | refine blk_alloc ?_ _)); exact BK211.out) hb)
              have n4_ := Aside0.mk (blk_below (g := gb212) (o := .cells #[.int .i64 a1_0, .int .i64 a1_1, .int .i64 a1_2, .int .i64 a1_3] 67 (0, 0)) (by (with_reducible repeat (first | refine blk_drewN ?_ _ | refine blk_drew ?_ | refine blk_alloc ?_ _)); exact BK212.out) hb)
              have n5_ := Aside0.mk (blk_below (g := gb217) (o := .cells #[.int .i64 t215, .int .i64 t216] 38 (0, 0)) (by (with_reducible repeat (first | refine blk_drewN ?_ _ | refine blk_drew ?_ | refine blk_alloc ?_ _)); exact BK217.out) hb)
              have n6_ := Aside0.mk (below_step (TB3 GE211.out GE212.out GE217.out) hb)
              clear HO_12
              clear HO_14
              clear BK211
              clear BK212
              clear BK217
              clear HB
              have HO_12 := n0_
              have HO_14 := n1_
              have HO245 := n2_
              have BK211 := n3_
              have BK212 := n4_
              have BK217 := n5_
              have HB := n6_
              clear n0_ n1_ n2_ n3_ n4_ n5_ n6_
              (try clear hb)
              (try clear hb2)
              (try clear hk)
              (try clear hi)
              (try clear ho0)
              refine hK.out _ _ ⟨czz BK211.out 0, czz BK211.out 1, HS2_, HS3_⟩ (fun hHeld => ?_)
              clear hK K
              refine norm_ (a' := ?_) ?_ ?_
              rotate_left
              ·show Act.put _ (some 128) _ = _
               simp only [Act.put, lA, lZ, lS, i64_w, i32_w]
               rfl
              refine pT 7 121 (bt 12 255) (k := ?_)
              refine pT 8 129 (bt 12 511) (k := ?_)
              refine pT 9 130 (bt 12 1023) (k := ?_)
              refine pT 10 21 (bt 12 2047) (k := ?_)
              refine pT 11 22 (bt 12 4095) (k := ?_)
              refine done_ (done_of HT_.out (by kernel_rfl)) ?_
              try go_wp2
              go_ret
              exact ⟨TR, TB3 GE211.out GE212.out GE217.out⟩
            ·rw [if_neg c61] at H
             exact absurd H (by simp)
           ·replace c60 := Bool.eq_false_iff.mpr c60
            subst c60
            have H1 : (if 0 ≤ x20_3 then ((cycle_Missing.f a0_0 l0_1 ((rd_T38 t230 x20_3).f0) ((rd_T38 t230 x20_3).f1) t224).bind fun bt249 => (if bt249.2 = 0 then (if (bt249.1.length : Int) > t219 then (some false) else (if (bt249.1.length : Int) < t238 then (some false) else (saronlaw05_CycleTrue.l0 k3 t219 t224 t230 t238 (((rd_T38 t230 x20_3).f0) == t215 && (((rd_T38 t230 x20_3).f1) == t216)) (wrap64 (x20_3 + 1)) a0_0 l0_1 t215 t216))) else (some false))) else (none)) = some r := by rw [if_neg (show ¬ (false = true) by decide)] at H; exact H
            clear H
            have H := H1
            clear H1
            by_cases c85 : 0 ≤ x20_3
            ·rw [if_pos c85] at H
             have c85b0 : decide (0 ≤ x20_3) = true := decide_eq_true c85
             clear c85
             replace H := Option.bind_eq_some_iff.mp H
             obtain ⟨⟨t249, t252⟩, A860, H⟩ := H
             replace H : (if t252 = 0 then (if (t249.length : Int) > t219 then (some false) else (if (t249.length : Int) < t238 then (some false) else (saronlaw05_CycleTrue.l0 k3 t219 t224 t230 t238 (((rd_T38 t230 x20_3).f0) == t215 && (((rd_T38 t230 x20_3).f1) == t216)) (wrap64 (x20_3 + 1)) a0_0 l0_1 t215 t216))) else (some false)) = some r := H
             have A86 := Aside0.mk A860
             clear A860
             by_cases c87 : t252 = 0
             ·rw [if_pos c87] at H
              have c87b0 : (t252 == 0) = true := beq_iff_eq.mpr c87
              have c87b1 : (t252 != 0) = false := bne_eq_false_iff_eq.mpr c87
              clear c87
              by_cases c88 : (t249.length : Int) > t219
              ·rw [if_pos c88] at H
               have c88b0 : decide (t219 < (t249.length : Int)) = true := decide_eq_true c88
               clear c88
               obtain rfl := Option.some.inj H
               obtain ⟨Ao89, co89, eo89⟩ := Kd.V_slice HO_14.out
               subst eo89
               try go_wp2
               have n0_ := Aside0.mk (Kd.S_drew HO_12.out)
               have n1_ := Aside0.mk (Kd.V_drew HO_14.out)
               have n2_ := Aside0.mk (blk_drew BK211.out)
               have n3_ := Aside0.mk (blk_drew BK212.out)
               have n4_ := Aside0.mk (blk_drew BK217.out)
               have n5_ := Aside0.mk (below_drew1 HB.out)
               clear HO_12
               clear HO_14
               clear BK211
               clear BK212
               clear BK217
               clear HB
               have HO_12 := n0_
               have HO_14 := n1_
               have BK211 := n2_
               have BK212 := n3_
               have BK217 := n4_
               have HB := n5_
               clear n0_ n1_ n2_ n3_ n4_ n5_
               have p247 : 0 ≤ (x20_3 : Int) := of_decide_eq_true TA
               have q247 : x20_3 < (t230.length : Int) := of_decide_eq_true TA
               obtain ⟨ad247, e247, hx247_0, hx247_1⟩ := at_T38 (Kd.V_reads' HO_14.out).2.2 x20_3 p247 q247
               cases e247
               replace p247 := eq_true p247
               replace q247 := eq_true q247
               refine start_ (n := 10) (S := fun w' => w'.cell? ⟨gb217, 0, none⟩ = some (.int .i64 t215) ∧ w'.cell? ⟨gb217, 1, none⟩ = some (.int .i64 t216) ∧ w'.cell? (ad247.add ((x20_3).toNat * 2)) = some (.int .i64 ((rd_T38 t230 x20_3).f0)) ∧ w'.cell? ⟨(ad247.add ((x20_3).toNat * 2)).block, (ad247.add ((x20_3).toNat * 2)).off + 1, none⟩ = some (.int .i64 ((rd_T38 t230 x20_3).f1))) (ds := []) (.replicate 10 false) (by kernel_rfl) rfl rfl ⟨czz BK217.out 0, czz BK217.out 1, hx247_0, hx247_1⟩ (fun hHeld => ?_); refine with_tabW saronlaw05_CycleTrue.tab18 saronlaw05_CycleTrue.bits18 (fun HT_ HW_ => ?_)
               generalize wr.drew = w90 at HO_12 HO_14 BK211 BK212 BK217 HB hx247_0 hx247_1 hHeld ⊢
               refine pT 0 112 (bt 10 1) (k := ?_)
               refine pT 1 113 (bt 10 3) (k := ?_)
               refine pT 2 114 (bt 10 7) (k := ?_)
               refine pT 3 115 (bt 10 15) (k := ?_)
               refine pT 4 116 (bt 10 31) (k := ?_)
               refine tT4 5 117 (bt 10 63) hHeld (k := ?_)
               refine tT4 6 118 (bt 10 127) hHeld (k := ?_)
               refine pT 7 119 (bt 10 255) (k := ?_)
               refine pT 8 120 (bt 10 511) (k := ?_)
               refine pT 9 19 (bt 10 1023) (k := ?_)
               refine done_ (done_of HT_.out (by kernel_rfl)) ?_
               try go_wp2
               have n0_ := Aside0.mk (Kd.S_drew HO_12.out)
               have n1_ := Aside0.mk (Kd.V_drew HO_14.out)
               have n2_ := Aside0.mk (blk_drew BK211.out)
               have n3_ := Aside0.mk (blk_drew BK212.out)
               have n4_ := Aside0.mk (blk_drew BK217.out)
               have n5_ := Aside0.mk (below_drew1 HB.out)
               clear HO_12
               clear HO_14
               clear BK211
               clear BK212
               clear BK217
               clear HB
               have HO_12 := n0_
               have HO_14 := n1_
               have BK211 := n2_
               have BK212 := n3_
               have BK217 := n4_
               have HB := n5_
               clear n0_ n1_ n2_ n3_ n4_ n5_
               have p248 : 0 ≤ (x20_3 : Int) := of_decide_eq_true TA
               have q248 : x20_3 < (t230.length : Int) := of_decide_eq_true TA
               obtain ⟨ad248, e248, hx248_0, hx248_1⟩ := at_T38 (Kd.V_reads' HO_14.out).2.2 x20_3 p248 q248
               obtain rfl : ad247 = ad248 := (by injection e248)
               replace p248 := eq_true p248
               replace q248 := eq_true q248
               refine start_ (n := 12) (S := fun w' => w'.cell? ⟨gb211, 0, none⟩ = some (.int .i64 a0_0) ∧ w'.cell? ⟨gb211, 1, none⟩ = some (.slice A0_1 l0_1.length c0_1) ∧ w'.cell? (ad247.add ((x20_3).toNat * 2)) = some (.int .i64 ((rd_T38 t230 x20_3).f0)) ∧ w'.cell? ⟨(ad247.add ((x20_3).toNat * 2)).block, (ad247.add ((x20_3).toNat * 2)).off + 1, none⟩ = some (.int .i64 ((rd_T38 t230 x20_3).f1))) (ds := []) (.replicate 12 false) (by kernel_rfl) rfl rfl ⟨czz BK211.out 0, czz BK211.out 1, hx248_0, hx248_1⟩ (fun hHeld => ?_); refine with_tabW saronlaw05_CycleTrue.tab19 saronlaw05_CycleTrue.bits19 (fun HT_ HW_ => ?_)
               generalize w90.drew = w91 at HO_12 HO_14 BK211 BK212 BK217 HB hx248_0 hx248_1 hHeld ⊢
               refine pT 1 123 (bt 12 2) (k := ?_)
               refine pT 2 124 (bt 12 6) (k := ?_)
               refine pT 3 125 (bt 12 14) (k := ?_)
               refine pT 5 127 (bt 12 46) (k := ?_)
               refine tT4 0 122 (bt 12 47) hHeld (k := ?_)
               refine tT4 4 126 (bt 12 63) hHeld (k := ?_)
               refine one_ (i := 6) (N := some 128) (bt 12 127) rfl rfl (one_of HT_.out (by kernel_rfl)) (by decide) (fun K hK => ?_)
               refine goes_ Tryd.func32 (by kernel_rfl) rfl #[.agg #[.int .i64 a0_0, .slice A0_1 l0_1.length c0_1], .agg #[.int .i64 ((rd_T38 t230 x20_3).f0), .int .i64 ((rd_T38 t230 x20_3).f1)], .slice Ao41 t224.length co41] (by rfl) rfl rfl TM ?_
               with_reducible refine (cycle_Missing.calls a0_0 _ _ l0_1 ((rd_T38 t230 x20_3).f0) ((rd_T38 t230 x20_3).f1) _ _ t224 t249 t252 _ ?side1 ?side2 ?side3 ?side4 ?side5 A86.out).mono ?_
               (case side1 => exact TC HR0_1.out)
               (case side2 => exact HC0_1.out)
               (case side3 => exact TE (Kd.S_reads' HO_12.out).2.2)
               (case side4 => exact (Kd.S_reads' HO_12.out).2.1)
               (case side5 => exact Glob.fr HG.out (Fr.of_below (TB3 GE211.out GE212.out GE217.out)))
               rintro e w92 ⟨v250, rfl, ho0, hb⟩
               have HS2_ := (hb.cell (World.block_lt_of_cell? _ _ (hHeld.2.2.1))).trans (hHeld.2.2.1)
               have HS3_ := (hb.cell (World.block_lt_of_cell? _ _ (hHeld.2.2.2))).trans (hHeld.2.2.2)
               refine ⟨_, rfl, ?_⟩
               have n0_ := Aside0.mk (Kd.S_below (TSo HO_12.out) hb)
               have n1_ := Aside0.mk (Kd.V_below (by (with_reducible repeat (first | apply Kd.V_alloc | apply Kd.V_drewN | apply Kd.V_drew)); exact HO_14.out) hb)
               have n2_ := Aside0.mk (Kd.V_lower (Kd.V_mono (ok' := fun k_ => some k_ ≠ (.slice Ao41 t224.length co41 : Value).ownBlock ∧ k_ ≠ gb211 ∧ k_ ≠ gb212 ∧ k_ ≠ gb217) ho0 (fun k_ hk_ => ⟨(Kd.fresh' (Kd.S_lt (TSo HO_12.out)) k_ hk_), (Kd.freshB (g := gb211) (o := .cells #[.int .i64 a0_0, .slice A0_1 l0_1.length c0_1] 24 (0, 0)) (by (with_reducible repeat (first | refine blk_drewN ?_ _ | refine blk_drew ?_ | refine blk_alloc ?_ _)); exact BK211.out) k_ hk_), (Kd.freshB (g := gb212) (o := .cells #[.int .i64 a1_0, .int .i64 a1_1, .int .i64 a1_2, .int .i64 a1_3] 67 (0, 0)) (by (with_reducible repeat (first | refine blk_drewN ?_ _ | refine blk_drew ?_ | refine blk_alloc ?_ _)); exact BK212.out) k_ hk_), (Kd.freshB (g := gb217) (o := .cells #[.int .i64 t215, .int .i64 t216] 38 (0, 0)) (by (with_reducible repeat (first | refine blk_drewN ?_ _ | refine blk_drew ?_ | refine blk_alloc ?_ _)); exact BK217.out) k_ hk_)⟩)) (below_size (TB3 GE211.out GE212.out GE217.out)))
               have n3_ := Aside0.mk (blk_below (g := gb211) (o := .cells #[.int .i64 a0_0, .slice A0_1 l0_1.length c0_1] 24 (0, 0)) (by (with_reducible repeat (first | refine blk_drewN ?_ _ | refine blk_drew ?_ | refine blk_alloc ?_ _)); exact BK211.out) hb)
               have n4_ := Aside0.mk (blk_below (g := gb212) (o := .cells #[.int .i64 a1_0, .int .i64 a1_1, .int .i64 a1_2, .int .i64 a1_3] 67 (0, 0)) (by (with_reducible repeat (first | refine blk_drewN ?_ _ | refine blk_drew ?_ | refine blk_alloc ?_ _)); exact BK212.out) hb)
               have n5_ := Aside0.mk (blk_below (g := gb217) (o := .cells #[.int .i64 t215, .int .i64 t216] 38 (0, 0)) (by (with_reducible repeat (first | refine blk_drewN ?_ _ | refine blk_drew ?_ | refine blk_alloc ?_ _)); exact BK217.out) hb)
               have n6_ := Aside0.mk (below_step (TB3 GE211.out GE212.out GE217.out) hb)
               clear HO_12
               clear HO_14
               clear BK211
               clear BK212
               clear BK217
               clear HB
               have HO_12 := n0_
               have HO_14 := n1_
               have HO251 := n2_
               have BK211 := n3_
               have BK212 := n4_
               have BK217 := n5_
               have HB := n6_
               clear n0_ n1_ n2_ n3_ n4_ n5_ n6_
               (try clear hb)
               (try clear hb2)
               (try clear hk)
               (try clear hi)
               (try clear ho0)
               refine hK.out _ _ ⟨czz BK211.out 0, czz BK211.out 1, HS2_, HS3_⟩ (fun hHeld => ?_)
               clear hK K
               refine norm_ (a' := ?_) ?_ ?_
               rotate_left
               ·show Act.put _ (some 128) _ = _
                simp only [Act.put, lA, lZ, lS, i64_w, i32_w]
                rfl
               refine pT 7 121 (bt 12 255) (k := ?_)
               refine pT 8 129 (bt 12 511) (k := ?_)
               refine pT 9 130 (bt 12 1023) (k := ?_)
               refine pT 10 21 (bt 12 2047) (k := ?_)
               refine pT 11 22 (bt 12 4095) (k := ?_)
               refine done_ (done_of HT_.out (by kernel_rfl)) ?_
               obtain ⟨Ao93, co93, eo93⟩ := Kd.V_slice HO251.out
               subst eo93
               try go_wp2
               go_ret
               exact ⟨TR, TB3 GE211.out GE212.out GE217.out⟩
              ·rw [if_neg c88] at H
               have c88b0 : decide (t219 < (t249.length : Int)) = false := decide_eq_false c88
               clear c88
               by_cases c94 : (t249.length : Int) < t238
               ·rw [if_pos c94] at H
                have c94b0 : decide ((t249.length : Int) < t238) = true := decide_eq_true c94
                clear c94
                obtain rfl := Option.some.inj H
                obtain ⟨Ao95, co95, eo95⟩ := Kd.V_slice HO_14.out
                subst eo95
                try go_wp2
                have n0_ := Aside0.mk (Kd.S_drew HO_12.out)
                have n1_ := Aside0.mk (Kd.V_drew HO_14.out)
                have n2_ := Aside0.mk (blk_drew BK211.out)
                have n3_ := Aside0.mk (blk_drew BK212.out)
                have n4_ := Aside0.mk (blk_drew BK217.out)
                have n5_ := Aside0.mk (below_drew1 HB.out)
                clear HO_12
                clear HO_14
                clear BK211
                clear BK212
                clear BK217
                clear HB
                have HO_12 := n0_
                have HO_14 := n1_
                have BK211 := n2_
                have BK212 := n3_
                have BK217 := n4_
                have HB := n5_
                clear n0_ n1_ n2_ n3_ n4_ n5_
                have p247 : 0 ≤ (x20_3 : Int) := of_decide_eq_true TA
                have q247 : x20_3 < (t230.length : Int) := of_decide_eq_true TA
                obtain ⟨ad247, e247, hx247_0, hx247_1⟩ := at_T38 (Kd.V_reads' HO_14.out).2.2 x20_3 p247 q247
                cases e247
                replace p247 := eq_true p247
                replace q247 := eq_true q247
                refine start_ (n := 10) (S := fun w' => w'.cell? ⟨gb217, 0, none⟩ = some (.int .i64 t215) ∧ w'.cell? ⟨gb217, 1, none⟩ = some (.int .i64 t216) ∧ w'.cell? (ad247.add ((x20_3).toNat * 2)) = some (.int .i64 ((rd_T38 t230 x20_3).f0)) ∧ w'.cell? ⟨(ad247.add ((x20_3).toNat * 2)).block, (ad247.add ((x20_3).toNat * 2)).off + 1, none⟩ = some (.int .i64 ((rd_T38 t230 x20_3).f1))) (ds := []) (.replicate 10 false) (by kernel_rfl) rfl rfl ⟨czz BK217.out 0, czz BK217.out 1, hx247_0, hx247_1⟩ (fun hHeld => ?_); refine with_tabW saronlaw05_CycleTrue.tab18 saronlaw05_CycleTrue.bits18 (fun HT_ HW_ => ?_)
                generalize wr.drew = w96 at HO_12 HO_14 BK211 BK212 BK217 HB hx247_0 hx247_1 hHeld ⊢
                refine pT 0 112 (bt 10 1) (k := ?_)
                refine pT 1 113 (bt 10 3) (k := ?_)
                refine pT 2 114 (bt 10 7) (k := ?_)
                refine pT 3 115 (bt 10 15) (k := ?_)
                refine pT 4 116 (bt 10 31) (k := ?_)
                refine tT4 5 117 (bt 10 63) hHeld (k := ?_)
                refine tT4 6 118 (bt 10 127) hHeld (k := ?_)
                refine pT 7 119 (bt 10 255) (k := ?_)
                refine pT 8 120 (bt 10 511) (k := ?_)
                refine pT 9 19 (bt 10 1023) (k := ?_)
                refine done_ (done_of HT_.out (by kernel_rfl)) ?_
                try go_wp2
                have n0_ := Aside0.mk (Kd.S_drew HO_12.out)
                have n1_ := Aside0.mk (Kd.V_drew HO_14.out)
                have n2_ := Aside0.mk (blk_drew BK211.out)
                have n3_ := Aside0.mk (blk_drew BK212.out)
                have n4_ := Aside0.mk (blk_drew BK217.out)
                have n5_ := Aside0.mk (below_drew1 HB.out)
                clear HO_12
                clear HO_14
                clear BK211
                clear BK212
                clear BK217
                clear HB
                have HO_12 := n0_
                have HO_14 := n1_
                have BK211 := n2_
                have BK212 := n3_
                have BK217 := n4_
                have HB := n5_
                clear n0_ n1_ n2_ n3_ n4_ n5_
                have p248 : 0 ≤ (x20_3 : Int) := of_decide_eq_true TA
                have q248 : x20_3 < (t230.length : Int) := of_decide_eq_true TA
                obtain ⟨ad248, e248, hx248_0, hx248_1⟩ := at_T38 (Kd.V_reads' HO_14.out).2.2 x20_3 p248 q248
                obtain rfl : ad247 = ad248 := (by injection e248)
                replace p248 := eq_true p248
                replace q248 := eq_true q248
                refine start_ (n := 12) (S := fun w' => w'.cell? ⟨gb211, 0, none⟩ = some (.int .i64 a0_0) ∧ w'.cell? ⟨gb211, 1, none⟩ = some (.slice A0_1 l0_1.length c0_1) ∧ w'.cell? (ad247.add ((x20_3).toNat * 2)) = some (.int .i64 ((rd_T38 t230 x20_3).f0)) ∧ w'.cell? ⟨(ad247.add ((x20_3).toNat * 2)).block, (ad247.add ((x20_3).toNat * 2)).off + 1, none⟩ = some (.int .i64 ((rd_T38 t230 x20_3).f1))) (ds := []) (.replicate 12 false) (by kernel_rfl) rfl rfl ⟨czz BK211.out 0, czz BK211.out 1, hx248_0, hx248_1⟩ (fun hHeld => ?_); refine with_tabW saronlaw05_CycleTrue.tab19 saronlaw05_CycleTrue.bits19 (fun HT_ HW_ => ?_)
                generalize w96.drew = w97 at HO_12 HO_14 BK211 BK212 BK217 HB hx248_0 hx248_1 hHeld ⊢
                refine pT 1 123 (bt 12 2) (k := ?_)
                refine pT 2 124 (bt 12 6) (k := ?_)
                refine pT 3 125 (bt 12 14) (k := ?_)
                refine pT 5 127 (bt 12 46) (k := ?_)
                refine tT4 0 122 (bt 12 47) hHeld (k := ?_)
                refine tT4 4 126 (bt 12 63) hHeld (k := ?_)
                refine one_ (i := 6) (N := some 128) (bt 12 127) rfl rfl (one_of HT_.out (by kernel_rfl)) (by decide) (fun K hK => ?_)
                refine goes_ Tryd.func32 (by kernel_rfl) rfl #[.agg #[.int .i64 a0_0, .slice A0_1 l0_1.length c0_1], .agg #[.int .i64 ((rd_T38 t230 x20_3).f0), .int .i64 ((rd_T38 t230 x20_3).f1)], .slice Ao41 t224.length co41] (by rfl) rfl rfl TM ?_
                with_reducible refine (cycle_Missing.calls a0_0 _ _ l0_1 ((rd_T38 t230 x20_3).f0) ((rd_T38 t230 x20_3).f1) _ _ t224 t249 t252 _ ?side1 ?side2 ?side3 ?side4 ?side5 A86.out).mono ?_
                (case side1 => exact TC HR0_1.out)
                (case side2 => exact HC0_1.out)
                (case side3 => exact TE (Kd.S_reads' HO_12.out).2.2)
                (case side4 => exact (Kd.S_reads' HO_12.out).2.1)
                (case side5 => exact Glob.fr HG.out (Fr.of_below (TB3 GE211.out GE212.out GE217.out)))
                rintro e w98 ⟨v250, rfl, ho0, hb⟩
                have HS2_ := (hb.cell (World.block_lt_of_cell? _ _ (hHeld.2.2.1))).trans (hHeld.2.2.1)
                have HS3_ := (hb.cell (World.block_lt_of_cell? _ _ (hHeld.2.2.2))).trans (hHeld.2.2.2)
                refine ⟨_, rfl, ?_⟩
                have n0_ := Aside0.mk (Kd.S_below (TSo HO_12.out) hb)
                have n1_ := Aside0.mk (Kd.V_below (by (with_reducible repeat (first | apply Kd.V_alloc | apply Kd.V_drewN | apply Kd.V_drew)); exact HO_14.out) hb)
                have n2_ := Aside0.mk (Kd.V_lower (Kd.V_mono (ok' := fun k_ => some k_ ≠ (.slice Ao41 t224.length co41 : Value).ownBlock ∧ k_ ≠ gb211 ∧ k_ ≠ gb212 ∧ k_ ≠ gb217) ho0 (fun k_ hk_ => ⟨(Kd.fresh' (Kd.S_lt (TSo HO_12.out)) k_ hk_), (Kd.freshB (g := gb211) (o := .cells #[.int .i64 a0_0, .slice A0_1 l0_1.length c0_1] 24 (0, 0)) (by (with_reducible repeat (first | refine blk_drewN ?_ _ | refine blk_drew ?_ | refine blk_alloc ?_ _)); exact BK211.out) k_ hk_), (Kd.freshB (g := gb212) (o := .cells #[.int .i64 a1_0, .int .i64 a1_1, .int .i64 a1_2, .int .i64 a1_3] 67 (0, 0)) (by (with_reducible repeat (first | refine blk_drewN ?_ _ | refine blk_drew ?_ | refine blk_alloc ?_ _)); exact BK212.out) k_ hk_), (Kd.freshB (g := gb217) (o := .cells #[.int .i64 t215, .int .i64 t216] 38 (0, 0)) (by (with_reducible repeat (first | refine blk_drewN ?_ _ | refine blk_drew ?_ | refine blk_alloc ?_ _)); exact BK217.out) k_ hk_)⟩)) (below_size (TB3 GE211.out GE212.out GE217.out)))
                have n3_ := Aside0.mk (blk_below (g := gb211) (o := .cells #[.int .i64 a0_0, .slice A0_1 l0_1.length c0_1] 24 (0, 0)) (by (with_reducible repeat (first | refine blk_drewN ?_ _ | refine blk_drew ?_ | refine blk_alloc ?_ _)); exact BK211.out) hb)
                have n4_ := Aside0.mk (blk_below (g := gb212) (o := .cells #[.int .i64 a1_0, .int .i64 a1_1, .int .i64 a1_2, .int .i64 a1_3] 67 (0, 0)) (by (with_reducible repeat (first | refine blk_drewN ?_ _ | refine blk_drew ?_ | refine blk_alloc ?_ _)); exact BK212.out) hb)
                have n5_ := Aside0.mk (blk_below (g := gb217) (o := .cells #[.int .i64 t215, .int .i64 t216] 38 (0, 0)) (by (with_reducible repeat (first | refine blk_drewN ?_ _ | refine blk_drew ?_ | refine blk_alloc ?_ _)); exact BK217.out) hb)
                have n6_ := Aside0.mk (below_step (TB3 GE211.out GE212.out GE217.out) hb)
                clear HO_12
                clear HO_14
                clear BK211
                clear BK212
                clear BK217
                clear HB
                have HO_12 := n0_
                have HO_14 := n1_
                have HO251 := n2_
                have BK211 := n3_
                have BK212 := n4_
                have BK217 := n5_
                have HB := n6_
                clear n0_ n1_ n2_ n3_ n4_ n5_ n6_
                (try clear hb)
                (try clear hb2)
                (try clear hk)
                (try clear hi)
                (try clear ho0)
                refine hK.out _ _ ⟨czz BK211.out 0, czz BK211.out 1, HS2_, HS3_⟩ (fun hHeld => ?_)
                clear hK K
                refine norm_ (a' := ?_) ?_ ?_
                rotate_left
                ·show Act.put _ (some 128) _ = _
                 simp only [Act.put, lA, lZ, lS, i64_w, i32_w]
                 rfl
                refine pT 7 121 (bt 12 255) (k := ?_)
                refine pT 8 129 (bt 12 511) (k := ?_)
                refine pT 9 130 (bt 12 1023) (k := ?_)
                refine pT 10 21 (bt 12 2047) (k := ?_)
                refine pT 11 22 (bt 12 4095) (k := ?_)
                refine done_ (done_of HT_.out (by kernel_rfl)) ?_
                obtain ⟨Ao99, co99, eo99⟩ := Kd.V_slice HO251.out
                subst eo99
                try go_wp2
                go_ret
                exact ⟨TR, TB3 GE211.out GE212.out GE217.out⟩
               ·rw [if_neg c94] at H
                have c94b0 : decide ((t249.length : Int) < t238) = false := decide_eq_false c94
                clear c94
                have H' := Aside0.mk H
                clear H
                obtain ⟨Ao100, co100, eo100⟩ := Kd.V_slice HO_14.out
                subst eo100
                try go_wp2
                have n0_ := Aside0.mk (Kd.S_drew HO_12.out)
                have n1_ := Aside0.mk (Kd.V_drew HO_14.out)
                have n2_ := Aside0.mk (blk_drew BK211.out)
                have n3_ := Aside0.mk (blk_drew BK212.out)
                have n4_ := Aside0.mk (blk_drew BK217.out)
                have n5_ := Aside0.mk (below_drew1 HB.out)
                clear HO_12
                clear HO_14
                clear BK211
                clear BK212
                clear BK217
                clear HB
                have HO_12 := n0_
                have HO_14 := n1_
                have BK211 := n2_
                have BK212 := n3_
                have BK217 := n4_
                have HB := n5_
                clear n0_ n1_ n2_ n3_ n4_ n5_
                have p247 : 0 ≤ (x20_3 : Int) := of_decide_eq_true TA
                have q247 : x20_3 < (t230.length : Int) := of_decide_eq_true TA
                obtain ⟨ad247, e247, hx247_0, hx247_1⟩ := at_T38 (Kd.V_reads' HO_14.out).2.2 x20_3 p247 q247
                cases e247
                replace p247 := eq_true p247
                replace q247 := eq_true q247
                refine start_ (n := 10) (S := fun w' => w'.cell? ⟨gb217, 0, none⟩ = some (.int .i64 t215) ∧ w'.cell? ⟨gb217, 1, none⟩ = some (.int .i64 t216) ∧ w'.cell? (ad247.add ((x20_3).toNat * 2)) = some (.int .i64 ((rd_T38 t230 x20_3).f0)) ∧ w'.cell? ⟨(ad247.add ((x20_3).toNat * 2)).block, (ad247.add ((x20_3).toNat * 2)).off + 1, none⟩ = some (.int .i64 ((rd_T38 t230 x20_3).f1))) (ds := []) (.replicate 10 false) (by kernel_rfl) rfl rfl ⟨czz BK217.out 0, czz BK217.out 1, hx247_0, hx247_1⟩ (fun hHeld => ?_); refine with_tabW saronlaw05_CycleTrue.tab18 saronlaw05_CycleTrue.bits18 (fun HT_ HW_ => ?_)
                generalize wr.drew = w101 at HO_12 HO_14 BK211 BK212 BK217 HB hx247_0 hx247_1 hHeld ⊢
                refine pT 0 112 (bt 10 1) (k := ?_)
                refine pT 1 113 (bt 10 3) (k := ?_)
                refine pT 2 114 (bt 10 7) (k := ?_)
                refine pT 3 115 (bt 10 15) (k := ?_)
                refine pT 4 116 (bt 10 31) (k := ?_)
                refine tT4 5 117 (bt 10 63) hHeld (k := ?_)
                refine tT4 6 118 (bt 10 127) hHeld (k := ?_)
                refine pT 7 119 (bt 10 255) (k := ?_)
                refine pT 8 120 (bt 10 511) (k := ?_)
                refine pT 9 19 (bt 10 1023) (k := ?_)
                refine done_ (done_of HT_.out (by kernel_rfl)) ?_
                try go_wp2
                have n0_ := Aside0.mk (Kd.S_drew HO_12.out)
                have n1_ := Aside0.mk (Kd.V_drew HO_14.out)
                have n2_ := Aside0.mk (blk_drew BK211.out)
                have n3_ := Aside0.mk (blk_drew BK212.out)
                have n4_ := Aside0.mk (blk_drew BK217.out)
                have n5_ := Aside0.mk (below_drew1 HB.out)
                clear HO_12
                clear HO_14
                clear BK211
                clear BK212
                clear BK217
                clear HB
                have HO_12 := n0_
                have HO_14 := n1_
                have BK211 := n2_
                have BK212 := n3_
                have BK217 := n4_
                have HB := n5_
                clear n0_ n1_ n2_ n3_ n4_ n5_
                have p248 : 0 ≤ (x20_3 : Int) := of_decide_eq_true TA
                have q248 : x20_3 < (t230.length : Int) := of_decide_eq_true TA
                obtain ⟨ad248, e248, hx248_0, hx248_1⟩ := at_T38 (Kd.V_reads' HO_14.out).2.2 x20_3 p248 q248
                obtain rfl : ad247 = ad248 := (by injection e248)
                replace p248 := eq_true p248
                replace q248 := eq_true q248
                refine start_ (n := 12) (S := fun w' => w'.cell? ⟨gb211, 0, none⟩ = some (.int .i64 a0_0) ∧ w'.cell? ⟨gb211, 1, none⟩ = some (.slice A0_1 l0_1.length c0_1) ∧ w'.cell? (ad247.add ((x20_3).toNat * 2)) = some (.int .i64 ((rd_T38 t230 x20_3).f0)) ∧ w'.cell? ⟨(ad247.add ((x20_3).toNat * 2)).block, (ad247.add ((x20_3).toNat * 2)).off + 1, none⟩ = some (.int .i64 ((rd_T38 t230 x20_3).f1))) (ds := []) (.replicate 12 false) (by kernel_rfl) rfl rfl ⟨czz BK211.out 0, czz BK211.out 1, hx248_0, hx248_1⟩ (fun hHeld => ?_); refine with_tabW saronlaw05_CycleTrue.tab19 saronlaw05_CycleTrue.bits19 (fun HT_ HW_ => ?_)
                generalize w101.drew = w102 at HO_12 HO_14 BK211 BK212 BK217 HB hx248_0 hx248_1 hHeld ⊢
                refine pT 1 123 (bt 12 2) (k := ?_)
                refine pT 2 124 (bt 12 6) (k := ?_)
                refine pT 3 125 (bt 12 14) (k := ?_)
                refine pT 5 127 (bt 12 46) (k := ?_)
                refine tT4 0 122 (bt 12 47) hHeld (k := ?_)
                refine tT4 4 126 (bt 12 63) hHeld (k := ?_)
                refine one_ (i := 6) (N := some 128) (bt 12 127) rfl rfl (one_of HT_.out (by kernel_rfl)) (by decide) (fun K hK => ?_)
                refine goes_ Tryd.func32 (by kernel_rfl) rfl #[.agg #[.int .i64 a0_0, .slice A0_1 l0_1.length c0_1], .agg #[.int .i64 ((rd_T38 t230 x20_3).f0), .int .i64 ((rd_T38 t230 x20_3).f1)], .slice Ao41 t224.length co41] (by rfl) rfl rfl TM ?_
                with_reducible refine (cycle_Missing.calls a0_0 _ _ l0_1 ((rd_T38 t230 x20_3).f0) ((rd_T38 t230 x20_3).f1) _ _ t224 t249 t252 _ ?side1 ?side2 ?side3 ?side4 ?side5 A86.out).mono ?_
                (case side1 => exact TC HR0_1.out)
                (case side2 => exact HC0_1.out)
                (case side3 => exact TE (Kd.S_reads' HO_12.out).2.2)
                (case side4 => exact (Kd.S_reads' HO_12.out).2.1)
                (case side5 => exact Glob.fr HG.out (Fr.of_below (TB3 GE211.out GE212.out GE217.out)))
                rintro e w103 ⟨v250, rfl, ho0, hb⟩
                have HS2_ := (hb.cell (World.block_lt_of_cell? _ _ (hHeld.2.2.1))).trans (hHeld.2.2.1)
                have HS3_ := (hb.cell (World.block_lt_of_cell? _ _ (hHeld.2.2.2))).trans (hHeld.2.2.2)
                refine ⟨_, rfl, ?_⟩
                have n0_ := Aside0.mk (Kd.S_below (TSo HO_12.out) hb)
                have n1_ := Aside0.mk (Kd.V_below (by (with_reducible repeat (first | apply Kd.V_alloc | apply Kd.V_drewN | apply Kd.V_drew)); exact HO_14.out) hb)
                have n2_ := Aside0.mk (Kd.V_lower (Kd.V_mono (ok' := fun k_ => some k_ ≠ (.slice Ao41 t224.length co41 : Value).ownBlock ∧ k_ ≠ gb211 ∧ k_ ≠ gb212 ∧ k_ ≠ gb217) ho0 (fun k_ hk_ => ⟨(Kd.fresh' (Kd.S_lt (TSo HO_12.out)) k_ hk_), (Kd.freshB (g := gb211) (o := .cells #[.int .i64 a0_0, .slice A0_1 l0_1.length c0_1] 24 (0, 0)) (by (with_reducible repeat (first | refine blk_drewN ?_ _ | refine blk_drew ?_ | refine blk_alloc ?_ _)); exact BK211.out) k_ hk_), (Kd.freshB (g := gb212) (o := .cells #[.int .i64 a1_0, .int .i64 a1_1, .int .i64 a1_2, .int .i64 a1_3] 67 (0, 0)) (by (with_reducible repeat (first | refine blk_drewN ?_ _ | refine blk_drew ?_ | refine blk_alloc ?_ _)); exact BK212.out) k_ hk_), (Kd.freshB (g := gb217) (o := .cells #[.int .i64 t215, .int .i64 t216] 38 (0, 0)) (by (with_reducible repeat (first | refine blk_drewN ?_ _ | refine blk_drew ?_ | refine blk_alloc ?_ _)); exact BK217.out) k_ hk_)⟩)) (below_size (TB3 GE211.out GE212.out GE217.out)))
                have n3_ := Aside0.mk (blk_below (g := gb211) (o := .cells #[.int .i64 a0_0, .slice A0_1 l0_1.length c0_1] 24 (0, 0)) (by (with_reducible repeat (first | refine blk_drewN ?_ _ | refine blk_drew ?_ | refine blk_alloc ?_ _)); exact BK211.out) hb)
                have n4_ := Aside0.mk (blk_below (g := gb212) (o := .cells #[.int .i64 a1_0, .int .i64 a1_1, .int .i64 a1_2, .int .i64 a1_3] 67 (0, 0)) (by (with_reducible repeat (first | refine blk_drewN ?_ _ | refine blk_drew ?_ | refine blk_alloc ?_ _)); exact BK212.out) hb)
                have n5_ := Aside0.mk (blk_below (g := gb217) (o := .cells #[.int .i64 t215, .int .i64 t216] 38 (0, 0)) (by (with_reducible repeat (first | refine blk_drewN ?_ _ | refine blk_drew ?_ | refine blk_alloc ?_ _)); exact BK217.out) hb)
                have n6_ := Aside0.mk (below_step (TB3 GE211.out GE212.out GE217.out) hb)
                clear HO_12
                clear HO_14
                clear BK211
                clear BK212
                clear BK217
                clear HB
                have HO_12 := n0_
                have HO_14 := n1_
                have HO251 := n2_
                have BK211 := n3_
                have BK212 := n4_
                have BK217 := n5_
                have HB := n6_
                clear n0_ n1_ n2_ n3_ n4_ n5_ n6_
                (try clear hb)
                (try clear hb2)
                (try clear hk)
                (try clear hi)
                (try clear ho0)
                refine hK.out _ _ ⟨czz BK211.out 0, czz BK211.out 1, HS2_, HS3_⟩ (fun hHeld => ?_)
                clear hK K
                refine norm_ (a' := ?_) ?_ ?_
                rotate_left
                ·show Act.put _ (some 128) _ = _
                 simp only [Act.put, lA, lZ, lS, i64_w, i32_w]
                 rfl
                refine pT 7 121 (bt 12 255) (k := ?_)
                refine pT 8 129 (bt 12 511) (k := ?_)
                refine pT 9 130 (bt 12 1023) (k := ?_)
                refine pT 10 21 (bt 12 2047) (k := ?_)
                refine pT 11 22 (bt 12 4095) (k := ?_)
                refine done_ (done_of HT_.out (by kernel_rfl)) ?_
                obtain ⟨Ao104, co104, eo104⟩ := Kd.V_slice HO251.out
                subst eo104
                try go_wp2
                go_roundg k3
                case measure => have := HJ9.out; have := HJ34.out; have := HK3.out; omega
                case rel => exact ⟨((((rd_T38 t230 x20_3).f0) == t215 && (((rd_T38 t230 x20_3).f1) == t216))), (wrap64 (x20_3 + 1)), TT, TT, H', ⟨by have := HJ9.out; have := HJ34.out; have := HK3.out; omega⟩, ⟨by (with_reducible repeat (first | apply Kd.S_alloc | apply Kd.S_drewN | apply Kd.S_drew)); exact HO_12.out⟩, ⟨by (with_reducible repeat (first | apply Kd.V_alloc | apply Kd.V_drewN | apply Kd.V_drew)); exact HO_14.out⟩, ⟨by (with_reducible repeat (first | refine blk_drewN ?_ _ | refine blk_drew ?_ | refine blk_alloc ?_ _)); exact BK211.out⟩, ⟨by (with_reducible repeat (first | refine blk_drewN ?_ _ | refine blk_drew ?_ | refine blk_alloc ?_ _)); exact BK212.out⟩, ⟨by (with_reducible repeat (first | refine blk_drewN ?_ _ | refine blk_drew ?_ | refine blk_alloc ?_ _)); exact BK217.out⟩, ⟨TB3 GE211.out GE212.out GE217.out⟩⟩
             ·rw [if_neg c87] at H
              have c87b0 : (t252 == 0) = false := beq_eq_false_iff_ne.mpr c87
              have c87b1 : (t252 != 0) = true := bne_iff_ne.mpr c87
              obtain rfl := Option.some.inj H
              obtain ⟨Ao105, co105, eo105⟩ := Kd.V_slice HO_14.out
              subst eo105
              try go_wp2
              have n0_ := Aside0.mk (Kd.S_drew HO_12.out)
              have n1_ := Aside0.mk (Kd.V_drew HO_14.out)
              have n2_ := Aside0.mk (blk_drew BK211.out)
              have n3_ := Aside0.mk (blk_drew BK212.out)
              have n4_ := Aside0.mk (blk_drew BK217.out)
              have n5_ := Aside0.mk (below_drew1 HB.out)
              clear HO_12
              clear HO_14
              clear BK211
              clear BK212
              clear BK217
              clear HB
              have HO_12 := n0_
              have HO_14 := n1_
              have BK211 := n2_
              have BK212 := n3_
              have BK217 := n4_
              have HB := n5_
              clear n0_ n1_ n2_ n3_ n4_ n5_
              have p247 : 0 ≤ (x20_3 : Int) := of_decide_eq_true TA
              have q247 : x20_3 < (t230.length : Int) := of_decide_eq_true TA
              obtain ⟨ad247, e247, hx247_0, hx247_1⟩ := at_T38 (Kd.V_reads' HO_14.out).2.2 x20_3 p247 q247
              cases e247
              replace p247 := eq_true p247
              replace q247 := eq_true q247
              refine start_ (n := 10) (S := fun w' => w'.cell? ⟨gb217, 0, none⟩ = some (.int .i64 t215) ∧ w'.cell? ⟨gb217, 1, none⟩ = some (.int .i64 t216) ∧ w'.cell? (ad247.add ((x20_3).toNat * 2)) = some (.int .i64 ((rd_T38 t230 x20_3).f0)) ∧ w'.cell? ⟨(ad247.add ((x20_3).toNat * 2)).block, (ad247.add ((x20_3).toNat * 2)).off + 1, none⟩ = some (.int .i64 ((rd_T38 t230 x20_3).f1))) (ds := []) (.replicate 10 false) (by kernel_rfl) rfl rfl ⟨czz BK217.out 0, czz BK217.out 1, hx247_0, hx247_1⟩ (fun hHeld => ?_); refine with_tabW saronlaw05_CycleTrue.tab18 saronlaw05_CycleTrue.bits18 (fun HT_ HW_ => ?_)
              generalize wr.drew = w106 at HO_12 HO_14 BK211 BK212 BK217 HB hx247_0 hx247_1 hHeld ⊢
              refine pT 0 112 (bt 10 1) (k := ?_)
              refine pT 1 113 (bt 10 3) (k := ?_)
              refine pT 2 114 (bt 10 7) (k := ?_)
              refine pT 3 115 (bt 10 15) (k := ?_)
              refine pT 4 116 (bt 10 31) (k := ?_)
              refine tT4 5 117 (bt 10 63) hHeld (k := ?_)
              refine tT4 6 118 (bt 10 127) hHeld (k := ?_)
              refine pT 7 119 (bt 10 255) (k := ?_)
              refine pT 8 120 (bt 10 511) (k := ?_)
              refine pT 9 19 (bt 10 1023) (k := ?_)
              refine done_ (done_of HT_.out (by kernel_rfl)) ?_
              try go_wp2
              have n0_ := Aside0.mk (Kd.S_drew HO_12.out)
              have n1_ := Aside0.mk (Kd.V_drew HO_14.out)
              have n2_ := Aside0.mk (blk_drew BK211.out)
              have n3_ := Aside0.mk (blk_drew BK212.out)
              have n4_ := Aside0.mk (blk_drew BK217.out)
              have n5_ := Aside0.mk (below_drew1 HB.out)
              clear HO_12
              clear HO_14
              clear BK211
              clear BK212
              clear BK217
              clear HB
              have HO_12 := n0_
              have HO_14 := n1_
              have BK211 := n2_
              have BK212 := n3_
              have BK217 := n4_
              have HB := n5_
              clear n0_ n1_ n2_ n3_ n4_ n5_
              have p248 : 0 ≤ (x20_3 : Int) := of_decide_eq_true TA
              have q248 : x20_3 < (t230.length : Int) := of_decide_eq_true TA
              obtain ⟨ad248, e248, hx248_0, hx248_1⟩ := at_T38 (Kd.V_reads' HO_14.out).2.2 x20_3 p248 q248
              obtain rfl : ad247 = ad248 := (by injection e248)
              replace p248 := eq_true p248
              replace q248 := eq_true q248
              refine start_ (n := 12) (S := fun w' => w'.cell? ⟨gb211, 0, none⟩ = some (.int .i64 a0_0) ∧ w'.cell? ⟨gb211, 1, none⟩ = some (.slice A0_1 l0_1.length c0_1) ∧ w'.cell? (ad247.add ((x20_3).toNat * 2)) = some (.int .i64 ((rd_T38 t230 x20_3).f0)) ∧ w'.cell? ⟨(ad247.add ((x20_3).toNat * 2)).block, (ad247.add ((x20_3).toNat * 2)).off + 1, none⟩ = some (.int .i64 ((rd_T38 t230 x20_3).f1))) (ds := []) (.replicate 12 false) (by kernel_rfl) rfl rfl ⟨czz BK211.out 0, czz BK211.out 1, hx248_0, hx248_1⟩ (fun hHeld => ?_); refine with_tabW saronlaw05_CycleTrue.tab19 saronlaw05_CycleTrue.bits19 (fun HT_ HW_ => ?_)
              generalize w106.drew = w107 at HO_12 HO_14 BK211 BK212 BK217 HB hx248_0 hx248_1 hHeld ⊢
              refine pT 1 123 (bt 12 2) (k := ?_)
              refine pT 2 124 (bt 12 6) (k := ?_)
              refine pT 3 125 (bt 12 14) (k := ?_)
              refine pT 5 127 (bt 12 46) (k := ?_)
              refine tT4 0 122 (bt 12 47) hHeld (k := ?_)
              refine tT4 4 126 (bt 12 63) hHeld (k := ?_)
              refine one_ (i := 6) (N := some 128) (bt 12 127) rfl rfl (one_of HT_.out (by kernel_rfl)) (by decide) (fun K hK => ?_)
              refine goes_ Tryd.func32 (by kernel_rfl) rfl #[.agg #[.int .i64 a0_0, .slice A0_1 l0_1.length c0_1], .agg #[.int .i64 ((rd_T38 t230 x20_3).f0), .int .i64 ((rd_T38 t230 x20_3).f1)], .slice Ao41 t224.length co41] (by rfl) rfl rfl TM ?_
              with_reducible refine (cycle_Missing.calls a0_0 _ _ l0_1 ((rd_T38 t230 x20_3).f0) ((rd_T38 t230 x20_3).f1) _ _ t224 t249 t252 _ ?side1 ?side2 ?side3 ?side4 ?side5 A86.out).mono ?_
              (case side1 => exact TC HR0_1.out)
              (case side2 => exact HC0_1.out)
              (case side3 => exact TE (Kd.S_reads' HO_12.out).2.2)
              (case side4 => exact (Kd.S_reads' HO_12.out).2.1)
              (case side5 => exact Glob.fr HG.out (Fr.of_below (TB3 GE211.out GE212.out GE217.out)))
              rintro e w108 ⟨v250, rfl, ho0, hb⟩
              have HS2_ := (hb.cell (World.block_lt_of_cell? _ _ (hHeld.2.2.1))).trans (hHeld.2.2.1)
              have HS3_ := (hb.cell (World.block_lt_of_cell? _ _ (hHeld.2.2.2))).trans (hHeld.2.2.2)
              refine ⟨_, rfl, ?_⟩
              have n0_ := Aside0.mk (Kd.S_below (TSo HO_12.out) hb)
              have n1_ := Aside0.mk (Kd.V_below (by (with_reducible repeat (first | apply Kd.V_alloc | apply Kd.V_drewN | apply Kd.V_drew)); exact HO_14.out) hb)
              have n2_ := Aside0.mk (Kd.V_lower (Kd.V_mono (ok' := fun k_ => some k_ ≠ (.slice Ao41 t224.length co41 : Value).ownBlock ∧ k_ ≠ gb211 ∧ k_ ≠ gb212 ∧ k_ ≠ gb217) ho0 (fun k_ hk_ => ⟨(Kd.fresh' (Kd.S_lt (TSo HO_12.out)) k_ hk_), (Kd.freshB (g := gb211) (o := .cells #[.int .i64 a0_0, .slice A0_1 l0_1.length c0_1] 24 (0, 0)) (by (with_reducible repeat (first | refine blk_drewN ?_ _ | refine blk_drew ?_ | refine blk_alloc ?_ _)); exact BK211.out) k_ hk_), (Kd.freshB (g := gb212) (o := .cells #[.int .i64 a1_0, .int .i64 a1_1, .int .i64 a1_2, .int .i64 a1_3] 67 (0, 0)) (by (with_reducible repeat (first | refine blk_drewN ?_ _ | refine blk_drew ?_ | refine blk_alloc ?_ _)); exact BK212.out) k_ hk_), (Kd.freshB (g := gb217) (o := .cells #[.int .i64 t215, .int .i64 t216] 38 (0, 0)) (by (with_reducible repeat (first | refine blk_drewN ?_ _ | refine blk_drew ?_ | refine blk_alloc ?_ _)); exact BK217.out) k_ hk_)⟩)) (below_size (TB3 GE211.out GE212.out GE217.out)))
              have n3_ := Aside0.mk (blk_below (g := gb211) (o := .cells #[.int .i64 a0_0, .slice A0_1 l0_1.length c0_1] 24 (0, 0)) (by (with_reducible repeat (first | refine blk_drewN ?_ _ | refine blk_drew ?_ | refine blk_alloc ?_ _)); exact BK211.out) hb)
              have n4_ := Aside0.mk (blk_below (g := gb212) (o := .cells #[.int .i64 a1_0, .int .i64 a1_1, .int .i64 a1_2, .int .i64 a1_3] 67 (0, 0)) (by (with_reducible repeat (first | refine blk_drewN ?_ _ | refine blk_drew ?_ | refine blk_alloc ?_ _)); exact BK212.out) hb)
              have n5_ := Aside0.mk (blk_below (g := gb217) (o := .cells #[.int .i64 t215, .int .i64 t216] 38 (0, 0)) (by (with_reducible repeat (first | refine blk_drewN ?_ _ | refine blk_drew ?_ | refine blk_alloc ?_ _)); exact BK217.out) hb)
              have n6_ := Aside0.mk (below_step (TB3 GE211.out GE212.out GE217.out) hb)
              clear HO_12
              clear HO_14
              clear BK211
              clear BK212
              clear BK217
              clear HB
              have HO_12 := n0_
              have HO_14 := n1_
              have HO251 := n2_
              have BK211 := n3_
              have BK212 := n4_
              have BK217 := n5_
              have HB := n6_
              clear n0_ n1_ n2_ n3_ n4_ n5_ n6_
              (try clear hb)
              (try clear hb2)
              (try clear hk)
              (try clear hi)
              (try clear ho0)
              refine hK.out _ _ ⟨czz BK211.out 0, czz BK211.out 1, HS2_, HS3_⟩ (fun hHeld => ?_)
              clear hK K
              refine norm_ (a' := ?_) ?_ ?_
              rotate_left
              ·show Act.put _ (some 128) _ = _
               simp only [Act.put, lA, lZ, lS, i64_w, i32_w]
               rfl
              refine pT 7 121 (bt 12 255) (k := ?_)
              refine pT 8 129 (bt 12 511) (k := ?_)
              refine pT 9 130 (bt 12 1023) (k := ?_)
              refine pT 10 21 (bt 12 2047) (k := ?_)
              refine pT 11 22 (bt 12 4095) (k := ?_)
              refine done_ (done_of HT_.out (by kernel_rfl)) ?_
              try go_wp2
              go_ret
              exact ⟨TR, TB3 GE211.out GE212.out GE217.out⟩
            ·rw [if_neg c85] at H
             exact absurd H (by simp)
          ·rw [if_neg c59] at H
           have c59b0 : decide (x20_3 < (t230.length : Int)) = false := decide_eq_false c59
           clear c59
           by_cases c109 : x19_3 = true
           ·subst c109
            have H1 : ((saronlaw05_marked.f).bind fun t253 => (some t253)) = some r := by rw [if_pos rfl] at H; exact H
            clear H
            have H := H1
            clear H1
            replace H := Option.bind_eq_some_iff.mp H
            obtain ⟨t253, A1100, H⟩ := H
            replace H : (some t253) = some r := H
            have A110 := Aside0.mk A1100
            clear A1100
            obtain rfl := Option.some.inj H
            obtain ⟨Ao111, co111, eo111⟩ := Kd.V_slice HO_14.out
            subst eo111
            go_wp2_with (first | (go_at_call 23; (with_reducible refine (saronlaw05_marked.calls  t253 _ ?side1 A110.out).mono ?_); (case side1 => exact Glob.fr HG.out (Fr.of_below (TB3 GE211.out GE212.out GE217.out))); rintro e w112 ⟨rfl, hb⟩; replace HO_12 := Aside0.mk (Kd.S_below (TSo HO_12.out) hb); replace HO_14 := Aside0.mk (Kd.V_below (by (with_reducible repeat (first | apply Kd.V_alloc | apply Kd.V_drewN | apply Kd.V_drew)); exact HO_14.out) hb); replace BK211 := Aside0.mk (blk_below (g := gb211) (o := .cells #[.int .i64 a0_0, .slice A0_1 l0_1.length c0_1] 24 (0, 0)) (by (with_reducible repeat (first | refine blk_drewN ?_ _ | refine blk_drew ?_ | refine blk_alloc ?_ _)); exact BK211.out) hb); replace BK212 := Aside0.mk (blk_below (g := gb212) (o := .cells #[.int .i64 a1_0, .int .i64 a1_1, .int .i64 a1_2, .int .i64 a1_3] 67 (0, 0)) (by (with_reducible repeat (first | refine blk_drewN ?_ _ | refine blk_drew ?_ | refine blk_alloc ?_ _)); exact BK212.out) hb); replace BK217 := Aside0.mk (blk_below (g := gb217) (o := .cells #[.int .i64 t215, .int .i64 t216] 38 (0, 0)) (by (with_reducible repeat (first | refine blk_drewN ?_ _ | refine blk_drew ?_ | refine blk_alloc ?_ _)); exact BK217.out) hb); replace HB := Aside0.mk (below_step (TB3 GE211.out GE212.out GE217.out) hb); (try clear hb); (try clear hb2); (try clear hk); (try clear hi)))
            go_ret
            exact ⟨TR, TB3 GE211.out GE212.out GE217.out⟩
           ·replace c109 := Bool.eq_false_iff.mpr c109
            subst c109
            have H1 : (some false) = some r := by rw [if_neg (show ¬ (false = true) by decide)] at H; exact H
            clear H
            have H := H1
            clear H1
            obtain rfl := Option.some.inj H
            obtain ⟨Ao113, co113, eo113⟩ := Kd.V_slice HO_14.out
            subst eo113
            go_wp2
            go_ret
            exact ⟨TR, TB3 GE211.out GE212.out GE217.out⟩
 ·replace c5 := Bool.eq_false_iff.mpr c5
  subst c5
  have H1 : ((saronlaw05_marked.f).bind fun t214 => (some t214)) = some r := by rw [if_neg (show ¬ (false = true) by decide)] at H; exact H
  clear H
  have H := H1
  clear H1
  replace H := Option.bind_eq_some_iff.mp H
  obtain ⟨t214, A1140, H⟩ := H
  replace H : (some t214) = some r := H
  have A114 := Aside0.mk A1140
  clear A1140
  obtain rfl := Option.some.inj H
  go_enter Tryd.func8, Tryd.ntmps8
  go_wp2_with (first | ((with_reducible refine gate_dst (N := 3) rfl ?_); (try (refine gate_guard (by rfl) ?_; dsimp only)); refine box_event ?hg (N := 3) ?hd (cs := #[.int .i64 a0_0, .slice A0_1 l0_1.length c0_1]) (t := 24) ?hr ?_; (case hd => rfl); (case hg => rfl); (case hr => exact TS); intro gb211 hg w115 hbox hb; have BK211 := Aside0.mk (hbox); have GW211 := Aside0.mk ((TG : w.heap.size ≤ gb211)); have GE211 := Aside0.mk ((TG : w.heap.size ≤ gb211)); replace HB := Aside0.mk (below_step TB hb); clear hb hbox hg) | ((with_reducible refine gate_dst (N := 4) rfl ?_); (try (refine gate_guard (by rfl) ?_; dsimp only)); refine box_event ?hg (N := 4) ?hd (cs := #[.int .i64 a1_0, .int .i64 a1_1, .int .i64 a1_2, .int .i64 a1_3]) (t := 67) ?hr ?_; (case hd => rfl); (case hg => rfl); (case hr => exact TS); intro gb212 hg w116 hbox hb; have BK212 := Aside0.mk (hbox); have GW212 := Aside0.mk ((TG1 GE211.out : w.heap.size ≤ gb212)); have GE212 := Aside0.mk ((TG1 GE211.out : w.heap.size ≤ gb212)); have NB211_212 := Aside0.mk ((by rw [hg]; exact Nat.ne_of_lt (blk_lt (g := gb211) (o := .cells #[.int .i64 a0_0, .slice A0_1 l0_1.length c0_1] 24 (0, 0)) (by (with_reducible repeat (first | refine blk_drewN ?_ _ | refine blk_drew ?_ | refine blk_alloc ?_ _)); exact BK211.out)) : gb211 ≠ gb212)); have NB212_211 := Aside0.mk ((by rw [hg]; exact Nat.ne_of_gt (blk_lt (g := gb211) (o := .cells #[.int .i64 a0_0, .slice A0_1 l0_1.length c0_1] 24 (0, 0)) (by (with_reducible repeat (first | refine blk_drewN ?_ _ | refine blk_drew ?_ | refine blk_alloc ?_ _)); exact BK211.out)) : gb212 ≠ gb211)); replace BK211 := Aside0.mk (blk_below (g := gb211) (o := .cells #[.int .i64 a0_0, .slice A0_1 l0_1.length c0_1] 24 (0, 0)) (by (with_reducible repeat (first | refine blk_drewN ?_ _ | refine blk_drew ?_ | refine blk_alloc ?_ _)); exact BK211.out) hb); replace HB := Aside0.mk (below_step (TB1 GE211.out) hb); clear hb hbox hg; have hnb117 := NB211_212.out; have hnc117 := NB212_211.out; have hcz118_0 := czz BK211.out 0; have hcz118_1 := czz BK211.out 1; have hfz118_0 := fz BK211.out 0; have hfz118_1 := fz BK211.out 1) | ((with_reducible refine gate_callee (f := 39) rfl ?_); refine goesL_ (some 24) rfl rfl Tryd.func39 (by kernel_rfl) rfl #[.agg #[.int .i64 a0_0, .slice A0_1 l0_1.length c0_1]] rfl TM ?_; (with_reducible refine (saronlaw05_sound.calls k a0_0 _ _ l0_1 false _ ?side1 ?side2 A4.out).mono ?_); (case side1 => exact TC HR0_1.out); (case side2 => exact HC0_1.out); rintro e w119 ⟨rfl, hb⟩; refine ⟨_, rfl, ?_⟩; replace BK211 := Aside0.mk (blk_below (g := gb211) (o := .cells #[.int .i64 a0_0, .slice A0_1 l0_1.length c0_1] 24 (0, 0)) (by (with_reducible repeat (first | refine blk_drewN ?_ _ | refine blk_drew ?_ | refine blk_alloc ?_ _)); exact BK211.out) hb); replace BK212 := Aside0.mk (blk_below (g := gb212) (o := .cells #[.int .i64 a1_0, .int .i64 a1_1, .int .i64 a1_2, .int .i64 a1_3] 67 (0, 0)) (by (with_reducible repeat (first | refine blk_drewN ?_ _ | refine blk_drew ?_ | refine blk_alloc ?_ _)); exact BK212.out) hb); replace HB := Aside0.mk (below_step (TB2 GE211.out GE212.out) hb); (try clear hb); (try clear hb2); (try clear hk); (try clear hi)) | ((with_reducible refine gate_callee (f := 23) rfl ?_); refine goesL_ (some 26) rfl rfl Tryd.func23 (by kernel_rfl) rfl #[] rfl TM ?_; (with_reducible refine (saronlaw05_marked.calls  t214 _ ?side1 A114.out).mono ?_); (case side1 => exact Glob.fr HG.out (Fr.of_below (TB2 GE211.out GE212.out))); rintro e w120 ⟨rfl, hb⟩; refine ⟨_, rfl, ?_⟩; replace BK211 := Aside0.mk (blk_below (g := gb211) (o := .cells #[.int .i64 a0_0, .slice A0_1 l0_1.length c0_1] 24 (0, 0)) (by (with_reducible repeat (first | refine blk_drewN ?_ _ | refine blk_drew ?_ | refine blk_alloc ?_ _)); exact BK211.out) hb); replace BK212 := Aside0.mk (blk_below (g := gb212) (o := .cells #[.int .i64 a1_0, .int .i64 a1_1, .int .i64 a1_2, .int .i64 a1_3] 67 (0, 0)) (by (with_reducible repeat (first | refine blk_drewN ?_ _ | refine blk_drew ?_ | refine blk_alloc ?_ _)); exact BK212.out) hb); replace HB := Aside0.mk (below_step (TB2 GE211.out GE212.out) hb); (try clear hb); (try clear hb2); (try clear hk); (try clear hi)))
  go_ret
  exact ⟨TR, TB2 GE211.out GE212.out⟩
end Go.Proofs.YtephecfapclgfaaDoor.PRaspKeys
