import Derived.Test.YtfdenclnneigfaaDoorGN
import Derived.Test.YtfdenclnneigfaaDoorCS
import Derived.Test.YtfdenclnneigfaaDoorCG
import Derived.Test.YtfdenclnneigfaaDoorCK
import Derived.Test.YtfdenclnneigfaaDoorM0
import Derived.Test.YtfdenclnneigfaaDoorProg
import Derived.Below
import Derived.Deep.Draws
import Derived.Deep.AppendLies
import Derived.Maps.AppendAt
import Derived.OwnWalk
import Derived.Laws.BytesArg
import Derived.Laws.MakeOwn
import Derived.Laws.OwnMore
import Derived.Deep.OwnRows
import Derived.Tactics
import Derived.Lib.ConvBytes
import Derived.Laws.Slices
import Derived.WalkKit
import Derived.KernelRfl
import Derived.RowKit3
import Derived.Deep.LoopGhost
import Derived.Deep.QuietTactic
import Derived.BigQuiet
import Derived.WideLaws
import Derived.Deep.DeepCutAuto
import Derived.Deep.CutBlock
import Derived.Deep.RegionHeld3
import Derived.Laws.Rows
import Derived.Lib.AppendStr
import Derived.ArgAppend
import Derived.Laws.IdiomCopy
import Derived.OrdersHeld
import Derived.Laws.BitsLemmas
import Derived.RowKit
import Derived.Test.YtfdenclnneigfaaDoorVXT
set_option linter.unusedVariables false
set_option linter.unusedSimpArgs false
namespace Go.Proofs.YtfdenclnneigfaaDoor.M
open Go.RowKit Go.Proofs.YtfdenclnneigfaaDoorW.PrintWords Go.Proofs.YtfdenclnneigfaaDoorW.PrintLast
theorem aS {p : Prop} (h : p) : Aside0 p := ⟨h⟩
end Go.Proofs.YtfdenclnneigfaaDoor.M
namespace Go.Proofs.YtfdenclnneigfaaDoor.M
open Go.RowKit Go.Proofs.YtfdenclnneigfaaDoorW.PrintWords Go.Proofs.YtfdenclnneigfaaDoorW.PrintLast
theorem czz {w : World} {g : Nat} {cs : Array Value} {t : TypeId} {v : Value} (h : w.heap[g]? = some (.cells cs t (0, 0))) (i : Nat) (hv : cs[i]? = some v := by (first | (simp only [List.getElem?_toArray, List.getElem?_cons_zero, List.getElem?_cons_succ]; rfl) | exact rfl)) : w.cell? ⟨g, i, none⟩ = some v := (blk_cell h i).trans hv
end Go.Proofs.YtfdenclnneigfaaDoor.M
namespace Go.Proofs.YtfdenclnneigfaaDoor.M
open Go.RowKit Go.Proofs.YtfdenclnneigfaaDoorW.PrintWords Go.Proofs.YtfdenclnneigfaaDoorW.PrintLast
theorem TG3 {p q r s : Prop} (g : q) (g' : r) (g3 : s) (h : q → r → s → p := by (intro g g' g3; rw [hg]; exact (below_size (by repeat (first | (with_reducible first | exact HB.out | apply below_alloc | apply pw_below_drewN | apply below_drew1 | refine below_set ?_ g | refine below_set ?_ g' | refine below_set ?_ g3) | exact HB.out))))) : p := h g g' g3
end Go.Proofs.YtfdenclnneigfaaDoor.M
namespace Go.Proofs.YtfdenclnneigfaaDoor.PRaspKeys
open Go.RowKit Go.Proofs.YtfdenclnneigfaaDoorW.PrintWords Go.Proofs.YtfdenclnneigfaaDoorW.PrintLast Go.Proofs.YtfdenclnneigfaaDoorW.PrintMore Go.Proofs.YtfdenclnneigfaaDoor.M
attribute [local go_sem] max2_int min2_int max_two min_two max_three min_three max_four min_four   -- for this text's walks alone
/-! #### struct type 114 -/
/-! #### struct type 62 -/
end Go.Proofs.YtfdenclnneigfaaDoor.PRaspKeys
namespace Go.Proofs.YtfdenclnneigfaaDoor.PRaspKeys
open Go.RowKit Go.Proofs.YtfdenclnneigfaaDoorW.PrintWords Go.Proofs.YtfdenclnneigfaaDoorW.PrintLast Go.Proofs.YtfdenclnneigfaaDoorW.PrintMore Go.Proofs.YtfdenclnneigfaaDoor.M
attribute [local go_sem] max2_int min2_int max_two min_two max_three min_three max_four min_four   -- for this text's walks alone
end Go.Proofs.YtfdenclnneigfaaDoor.PRaspKeys
namespace Go.Proofs.YtfdenclnneigfaaDoor.PRaspKeys
open Go.RowKit Go.Proofs.YtfdenclnneigfaaDoorW.PrintWords Go.Proofs.YtfdenclnneigfaaDoorW.PrintLast Go.Proofs.YtfdenclnneigfaaDoorW.PrintMore Go.Proofs.YtfdenclnneigfaaDoor.M
attribute [local go_sem] max2_int min2_int max_two min_two max_three min_three max_four min_four   -- for this text's walks alone
/-! ### saronlaw09_wrote: function 38 -/
mutual
def sW.l0 : Nat → Int → List Int → List Int → Int → Int → Int → Int → List Int → Int → Int → List (S114) → List (S62) → List Int → List Int → Int → Int → Option (List Int × List Int × Int × Int × List Int)
 | 0, _, _, _, _, _, _, _, _, _, _, _, _, _, _, _, _ => none
 | k + 1, x1, x3, x10, x11, x12, x14, x15, x16, x17, x229000, x229001, x229002, x241000, x241001, x241002, x241003 => if x17 ≤ x12 then (if x17 > x11 then (if x17 < x12 then (if x14 < x241002 then ((saronref00_Nth.f x3 x17).bind fun t241 => ((saronref00_Turn.f t241 3).bind fun t242 => (sW.j1 k x1 x3 x10 x11 x12 x14 x15 x16 x17 (t242 == 0) x229000 x229001 x229002 x241000 x241001 x241002 x241003))) else (sW.j1 k x1 x3 x10 x11 x12 x14 x15 x16 x17 false x229000 x229001 x229002 x241000 x241001 x241002 x241003)) else (sW.j1 k x1 x3 x10 x11 x12 x14 x15 x16 x17 false x229000 x229001 x229002 x241000 x241001 x241002 x241003)) else (sW.j1 k x1 x3 x10 x11 x12 x14 x15 x16 x17 false x229000 x229001 x229002 x241000 x241001 x241002 x241003)) else (some (x241000, x241001, x241002, x241003, x16))
def sW.j1 : Nat → Int → List Int → List Int → Int → Int → Int → Int → List Int → Int → Bool → Int → List (S114) → List (S62) → List Int → List Int → Int → Int → Option (List Int × List Int × Int × Int × List Int)
 | 0, _, _, _, _, _, _, _, _, _, _, _, _, _, _, _, _, _ => none
 | k + 1, x1, x3, x10, x11, x12, x14, x15, x16, x17, x73, x229000, x229001, x229002, x241000, x241001, x241002, x241003 => if x73 = true then (sW.l0 k x1 x3 x10 x11 x12 (wrap64 (x14 + 1)) x15 x16 (wrap64 (x17 + 1)) x229000 x229001 x229002 x241000 x241001 x241002 x241003) else (if 0 ≤ x17 then (if x17 < (x10.length : Int) then (if x15 < x241003 then ((saronref00_Nth.f x3 (wrap64 (x17 + 1))).bind fun t244 => ((saronref00_Turn.f t244 4).bind fun t245 => (sW.j2 k x1 x3 x10 x11 x12 x14 x15 x16 x17 (rd x10 x17) (t245 == 0) x229000 x229001 x229002 x241000 x241001 x241002 x241003))) else (sW.j2 k x1 x3 x10 x11 x12 x14 x15 x16 x17 (rd x10 x17) false x229000 x229001 x229002 x241000 x241001 x241002 x241003)) else (none)) else (none))
def sW.j2 : Nat → Int → List Int → List Int → Int → Int → Int → Int → List Int → Int → Int → Bool → Int → List (S114) → List (S62) → List Int → List Int → Int → Int → Option (List Int × List Int × Int × Int × List Int)
 | 0, _, _, _, _, _, _, _, _, _, _, _, _, _, _, _, _, _, _ => none
 | k + 1, x1, x3, x10, x11, x12, x14, x15, x16, x17, x18, x91, x229000, x229001, x229002, x241000, x241001, x241002, x241003 => if x91 = true then ((saronref00_Nth.f x3 (wrap64 (x17 + 2))).bind fun t246 => ((saronref00_Turn.f t246 2).bind fun t247 => (sW.j3 k x1 x3 x10 x11 x12 x14 (wrap64 (x15 + 1)) x16 x17 (mx 0 (mn 6 (wrap64 ((wrap64 (x18 + 1)) - (wrap64 (2 * t247)))))) x229000 x229001 x229002 x241000 x241001 x241002 x241003))) else (sW.j3 k x1 x3 x10 x11 x12 x14 x15 x16 x17 x18 x229000 x229001 x229002 x241000 x241001 x241002 x241003)
def sW.j3 : Nat → Int → List Int → List Int → Int → Int → Int → Int → List Int → Int → Int → Int → List (S114) → List (S62) → List Int → List Int → Int → Int → Option (List Int × List Int × Int × Int × List Int)
 | 0, _, _, _, _, _, _, _, _, _, _, _, _, _, _, _, _, _ => none
 | k + 1, x1, x3, x10, x11, x12, x14, x15, x16, x17, x18, x229000, x229001, x229002, x241000, x241001, x241002, x241003 => if 0 ≤ x1 then (if x1 < (x229002.length : Int) then ((cycle_Struck.f x229000 x229001 ((rd_T62 x229002 x1).f0) x17).bind fun bt249 => ((saronref00_Where.f k bt249.1 0).bind fun t253 => (if t253 ≥ 0 then ((saronref00_Nth.f x3 (wrap64 (x17 + 3))).bind fun t254 => ((saronref00_Turn.f t254 2).bind fun t255 => (if t255 = 0 then (if x241001.length < 17592186044416 then (if x241000.length < 17592186044416 then (if x16.length < 17592186044416 then (sW.l0 k x1 x3 x10 x11 x12 x14 x15 (x16 ++ [x17]) (wrap64 (x17 + 1)) x229000 x229001 x229002 (x241000 ++ [x18]) (x241001 ++ [(x241000.length : Int)]) x241002 x241003) else (none)) else (none)) else (none)) else (if x241000.length < 17592186044416 then (if x16.length < 17592186044416 then (sW.l0 k x1 x3 x10 x11 x12 x14 x15 (x16 ++ [x17]) (wrap64 (x17 + 1)) x229000 x229001 x229002 (x241000 ++ [x18]) x241001 x241002 x241003) else (none)) else (none))))) else (if x241000.length < 17592186044416 then (if x16.length < 17592186044416 then (sW.l0 k x1 x3 x10 x11 x12 x14 x15 (x16 ++ [x17]) (wrap64 (x17 + 1)) x229000 x229001 x229002 (x241000 ++ [x18]) x241001 x241002 x241003) else (none)) else (none))))) else (none)) else (none)
end
def sW.f (k : Nat) (a0_0 : Int) (l0_1 : List (S114)) (l0_2 : List (S62)) (a1 : Int) (a2_0 : Int) (a2_1 : Int) (l3 : List Int) : Option (List Int × List Int × Int × Int × List Int) := if 0 ≤ a1 then (if a1 < (l0_2.length : Int) then ((saronref00_Turn.f a2_0 (((rd_T62 l0_2 a1).f1).length : Int)).bind fun t232 => ((saronref00_Band.f t232 (wrap64 ((((rd_T62 l0_2 a1).f1).length : Int) - 1))).bind fun bt233 => ((saronref00_Draw.f bt233.1 bt233.2 a2_1).bind fun t235 => ((saronref00_Nth.f l3 0).bind fun t236 => ((saronref00_Turn.f t236 4).bind fun t237 => ((saronref00_Nth.f l3 1).bind fun t238 => ((saronref00_Turn.f t238 3).bind fun t239 => (sW.l0 k a1 l3 ((rd_T62 l0_2 a1).f1) t232 t235 0 0 ([] : List Int) t232 a0_0 l0_1 l0_2 ([] : List Int) ([] : List Int) t237 t239)))))))) else (none)) else (none)
theorem sW.mono_l : ∀ k, (∀ y0 y1 y2 y3 y4 y5 y6 y7 y8 y9 y10 y11 y12 y13 y14 y15, LeO (sW.l0 k y0 y1 y2 y3 y4 y5 y6 y7 y8 y9 y10 y11 y12 y13 y14 y15) (sW.l0 (k + 1) y0 y1 y2 y3 y4 y5 y6 y7 y8 y9 y10 y11 y12 y13 y14 y15)) ∧ (∀ y0 y1 y2 y3 y4 y5 y6 y7 y8 y9 y10 y11 y12 y13 y14 y15 y16, LeO (sW.j1 k y0 y1 y2 y3 y4 y5 y6 y7 y8 y9 y10 y11 y12 y13 y14 y15 y16) (sW.j1 (k + 1) y0 y1 y2 y3 y4 y5 y6 y7 y8 y9 y10 y11 y12 y13 y14 y15 y16)) ∧ (∀ y0 y1 y2 y3 y4 y5 y6 y7 y8 y9 y10 y11 y12 y13 y14 y15 y16 y17, LeO (sW.j2 k y0 y1 y2 y3 y4 y5 y6 y7 y8 y9 y10 y11 y12 y13 y14 y15 y16 y17) (sW.j2 (k + 1) y0 y1 y2 y3 y4 y5 y6 y7 y8 y9 y10 y11 y12 y13 y14 y15 y16 y17)) ∧ (∀ y0 y1 y2 y3 y4 y5 y6 y7 y8 y9 y10 y11 y12 y13 y14 y15 y16, LeO (sW.j3 k y0 y1 y2 y3 y4 y5 y6 y7 y8 y9 y10 y11 y12 y13 y14 y15 y16) (sW.j3 (k + 1) y0 y1 y2 y3 y4 y5 y6 y7 y8 y9 y10 y11 y12 y13 y14 y15 y16))
 | 0 => ⟨fun _ _ _ _ _ _ _ _ _ _ _ _ _ _ _ _ r h => by simp [sW.l0] at h, fun _ _ _ _ _ _ _ _ _ _ _ _ _ _ _ _ _ r h => by simp [sW.j1] at h, fun _ _ _ _ _ _ _ _ _ _ _ _ _ _ _ _ _ _ r h => by simp [sW.j2] at h, fun _ _ _ _ _ _ _ _ _ _ _ _ _ _ _ _ _ r h => by simp [sW.j3] at h⟩
 | k + 1 => by
  obtain ⟨ih0, ih1, ih2, ih3⟩ := sW.mono_l k
  refine ⟨?_, ?_, ?_, ?_⟩
  ·intro y0 y1 y2 y3 y4 y5 y6 y7 y8 y9 y10 y11 y12 y13 y14 y15
   unfold sW.l0
   repeat' first
   | (with_reducible exact ih0 _ _ _ _ _ _ _ _ _ _ _ _ _ _ _ _)
   | (with_reducible exact ih1 _ _ _ _ _ _ _ _ _ _ _ _ _ _ _ _ _)
   | (with_reducible exact ih2 _ _ _ _ _ _ _ _ _ _ _ _ _ _ _ _ _ _)
   | (with_reducible exact ih3 _ _ _ _ _ _ _ _ _ _ _ _ _ _ _ _ _)
   | (with_reducible exact saronref00_Where.mono _ _ _)
   | (with_reducible exact LeO.refl _)
   | (with_reducible exact LeO.none _)
   | (with_reducible refine LeO.ite ?_ ?_)
   | (with_reducible refine LeO.bind ?_ (fun _ => ?_))
   | exact ih0 _ _ _ _ _ _ _ _ _ _ _ _ _ _ _ _
   | exact ih1 _ _ _ _ _ _ _ _ _ _ _ _ _ _ _ _ _
   | exact ih2 _ _ _ _ _ _ _ _ _ _ _ _ _ _ _ _ _ _
   | exact ih3 _ _ _ _ _ _ _ _ _ _ _ _ _ _ _ _ _
   | exact saronref00_Where.mono _ _ _
   | exact LeO.none _
   | refine LeO.ite ?_ ?_
   | refine LeO.bind ?_ (fun _ => ?_)
  ·intro y0 y1 y2 y3 y4 y5 y6 y7 y8 y9 y10 y11 y12 y13 y14 y15 y16
   unfold sW.j1
   repeat' first
   | (with_reducible exact ih0 _ _ _ _ _ _ _ _ _ _ _ _ _ _ _ _)
   | (with_reducible exact ih1 _ _ _ _ _ _ _ _ _ _ _ _ _ _ _ _ _)
   | (with_reducible exact ih2 _ _ _ _ _ _ _ _ _ _ _ _ _ _ _ _ _ _)
   | (with_reducible exact ih3 _ _ _ _ _ _ _ _ _ _ _ _ _ _ _ _ _)
   | (with_reducible exact saronref00_Where.mono _ _ _)
   | (with_reducible exact LeO.refl _)
   | (with_reducible exact LeO.none _)
   | (with_reducible refine LeO.ite ?_ ?_)
   | (with_reducible refine LeO.bind ?_ (fun _ => ?_))
   | exact ih0 _ _ _ _ _ _ _ _ _ _ _ _ _ _ _ _
   | exact ih1 _ _ _ _ _ _ _ _ _ _ _ _ _ _ _ _ _
   | exact ih2 _ _ _ _ _ _ _ _ _ _ _ _ _ _ _ _ _ _
   | exact ih3 _ _ _ _ _ _ _ _ _ _ _ _ _ _ _ _ _
   | exact saronref00_Where.mono _ _ _
   | exact LeO.none _
   | refine LeO.ite ?_ ?_
   | refine LeO.bind ?_ (fun _ => ?_)
  ·intro y0 y1 y2 y3 y4 y5 y6 y7 y8 y9 y10 y11 y12 y13 y14 y15 y16 y17
   unfold sW.j2
   repeat' first
   | (with_reducible exact ih0 _ _ _ _ _ _ _ _ _ _ _ _ _ _ _ _)
   | (with_reducible exact ih1 _ _ _ _ _ _ _ _ _ _ _ _ _ _ _ _ _)
   | (with_reducible exact ih2 _ _ _ _ _ _ _ _ _ _ _ _ _ _ _ _ _ _)
   | (with_reducible exact ih3 _ _ _ _ _ _ _ _ _ _ _ _ _ _ _ _ _)
   | (with_reducible exact saronref00_Where.mono _ _ _)
   | (with_reducible exact LeO.refl _)
   | (with_reducible exact LeO.none _)
   | (with_reducible refine LeO.ite ?_ ?_)
   | (with_reducible refine LeO.bind ?_ (fun _ => ?_))
   | exact ih0 _ _ _ _ _ _ _ _ _ _ _ _ _ _ _ _
   | exact ih1 _ _ _ _ _ _ _ _ _ _ _ _ _ _ _ _ _
   | exact ih2 _ _ _ _ _ _ _ _ _ _ _ _ _ _ _ _ _ _
   | exact ih3 _ _ _ _ _ _ _ _ _ _ _ _ _ _ _ _ _
   | exact saronref00_Where.mono _ _ _
   | exact LeO.none _
   | refine LeO.ite ?_ ?_
   | refine LeO.bind ?_ (fun _ => ?_)
  intro y0 y1 y2 y3 y4 y5 y6 y7 y8 y9 y10 y11 y12 y13 y14 y15 y16
  unfold sW.j3
  repeat' first
  | (with_reducible exact ih0 _ _ _ _ _ _ _ _ _ _ _ _ _ _ _ _)
  | (with_reducible exact ih1 _ _ _ _ _ _ _ _ _ _ _ _ _ _ _ _ _)
  | (with_reducible exact ih2 _ _ _ _ _ _ _ _ _ _ _ _ _ _ _ _ _ _)
  | (with_reducible exact ih3 _ _ _ _ _ _ _ _ _ _ _ _ _ _ _ _ _)
  | (with_reducible exact saronref00_Where.mono _ _ _)
  | (with_reducible exact LeO.refl _)
  | (with_reducible exact LeO.none _)
  | (with_reducible refine LeO.ite ?_ ?_)
  | (with_reducible refine LeO.bind ?_ (fun _ => ?_))
  | exact ih0 _ _ _ _ _ _ _ _ _ _ _ _ _ _ _ _
  | exact ih1 _ _ _ _ _ _ _ _ _ _ _ _ _ _ _ _ _
  | exact ih2 _ _ _ _ _ _ _ _ _ _ _ _ _ _ _ _ _ _
  | exact ih3 _ _ _ _ _ _ _ _ _ _ _ _ _ _ _ _ _
  | exact saronref00_Where.mono _ _ _
  | exact LeO.none _
  | refine LeO.ite ?_ ?_
  | refine LeO.bind ?_ (fun _ => ?_)
theorem sW.mono : ∀ a0 a1 a2 a3 a4 a5 a6 k, LeO (sW.f k a0 a1 a2 a3 a4 a5 a6) (sW.f (k + 1) a0 a1 a2 a3 a4 a5 a6) := by
 intro a0 a1 a2 a3 a4 a5 a6 k
 obtain ⟨ih0, ih1, ih2, ih3⟩ := sW.mono_l k
 unfold sW.f
 repeat' first
   | (with_reducible exact ih0 _ _ _ _ _ _ _ _ _ _ _ _ _ _ _ _)
   | (with_reducible exact ih1 _ _ _ _ _ _ _ _ _ _ _ _ _ _ _ _ _)
   | (with_reducible exact ih2 _ _ _ _ _ _ _ _ _ _ _ _ _ _ _ _ _ _)
   | (with_reducible exact ih3 _ _ _ _ _ _ _ _ _ _ _ _ _ _ _ _ _)
   | (with_reducible exact saronref00_Where.mono _ _ _)
   | (with_reducible exact LeO.refl _)
   | (with_reducible exact LeO.none _)
   | (with_reducible refine LeO.ite ?_ ?_)
   | (with_reducible refine LeO.bind ?_ (fun _ => ?_))
   | exact ih0 _ _ _ _ _ _ _ _ _ _ _ _ _ _ _ _
   | exact ih1 _ _ _ _ _ _ _ _ _ _ _ _ _ _ _ _ _
   | exact ih2 _ _ _ _ _ _ _ _ _ _ _ _ _ _ _ _ _ _
   | exact ih3 _ _ _ _ _ _ _ _ _ _ _ _ _ _ _ _ _
   | exact saronref00_Where.mono _ _ _
   | exact LeO.none _
   | refine LeO.ite ?_ ?_
   | refine LeO.bind ?_ (fun _ => ?_)
def sW.T3 : Bool × List (List Nat × List Nat) := (true, [([], []), ([], []), ([1], [1]), ([2], [2]), ([0, 3], [0, 3]), ([], []), ([5], [5]), ([4, 6, 4], [4, 6]), ([7, 7, 0, 1, 2, 3, 4, 5, 6, 7], [7])])
def sW.B3 : List Nat := [0, 0, 2, 6, 15, 0, 32, 127, 255]
theorem sW.tab3 : rtab .any (opsOf Tryd.f38 3) = sW.T3 := by kernel_rfl
theorem sW.bits3 : waitsOk sW.T3.2 sW.B3 = true := by kernel_rfl
def sW.T16 : Bool × List (List Nat × List Nat) := (true, [([], []), ([0], [0]), ([], []), ([2], [2]), ([], []), ([3, 4], [3, 4]), ([5], [5]), ([6], [6]), ([], []), ([1, 7, 8], [1, 7, 8]), ([9], [9]), ([10], [10]), ([10], [10]), ([11, 9, 0, 1, 2, 3, 4, 5, 6, 7, 8, 9, 10, 11], [11]), ([12, 13, 0, 1, 2, 3, 4, 5, 6, 7, 8, 9, 10, 11, 12, 13], [12])])
def sW.B16 : List Nat := [0, 1, 0, 4, 0, 28, 60, 124, 0, 511, 1023, 2047, 2047, 4095, 16383]
theorem sW.tab16 : rtab .any (opsOf Tryd.f38 16) = sW.T16 := by kernel_rfl
theorem sW.bits16 : waitsOk sW.T16.2 sW.B16 = true := by kernel_rfl
set_option maxHeartbeats 8000000 in
set_option maxRecDepth 100000 in
theorem sW.calls (k : Nat) (a0_0 : Int) (A0_1 : Option Addr) (c0_1 : Nat) (l0_1 : List (S114)) (A0_2 : Option Addr) (c0_2 : Nat) (l0_2 : List (S62)) (a1 : Int) (a2_0 : Int) (a2_1 : Int) (A3 : Option Addr) (c3 : Nat) (l3 : List Int) (r1 : List Int) (r2 : List Int) (r3 : Int) (r4 : Int) (r5 : List Int) (w : World) (hr0_1 : Kd.C k114 w A0_1 l0_1.length l0_1) (hc0_1 : l0_1.length ≤ c0_1) (hr0_2 : Kd.C k62 w A0_2 l0_2.length l0_2) (hc0_2 : l0_2.length ≤ c0_2) (hr3 : Kd.C (Kd.int .i64) w A3 l3.length l3) (hc3 : l3.length ≤ c3) (hG : Glob w) (h : sW.f k a0_0 l0_1 l0_2 a1 a2_0 a2_1 l3 = some (r1, r2, r3, r4, r5)) :
  Calls Tryd.prog 38 #[.agg #[.int .i64 a0_0, .slice A0_1 l0_1.length c0_1, .slice A0_2 l0_2.length c0_2], .int .i64 a1, .agg #[.int .i64 a2_0, .int .i64 a2_1], .slice A3 l3.length c3] w fun e w' => ∃ v0_ v1_ v4_ : Value, e = .returned (.tuple #[.agg #[v0_, v1_, .int .i64 r3, .int .i64 r4], v4_]) ∧ Kd.R (Kd.int .i64) 3 w' w.heap.size (fun k_ => some k_ ≠ (v1_ : Value).ownBlock ∧ some k_ ≠ (v4_ : Value).ownBlock) v0_ r1 ∧ Kd.R (Kd.int .i64) 3 w' w.heap.size (fun k_ => some k_ ≠ (v0_ : Value).ownBlock ∧ some k_ ≠ (v4_ : Value).ownBlock) v1_ r2 ∧ Kd.R (Kd.int .i64) 3 w' w.heap.size (fun k_ => some k_ ≠ (v0_ : Value).ownBlock ∧ some k_ ≠ (v1_ : Value).ownBlock) v4_ r5 ∧ Below w.heap.size w w' := by
 have hu27 := Tryd.underlying27
 have hu43 := Tryd.underlying43
 have hu30 := Tryd.underlying30
 have hu24 := Tryd.underlying24
 have HR0_1 := aS hr0_1
 have HC0_1 := aS hc0_1
 clear hr0_1 hc0_1
 have HR0_2 := aS hr0_2
 have HC0_2 := aS hc0_2
 clear hr0_2 hc0_2
 have HR3 := aS hr3
 have HC3 := aS hc3
 clear hr3 hc3
 have HB := aS (Below.refl w.heap.size w)
 have HG := aS hG
 clear hG
 have H : (if 0 ≤ a1 then (if a1 < (l0_2.length : Int) then ((saronref00_Turn.f a2_0 (((rd_T62 l0_2 a1).f1).length : Int)).bind fun t232 => ((saronref00_Band.f t232 (wrap64 ((((rd_T62 l0_2 a1).f1).length : Int) - 1))).bind fun bt233 => ((saronref00_Draw.f bt233.1 bt233.2 a2_1).bind fun t235 => ((saronref00_Nth.f l3 0).bind fun t236 => ((saronref00_Turn.f t236 4).bind fun t237 => ((saronref00_Nth.f l3 1).bind fun t238 => ((saronref00_Turn.f t238 3).bind fun t239 => (sW.l0 k a1 l3 ((rd_T62 l0_2 a1).f1) t232 t235 0 0 ([] : List Int) t232 a0_0 l0_1 l0_2 ([] : List Int) ([] : List Int) t237 t239)))))))) else (none)) else (none)) = some (r1, r2, r3, r4, r5) := h
 clear h
 by_cases c5 : 0 ≤ a1
 rotate_left
 ·rw [if_neg c5] at H
  exact absurd H (by simp)
 rw [if_pos c5] at H
 have c5b0 : decide (0 ≤ a1) = true := decide_eq_true c5
 clear c5
 by_cases c6 : a1 < (l0_2.length : Int)
 rotate_left
 ·rw [if_neg c6] at H
  exact absurd H (by simp)
 rw [if_pos c6] at H
 have c6b0 : decide (a1 < (l0_2.length : Int)) = true := decide_eq_true c6
 clear c6
 replace H := Option.bind_eq_some_iff.mp H
 obtain ⟨t232, A70, H⟩ := H
 replace H : ((saronref00_Band.f t232 (wrap64 ((((rd_T62 l0_2 a1).f1).length : Int) - 1))).bind fun bt233 => ((saronref00_Draw.f bt233.1 bt233.2 a2_1).bind fun t235 => ((saronref00_Nth.f l3 0).bind fun t236 => ((saronref00_Turn.f t236 4).bind fun t237 => ((saronref00_Nth.f l3 1).bind fun t238 => ((saronref00_Turn.f t238 3).bind fun t239 => (sW.l0 k a1 l3 ((rd_T62 l0_2 a1).f1) t232 t235 0 0 ([] : List Int) t232 a0_0 l0_1 l0_2 ([] : List Int) ([] : List Int) t237 t239))))))) = some (r1, r2, r3, r4, r5) := H
 have A7 := aS A70
 clear A70
 replace H := Option.bind_eq_some_iff.mp H
 obtain ⟨⟨t233, t234⟩, A80, H⟩ := H
 replace H : ((saronref00_Draw.f t233 t234 a2_1).bind fun t235 => ((saronref00_Nth.f l3 0).bind fun t236 => ((saronref00_Turn.f t236 4).bind fun t237 => ((saronref00_Nth.f l3 1).bind fun t238 => ((saronref00_Turn.f t238 3).bind fun t239 => (sW.l0 k a1 l3 ((rd_T62 l0_2 a1).f1) t232 t235 0 0 ([] : List Int) t232 a0_0 l0_1 l0_2 ([] : List Int) ([] : List Int) t237 t239)))))) = some (r1, r2, r3, r4, r5) := H
 have A8 := aS A80
 clear A80
 replace H := Option.bind_eq_some_iff.mp H
 obtain ⟨t235, A90, H⟩ := H
 replace H : ((saronref00_Nth.f l3 0).bind fun t236 => ((saronref00_Turn.f t236 4).bind fun t237 => ((saronref00_Nth.f l3 1).bind fun t238 => ((saronref00_Turn.f t238 3).bind fun t239 => (sW.l0 k a1 l3 ((rd_T62 l0_2 a1).f1) t232 t235 0 0 ([] : List Int) t232 a0_0 l0_1 l0_2 ([] : List Int) ([] : List Int) t237 t239))))) = some (r1, r2, r3, r4, r5) := H
 have A9 := aS A90
 clear A90
 replace H := Option.bind_eq_some_iff.mp H
 obtain ⟨t236, A100, H⟩ := H
 replace H : ((saronref00_Turn.f t236 4).bind fun t237 => ((saronref00_Nth.f l3 1).bind fun t238 => ((saronref00_Turn.f t238 3).bind fun t239 => (sW.l0 k a1 l3 ((rd_T62 l0_2 a1).f1) t232 t235 0 0 ([] : List Int) t232 a0_0 l0_1 l0_2 ([] : List Int) ([] : List Int) t237 t239)))) = some (r1, r2, r3, r4, r5) := H
 have A10 := aS A100
 clear A100
 replace H := Option.bind_eq_some_iff.mp H
 obtain ⟨t237, A110, H⟩ := H
 replace H : ((saronref00_Nth.f l3 1).bind fun t238 => ((saronref00_Turn.f t238 3).bind fun t239 => (sW.l0 k a1 l3 ((rd_T62 l0_2 a1).f1) t232 t235 0 0 ([] : List Int) t232 a0_0 l0_1 l0_2 ([] : List Int) ([] : List Int) t237 t239))) = some (r1, r2, r3, r4, r5) := H
 have A11 := aS A110
 clear A110
 replace H := Option.bind_eq_some_iff.mp H
 obtain ⟨t238, A120, H⟩ := H
 replace H : ((saronref00_Turn.f t238 3).bind fun t239 => (sW.l0 k a1 l3 ((rd_T62 l0_2 a1).f1) t232 t235 0 0 ([] : List Int) t232 a0_0 l0_1 l0_2 ([] : List Int) ([] : List Int) t237 t239)) = some (r1, r2, r3, r4, r5) := H
 have A12 := aS A120
 clear A120
 replace H := Option.bind_eq_some_iff.mp H
 obtain ⟨t239, A130, H⟩ := H
 replace H : (sW.l0 k a1 l3 ((rd_T62 l0_2 a1).f1) t232 t235 0 0 ([] : List Int) t232 a0_0 l0_1 l0_2 ([] : List Int) ([] : List Int) t237 t239) = some (r1, r2, r3, r4, r5) := H
 have A13 := aS A130
 clear A130
 have H' := aS H
 clear H
 go_enter Tryd.func38, Tryd.ntmps38
 try go_wp2_with (first | ((with_reducible refine gate_dst (N := 4) rfl ?_); refine box_event ?hg (N := 4) ?hd (cs := #[.int .i64 a0_0, .slice A0_1 l0_1.length c0_1, .slice A0_2 l0_2.length c0_2]) (t := 27) ?hr ?_; (case hd => rfl); (case hg => rfl); (case hr => exact TS); intro gb228 hg w14 hbox hb; have BK228 := aS (hbox); have GW228 := aS ((TG : w.heap.size ≤ gb228)); have GE228 := aS ((TG : w.heap.size ≤ gb228)); replace HB := aS (below_step TB hb); clear hb hbox hg) | ((with_reducible refine gate_dst (N := 6) rfl ?_); refine box_event ?hg (N := 6) ?hd (cs := #[.int .i64 a2_0, .int .i64 a2_1]) (t := 43) ?hr ?_; (case hd => rfl); (case hg => rfl); (case hr => exact TS); intro gb229 hg w15 hbox hb; have BK229 := aS (hbox); have GW229 := aS ((TG1 GE228.out : w.heap.size ≤ gb229)); have GE229 := aS ((TG1 GE228.out : w.heap.size ≤ gb229)); have NB228_229 := aS ((by rw [hg]; exact Nat.ne_of_lt (blk_lt (g := gb228) (o := .cells #[.int .i64 a0_0, .slice A0_1 l0_1.length c0_1, .slice A0_2 l0_2.length c0_2] 27 (0, 0)) (TK BK228.out)) : gb228 ≠ gb229)); have NB229_228 := aS ((by rw [hg]; exact Nat.ne_of_gt (blk_lt (g := gb228) (o := .cells #[.int .i64 a0_0, .slice A0_1 l0_1.length c0_1, .slice A0_2 l0_2.length c0_2] 27 (0, 0)) (TK BK228.out)) : gb229 ≠ gb228)); replace BK228 := aS (blk_below (g := gb228) (o := .cells #[.int .i64 a0_0, .slice A0_1 l0_1.length c0_1, .slice A0_2 l0_2.length c0_2] 27 (0, 0)) (TK BK228.out) hb); replace HB := aS (below_step (TB1 GE228.out) hb); clear hb hbox hg) | ((with_reducible refine gate_dst (N := 8) rfl ?_); refine box_event ?hg (N := 8) ?hd (cs := #[.slice none 0 0, .slice none 0 0, .int .i64 0, .int .i64 0]) (t := 30) ?hr ?_; (case hd => rfl); (case hg => rfl); (case hr => exact TS); intro gb230 hg w16 hbox hb; have BK230 := aS (hbox); have GW230 := aS ((TG2 GE228.out GE229.out : w.heap.size ≤ gb230)); have GE230 := aS ((TG2 GE228.out GE229.out : w.heap.size ≤ gb230)); have NB228_230 := aS ((by rw [hg]; exact Nat.ne_of_lt (blk_lt (g := gb228) (o := .cells #[.int .i64 a0_0, .slice A0_1 l0_1.length c0_1, .slice A0_2 l0_2.length c0_2] 27 (0, 0)) (TK BK228.out)) : gb228 ≠ gb230)); have NB230_228 := aS ((by rw [hg]; exact Nat.ne_of_gt (blk_lt (g := gb228) (o := .cells #[.int .i64 a0_0, .slice A0_1 l0_1.length c0_1, .slice A0_2 l0_2.length c0_2] 27 (0, 0)) (TK BK228.out)) : gb230 ≠ gb228)); have NB229_230 := aS ((by rw [hg]; exact Nat.ne_of_lt (blk_lt (g := gb229) (o := .cells #[.int .i64 a2_0, .int .i64 a2_1] 43 (0, 0)) (TK BK229.out)) : gb229 ≠ gb230)); have NB230_229 := aS ((by rw [hg]; exact Nat.ne_of_gt (blk_lt (g := gb229) (o := .cells #[.int .i64 a2_0, .int .i64 a2_1] 43 (0, 0)) (TK BK229.out)) : gb230 ≠ gb229)); replace BK228 := aS (blk_below (g := gb228) (o := .cells #[.int .i64 a0_0, .slice A0_1 l0_1.length c0_1, .slice A0_2 l0_2.length c0_2] 27 (0, 0)) (TK BK228.out) hb); replace BK229 := aS (blk_below (g := gb229) (o := .cells #[.int .i64 a2_0, .int .i64 a2_1] 43 (0, 0)) (TK BK229.out) hb); replace HB := aS (below_step (TB2 GE228.out GE229.out) hb); clear hb hbox hg; have hnb17 := NB228_229.out; have hnc17 := NB229_228.out; have hnb18 := NB228_230.out; have hnc18 := NB230_228.out; have hcz19_0 := czz BK228.out 0; have hcz19_1 := czz BK228.out 1; have hcz19_2 := czz BK228.out 2; have hfz19_0 := fz BK228.out 0; have hfz19_1 := fz BK228.out 1; have hfz19_2 := fz BK228.out 2; have p231 : 0 ≤ (a1 : Int) := of_decide_eq_true TA; have q231 : a1 < (l0_2.length : Int) := of_decide_eq_true TA; obtain ⟨ad231, A231_1, c231_1, e231, hx231_0, hx231_1, hl231_1, hi231_1⟩ := at_T62 HR0_2.out a1 p231 q231; cases e231; replace hx231_0 := (HB.out.cell  (World.block_lt_of_cell? w _ hx231_0)).trans hx231_0; replace hx231_1 := (HB.out.cell  (World.block_lt_of_cell? w _ hx231_1)).trans hx231_1; have HR231_1 := aS hi231_1; have HC231_1 := aS hl231_1; clear hi231_1 hl231_1; replace p231 := eq_true p231; replace q231 := eq_true q231; have hnb20 := NB229_230.out; have hnc20 := NB230_229.out; have hcz21_0 := czz BK229.out 0; have hcz21_1 := czz BK229.out 1; have hfz21_0 := fz BK229.out 0; have hfz21_1 := fz BK229.out 1) | ((with_reducible refine gate_callee (f := 37) rfl ?_); refine goesL_ (some 31) rfl rfl Tryd.func37 (by kernel_rfl) rfl #[.int .i64 a2_0, .int .i64 (((rd_T62 l0_2 a1).f1).length : Int)] rfl TM ?_; (with_reducible refine (saronref00_Turn.calls a2_0 (((rd_T62 l0_2 a1).f1).length : Int) t232 _ A7.out).mono ?_); rintro e w' ⟨rfl, ⟨nd, rfl⟩⟩; refine ⟨_, rfl, ?_⟩; (try (rw [drewN_self w16]; generalize hq_ : World.drewN w16 _ = w16; have n0_ : Aside0 (w16.heap[gb228]? = some (.cells #[.int .i64 a0_0, .slice A0_1 l0_1.length c0_1, .slice (some ad231) l0_2.length c0_2] 27 (0, 0))) := ⟨by rw [← hq_]; exact (TK BK228.out)⟩; have n1_ : Aside0 (w16.heap[gb229]? = some (.cells #[.int .i64 a2_0, .int .i64 a2_1] 43 (0, 0))) := ⟨by rw [← hq_]; exact (TK BK229.out)⟩; have n2_ : Aside0 (w16.heap[gb230]? = some (.cells #[.slice none 0 0, .slice none 0 0, .int .i64 0, .int .i64 0] 30 (0, 0))) := ⟨by rw [← hq_]; exact (TK BK230.out)⟩; have n3_ : Aside0 (Below w.heap.size w w16) := ⟨by rw [← hq_]; exact (TB3 GE228.out GE229.out GE230.out)⟩; clear BK228 BK229 BK230 HB hq_; have BK228 := n0_; have BK229 := n1_; have BK230 := n2_; have HB := n3_; clear n0_ n1_ n2_ n3_)); have hczq228_0 : w16.cell? ⟨gb228, 0, none⟩ = some (.int .i64 a0_0) := czz BK228.out 0; have hfzq228_0 := fz BK228.out 0; have hczq228_1 : w16.cell? ⟨gb228, 1, none⟩ = some (.slice A0_1 l0_1.length c0_1) := czz BK228.out 1; have hfzq228_1 := fz BK228.out 1; have hczq228_2 : w16.cell? ⟨gb228, 2, none⟩ = some (.slice (some ad231) l0_2.length c0_2) := czz BK228.out 2; have hfzq228_2 := fz BK228.out 2; have hczq229_0 : w16.cell? ⟨gb229, 0, none⟩ = some (.int .i64 a2_0) := czz BK229.out 0; have hfzq229_0 := fz BK229.out 0; have hczq229_1 : w16.cell? ⟨gb229, 1, none⟩ = some (.int .i64 a2_1) := czz BK229.out 1; have hfzq229_1 := fz BK229.out 1; have hczq230_0 : w16.cell? ⟨gb230, 0, none⟩ = some (.slice none 0 0) := czz BK230.out 0; have hfzq230_0 := fz BK230.out 0; have hczq230_1 : w16.cell? ⟨gb230, 1, none⟩ = some (.slice none 0 0) := czz BK230.out 1; have hfzq230_1 := fz BK230.out 1; have hczq230_2 : w16.cell? ⟨gb230, 2, none⟩ = some (.int .i64 0) := czz BK230.out 2; have hfzq230_2 := fz BK230.out 2; have hczq230_3 : w16.cell? ⟨gb230, 3, none⟩ = some (.int .i64 0) := czz BK230.out 3; have hfzq230_3 := fz BK230.out 3))
 have n0_ := aS (blk_drew BK228.out)
 have n1_ := aS (blk_drew BK229.out)
 have n2_ := aS (blk_drew BK230.out)
 have n3_ := aS (below_drew1 HB.out)
 clear BK228
 clear BK229
 clear BK230
 clear HB
 have BK228 := n0_
 have BK229 := n1_
 have BK230 := n2_
 have HB := n3_
 clear n0_ n1_ n2_ n3_
 refine start_ (n := 9) (S := fun w' => w'.cell? ⟨gb229, 0, none⟩ = some (.int .i64 a2_0) ∧ w'.cell? ⟨gb229, 1, none⟩ = some (.int .i64 a2_1)) (ds := []) (.replicate 9 false) (by kernel_rfl) rfl rfl ⟨czz BK229.out 0, czz BK229.out 1⟩ (fun hHeld => ?_); refine with_tabW sW.tab3 sW.bits3 (fun HT_ HW_ => ?_)
 generalize w16.drew = w22 at BK228 BK229 BK230 HB hHeld ⊢
 refine pT 0 32 (bt 9 1) (k := ?_)
 refine pT 1 33 (bt 9 3) (k := ?_)
 refine pT 2 34 (bt 9 7) (k := ?_)
 refine pT 3 35 (bt 9 15) (k := ?_)
 refine pT 5 37 (bt 9 47) (k := ?_)
 refine tT2 6 38 (bt 9 111) hHeld (k := ?_)
 refine one_ (i := 4) (N := some 36) (bt 9 127) rfl rfl (one_of HT_.out (by kernel_rfl)) (by decide) (fun K hK => ?_)
 refine goes_ Tryd.func46 (by kernel_rfl) rfl #[.int .i64 t232, .int .i64 (wrap64 ((((rd_T62 l0_2 a1).f1).length : Int) - 1))] (by rfl) rfl rfl TM ?_
 with_reducible refine (saronref00_Band.calls t232 (wrap64 ((((rd_T62 l0_2 a1).f1).length : Int) - 1)) t233 t234 _ A8.out).mono ?_
 rintro e w23 ⟨rfl, hb⟩
 refine ⟨_, rfl, ?_⟩
 have n0_ := aS (blk_below (g := gb228) (o := .cells #[.int .i64 a0_0, .slice A0_1 l0_1.length c0_1, .slice (some ad231) l0_2.length c0_2] 27 (0, 0)) (TK BK228.out) hb)
 have n1_ := aS (blk_below (g := gb229) (o := .cells #[.int .i64 a2_0, .int .i64 a2_1] 43 (0, 0)) (TK BK229.out) hb)
 have n2_ := aS (blk_below (g := gb230) (o := .cells #[.slice none 0 0, .slice none 0 0, .int .i64 0, .int .i64 0] 30 (0, 0)) (TK BK230.out) hb)
 have n3_ := aS (below_step (TB3 GE228.out GE229.out GE230.out) hb)
 clear BK228
 clear BK229
 clear BK230
 clear HB
 have BK228 := n0_
 have BK229 := n1_
 have BK230 := n2_
 have HB := n3_
 clear n0_ n1_ n2_ n3_
 (try clear hb)
 (try clear hb2)
 (try clear hk)
 (try clear hi)
 refine hK.out _ _ ⟨czz BK229.out 0, czz BK229.out 1⟩ (fun hHeld => ?_)
 clear hK K
 refine norm_ (a' := ?_) ?_ ?_
 rotate_left
 ·show Act.put _ (some 36) _ = _
  simp only [Act.put, lA, lZ, lS, i64_w, i32_w]
  rfl
 refine one_ (i := 7) (N := some 39) (bt 9 255) rfl rfl (one_of HT_.out (by kernel_rfl)) (by decide) (fun K hK => ?_)
 refine goes_ Tryd.func45 (by kernel_rfl) rfl #[.agg #[.int .i64 t233, .int .i64 t234], .int .i64 a2_1] (by rfl) rfl rfl TM ?_
 with_reducible refine (saronref00_Draw.calls t233 t234 a2_1 t235 _ A9.out).mono ?_
 rintro e w24 ⟨rfl, hb⟩
 refine ⟨_, rfl, ?_⟩
 have n0_ := aS (blk_below (g := gb228) (o := .cells #[.int .i64 a0_0, .slice A0_1 l0_1.length c0_1, .slice (some ad231) l0_2.length c0_2] 27 (0, 0)) (TK BK228.out) hb)
 have n1_ := aS (blk_below (g := gb229) (o := .cells #[.int .i64 a2_0, .int .i64 a2_1] 43 (0, 0)) (TK BK229.out) hb)
 have n2_ := aS (blk_below (g := gb230) (o := .cells #[.slice none 0 0, .slice none 0 0, .int .i64 0, .int .i64 0] 30 (0, 0)) (TK BK230.out) hb)
 have n3_ := aS (below_step (TB3 GE228.out GE229.out GE230.out) hb)
 clear BK228
 clear BK229
 clear BK230
 clear HB
 have BK228 := n0_
 have BK229 := n1_
 have BK230 := n2_
 have HB := n3_
 clear n0_ n1_ n2_ n3_
 (try clear hb)
 (try clear hb2)
 (try clear hk)
 (try clear hi)
 refine hK.out _ _ ⟨czz BK229.out 0, czz BK229.out 1⟩ (fun hHeld => ?_)
 clear hK K
 refine norm_ (a' := ?_) ?_ ?_
 rotate_left
 ·show Act.put _ (some 39) _ = _
  simp only [Act.put, lA, lZ, lS, i64_w, i32_w]
  rfl
 refine pT 8 12 (bt 9 511) (k := ?_)
 refine done_ (done_of HT_.out (by kernel_rfl)) ?_
 try go_wp2_with (first | ((with_reducible refine gate_callee (f := 76) rfl ?_); refine goesL_ (some 41) rfl rfl Tryd.func76 (by kernel_rfl) rfl #[.slice A3 l3.length c3, .int .i64 0] rfl TM ?_; (with_reducible refine (saronref00_Nth.calls _ _ l3 0 t236 _ ?side1 ?side2 A10.out).mono ?_); (case side1 => exact TC HR3.out); (case side2 => exact HC3.out); rintro e w' ⟨rfl, ⟨nd, rfl⟩⟩; refine ⟨_, rfl, ?_⟩; (try (rw [drewN_self w24]; generalize hq_ : World.drewN w24 _ = w24; have n0_ : Aside0 (w24.heap[gb228]? = some (.cells #[.int .i64 a0_0, .slice A0_1 l0_1.length c0_1, .slice (some ad231) l0_2.length c0_2] 27 (0, 0))) := ⟨by rw [← hq_]; exact (TK BK228.out)⟩; have n1_ : Aside0 (w24.heap[gb229]? = some (.cells #[.int .i64 a2_0, .int .i64 a2_1] 43 (0, 0))) := ⟨by rw [← hq_]; exact (TK BK229.out)⟩; have n2_ : Aside0 (w24.heap[gb230]? = some (.cells #[.slice none 0 0, .slice none 0 0, .int .i64 0, .int .i64 0] 30 (0, 0))) := ⟨by rw [← hq_]; exact (TK BK230.out)⟩; have n3_ : Aside0 (Below w.heap.size w w24) := ⟨by rw [← hq_]; exact (TB3 GE228.out GE229.out GE230.out)⟩; clear BK228 BK229 BK230 HB hq_; have BK228 := n0_; have BK229 := n1_; have BK230 := n2_; have HB := n3_; clear n0_ n1_ n2_ n3_)); have hczq228_0 : w24.cell? ⟨gb228, 0, none⟩ = some (.int .i64 a0_0) := czz BK228.out 0; have hfzq228_0 := fz BK228.out 0; have hczq228_1 : w24.cell? ⟨gb228, 1, none⟩ = some (.slice A0_1 l0_1.length c0_1) := czz BK228.out 1; have hfzq228_1 := fz BK228.out 1; have hczq228_2 : w24.cell? ⟨gb228, 2, none⟩ = some (.slice (some ad231) l0_2.length c0_2) := czz BK228.out 2; have hfzq228_2 := fz BK228.out 2; have hczq229_0 : w24.cell? ⟨gb229, 0, none⟩ = some (.int .i64 a2_0) := czz BK229.out 0; have hfzq229_0 := fz BK229.out 0; have hczq229_1 : w24.cell? ⟨gb229, 1, none⟩ = some (.int .i64 a2_1) := czz BK229.out 1; have hfzq229_1 := fz BK229.out 1; have hczq230_0 : w24.cell? ⟨gb230, 0, none⟩ = some (.slice none 0 0) := czz BK230.out 0; have hfzq230_0 := fz BK230.out 0; have hczq230_1 : w24.cell? ⟨gb230, 1, none⟩ = some (.slice none 0 0) := czz BK230.out 1; have hfzq230_1 := fz BK230.out 1; have hczq230_2 : w24.cell? ⟨gb230, 2, none⟩ = some (.int .i64 0) := czz BK230.out 2; have hfzq230_2 := fz BK230.out 2; have hczq230_3 : w24.cell? ⟨gb230, 3, none⟩ = some (.int .i64 0) := czz BK230.out 3; have hfzq230_3 := fz BK230.out 3) | ((with_reducible refine gate_callee (f := 37) rfl ?_); refine goesL_ (some 42) rfl rfl Tryd.func37 (by kernel_rfl) rfl #[.int .i64 t236, .int .i64 4] rfl TM ?_; (with_reducible refine (saronref00_Turn.calls t236 4 t237 _ A11.out).mono ?_); rintro e w' ⟨rfl, ⟨nd, rfl⟩⟩; refine ⟨_, rfl, ?_⟩; (try (rw [drewN_self w24]; generalize hq_ : World.drewN w24 _ = w24; have n0_ : Aside0 (w24.heap[gb228]? = some (.cells #[.int .i64 a0_0, .slice A0_1 l0_1.length c0_1, .slice (some ad231) l0_2.length c0_2] 27 (0, 0))) := ⟨by rw [← hq_]; exact (TK BK228.out)⟩; have n1_ : Aside0 (w24.heap[gb229]? = some (.cells #[.int .i64 a2_0, .int .i64 a2_1] 43 (0, 0))) := ⟨by rw [← hq_]; exact (TK BK229.out)⟩; have n2_ : Aside0 (w24.heap[gb230]? = some (.cells #[.slice none 0 0, .slice none 0 0, .int .i64 0, .int .i64 0] 30 (0, 0))) := ⟨by rw [← hq_]; exact (TK BK230.out)⟩; have n3_ : Aside0 (Below w.heap.size w w24) := ⟨by rw [← hq_]; exact (TB3 GE228.out GE229.out GE230.out)⟩; clear BK228 BK229 BK230 HB hq_; have BK228 := n0_; have BK229 := n1_; have BK230 := n2_; have HB := n3_; clear n0_ n1_ n2_ n3_)); have hczq228_0 : w24.cell? ⟨gb228, 0, none⟩ = some (.int .i64 a0_0) := czz BK228.out 0; have hfzq228_0 := fz BK228.out 0; have hczq228_1 : w24.cell? ⟨gb228, 1, none⟩ = some (.slice A0_1 l0_1.length c0_1) := czz BK228.out 1; have hfzq228_1 := fz BK228.out 1; have hczq228_2 : w24.cell? ⟨gb228, 2, none⟩ = some (.slice (some ad231) l0_2.length c0_2) := czz BK228.out 2; have hfzq228_2 := fz BK228.out 2; have hczq229_0 : w24.cell? ⟨gb229, 0, none⟩ = some (.int .i64 a2_0) := czz BK229.out 0; have hfzq229_0 := fz BK229.out 0; have hczq229_1 : w24.cell? ⟨gb229, 1, none⟩ = some (.int .i64 a2_1) := czz BK229.out 1; have hfzq229_1 := fz BK229.out 1; have hczq230_0 : w24.cell? ⟨gb230, 0, none⟩ = some (.slice none 0 0) := czz BK230.out 0; have hfzq230_0 := fz BK230.out 0; have hczq230_1 : w24.cell? ⟨gb230, 1, none⟩ = some (.slice none 0 0) := czz BK230.out 1; have hfzq230_1 := fz BK230.out 1; have hczq230_2 : w24.cell? ⟨gb230, 2, none⟩ = some (.int .i64 0) := czz BK230.out 2; have hfzq230_2 := fz BK230.out 2; have hczq230_3 : w24.cell? ⟨gb230, 3, none⟩ = some (.int .i64 0) := czz BK230.out 3; have hfzq230_3 := fz BK230.out 3) | ((with_reducible refine gate_callee (f := 76) rfl ?_); refine goesL_ (some 44) rfl rfl Tryd.func76 (by kernel_rfl) rfl #[.slice A3 l3.length c3, .int .i64 1] rfl TM ?_; (with_reducible refine (saronref00_Nth.calls _ _ l3 1 t238 _ ?side1 ?side2 A12.out).mono ?_); (case side1 => exact TC HR3.out); (case side2 => exact HC3.out); rintro e w' ⟨rfl, ⟨nd, rfl⟩⟩; refine ⟨_, rfl, ?_⟩; (try (rw [drewN_self w24]; generalize hq_ : World.drewN w24 _ = w24; have n0_ : Aside0 (w24.heap[gb228]? = some (.cells #[.int .i64 a0_0, .slice A0_1 l0_1.length c0_1, .slice (some ad231) l0_2.length c0_2] 27 (0, 0))) := ⟨by rw [← hq_]; exact (TK BK228.out)⟩; have n1_ : Aside0 (w24.heap[gb229]? = some (.cells #[.int .i64 a2_0, .int .i64 a2_1] 43 (0, 0))) := ⟨by rw [← hq_]; exact (TK BK229.out)⟩; have n2_ : Aside0 (w24.heap[gb230]? = some (.cells #[.slice none 0 0, .slice none 0 0, .int .i64 0, .int .i64 0] 30 (0, 0))) := ⟨by rw [← hq_]; exact (TK BK230.out)⟩; have n3_ : Aside0 (Below w.heap.size w w24) := ⟨by rw [← hq_]; exact (TB3 GE228.out GE229.out GE230.out)⟩; clear BK228 BK229 BK230 HB hq_; have BK228 := n0_; have BK229 := n1_; have BK230 := n2_; have HB := n3_; clear n0_ n1_ n2_ n3_)); have hczq228_0 : w24.cell? ⟨gb228, 0, none⟩ = some (.int .i64 a0_0) := czz BK228.out 0; have hfzq228_0 := fz BK228.out 0; have hczq228_1 : w24.cell? ⟨gb228, 1, none⟩ = some (.slice A0_1 l0_1.length c0_1) := czz BK228.out 1; have hfzq228_1 := fz BK228.out 1; have hczq228_2 : w24.cell? ⟨gb228, 2, none⟩ = some (.slice (some ad231) l0_2.length c0_2) := czz BK228.out 2; have hfzq228_2 := fz BK228.out 2; have hczq229_0 : w24.cell? ⟨gb229, 0, none⟩ = some (.int .i64 a2_0) := czz BK229.out 0; have hfzq229_0 := fz BK229.out 0; have hczq229_1 : w24.cell? ⟨gb229, 1, none⟩ = some (.int .i64 a2_1) := czz BK229.out 1; have hfzq229_1 := fz BK229.out 1; have hczq230_0 : w24.cell? ⟨gb230, 0, none⟩ = some (.slice none 0 0) := czz BK230.out 0; have hfzq230_0 := fz BK230.out 0; have hczq230_1 : w24.cell? ⟨gb230, 1, none⟩ = some (.slice none 0 0) := czz BK230.out 1; have hfzq230_1 := fz BK230.out 1; have hczq230_2 : w24.cell? ⟨gb230, 2, none⟩ = some (.int .i64 0) := czz BK230.out 2; have hfzq230_2 := fz BK230.out 2; have hczq230_3 : w24.cell? ⟨gb230, 3, none⟩ = some (.int .i64 0) := czz BK230.out 3; have hfzq230_3 := fz BK230.out 3) | ((with_reducible refine gate_callee (f := 37) rfl ?_); refine goesL_ (some 45) rfl rfl Tryd.func37 (by kernel_rfl) rfl #[.int .i64 t238, .int .i64 3] rfl TM ?_; (with_reducible refine (saronref00_Turn.calls t238 3 t239 _ A13.out).mono ?_); rintro e w' ⟨rfl, ⟨nd, rfl⟩⟩; refine ⟨_, rfl, ?_⟩; (try (rw [drewN_self w24]; generalize hq_ : World.drewN w24 _ = w24; have n0_ : Aside0 (w24.heap[gb228]? = some (.cells #[.int .i64 a0_0, .slice A0_1 l0_1.length c0_1, .slice (some ad231) l0_2.length c0_2] 27 (0, 0))) := ⟨by rw [← hq_]; exact (TK BK228.out)⟩; have n1_ : Aside0 (w24.heap[gb229]? = some (.cells #[.int .i64 a2_0, .int .i64 a2_1] 43 (0, 0))) := ⟨by rw [← hq_]; exact (TK BK229.out)⟩; have n2_ : Aside0 (w24.heap[gb230]? = some (.cells #[.slice none 0 0, .slice none 0 0, .int .i64 0, .int .i64 0] 30 (0, 0))) := ⟨by rw [← hq_]; exact (TK BK230.out)⟩; have n3_ : Aside0 (Below w.heap.size w w24) := ⟨by rw [← hq_]; exact (TB3 GE228.out GE229.out GE230.out)⟩; clear BK228 BK229 BK230 HB hq_; have BK228 := n0_; have BK229 := n1_; have BK230 := n2_; have HB := n3_; clear n0_ n1_ n2_ n3_)); have hczq228_0 : w24.cell? ⟨gb228, 0, none⟩ = some (.int .i64 a0_0) := czz BK228.out 0; have hfzq228_0 := fz BK228.out 0; have hczq228_1 : w24.cell? ⟨gb228, 1, none⟩ = some (.slice A0_1 l0_1.length c0_1) := czz BK228.out 1; have hfzq228_1 := fz BK228.out 1; have hczq228_2 : w24.cell? ⟨gb228, 2, none⟩ = some (.slice (some ad231) l0_2.length c0_2) := czz BK228.out 2; have hfzq228_2 := fz BK228.out 2; have hczq229_0 : w24.cell? ⟨gb229, 0, none⟩ = some (.int .i64 a2_0) := czz BK229.out 0; have hfzq229_0 := fz BK229.out 0; have hczq229_1 : w24.cell? ⟨gb229, 1, none⟩ = some (.int .i64 a2_1) := czz BK229.out 1; have hfzq229_1 := fz BK229.out 1; have hczq230_0 : w24.cell? ⟨gb230, 0, none⟩ = some (.slice none 0 0) := czz BK230.out 0; have hfzq230_0 := fz BK230.out 0; have hczq230_1 : w24.cell? ⟨gb230, 1, none⟩ = some (.slice none 0 0) := czz BK230.out 1; have hfzq230_1 := fz BK230.out 1; have hczq230_2 : w24.cell? ⟨gb230, 2, none⟩ = some (.int .i64 0) := czz BK230.out 2; have hfzq230_2 := fz BK230.out 2; have hczq230_3 : w24.cell? ⟨gb230, 3, none⟩ = some (.int .i64 0) := czz BK230.out 3; have hfzq230_3 := fz BK230.out 3) | ((with_reducible refine gate_dst (N := 13) rfl ?_); refine box_event ?hg (N := 13) ?hd (cs := #[.slice none 0 0, .slice none 0 0, .int .i64 0, .int .i64 0]) (t := 30) ?hr ?_; (case hd => rfl); (case hg => rfl); (case hr => exact TS); intro gb240 hg w25 hbox hb; have BK240 := aS (hbox); have GW240 := aS ((TG3 GE228.out GE229.out GE230.out : w.heap.size ≤ gb240)); have GE240 := aS ((TG3 GE228.out GE229.out GE230.out : w.heap.size ≤ gb240)); have NB228_240 := aS ((by rw [hg]; exact Nat.ne_of_lt (blk_lt (g := gb228) (o := .cells #[.int .i64 a0_0, .slice A0_1 l0_1.length c0_1, .slice (some ad231) l0_2.length c0_2] 27 (0, 0)) (TK BK228.out)) : gb228 ≠ gb240)); have NB240_228 := aS ((by rw [hg]; exact Nat.ne_of_gt (blk_lt (g := gb228) (o := .cells #[.int .i64 a0_0, .slice A0_1 l0_1.length c0_1, .slice (some ad231) l0_2.length c0_2] 27 (0, 0)) (TK BK228.out)) : gb240 ≠ gb228)); have NB229_240 := aS ((by rw [hg]; exact Nat.ne_of_lt (blk_lt (g := gb229) (o := .cells #[.int .i64 a2_0, .int .i64 a2_1] 43 (0, 0)) (TK BK229.out)) : gb229 ≠ gb240)); have NB240_229 := aS ((by rw [hg]; exact Nat.ne_of_gt (blk_lt (g := gb229) (o := .cells #[.int .i64 a2_0, .int .i64 a2_1] 43 (0, 0)) (TK BK229.out)) : gb240 ≠ gb229)); have NB230_240 := aS ((by rw [hg]; exact Nat.ne_of_lt (blk_lt (g := gb230) (o := .cells #[.slice none 0 0, .slice none 0 0, .int .i64 0, .int .i64 0] 30 (0, 0)) (TK BK230.out)) : gb230 ≠ gb240)); have NB240_230 := aS ((by rw [hg]; exact Nat.ne_of_gt (blk_lt (g := gb230) (o := .cells #[.slice none 0 0, .slice none 0 0, .int .i64 0, .int .i64 0] 30 (0, 0)) (TK BK230.out)) : gb240 ≠ gb230)); replace BK228 := aS (blk_below (g := gb228) (o := .cells #[.int .i64 a0_0, .slice A0_1 l0_1.length c0_1, .slice (some ad231) l0_2.length c0_2] 27 (0, 0)) (TK BK228.out) hb); replace BK229 := aS (blk_below (g := gb229) (o := .cells #[.int .i64 a2_0, .int .i64 a2_1] 43 (0, 0)) (TK BK229.out) hb); replace BK230 := aS (blk_below (g := gb230) (o := .cells #[.slice none 0 0, .slice none 0 0, .int .i64 0, .int .i64 0] 30 (0, 0)) (TK BK230.out) hb); replace HB := aS (below_step (TB3 GE228.out GE229.out GE230.out) hb); clear hb hbox hg; have hnb26 := NB240_228.out; have hnc26 := NB228_240.out; have hnb27 := NB240_229.out; have hnc27 := NB229_240.out; have hnb28 := NB240_230.out; have hnc28 := NB230_240.out; have hcz29_0 := czz BK240.out 0; have hcz29_1 := czz BK240.out 1; have hcz29_2 := czz BK240.out 2; have hcz29_3 := czz BK240.out 3; have hfz29_0 := fz BK240.out 0; have hfz29_1 := fz BK240.out 1; have hfz29_2 := fz BK240.out 2; have hfz29_3 := fz BK240.out 3))
 go_loopg [14, 15, 16, 17] k (fun kq v14 v15 v16 v17 w' => ∃ (x14_1 : Int) (x15_1 : Int) (x16_1 : List Int) (x17_1 : Int) (x241000_1 : List Int) (x241001_1 : List Int) (u241000 : Value) (u241001 : Value), v14 = .int .i64 x14_1 ∧ v15 = .int .i64 x15_1 ∧ v17 = .int .i64 x17_1 ∧ Aside0 (sW.l0 kq a1 l3 ((rd_T62 l0_2 a1).f1) t232 t235 x14_1 x15_1 x16_1 x17_1 a0_0 l0_1 l0_2 x241000_1 x241001_1 t237 t239 = some (r1, r2, r3, r4, r5)) ∧ Aside0 (kq ≤ k) ∧ Aside0 (Kd.R (Kd.int .i64) 3 w' w.heap.size (fun k_ => some k_ ≠ (u241000 : Value).ownBlock ∧ some k_ ≠ (u241001 : Value).ownBlock) v16 x16_1) ∧ Aside0 (Kd.R (Kd.int .i64) 3 w' w.heap.size (fun k_ => some k_ ≠ (v16 : Value).ownBlock ∧ some k_ ≠ (u241001 : Value).ownBlock) u241000 x241000_1) ∧ Aside0 (Kd.R (Kd.int .i64) 3 w' w.heap.size (fun k_ => some k_ ≠ (v16 : Value).ownBlock ∧ some k_ ≠ (u241000 : Value).ownBlock) u241001 x241001_1) ∧ Aside0 (w'.heap[gb228]? = some (.cells #[.int .i64 a0_0, (.slice A0_1 l0_1.length c0_1), (.slice (some ad231) l0_2.length c0_2)] 27 (0, 0))) ∧ Aside0 (w'.heap[gb229]? = some (.cells #[.int .i64 a2_0, .int .i64 a2_1] 43 (0, 0))) ∧ Aside0 (w'.heap[gb230]? = some (.cells #[(.slice none 0 0), (.slice none 0 0), .int .i64 0, .int .i64 0] 30 (0, 0))) ∧ Aside0 (w'.heap[gb240]? = some (.cells #[u241000, u241001, .int .i64 t237, .int .i64 t239] 30 (0, 0))) ∧ Aside0 (Below w.heap.size w w'))
 case atStart => exact ⟨(0), (0), (([] : List Int)), (t232), (([] : List Int)), (([] : List Int)), (.slice none 0 0), (.slice none 0 0), TT, TT, TT, H', ⟨Nat.le_refl _⟩, ⟨by first | exact Kd.R_nil _ _ _ _ _ | exact Kd.N_nil _ _ _ _ _ | exact Kd.V_nil _ _ _ _ _ | exact Kd.Q_nil _ _ _ _ _ | exact Kd.S_nil _ _ _ _ _⟩, ⟨by first | exact Kd.R_nil _ _ _ _ _ | exact Kd.N_nil _ _ _ _ _ | exact Kd.V_nil _ _ _ _ _ | exact Kd.Q_nil _ _ _ _ _ | exact Kd.S_nil _ _ _ _ _⟩, ⟨by first | exact Kd.R_nil _ _ _ _ _ | exact Kd.N_nil _ _ _ _ _ | exact Kd.V_nil _ _ _ _ _ | exact Kd.Q_nil _ _ _ _ _ | exact Kd.S_nil _ _ _ _ _⟩, ⟨by (with_reducible repeat (first | refine blk_drewN ?_ _ | refine blk_drew ?_ | refine blk_alloc ?_ _)); refine blk_far ?_ NB228_240.out _; (with_reducible repeat (first | refine blk_drewN ?_ _ | refine blk_drew ?_ | refine blk_alloc ?_ _)); refine blk_far ?_ NB228_240.out _; (with_reducible repeat (first | refine blk_drewN ?_ _ | refine blk_drew ?_ | refine blk_alloc ?_ _)); refine blk_far ?_ NB228_240.out _; (with_reducible repeat (first | refine blk_drewN ?_ _ | refine blk_drew ?_ | refine blk_alloc ?_ _)); refine blk_far ?_ NB228_240.out _; (with_reducible repeat (first | refine blk_drewN ?_ _ | refine blk_drew ?_ | refine blk_alloc ?_ _)); exact BK228.out⟩, ⟨by (with_reducible repeat (first | refine blk_drewN ?_ _ | refine blk_drew ?_ | refine blk_alloc ?_ _)); refine blk_far ?_ NB229_240.out _; (with_reducible repeat (first | refine blk_drewN ?_ _ | refine blk_drew ?_ | refine blk_alloc ?_ _)); refine blk_far ?_ NB229_240.out _; (with_reducible repeat (first | refine blk_drewN ?_ _ | refine blk_drew ?_ | refine blk_alloc ?_ _)); refine blk_far ?_ NB229_240.out _; (with_reducible repeat (first | refine blk_drewN ?_ _ | refine blk_drew ?_ | refine blk_alloc ?_ _)); refine blk_far ?_ NB229_240.out _; (with_reducible repeat (first | refine blk_drewN ?_ _ | refine blk_drew ?_ | refine blk_alloc ?_ _)); exact BK229.out⟩, ⟨by (with_reducible repeat (first | refine blk_drewN ?_ _ | refine blk_drew ?_ | refine blk_alloc ?_ _)); refine blk_far ?_ NB230_240.out _; (with_reducible repeat (first | refine blk_drewN ?_ _ | refine blk_drew ?_ | refine blk_alloc ?_ _)); refine blk_far ?_ NB230_240.out _; (with_reducible repeat (first | refine blk_drewN ?_ _ | refine blk_drew ?_ | refine blk_alloc ?_ _)); refine blk_far ?_ NB230_240.out _; (with_reducible repeat (first | refine blk_drewN ?_ _ | refine blk_drew ?_ | refine blk_alloc ?_ _)); refine blk_far ?_ NB230_240.out _; (with_reducible repeat (first | refine blk_drewN ?_ _ | refine blk_drew ?_ | refine blk_alloc ?_ _)); exact BK230.out⟩, ⟨by (with_reducible repeat (first | refine blk_drewN ?_ _ | refine blk_drew ?_ | refine blk_alloc ?_ _)); refine blk_put (cs := #[.slice none 0 0, .slice none 0 0, .int .i64 t237, .int .i64 0]) ?_ 3 _ rfl; (with_reducible repeat (first | refine blk_drewN ?_ _ | refine blk_drew ?_ | refine blk_alloc ?_ _)); refine blk_put (cs := #[.slice none 0 0, .slice none 0 0, .int .i64 0, .int .i64 0]) ?_ 2 _ rfl; (with_reducible repeat (first | refine blk_drewN ?_ _ | refine blk_drew ?_ | refine blk_alloc ?_ _)); refine blk_put (cs := #[.slice none 0 0, .slice none 0 0, .int .i64 0, .int .i64 0]) ?_ 1 _ rfl; (with_reducible repeat (first | refine blk_drewN ?_ _ | refine blk_drew ?_ | refine blk_alloc ?_ _)); refine blk_put (cs := #[.slice none 0 0, .slice none 0 0, .int .i64 0, .int .i64 0]) ?_ 0 _ rfl; (with_reducible repeat (first | refine blk_drewN ?_ _ | refine blk_drew ?_ | refine blk_alloc ?_ _)); exact BK240.out⟩, ⟨by repeat (first | (with_reducible first | exact HB.out | apply below_alloc | apply pw_below_drewN | apply below_drew1 | refine below_set ?_ GE228.out | refine below_set ?_ GE229.out | refine below_set ?_ GE230.out | refine below_set ?_ GE240.out) | exact HB.out)⟩⟩
 case round => as_aux_lemma =>
  clear H'
  try clear c1
  try clear c2
  try clear p2
  try clear q2
  try clear hx2
  try clear c3
  try clear c4
  try clear c5
  try clear c5b0
  try clear c6
  try clear c6b0
  try clear p6
  try clear c7
  try clear c17
  try clear c18
  try clear c20
  try clear c23
  try clear p23
  try clear q23
  try clear hx23
  try clear c26
  try clear c27
  try clear c28
  try clear hcz19_0 hcz19_1 hcz19_2
  try clear hcz21_0 hcz21_1
  try clear hcz29_0 hcz29_1 hcz29_2 hcz29_3
  try clear hfz19_0 hfz19_1 hfz19_2
  try clear hfz21_0 hfz21_1
  try clear hfz29_0 hfz29_1 hfz29_2 hfz29_3
  try clear hx231_0
  try clear hx231_1
  try clear p231
  try clear q231
  obtain ⟨x14_1, x15_1, x16_1, x17_1, x241000_1, x241001_1, u241000, u241001, rfl, rfl, rfl, HA, HK1, HO_16, HO_241000, HO_241001, BK228, BK229, BK230, BK240, HB⟩ := hrel
  cases gk with
  | zero => exact absurd HA.out (by simp [sW.l0])
  | succ k1 =>
   have H := HA.out
   clear HA
   simp only [sW.l0] at H
   by_cases c30 : x17_1 ≤ t235
   rotate_left
   ·rw [if_neg c30] at H
    have c30b0 : decide (x17_1 ≤ t235) = false := decide_eq_false c30
    clear c30
    simp only [Option.some.injEq, Prod.mk.injEq] at H
    obtain ⟨rfl, rfl, rfl, rfl, rfl⟩ := H
    have hnb118 := NB240_228.out
    have hnc118 := NB228_240.out
    have hnb119 := NB240_229.out
    have hnc119 := NB229_240.out
    have hnb120 := NB240_230.out
    have hnc120 := NB230_240.out
    have hcz121_0 := czz BK240.out 0
    have hcz121_1 := czz BK240.out 1
    have hcz121_2 := czz BK240.out 2
    have hcz121_3 := czz BK240.out 3
    have hfz121_0 := fz BK240.out 0
    have hfz121_1 := fz BK240.out 1
    have hfz121_2 := fz BK240.out 2
    have hfz121_3 := fz BK240.out 3
    obtain ⟨Ao122, co122, eo122⟩ := Kd.R_slice HO_241000.out
    subst eo122
    have hnb123 := NB230_228.out
    have hnc123 := NB228_230.out
    have hnb124 := NB230_229.out
    have hnc124 := NB229_230.out
    have hcz125_0 := czz BK230.out 0
    have hcz125_1 := czz BK230.out 1
    have hcz125_2 := czz BK230.out 2
    have hcz125_3 := czz BK230.out 3
    have hfz125_0 := fz BK230.out 0
    have hfz125_1 := fz BK230.out 1
    have hfz125_2 := fz BK230.out 2
    have hfz125_3 := fz BK230.out 3
    obtain ⟨Ao126, co126, eo126⟩ := Kd.R_slice HO_241001.out
    subst eo126
    go_wp2
    refine bodyPost_ret (results_ct rfl _ _ gb230 30 #[.slice Ao122 x241000_1.length co122, .slice Ao126 x241001_1.length co126, .int .i64 t237, .int .i64 t239] (0, 0) _ rfl (by (with_reducible repeat (first | refine blk_drewN ?_ _ | refine blk_drew ?_ | refine blk_alloc ?_ _)); refine blk_put (cs := #[.slice Ao122 x241000_1.length co122, .slice Ao126 x241001_1.length co126, .int .i64 t237, .int .i64 0]) ?_ 3 _ rfl; (with_reducible repeat (first | refine blk_drewN ?_ _ | refine blk_drew ?_ | refine blk_alloc ?_ _)); refine blk_put (cs := #[.slice Ao122 x241000_1.length co122, .slice Ao126 x241001_1.length co126, .int .i64 0, .int .i64 0]) ?_ 2 _ rfl; (with_reducible repeat (first | refine blk_drewN ?_ _ | refine blk_drew ?_ | refine blk_alloc ?_ _)); refine blk_put (cs := #[.slice Ao122 x241000_1.length co122, .slice none 0 0, .int .i64 0, .int .i64 0]) ?_ 1 _ rfl; (with_reducible repeat (first | refine blk_drewN ?_ _ | refine blk_drew ?_ | refine blk_alloc ?_ _)); refine blk_put (cs := #[.slice none 0 0, .slice none 0 0, .int .i64 0, .int .i64 0]) ?_ 0 _ rfl; (with_reducible repeat (first | refine blk_drewN ?_ _ | refine blk_drew ?_ | refine blk_alloc ?_ _)); exact BK230.out) Tryd.underlying30 rfl (by kernel_rfl)) rfl ?_
    exact ⟨_, _, _, TR, by (with_reducible repeat (first | apply Kd.R_alloc | apply Kd.R_drewN | apply Kd.R_drew)); exact Kd.R_mono (Kd.R_far (p := ⟨gb230, 3, none⟩) (Kd.R_far (p := ⟨gb230, 2, none⟩) (Kd.R_far (p := ⟨gb230, 1, none⟩) (Kd.R_far (p := ⟨gb230, 0, none⟩) (Kd.R_types HO_241000.out BK230.out (by decide)) (fun _ hk => hk.2) (.slice Ao122 x241000_1.length co122)) (fun _ hk => hk.2) (.slice Ao126 x241001_1.length co126)) (fun _ hk => hk.2) (.int .i64 t237)) (fun _ hk => hk.2) (.int .i64 t239)) (fun _ hk => ⟨hk.1.2, hk.1.1⟩), by (with_reducible repeat (first | apply Kd.R_alloc | apply Kd.R_drewN | apply Kd.R_drew)); exact Kd.R_mono (Kd.R_far (p := ⟨gb230, 3, none⟩) (Kd.R_far (p := ⟨gb230, 2, none⟩) (Kd.R_far (p := ⟨gb230, 1, none⟩) (Kd.R_far (p := ⟨gb230, 0, none⟩) (Kd.R_types HO_241001.out BK230.out (by decide)) (fun _ hk => hk.2) (.slice Ao122 x241000_1.length co122)) (fun _ hk => hk.2) (.slice Ao126 x241001_1.length co126)) (fun _ hk => hk.2) (.int .i64 t237)) (fun _ hk => hk.2) (.int .i64 t239)) (fun _ hk => ⟨hk.1.2, hk.1.1⟩), by (with_reducible repeat (first | apply Kd.R_alloc | apply Kd.R_drewN | apply Kd.R_drew)); exact Kd.R_mono (Kd.R_far (p := ⟨gb230, 3, none⟩) (Kd.R_far (p := ⟨gb230, 2, none⟩) (Kd.R_far (p := ⟨gb230, 1, none⟩) (Kd.R_far (p := ⟨gb230, 0, none⟩) (Kd.R_types HO_16.out BK230.out (by decide)) (fun _ hk => hk.2) (.slice Ao122 x241000_1.length co122)) (fun _ hk => hk.2) (.slice Ao126 x241001_1.length co126)) (fun _ hk => hk.2) (.int .i64 t237)) (fun _ hk => hk.2) (.int .i64 t239)) (fun _ hk => ⟨hk.1.1, hk.1.2⟩), by repeat (first | (with_reducible first | exact HB.out | apply below_alloc | apply pw_below_drewN | apply below_drew1 | refine below_set ?_ GE228.out | refine below_set ?_ GE229.out | refine below_set ?_ GE230.out | refine below_set ?_ GE240.out) | exact HB.out)⟩
   as_aux_lemma =>
   rw [if_pos c30] at H
   have c30b0 : decide (x17_1 ≤ t235) = true := decide_eq_true c30
   clear c30
   have HC31 := aS H
   clear H
   go_upto_region 10 with (fail)
   go_cut [73] (fun v73 wc => ∃ (kq : Nat) (x73_30 : Bool), v73 = .bool x73_30 ∧ Aside0 (sW.j1 kq a1 l3 ((rd_T62 l0_2 a1).f1) t232 t235 x14_1 x15_1 x16_1 x17_1 x73_30 a0_0 l0_1 l0_2 x241000_1 x241001_1 t237 t239 = some (r1, r2, r3, r4, r5)) ∧ Aside0 (kq ≤ k1) ∧ Aside0 (Kd.R (Kd.int .i64) 3 wc w.heap.size (fun k_ => some k_ ≠ (u241000 : Value).ownBlock ∧ some k_ ≠ (u241001 : Value).ownBlock) u16 x16_1) ∧ Aside0 (Kd.R (Kd.int .i64) 3 wc w.heap.size (fun k_ => some k_ ≠ (u16 : Value).ownBlock ∧ some k_ ≠ (u241001 : Value).ownBlock) u241000 x241000_1) ∧ Aside0 (Kd.R (Kd.int .i64) 3 wc w.heap.size (fun k_ => some k_ ≠ (u16 : Value).ownBlock ∧ some k_ ≠ (u241000 : Value).ownBlock) u241001 x241001_1) ∧ Aside0 (wc.heap[gb228]? = some (.cells #[.int .i64 a0_0, (.slice A0_1 l0_1.length c0_1), (.slice (some ad231) l0_2.length c0_2)] 27 (0, 0))) ∧ Aside0 (wc.heap[gb229]? = some (.cells #[.int .i64 a2_0, .int .i64 a2_1] 43 (0, 0))) ∧ Aside0 (wc.heap[gb230]? = some (.cells #[(.slice none 0 0), (.slice none 0 0), .int .i64 0, .int .i64 0] 30 (0, 0))) ∧ Aside0 (wc.heap[gb240]? = some (.cells #[u241000, u241001, .int .i64 t237, .int .i64 t239] 30 (0, 0))) ∧ Aside0 (Below w.heap.size w wc))
   case first => as_aux_lemma =>
    have H := HC31.out
    clear HC31
    by_cases c32 : x17_1 > t232
    rotate_left
    ·rw [if_neg c32] at H
     have c32b0 : decide (t232 < x17_1) = false := decide_eq_false c32
     clear c32
     (first | rw [c32b0] | (simp only [i64_w, i32_w]; rw [c32b0]) | skip)
     have H' := aS H
     clear H
     go_wp2
     go_meet
     case rel => exact ⟨_, (false), TT, H', ⟨by have := HK1.out; first | omega | exact Nat.le_refl _⟩, ⟨TRo HO_16.out⟩, ⟨TRo HO_241000.out⟩, ⟨TRo HO_241001.out⟩, ⟨TK BK228.out⟩, ⟨TK BK229.out⟩, ⟨TK BK230.out⟩, ⟨TK BK240.out⟩, ⟨by repeat (first | (with_reducible first | exact HB.out | apply below_alloc | apply pw_below_drewN | apply below_drew1 | refine below_set ?_ GE228.out | refine below_set ?_ GE229.out | refine below_set ?_ GE230.out | refine below_set ?_ GE240.out) | exact HB.out)⟩⟩
    as_aux_lemma =>
    rw [if_pos c32] at H
    have c32b0 : decide (t232 < x17_1) = true := decide_eq_true c32
    clear c32
    (first | rw [c32b0] | (simp only [i64_w, i32_w]; rw [c32b0]) | skip)
    by_cases c33 : x17_1 < t235
    rotate_left
    ·rw [if_neg c33] at H
     have c33b0 : decide (x17_1 < t235) = false := decide_eq_false c33
     clear c33
     have H' := aS H
     clear H
     go_wp2
     go_meet
     case rel => exact ⟨_, (false), TT, H', ⟨by have := HK1.out; first | omega | exact Nat.le_refl _⟩, ⟨TRo HO_16.out⟩, ⟨TRo HO_241000.out⟩, ⟨TRo HO_241001.out⟩, ⟨TK BK228.out⟩, ⟨TK BK229.out⟩, ⟨TK BK230.out⟩, ⟨TK BK240.out⟩, ⟨by repeat (first | (with_reducible first | exact HB.out | apply below_alloc | apply pw_below_drewN | apply below_drew1 | refine below_set ?_ GE228.out | refine below_set ?_ GE229.out | refine below_set ?_ GE230.out | refine below_set ?_ GE240.out) | exact HB.out)⟩⟩
    rw [if_pos c33] at H
    have c33b0 : decide (x17_1 < t235) = true := decide_eq_true c33
    clear c33
    by_cases c34 : x14_1 < t237
    rotate_left
    ·rw [if_neg c34] at H
     have c34b0 : decide (x14_1 < t237) = false := decide_eq_false c34
     clear c34
     have H' := aS H
     clear H
     have hnb41 := NB240_228.out
     have hnc41 := NB228_240.out
     have hnb42 := NB240_229.out
     have hnc42 := NB229_240.out
     have hnb43 := NB240_230.out
     have hnc43 := NB230_240.out
     have hcz44_0 := czz BK240.out 0
     have hcz44_1 := czz BK240.out 1
     have hcz44_2 := czz BK240.out 2
     have hcz44_3 := czz BK240.out 3
     have hfz44_0 := fz BK240.out 0
     have hfz44_1 := fz BK240.out 1
     have hfz44_2 := fz BK240.out 2
     have hfz44_3 := fz BK240.out 3
     go_wp2
     go_meet
     case rel => exact ⟨_, (false), TT, H', ⟨by have := HK1.out; first | omega | exact Nat.le_refl _⟩, ⟨TRo HO_16.out⟩, ⟨TRo HO_241000.out⟩, ⟨TRo HO_241001.out⟩, ⟨TK BK228.out⟩, ⟨TK BK229.out⟩, ⟨TK BK230.out⟩, ⟨TK BK240.out⟩, ⟨by repeat (first | (with_reducible first | exact HB.out | apply below_alloc | apply pw_below_drewN | apply below_drew1 | refine below_set ?_ GE228.out | refine below_set ?_ GE229.out | refine below_set ?_ GE230.out | refine below_set ?_ GE240.out) | exact HB.out)⟩⟩
    rw [if_pos c34] at H
    have c34b0 : decide (x14_1 < t237) = true := decide_eq_true c34
    clear c34
    replace H := Option.bind_eq_some_iff.mp H
    obtain ⟨t241, A350, H⟩ := H
    replace H : ((saronref00_Turn.f t241 3).bind fun t242 => (sW.j1 k1 a1 l3 ((rd_T62 l0_2 a1).f1) t232 t235 x14_1 x15_1 x16_1 x17_1 (t242 == 0) a0_0 l0_1 l0_2 x241000_1 x241001_1 t237 t239)) = some (r1, r2, r3, r4, r5) := H
    have A35 := aS A350
    clear A350
    replace H := Option.bind_eq_some_iff.mp H
    obtain ⟨t242, A360, H⟩ := H
    replace H : (sW.j1 k1 a1 l3 ((rd_T62 l0_2 a1).f1) t232 t235 x14_1 x15_1 x16_1 x17_1 (t242 == 0) a0_0 l0_1 l0_2 x241000_1 x241001_1 t237 t239) = some (r1, r2, r3, r4, r5) := H
    have A36 := aS A360
    clear A360
    have H' := aS H
    clear H
    have hnb37 := NB240_228.out
    have hnc37 := NB228_240.out
    have hnb38 := NB240_229.out
    have hnc38 := NB229_240.out
    have hnb39 := NB240_230.out
    have hnc39 := NB230_240.out
    have hcz40_0 := czz BK240.out 0
    have hcz40_1 := czz BK240.out 1
    have hcz40_2 := czz BK240.out 2
    have hcz40_3 := czz BK240.out 3
    have hfz40_0 := fz BK240.out 0
    have hfz40_1 := fz BK240.out 1
    have hfz40_2 := fz BK240.out 2
    have hfz40_3 := fz BK240.out 3
    go_wp2_with (first | (go_at_call 76; (with_reducible refine (saronref00_Nth.calls _ _ l3 x17_1 t241 _ ?side1 ?side2 A35.out).mono ?_); (case side1 => exact TC HR3.out); (case side2 => exact HC3.out); rintro e w' ⟨rfl, ⟨nd, rfl⟩⟩) | (go_at_call 37; (with_reducible refine (saronref00_Turn.calls t241 3 t242 _ A36.out).mono ?_); rintro e w' ⟨rfl, ⟨nd, rfl⟩⟩))
    go_meet
    case rel => exact ⟨_, ((t242 == 0)), TT, H', ⟨by have := HK1.out; first | omega | exact Nat.le_refl _⟩, ⟨TRo HO_16.out⟩, ⟨TRo HO_241000.out⟩, ⟨TRo HO_241001.out⟩, ⟨TK BK228.out⟩, ⟨TK BK229.out⟩, ⟨TK BK230.out⟩, ⟨TK BK240.out⟩, ⟨by repeat (first | (with_reducible first | exact HB.out | apply below_alloc | apply pw_below_drewN | apply below_drew1 | refine below_set ?_ GE228.out | refine below_set ?_ GE229.out | refine below_set ?_ GE230.out | refine below_set ?_ GE240.out) | exact HB.out)⟩⟩
   case rest => as_aux_lemma =>
    clear HC31
    try clear c1
    try clear c2
    try clear p2
    try clear q2
    try clear hx2
    try clear c3
    try clear c4
    try clear c5
    try clear c5b0
    try clear c6
    try clear c6b0
    try clear p6
    try clear c7
    try clear c17
    try clear c18
    try clear c20
    try clear c23
    try clear p23
    try clear q23
    try clear hx23
    try clear c26
    try clear c27
    try clear c28
    try clear c30
    try clear c30b0
    try clear c32
    try clear c32b0
    try clear c33
    try clear c33b0
    try clear c34
    try clear c34b0
    try clear c37
    try clear c38
    try clear c39
    try clear c41
    try clear c42
    try clear c43
    try clear hcz19_0 hcz19_1 hcz19_2
    try clear hcz21_0 hcz21_1
    try clear hcz29_0 hcz29_1 hcz29_2 hcz29_3
    try clear hcz40_0 hcz40_1 hcz40_2 hcz40_3
    try clear hcz44_0 hcz44_1 hcz44_2 hcz44_3
    try clear hfz19_0 hfz19_1 hfz19_2
    try clear hfz21_0 hfz21_1
    try clear hfz29_0 hfz29_1 hfz29_2 hfz29_3
    try clear hfz40_0 hfz40_1 hfz40_2 hfz40_3
    try clear hfz44_0 hfz44_1 hfz44_2 hfz44_3
    try clear hx231_0
    try clear hx231_1
    try clear p2
    try clear p23
    try clear p231
    try clear p6
    try clear q2
    try clear q23
    try clear q231
    try clear HO_16
    try clear HO_241000
    try clear HO_241001
    try clear BK228
    try clear BK229
    try clear BK230
    try clear BK240
    try clear HB
    obtain ⟨kq, x73_30, rfl, HA, HJ30, HO_16, HO_241000, HO_241001, BK228, BK229, BK230, BK240, HB⟩ := hcut
    cases kq with
    | zero => exact absurd HA.out (by simp [sW.j1])
    | succ kj30 =>
     have H := HA.out
     clear HA
     simp only [sW.j1] at H
     by_cases c45 : x73_30 = true
     ·subst c45
      have H1 : (sW.l0 kj30 a1 l3 ((rd_T62 l0_2 a1).f1) t232 t235 (wrap64 (x14_1 + 1)) x15_1 x16_1 (wrap64 (x17_1 + 1)) a0_0 l0_1 l0_2 x241000_1 x241001_1 t237 t239) = some (r1, r2, r3, r4, r5) := by rw [if_pos rfl] at H; exact H
      clear H
      have H := H1
      clear H1
      have H' := aS H
      clear H
      go_wp2
      go_roundg kj30
      case measure => have := HK1.out; have := HJ30.out; omega
      case rel => exact ⟨(wrap64 (x14_1 + 1)), (x15_1), (x16_1), (wrap64 (x17_1 + 1)), (x241000_1), (x241001_1), (u241000), (u241001), TT, TT, TT, H', ⟨by have := HK1.out; have := HJ30.out; omega⟩, ⟨TRo HO_16.out⟩, ⟨TRo HO_241000.out⟩, ⟨TRo HO_241001.out⟩, ⟨TK BK228.out⟩, ⟨TK BK229.out⟩, ⟨TK BK230.out⟩, ⟨TK BK240.out⟩, ⟨by repeat (first | (with_reducible first | exact HB.out | apply below_alloc | apply pw_below_drewN | apply below_drew1 | refine below_set ?_ GE228.out | refine below_set ?_ GE229.out | refine below_set ?_ GE230.out | refine below_set ?_ GE240.out) | exact HB.out)⟩⟩
     as_aux_lemma =>
     replace c45 := Bool.eq_false_iff.mpr c45
     subst c45
     have H1 : (if 0 ≤ x17_1 then (if x17_1 < (((rd_T62 l0_2 a1).f1).length : Int) then (if x15_1 < t239 then ((saronref00_Nth.f l3 (wrap64 (x17_1 + 1))).bind fun t244 => ((saronref00_Turn.f t244 4).bind fun t245 => (sW.j2 kj30 a1 l3 ((rd_T62 l0_2 a1).f1) t232 t235 x14_1 x15_1 x16_1 x17_1 (rd ((rd_T62 l0_2 a1).f1) x17_1) (t245 == 0) a0_0 l0_1 l0_2 x241000_1 x241001_1 t237 t239))) else (sW.j2 kj30 a1 l3 ((rd_T62 l0_2 a1).f1) t232 t235 x14_1 x15_1 x16_1 x17_1 (rd ((rd_T62 l0_2 a1).f1) x17_1) false a0_0 l0_1 l0_2 x241000_1 x241001_1 t237 t239)) else (none)) else (none)) = some (r1, r2, r3, r4, r5) := by rw [if_neg (show ¬ (false = true) by decide)] at H; exact H
     clear H
     have H := H1
     clear H1
     by_cases c46 : 0 ≤ x17_1
     rotate_left
     ·rw [if_neg c46] at H
      exact absurd H (by simp)
     as_aux_lemma =>
     rw [if_pos c46] at H
     have c46b0 : decide (0 ≤ x17_1) = true := decide_eq_true c46
     clear c46
     by_cases c47 : x17_1 < (((rd_T62 l0_2 a1).f1).length : Int)
     rotate_left
     ·rw [if_neg c47] at H
      exact absurd H (by simp)
     as_aux_lemma =>
     rw [if_pos c47] at H
     have c47b0 : decide (x17_1 < (((rd_T62 l0_2 a1).f1).length : Int)) = true := decide_eq_true c47
     clear c47
     have HC48 := aS H
     clear H
     have p243 : 0 ≤ (x17_1 : Int) := of_decide_eq_true TA
     have q243 : x17_1 < (((rd_T62 l0_2 a1).f1).length : Int) := of_decide_eq_true TA
     obtain ⟨ad243, e243, hx243_0⟩ := Kd.at_int HR231_1.out x17_1 p243 q243
     cases e243
     replace hx243_0 := (HB.out.cell  (World.block_lt_of_cell? w _ hx243_0)).trans hx243_0
     replace p243 := eq_true p243
     replace q243 := eq_true q243
     go_upto_region 13 with (fail)
     go_cut [91] (fun v91 wc => ∃ (kq : Nat) (x91_47 : Bool), v91 = .bool x91_47 ∧ Aside0 (sW.j2 kq a1 l3 ((rd_T62 l0_2 a1).f1) t232 t235 x14_1 x15_1 x16_1 x17_1 (rd ((rd_T62 l0_2 a1).f1) x17_1) x91_47 a0_0 l0_1 l0_2 x241000_1 x241001_1 t237 t239 = some (r1, r2, r3, r4, r5)) ∧ Aside0 (kq ≤ kj30) ∧ Aside0 (Kd.R (Kd.int .i64) 3 wc w.heap.size (fun k_ => some k_ ≠ (u241000 : Value).ownBlock ∧ some k_ ≠ (u241001 : Value).ownBlock) u16 x16_1) ∧ Aside0 (Kd.R (Kd.int .i64) 3 wc w.heap.size (fun k_ => some k_ ≠ (u16 : Value).ownBlock ∧ some k_ ≠ (u241001 : Value).ownBlock) u241000 x241000_1) ∧ Aside0 (Kd.R (Kd.int .i64) 3 wc w.heap.size (fun k_ => some k_ ≠ (u16 : Value).ownBlock ∧ some k_ ≠ (u241000 : Value).ownBlock) u241001 x241001_1) ∧ Aside0 (wc.heap[gb228]? = some (.cells #[.int .i64 a0_0, (.slice A0_1 l0_1.length c0_1), (.slice (some ad231) l0_2.length c0_2)] 27 (0, 0))) ∧ Aside0 (wc.heap[gb229]? = some (.cells #[.int .i64 a2_0, .int .i64 a2_1] 43 (0, 0))) ∧ Aside0 (wc.heap[gb230]? = some (.cells #[(.slice none 0 0), (.slice none 0 0), .int .i64 0, .int .i64 0] 30 (0, 0))) ∧ Aside0 (wc.heap[gb240]? = some (.cells #[u241000, u241001, .int .i64 t237, .int .i64 t239] 30 (0, 0))) ∧ Aside0 (Below w.heap.size w wc))
     case first => as_aux_lemma =>
      have H := HC48.out
      clear HC48
      by_cases c49 : x15_1 < t239
      rotate_left
      ·rw [if_neg c49] at H
       have c49b0 : decide (x15_1 < t239) = false := decide_eq_false c49
       clear c49
       (first | rw [c49b0] | (simp only [i64_w, i32_w]; rw [c49b0]) | skip)
       have H' := aS H
       clear H
       have hnb56 := NB240_228.out
       have hnc56 := NB228_240.out
       have hnb57 := NB240_229.out
       have hnc57 := NB229_240.out
       have hnb58 := NB240_230.out
       have hnc58 := NB230_240.out
       have hcz59_0 := czz BK240.out 0
       have hcz59_1 := czz BK240.out 1
       have hcz59_2 := czz BK240.out 2
       have hcz59_3 := czz BK240.out 3
       have hfz59_0 := fz BK240.out 0
       have hfz59_1 := fz BK240.out 1
       have hfz59_2 := fz BK240.out 2
       have hfz59_3 := fz BK240.out 3
       go_wp2
       go_meet
       case rel => exact ⟨_, (false), TT, H', ⟨by have := HK1.out; have := HJ30.out; first | omega | exact Nat.le_refl _⟩, ⟨TRo HO_16.out⟩, ⟨TRo HO_241000.out⟩, ⟨TRo HO_241001.out⟩, ⟨TK BK228.out⟩, ⟨TK BK229.out⟩, ⟨TK BK230.out⟩, ⟨TK BK240.out⟩, ⟨by repeat (first | (with_reducible first | exact HB.out | apply below_alloc | apply pw_below_drewN | apply below_drew1 | refine below_set ?_ GE228.out | refine below_set ?_ GE229.out | refine below_set ?_ GE230.out | refine below_set ?_ GE240.out) | exact HB.out)⟩⟩
      rw [if_pos c49] at H
      have c49b0 : decide (x15_1 < t239) = true := decide_eq_true c49
      clear c49
      (first | rw [c49b0] | (simp only [i64_w, i32_w]; rw [c49b0]) | skip)
      replace H := Option.bind_eq_some_iff.mp H
      obtain ⟨t244, A500, H⟩ := H
      replace H : ((saronref00_Turn.f t244 4).bind fun t245 => (sW.j2 kj30 a1 l3 ((rd_T62 l0_2 a1).f1) t232 t235 x14_1 x15_1 x16_1 x17_1 (rd ((rd_T62 l0_2 a1).f1) x17_1) (t245 == 0) a0_0 l0_1 l0_2 x241000_1 x241001_1 t237 t239)) = some (r1, r2, r3, r4, r5) := H
      have A50 := aS A500
      clear A500
      replace H := Option.bind_eq_some_iff.mp H
      obtain ⟨t245, A510, H⟩ := H
      replace H : (sW.j2 kj30 a1 l3 ((rd_T62 l0_2 a1).f1) t232 t235 x14_1 x15_1 x16_1 x17_1 (rd ((rd_T62 l0_2 a1).f1) x17_1) (t245 == 0) a0_0 l0_1 l0_2 x241000_1 x241001_1 t237 t239) = some (r1, r2, r3, r4, r5) := H
      have A51 := aS A510
      clear A510
      have H' := aS H
      clear H
      have hnb52 := NB240_228.out
      have hnc52 := NB228_240.out
      have hnb53 := NB240_229.out
      have hnc53 := NB229_240.out
      have hnb54 := NB240_230.out
      have hnc54 := NB230_240.out
      have hcz55_0 := czz BK240.out 0
      have hcz55_1 := czz BK240.out 1
      have hcz55_2 := czz BK240.out 2
      have hcz55_3 := czz BK240.out 3
      have hfz55_0 := fz BK240.out 0
      have hfz55_1 := fz BK240.out 1
      have hfz55_2 := fz BK240.out 2
      have hfz55_3 := fz BK240.out 3
      go_wp2_with (first | (go_at_call 76; (with_reducible refine (saronref00_Nth.calls _ _ l3 (wrap64 (x17_1 + 1)) t244 _ ?side1 ?side2 A50.out).mono ?_); (case side1 => exact TC HR3.out); (case side2 => exact HC3.out); rintro e w' ⟨rfl, ⟨nd, rfl⟩⟩) | (go_at_call 37; (with_reducible refine (saronref00_Turn.calls t244 4 t245 _ A51.out).mono ?_); rintro e w' ⟨rfl, ⟨nd, rfl⟩⟩))
      go_meet
      case rel => exact ⟨_, ((t245 == 0)), TT, H', ⟨by have := HK1.out; have := HJ30.out; first | omega | exact Nat.le_refl _⟩, ⟨TRo HO_16.out⟩, ⟨TRo HO_241000.out⟩, ⟨TRo HO_241001.out⟩, ⟨TK BK228.out⟩, ⟨TK BK229.out⟩, ⟨TK BK230.out⟩, ⟨TK BK240.out⟩, ⟨by repeat (first | (with_reducible first | exact HB.out | apply below_alloc | apply pw_below_drewN | apply below_drew1 | refine below_set ?_ GE228.out | refine below_set ?_ GE229.out | refine below_set ?_ GE230.out | refine below_set ?_ GE240.out) | exact HB.out)⟩⟩
     case rest => as_aux_lemma =>
      clear HC48
      try clear c1
      try clear c2
      try clear p2
      try clear q2
      try clear hx2
      try clear c3
      try clear c4
      try clear c5
      try clear c5b0
      try clear c6
      try clear c6b0
      try clear p6
      try clear c7
      try clear c17
      try clear c18
      try clear c20
      try clear c23
      try clear p23
      try clear q23
      try clear hx23
      try clear p24
      try clear q24
      try clear hx24
      try clear c26
      try clear c27
      try clear c28
      try clear c30
      try clear c30b0
      try clear c32
      try clear c32b0
      try clear c33
      try clear c33b0
      try clear c34
      try clear c34b0
      try clear c37
      try clear c38
      try clear c39
      try clear c41
      try clear c42
      try clear c43
      try clear c45
      try clear c46
      try clear c46b0
      try clear c47
      try clear c47b0
      try clear c49
      try clear c49b0
      try clear c52
      try clear c53
      try clear c54
      try clear c56
      try clear c57
      try clear c58
      try clear hcz19_0 hcz19_1 hcz19_2
      try clear hcz21_0 hcz21_1
      try clear hcz29_0 hcz29_1 hcz29_2 hcz29_3
      try clear hcz40_0 hcz40_1 hcz40_2 hcz40_3
      try clear hcz44_0 hcz44_1 hcz44_2 hcz44_3
      try clear hcz55_0 hcz55_1 hcz55_2 hcz55_3
      try clear hcz59_0 hcz59_1 hcz59_2 hcz59_3
      try clear hfz19_0 hfz19_1 hfz19_2
      try clear hfz21_0 hfz21_1
      try clear hfz29_0 hfz29_1 hfz29_2 hfz29_3
      try clear hfz40_0 hfz40_1 hfz40_2 hfz40_3
      try clear hfz44_0 hfz44_1 hfz44_2 hfz44_3
      try clear hfz55_0 hfz55_1 hfz55_2 hfz55_3
      try clear hfz59_0 hfz59_1 hfz59_2 hfz59_3
      try clear hx231_0
      try clear hx231_1
      try clear hx243_0
      try clear p2
      try clear p23
      try clear p231
      try clear p243
      try clear p6
      try clear q2
      try clear q23
      try clear q231
      try clear q243
      try clear HO_16
      try clear HO_241000
      try clear HO_241001
      try clear BK228
      try clear BK229
      try clear BK230
      try clear BK240
      try clear HB
      obtain ⟨kq, x91_47, rfl, HA, HJ47, HO_16, HO_241000, HO_241001, BK228, BK229, BK230, BK240, HB⟩ := hcut
      cases kq with
      | zero => exact absurd HA.out (by simp [sW.j2])
      | succ kj47 =>
       have H := HA.out
       clear HA
       simp only [sW.j2] at H
       have HC60 := aS H
       clear H
       go_upto_if 91 with (fail)
       go_cut [15, 18] (fun v15 v18 wc => ∃ (kq : Nat) (x15_59 : Int) (x18_59 : Int), v15 = .int .i64 x15_59 ∧ v18 = .int .i64 x18_59 ∧ Aside0 (sW.j3 kq a1 l3 ((rd_T62 l0_2 a1).f1) t232 t235 x14_1 x15_59 x16_1 x17_1 x18_59 a0_0 l0_1 l0_2 x241000_1 x241001_1 t237 t239 = some (r1, r2, r3, r4, r5)) ∧ Aside0 (kq ≤ kj47) ∧ Aside0 (Kd.R (Kd.int .i64) 3 wc w.heap.size (fun k_ => some k_ ≠ (u241000 : Value).ownBlock ∧ some k_ ≠ (u241001 : Value).ownBlock) u16 x16_1) ∧ Aside0 (Kd.R (Kd.int .i64) 3 wc w.heap.size (fun k_ => some k_ ≠ (u16 : Value).ownBlock ∧ some k_ ≠ (u241001 : Value).ownBlock) u241000 x241000_1) ∧ Aside0 (Kd.R (Kd.int .i64) 3 wc w.heap.size (fun k_ => some k_ ≠ (u16 : Value).ownBlock ∧ some k_ ≠ (u241000 : Value).ownBlock) u241001 x241001_1) ∧ Aside0 (wc.heap[gb228]? = some (.cells #[.int .i64 a0_0, (.slice A0_1 l0_1.length c0_1), (.slice (some ad231) l0_2.length c0_2)] 27 (0, 0))) ∧ Aside0 (wc.heap[gb229]? = some (.cells #[.int .i64 a2_0, .int .i64 a2_1] 43 (0, 0))) ∧ Aside0 (wc.heap[gb230]? = some (.cells #[(.slice none 0 0), (.slice none 0 0), .int .i64 0, .int .i64 0] 30 (0, 0))) ∧ Aside0 (wc.heap[gb240]? = some (.cells #[u241000, u241001, .int .i64 t237, .int .i64 t239] 30 (0, 0))) ∧ Aside0 (Below w.heap.size w wc))
       case first => as_aux_lemma =>
        have H := HC60.out
        clear HC60
        by_cases c61 : x91_47 = true
        rotate_left
        ·replace c61 := Bool.eq_false_iff.mpr c61
         subst c61
         have H1 : (sW.j3 kj47 a1 l3 ((rd_T62 l0_2 a1).f1) t232 t235 x14_1 x15_1 x16_1 x17_1 (rd ((rd_T62 l0_2 a1).f1) x17_1) a0_0 l0_1 l0_2 x241000_1 x241001_1 t237 t239) = some (r1, r2, r3, r4, r5) := by rw [if_neg (show ¬ (false = true) by decide)] at H; exact H
         clear H
         have H := H1
         clear H1
         have H' := aS H
         clear H
         go_wp2
         go_meet
         case rel => exact ⟨_, (x15_1), ((rd ((rd_T62 l0_2 a1).f1) x17_1)), TT, TT, H', ⟨by have := HK1.out; have := HJ30.out; have := HJ47.out; first | omega | exact Nat.le_refl _⟩, ⟨TRo HO_16.out⟩, ⟨TRo HO_241000.out⟩, ⟨TRo HO_241001.out⟩, ⟨TK BK228.out⟩, ⟨TK BK229.out⟩, ⟨TK BK230.out⟩, ⟨TK BK240.out⟩, ⟨by repeat (first | (with_reducible first | exact HB.out | apply below_alloc | apply pw_below_drewN | apply below_drew1 | refine below_set ?_ GE228.out | refine below_set ?_ GE229.out | refine below_set ?_ GE230.out | refine below_set ?_ GE240.out) | exact HB.out)⟩⟩
        subst c61
        have H1 : ((saronref00_Nth.f l3 (wrap64 (x17_1 + 2))).bind fun t246 => ((saronref00_Turn.f t246 2).bind fun t247 => (sW.j3 kj47 a1 l3 ((rd_T62 l0_2 a1).f1) t232 t235 x14_1 (wrap64 (x15_1 + 1)) x16_1 x17_1 (mx 0 (mn 6 (wrap64 ((wrap64 ((rd ((rd_T62 l0_2 a1).f1) x17_1) + 1)) - (wrap64 (2 * t247)))))) a0_0 l0_1 l0_2 x241000_1 x241001_1 t237 t239))) = some (r1, r2, r3, r4, r5) := by rw [if_pos rfl] at H; exact H
        clear H
        have H := H1
        clear H1
        replace H := Option.bind_eq_some_iff.mp H
        obtain ⟨t246, A620, H⟩ := H
        replace H : ((saronref00_Turn.f t246 2).bind fun t247 => (sW.j3 kj47 a1 l3 ((rd_T62 l0_2 a1).f1) t232 t235 x14_1 (wrap64 (x15_1 + 1)) x16_1 x17_1 (mx 0 (mn 6 (wrap64 ((wrap64 ((rd ((rd_T62 l0_2 a1).f1) x17_1) + 1)) - (wrap64 (2 * t247)))))) a0_0 l0_1 l0_2 x241000_1 x241001_1 t237 t239)) = some (r1, r2, r3, r4, r5) := H
        have A62 := aS A620
        clear A620
        replace H := Option.bind_eq_some_iff.mp H
        obtain ⟨t247, A630, H⟩ := H
        replace H : (sW.j3 kj47 a1 l3 ((rd_T62 l0_2 a1).f1) t232 t235 x14_1 (wrap64 (x15_1 + 1)) x16_1 x17_1 (mx 0 (mn 6 (wrap64 ((wrap64 ((rd ((rd_T62 l0_2 a1).f1) x17_1) + 1)) - (wrap64 (2 * t247)))))) a0_0 l0_1 l0_2 x241000_1 x241001_1 t237 t239) = some (r1, r2, r3, r4, r5) := H
        have A63 := aS A630
        clear A630
        obtain ⟨ji64, hji64⟩ : ∃ j_ : Int, (mn 6 (wrap64 ((wrap64 ((rd ((rd_T62 l0_2 a1).f1) x17_1) + 1)) - (wrap64 (2 * t247))))) = j_ := ⟨_, rfl⟩
        replace H : (sW.j3 kj47 a1 l3 ((rd_T62 l0_2 a1).f1) t232 t235 x14_1 (wrap64 (x15_1 + 1)) x16_1 x17_1 (mx 0 (ji64)) a0_0 l0_1 l0_2 x241000_1 x241001_1 t237 t239) = some (r1, r2, r3, r4, r5) := by first | (rw [hji64] at H; exact H) | (simp only [hji64] at H ⊢; exact H)
        (try rw [hji64] at A62)
        (try rw [hji64] at A63)
        have hji64_ : (if (wrap64 ((wrap64 ((rd ((rd_T62 l0_2 a1).f1) x17_1) + 1)) - (wrap64 (2 * t247)))) < 6 then (wrap64 ((wrap64 ((rd ((rd_T62 l0_2 a1).f1) x17_1) + 1)) - (wrap64 (2 * t247)))) else 6) = ji64 := hji64
        obtain ⟨ji65, hji65⟩ : ∃ j_ : Int, (mx 0 (ji64)) = j_ := ⟨_, rfl⟩
        replace H : (sW.j3 kj47 a1 l3 ((rd_T62 l0_2 a1).f1) t232 t235 x14_1 (wrap64 (x15_1 + 1)) x16_1 x17_1 ji65 a0_0 l0_1 l0_2 x241000_1 x241001_1 t237 t239) = some (r1, r2, r3, r4, r5) := by first | (rw [hji65] at H; exact H) | (simp only [hji65] at H ⊢; exact H)
        (try rw [hji65] at A62)
        (try rw [hji65] at A63)
        have hji65_ : (if 0 < (ji64) then (ji64) else 0) = ji65 := hji65
        have H' := aS H
        clear H
        go_wp2_with (first | ((with_reducible refine gate_callee (f := 76) rfl ?_); refine goesL_ (some 99) rfl rfl Tryd.func76 (by kernel_rfl) rfl #[.slice A3 l3.length c3, .int .i64 (wrap64 (x17_1 + 2))] rfl TM ?_; (with_reducible refine (saronref00_Nth.calls _ _ l3 (wrap64 (x17_1 + 2)) t246 _ ?side1 ?side2 A62.out).mono ?_); (case side1 => exact TC HR3.out); (case side2 => exact HC3.out); rintro e w' ⟨rfl, ⟨nd, rfl⟩⟩; refine ⟨_, rfl, ?_⟩) | ((with_reducible refine gate_callee (f := 37) rfl ?_); refine goesL_ (some 100) rfl rfl Tryd.func37 (by kernel_rfl) rfl #[.int .i64 t246, .int .i64 2] rfl TM ?_; (with_reducible refine (saronref00_Turn.calls t246 2 t247 _ A63.out).mono ?_); rintro e w' ⟨rfl, ⟨nd, rfl⟩⟩; refine ⟨_, rfl, ?_⟩))
        go_meet
        case rel => exact ⟨_, (wrap64 (x15_1 + 1)), (ji65), TT, (by first | rfl | (simp; done) | (simp only [← hji65] <;> (first | rfl | simp)) | (simp [*]; done)), H', ⟨by have := HK1.out; have := HJ30.out; have := HJ47.out; first | omega | exact Nat.le_refl _⟩, ⟨TRo HO_16.out⟩, ⟨TRo HO_241000.out⟩, ⟨TRo HO_241001.out⟩, ⟨TK BK228.out⟩, ⟨TK BK229.out⟩, ⟨TK BK230.out⟩, ⟨TK BK240.out⟩, ⟨by repeat (first | (with_reducible first | exact HB.out | apply below_alloc | apply pw_below_drewN | apply below_drew1 | refine below_set ?_ GE228.out | refine below_set ?_ GE229.out | refine below_set ?_ GE230.out | refine below_set ?_ GE240.out) | exact HB.out)⟩⟩
       case rest => as_aux_lemma =>
        clear HC60
        try clear c1
        try clear c2
        try clear p2
        try clear q2
        try clear hx2
        try clear c3
        try clear c4
        try clear c5
        try clear c5b0
        try clear c6
        try clear c6b0
        try clear p6
        try clear c7
        try clear c17
        try clear c18
        try clear c20
        try clear c23
        try clear p23
        try clear q23
        try clear hx23
        try clear p24
        try clear q24
        try clear hx24
        try clear c26
        try clear c27
        try clear c28
        try clear c30
        try clear c30b0
        try clear c32
        try clear c32b0
        try clear c33
        try clear c33b0
        try clear c34
        try clear c34b0
        try clear c37
        try clear c38
        try clear c39
        try clear c41
        try clear c42
        try clear c43
        try clear c45
        try clear c46
        try clear c46b0
        try clear c47
        try clear c47b0
        try clear c49
        try clear c49b0
        try clear c52
        try clear c53
        try clear c54
        try clear c56
        try clear c57
        try clear c58
        try clear c61
        try clear p64
        try clear hcz19_0 hcz19_1 hcz19_2
        try clear hcz21_0 hcz21_1
        try clear hcz29_0 hcz29_1 hcz29_2 hcz29_3
        try clear hcz40_0 hcz40_1 hcz40_2 hcz40_3
        try clear hcz44_0 hcz44_1 hcz44_2 hcz44_3
        try clear hcz55_0 hcz55_1 hcz55_2 hcz55_3
        try clear hcz59_0 hcz59_1 hcz59_2 hcz59_3
        try clear hfz19_0 hfz19_1 hfz19_2
        try clear hfz21_0 hfz21_1
        try clear hfz29_0 hfz29_1 hfz29_2 hfz29_3
        try clear hfz40_0 hfz40_1 hfz40_2 hfz40_3
        try clear hfz44_0 hfz44_1 hfz44_2 hfz44_3
        try clear hfz55_0 hfz55_1 hfz55_2 hfz55_3
        try clear hfz59_0 hfz59_1 hfz59_2 hfz59_3
        try clear hx231_0
        try clear hx231_1
        try clear hx243_0
        try clear p2
        try clear p23
        try clear p231
        try clear p24
        try clear p243
        try clear p6
        try clear q2
        try clear q23
        try clear q231
        try clear q24
        try clear q243
        try clear HO_16
        try clear HO_241000
        try clear HO_241001
        try clear BK228
        try clear BK229
        try clear BK230
        try clear BK240
        try clear HB
        obtain ⟨kq, x15_59, x18_59, rfl, rfl, HA, HJ59, HO_16, HO_241000, HO_241001, BK228, BK229, BK230, BK240, HB⟩ := hcut
        cases kq with
        | zero => exact absurd HA.out (by simp [sW.j3])
        | succ kj59 =>
         have H := HA.out
         clear HA
         simp only [sW.j3] at H
         by_cases c66 : 0 ≤ a1
         rotate_left
         ·rw [if_neg c66] at H
          exact absurd H (by simp)
         as_aux_lemma =>
         rw [if_pos c66] at H
         have c66b0 : decide (0 ≤ a1) = true := decide_eq_true c66
         clear c66
         by_cases c67 : a1 < (l0_2.length : Int)
         rotate_left
         ·rw [if_neg c67] at H
          exact absurd H (by simp)
         as_aux_lemma =>
         rw [if_pos c67] at H
         have c67b0 : decide (a1 < (l0_2.length : Int)) = true := decide_eq_true c67
         clear c67
         replace H := Option.bind_eq_some_iff.mp H
         obtain ⟨⟨t249, t252⟩, A680, H⟩ := H
         replace H : ((saronref00_Where.f kj59 t249 0).bind fun t253 => (if t253 ≥ 0 then ((saronref00_Nth.f l3 (wrap64 (x17_1 + 3))).bind fun t254 => ((saronref00_Turn.f t254 2).bind fun t255 => (if t255 = 0 then (if x241001_1.length < 17592186044416 then (if x241000_1.length < 17592186044416 then (if x16_1.length < 17592186044416 then (sW.l0 kj59 a1 l3 ((rd_T62 l0_2 a1).f1) t232 t235 x14_1 x15_59 (x16_1 ++ [x17_1]) (wrap64 (x17_1 + 1)) a0_0 l0_1 l0_2 (x241000_1 ++ [x18_59]) (x241001_1 ++ [(x241000_1.length : Int)]) t237 t239) else (none)) else (none)) else (none)) else (if x241000_1.length < 17592186044416 then (if x16_1.length < 17592186044416 then (sW.l0 kj59 a1 l3 ((rd_T62 l0_2 a1).f1) t232 t235 x14_1 x15_59 (x16_1 ++ [x17_1]) (wrap64 (x17_1 + 1)) a0_0 l0_1 l0_2 (x241000_1 ++ [x18_59]) x241001_1 t237 t239) else (none)) else (none))))) else (if x241000_1.length < 17592186044416 then (if x16_1.length < 17592186044416 then (sW.l0 kj59 a1 l3 ((rd_T62 l0_2 a1).f1) t232 t235 x14_1 x15_59 (x16_1 ++ [x17_1]) (wrap64 (x17_1 + 1)) a0_0 l0_1 l0_2 (x241000_1 ++ [x18_59]) x241001_1 t237 t239) else (none)) else (none)))) = some (r1, r2, r3, r4, r5) := H
         have A68 := aS A680
         clear A680
         replace H := Option.bind_eq_some_iff.mp H
         obtain ⟨t253, A690, H⟩ := H
         replace H : (if t253 ≥ 0 then ((saronref00_Nth.f l3 (wrap64 (x17_1 + 3))).bind fun t254 => ((saronref00_Turn.f t254 2).bind fun t255 => (if t255 = 0 then (if x241001_1.length < 17592186044416 then (if x241000_1.length < 17592186044416 then (if x16_1.length < 17592186044416 then (sW.l0 kj59 a1 l3 ((rd_T62 l0_2 a1).f1) t232 t235 x14_1 x15_59 (x16_1 ++ [x17_1]) (wrap64 (x17_1 + 1)) a0_0 l0_1 l0_2 (x241000_1 ++ [x18_59]) (x241001_1 ++ [(x241000_1.length : Int)]) t237 t239) else (none)) else (none)) else (none)) else (if x241000_1.length < 17592186044416 then (if x16_1.length < 17592186044416 then (sW.l0 kj59 a1 l3 ((rd_T62 l0_2 a1).f1) t232 t235 x14_1 x15_59 (x16_1 ++ [x17_1]) (wrap64 (x17_1 + 1)) a0_0 l0_1 l0_2 (x241000_1 ++ [x18_59]) x241001_1 t237 t239) else (none)) else (none))))) else (if x241000_1.length < 17592186044416 then (if x16_1.length < 17592186044416 then (sW.l0 kj59 a1 l3 ((rd_T62 l0_2 a1).f1) t232 t235 x14_1 x15_59 (x16_1 ++ [x17_1]) (wrap64 (x17_1 + 1)) a0_0 l0_1 l0_2 (x241000_1 ++ [x18_59]) x241001_1 t237 t239) else (none)) else (none))) = some (r1, r2, r3, r4, r5) := H
         have A69 := aS A690
         clear A690
         by_cases c70 : t253 ≥ 0
         rotate_left
         ·as_aux_lemma =>
          rw [if_neg c70] at H
          have c70b0 : decide (0 ≤ t253) = false := decide_eq_false c70
          clear c70
          by_cases c105 : x241000_1.length < 17592186044416
          rotate_left
          ·rw [if_neg c105] at H
           exact absurd H (by simp)
          as_aux_lemma =>
          rw [if_pos c105] at H
          have LMc105 := aS c105
          clear c105
          obtain ⟨y271, hy271⟩ : ∃ y_ : List Int, y_ = (x241000_1 ++ [x18_59]) := ⟨_, rfl⟩
          replace H : (if x16_1.length < 17592186044416 then (sW.l0 kj59 a1 l3 ((rd_T62 l0_2 a1).f1) t232 t235 x14_1 x15_59 (x16_1 ++ [x17_1]) (wrap64 (x17_1 + 1)) a0_0 l0_1 l0_2 y271 x241001_1 t237 t239) else (none)) = some (r1, r2, r3, r4, r5) := by first | (rw [hy271]; with_reducible exact H) | (have H2_ := (Option.bind_some _ _).symm.trans H; rw [hy271]; with_reducible exact H2_) | (have H2_ := (Option.bind_some _ _).symm.trans H; with_reducible exact H2_) | with_reducible exact H | (rw [hy271]; exact H) | exact H
          have Ny271 := aS hy271
          clear hy271
          by_cases c106 : x16_1.length < 17592186044416
          rotate_left
          ·rw [if_neg c106] at H
           exact absurd H (by simp)
          as_aux_lemma =>
          rw [if_pos c106] at H
          have LMc106 := aS c106
          clear c106
          obtain ⟨y274, hy274⟩ : ∃ y_ : List Int, y_ = (x16_1 ++ [x17_1]) := ⟨_, rfl⟩
          replace H : (sW.l0 kj59 a1 l3 ((rd_T62 l0_2 a1).f1) t232 t235 x14_1 x15_59 y274 (wrap64 (x17_1 + 1)) a0_0 l0_1 l0_2 y271 x241001_1 t237 t239) = some (r1, r2, r3, r4, r5) := by first | (rw [hy274]; with_reducible exact H) | (have H2_ := (Option.bind_some _ _).symm.trans H; rw [hy274]; with_reducible exact H2_) | (have H2_ := (Option.bind_some _ _).symm.trans H; with_reducible exact H2_) | with_reducible exact H | (rw [hy274]; exact H) | exact H
          have Ny274 := aS hy274
          clear hy274
          have H' := aS H
          clear H
          try go_wp2
          have n0_ := aS (Kd.R_drew HO_16.out)
          have n1_ := aS (Kd.R_drew HO_241000.out)
          have n2_ := aS (Kd.R_drew HO_241001.out)
          have n3_ := aS (blk_drew BK228.out)
          have n4_ := aS (blk_drew BK229.out)
          have n5_ := aS (blk_drew BK230.out)
          have n6_ := aS (blk_drew BK240.out)
          have n7_ := aS (below_drew1 HB.out)
          clear HO_16
          clear HO_241000
          clear HO_241001
          clear BK228
          clear BK229
          clear BK230
          clear BK240
          clear HB
          have HO_16 := n0_
          have HO_241000 := n1_
          have HO_241001 := n2_
          have BK228 := n3_
          have BK229 := n4_
          have BK230 := n5_
          have BK240 := n6_
          have HB := n7_
          clear n0_ n1_ n2_ n3_ n4_ n5_ n6_ n7_
          have p248 : 0 ≤ (a1 : Int) := of_decide_eq_true TA
          have q248 : a1 < (l0_2.length : Int) := of_decide_eq_true TA
          obtain ⟨ad248, A248_1, c248_1, e248, hx248_0, hx248_1, hl248_1, hi248_1⟩ := at_T62 HR0_2.out a1 p248 q248
          have hw248_1 := hx248_1
          have hw248_0 := hx248_0
          obtain rfl : ad231 = ad248 := (by injection e248)
          replace hx248_0 := (HB.out.cell  (World.block_lt_of_cell? w _ hx248_0)).trans hx248_0
          replace hx248_1 := (HB.out.cell  (World.block_lt_of_cell? w _ hx248_1)).trans hx248_1
          have HR248_1 := aS hi248_1
          have HC248_1 := aS hl248_1
          clear hi248_1 hl248_1
          replace p248 := eq_true p248
          replace q248 := eq_true q248
          refine start_ (n := 15) (S := fun w' => w'.cell? ⟨gb228, 0, none⟩ = some (.int .i64 a0_0) ∧ w'.cell? ⟨gb228, 1, none⟩ = some (.slice A0_1 l0_1.length c0_1) ∧ w'.cell? ⟨gb228, 2, none⟩ = some (.slice (some ad231) l0_2.length c0_2) ∧ w'.cell? (ad231.add ((a1).toNat * 2)) = some (.int .i64 ((rd_T62 l0_2 a1).f0)) ∧ w'.cell? ⟨(ad231.add ((a1).toNat * 2)).block, (ad231.add ((a1).toNat * 2)).off + 1, none⟩ = some (.slice A248_1 ((rd_T62 l0_2 a1).f1).length c248_1)) (ds := []) (.replicate 15 false) (by kernel_rfl) rfl rfl ⟨czz BK228.out 0, czz BK228.out 1, czz BK228.out 2, ((HB.out.cell  (World.block_lt_of_cell? w _ hw248_0)).trans hw248_0), ((HB.out.cell  (World.block_lt_of_cell? w _ hw248_1)).trans hw248_1)⟩ (fun hHeld => ?_); refine with_tabW sW.tab16 sW.bits16 (fun HT_ HW_ => ?_)
          generalize wc.drew = w107 at HO_16 HO_241000 HO_241001 BK228 BK229 BK230 BK240 HB HR248_1 hx248_0 hx248_1 hHeld ⊢
          refine pT 0 106 (bt 15 1) (k := ?_)
          refine pT 2 108 (bt 15 5) (k := ?_)
          refine pT 4 110 (bt 15 21) (k := ?_)
          refine pT 8 114 (bt 15 277) (k := ?_)
          refine tT5 1 107 (bt 15 279) hHeld (k := ?_)
          refine tT5 3 109 (bt 15 287) hHeld (k := ?_)
          refine pT 5 111 (bt 15 319) (k := ?_)
          refine pT 6 112 (bt 15 383) (k := ?_)
          refine tT5 7 113 (bt 15 511) hHeld (k := ?_)
          refine one_ (i := 9) (N := some 115) (bt 15 1023) rfl rfl (one_of HT_.out (by kernel_rfl)) (by decide) (fun K hK => ?_)
          refine goes_ Tryd.func43 (by kernel_rfl) rfl #[.agg #[.int .i64 a0_0, .slice A0_1 l0_1.length c0_1], .int .i64 ((rd_T62 l0_2 a1).f0), .int .i64 x17_1] (by rfl) rfl rfl TM ?_
          with_reducible refine (cycle_Struck.calls a0_0 _ _ l0_1 ((rd_T62 l0_2 a1).f0) x17_1 t249 t252 _ ?side1 ?side2 ?side3 A68.out).mono ?_
          (case side1 => exact TC HR0_1.out)
          (case side2 => exact HC0_1.out)
          (case side3 => exact Glob.fr HG.out (Fr.of_below (by repeat (first | (with_reducible first | exact HB.out | apply below_alloc | apply pw_below_drewN | apply below_drew1 | refine below_set ?_ GE228.out | refine below_set ?_ GE229.out | refine below_set ?_ GE230.out | refine below_set ?_ GE240.out) | exact HB.out))))
          rintro e w108 ⟨v250, rfl, ho0, hb⟩
          refine ⟨_, rfl, ?_⟩
          have n0_ := aS (Kd.R_below (TRo HO_16.out) hb)
          have n1_ := aS (Kd.R_below (TRo HO_241000.out) hb)
          have n2_ := aS (Kd.R_below (TRo HO_241001.out) hb)
          have n3_ := aS (Kd.V_lower (Kd.V_mono (ok' := fun k_ => some k_ ≠ (u16 : Value).ownBlock ∧ some k_ ≠ (u241000 : Value).ownBlock ∧ some k_ ≠ (u241001 : Value).ownBlock ∧ k_ ≠ gb228 ∧ k_ ≠ gb229 ∧ k_ ≠ gb230 ∧ k_ ≠ gb240) ho0 (fun k_ hk_ => ⟨(Kd.fresh' (Kd.R_lt (TRo HO_16.out)) k_ hk_), (Kd.fresh' (Kd.R_lt (TRo HO_241000.out)) k_ hk_), (Kd.fresh' (Kd.R_lt (TRo HO_241001.out)) k_ hk_), (Kd.freshB (g := gb228) (o := .cells #[.int .i64 a0_0, .slice A0_1 l0_1.length c0_1, .slice (some ad231) l0_2.length c0_2] 27 (0, 0)) (TK BK228.out) k_ hk_), (Kd.freshB (g := gb229) (o := .cells #[.int .i64 a2_0, .int .i64 a2_1] 43 (0, 0)) (TK BK229.out) k_ hk_), (Kd.freshB (g := gb230) (o := .cells #[.slice none 0 0, .slice none 0 0, .int .i64 0, .int .i64 0] 30 (0, 0)) (TK BK230.out) k_ hk_), (Kd.freshB (g := gb240) (o := .cells #[u241000, u241001, .int .i64 t237, .int .i64 t239] 30 (0, 0)) (TK BK240.out) k_ hk_)⟩)) (below_size (by repeat (first | (with_reducible first | exact HB.out | apply below_alloc | apply pw_below_drewN | apply below_drew1 | refine below_set ?_ GE228.out | refine below_set ?_ GE229.out | refine below_set ?_ GE230.out | refine below_set ?_ GE240.out) | exact HB.out))))
          have n4_ := aS (blk_below (g := gb228) (o := .cells #[.int .i64 a0_0, .slice A0_1 l0_1.length c0_1, .slice (some ad231) l0_2.length c0_2] 27 (0, 0)) (TK BK228.out) hb)
          have n5_ := aS (blk_below (g := gb229) (o := .cells #[.int .i64 a2_0, .int .i64 a2_1] 43 (0, 0)) (TK BK229.out) hb)
          have n6_ := aS (blk_below (g := gb230) (o := .cells #[.slice none 0 0, .slice none 0 0, .int .i64 0, .int .i64 0] 30 (0, 0)) (TK BK230.out) hb)
          have n7_ := aS (blk_below (g := gb240) (o := .cells #[u241000, u241001, .int .i64 t237, .int .i64 t239] 30 (0, 0)) (TK BK240.out) hb)
          have n8_ := aS (below_step (by repeat (first | (with_reducible first | exact HB.out | apply below_alloc | apply pw_below_drewN | apply below_drew1 | refine below_set ?_ GE228.out | refine below_set ?_ GE229.out | refine below_set ?_ GE230.out | refine below_set ?_ GE240.out) | exact HB.out)) hb)
          clear HO_16
          clear HO_241000
          clear HO_241001
          clear BK228
          clear BK229
          clear BK230
          clear BK240
          clear HB
          have HO_16 := n0_
          have HO_241000 := n1_
          have HO_241001 := n2_
          have HO251 := n3_
          have BK228 := n4_
          have BK229 := n5_
          have BK230 := n6_
          have BK240 := n7_
          have HB := n8_
          clear n0_ n1_ n2_ n3_ n4_ n5_ n6_ n7_ n8_
          (try clear hb)
          (try clear hb2)
          (try clear hk)
          (try clear hi)
          (try clear ho0)
          refine hK.out _ _ ⟨czz BK228.out 0, czz BK228.out 1, czz BK228.out 2, ((HB.out.cell  (World.block_lt_of_cell? w _ hw248_0)).trans hw248_0), ((HB.out.cell  (World.block_lt_of_cell? w _ hw248_1)).trans hw248_1)⟩ (fun hHeld => ?_)
          clear hK K
          refine norm_ (a' := ?_) ?_ ?_
          rotate_left
          ·show Act.put _ (some 115) _ = _
           simp only [Act.put, lA, lZ, lS, i64_w, i32_w]
           rfl
          refine pT 10 105 (bt 15 2047) (k := ?_)
          refine pT 11 116 (bt 15 4095) (k := ?_)
          refine pT 12 117 (bt 15 8191) (k := ?_)
          refine pT 13 19 (bt 15 16383) (k := ?_)
          refine pT 14 20 (bt 15 32767) (k := ?_)
          refine done_ (done_of HT_.out (by kernel_rfl)) ?_
          obtain ⟨Ao109, co109, eo109⟩ := Kd.V_slice HO251.out
          subst eo109
          try go_wp2_with (first | ((with_reducible refine gate_callee (f := 39) rfl ?_); refine goesL_ (some 119) rfl rfl Tryd.func39 (by kernel_rfl) rfl #[.slice Ao109 t249.length co109, .int .i64 0] rfl TM ?_; (with_reducible refine (saronref00_Where.calls kj59 _ _ t249 0 t253 _ ?side1 ?side2 A69.out).mono ?_); (case side1 => repeat (first | exact (Kd.V_reads' HO251.out).2.2 | (with_reducible refine Kd.C_alloc ?_ _) | (with_reducible refine Kd.C_drewN ?_ _) | (with_reducible refine Kd.C_drew ?_))); (case side2 => exact (Kd.V_reads' HO251.out).2.1); rintro e w' ⟨rfl, ⟨nd, rfl⟩⟩; refine ⟨_, rfl, ?_⟩; (try (rw [drewN_self w108]; generalize hq_ : World.drewN w108 _ = w108; have n0_ : Aside0 (Kd.V (Kd.int .i64) 3 w108 w.heap.size (fun k_ => some k_ ≠ (u16 : Value).ownBlock ∧ some k_ ≠ (u241000 : Value).ownBlock ∧ some k_ ≠ (u241001 : Value).ownBlock ∧ k_ ≠ gb228 ∧ k_ ≠ gb229 ∧ k_ ≠ gb230 ∧ k_ ≠ gb240) (.slice Ao109 t249.length co109) t249) := ⟨by rw [← hq_]; exact (by (with_reducible repeat (first | apply Kd.V_alloc | apply Kd.V_drewN | apply Kd.V_drew)); exact HO251.out)⟩; have n1_ : Aside0 (Kd.R (Kd.int .i64) 3 w108 w.heap.size (fun k_ => some k_ ≠ (u241000 : Value).ownBlock ∧ some k_ ≠ (u241001 : Value).ownBlock) u16 x16_1) := ⟨by rw [← hq_]; exact (TRo HO_16.out)⟩; have n2_ : Aside0 (Kd.R (Kd.int .i64) 3 w108 w.heap.size (fun k_ => some k_ ≠ (u16 : Value).ownBlock ∧ some k_ ≠ (u241001 : Value).ownBlock) u241000 x241000_1) := ⟨by rw [← hq_]; exact (TRo HO_241000.out)⟩; have n3_ : Aside0 (Kd.R (Kd.int .i64) 3 w108 w.heap.size (fun k_ => some k_ ≠ (u16 : Value).ownBlock ∧ some k_ ≠ (u241000 : Value).ownBlock) u241001 x241001_1) := ⟨by rw [← hq_]; exact (TRo HO_241001.out)⟩; have n4_ : Aside0 (w108.heap[gb228]? = some (.cells #[.int .i64 a0_0, .slice A0_1 l0_1.length c0_1, .slice (some ad231) l0_2.length c0_2] 27 (0, 0))) := ⟨by rw [← hq_]; exact (TK BK228.out)⟩; have n5_ : Aside0 (w108.heap[gb229]? = some (.cells #[.int .i64 a2_0, .int .i64 a2_1] 43 (0, 0))) := ⟨by rw [← hq_]; exact (TK BK229.out)⟩; have n6_ : Aside0 (w108.heap[gb230]? = some (.cells #[.slice none 0 0, .slice none 0 0, .int .i64 0, .int .i64 0] 30 (0, 0))) := ⟨by rw [← hq_]; exact (TK BK230.out)⟩; have n7_ : Aside0 (w108.heap[gb240]? = some (.cells #[u241000, u241001, .int .i64 t237, .int .i64 t239] 30 (0, 0))) := ⟨by rw [← hq_]; exact (TK BK240.out)⟩; have n8_ : Aside0 (Below w.heap.size w w108) := ⟨by rw [← hq_]; exact (by repeat (first | (with_reducible first | exact HB.out | apply below_alloc | apply pw_below_drewN | apply below_drew1 | refine below_set ?_ GE228.out | refine below_set ?_ GE229.out | refine below_set ?_ GE230.out | refine below_set ?_ GE240.out) | exact HB.out))⟩; clear HO251 HO_16 HO_241000 HO_241001 BK228 BK229 BK230 BK240 HB hq_; have HO251 := n0_; have HO_16 := n1_; have HO_241000 := n2_; have HO_241001 := n3_; have BK228 := n4_; have BK229 := n5_; have BK230 := n6_; have BK240 := n7_; have HB := n8_; clear n0_ n1_ n2_ n3_ n4_ n5_ n6_ n7_ n8_)); have hczq228_0 : w108.cell? ⟨gb228, 0, none⟩ = some (.int .i64 a0_0) := czz BK228.out 0; have hfzq228_0 := fz BK228.out 0; have hczq228_1 : w108.cell? ⟨gb228, 1, none⟩ = some (.slice A0_1 l0_1.length c0_1) := czz BK228.out 1; have hfzq228_1 := fz BK228.out 1; have hczq228_2 : w108.cell? ⟨gb228, 2, none⟩ = some (.slice (some ad231) l0_2.length c0_2) := czz BK228.out 2; have hfzq228_2 := fz BK228.out 2; have hczq229_0 : w108.cell? ⟨gb229, 0, none⟩ = some (.int .i64 a2_0) := czz BK229.out 0; have hfzq229_0 := fz BK229.out 0; have hczq229_1 : w108.cell? ⟨gb229, 1, none⟩ = some (.int .i64 a2_1) := czz BK229.out 1; have hfzq229_1 := fz BK229.out 1; have hczq230_0 : w108.cell? ⟨gb230, 0, none⟩ = some (.slice none 0 0) := czz BK230.out 0; have hfzq230_0 := fz BK230.out 0; have hczq230_1 : w108.cell? ⟨gb230, 1, none⟩ = some (.slice none 0 0) := czz BK230.out 1; have hfzq230_1 := fz BK230.out 1; have hczq230_2 : w108.cell? ⟨gb230, 2, none⟩ = some (.int .i64 0) := czz BK230.out 2; have hfzq230_2 := fz BK230.out 2; have hczq230_3 : w108.cell? ⟨gb230, 3, none⟩ = some (.int .i64 0) := czz BK230.out 3; have hfzq230_3 := fz BK230.out 3; have hczq240_0 : w108.cell? ⟨gb240, 0, none⟩ = some (u241000) := czz BK240.out 0; have hfzq240_0 := fz BK240.out 0; have hczq240_1 : w108.cell? ⟨gb240, 1, none⟩ = some (u241001) := czz BK240.out 1; have hfzq240_1 := fz BK240.out 1; have hczq240_2 : w108.cell? ⟨gb240, 2, none⟩ = some (.int .i64 t237) := czz BK240.out 2; have hfzq240_2 := fz BK240.out 2; have hczq240_3 : w108.cell? ⟨gb240, 3, none⟩ = some (.int .i64 t239) := czz BK240.out 3; have hfzq240_3 := fz BK240.out 3; have hnb110 := NB240_228.out; have hnc110 := NB228_240.out; have hnb111 := NB240_229.out; have hnc111 := NB229_240.out; have hnb112 := NB240_230.out; have hnc112 := NB230_240.out; have hcz113_0 := czz BK240.out 0; have hcz113_1 := czz BK240.out 1; have hcz113_2 := czz BK240.out 2; have hcz113_3 := czz BK240.out 3; have hfz113_0 := fz BK240.out 0; have hfz113_1 := fz BK240.out 1; have hfz113_2 := fz BK240.out 2; have hfz113_3 := fz BK240.out 3) | ((with_reducible refine gate_builtin (b := .append) (xs := #[.tmp 138, .tmp 140]) rfl ?_); at_builtin; refine Kd.R_append (Kd.int .i64) (w0 := w) w.heap.size rfl (.tmp 138) (.tmp 140) 28 3 (.int .i64 0) 8 rfl Tryd.underlying28 info3 rfl (by decide) (by omega) u241000 x241000_1 x18_59 [.int .i64 x18_59] (fun k_ => some k_ ≠ (u16 : Value).ownBlock ∧ some k_ ≠ (u241001 : Value).ownBlock) (fun _ => False) rfl rfl ?aP (fun _ hk => hk.elim) ?aF ?aO ?aB ?aS ?aL ?_; (case aP => exact rfl); (case aB => exact (by repeat (first | (with_reducible first | exact HB.out | apply below_alloc | apply pw_below_drewN | apply below_drew1 | refine below_set ?_ GE228.out | refine below_set ?_ GE229.out | refine below_set ?_ GE230.out | refine below_set ?_ GE240.out) | exact HB.out))); (case aF => exact (fun k_ hk => ⟨Kd.fresh' (Kd.R_lt (TRo HO_16.out)) k_ hk, Kd.fresh' (Kd.R_lt (TRo HO_241001.out)) k_ hk⟩)); (case aO => exact (TRo HO_241000.out)); (case aS => exact (below_size (by repeat (first | (with_reducible first | exact HB.out | apply below_alloc | apply pw_below_drewN | apply below_drew1 | refine below_set ?_ GE228.out | refine below_set ?_ GE229.out | refine below_set ?_ GE230.out | refine below_set ?_ GE240.out) | exact HB.out)))); (case aL => have := LMc105.out; omega); intro v272 w114 ho hb hg hat; rw [← Ny271.out] at ho; have HO273 := aS (ho); replace HO_16 := aS (Kd.R_after (ok := (fun k_ => some k_ ≠ (u241001 : Value).ownBlock)) (by (with_reducible repeat (first | apply Kd.R_alloc | apply Kd.R_drewN | apply Kd.R_drew)); exact Kd.R_mono HO_16.out (fun _ hk => ⟨hk.2, hk.1⟩)) hg hat); replace HO_241001 := aS (Kd.R_after (ok := (fun k_ => some k_ ≠ (u16 : Value).ownBlock)) (TRo HO_241001.out) hg hat); replace BK228 := aS (blk_grown (g := gb228) (o := .cells #[.int .i64 a0_0, .slice A0_1 l0_1.length c0_1, .slice (some ad231) l0_2.length c0_2] 27 (0, 0)) (TK BK228.out) hg (Kd.R_ne HO_241000.out BK228.out (by decide))); replace BK229 := aS (blk_grown (g := gb229) (o := .cells #[.int .i64 a2_0, .int .i64 a2_1] 43 (0, 0)) (TK BK229.out) hg (Kd.R_ne HO_241000.out BK229.out (by decide))); replace BK230 := aS (blk_grown (g := gb230) (o := .cells #[.slice none 0 0, .slice none 0 0, .int .i64 0, .int .i64 0] 30 (0, 0)) (TK BK230.out) hg (Kd.R_ne HO_241000.out BK230.out (by decide))); replace BK240 := aS (blk_grown (g := gb240) (o := .cells #[u241000, u241001, .int .i64 t237, .int .i64 t239] 30 (0, 0)) (TK BK240.out) hg (Kd.R_ne HO_241000.out BK240.out (by decide))); replace HO251 := aS (Kd.V_afterv (ok := (fun k_ => some k_ ≠ (u16 : Value).ownBlock ∧ some k_ ≠ (u241001 : Value).ownBlock ∧ k_ ≠ gb228 ∧ k_ ≠ gb229 ∧ k_ ≠ gb230 ∧ k_ ≠ gb240)) (by (with_reducible repeat (first | apply Kd.V_alloc | apply Kd.V_drewN | apply Kd.V_drew)); exact Kd.V_mono HO251.out (fun _ hk => ⟨⟨hk.1, ⟨hk.2.2.1, ⟨hk.2.2.2.1, ⟨hk.2.2.2.2.1, ⟨hk.2.2.2.2.2.1, hk.2.2.2.2.2.2⟩⟩⟩⟩⟩, hk.2.1⟩)) hg hat); replace HB := aS (hb); clear HO_241000; clear ho hb hg hat) | ((with_reducible refine gate_builtin (b := .append) (xs := #[.tmp 142, .tmp 144]) rfl ?_); at_builtin; refine Kd.R_append (Kd.int .i64) (w0 := w) w.heap.size rfl (.tmp 142) (.tmp 144) 28 3 (.int .i64 0) 8 rfl Tryd.underlying28 info3 rfl (by decide) (by omega) u16 x16_1 x17_1 [.int .i64 x17_1] (fun k_ => some k_ ≠ (u241001 : Value).ownBlock ∧ some k_ ≠ (v272 : Value).ownBlock) (fun _ => False) rfl rfl ?aP (fun _ hk => hk.elim) ?aF ?aO ?aB ?aS ?aL ?_; (case aP => exact rfl); (case aB => exact (by repeat (first | (with_reducible first | exact HB.out | apply below_alloc | apply pw_below_drewN | apply below_drew1 | refine below_set ?_ GE228.out | refine below_set ?_ GE229.out | refine below_set ?_ GE230.out | refine below_set ?_ GE240.out) | exact HB.out))); (case aF => exact (fun k_ hk => ⟨Kd.fresh' (Kd.R_lt (TRo HO_241001.out)) k_ hk, Kd.fresh' (Kd.R_lt (TRo HO273.out)) k_ hk⟩)); (case aO => exact (TRo HO_16.out)); (case aS => exact (below_size (by repeat (first | (with_reducible first | exact HB.out | apply below_alloc | apply pw_below_drewN | apply below_drew1 | refine below_set ?_ GE228.out | refine below_set ?_ GE229.out | refine below_set ?_ GE230.out | refine below_set ?_ GE240.out) | exact HB.out)))); (case aL => have := LMc106.out; omega); intro v275 w115 ho hb hg hat; rw [← Ny274.out] at ho; have HO276 := aS (ho); replace HO_241001 := aS (Kd.R_after (ok := (fun k_ => some k_ ≠ (v272 : Value).ownBlock)) (by (with_reducible repeat (first | apply Kd.R_alloc | apply Kd.R_drewN | apply Kd.R_drew)); exact Kd.R_mono HO_241001.out (fun _ hk => ⟨hk.2, hk.1⟩)) hg hat); replace BK228 := aS (blk_grown (g := gb228) (o := .cells #[.int .i64 a0_0, .slice A0_1 l0_1.length c0_1, .slice (some ad231) l0_2.length c0_2] 27 (0, 0)) (TK BK228.out) hg (Kd.R_ne HO_16.out BK228.out (by decide))); replace BK229 := aS (blk_grown (g := gb229) (o := .cells #[.int .i64 a2_0, .int .i64 a2_1] 43 (0, 0)) (TK BK229.out) hg (Kd.R_ne HO_16.out BK229.out (by decide))); replace BK230 := aS (blk_grown (g := gb230) (o := .cells #[.slice none 0 0, .slice none 0 0, .int .i64 0, .int .i64 0] 30 (0, 0)) (TK BK230.out) hg (Kd.R_ne HO_16.out BK230.out (by decide))); replace BK240 := aS (blk_grown (g := gb240) (o := .cells #[u241000, u241001, .int .i64 t237, .int .i64 t239] 30 (0, 0)) (TK BK240.out) hg (Kd.R_ne HO_16.out BK240.out (by decide))); replace HO251 := aS (Kd.V_afterv (ok := (fun k_ => some k_ ≠ (u241001 : Value).ownBlock ∧ some k_ ≠ (v272 : Value).ownBlock ∧ k_ ≠ gb228 ∧ k_ ≠ gb229 ∧ k_ ≠ gb230 ∧ k_ ≠ gb240)) (by (with_reducible repeat (first | apply Kd.V_alloc | apply Kd.V_drewN | apply Kd.V_drew)); exact Kd.V_mono HO251.out (fun _ hk => ⟨⟨hk.1.2.1, ⟨hk.2, ⟨hk.1.2.2.1, ⟨hk.1.2.2.2.1, ⟨hk.1.2.2.2.2.1, hk.1.2.2.2.2.2⟩⟩⟩⟩⟩, hk.1.1⟩)) hg hat); replace HO273 := aS (Kd.R_after (ok := (fun k_ => some k_ ≠ (u241001 : Value).ownBlock)) (by (with_reducible repeat (first | apply Kd.R_alloc | apply Kd.R_drewN | apply Kd.R_drew)); exact Kd.R_mono HO273.out (fun _ hk => ⟨hk.2, hk.1⟩)) hg hat); replace HB := aS (hb); clear HO_16; clear ho hb hg hat; obtain ⟨Ao116, co116, eo116⟩ := Kd.R_slice HO273.out; subst eo116; have hcz117_0 := czz BK240.out 0; have hcz117_1 := czz BK240.out 1; have hcz117_2 := czz BK240.out 2; have hcz117_3 := czz BK240.out 3; have hfz117_0 := fz BK240.out 0; have hfz117_1 := fz BK240.out 1; have hfz117_2 := fz BK240.out 2; have hfz117_3 := fz BK240.out 3))
          go_roundg kj59
          case measure => have := HK1.out; have := HJ30.out; have := HJ47.out; have := HJ59.out; omega
          case rel => exact ⟨(x14_1), (x15_59), (y274), (wrap64 (x17_1 + 1)), (y271), (x241001_1), (.slice Ao116 y271.length co116), (u241001), TT, TT, TT, H', ⟨by have := HK1.out; have := HJ30.out; have := HJ47.out; have := HJ59.out; omega⟩, ⟨by (with_reducible repeat (first | apply Kd.R_alloc | apply Kd.R_drewN | apply Kd.R_drew)); exact Kd.R_mono (Kd.R_far (p := ⟨gb240, 0, none⟩) (Kd.R_types HO276.out BK240.out (by decide)) (fun _ hk => hk.2) (.slice Ao116 y271.length co116)) (fun _ hk => ⟨hk.1.2, hk.1.1⟩)⟩, ⟨by (with_reducible repeat (first | apply Kd.R_alloc | apply Kd.R_drewN | apply Kd.R_drew)); exact Kd.R_mono (Kd.R_far (p := ⟨gb240, 0, none⟩) (Kd.R_types HO273.out BK240.out (by decide)) (fun _ hk => hk.2) (.slice Ao116 y271.length co116)) (fun _ hk => ⟨hk.1.2, hk.1.1⟩)⟩, ⟨by (with_reducible repeat (first | apply Kd.R_alloc | apply Kd.R_drewN | apply Kd.R_drew)); exact Kd.R_mono (Kd.R_far (p := ⟨gb240, 0, none⟩) (Kd.R_types HO_241001.out BK240.out (by decide)) (fun _ hk => hk.2) (.slice Ao116 y271.length co116)) (fun _ hk => ⟨hk.1.2, hk.1.1⟩)⟩, ⟨by (with_reducible repeat (first | refine blk_drewN ?_ _ | refine blk_drew ?_ | refine blk_alloc ?_ _)); refine blk_far ?_ NB228_240.out _; (with_reducible repeat (first | refine blk_drewN ?_ _ | refine blk_drew ?_ | refine blk_alloc ?_ _)); exact BK228.out⟩, ⟨by (with_reducible repeat (first | refine blk_drewN ?_ _ | refine blk_drew ?_ | refine blk_alloc ?_ _)); refine blk_far ?_ NB229_240.out _; (with_reducible repeat (first | refine blk_drewN ?_ _ | refine blk_drew ?_ | refine blk_alloc ?_ _)); exact BK229.out⟩, ⟨by (with_reducible repeat (first | refine blk_drewN ?_ _ | refine blk_drew ?_ | refine blk_alloc ?_ _)); refine blk_far ?_ NB230_240.out _; (with_reducible repeat (first | refine blk_drewN ?_ _ | refine blk_drew ?_ | refine blk_alloc ?_ _)); exact BK230.out⟩, ⟨by (with_reducible repeat (first | refine blk_drewN ?_ _ | refine blk_drew ?_ | refine blk_alloc ?_ _)); refine blk_put (cs := #[u241000, u241001, .int .i64 t237, .int .i64 t239]) ?_ 0 _ rfl; (with_reducible repeat (first | refine blk_drewN ?_ _ | refine blk_drew ?_ | refine blk_alloc ?_ _)); exact BK240.out⟩, ⟨by repeat (first | (with_reducible first | exact HB.out | apply below_alloc | apply pw_below_drewN | apply below_drew1 | refine below_set ?_ GE228.out | refine below_set ?_ GE229.out | refine below_set ?_ GE230.out | refine below_set ?_ GE240.out) | exact HB.out)⟩⟩
         as_aux_lemma =>
         rw [if_pos c70] at H
         have c70b0 : decide (0 ≤ t253) = true := decide_eq_true c70
         clear c70
         replace H := Option.bind_eq_some_iff.mp H
         obtain ⟨t254, A710, H⟩ := H
         replace H : ((saronref00_Turn.f t254 2).bind fun t255 => (if t255 = 0 then (if x241001_1.length < 17592186044416 then (if x241000_1.length < 17592186044416 then (if x16_1.length < 17592186044416 then (sW.l0 kj59 a1 l3 ((rd_T62 l0_2 a1).f1) t232 t235 x14_1 x15_59 (x16_1 ++ [x17_1]) (wrap64 (x17_1 + 1)) a0_0 l0_1 l0_2 (x241000_1 ++ [x18_59]) (x241001_1 ++ [(x241000_1.length : Int)]) t237 t239) else (none)) else (none)) else (none)) else (if x241000_1.length < 17592186044416 then (if x16_1.length < 17592186044416 then (sW.l0 kj59 a1 l3 ((rd_T62 l0_2 a1).f1) t232 t235 x14_1 x15_59 (x16_1 ++ [x17_1]) (wrap64 (x17_1 + 1)) a0_0 l0_1 l0_2 (x241000_1 ++ [x18_59]) x241001_1 t237 t239) else (none)) else (none)))) = some (r1, r2, r3, r4, r5) := H
         have A71 := aS A710
         clear A710
         replace H := Option.bind_eq_some_iff.mp H
         obtain ⟨t255, A720, H⟩ := H
         replace H : (if t255 = 0 then (if x241001_1.length < 17592186044416 then (if x241000_1.length < 17592186044416 then (if x16_1.length < 17592186044416 then (sW.l0 kj59 a1 l3 ((rd_T62 l0_2 a1).f1) t232 t235 x14_1 x15_59 (x16_1 ++ [x17_1]) (wrap64 (x17_1 + 1)) a0_0 l0_1 l0_2 (x241000_1 ++ [x18_59]) (x241001_1 ++ [(x241000_1.length : Int)]) t237 t239) else (none)) else (none)) else (none)) else (if x241000_1.length < 17592186044416 then (if x16_1.length < 17592186044416 then (sW.l0 kj59 a1 l3 ((rd_T62 l0_2 a1).f1) t232 t235 x14_1 x15_59 (x16_1 ++ [x17_1]) (wrap64 (x17_1 + 1)) a0_0 l0_1 l0_2 (x241000_1 ++ [x18_59]) x241001_1 t237 t239) else (none)) else (none))) = some (r1, r2, r3, r4, r5) := H
         have A72 := aS A720
         clear A720
         by_cases c73 : t255 = 0
         rotate_left
         ·as_aux_lemma =>
          rw [if_neg c73] at H
          have c73b0 : (t255 == 0) = false := beq_eq_false_iff_ne.mpr c73
          have c73b1 : (t255 != 0) = true := bne_iff_ne.mpr c73
          by_cases c92 : x241000_1.length < 17592186044416
          rotate_left
          ·rw [if_neg c92] at H
           exact absurd H (by simp)
          as_aux_lemma =>
          rw [if_pos c92] at H
          have LMc92 := aS c92
          clear c92
          obtain ⟨y265, hy265⟩ : ∃ y_ : List Int, y_ = (x241000_1 ++ [x18_59]) := ⟨_, rfl⟩
          replace H : (if x16_1.length < 17592186044416 then (sW.l0 kj59 a1 l3 ((rd_T62 l0_2 a1).f1) t232 t235 x14_1 x15_59 (x16_1 ++ [x17_1]) (wrap64 (x17_1 + 1)) a0_0 l0_1 l0_2 y265 x241001_1 t237 t239) else (none)) = some (r1, r2, r3, r4, r5) := by first | (rw [hy265]; with_reducible exact H) | (have H2_ := (Option.bind_some _ _).symm.trans H; rw [hy265]; with_reducible exact H2_) | (have H2_ := (Option.bind_some _ _).symm.trans H; with_reducible exact H2_) | with_reducible exact H | (rw [hy265]; exact H) | exact H
          have Ny265 := aS hy265
          clear hy265
          by_cases c93 : x16_1.length < 17592186044416
          rotate_left
          ·rw [if_neg c93] at H
           exact absurd H (by simp)
          as_aux_lemma =>
          rw [if_pos c93] at H
          have LMc93 := aS c93
          clear c93
          obtain ⟨y268, hy268⟩ : ∃ y_ : List Int, y_ = (x16_1 ++ [x17_1]) := ⟨_, rfl⟩
          replace H : (sW.l0 kj59 a1 l3 ((rd_T62 l0_2 a1).f1) t232 t235 x14_1 x15_59 y268 (wrap64 (x17_1 + 1)) a0_0 l0_1 l0_2 y265 x241001_1 t237 t239) = some (r1, r2, r3, r4, r5) := by first | (rw [hy268]; with_reducible exact H) | (have H2_ := (Option.bind_some _ _).symm.trans H; rw [hy268]; with_reducible exact H2_) | (have H2_ := (Option.bind_some _ _).symm.trans H; with_reducible exact H2_) | with_reducible exact H | (rw [hy268]; exact H) | exact H
          have Ny268 := aS hy268
          clear hy268
          have H' := aS H
          clear H
          try go_wp2
          have n0_ := aS (Kd.R_drew HO_16.out)
          have n1_ := aS (Kd.R_drew HO_241000.out)
          have n2_ := aS (Kd.R_drew HO_241001.out)
          have n3_ := aS (blk_drew BK228.out)
          have n4_ := aS (blk_drew BK229.out)
          have n5_ := aS (blk_drew BK230.out)
          have n6_ := aS (blk_drew BK240.out)
          have n7_ := aS (below_drew1 HB.out)
          clear HO_16
          clear HO_241000
          clear HO_241001
          clear BK228
          clear BK229
          clear BK230
          clear BK240
          clear HB
          have HO_16 := n0_
          have HO_241000 := n1_
          have HO_241001 := n2_
          have BK228 := n3_
          have BK229 := n4_
          have BK230 := n5_
          have BK240 := n6_
          have HB := n7_
          clear n0_ n1_ n2_ n3_ n4_ n5_ n6_ n7_
          have p248 : 0 ≤ (a1 : Int) := of_decide_eq_true TA
          have q248 : a1 < (l0_2.length : Int) := of_decide_eq_true TA
          obtain ⟨ad248, A248_1, c248_1, e248, hx248_0, hx248_1, hl248_1, hi248_1⟩ := at_T62 HR0_2.out a1 p248 q248
          have hw248_1 := hx248_1
          have hw248_0 := hx248_0
          obtain rfl : ad231 = ad248 := (by injection e248)
          replace hx248_0 := (HB.out.cell  (World.block_lt_of_cell? w _ hx248_0)).trans hx248_0
          replace hx248_1 := (HB.out.cell  (World.block_lt_of_cell? w _ hx248_1)).trans hx248_1
          have HR248_1 := aS hi248_1
          have HC248_1 := aS hl248_1
          clear hi248_1 hl248_1
          replace p248 := eq_true p248
          replace q248 := eq_true q248
          refine start_ (n := 15) (S := fun w' => w'.cell? ⟨gb228, 0, none⟩ = some (.int .i64 a0_0) ∧ w'.cell? ⟨gb228, 1, none⟩ = some (.slice A0_1 l0_1.length c0_1) ∧ w'.cell? ⟨gb228, 2, none⟩ = some (.slice (some ad231) l0_2.length c0_2) ∧ w'.cell? (ad231.add ((a1).toNat * 2)) = some (.int .i64 ((rd_T62 l0_2 a1).f0)) ∧ w'.cell? ⟨(ad231.add ((a1).toNat * 2)).block, (ad231.add ((a1).toNat * 2)).off + 1, none⟩ = some (.slice A248_1 ((rd_T62 l0_2 a1).f1).length c248_1)) (ds := []) (.replicate 15 false) (by kernel_rfl) rfl rfl ⟨czz BK228.out 0, czz BK228.out 1, czz BK228.out 2, ((HB.out.cell  (World.block_lt_of_cell? w _ hw248_0)).trans hw248_0), ((HB.out.cell  (World.block_lt_of_cell? w _ hw248_1)).trans hw248_1)⟩ (fun hHeld => ?_); refine with_tabW sW.tab16 sW.bits16 (fun HT_ HW_ => ?_)
          generalize wc.drew = w94 at HO_16 HO_241000 HO_241001 BK228 BK229 BK230 BK240 HB HR248_1 hx248_0 hx248_1 hHeld ⊢
          refine pT 0 106 (bt 15 1) (k := ?_)
          refine pT 2 108 (bt 15 5) (k := ?_)
          refine pT 4 110 (bt 15 21) (k := ?_)
          refine pT 8 114 (bt 15 277) (k := ?_)
          refine tT5 1 107 (bt 15 279) hHeld (k := ?_)
          refine tT5 3 109 (bt 15 287) hHeld (k := ?_)
          refine pT 5 111 (bt 15 319) (k := ?_)
          refine pT 6 112 (bt 15 383) (k := ?_)
          refine tT5 7 113 (bt 15 511) hHeld (k := ?_)
          refine one_ (i := 9) (N := some 115) (bt 15 1023) rfl rfl (one_of HT_.out (by kernel_rfl)) (by decide) (fun K hK => ?_)
          refine goes_ Tryd.func43 (by kernel_rfl) rfl #[.agg #[.int .i64 a0_0, .slice A0_1 l0_1.length c0_1], .int .i64 ((rd_T62 l0_2 a1).f0), .int .i64 x17_1] (by rfl) rfl rfl TM ?_
          with_reducible refine (cycle_Struck.calls a0_0 _ _ l0_1 ((rd_T62 l0_2 a1).f0) x17_1 t249 t252 _ ?side1 ?side2 ?side3 A68.out).mono ?_
          (case side1 => exact TC HR0_1.out)
          (case side2 => exact HC0_1.out)
          (case side3 => exact Glob.fr HG.out (Fr.of_below (by repeat (first | (with_reducible first | exact HB.out | apply below_alloc | apply pw_below_drewN | apply below_drew1 | refine below_set ?_ GE228.out | refine below_set ?_ GE229.out | refine below_set ?_ GE230.out | refine below_set ?_ GE240.out) | exact HB.out))))
          rintro e w95 ⟨v250, rfl, ho0, hb⟩
          refine ⟨_, rfl, ?_⟩
          have n0_ := aS (Kd.R_below (TRo HO_16.out) hb)
          have n1_ := aS (Kd.R_below (TRo HO_241000.out) hb)
          have n2_ := aS (Kd.R_below (TRo HO_241001.out) hb)
          have n3_ := aS (Kd.V_lower (Kd.V_mono (ok' := fun k_ => some k_ ≠ (u16 : Value).ownBlock ∧ some k_ ≠ (u241000 : Value).ownBlock ∧ some k_ ≠ (u241001 : Value).ownBlock ∧ k_ ≠ gb228 ∧ k_ ≠ gb229 ∧ k_ ≠ gb230 ∧ k_ ≠ gb240) ho0 (fun k_ hk_ => ⟨(Kd.fresh' (Kd.R_lt (TRo HO_16.out)) k_ hk_), (Kd.fresh' (Kd.R_lt (TRo HO_241000.out)) k_ hk_), (Kd.fresh' (Kd.R_lt (TRo HO_241001.out)) k_ hk_), (Kd.freshB (g := gb228) (o := .cells #[.int .i64 a0_0, .slice A0_1 l0_1.length c0_1, .slice (some ad231) l0_2.length c0_2] 27 (0, 0)) (TK BK228.out) k_ hk_), (Kd.freshB (g := gb229) (o := .cells #[.int .i64 a2_0, .int .i64 a2_1] 43 (0, 0)) (TK BK229.out) k_ hk_), (Kd.freshB (g := gb230) (o := .cells #[.slice none 0 0, .slice none 0 0, .int .i64 0, .int .i64 0] 30 (0, 0)) (TK BK230.out) k_ hk_), (Kd.freshB (g := gb240) (o := .cells #[u241000, u241001, .int .i64 t237, .int .i64 t239] 30 (0, 0)) (TK BK240.out) k_ hk_)⟩)) (below_size (by repeat (first | (with_reducible first | exact HB.out | apply below_alloc | apply pw_below_drewN | apply below_drew1 | refine below_set ?_ GE228.out | refine below_set ?_ GE229.out | refine below_set ?_ GE230.out | refine below_set ?_ GE240.out) | exact HB.out))))
          have n4_ := aS (blk_below (g := gb228) (o := .cells #[.int .i64 a0_0, .slice A0_1 l0_1.length c0_1, .slice (some ad231) l0_2.length c0_2] 27 (0, 0)) (TK BK228.out) hb)
          have n5_ := aS (blk_below (g := gb229) (o := .cells #[.int .i64 a2_0, .int .i64 a2_1] 43 (0, 0)) (TK BK229.out) hb)
          have n6_ := aS (blk_below (g := gb230) (o := .cells #[.slice none 0 0, .slice none 0 0, .int .i64 0, .int .i64 0] 30 (0, 0)) (TK BK230.out) hb)
          have n7_ := aS (blk_below (g := gb240) (o := .cells #[u241000, u241001, .int .i64 t237, .int .i64 t239] 30 (0, 0)) (TK BK240.out) hb)
          have n8_ := aS (below_step (by repeat (first | (with_reducible first | exact HB.out | apply below_alloc | apply pw_below_drewN | apply below_drew1 | refine below_set ?_ GE228.out | refine below_set ?_ GE229.out | refine below_set ?_ GE230.out | refine below_set ?_ GE240.out) | exact HB.out)) hb)
          clear HO_16
          clear HO_241000
          clear HO_241001
          clear BK228
          clear BK229
          clear BK230
          clear BK240
          clear HB
          have HO_16 := n0_
          have HO_241000 := n1_
          have HO_241001 := n2_
          have HO251 := n3_
          have BK228 := n4_
          have BK229 := n5_
          have BK230 := n6_
          have BK240 := n7_
          have HB := n8_
          clear n0_ n1_ n2_ n3_ n4_ n5_ n6_ n7_ n8_
          (try clear hb)
          (try clear hb2)
          (try clear hk)
          (try clear hi)
          (try clear ho0)
          refine hK.out _ _ ⟨czz BK228.out 0, czz BK228.out 1, czz BK228.out 2, ((HB.out.cell  (World.block_lt_of_cell? w _ hw248_0)).trans hw248_0), ((HB.out.cell  (World.block_lt_of_cell? w _ hw248_1)).trans hw248_1)⟩ (fun hHeld => ?_)
          clear hK K
          refine norm_ (a' := ?_) ?_ ?_
          rotate_left
          ·show Act.put _ (some 115) _ = _
           simp only [Act.put, lA, lZ, lS, i64_w, i32_w]
           rfl
          refine pT 10 105 (bt 15 2047) (k := ?_)
          refine pT 11 116 (bt 15 4095) (k := ?_)
          refine pT 12 117 (bt 15 8191) (k := ?_)
          refine pT 13 19 (bt 15 16383) (k := ?_)
          refine pT 14 20 (bt 15 32767) (k := ?_)
          refine done_ (done_of HT_.out (by kernel_rfl)) ?_
          obtain ⟨Ao96, co96, eo96⟩ := Kd.V_slice HO251.out
          subst eo96
          try go_wp2_with (first | ((with_reducible refine gate_callee (f := 39) rfl ?_); refine goesL_ (some 119) rfl rfl Tryd.func39 (by kernel_rfl) rfl #[.slice Ao96 t249.length co96, .int .i64 0] rfl TM ?_; (with_reducible refine (saronref00_Where.calls kj59 _ _ t249 0 t253 _ ?side1 ?side2 A69.out).mono ?_); (case side1 => repeat (first | exact (Kd.V_reads' HO251.out).2.2 | (with_reducible refine Kd.C_alloc ?_ _) | (with_reducible refine Kd.C_drewN ?_ _) | (with_reducible refine Kd.C_drew ?_))); (case side2 => exact (Kd.V_reads' HO251.out).2.1); rintro e w' ⟨rfl, ⟨nd, rfl⟩⟩; refine ⟨_, rfl, ?_⟩; (try (rw [drewN_self w95]; generalize hq_ : World.drewN w95 _ = w95; have n0_ : Aside0 (Kd.V (Kd.int .i64) 3 w95 w.heap.size (fun k_ => some k_ ≠ (u16 : Value).ownBlock ∧ some k_ ≠ (u241000 : Value).ownBlock ∧ some k_ ≠ (u241001 : Value).ownBlock ∧ k_ ≠ gb228 ∧ k_ ≠ gb229 ∧ k_ ≠ gb230 ∧ k_ ≠ gb240) (.slice Ao96 t249.length co96) t249) := ⟨by rw [← hq_]; exact (by (with_reducible repeat (first | apply Kd.V_alloc | apply Kd.V_drewN | apply Kd.V_drew)); exact HO251.out)⟩; have n1_ : Aside0 (Kd.R (Kd.int .i64) 3 w95 w.heap.size (fun k_ => some k_ ≠ (u241000 : Value).ownBlock ∧ some k_ ≠ (u241001 : Value).ownBlock) u16 x16_1) := ⟨by rw [← hq_]; exact (TRo HO_16.out)⟩; have n2_ : Aside0 (Kd.R (Kd.int .i64) 3 w95 w.heap.size (fun k_ => some k_ ≠ (u16 : Value).ownBlock ∧ some k_ ≠ (u241001 : Value).ownBlock) u241000 x241000_1) := ⟨by rw [← hq_]; exact (TRo HO_241000.out)⟩; have n3_ : Aside0 (Kd.R (Kd.int .i64) 3 w95 w.heap.size (fun k_ => some k_ ≠ (u16 : Value).ownBlock ∧ some k_ ≠ (u241000 : Value).ownBlock) u241001 x241001_1) := ⟨by rw [← hq_]; exact (TRo HO_241001.out)⟩; have n4_ : Aside0 (w95.heap[gb228]? = some (.cells #[.int .i64 a0_0, .slice A0_1 l0_1.length c0_1, .slice (some ad231) l0_2.length c0_2] 27 (0, 0))) := ⟨by rw [← hq_]; exact (TK BK228.out)⟩; have n5_ : Aside0 (w95.heap[gb229]? = some (.cells #[.int .i64 a2_0, .int .i64 a2_1] 43 (0, 0))) := ⟨by rw [← hq_]; exact (TK BK229.out)⟩; have n6_ : Aside0 (w95.heap[gb230]? = some (.cells #[.slice none 0 0, .slice none 0 0, .int .i64 0, .int .i64 0] 30 (0, 0))) := ⟨by rw [← hq_]; exact (TK BK230.out)⟩; have n7_ : Aside0 (w95.heap[gb240]? = some (.cells #[u241000, u241001, .int .i64 t237, .int .i64 t239] 30 (0, 0))) := ⟨by rw [← hq_]; exact (TK BK240.out)⟩; have n8_ : Aside0 (Below w.heap.size w w95) := ⟨by rw [← hq_]; exact (by repeat (first | (with_reducible first | exact HB.out | apply below_alloc | apply pw_below_drewN | apply below_drew1 | refine below_set ?_ GE228.out | refine below_set ?_ GE229.out | refine below_set ?_ GE230.out | refine below_set ?_ GE240.out) | exact HB.out))⟩; clear HO251 HO_16 HO_241000 HO_241001 BK228 BK229 BK230 BK240 HB hq_; have HO251 := n0_; have HO_16 := n1_; have HO_241000 := n2_; have HO_241001 := n3_; have BK228 := n4_; have BK229 := n5_; have BK230 := n6_; have BK240 := n7_; have HB := n8_; clear n0_ n1_ n2_ n3_ n4_ n5_ n6_ n7_ n8_)); have hczq228_0 : w95.cell? ⟨gb228, 0, none⟩ = some (.int .i64 a0_0) := czz BK228.out 0; have hfzq228_0 := fz BK228.out 0; have hczq228_1 : w95.cell? ⟨gb228, 1, none⟩ = some (.slice A0_1 l0_1.length c0_1) := czz BK228.out 1; have hfzq228_1 := fz BK228.out 1; have hczq228_2 : w95.cell? ⟨gb228, 2, none⟩ = some (.slice (some ad231) l0_2.length c0_2) := czz BK228.out 2; have hfzq228_2 := fz BK228.out 2; have hczq229_0 : w95.cell? ⟨gb229, 0, none⟩ = some (.int .i64 a2_0) := czz BK229.out 0; have hfzq229_0 := fz BK229.out 0; have hczq229_1 : w95.cell? ⟨gb229, 1, none⟩ = some (.int .i64 a2_1) := czz BK229.out 1; have hfzq229_1 := fz BK229.out 1; have hczq230_0 : w95.cell? ⟨gb230, 0, none⟩ = some (.slice none 0 0) := czz BK230.out 0; have hfzq230_0 := fz BK230.out 0; have hczq230_1 : w95.cell? ⟨gb230, 1, none⟩ = some (.slice none 0 0) := czz BK230.out 1; have hfzq230_1 := fz BK230.out 1; have hczq230_2 : w95.cell? ⟨gb230, 2, none⟩ = some (.int .i64 0) := czz BK230.out 2; have hfzq230_2 := fz BK230.out 2; have hczq230_3 : w95.cell? ⟨gb230, 3, none⟩ = some (.int .i64 0) := czz BK230.out 3; have hfzq230_3 := fz BK230.out 3; have hczq240_0 : w95.cell? ⟨gb240, 0, none⟩ = some (u241000) := czz BK240.out 0; have hfzq240_0 := fz BK240.out 0; have hczq240_1 : w95.cell? ⟨gb240, 1, none⟩ = some (u241001) := czz BK240.out 1; have hfzq240_1 := fz BK240.out 1; have hczq240_2 : w95.cell? ⟨gb240, 2, none⟩ = some (.int .i64 t237) := czz BK240.out 2; have hfzq240_2 := fz BK240.out 2; have hczq240_3 : w95.cell? ⟨gb240, 3, none⟩ = some (.int .i64 t239) := czz BK240.out 3; have hfzq240_3 := fz BK240.out 3) | (go_at_call 76; (with_reducible refine (saronref00_Nth.calls _ _ l3 (wrap64 (x17_1 + 3)) t254 _ ?side1 ?side2 A71.out).mono ?_); (case side1 => exact TC HR3.out); (case side2 => exact HC3.out); rintro e w' ⟨rfl, ⟨nd, rfl⟩⟩; (try (rw [drewN_self w95]; generalize hq_ : World.drewN w95 _ = w95; have n0_ : Aside0 (Kd.V (Kd.int .i64) 3 w95 w.heap.size (fun k_ => some k_ ≠ (u16 : Value).ownBlock ∧ some k_ ≠ (u241000 : Value).ownBlock ∧ some k_ ≠ (u241001 : Value).ownBlock ∧ k_ ≠ gb228 ∧ k_ ≠ gb229 ∧ k_ ≠ gb230 ∧ k_ ≠ gb240) (.slice Ao96 t249.length co96) t249) := ⟨by rw [← hq_]; exact (by (with_reducible repeat (first | apply Kd.V_alloc | apply Kd.V_drewN | apply Kd.V_drew)); exact HO251.out)⟩; have n1_ : Aside0 (Kd.R (Kd.int .i64) 3 w95 w.heap.size (fun k_ => some k_ ≠ (u241000 : Value).ownBlock ∧ some k_ ≠ (u241001 : Value).ownBlock) u16 x16_1) := ⟨by rw [← hq_]; exact (TRo HO_16.out)⟩; have n2_ : Aside0 (Kd.R (Kd.int .i64) 3 w95 w.heap.size (fun k_ => some k_ ≠ (u16 : Value).ownBlock ∧ some k_ ≠ (u241001 : Value).ownBlock) u241000 x241000_1) := ⟨by rw [← hq_]; exact (TRo HO_241000.out)⟩; have n3_ : Aside0 (Kd.R (Kd.int .i64) 3 w95 w.heap.size (fun k_ => some k_ ≠ (u16 : Value).ownBlock ∧ some k_ ≠ (u241000 : Value).ownBlock) u241001 x241001_1) := ⟨by rw [← hq_]; exact (TRo HO_241001.out)⟩; have n4_ : Aside0 (w95.heap[gb228]? = some (.cells #[.int .i64 a0_0, .slice A0_1 l0_1.length c0_1, .slice (some ad231) l0_2.length c0_2] 27 (0, 0))) := ⟨by rw [← hq_]; exact (TK BK228.out)⟩; have n5_ : Aside0 (w95.heap[gb229]? = some (.cells #[.int .i64 a2_0, .int .i64 a2_1] 43 (0, 0))) := ⟨by rw [← hq_]; exact (TK BK229.out)⟩; have n6_ : Aside0 (w95.heap[gb230]? = some (.cells #[.slice none 0 0, .slice none 0 0, .int .i64 0, .int .i64 0] 30 (0, 0))) := ⟨by rw [← hq_]; exact (TK BK230.out)⟩; have n7_ : Aside0 (w95.heap[gb240]? = some (.cells #[u241000, u241001, .int .i64 t237, .int .i64 t239] 30 (0, 0))) := ⟨by rw [← hq_]; exact (TK BK240.out)⟩; have n8_ : Aside0 (Below w.heap.size w w95) := ⟨by rw [← hq_]; exact (by repeat (first | (with_reducible first | exact HB.out | apply below_alloc | apply pw_below_drewN | apply below_drew1 | refine below_set ?_ GE228.out | refine below_set ?_ GE229.out | refine below_set ?_ GE230.out | refine below_set ?_ GE240.out) | exact HB.out))⟩; clear HO251 HO_16 HO_241000 HO_241001 BK228 BK229 BK230 BK240 HB hq_; have HO251 := n0_; have HO_16 := n1_; have HO_241000 := n2_; have HO_241001 := n3_; have BK228 := n4_; have BK229 := n5_; have BK230 := n6_; have BK240 := n7_; have HB := n8_; clear n0_ n1_ n2_ n3_ n4_ n5_ n6_ n7_ n8_)); have hczq228_0 : w95.cell? ⟨gb228, 0, none⟩ = some (.int .i64 a0_0) := czz BK228.out 0; have hfzq228_0 := fz BK228.out 0; have hczq228_1 : w95.cell? ⟨gb228, 1, none⟩ = some (.slice A0_1 l0_1.length c0_1) := czz BK228.out 1; have hfzq228_1 := fz BK228.out 1; have hczq228_2 : w95.cell? ⟨gb228, 2, none⟩ = some (.slice (some ad231) l0_2.length c0_2) := czz BK228.out 2; have hfzq228_2 := fz BK228.out 2; have hczq229_0 : w95.cell? ⟨gb229, 0, none⟩ = some (.int .i64 a2_0) := czz BK229.out 0; have hfzq229_0 := fz BK229.out 0; have hczq229_1 : w95.cell? ⟨gb229, 1, none⟩ = some (.int .i64 a2_1) := czz BK229.out 1; have hfzq229_1 := fz BK229.out 1; have hczq230_0 : w95.cell? ⟨gb230, 0, none⟩ = some (.slice none 0 0) := czz BK230.out 0; have hfzq230_0 := fz BK230.out 0; have hczq230_1 : w95.cell? ⟨gb230, 1, none⟩ = some (.slice none 0 0) := czz BK230.out 1; have hfzq230_1 := fz BK230.out 1; have hczq230_2 : w95.cell? ⟨gb230, 2, none⟩ = some (.int .i64 0) := czz BK230.out 2; have hfzq230_2 := fz BK230.out 2; have hczq230_3 : w95.cell? ⟨gb230, 3, none⟩ = some (.int .i64 0) := czz BK230.out 3; have hfzq230_3 := fz BK230.out 3; have hczq240_0 : w95.cell? ⟨gb240, 0, none⟩ = some (u241000) := czz BK240.out 0; have hfzq240_0 := fz BK240.out 0; have hczq240_1 : w95.cell? ⟨gb240, 1, none⟩ = some (u241001) := czz BK240.out 1; have hfzq240_1 := fz BK240.out 1; have hczq240_2 : w95.cell? ⟨gb240, 2, none⟩ = some (.int .i64 t237) := czz BK240.out 2; have hfzq240_2 := fz BK240.out 2; have hczq240_3 : w95.cell? ⟨gb240, 3, none⟩ = some (.int .i64 t239) := czz BK240.out 3; have hfzq240_3 := fz BK240.out 3) | (go_at_call 37; (with_reducible refine (saronref00_Turn.calls t254 2 t255 _ A72.out).mono ?_); rintro e w' ⟨rfl, ⟨nd, rfl⟩⟩; (try (rw [drewN_self w95]; generalize hq_ : World.drewN w95 _ = w95; have n0_ : Aside0 (Kd.V (Kd.int .i64) 3 w95 w.heap.size (fun k_ => some k_ ≠ (u16 : Value).ownBlock ∧ some k_ ≠ (u241000 : Value).ownBlock ∧ some k_ ≠ (u241001 : Value).ownBlock ∧ k_ ≠ gb228 ∧ k_ ≠ gb229 ∧ k_ ≠ gb230 ∧ k_ ≠ gb240) (.slice Ao96 t249.length co96) t249) := ⟨by rw [← hq_]; exact (by (with_reducible repeat (first | apply Kd.V_alloc | apply Kd.V_drewN | apply Kd.V_drew)); exact HO251.out)⟩; have n1_ : Aside0 (Kd.R (Kd.int .i64) 3 w95 w.heap.size (fun k_ => some k_ ≠ (u241000 : Value).ownBlock ∧ some k_ ≠ (u241001 : Value).ownBlock) u16 x16_1) := ⟨by rw [← hq_]; exact (TRo HO_16.out)⟩; have n2_ : Aside0 (Kd.R (Kd.int .i64) 3 w95 w.heap.size (fun k_ => some k_ ≠ (u16 : Value).ownBlock ∧ some k_ ≠ (u241001 : Value).ownBlock) u241000 x241000_1) := ⟨by rw [← hq_]; exact (TRo HO_241000.out)⟩; have n3_ : Aside0 (Kd.R (Kd.int .i64) 3 w95 w.heap.size (fun k_ => some k_ ≠ (u16 : Value).ownBlock ∧ some k_ ≠ (u241000 : Value).ownBlock) u241001 x241001_1) := ⟨by rw [← hq_]; exact (TRo HO_241001.out)⟩; have n4_ : Aside0 (w95.heap[gb228]? = some (.cells #[.int .i64 a0_0, .slice A0_1 l0_1.length c0_1, .slice (some ad231) l0_2.length c0_2] 27 (0, 0))) := ⟨by rw [← hq_]; exact (TK BK228.out)⟩; have n5_ : Aside0 (w95.heap[gb229]? = some (.cells #[.int .i64 a2_0, .int .i64 a2_1] 43 (0, 0))) := ⟨by rw [← hq_]; exact (TK BK229.out)⟩; have n6_ : Aside0 (w95.heap[gb230]? = some (.cells #[.slice none 0 0, .slice none 0 0, .int .i64 0, .int .i64 0] 30 (0, 0))) := ⟨by rw [← hq_]; exact (TK BK230.out)⟩; have n7_ : Aside0 (w95.heap[gb240]? = some (.cells #[u241000, u241001, .int .i64 t237, .int .i64 t239] 30 (0, 0))) := ⟨by rw [← hq_]; exact (TK BK240.out)⟩; have n8_ : Aside0 (Below w.heap.size w w95) := ⟨by rw [← hq_]; exact (by repeat (first | (with_reducible first | exact HB.out | apply below_alloc | apply pw_below_drewN | apply below_drew1 | refine below_set ?_ GE228.out | refine below_set ?_ GE229.out | refine below_set ?_ GE230.out | refine below_set ?_ GE240.out) | exact HB.out))⟩; clear HO251 HO_16 HO_241000 HO_241001 BK228 BK229 BK230 BK240 HB hq_; have HO251 := n0_; have HO_16 := n1_; have HO_241000 := n2_; have HO_241001 := n3_; have BK228 := n4_; have BK229 := n5_; have BK230 := n6_; have BK240 := n7_; have HB := n8_; clear n0_ n1_ n2_ n3_ n4_ n5_ n6_ n7_ n8_)); have hczq228_0 : w95.cell? ⟨gb228, 0, none⟩ = some (.int .i64 a0_0) := czz BK228.out 0; have hfzq228_0 := fz BK228.out 0; have hczq228_1 : w95.cell? ⟨gb228, 1, none⟩ = some (.slice A0_1 l0_1.length c0_1) := czz BK228.out 1; have hfzq228_1 := fz BK228.out 1; have hczq228_2 : w95.cell? ⟨gb228, 2, none⟩ = some (.slice (some ad231) l0_2.length c0_2) := czz BK228.out 2; have hfzq228_2 := fz BK228.out 2; have hczq229_0 : w95.cell? ⟨gb229, 0, none⟩ = some (.int .i64 a2_0) := czz BK229.out 0; have hfzq229_0 := fz BK229.out 0; have hczq229_1 : w95.cell? ⟨gb229, 1, none⟩ = some (.int .i64 a2_1) := czz BK229.out 1; have hfzq229_1 := fz BK229.out 1; have hczq230_0 : w95.cell? ⟨gb230, 0, none⟩ = some (.slice none 0 0) := czz BK230.out 0; have hfzq230_0 := fz BK230.out 0; have hczq230_1 : w95.cell? ⟨gb230, 1, none⟩ = some (.slice none 0 0) := czz BK230.out 1; have hfzq230_1 := fz BK230.out 1; have hczq230_2 : w95.cell? ⟨gb230, 2, none⟩ = some (.int .i64 0) := czz BK230.out 2; have hfzq230_2 := fz BK230.out 2; have hczq230_3 : w95.cell? ⟨gb230, 3, none⟩ = some (.int .i64 0) := czz BK230.out 3; have hfzq230_3 := fz BK230.out 3; have hczq240_0 : w95.cell? ⟨gb240, 0, none⟩ = some (u241000) := czz BK240.out 0; have hfzq240_0 := fz BK240.out 0; have hczq240_1 : w95.cell? ⟨gb240, 1, none⟩ = some (u241001) := czz BK240.out 1; have hfzq240_1 := fz BK240.out 1; have hczq240_2 : w95.cell? ⟨gb240, 2, none⟩ = some (.int .i64 t237) := czz BK240.out 2; have hfzq240_2 := fz BK240.out 2; have hczq240_3 : w95.cell? ⟨gb240, 3, none⟩ = some (.int .i64 t239) := czz BK240.out 3; have hfzq240_3 := fz BK240.out 3; have hnb97 := NB240_228.out; have hnc97 := NB228_240.out; have hnb98 := NB240_229.out; have hnc98 := NB229_240.out; have hnb99 := NB240_230.out; have hnc99 := NB230_240.out; have hcz100_0 := czz BK240.out 0; have hcz100_1 := czz BK240.out 1; have hcz100_2 := czz BK240.out 2; have hcz100_3 := czz BK240.out 3; have hfz100_0 := fz BK240.out 0; have hfz100_1 := fz BK240.out 1; have hfz100_2 := fz BK240.out 2; have hfz100_3 := fz BK240.out 3) | ((with_reducible refine gate_builtin (b := .append) (xs := #[.tmp 138, .tmp 140]) rfl ?_); at_builtin; refine Kd.R_append (Kd.int .i64) (w0 := w) w.heap.size rfl (.tmp 138) (.tmp 140) 28 3 (.int .i64 0) 8 rfl Tryd.underlying28 info3 rfl (by decide) (by omega) u241000 x241000_1 x18_59 [.int .i64 x18_59] (fun k_ => some k_ ≠ (u16 : Value).ownBlock ∧ some k_ ≠ (u241001 : Value).ownBlock) (fun _ => False) rfl rfl ?aP (fun _ hk => hk.elim) ?aF ?aO ?aB ?aS ?aL ?_; (case aP => exact rfl); (case aB => exact (by repeat (first | (with_reducible first | exact HB.out | apply below_alloc | apply pw_below_drewN | apply below_drew1 | refine below_set ?_ GE228.out | refine below_set ?_ GE229.out | refine below_set ?_ GE230.out | refine below_set ?_ GE240.out) | exact HB.out))); (case aF => exact (fun k_ hk => ⟨Kd.fresh' (Kd.R_lt (TRo HO_16.out)) k_ hk, Kd.fresh' (Kd.R_lt (TRo HO_241001.out)) k_ hk⟩)); (case aO => exact (TRo HO_241000.out)); (case aS => exact (below_size (by repeat (first | (with_reducible first | exact HB.out | apply below_alloc | apply pw_below_drewN | apply below_drew1 | refine below_set ?_ GE228.out | refine below_set ?_ GE229.out | refine below_set ?_ GE230.out | refine below_set ?_ GE240.out) | exact HB.out)))); (case aL => have := LMc92.out; omega); intro v266 w101 ho hb hg hat; rw [← Ny265.out] at ho; have HO267 := aS (ho); replace HO_16 := aS (Kd.R_after (ok := (fun k_ => some k_ ≠ (u241001 : Value).ownBlock)) (by (with_reducible repeat (first | apply Kd.R_alloc | apply Kd.R_drewN | apply Kd.R_drew)); exact Kd.R_mono HO_16.out (fun _ hk => ⟨hk.2, hk.1⟩)) hg hat); replace HO_241001 := aS (Kd.R_after (ok := (fun k_ => some k_ ≠ (u16 : Value).ownBlock)) (TRo HO_241001.out) hg hat); replace BK228 := aS (blk_grown (g := gb228) (o := .cells #[.int .i64 a0_0, .slice A0_1 l0_1.length c0_1, .slice (some ad231) l0_2.length c0_2] 27 (0, 0)) (TK BK228.out) hg (Kd.R_ne HO_241000.out BK228.out (by decide))); replace BK229 := aS (blk_grown (g := gb229) (o := .cells #[.int .i64 a2_0, .int .i64 a2_1] 43 (0, 0)) (TK BK229.out) hg (Kd.R_ne HO_241000.out BK229.out (by decide))); replace BK230 := aS (blk_grown (g := gb230) (o := .cells #[.slice none 0 0, .slice none 0 0, .int .i64 0, .int .i64 0] 30 (0, 0)) (TK BK230.out) hg (Kd.R_ne HO_241000.out BK230.out (by decide))); replace BK240 := aS (blk_grown (g := gb240) (o := .cells #[u241000, u241001, .int .i64 t237, .int .i64 t239] 30 (0, 0)) (TK BK240.out) hg (Kd.R_ne HO_241000.out BK240.out (by decide))); replace HO251 := aS (Kd.V_afterv (ok := (fun k_ => some k_ ≠ (u16 : Value).ownBlock ∧ some k_ ≠ (u241001 : Value).ownBlock ∧ k_ ≠ gb228 ∧ k_ ≠ gb229 ∧ k_ ≠ gb230 ∧ k_ ≠ gb240)) (by (with_reducible repeat (first | apply Kd.V_alloc | apply Kd.V_drewN | apply Kd.V_drew)); exact Kd.V_mono HO251.out (fun _ hk => ⟨⟨hk.1, ⟨hk.2.2.1, ⟨hk.2.2.2.1, ⟨hk.2.2.2.2.1, ⟨hk.2.2.2.2.2.1, hk.2.2.2.2.2.2⟩⟩⟩⟩⟩, hk.2.1⟩)) hg hat); replace HB := aS (hb); clear HO_241000; clear ho hb hg hat) | ((with_reducible refine gate_builtin (b := .append) (xs := #[.tmp 142, .tmp 144]) rfl ?_); at_builtin; refine Kd.R_append (Kd.int .i64) (w0 := w) w.heap.size rfl (.tmp 142) (.tmp 144) 28 3 (.int .i64 0) 8 rfl Tryd.underlying28 info3 rfl (by decide) (by omega) u16 x16_1 x17_1 [.int .i64 x17_1] (fun k_ => some k_ ≠ (u241001 : Value).ownBlock ∧ some k_ ≠ (v266 : Value).ownBlock) (fun _ => False) rfl rfl ?aP (fun _ hk => hk.elim) ?aF ?aO ?aB ?aS ?aL ?_; (case aP => exact rfl); (case aB => exact (by repeat (first | (with_reducible first | exact HB.out | apply below_alloc | apply pw_below_drewN | apply below_drew1 | refine below_set ?_ GE228.out | refine below_set ?_ GE229.out | refine below_set ?_ GE230.out | refine below_set ?_ GE240.out) | exact HB.out))); (case aF => exact (fun k_ hk => ⟨Kd.fresh' (Kd.R_lt (TRo HO_241001.out)) k_ hk, Kd.fresh' (Kd.R_lt (TRo HO267.out)) k_ hk⟩)); (case aO => exact (TRo HO_16.out)); (case aS => exact (below_size (by repeat (first | (with_reducible first | exact HB.out | apply below_alloc | apply pw_below_drewN | apply below_drew1 | refine below_set ?_ GE228.out | refine below_set ?_ GE229.out | refine below_set ?_ GE230.out | refine below_set ?_ GE240.out) | exact HB.out)))); (case aL => have := LMc93.out; omega); intro v269 w102 ho hb hg hat; rw [← Ny268.out] at ho; have HO270 := aS (ho); replace HO_241001 := aS (Kd.R_after (ok := (fun k_ => some k_ ≠ (v266 : Value).ownBlock)) (by (with_reducible repeat (first | apply Kd.R_alloc | apply Kd.R_drewN | apply Kd.R_drew)); exact Kd.R_mono HO_241001.out (fun _ hk => ⟨hk.2, hk.1⟩)) hg hat); replace BK228 := aS (blk_grown (g := gb228) (o := .cells #[.int .i64 a0_0, .slice A0_1 l0_1.length c0_1, .slice (some ad231) l0_2.length c0_2] 27 (0, 0)) (TK BK228.out) hg (Kd.R_ne HO_16.out BK228.out (by decide))); replace BK229 := aS (blk_grown (g := gb229) (o := .cells #[.int .i64 a2_0, .int .i64 a2_1] 43 (0, 0)) (TK BK229.out) hg (Kd.R_ne HO_16.out BK229.out (by decide))); replace BK230 := aS (blk_grown (g := gb230) (o := .cells #[.slice none 0 0, .slice none 0 0, .int .i64 0, .int .i64 0] 30 (0, 0)) (TK BK230.out) hg (Kd.R_ne HO_16.out BK230.out (by decide))); replace BK240 := aS (blk_grown (g := gb240) (o := .cells #[u241000, u241001, .int .i64 t237, .int .i64 t239] 30 (0, 0)) (TK BK240.out) hg (Kd.R_ne HO_16.out BK240.out (by decide))); replace HO251 := aS (Kd.V_afterv (ok := (fun k_ => some k_ ≠ (u241001 : Value).ownBlock ∧ some k_ ≠ (v266 : Value).ownBlock ∧ k_ ≠ gb228 ∧ k_ ≠ gb229 ∧ k_ ≠ gb230 ∧ k_ ≠ gb240)) (by (with_reducible repeat (first | apply Kd.V_alloc | apply Kd.V_drewN | apply Kd.V_drew)); exact Kd.V_mono HO251.out (fun _ hk => ⟨⟨hk.1.2.1, ⟨hk.2, ⟨hk.1.2.2.1, ⟨hk.1.2.2.2.1, ⟨hk.1.2.2.2.2.1, hk.1.2.2.2.2.2⟩⟩⟩⟩⟩, hk.1.1⟩)) hg hat); replace HO267 := aS (Kd.R_after (ok := (fun k_ => some k_ ≠ (u241001 : Value).ownBlock)) (by (with_reducible repeat (first | apply Kd.R_alloc | apply Kd.R_drewN | apply Kd.R_drew)); exact Kd.R_mono HO267.out (fun _ hk => ⟨hk.2, hk.1⟩)) hg hat); replace HB := aS (hb); clear HO_16; clear ho hb hg hat; obtain ⟨Ao103, co103, eo103⟩ := Kd.R_slice HO267.out; subst eo103; have hcz104_0 := czz BK240.out 0; have hcz104_1 := czz BK240.out 1; have hcz104_2 := czz BK240.out 2; have hcz104_3 := czz BK240.out 3; have hfz104_0 := fz BK240.out 0; have hfz104_1 := fz BK240.out 1; have hfz104_2 := fz BK240.out 2; have hfz104_3 := fz BK240.out 3))
          go_roundg kj59
          case measure => have := HK1.out; have := HJ30.out; have := HJ47.out; have := HJ59.out; omega
          case rel => exact ⟨(x14_1), (x15_59), (y268), (wrap64 (x17_1 + 1)), (y265), (x241001_1), (.slice Ao103 y265.length co103), (u241001), TT, TT, TT, H', ⟨by have := HK1.out; have := HJ30.out; have := HJ47.out; have := HJ59.out; omega⟩, ⟨by (with_reducible repeat (first | apply Kd.R_alloc | apply Kd.R_drewN | apply Kd.R_drew)); exact Kd.R_mono (Kd.R_far (p := ⟨gb240, 0, none⟩) (Kd.R_types HO270.out BK240.out (by decide)) (fun _ hk => hk.2) (.slice Ao103 y265.length co103)) (fun _ hk => ⟨hk.1.2, hk.1.1⟩)⟩, ⟨by (with_reducible repeat (first | apply Kd.R_alloc | apply Kd.R_drewN | apply Kd.R_drew)); exact Kd.R_mono (Kd.R_far (p := ⟨gb240, 0, none⟩) (Kd.R_types HO267.out BK240.out (by decide)) (fun _ hk => hk.2) (.slice Ao103 y265.length co103)) (fun _ hk => ⟨hk.1.2, hk.1.1⟩)⟩, ⟨by (with_reducible repeat (first | apply Kd.R_alloc | apply Kd.R_drewN | apply Kd.R_drew)); exact Kd.R_mono (Kd.R_far (p := ⟨gb240, 0, none⟩) (Kd.R_types HO_241001.out BK240.out (by decide)) (fun _ hk => hk.2) (.slice Ao103 y265.length co103)) (fun _ hk => ⟨hk.1.2, hk.1.1⟩)⟩, ⟨by (with_reducible repeat (first | refine blk_drewN ?_ _ | refine blk_drew ?_ | refine blk_alloc ?_ _)); refine blk_far ?_ NB228_240.out _; (with_reducible repeat (first | refine blk_drewN ?_ _ | refine blk_drew ?_ | refine blk_alloc ?_ _)); exact BK228.out⟩, ⟨by (with_reducible repeat (first | refine blk_drewN ?_ _ | refine blk_drew ?_ | refine blk_alloc ?_ _)); refine blk_far ?_ NB229_240.out _; (with_reducible repeat (first | refine blk_drewN ?_ _ | refine blk_drew ?_ | refine blk_alloc ?_ _)); exact BK229.out⟩, ⟨by (with_reducible repeat (first | refine blk_drewN ?_ _ | refine blk_drew ?_ | refine blk_alloc ?_ _)); refine blk_far ?_ NB230_240.out _; (with_reducible repeat (first | refine blk_drewN ?_ _ | refine blk_drew ?_ | refine blk_alloc ?_ _)); exact BK230.out⟩, ⟨by (with_reducible repeat (first | refine blk_drewN ?_ _ | refine blk_drew ?_ | refine blk_alloc ?_ _)); refine blk_put (cs := #[u241000, u241001, .int .i64 t237, .int .i64 t239]) ?_ 0 _ rfl; (with_reducible repeat (first | refine blk_drewN ?_ _ | refine blk_drew ?_ | refine blk_alloc ?_ _)); exact BK240.out⟩, ⟨by repeat (first | (with_reducible first | exact HB.out | apply below_alloc | apply pw_below_drewN | apply below_drew1 | refine below_set ?_ GE228.out | refine below_set ?_ GE229.out | refine below_set ?_ GE230.out | refine below_set ?_ GE240.out) | exact HB.out)⟩⟩
         as_aux_lemma =>
         rw [if_pos c73] at H
         have c73b0 : (t255 == 0) = true := beq_iff_eq.mpr c73
         have c73b1 : (t255 != 0) = false := bne_eq_false_iff_eq.mpr c73
         clear c73
         by_cases c74 : x241001_1.length < 17592186044416
         rotate_left
         ·rw [if_neg c74] at H
          exact absurd H (by simp)
         as_aux_lemma =>
         rw [if_pos c74] at H
         have LMc74 := aS c74
         clear c74
         obtain ⟨y256, hy256⟩ : ∃ y_ : List Int, y_ = (x241001_1 ++ [(x241000_1.length : Int)]) := ⟨_, rfl⟩
         replace H : (if x241000_1.length < 17592186044416 then (if x16_1.length < 17592186044416 then (sW.l0 kj59 a1 l3 ((rd_T62 l0_2 a1).f1) t232 t235 x14_1 x15_59 (x16_1 ++ [x17_1]) (wrap64 (x17_1 + 1)) a0_0 l0_1 l0_2 (x241000_1 ++ [x18_59]) y256 t237 t239) else (none)) else (none)) = some (r1, r2, r3, r4, r5) := by first | (rw [hy256]; with_reducible exact H) | (have H2_ := (Option.bind_some _ _).symm.trans H; rw [hy256]; with_reducible exact H2_) | (have H2_ := (Option.bind_some _ _).symm.trans H; with_reducible exact H2_) | with_reducible exact H | (rw [hy256]; exact H) | exact H
         have Ny256 := aS hy256
         clear hy256
         by_cases c75 : x241000_1.length < 17592186044416
         rotate_left
         ·rw [if_neg c75] at H
          exact absurd H (by simp)
         as_aux_lemma =>
         rw [if_pos c75] at H
         have LMc75 := aS c75
         clear c75
         obtain ⟨y259, hy259⟩ : ∃ y_ : List Int, y_ = (x241000_1 ++ [x18_59]) := ⟨_, rfl⟩
         replace H : (if x16_1.length < 17592186044416 then (sW.l0 kj59 a1 l3 ((rd_T62 l0_2 a1).f1) t232 t235 x14_1 x15_59 (x16_1 ++ [x17_1]) (wrap64 (x17_1 + 1)) a0_0 l0_1 l0_2 y259 y256 t237 t239) else (none)) = some (r1, r2, r3, r4, r5) := by first | (rw [hy259]; with_reducible exact H) | (have H2_ := (Option.bind_some _ _).symm.trans H; rw [hy259]; with_reducible exact H2_) | (have H2_ := (Option.bind_some _ _).symm.trans H; with_reducible exact H2_) | with_reducible exact H | (rw [hy259]; exact H) | exact H
         have Ny259 := aS hy259
         clear hy259
         by_cases c76 : x16_1.length < 17592186044416
         rotate_left
         ·rw [if_neg c76] at H
          exact absurd H (by simp)
         as_aux_lemma =>
         rw [if_pos c76] at H
         have LMc76 := aS c76
         clear c76
         obtain ⟨y262, hy262⟩ : ∃ y_ : List Int, y_ = (x16_1 ++ [x17_1]) := ⟨_, rfl⟩
         replace H : (sW.l0 kj59 a1 l3 ((rd_T62 l0_2 a1).f1) t232 t235 x14_1 x15_59 y262 (wrap64 (x17_1 + 1)) a0_0 l0_1 l0_2 y259 y256 t237 t239) = some (r1, r2, r3, r4, r5) := by first | (rw [hy262]; with_reducible exact H) | (have H2_ := (Option.bind_some _ _).symm.trans H; rw [hy262]; with_reducible exact H2_) | (have H2_ := (Option.bind_some _ _).symm.trans H; with_reducible exact H2_) | with_reducible exact H | (rw [hy262]; exact H) | exact H
         have Ny262 := aS hy262
         clear hy262
         have H' := aS H
         clear H
         try go_wp2
         have n0_ := aS (Kd.R_drew HO_16.out)
         have n1_ := aS (Kd.R_drew HO_241000.out)
         have n2_ := aS (Kd.R_drew HO_241001.out)
         have n3_ := aS (blk_drew BK228.out)
         have n4_ := aS (blk_drew BK229.out)
         have n5_ := aS (blk_drew BK230.out)
         have n6_ := aS (blk_drew BK240.out)
         have n7_ := aS (below_drew1 HB.out)
         clear HO_16
         clear HO_241000
         clear HO_241001
         clear BK228
         clear BK229
         clear BK230
         clear BK240
         clear HB
         have HO_16 := n0_
         have HO_241000 := n1_
         have HO_241001 := n2_
         have BK228 := n3_
         have BK229 := n4_
         have BK230 := n5_
         have BK240 := n6_
         have HB := n7_
         clear n0_ n1_ n2_ n3_ n4_ n5_ n6_ n7_
         have p248 : 0 ≤ (a1 : Int) := of_decide_eq_true TA
         have q248 : a1 < (l0_2.length : Int) := of_decide_eq_true TA
         obtain ⟨ad248, A248_1, c248_1, e248, hx248_0, hx248_1, hl248_1, hi248_1⟩ := at_T62 HR0_2.out a1 p248 q248
         have hw248_1 := hx248_1
         have hw248_0 := hx248_0
         obtain rfl : ad231 = ad248 := (by injection e248)
         replace hx248_0 := (HB.out.cell  (World.block_lt_of_cell? w _ hx248_0)).trans hx248_0
         replace hx248_1 := (HB.out.cell  (World.block_lt_of_cell? w _ hx248_1)).trans hx248_1
         have HR248_1 := aS hi248_1
         have HC248_1 := aS hl248_1
         clear hi248_1 hl248_1
         replace p248 := eq_true p248
         replace q248 := eq_true q248
         refine start_ (n := 15) (S := fun w' => w'.cell? ⟨gb228, 0, none⟩ = some (.int .i64 a0_0) ∧ w'.cell? ⟨gb228, 1, none⟩ = some (.slice A0_1 l0_1.length c0_1) ∧ w'.cell? ⟨gb228, 2, none⟩ = some (.slice (some ad231) l0_2.length c0_2) ∧ w'.cell? (ad231.add ((a1).toNat * 2)) = some (.int .i64 ((rd_T62 l0_2 a1).f0)) ∧ w'.cell? ⟨(ad231.add ((a1).toNat * 2)).block, (ad231.add ((a1).toNat * 2)).off + 1, none⟩ = some (.slice A248_1 ((rd_T62 l0_2 a1).f1).length c248_1)) (ds := []) (.replicate 15 false) (by kernel_rfl) rfl rfl ⟨czz BK228.out 0, czz BK228.out 1, czz BK228.out 2, ((HB.out.cell  (World.block_lt_of_cell? w _ hw248_0)).trans hw248_0), ((HB.out.cell  (World.block_lt_of_cell? w _ hw248_1)).trans hw248_1)⟩ (fun hHeld => ?_); refine with_tabW sW.tab16 sW.bits16 (fun HT_ HW_ => ?_)
         generalize wc.drew = w77 at HO_16 HO_241000 HO_241001 BK228 BK229 BK230 BK240 HB HR248_1 hx248_0 hx248_1 hHeld ⊢
         refine pT 0 106 (bt 15 1) (k := ?_)
         refine pT 2 108 (bt 15 5) (k := ?_)
         refine pT 4 110 (bt 15 21) (k := ?_)
         refine pT 8 114 (bt 15 277) (k := ?_)
         refine tT5 1 107 (bt 15 279) hHeld (k := ?_)
         refine tT5 3 109 (bt 15 287) hHeld (k := ?_)
         refine pT 5 111 (bt 15 319) (k := ?_)
         refine pT 6 112 (bt 15 383) (k := ?_)
         refine tT5 7 113 (bt 15 511) hHeld (k := ?_)
         refine one_ (i := 9) (N := some 115) (bt 15 1023) rfl rfl (one_of HT_.out (by kernel_rfl)) (by decide) (fun K hK => ?_)
         refine goes_ Tryd.func43 (by kernel_rfl) rfl #[.agg #[.int .i64 a0_0, .slice A0_1 l0_1.length c0_1], .int .i64 ((rd_T62 l0_2 a1).f0), .int .i64 x17_1] (by rfl) rfl rfl TM ?_
         with_reducible refine (cycle_Struck.calls a0_0 _ _ l0_1 ((rd_T62 l0_2 a1).f0) x17_1 t249 t252 _ ?side1 ?side2 ?side3 A68.out).mono ?_
         (case side1 => exact TC HR0_1.out)
         (case side2 => exact HC0_1.out)
         (case side3 => exact Glob.fr HG.out (Fr.of_below (by repeat (first | (with_reducible first | exact HB.out | apply below_alloc | apply pw_below_drewN | apply below_drew1 | refine below_set ?_ GE228.out | refine below_set ?_ GE229.out | refine below_set ?_ GE230.out | refine below_set ?_ GE240.out) | exact HB.out))))
         rintro e w78 ⟨v250, rfl, ho0, hb⟩
         refine ⟨_, rfl, ?_⟩
         have n0_ := aS (Kd.R_below (TRo HO_16.out) hb)
         have n1_ := aS (Kd.R_below (TRo HO_241000.out) hb)
         have n2_ := aS (Kd.R_below (TRo HO_241001.out) hb)
         have n3_ := aS (Kd.V_lower (Kd.V_mono (ok' := fun k_ => some k_ ≠ (u16 : Value).ownBlock ∧ some k_ ≠ (u241000 : Value).ownBlock ∧ some k_ ≠ (u241001 : Value).ownBlock ∧ k_ ≠ gb228 ∧ k_ ≠ gb229 ∧ k_ ≠ gb230 ∧ k_ ≠ gb240) ho0 (fun k_ hk_ => ⟨(Kd.fresh' (Kd.R_lt (TRo HO_16.out)) k_ hk_), (Kd.fresh' (Kd.R_lt (TRo HO_241000.out)) k_ hk_), (Kd.fresh' (Kd.R_lt (TRo HO_241001.out)) k_ hk_), (Kd.freshB (g := gb228) (o := .cells #[.int .i64 a0_0, .slice A0_1 l0_1.length c0_1, .slice (some ad231) l0_2.length c0_2] 27 (0, 0)) (TK BK228.out) k_ hk_), (Kd.freshB (g := gb229) (o := .cells #[.int .i64 a2_0, .int .i64 a2_1] 43 (0, 0)) (TK BK229.out) k_ hk_), (Kd.freshB (g := gb230) (o := .cells #[.slice none 0 0, .slice none 0 0, .int .i64 0, .int .i64 0] 30 (0, 0)) (TK BK230.out) k_ hk_), (Kd.freshB (g := gb240) (o := .cells #[u241000, u241001, .int .i64 t237, .int .i64 t239] 30 (0, 0)) (TK BK240.out) k_ hk_)⟩)) (below_size (by repeat (first | (with_reducible first | exact HB.out | apply below_alloc | apply pw_below_drewN | apply below_drew1 | refine below_set ?_ GE228.out | refine below_set ?_ GE229.out | refine below_set ?_ GE230.out | refine below_set ?_ GE240.out) | exact HB.out))))
         have n4_ := aS (blk_below (g := gb228) (o := .cells #[.int .i64 a0_0, .slice A0_1 l0_1.length c0_1, .slice (some ad231) l0_2.length c0_2] 27 (0, 0)) (TK BK228.out) hb)
         have n5_ := aS (blk_below (g := gb229) (o := .cells #[.int .i64 a2_0, .int .i64 a2_1] 43 (0, 0)) (TK BK229.out) hb)
         have n6_ := aS (blk_below (g := gb230) (o := .cells #[.slice none 0 0, .slice none 0 0, .int .i64 0, .int .i64 0] 30 (0, 0)) (TK BK230.out) hb)
         have n7_ := aS (blk_below (g := gb240) (o := .cells #[u241000, u241001, .int .i64 t237, .int .i64 t239] 30 (0, 0)) (TK BK240.out) hb)
         have n8_ := aS (below_step (by repeat (first | (with_reducible first | exact HB.out | apply below_alloc | apply pw_below_drewN | apply below_drew1 | refine below_set ?_ GE228.out | refine below_set ?_ GE229.out | refine below_set ?_ GE230.out | refine below_set ?_ GE240.out) | exact HB.out)) hb)
         clear HO_16
         clear HO_241000
         clear HO_241001
         clear BK228
         clear BK229
         clear BK230
         clear BK240
         clear HB
         have HO_16 := n0_
         have HO_241000 := n1_
         have HO_241001 := n2_
         have HO251 := n3_
         have BK228 := n4_
         have BK229 := n5_
         have BK230 := n6_
         have BK240 := n7_
         have HB := n8_
         clear n0_ n1_ n2_ n3_ n4_ n5_ n6_ n7_ n8_
         (try clear hb)
         (try clear hb2)
         (try clear hk)
         (try clear hi)
         (try clear ho0)
         refine hK.out _ _ ⟨czz BK228.out 0, czz BK228.out 1, czz BK228.out 2, ((HB.out.cell  (World.block_lt_of_cell? w _ hw248_0)).trans hw248_0), ((HB.out.cell  (World.block_lt_of_cell? w _ hw248_1)).trans hw248_1)⟩ (fun hHeld => ?_)
         clear hK K
         refine norm_ (a' := ?_) ?_ ?_
         rotate_left
         ·show Act.put _ (some 115) _ = _
          simp only [Act.put, lA, lZ, lS, i64_w, i32_w]
          rfl
         refine pT 10 105 (bt 15 2047) (k := ?_)
         refine pT 11 116 (bt 15 4095) (k := ?_)
         refine pT 12 117 (bt 15 8191) (k := ?_)
         refine pT 13 19 (bt 15 16383) (k := ?_)
         refine pT 14 20 (bt 15 32767) (k := ?_)
         refine done_ (done_of HT_.out (by kernel_rfl)) ?_
         obtain ⟨Ao79, co79, eo79⟩ := Kd.V_slice HO251.out
         subst eo79
         try go_wp2_with (first | ((with_reducible refine gate_callee (f := 39) rfl ?_); refine goesL_ (some 119) rfl rfl Tryd.func39 (by kernel_rfl) rfl #[.slice Ao79 t249.length co79, .int .i64 0] rfl TM ?_; (with_reducible refine (saronref00_Where.calls kj59 _ _ t249 0 t253 _ ?side1 ?side2 A69.out).mono ?_); (case side1 => repeat (first | exact (Kd.V_reads' HO251.out).2.2 | (with_reducible refine Kd.C_alloc ?_ _) | (with_reducible refine Kd.C_drewN ?_ _) | (with_reducible refine Kd.C_drew ?_))); (case side2 => exact (Kd.V_reads' HO251.out).2.1); rintro e w' ⟨rfl, ⟨nd, rfl⟩⟩; refine ⟨_, rfl, ?_⟩; (try (rw [drewN_self w78]; generalize hq_ : World.drewN w78 _ = w78; have n0_ : Aside0 (Kd.V (Kd.int .i64) 3 w78 w.heap.size (fun k_ => some k_ ≠ (u16 : Value).ownBlock ∧ some k_ ≠ (u241000 : Value).ownBlock ∧ some k_ ≠ (u241001 : Value).ownBlock ∧ k_ ≠ gb228 ∧ k_ ≠ gb229 ∧ k_ ≠ gb230 ∧ k_ ≠ gb240) (.slice Ao79 t249.length co79) t249) := ⟨by rw [← hq_]; exact (by (with_reducible repeat (first | apply Kd.V_alloc | apply Kd.V_drewN | apply Kd.V_drew)); exact HO251.out)⟩; have n1_ : Aside0 (Kd.R (Kd.int .i64) 3 w78 w.heap.size (fun k_ => some k_ ≠ (u241000 : Value).ownBlock ∧ some k_ ≠ (u241001 : Value).ownBlock) u16 x16_1) := ⟨by rw [← hq_]; exact (TRo HO_16.out)⟩; have n2_ : Aside0 (Kd.R (Kd.int .i64) 3 w78 w.heap.size (fun k_ => some k_ ≠ (u16 : Value).ownBlock ∧ some k_ ≠ (u241001 : Value).ownBlock) u241000 x241000_1) := ⟨by rw [← hq_]; exact (TRo HO_241000.out)⟩; have n3_ : Aside0 (Kd.R (Kd.int .i64) 3 w78 w.heap.size (fun k_ => some k_ ≠ (u16 : Value).ownBlock ∧ some k_ ≠ (u241000 : Value).ownBlock) u241001 x241001_1) := ⟨by rw [← hq_]; exact (TRo HO_241001.out)⟩; have n4_ : Aside0 (w78.heap[gb228]? = some (.cells #[.int .i64 a0_0, .slice A0_1 l0_1.length c0_1, .slice (some ad231) l0_2.length c0_2] 27 (0, 0))) := ⟨by rw [← hq_]; exact (TK BK228.out)⟩; have n5_ : Aside0 (w78.heap[gb229]? = some (.cells #[.int .i64 a2_0, .int .i64 a2_1] 43 (0, 0))) := ⟨by rw [← hq_]; exact (TK BK229.out)⟩; have n6_ : Aside0 (w78.heap[gb230]? = some (.cells #[.slice none 0 0, .slice none 0 0, .int .i64 0, .int .i64 0] 30 (0, 0))) := ⟨by rw [← hq_]; exact (TK BK230.out)⟩; have n7_ : Aside0 (w78.heap[gb240]? = some (.cells #[u241000, u241001, .int .i64 t237, .int .i64 t239] 30 (0, 0))) := ⟨by rw [← hq_]; exact (TK BK240.out)⟩; have n8_ : Aside0 (Below w.heap.size w w78) := ⟨by rw [← hq_]; exact (by repeat (first | (with_reducible first | exact HB.out | apply below_alloc | apply pw_below_drewN | apply below_drew1 | refine below_set ?_ GE228.out | refine below_set ?_ GE229.out | refine below_set ?_ GE230.out | refine below_set ?_ GE240.out) | exact HB.out))⟩; clear HO251 HO_16 HO_241000 HO_241001 BK228 BK229 BK230 BK240 HB hq_; have HO251 := n0_; have HO_16 := n1_; have HO_241000 := n2_; have HO_241001 := n3_; have BK228 := n4_; have BK229 := n5_; have BK230 := n6_; have BK240 := n7_; have HB := n8_; clear n0_ n1_ n2_ n3_ n4_ n5_ n6_ n7_ n8_)); have hczq228_0 : w78.cell? ⟨gb228, 0, none⟩ = some (.int .i64 a0_0) := czz BK228.out 0; have hfzq228_0 := fz BK228.out 0; have hczq228_1 : w78.cell? ⟨gb228, 1, none⟩ = some (.slice A0_1 l0_1.length c0_1) := czz BK228.out 1; have hfzq228_1 := fz BK228.out 1; have hczq228_2 : w78.cell? ⟨gb228, 2, none⟩ = some (.slice (some ad231) l0_2.length c0_2) := czz BK228.out 2; have hfzq228_2 := fz BK228.out 2; have hczq229_0 : w78.cell? ⟨gb229, 0, none⟩ = some (.int .i64 a2_0) := czz BK229.out 0; have hfzq229_0 := fz BK229.out 0; have hczq229_1 : w78.cell? ⟨gb229, 1, none⟩ = some (.int .i64 a2_1) := czz BK229.out 1; have hfzq229_1 := fz BK229.out 1; have hczq230_0 : w78.cell? ⟨gb230, 0, none⟩ = some (.slice none 0 0) := czz BK230.out 0; have hfzq230_0 := fz BK230.out 0; have hczq230_1 : w78.cell? ⟨gb230, 1, none⟩ = some (.slice none 0 0) := czz BK230.out 1; have hfzq230_1 := fz BK230.out 1; have hczq230_2 : w78.cell? ⟨gb230, 2, none⟩ = some (.int .i64 0) := czz BK230.out 2; have hfzq230_2 := fz BK230.out 2; have hczq230_3 : w78.cell? ⟨gb230, 3, none⟩ = some (.int .i64 0) := czz BK230.out 3; have hfzq230_3 := fz BK230.out 3; have hczq240_0 : w78.cell? ⟨gb240, 0, none⟩ = some (u241000) := czz BK240.out 0; have hfzq240_0 := fz BK240.out 0; have hczq240_1 : w78.cell? ⟨gb240, 1, none⟩ = some (u241001) := czz BK240.out 1; have hfzq240_1 := fz BK240.out 1; have hczq240_2 : w78.cell? ⟨gb240, 2, none⟩ = some (.int .i64 t237) := czz BK240.out 2; have hfzq240_2 := fz BK240.out 2; have hczq240_3 : w78.cell? ⟨gb240, 3, none⟩ = some (.int .i64 t239) := czz BK240.out 3; have hfzq240_3 := fz BK240.out 3) | (go_at_call 76; (with_reducible refine (saronref00_Nth.calls _ _ l3 (wrap64 (x17_1 + 3)) t254 _ ?side1 ?side2 A71.out).mono ?_); (case side1 => exact TC HR3.out); (case side2 => exact HC3.out); rintro e w' ⟨rfl, ⟨nd, rfl⟩⟩; (try (rw [drewN_self w78]; generalize hq_ : World.drewN w78 _ = w78; have n0_ : Aside0 (Kd.V (Kd.int .i64) 3 w78 w.heap.size (fun k_ => some k_ ≠ (u16 : Value).ownBlock ∧ some k_ ≠ (u241000 : Value).ownBlock ∧ some k_ ≠ (u241001 : Value).ownBlock ∧ k_ ≠ gb228 ∧ k_ ≠ gb229 ∧ k_ ≠ gb230 ∧ k_ ≠ gb240) (.slice Ao79 t249.length co79) t249) := ⟨by rw [← hq_]; exact (by (with_reducible repeat (first | apply Kd.V_alloc | apply Kd.V_drewN | apply Kd.V_drew)); exact HO251.out)⟩; have n1_ : Aside0 (Kd.R (Kd.int .i64) 3 w78 w.heap.size (fun k_ => some k_ ≠ (u241000 : Value).ownBlock ∧ some k_ ≠ (u241001 : Value).ownBlock) u16 x16_1) := ⟨by rw [← hq_]; exact (TRo HO_16.out)⟩; have n2_ : Aside0 (Kd.R (Kd.int .i64) 3 w78 w.heap.size (fun k_ => some k_ ≠ (u16 : Value).ownBlock ∧ some k_ ≠ (u241001 : Value).ownBlock) u241000 x241000_1) := ⟨by rw [← hq_]; exact (TRo HO_241000.out)⟩; have n3_ : Aside0 (Kd.R (Kd.int .i64) 3 w78 w.heap.size (fun k_ => some k_ ≠ (u16 : Value).ownBlock ∧ some k_ ≠ (u241000 : Value).ownBlock) u241001 x241001_1) := ⟨by rw [← hq_]; exact (TRo HO_241001.out)⟩; have n4_ : Aside0 (w78.heap[gb228]? = some (.cells #[.int .i64 a0_0, .slice A0_1 l0_1.length c0_1, .slice (some ad231) l0_2.length c0_2] 27 (0, 0))) := ⟨by rw [← hq_]; exact (TK BK228.out)⟩; have n5_ : Aside0 (w78.heap[gb229]? = some (.cells #[.int .i64 a2_0, .int .i64 a2_1] 43 (0, 0))) := ⟨by rw [← hq_]; exact (TK BK229.out)⟩; have n6_ : Aside0 (w78.heap[gb230]? = some (.cells #[.slice none 0 0, .slice none 0 0, .int .i64 0, .int .i64 0] 30 (0, 0))) := ⟨by rw [← hq_]; exact (TK BK230.out)⟩; have n7_ : Aside0 (w78.heap[gb240]? = some (.cells #[u241000, u241001, .int .i64 t237, .int .i64 t239] 30 (0, 0))) := ⟨by rw [← hq_]; exact (TK BK240.out)⟩; have n8_ : Aside0 (Below w.heap.size w w78) := ⟨by rw [← hq_]; exact (by repeat (first | (with_reducible first | exact HB.out | apply below_alloc | apply pw_below_drewN | apply below_drew1 | refine below_set ?_ GE228.out | refine below_set ?_ GE229.out | refine below_set ?_ GE230.out | refine below_set ?_ GE240.out) | exact HB.out))⟩; clear HO251 HO_16 HO_241000 HO_241001 BK228 BK229 BK230 BK240 HB hq_; have HO251 := n0_; have HO_16 := n1_; have HO_241000 := n2_; have HO_241001 := n3_; have BK228 := n4_; have BK229 := n5_; have BK230 := n6_; have BK240 := n7_; have HB := n8_; clear n0_ n1_ n2_ n3_ n4_ n5_ n6_ n7_ n8_)); have hczq228_0 : w78.cell? ⟨gb228, 0, none⟩ = some (.int .i64 a0_0) := czz BK228.out 0; have hfzq228_0 := fz BK228.out 0; have hczq228_1 : w78.cell? ⟨gb228, 1, none⟩ = some (.slice A0_1 l0_1.length c0_1) := czz BK228.out 1; have hfzq228_1 := fz BK228.out 1; have hczq228_2 : w78.cell? ⟨gb228, 2, none⟩ = some (.slice (some ad231) l0_2.length c0_2) := czz BK228.out 2; have hfzq228_2 := fz BK228.out 2; have hczq229_0 : w78.cell? ⟨gb229, 0, none⟩ = some (.int .i64 a2_0) := czz BK229.out 0; have hfzq229_0 := fz BK229.out 0; have hczq229_1 : w78.cell? ⟨gb229, 1, none⟩ = some (.int .i64 a2_1) := czz BK229.out 1; have hfzq229_1 := fz BK229.out 1; have hczq230_0 : w78.cell? ⟨gb230, 0, none⟩ = some (.slice none 0 0) := czz BK230.out 0; have hfzq230_0 := fz BK230.out 0; have hczq230_1 : w78.cell? ⟨gb230, 1, none⟩ = some (.slice none 0 0) := czz BK230.out 1; have hfzq230_1 := fz BK230.out 1; have hczq230_2 : w78.cell? ⟨gb230, 2, none⟩ = some (.int .i64 0) := czz BK230.out 2; have hfzq230_2 := fz BK230.out 2; have hczq230_3 : w78.cell? ⟨gb230, 3, none⟩ = some (.int .i64 0) := czz BK230.out 3; have hfzq230_3 := fz BK230.out 3; have hczq240_0 : w78.cell? ⟨gb240, 0, none⟩ = some (u241000) := czz BK240.out 0; have hfzq240_0 := fz BK240.out 0; have hczq240_1 : w78.cell? ⟨gb240, 1, none⟩ = some (u241001) := czz BK240.out 1; have hfzq240_1 := fz BK240.out 1; have hczq240_2 : w78.cell? ⟨gb240, 2, none⟩ = some (.int .i64 t237) := czz BK240.out 2; have hfzq240_2 := fz BK240.out 2; have hczq240_3 : w78.cell? ⟨gb240, 3, none⟩ = some (.int .i64 t239) := czz BK240.out 3; have hfzq240_3 := fz BK240.out 3) | (go_at_call 37; (with_reducible refine (saronref00_Turn.calls t254 2 t255 _ A72.out).mono ?_); rintro e w' ⟨rfl, ⟨nd, rfl⟩⟩; (try (rw [drewN_self w78]; generalize hq_ : World.drewN w78 _ = w78; have n0_ : Aside0 (Kd.V (Kd.int .i64) 3 w78 w.heap.size (fun k_ => some k_ ≠ (u16 : Value).ownBlock ∧ some k_ ≠ (u241000 : Value).ownBlock ∧ some k_ ≠ (u241001 : Value).ownBlock ∧ k_ ≠ gb228 ∧ k_ ≠ gb229 ∧ k_ ≠ gb230 ∧ k_ ≠ gb240) (.slice Ao79 t249.length co79) t249) := ⟨by rw [← hq_]; exact (by (with_reducible repeat (first | apply Kd.V_alloc | apply Kd.V_drewN | apply Kd.V_drew)); exact HO251.out)⟩; have n1_ : Aside0 (Kd.R (Kd.int .i64) 3 w78 w.heap.size (fun k_ => some k_ ≠ (u241000 : Value).ownBlock ∧ some k_ ≠ (u241001 : Value).ownBlock) u16 x16_1) := ⟨by rw [← hq_]; exact (TRo HO_16.out)⟩; have n2_ : Aside0 (Kd.R (Kd.int .i64) 3 w78 w.heap.size (fun k_ => some k_ ≠ (u16 : Value).ownBlock ∧ some k_ ≠ (u241001 : Value).ownBlock) u241000 x241000_1) := ⟨by rw [← hq_]; exact (TRo HO_241000.out)⟩; have n3_ : Aside0 (Kd.R (Kd.int .i64) 3 w78 w.heap.size (fun k_ => some k_ ≠ (u16 : Value).ownBlock ∧ some k_ ≠ (u241000 : Value).ownBlock) u241001 x241001_1) := ⟨by rw [← hq_]; exact (TRo HO_241001.out)⟩; have n4_ : Aside0 (w78.heap[gb228]? = some (.cells #[.int .i64 a0_0, .slice A0_1 l0_1.length c0_1, .slice (some ad231) l0_2.length c0_2] 27 (0, 0))) := ⟨by rw [← hq_]; exact (TK BK228.out)⟩; have n5_ : Aside0 (w78.heap[gb229]? = some (.cells #[.int .i64 a2_0, .int .i64 a2_1] 43 (0, 0))) := ⟨by rw [← hq_]; exact (TK BK229.out)⟩; have n6_ : Aside0 (w78.heap[gb230]? = some (.cells #[.slice none 0 0, .slice none 0 0, .int .i64 0, .int .i64 0] 30 (0, 0))) := ⟨by rw [← hq_]; exact (TK BK230.out)⟩; have n7_ : Aside0 (w78.heap[gb240]? = some (.cells #[u241000, u241001, .int .i64 t237, .int .i64 t239] 30 (0, 0))) := ⟨by rw [← hq_]; exact (TK BK240.out)⟩; have n8_ : Aside0 (Below w.heap.size w w78) := ⟨by rw [← hq_]; exact (by repeat (first | (with_reducible first | exact HB.out | apply below_alloc | apply pw_below_drewN | apply below_drew1 | refine below_set ?_ GE228.out | refine below_set ?_ GE229.out | refine below_set ?_ GE230.out | refine below_set ?_ GE240.out) | exact HB.out))⟩; clear HO251 HO_16 HO_241000 HO_241001 BK228 BK229 BK230 BK240 HB hq_; have HO251 := n0_; have HO_16 := n1_; have HO_241000 := n2_; have HO_241001 := n3_; have BK228 := n4_; have BK229 := n5_; have BK230 := n6_; have BK240 := n7_; have HB := n8_; clear n0_ n1_ n2_ n3_ n4_ n5_ n6_ n7_ n8_)); have hczq228_0 : w78.cell? ⟨gb228, 0, none⟩ = some (.int .i64 a0_0) := czz BK228.out 0; have hfzq228_0 := fz BK228.out 0; have hczq228_1 : w78.cell? ⟨gb228, 1, none⟩ = some (.slice A0_1 l0_1.length c0_1) := czz BK228.out 1; have hfzq228_1 := fz BK228.out 1; have hczq228_2 : w78.cell? ⟨gb228, 2, none⟩ = some (.slice (some ad231) l0_2.length c0_2) := czz BK228.out 2; have hfzq228_2 := fz BK228.out 2; have hczq229_0 : w78.cell? ⟨gb229, 0, none⟩ = some (.int .i64 a2_0) := czz BK229.out 0; have hfzq229_0 := fz BK229.out 0; have hczq229_1 : w78.cell? ⟨gb229, 1, none⟩ = some (.int .i64 a2_1) := czz BK229.out 1; have hfzq229_1 := fz BK229.out 1; have hczq230_0 : w78.cell? ⟨gb230, 0, none⟩ = some (.slice none 0 0) := czz BK230.out 0; have hfzq230_0 := fz BK230.out 0; have hczq230_1 : w78.cell? ⟨gb230, 1, none⟩ = some (.slice none 0 0) := czz BK230.out 1; have hfzq230_1 := fz BK230.out 1; have hczq230_2 : w78.cell? ⟨gb230, 2, none⟩ = some (.int .i64 0) := czz BK230.out 2; have hfzq230_2 := fz BK230.out 2; have hczq230_3 : w78.cell? ⟨gb230, 3, none⟩ = some (.int .i64 0) := czz BK230.out 3; have hfzq230_3 := fz BK230.out 3; have hczq240_0 : w78.cell? ⟨gb240, 0, none⟩ = some (u241000) := czz BK240.out 0; have hfzq240_0 := fz BK240.out 0; have hczq240_1 : w78.cell? ⟨gb240, 1, none⟩ = some (u241001) := czz BK240.out 1; have hfzq240_1 := fz BK240.out 1; have hczq240_2 : w78.cell? ⟨gb240, 2, none⟩ = some (.int .i64 t237) := czz BK240.out 2; have hfzq240_2 := fz BK240.out 2; have hczq240_3 : w78.cell? ⟨gb240, 3, none⟩ = some (.int .i64 t239) := czz BK240.out 3; have hfzq240_3 := fz BK240.out 3; have hnb80 := NB240_228.out; have hnc80 := NB228_240.out; have hnb81 := NB240_229.out; have hnc81 := NB229_240.out; have hnb82 := NB240_230.out; have hnc82 := NB230_240.out; have hcz83_0 := czz BK240.out 0; have hcz83_1 := czz BK240.out 1; have hcz83_2 := czz BK240.out 2; have hcz83_3 := czz BK240.out 3; have hfz83_0 := fz BK240.out 0; have hfz83_1 := fz BK240.out 1; have hfz83_2 := fz BK240.out 2; have hfz83_3 := fz BK240.out 3; obtain ⟨Ao84, co84, eo84⟩ := Kd.R_slice HO_241000.out; subst eo84) | ((with_reducible refine gate_builtin (b := .append) (xs := #[.tmp 130, .tmp 134]) rfl ?_); at_builtin; refine Kd.R_append (Kd.int .i64) (w0 := w) w.heap.size rfl (.tmp 130) (.tmp 134) 28 3 (.int .i64 0) 8 rfl Tryd.underlying28 info3 rfl (by decide) (by omega) u241001 x241001_1 (x241000_1.length : Int) [.int .i64 (x241000_1.length : Int)] (fun k_ => some k_ ≠ (u16 : Value).ownBlock ∧ some k_ ≠ (.slice Ao84 x241000_1.length co84 : Value).ownBlock) (fun _ => False) rfl rfl ?aP (fun _ hk => hk.elim) ?aF ?aO ?aB ?aS ?aL ?_; (case aP => exact rfl); (case aB => exact (by repeat (first | (with_reducible first | exact HB.out | apply below_alloc | apply pw_below_drewN | apply below_drew1 | refine below_set ?_ GE228.out | refine below_set ?_ GE229.out | refine below_set ?_ GE230.out | refine below_set ?_ GE240.out) | exact HB.out))); (case aF => exact (fun k_ hk => ⟨Kd.fresh' (Kd.R_lt (TRo HO_16.out)) k_ hk, Kd.fresh' (Kd.R_lt (TRo HO_241000.out)) k_ hk⟩)); (case aO => exact (TRo HO_241001.out)); (case aS => exact (below_size (by repeat (first | (with_reducible first | exact HB.out | apply below_alloc | apply pw_below_drewN | apply below_drew1 | refine below_set ?_ GE228.out | refine below_set ?_ GE229.out | refine below_set ?_ GE230.out | refine below_set ?_ GE240.out) | exact HB.out)))); (case aL => have := LMc74.out; omega); intro v257 w85 ho hb hg hat; rw [← Ny256.out] at ho; have HO258 := aS (ho); replace HO_16 := aS (Kd.R_after (ok := (fun k_ => some k_ ≠ (.slice Ao84 x241000_1.length co84 : Value).ownBlock)) (TRo HO_16.out) hg hat); replace HO_241000 := aS (Kd.R_after (ok := (fun k_ => some k_ ≠ (u16 : Value).ownBlock)) (TRo HO_241000.out) hg hat); replace BK228 := aS (blk_grown (g := gb228) (o := .cells #[.int .i64 a0_0, .slice A0_1 l0_1.length c0_1, .slice (some ad231) l0_2.length c0_2] 27 (0, 0)) (TK BK228.out) hg (Kd.R_ne HO_241001.out BK228.out (by decide))); replace BK229 := aS (blk_grown (g := gb229) (o := .cells #[.int .i64 a2_0, .int .i64 a2_1] 43 (0, 0)) (TK BK229.out) hg (Kd.R_ne HO_241001.out BK229.out (by decide))); replace BK230 := aS (blk_grown (g := gb230) (o := .cells #[.slice none 0 0, .slice none 0 0, .int .i64 0, .int .i64 0] 30 (0, 0)) (TK BK230.out) hg (Kd.R_ne HO_241001.out BK230.out (by decide))); replace BK240 := aS (blk_grown (g := gb240) (o := .cells #[.slice Ao84 x241000_1.length co84, u241001, .int .i64 t237, .int .i64 t239] 30 (0, 0)) (TK BK240.out) hg (Kd.R_ne HO_241001.out BK240.out (by decide))); replace HO251 := aS (Kd.V_afterv (ok := (fun k_ => some k_ ≠ (u16 : Value).ownBlock ∧ some k_ ≠ (.slice Ao84 x241000_1.length co84 : Value).ownBlock ∧ k_ ≠ gb228 ∧ k_ ≠ gb229 ∧ k_ ≠ gb230 ∧ k_ ≠ gb240)) (by (with_reducible repeat (first | apply Kd.V_alloc | apply Kd.V_drewN | apply Kd.V_drew)); exact Kd.V_mono HO251.out (fun _ hk => ⟨⟨hk.1, ⟨hk.2.1, ⟨hk.2.2.2.1, ⟨hk.2.2.2.2.1, ⟨hk.2.2.2.2.2.1, hk.2.2.2.2.2.2⟩⟩⟩⟩⟩, hk.2.2.1⟩)) hg hat); replace HB := aS (hb); clear HO_241001; clear ho hb hg hat; obtain ⟨Ao86, co86, eo86⟩ := Kd.R_slice HO258.out; subst eo86; have hcz87_0 := czz BK240.out 0; have hcz87_1 := czz BK240.out 1; have hcz87_2 := czz BK240.out 2; have hcz87_3 := czz BK240.out 3; have hfz87_0 := fz BK240.out 0; have hfz87_1 := fz BK240.out 1; have hfz87_2 := fz BK240.out 2; have hfz87_3 := fz BK240.out 3) | ((with_reducible refine gate_builtin (b := .append) (xs := #[.tmp 138, .tmp 140]) rfl ?_); at_builtin; refine Kd.R_append (Kd.int .i64) (w0 := w) w.heap.size rfl (.tmp 138) (.tmp 140) 28 3 (.int .i64 0) 8 rfl Tryd.underlying28 info3 rfl (by decide) (by omega) (.slice Ao84 x241000_1.length co84) x241000_1 x18_59 [.int .i64 x18_59] (fun k_ => some k_ ≠ (u16 : Value).ownBlock ∧ some k_ ≠ (.slice Ao86 y256.length co86 : Value).ownBlock) (fun _ => False) rfl (by first | (go_simp; done) | (go_simp; rfl)) ?aP (fun _ hk => hk.elim) ?aF ?aO ?aB ?aS ?aL ?_; (case aP => exact rfl); (case aB => exact (by repeat (first | (with_reducible first | exact HB.out | apply below_alloc | apply pw_below_drewN | apply below_drew1 | refine below_set ?_ GE228.out | refine below_set ?_ GE229.out | refine below_set ?_ GE230.out | refine below_set ?_ GE240.out) | exact HB.out))); (case aF => exact (fun k_ hk => ⟨Kd.fresh' (Kd.R_lt (by (with_reducible repeat (first | apply Kd.R_alloc | apply Kd.R_drewN | apply Kd.R_drew)); exact (Kd.R_mono (Kd.R_far (p := ⟨gb240, 1, none⟩) (Kd.R_types HO_16.out BK240.out (by decide)) (fun _ hk => hk.2) (.slice Ao86 y256.length co86)) (fun _ h_ => h_.1)))) k_ hk, Kd.fresh' (Kd.R_lt (by (with_reducible repeat (first | apply Kd.R_alloc | apply Kd.R_drewN | apply Kd.R_drew)); exact (Kd.R_mono (Kd.R_far (p := ⟨gb240, 1, none⟩) (Kd.R_types HO258.out BK240.out (by decide)) (fun _ hk => hk.2) (.slice Ao86 y256.length co86)) (fun _ h_ => h_.1)))) k_ hk⟩)); (case aO => exact (by (with_reducible repeat (first | apply Kd.R_alloc | apply Kd.R_drewN | apply Kd.R_drew)); exact Kd.R_mono (Kd.R_far (p := ⟨gb240, 1, none⟩) (Kd.R_types HO_241000.out BK240.out (by decide)) (fun _ hk => hk.2) (.slice Ao86 y256.length co86)) (fun _ hk => ⟨hk.1.1, hk.1.2⟩))); (case aS => exact (below_size (by repeat (first | (with_reducible first | exact HB.out | apply below_alloc | apply pw_below_drewN | apply below_drew1 | refine below_set ?_ GE228.out | refine below_set ?_ GE229.out | refine below_set ?_ GE230.out | refine below_set ?_ GE240.out) | exact HB.out)))); (case aL => have := LMc75.out; omega); intro v260 w88 ho hb hg hat; rw [← Ny259.out] at ho; have HO261 := aS (ho); replace HO_16 := aS (Kd.R_after (ok := (fun k_ => some k_ ≠ (.slice Ao86 y256.length co86 : Value).ownBlock)) (by (with_reducible repeat (first | apply Kd.R_alloc | apply Kd.R_drewN | apply Kd.R_drew)); exact Kd.R_mono (Kd.R_far (p := ⟨gb240, 1, none⟩) (Kd.R_types HO_16.out BK240.out (by decide)) (fun _ hk => hk.2) (.slice Ao86 y256.length co86)) (fun _ hk => ⟨hk.1.2, hk.1.1⟩)) hg hat); replace BK228 := aS (blk_grown (g := gb228) (o := .cells #[.int .i64 a0_0, .slice A0_1 l0_1.length c0_1, .slice (some ad231) l0_2.length c0_2] 27 (0, 0)) (by (with_reducible repeat (first | refine blk_drewN ?_ _ | refine blk_drew ?_ | refine blk_alloc ?_ _)); refine blk_far ?_ NB228_240.out _; (with_reducible repeat (first | refine blk_drewN ?_ _ | refine blk_drew ?_ | refine blk_alloc ?_ _)); exact BK228.out) hg (Kd.R_ne HO_241000.out BK228.out (by decide))); replace BK229 := aS (blk_grown (g := gb229) (o := .cells #[.int .i64 a2_0, .int .i64 a2_1] 43 (0, 0)) (by (with_reducible repeat (first | refine blk_drewN ?_ _ | refine blk_drew ?_ | refine blk_alloc ?_ _)); refine blk_far ?_ NB229_240.out _; (with_reducible repeat (first | refine blk_drewN ?_ _ | refine blk_drew ?_ | refine blk_alloc ?_ _)); exact BK229.out) hg (Kd.R_ne HO_241000.out BK229.out (by decide))); replace BK230 := aS (blk_grown (g := gb230) (o := .cells #[.slice none 0 0, .slice none 0 0, .int .i64 0, .int .i64 0] 30 (0, 0)) (by (with_reducible repeat (first | refine blk_drewN ?_ _ | refine blk_drew ?_ | refine blk_alloc ?_ _)); refine blk_far ?_ NB230_240.out _; (with_reducible repeat (first | refine blk_drewN ?_ _ | refine blk_drew ?_ | refine blk_alloc ?_ _)); exact BK230.out) hg (Kd.R_ne HO_241000.out BK230.out (by decide))); replace HO251 := aS (Kd.V_afterv (ok := (fun k_ => some k_ ≠ (u16 : Value).ownBlock ∧ some k_ ≠ (.slice Ao86 y256.length co86 : Value).ownBlock ∧ k_ ≠ gb228 ∧ k_ ≠ gb229 ∧ k_ ≠ gb230 ∧ k_ ≠ gb240)) (by (with_reducible repeat (first | apply Kd.V_alloc | apply Kd.V_drewN | apply Kd.V_drew)); exact Kd.V_mono (Kd.V_far (p := ⟨gb240, 1, none⟩) (Kd.V_mono HO251.out (fun k_ hk => (⟨hk, hk.1.2.2.2.2.2⟩ : _ ∧ k_ ≠ gb240))) (fun _ hk => hk.2) (.slice Ao86 y256.length co86)) (fun _ hk => ⟨⟨hk.1.1.1, ⟨hk.1.2, ⟨hk.1.1.2.2.1, ⟨hk.1.1.2.2.2.1, ⟨hk.1.1.2.2.2.2.1, hk.1.1.2.2.2.2.2⟩⟩⟩⟩⟩, hk.1.1.2.1⟩)) hg hat); replace HO258 := aS (Kd.R_after (ok := (fun k_ => some k_ ≠ (u16 : Value).ownBlock)) (by (with_reducible repeat (first | apply Kd.R_alloc | apply Kd.R_drewN | apply Kd.R_drew)); exact Kd.R_mono (Kd.R_far (p := ⟨gb240, 1, none⟩) (Kd.R_types HO258.out BK240.out (by decide)) (fun _ hk => hk.2) (.slice Ao86 y256.length co86)) (fun _ hk => ⟨hk.1.1, hk.1.2⟩)) hg hat); replace BK240 := aS (blk_grown (g := gb240) (o := .cells #[.slice Ao84 x241000_1.length co84, .slice Ao86 y256.length co86, .int .i64 t237, .int .i64 t239] 30 (0, 0)) (by (with_reducible repeat (first | refine blk_drewN ?_ _ | refine blk_drew ?_ | refine blk_alloc ?_ _)); refine blk_put (cs := #[.slice Ao84 x241000_1.length co84, u241001, .int .i64 t237, .int .i64 t239]) ?_ 1 _ rfl; (with_reducible repeat (first | refine blk_drewN ?_ _ | refine blk_drew ?_ | refine blk_alloc ?_ _)); exact BK240.out) hg (Kd.R_ne HO_241000.out BK240.out (by decide))); replace HB := aS (hb); clear HO_241000; clear ho hb hg hat) | ((with_reducible refine gate_builtin (b := .append) (xs := #[.tmp 142, .tmp 144]) rfl ?_); at_builtin; refine Kd.R_append (Kd.int .i64) (w0 := w) w.heap.size rfl (.tmp 142) (.tmp 144) 28 3 (.int .i64 0) 8 rfl Tryd.underlying28 info3 rfl (by decide) (by omega) u16 x16_1 x17_1 [.int .i64 x17_1] (fun k_ => some k_ ≠ (.slice Ao86 y256.length co86 : Value).ownBlock ∧ some k_ ≠ (v260 : Value).ownBlock) (fun _ => False) rfl rfl ?aP (fun _ hk => hk.elim) ?aF ?aO ?aB ?aS ?aL ?_; (case aP => exact rfl); (case aB => exact (by repeat (first | (with_reducible first | exact HB.out | apply below_alloc | apply pw_below_drewN | apply below_drew1 | refine below_set ?_ GE228.out | refine below_set ?_ GE229.out | refine below_set ?_ GE230.out | refine below_set ?_ GE240.out) | exact HB.out))); (case aF => exact (fun k_ hk => ⟨Kd.fresh' (Kd.R_lt (TRo HO258.out)) k_ hk, Kd.fresh' (Kd.R_lt (TRo HO261.out)) k_ hk⟩)); (case aO => exact (TRo HO_16.out)); (case aS => exact (below_size (by repeat (first | (with_reducible first | exact HB.out | apply below_alloc | apply pw_below_drewN | apply below_drew1 | refine below_set ?_ GE228.out | refine below_set ?_ GE229.out | refine below_set ?_ GE230.out | refine below_set ?_ GE240.out) | exact HB.out)))); (case aL => have := LMc76.out; omega); intro v263 w89 ho hb hg hat; rw [← Ny262.out] at ho; have HO264 := aS (ho); replace BK228 := aS (blk_grown (g := gb228) (o := .cells #[.int .i64 a0_0, .slice A0_1 l0_1.length c0_1, .slice (some ad231) l0_2.length c0_2] 27 (0, 0)) (TK BK228.out) hg (Kd.R_ne HO_16.out BK228.out (by decide))); replace BK229 := aS (blk_grown (g := gb229) (o := .cells #[.int .i64 a2_0, .int .i64 a2_1] 43 (0, 0)) (TK BK229.out) hg (Kd.R_ne HO_16.out BK229.out (by decide))); replace BK230 := aS (blk_grown (g := gb230) (o := .cells #[.slice none 0 0, .slice none 0 0, .int .i64 0, .int .i64 0] 30 (0, 0)) (TK BK230.out) hg (Kd.R_ne HO_16.out BK230.out (by decide))); replace BK240 := aS (blk_grown (g := gb240) (o := .cells #[.slice Ao84 x241000_1.length co84, .slice Ao86 y256.length co86, .int .i64 t237, .int .i64 t239] 30 (0, 0)) (TK BK240.out) hg (Kd.R_ne HO_16.out BK240.out (by decide))); replace HO251 := aS (Kd.V_afterv (ok := (fun k_ => some k_ ≠ (.slice Ao86 y256.length co86 : Value).ownBlock ∧ some k_ ≠ (v260 : Value).ownBlock ∧ k_ ≠ gb228 ∧ k_ ≠ gb229 ∧ k_ ≠ gb230 ∧ k_ ≠ gb240)) (by (with_reducible repeat (first | apply Kd.V_alloc | apply Kd.V_drewN | apply Kd.V_drew)); exact Kd.V_mono HO251.out (fun _ hk => ⟨⟨hk.1.2.1, ⟨hk.2, ⟨hk.1.2.2.1, ⟨hk.1.2.2.2.1, ⟨hk.1.2.2.2.2.1, hk.1.2.2.2.2.2⟩⟩⟩⟩⟩, hk.1.1⟩)) hg hat); replace HO258 := aS (Kd.R_after (ok := (fun k_ => some k_ ≠ (v260 : Value).ownBlock)) (by (with_reducible repeat (first | apply Kd.R_alloc | apply Kd.R_drewN | apply Kd.R_drew)); exact Kd.R_mono HO258.out (fun _ hk => ⟨hk.2, hk.1⟩)) hg hat); replace HO261 := aS (Kd.R_after (ok := (fun k_ => some k_ ≠ (.slice Ao86 y256.length co86 : Value).ownBlock)) (by (with_reducible repeat (first | apply Kd.R_alloc | apply Kd.R_drewN | apply Kd.R_drew)); exact Kd.R_mono HO261.out (fun _ hk => ⟨hk.2, hk.1⟩)) hg hat); replace HB := aS (hb); clear HO_16; clear ho hb hg hat; obtain ⟨Ao90, co90, eo90⟩ := Kd.R_slice HO261.out; subst eo90; have hcz91_0 := czz BK240.out 0; have hcz91_1 := czz BK240.out 1; have hcz91_2 := czz BK240.out 2; have hcz91_3 := czz BK240.out 3; have hfz91_0 := fz BK240.out 0; have hfz91_1 := fz BK240.out 1; have hfz91_2 := fz BK240.out 2; have hfz91_3 := fz BK240.out 3))
         go_roundg kj59
         case measure => have := HK1.out; have := HJ30.out; have := HJ47.out; have := HJ59.out; omega
         case rel => exact ⟨(x14_1), (x15_59), (y262), (wrap64 (x17_1 + 1)), (y259), (y256), (.slice Ao90 y259.length co90), (.slice Ao86 y256.length co86), TT, TT, TT, H', ⟨by have := HK1.out; have := HJ30.out; have := HJ47.out; have := HJ59.out; omega⟩, ⟨by (with_reducible repeat (first | apply Kd.R_alloc | apply Kd.R_drewN | apply Kd.R_drew)); exact Kd.R_mono (Kd.R_far (p := ⟨gb240, 0, none⟩) (Kd.R_types HO264.out BK240.out (by decide)) (fun _ hk => hk.2) (.slice Ao90 y259.length co90)) (fun _ hk => ⟨hk.1.2, hk.1.1⟩)⟩, ⟨by (with_reducible repeat (first | apply Kd.R_alloc | apply Kd.R_drewN | apply Kd.R_drew)); exact Kd.R_mono (Kd.R_far (p := ⟨gb240, 0, none⟩) (Kd.R_types HO261.out BK240.out (by decide)) (fun _ hk => hk.2) (.slice Ao90 y259.length co90)) (fun _ hk => ⟨hk.1.2, hk.1.1⟩)⟩, ⟨by (with_reducible repeat (first | apply Kd.R_alloc | apply Kd.R_drewN | apply Kd.R_drew)); exact Kd.R_mono (Kd.R_far (p := ⟨gb240, 0, none⟩) (Kd.R_types HO258.out BK240.out (by decide)) (fun _ hk => hk.2) (.slice Ao90 y259.length co90)) (fun _ hk => ⟨hk.1.2, hk.1.1⟩)⟩, ⟨by (with_reducible repeat (first | refine blk_drewN ?_ _ | refine blk_drew ?_ | refine blk_alloc ?_ _)); refine blk_far ?_ NB228_240.out _; (with_reducible repeat (first | refine blk_drewN ?_ _ | refine blk_drew ?_ | refine blk_alloc ?_ _)); exact BK228.out⟩, ⟨by (with_reducible repeat (first | refine blk_drewN ?_ _ | refine blk_drew ?_ | refine blk_alloc ?_ _)); refine blk_far ?_ NB229_240.out _; (with_reducible repeat (first | refine blk_drewN ?_ _ | refine blk_drew ?_ | refine blk_alloc ?_ _)); exact BK229.out⟩, ⟨by (with_reducible repeat (first | refine blk_drewN ?_ _ | refine blk_drew ?_ | refine blk_alloc ?_ _)); refine blk_far ?_ NB230_240.out _; (with_reducible repeat (first | refine blk_drewN ?_ _ | refine blk_drew ?_ | refine blk_alloc ?_ _)); exact BK230.out⟩, ⟨by (with_reducible repeat (first | refine blk_drewN ?_ _ | refine blk_drew ?_ | refine blk_alloc ?_ _)); refine blk_put (cs := #[.slice Ao84 x241000_1.length co84, .slice Ao86 y256.length co86, .int .i64 t237, .int .i64 t239]) ?_ 0 _ rfl; (with_reducible repeat (first | refine blk_drewN ?_ _ | refine blk_drew ?_ | refine blk_alloc ?_ _)); exact BK240.out⟩, ⟨by repeat (first | (with_reducible first | exact HB.out | apply below_alloc | apply pw_below_drewN | apply below_drew1 | refine below_set ?_ GE228.out | refine below_set ?_ GE229.out | refine below_set ?_ GE230.out | refine below_set ?_ GE240.out) | exact HB.out)⟩⟩
end Go.Proofs.YtfdenclnneigfaaDoor.PRaspKeys
