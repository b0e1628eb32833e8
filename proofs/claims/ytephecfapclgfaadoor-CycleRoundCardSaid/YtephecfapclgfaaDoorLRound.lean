import Derived.Test.YtephecfapclgfaaDoorG7
import Derived.Test.YtephecfapclgfaaDoorCS
import Derived.Test.YtephecfapclgfaaDoorCD
import Derived.Test.YtephecfapclgfaaDoorM0
import Derived.Test.YtephecfapclgfaaDoorProg
import Derived.Below
import Derived.Deep.Draws
import Derived.Deep.AppendLies
import Derived.Maps.AppendAt
import Derived.OwnWalk
import Derived.Laws.BytesArg
import Derived.Laws.MakeOwn
import Derived.Laws.OwnMore
import Derived.Deep.OwnRows
import Derived.Tactics
import Derived.Lib.ConvBytes
import Derived.Laws.Slices
import Derived.WalkKit
import Derived.KernelRfl
import Derived.RowKit3
import Derived.Deep.LoopGhost
import Derived.Deep.QuietTactic
import Derived.BigQuiet
import Derived.WideLaws
import Derived.Deep.DeepCutAuto
import Derived.Deep.CutBlock
import Derived.Deep.RegionHeld3
import Derived.Laws.Rows
import Derived.Lib.AppendStr
import Derived.ArgAppend
import Derived.Laws.IdiomCopy
import Derived.OrdersHeld
import Derived.Laws.BitsLemmas
import Derived.RowKit
set_option linter.unusedVariables false
set_option linter.unusedSimpArgs false
namespace Go.Proofs.YtephecfapclgfaaDoor.M
open Go.RowKit Go.Proofs.YtephecfapclgfaaDoorW.PrintWords Go.Proofs.YtephecfapclgfaaDoorW.PrintLast
theorem czz {w : World} {g : Nat} {cs : Array Value} {t : TypeId} {v : Value} (h : w.heap[g]? = some (.cells cs t (0, 0))) (i : Nat) (hv : cs[i]? = some v := by (first | (simp only [List.getElem?_toArray, List.getElem?_cons_zero, List.getElem?_cons_succ]; rfl) | exact rfl)) : w.cell? ⟨g, i, none⟩ = some v := (blk_cell h i).trans hv
end Go.Proofs.YtephecfapclgfaaDoor.M
namespace Go.Proofs.YtephecfapclgfaaDoor.PRaspKeys
open Go.RowKit Go.Proofs.YtephecfapclgfaaDoorW.PrintWords Go.Proofs.YtephecfapclgfaaDoorW.PrintLast Go.Proofs.YtephecfapclgfaaDoorW.PrintMore Go.Proofs.YtephecfapclgfaaDoor.M
attribute [local go_sem] max2_int min2_int max_two min_two max_three min_three max_four min_four   -- for this text's walks alone
/-! #### struct type 63 -/
/-! #### struct type 38 -/
/-! #### struct type 97 -/
end Go.Proofs.YtephecfapclgfaaDoor.PRaspKeys
namespace Go.Proofs.YtephecfapclgfaaDoor.PRaspKeys
open Go.RowKit Go.Proofs.YtephecfapclgfaaDoorW.PrintWords Go.Proofs.YtephecfapclgfaaDoorW.PrintLast Go.Proofs.YtephecfapclgfaaDoorW.PrintMore Go.Proofs.YtephecfapclgfaaDoor.M
attribute [local go_sem] max2_int min2_int max_two min_two max_three min_three max_four min_four   -- for this text's walks alone
end Go.Proofs.YtephecfapclgfaaDoor.PRaspKeys
namespace Go.Proofs.YtephecfapclgfaaDoor.PRaspKeys
open Go.RowKit Go.Proofs.YtephecfapclgfaaDoorW.PrintWords Go.Proofs.YtephecfapclgfaaDoorW.PrintLast Go.Proofs.YtephecfapclgfaaDoorW.PrintMore Go.Proofs.YtephecfapclgfaaDoor.M
attribute [local go_sem] max2_int min2_int max_two min_two max_three min_three max_four min_four   -- for this text's walks alone
end Go.Proofs.YtephecfapclgfaaDoor.PRaspKeys
namespace Go.Proofs.YtephecfapclgfaaDoor.PRaspKeys
open Go.RowKit Go.Proofs.YtephecfapclgfaaDoorW.PrintWords Go.Proofs.YtephecfapclgfaaDoorW.PrintLast Go.Proofs.YtephecfapclgfaaDoorW.PrintMore Go.Proofs.YtephecfapclgfaaDoor.M
attribute [local go_sem] max2_int min2_int max_two min_two max_three min_three max_four min_four   -- for this text's walks alone
end Go.Proofs.YtephecfapclgfaaDoor.PRaspKeys
namespace Go.Proofs.YtephecfapclgfaaDoor.PRaspKeys
open Go.RowKit Go.Proofs.YtephecfapclgfaaDoorW.PrintWords Go.Proofs.YtephecfapclgfaaDoorW.PrintLast Go.Proofs.YtephecfapclgfaaDoorW.PrintMore Go.Proofs.YtephecfapclgfaaDoor.M
attribute [local go_sem] max2_int min2_int max_two min_two max_three min_three max_four min_four   -- for this text's walks alone
/-! ### saronlaw05_CycleRound: function 6 -/
mutual
def saronlaw05_CycleRound.j0 : Nat → Int → List Int → Bool → Int → List (S63) → Int → List (List Int) → Option (Bool)
 | 0, _, _, _, _, _, _, _ => none
 | k + 1, x6, x8, x109, x182000, x182001, x189000, x189001 => if x109 = true then (some false) else (saronlaw05_CycleRound.l0 k x6 x8 0 x182000 x182001 x189000 x189001)
def saronlaw05_CycleRound.l0 : Nat → Int → List Int → Int → Int → List (S63) → Int → List (List Int) → Option (Bool)
 | 0, _, _, _, _, _, _, _ => none
 | k + 1, x6, x8, x14, x182000, x182001, x189000, x189001 => if x14 < x182000 then ((saronref00_Where.f k x8 x14).bind fun t205 => (if 0 ≤ x14 then (if x14 < (x189001.length : Int) then ((saronref00_Turn.f x6 x189000).bind fun t207 => ((saronref00_Where.f k (rd_L1 x189001 x14) t207).bind fun t208 => (if ((decide (t205 ≥ 0)) != (decide (t208 ≥ 0))) = true then (some false) else (saronlaw05_CycleRound.l0 k x6 x8 (wrap64 (x14 + 1)) x182000 x182001 x189000 x189001)))) else (none)) else (none))) else ((saronlaw05_marked.f).bind fun t204 => (some t204))
end
def saronlaw05_CycleRound.f (k : Nat) (a0_0 : Int) (l0_1 : List (S63)) (a1_0 : Int) (a1_1 : Int) : Option (Bool) := (saronlaw05_sound.f k a0_0 l0_1).bind fun t183 => (if t183 = true then ((saronref00_Turn.f a1_0 (l0_1.length : Int)).bind fun t185 => ((saronref00_Turn.f a1_1 1000).bind fun t186 => (if 0 ≤ t185 then (if t185 < (l0_1.length : Int) then ((cycle_Struck.f a0_0 l0_1 t185 t186).bind fun bt189 => ((cycle_Struck.f a0_0 l0_1 t185 (wrap64 (t186 + ((rd_T63 l0_1 t185).f0)))).bind fun bt193 => ((cycle_Next.f a0_0 l0_1 t185 0 t186).bind fun bt197 => (if bt189.2 = 0 then (if bt193.2 = 0 then (if bt197.2 = 0 then ((saronref00_Equal.f k bt189.1 bt193.1).bind fun t199 => (if t199 = true then ((saronref00_Grows.f k bt189.1 a0_0).bind fun t200 => (if t200 = true then ((saronref00_Where.f k bt189.1 0).bind fun t201 => (if ((decide (t201 ≥ 0)) != (bt197.1 == t186)) = true then (saronlaw05_CycleRound.j0 k t186 bt189.1 true a0_0 l0_1 ((rd_T63 l0_1 t185).f0) ((rd_T63 l0_1 t185).f1)) else ((saronref00_Turn.f bt197.1 ((rd_T63 l0_1 t185).f0)).bind fun t202 => (if t202 = (wrap64 (((rd_T63 l0_1 t185).f0) - 1)) then ((saronref00_Sits.f bt197.1 t186 (wrap64 ((wrap64 (t186 + ((rd_T63 l0_1 t185).f0))) - 1))).bind fun t203 => (saronlaw05_CycleRound.j0 k t186 bt189.1 (!t203) a0_0 l0_1 ((rd_T63 l0_1 t185).f0) ((rd_T63 l0_1 t185).f1))) else (saronlaw05_CycleRound.j0 k t186 bt189.1 true a0_0 l0_1 ((rd_T63 l0_1 t185).f0) ((rd_T63 l0_1 t185).f1)))))) else (saronlaw05_CycleRound.j0 k t186 bt189.1 true a0_0 l0_1 ((rd_T63 l0_1 t185).f0) ((rd_T63 l0_1 t185).f1)))) else (saronlaw05_CycleRound.j0 k t186 bt189.1 true a0_0 l0_1 ((rd_T63 l0_1 t185).f0) ((rd_T63 l0_1 t185).f1)))) else (saronlaw05_CycleRound.j0 k t186 bt189.1 true a0_0 l0_1 ((rd_T63 l0_1 t185).f0) ((rd_T63 l0_1 t185).f1))) else (saronlaw05_CycleRound.j0 k t186 bt189.1 true a0_0 l0_1 ((rd_T63 l0_1 t185).f0) ((rd_T63 l0_1 t185).f1))) else (saronlaw05_CycleRound.j0 k t186 bt189.1 true a0_0 l0_1 ((rd_T63 l0_1 t185).f0) ((rd_T63 l0_1 t185).f1)))))) else (none)) else (none)))) else ((saronlaw05_marked.f).bind fun t184 => (some t184)))
theorem saronlaw05_CycleRound.mono_l : ∀ k, (∀ y0 y1 y2 y3 y4 y5 y6, LeO (saronlaw05_CycleRound.j0 k y0 y1 y2 y3 y4 y5 y6) (saronlaw05_CycleRound.j0 (k + 1) y0 y1 y2 y3 y4 y5 y6)) ∧ (∀ y0 y1 y2 y3 y4 y5 y6, LeO (saronlaw05_CycleRound.l0 k y0 y1 y2 y3 y4 y5 y6) (saronlaw05_CycleRound.l0 (k + 1) y0 y1 y2 y3 y4 y5 y6))
 | 0 => ⟨fun _ _ _ _ _ _ _ r h => by simp [saronlaw05_CycleRound.j0] at h, fun _ _ _ _ _ _ _ r h => by simp [saronlaw05_CycleRound.l0] at h⟩
 | k + 1 => by
  obtain ⟨ih0, ih1⟩ := saronlaw05_CycleRound.mono_l k
  refine ⟨?_, ?_⟩
  ·intro y0 y1 y2 y3 y4 y5 y6
   unfold saronlaw05_CycleRound.j0
   repeat' first
   | (with_reducible exact ih0 _ _ _ _ _ _ _)
   | (with_reducible exact ih1 _ _ _ _ _ _ _)
   | (with_reducible exact saronlaw05_sound.mono _ _ _)
   | (with_reducible exact saronref00_Equal.mono _ _ _)
   | (with_reducible exact saronref00_Grows.mono _ _ _)
   | (with_reducible exact saronref00_Where.mono _ _ _)
   | (with_reducible exact LeO.refl _)
   | (with_reducible exact LeO.none _)
   | (with_reducible refine LeO.ite ?_ ?_)
   | (with_reducible refine LeO.bind ?_ (fun _ => ?_))
   | exact ih0 _ _ _ _ _ _ _
   | exact ih1 _ _ _ _ _ _ _
   | exact saronlaw05_sound.mono _ _ _
   | exact saronref00_Equal.mono _ _ _
   | exact saronref00_Grows.mono _ _ _
   | exact saronref00_Where.mono _ _ _
   | exact LeO.none _
   | refine LeO.ite ?_ ?_
   | refine LeO.bind ?_ (fun _ => ?_)
  ·intro y0 y1 y2 y3 y4 y5 y6
   unfold saronlaw05_CycleRound.l0
   repeat' first
   | (with_reducible exact ih0 _ _ _ _ _ _ _)
   | (with_reducible exact ih1 _ _ _ _ _ _ _)
   | (with_reducible exact saronlaw05_sound.mono _ _ _)
   | (with_reducible exact saronref00_Equal.mono _ _ _)
   | (with_reducible exact saronref00_Grows.mono _ _ _)
   | (with_reducible exact saronref00_Where.mono _ _ _)
   | (with_reducible exact LeO.refl _)
   | (with_reducible exact LeO.none _)
   | (with_reducible refine LeO.ite ?_ ?_)
   | (with_reducible refine LeO.bind ?_ (fun _ => ?_))
   | exact ih0 _ _ _ _ _ _ _
   | exact ih1 _ _ _ _ _ _ _
   | exact saronlaw05_sound.mono _ _ _
   | exact saronref00_Equal.mono _ _ _
   | exact saronref00_Grows.mono _ _ _
   | exact saronref00_Where.mono _ _ _
   | exact LeO.none _
   | refine LeO.ite ?_ ?_
   | refine LeO.bind ?_ (fun _ => ?_)
theorem saronlaw05_CycleRound.mono : ∀ a0 a1 a2 a3 k, LeO (saronlaw05_CycleRound.f k a0 a1 a2 a3) (saronlaw05_CycleRound.f (k + 1) a0 a1 a2 a3) := by
 intro a0 a1 a2 a3 k
 obtain ⟨ih0, ih1⟩ := saronlaw05_CycleRound.mono_l k
 unfold saronlaw05_CycleRound.f
 repeat' first
   | (with_reducible exact ih0 _ _ _ _ _ _ _)
   | (with_reducible exact ih1 _ _ _ _ _ _ _)
   | (with_reducible exact saronlaw05_sound.mono _ _ _)
   | (with_reducible exact saronref00_Equal.mono _ _ _)
   | (with_reducible exact saronref00_Grows.mono _ _ _)
   | (with_reducible exact saronref00_Where.mono _ _ _)
   | (with_reducible exact LeO.refl _)
   | (with_reducible exact LeO.none _)
   | (with_reducible refine LeO.ite ?_ ?_)
   | (with_reducible refine LeO.bind ?_ (fun _ => ?_))
   | exact ih0 _ _ _ _ _ _ _
   | exact ih1 _ _ _ _ _ _ _
   | exact saronlaw05_sound.mono _ _ _
   | exact saronref00_Equal.mono _ _ _
   | exact saronref00_Grows.mono _ _ _
   | exact saronref00_Where.mono _ _ _
   | exact LeO.none _
   | refine LeO.ite ?_ ?_
   | refine LeO.bind ?_ (fun _ => ?_)
def saronlaw05_CycleRound.T3 : Bool × List (List Nat × List Nat) := (true, [([], []), ([0], [0]), ([], []), ([2], [2]), ([3], [3]), ([1, 4], [1, 4]), ([], []), ([6], [6]), ([7, 5], [7]), ([5, 8, 0, 1, 2, 3, 4, 5], [5]), ([8, 9, 0, 1, 2, 3, 4, 5, 6, 7, 8, 9], [8])])
def saronlaw05_CycleRound.B3 : List Nat := [0, 1, 0, 4, 12, 31, 0, 64, 255, 511, 1023]
theorem saronlaw05_CycleRound.tab3 : rtab .any (opsOf Tryd.f6 3) = saronlaw05_CycleRound.T3 := by kernel_rfl
theorem saronlaw05_CycleRound.bits3 : waitsOk saronlaw05_CycleRound.T3.2 saronlaw05_CycleRound.B3 = true := by kernel_rfl
def saronlaw05_CycleRound.T8 : Bool × List (List Nat × List Nat) := (true, [([], []), ([0], [0]), ([1], [1]), ([2], [2]), ([3, 2], [2, 3]), ([2, 4], [2, 4]), ([5, 2], [5]), ([6], [6]), ([7, 6], [6, 7]), ([6, 8], [6, 8]), ([9, 6], [9]), ([10], [10]), ([10], [10]), ([11, 12, 10, 10], [10, 11, 12]), ([13, 10], [10, 13]), ([10, 14], [10, 14]), ([15, 13], [15]), ([16], [16]), ([16], [16]), ([18, 16], [16, 18]), ([17, 19, 16, 16], [16, 17, 19]), ([20, 16], [16, 20]), ([16, 21], [16, 21]), ([22, 20], [22]), ([23], [23]), ([24, 23, 23], [23, 24]), ([25, 23], [23, 25]), ([23], [23]), ([23], [23]), ([27, 28, 23], [23, 27, 28]), ([26, 29, 23], [23, 26, 29]), ([23, 30], [23, 30]), ([31, 25], [31]), ([32], [32]), ([32], [32]), ([34, 32], [32, 34]), ([33, 35, 32, 32], [32, 33, 35]), ([32], [32]), ([37, 32], [32, 37]), ([38, 32], [32, 38]), ([36, 39, 32], [32, 36, 39]), ([32, 40], [32, 40]), ([41, 36], [41]), ([42], [42]), ([42], [42]), ([42], [42]), ([42], [42]), ([46, 42], [42, 46]), ([45, 47, 42], [42, 45, 47]), ([48, 42], [42, 48]), ([43, 44, 49, 42, 42], [42, 43, 44, 49]), ([50, 42], [42, 50]), ([42, 51], [42, 51])])
def saronlaw05_CycleRound.B8 : List Nat := [0, 1, 3, 7, 15, 31, 63, 127, 255, 511, 1023, 2047, 2047, 8191, 16383, 32767, 65535, 131071, 131071, 393215, 1048575, 2097151, 4194303, 8388607, 16777215, 33554431, 67108863, 16777215, 16777215, 419430399, 1073741823, 2147483647, 4294967295, 8589934591, 8589934591, 25769803775, 68719476735, 8589934591, 146028888063, 420906795007, 1099511627775, 2199023255551, 4398046511103, 8796093022207, 8796093022207, 8796093022207, 8796093022207, 79164837199871, 255086697644031, 536561674354687, 1125899906842623, 2251799813685247, 4503599627370495]
theorem saronlaw05_CycleRound.tab8 : rtab .any (opsOf Tryd.f6 8) = saronlaw05_CycleRound.T8 := by kernel_rfl
theorem saronlaw05_CycleRound.bits8 : waitsOk saronlaw05_CycleRound.T8.2 saronlaw05_CycleRound.B8 = true := by kernel_rfl
def saronlaw05_CycleRound.T13 : Bool × List (List Nat × List Nat) := (true, [([], []), ([], []), ([0, 1], [0, 1]), ([2], [2]), ([], []), ([4], [4]), ([], []), ([5, 6], [5, 6]), ([7], [7]), ([], []), ([], []), ([10], [10]), ([9, 11, 2], [9, 11]), ([8, 12, 12], [8, 12]), ([13], [13]), ([3, 14], [3, 14])])
def saronlaw05_CycleRound.B13 : List Nat := [0, 0, 3, 7, 0, 16, 0, 112, 240, 0, 0, 1024, 3591, 8183, 16375, 32767]
theorem saronlaw05_CycleRound.tab13 : rtab .any (opsOf Tryd.f6 13) = saronlaw05_CycleRound.T13 := by kernel_rfl
theorem saronlaw05_CycleRound.bits13 : waitsOk saronlaw05_CycleRound.T13.2 saronlaw05_CycleRound.B13 = true := by kernel_rfl
set_option maxHeartbeats 8000000 in
set_option maxRecDepth 100000 in
theorem saronlaw05_CycleRound.calls (k : Nat) (a0_0 : Int) (A0_1 : Option Addr) (c0_1 : Nat) (l0_1 : List (S63)) (a1_0 : Int) (a1_1 : Int) (r : Bool) (w : World) (hr0_1 : Kd.C k63 w A0_1 l0_1.length l0_1) (hc0_1 : l0_1.length ≤ c0_1) (hG : Glob w) (h : saronlaw05_CycleRound.f k a0_0 l0_1 a1_0 a1_1 = some r) :
  Calls Tryd.prog 6 #[.agg #[.int .i64 a0_0, .slice A0_1 l0_1.length c0_1], .agg #[.int .i64 a1_0, .int .i64 a1_1]] w fun e w' => e = .returned (.bool r) ∧ Below w.heap.size w w' := by
 have hu24 := Tryd.underlying24
 have hu55 := Tryd.underlying55
 have hu63 := Tryd.underlying63
 have HR0_1 := Aside0.mk hr0_1
 have HC0_1 := Aside0.mk hc0_1
 clear hr0_1 hc0_1
 have HB := Aside0.mk (Below.refl w.heap.size w)
 have HG := Aside0.mk hG
 clear hG
 have H : ((saronlaw05_sound.f k a0_0 l0_1).bind fun t183 => (if t183 = true then ((saronref00_Turn.f a1_0 (l0_1.length : Int)).bind fun t185 => ((saronref00_Turn.f a1_1 1000).bind fun t186 => (if 0 ≤ t185 then (if t185 < (l0_1.length : Int) then ((cycle_Struck.f a0_0 l0_1 t185 t186).bind fun bt189 => ((cycle_Struck.f a0_0 l0_1 t185 (wrap64 (t186 + ((rd_T63 l0_1 t185).f0)))).bind fun bt193 => ((cycle_Next.f a0_0 l0_1 t185 0 t186).bind fun bt197 => (if bt189.2 = 0 then (if bt193.2 = 0 then (if bt197.2 = 0 then ((saronref00_Equal.f k bt189.1 bt193.1).bind fun t199 => (if t199 = true then ((saronref00_Grows.f k bt189.1 a0_0).bind fun t200 => (if t200 = true then ((saronref00_Where.f k bt189.1 0).bind fun t201 => (if ((decide (t201 ≥ 0)) != (bt197.1 == t186)) = true then (saronlaw05_CycleRound.j0 k t186 bt189.1 true a0_0 l0_1 ((rd_T63 l0_1 t185).f0) ((rd_T63 l0_1 t185).f1)) else ((saronref00_Turn.f bt197.1 ((rd_T63 l0_1 t185).f0)).bind fun t202 => (if t202 = (wrap64 (((rd_T63 l0_1 t185).f0) - 1)) then ((saronref00_Sits.f bt197.1 t186 (wrap64 ((wrap64 (t186 + ((rd_T63 l0_1 t185).f0))) - 1))).bind fun t203 => (saronlaw05_CycleRound.j0 k t186 bt189.1 (!t203) a0_0 l0_1 ((rd_T63 l0_1 t185).f0) ((rd_T63 l0_1 t185).f1))) else (saronlaw05_CycleRound.j0 k t186 bt189.1 true a0_0 l0_1 ((rd_T63 l0_1 t185).f0) ((rd_T63 l0_1 t185).f1)))))) else (saronlaw05_CycleRound.j0 k t186 bt189.1 true a0_0 l0_1 ((rd_T63 l0_1 t185).f0) ((rd_T63 l0_1 t185).f1)))) else (saronlaw05_CycleRound.j0 k t186 bt189.1 true a0_0 l0_1 ((rd_T63 l0_1 t185).f0) ((rd_T63 l0_1 t185).f1)))) else (saronlaw05_CycleRound.j0 k t186 bt189.1 true a0_0 l0_1 ((rd_T63 l0_1 t185).f0) ((rd_T63 l0_1 t185).f1))) else (saronlaw05_CycleRound.j0 k t186 bt189.1 true a0_0 l0_1 ((rd_T63 l0_1 t185).f0) ((rd_T63 l0_1 t185).f1))) else (saronlaw05_CycleRound.j0 k t186 bt189.1 true a0_0 l0_1 ((rd_T63 l0_1 t185).f0) ((rd_T63 l0_1 t185).f1)))))) else (none)) else (none)))) else ((saronlaw05_marked.f).bind fun t184 => (some t184)))) = some r := h
 clear h
 replace H := Option.bind_eq_some_iff.mp H
 obtain ⟨t183, A30, H⟩ := H
 replace H : (if t183 = true then ((saronref00_Turn.f a1_0 (l0_1.length : Int)).bind fun t185 => ((saronref00_Turn.f a1_1 1000).bind fun t186 => (if 0 ≤ t185 then (if t185 < (l0_1.length : Int) then ((cycle_Struck.f a0_0 l0_1 t185 t186).bind fun bt189 => ((cycle_Struck.f a0_0 l0_1 t185 (wrap64 (t186 + ((rd_T63 l0_1 t185).f0)))).bind fun bt193 => ((cycle_Next.f a0_0 l0_1 t185 0 t186).bind fun bt197 => (if bt189.2 = 0 then (if bt193.2 = 0 then (if bt197.2 = 0 then ((saronref00_Equal.f k bt189.1 bt193.1).bind fun t199 => (if t199 = true then ((saronref00_Grows.f k bt189.1 a0_0).bind fun t200 => (if t200 = true then ((saronref00_Where.f k bt189.1 0).bind fun t201 => (if ((decide (t201 ≥ 0)) != (bt197.1 == t186)) = true then (saronlaw05_CycleRound.j0 k t186 bt189.1 true a0_0 l0_1 ((rd_T63 l0_1 t185).f0) ((rd_T63 l0_1 t185).f1)) else ((saronref00_Turn.f bt197.1 ((rd_T63 l0_1 t185).f0)).bind fun t202 => (if t202 = (wrap64 (((rd_T63 l0_1 t185).f0) - 1)) then ((saronref00_Sits.f bt197.1 t186 (wrap64 ((wrap64 (t186 + ((rd_T63 l0_1 t185).f0))) - 1))).bind fun t203 => (saronlaw05_CycleRound.j0 k t186 bt189.1 (!t203) a0_0 l0_1 ((rd_T63 l0_1 t185).f0) ((rd_T63 l0_1 t185).f1))) else (saronlaw05_CycleRound.j0 k t186 bt189.1 true a0_0 l0_1 ((rd_T63 l0_1 t185).f0) ((rd_T63 l0_1 t185).f1)))))) else (saronlaw05_CycleRound.j0 k t186 bt189.1 true a0_0 l0_1 ((rd_T63 l0_1 t185).f0) ((rd_T63 l0_1 t185).f1)))) else (saronlaw05_CycleRound.j0 k t186 bt189.1 true a0_0 l0_1 ((rd_T63 l0_1 t185).f0) ((rd_T63 l0_1 t185).f1)))) else (saronlaw05_CycleRound.j0 k t186 bt189.1 true a0_0 l0_1 ((rd_T63 l0_1 t185).f0) ((rd_T63 l0_1 t185).f1))) else (saronlaw05_CycleRound.j0 k t186 bt189.1 true a0_0 l0_1 ((rd_T63 l0_1 t185).f0) ((rd_T63 l0_1 t185).f1))) else (saronlaw05_CycleRound.j0 k t186 bt189.1 true a0_0 l0_1 ((rd_T63 l0_1 t185).f0) ((rd_T63 l0_1 t185).f1)))))) else (none)) else (none)))) else ((saronlaw05_marked.f).bind fun t184 => (some t184))) = some r := H
 have A3 := Aside0.mk A30
 clear A30
 by_cases c4 : t183 = true
 ·subst c4
  have H1 : ((saronref00_Turn.f a1_0 (l0_1.length : Int)).bind fun t185 => ((saronref00_Turn.f a1_1 1000).bind fun t186 => (if 0 ≤ t185 then (if t185 < (l0_1.length : Int) then ((cycle_Struck.f a0_0 l0_1 t185 t186).bind fun bt189 => ((cycle_Struck.f a0_0 l0_1 t185 (wrap64 (t186 + ((rd_T63 l0_1 t185).f0)))).bind fun bt193 => ((cycle_Next.f a0_0 l0_1 t185 0 t186).bind fun bt197 => (if bt189.2 = 0 then (if bt193.2 = 0 then (if bt197.2 = 0 then ((saronref00_Equal.f k bt189.1 bt193.1).bind fun t199 => (if t199 = true then ((saronref00_Grows.f k bt189.1 a0_0).bind fun t200 => (if t200 = true then ((saronref00_Where.f k bt189.1 0).bind fun t201 => (if ((decide (t201 ≥ 0)) != (bt197.1 == t186)) = true then (saronlaw05_CycleRound.j0 k t186 bt189.1 true a0_0 l0_1 ((rd_T63 l0_1 t185).f0) ((rd_T63 l0_1 t185).f1)) else ((saronref00_Turn.f bt197.1 ((rd_T63 l0_1 t185).f0)).bind fun t202 => (if t202 = (wrap64 (((rd_T63 l0_1 t185).f0) - 1)) then ((saronref00_Sits.f bt197.1 t186 (wrap64 ((wrap64 (t186 + ((rd_T63 l0_1 t185).f0))) - 1))).bind fun t203 => (saronlaw05_CycleRound.j0 k t186 bt189.1 (!t203) a0_0 l0_1 ((rd_T63 l0_1 t185).f0) ((rd_T63 l0_1 t185).f1))) else (saronlaw05_CycleRound.j0 k t186 bt189.1 true a0_0 l0_1 ((rd_T63 l0_1 t185).f0) ((rd_T63 l0_1 t185).f1)))))) else (saronlaw05_CycleRound.j0 k t186 bt189.1 true a0_0 l0_1 ((rd_T63 l0_1 t185).f0) ((rd_T63 l0_1 t185).f1)))) else (saronlaw05_CycleRound.j0 k t186 bt189.1 true a0_0 l0_1 ((rd_T63 l0_1 t185).f0) ((rd_T63 l0_1 t185).f1)))) else (saronlaw05_CycleRound.j0 k t186 bt189.1 true a0_0 l0_1 ((rd_T63 l0_1 t185).f0) ((rd_T63 l0_1 t185).f1))) else (saronlaw05_CycleRound.j0 k t186 bt189.1 true a0_0 l0_1 ((rd_T63 l0_1 t185).f0) ((rd_T63 l0_1 t185).f1))) else (saronlaw05_CycleRound.j0 k t186 bt189.1 true a0_0 l0_1 ((rd_T63 l0_1 t185).f0) ((rd_T63 l0_1 t185).f1)))))) else (none)) else (none)))) = some r := by rw [if_pos rfl] at H; exact H
  clear H
  have H := H1
  clear H1
  replace H := Option.bind_eq_some_iff.mp H
  obtain ⟨t185, A50, H⟩ := H
  replace H : ((saronref00_Turn.f a1_1 1000).bind fun t186 => (if 0 ≤ t185 then (if t185 < (l0_1.length : Int) then ((cycle_Struck.f a0_0 l0_1 t185 t186).bind fun bt189 => ((cycle_Struck.f a0_0 l0_1 t185 (wrap64 (t186 + ((rd_T63 l0_1 t185).f0)))).bind fun bt193 => ((cycle_Next.f a0_0 l0_1 t185 0 t186).bind fun bt197 => (if bt189.2 = 0 then (if bt193.2 = 0 then (if bt197.2 = 0 then ((saronref00_Equal.f k bt189.1 bt193.1).bind fun t199 => (if t199 = true then ((saronref00_Grows.f k bt189.1 a0_0).bind fun t200 => (if t200 = true then ((saronref00_Where.f k bt189.1 0).bind fun t201 => (if ((decide (t201 ≥ 0)) != (bt197.1 == t186)) = true then (saronlaw05_CycleRound.j0 k t186 bt189.1 true a0_0 l0_1 ((rd_T63 l0_1 t185).f0) ((rd_T63 l0_1 t185).f1)) else ((saronref00_Turn.f bt197.1 ((rd_T63 l0_1 t185).f0)).bind fun t202 => (if t202 = (wrap64 (((rd_T63 l0_1 t185).f0) - 1)) then ((saronref00_Sits.f bt197.1 t186 (wrap64 ((wrap64 (t186 + ((rd_T63 l0_1 t185).f0))) - 1))).bind fun t203 => (saronlaw05_CycleRound.j0 k t186 bt189.1 (!t203) a0_0 l0_1 ((rd_T63 l0_1 t185).f0) ((rd_T63 l0_1 t185).f1))) else (saronlaw05_CycleRound.j0 k t186 bt189.1 true a0_0 l0_1 ((rd_T63 l0_1 t185).f0) ((rd_T63 l0_1 t185).f1)))))) else (saronlaw05_CycleRound.j0 k t186 bt189.1 true a0_0 l0_1 ((rd_T63 l0_1 t185).f0) ((rd_T63 l0_1 t185).f1)))) else (saronlaw05_CycleRound.j0 k t186 bt189.1 true a0_0 l0_1 ((rd_T63 l0_1 t185).f0) ((rd_T63 l0_1 t185).f1)))) else (saronlaw05_CycleRound.j0 k t186 bt189.1 true a0_0 l0_1 ((rd_T63 l0_1 t185).f0) ((rd_T63 l0_1 t185).f1))) else (saronlaw05_CycleRound.j0 k t186 bt189.1 true a0_0 l0_1 ((rd_T63 l0_1 t185).f0) ((rd_T63 l0_1 t185).f1))) else (saronlaw05_CycleRound.j0 k t186 bt189.1 true a0_0 l0_1 ((rd_T63 l0_1 t185).f0) ((rd_T63 l0_1 t185).f1)))))) else (none)) else (none))) = some r := H
  have A5 := Aside0.mk A50
  clear A50
  replace H := Option.bind_eq_some_iff.mp H
  obtain ⟨t186, A60, H⟩ := H
  replace H : (if 0 ≤ t185 then (if t185 < (l0_1.length : Int) then ((cycle_Struck.f a0_0 l0_1 t185 t186).bind fun bt189 => ((cycle_Struck.f a0_0 l0_1 t185 (wrap64 (t186 + ((rd_T63 l0_1 t185).f0)))).bind fun bt193 => ((cycle_Next.f a0_0 l0_1 t185 0 t186).bind fun bt197 => (if bt189.2 = 0 then (if bt193.2 = 0 then (if bt197.2 = 0 then ((saronref00_Equal.f k bt189.1 bt193.1).bind fun t199 => (if t199 = true then ((saronref00_Grows.f k bt189.1 a0_0).bind fun t200 => (if t200 = true then ((saronref00_Where.f k bt189.1 0).bind fun t201 => (if ((decide (t201 ≥ 0)) != (bt197.1 == t186)) = true then (saronlaw05_CycleRound.j0 k t186 bt189.1 true a0_0 l0_1 ((rd_T63 l0_1 t185).f0) ((rd_T63 l0_1 t185).f1)) else ((saronref00_Turn.f bt197.1 ((rd_T63 l0_1 t185).f0)).bind fun t202 => (if t202 = (wrap64 (((rd_T63 l0_1 t185).f0) - 1)) then ((saronref00_Sits.f bt197.1 t186 (wrap64 ((wrap64 (t186 + ((rd_T63 l0_1 t185).f0))) - 1))).bind fun t203 => (saronlaw05_CycleRound.j0 k t186 bt189.1 (!t203) a0_0 l0_1 ((rd_T63 l0_1 t185).f0) ((rd_T63 l0_1 t185).f1))) else (saronlaw05_CycleRound.j0 k t186 bt189.1 true a0_0 l0_1 ((rd_T63 l0_1 t185).f0) ((rd_T63 l0_1 t185).f1)))))) else (saronlaw05_CycleRound.j0 k t186 bt189.1 true a0_0 l0_1 ((rd_T63 l0_1 t185).f0) ((rd_T63 l0_1 t185).f1)))) else (saronlaw05_CycleRound.j0 k t186 bt189.1 true a0_0 l0_1 ((rd_T63 l0_1 t185).f0) ((rd_T63 l0_1 t185).f1)))) else (saronlaw05_CycleRound.j0 k t186 bt189.1 true a0_0 l0_1 ((rd_T63 l0_1 t185).f0) ((rd_T63 l0_1 t185).f1))) else (saronlaw05_CycleRound.j0 k t186 bt189.1 true a0_0 l0_1 ((rd_T63 l0_1 t185).f0) ((rd_T63 l0_1 t185).f1))) else (saronlaw05_CycleRound.j0 k t186 bt189.1 true a0_0 l0_1 ((rd_T63 l0_1 t185).f0) ((rd_T63 l0_1 t185).f1)))))) else (none)) else (none)) = some r := H
  have A6 := Aside0.mk A60
  clear A60
  by_cases c7 : 0 ≤ t185
  ·rw [if_pos c7] at H
   have c7b0 : decide (0 ≤ t185) = true := decide_eq_true c7
   clear c7
   by_cases c8 : t185 < (l0_1.length : Int)
   ·rw [if_pos c8] at H
    have c8b0 : decide (t185 < (l0_1.length : Int)) = true := decide_eq_true c8
    clear c8
    replace H := Option.bind_eq_some_iff.mp H
    obtain ⟨⟨t189, t192⟩, A90, H⟩ := H
    replace H : ((cycle_Struck.f a0_0 l0_1 t185 (wrap64 (t186 + ((rd_T63 l0_1 t185).f0)))).bind fun bt193 => ((cycle_Next.f a0_0 l0_1 t185 0 t186).bind fun bt197 => (if t192 = 0 then (if bt193.2 = 0 then (if bt197.2 = 0 then ((saronref00_Equal.f k t189 bt193.1).bind fun t199 => (if t199 = true then ((saronref00_Grows.f k t189 a0_0).bind fun t200 => (if t200 = true then ((saronref00_Where.f k t189 0).bind fun t201 => (if ((decide (t201 ≥ 0)) != (bt197.1 == t186)) = true then (saronlaw05_CycleRound.j0 k t186 t189 true a0_0 l0_1 ((rd_T63 l0_1 t185).f0) ((rd_T63 l0_1 t185).f1)) else ((saronref00_Turn.f bt197.1 ((rd_T63 l0_1 t185).f0)).bind fun t202 => (if t202 = (wrap64 (((rd_T63 l0_1 t185).f0) - 1)) then ((saronref00_Sits.f bt197.1 t186 (wrap64 ((wrap64 (t186 + ((rd_T63 l0_1 t185).f0))) - 1))).bind fun t203 => (saronlaw05_CycleRound.j0 k t186 t189 (!t203) a0_0 l0_1 ((rd_T63 l0_1 t185).f0) ((rd_T63 l0_1 t185).f1))) else (saronlaw05_CycleRound.j0 k t186 t189 true a0_0 l0_1 ((rd_T63 l0_1 t185).f0) ((rd_T63 l0_1 t185).f1)))))) else (saronlaw05_CycleRound.j0 k t186 t189 true a0_0 l0_1 ((rd_T63 l0_1 t185).f0) ((rd_T63 l0_1 t185).f1)))) else (saronlaw05_CycleRound.j0 k t186 t189 true a0_0 l0_1 ((rd_T63 l0_1 t185).f0) ((rd_T63 l0_1 t185).f1)))) else (saronlaw05_CycleRound.j0 k t186 t189 true a0_0 l0_1 ((rd_T63 l0_1 t185).f0) ((rd_T63 l0_1 t185).f1))) else (saronlaw05_CycleRound.j0 k t186 t189 true a0_0 l0_1 ((rd_T63 l0_1 t185).f0) ((rd_T63 l0_1 t185).f1))) else (saronlaw05_CycleRound.j0 k t186 t189 true a0_0 l0_1 ((rd_T63 l0_1 t185).f0) ((rd_T63 l0_1 t185).f1))))) = some r := H
    have A9 := Aside0.mk A90
    clear A90
    replace H := Option.bind_eq_some_iff.mp H
    obtain ⟨⟨t193, t196⟩, A100, H⟩ := H
    replace H : ((cycle_Next.f a0_0 l0_1 t185 0 t186).bind fun bt197 => (if t192 = 0 then (if t196 = 0 then (if bt197.2 = 0 then ((saronref00_Equal.f k t189 t193).bind fun t199 => (if t199 = true then ((saronref00_Grows.f k t189 a0_0).bind fun t200 => (if t200 = true then ((saronref00_Where.f k t189 0).bind fun t201 => (if ((decide (t201 ≥ 0)) != (bt197.1 == t186)) = true then (saronlaw05_CycleRound.j0 k t186 t189 true a0_0 l0_1 ((rd_T63 l0_1 t185).f0) ((rd_T63 l0_1 t185).f1)) else ((saronref00_Turn.f bt197.1 ((rd_T63 l0_1 t185).f0)).bind fun t202 => (if t202 = (wrap64 (((rd_T63 l0_1 t185).f0) - 1)) then ((saronref00_Sits.f bt197.1 t186 (wrap64 ((wrap64 (t186 + ((rd_T63 l0_1 t185).f0))) - 1))).bind fun t203 => (saronlaw05_CycleRound.j0 k t186 t189 (!t203) a0_0 l0_1 ((rd_T63 l0_1 t185).f0) ((rd_T63 l0_1 t185).f1))) else (saronlaw05_CycleRound.j0 k t186 t189 true a0_0 l0_1 ((rd_T63 l0_1 t185).f0) ((rd_T63 l0_1 t185).f1)))))) else (saronlaw05_CycleRound.j0 k t186 t189 true a0_0 l0_1 ((rd_T63 l0_1 t185).f0) ((rd_T63 l0_1 t185).f1)))) else (saronlaw05_CycleRound.j0 k t186 t189 true a0_0 l0_1 ((rd_T63 l0_1 t185).f0) ((rd_T63 l0_1 t185).f1)))) else (saronlaw05_CycleRound.j0 k t186 t189 true a0_0 l0_1 ((rd_T63 l0_1 t185).f0) ((rd_T63 l0_1 t185).f1))) else (saronlaw05_CycleRound.j0 k t186 t189 true a0_0 l0_1 ((rd_T63 l0_1 t185).f0) ((rd_T63 l0_1 t185).f1))) else (saronlaw05_CycleRound.j0 k t186 t189 true a0_0 l0_1 ((rd_T63 l0_1 t185).f0) ((rd_T63 l0_1 t185).f1)))) = some r := H
    have A10 := Aside0.mk A100
    clear A100
    replace H := Option.bind_eq_some_iff.mp H
    obtain ⟨⟨t197, t198⟩, A110, H⟩ := H
    replace H : (if t192 = 0 then (if t196 = 0 then (if t198 = 0 then ((saronref00_Equal.f k t189 t193).bind fun t199 => (if t199 = true then ((saronref00_Grows.f k t189 a0_0).bind fun t200 => (if t200 = true then ((saronref00_Where.f k t189 0).bind fun t201 => (if ((decide (t201 ≥ 0)) != (t197 == t186)) = true then (saronlaw05_CycleRound.j0 k t186 t189 true a0_0 l0_1 ((rd_T63 l0_1 t185).f0) ((rd_T63 l0_1 t185).f1)) else ((saronref00_Turn.f t197 ((rd_T63 l0_1 t185).f0)).bind fun t202 => (if t202 = (wrap64 (((rd_T63 l0_1 t185).f0) - 1)) then ((saronref00_Sits.f t197 t186 (wrap64 ((wrap64 (t186 + ((rd_T63 l0_1 t185).f0))) - 1))).bind fun t203 => (saronlaw05_CycleRound.j0 k t186 t189 (!t203) a0_0 l0_1 ((rd_T63 l0_1 t185).f0) ((rd_T63 l0_1 t185).f1))) else (saronlaw05_CycleRound.j0 k t186 t189 true a0_0 l0_1 ((rd_T63 l0_1 t185).f0) ((rd_T63 l0_1 t185).f1)))))) else (saronlaw05_CycleRound.j0 k t186 t189 true a0_0 l0_1 ((rd_T63 l0_1 t185).f0) ((rd_T63 l0_1 t185).f1)))) else (saronlaw05_CycleRound.j0 k t186 t189 true a0_0 l0_1 ((rd_T63 l0_1 t185).f0) ((rd_T63 l0_1 t185).f1)))) else (saronlaw05_CycleRound.j0 k t186 t189 true a0_0 l0_1 ((rd_T63 l0_1 t185).f0) ((rd_T63 l0_1 t185).f1))) else (saronlaw05_CycleRound.j0 k t186 t189 true a0_0 l0_1 ((rd_T63 l0_1 t185).f0) ((rd_T63 l0_1 t185).f1))) else (saronlaw05_CycleRound.j0 k t186 t189 true a0_0 l0_1 ((rd_T63 l0_1 t185).f0) ((rd_T63 l0_1 t185).f1))) = some r := H
    have A11 := Aside0.mk A110
    clear A110
    have HC12 := Aside0.mk H
    clear H
    go_enter Tryd.func6, Tryd.ntmps6
    try go_wp2_with (first | ((with_reducible refine gate_dst (N := 2) rfl ?_); refine box_event ?hg (N := 2) ?hd (cs := #[.int .i64 a0_0, .slice A0_1 l0_1.length c0_1]) (t := 24) ?hr ?_; (case hd => rfl); (case hg => rfl); (case hr => exact TS); intro gb181 hg w13 hbox hb; have BK181 := Aside0.mk (hbox); have GW181 := Aside0.mk ((TG : w.heap.size ≤ gb181)); have GE181 := Aside0.mk ((TG : w.heap.size ≤ gb181)); replace HB := Aside0.mk (below_step TB hb); clear hb hbox hg) | ((with_reducible refine gate_dst (N := 3) rfl ?_); refine box_event ?hg (N := 3) ?hd (cs := #[.int .i64 a1_0, .int .i64 a1_1]) (t := 55) ?hr ?_; (case hd => rfl); (case hg => rfl); (case hr => exact TS); intro gb182 hg w14 hbox hb; have BK182 := Aside0.mk (hbox); have GW182 := Aside0.mk ((TG1 GE181.out : w.heap.size ≤ gb182)); have GE182 := Aside0.mk ((TG1 GE181.out : w.heap.size ≤ gb182)); have NB181_182 := Aside0.mk ((by rw [hg]; exact Nat.ne_of_lt (blk_lt (g := gb181) (o := .cells #[.int .i64 a0_0, .slice A0_1 l0_1.length c0_1] 24 (0, 0)) (by (with_reducible repeat (first | refine blk_drewN ?_ _ | refine blk_drew ?_ | refine blk_alloc ?_ _)); exact BK181.out)) : gb181 ≠ gb182)); have NB182_181 := Aside0.mk ((by rw [hg]; exact Nat.ne_of_gt (blk_lt (g := gb181) (o := .cells #[.int .i64 a0_0, .slice A0_1 l0_1.length c0_1] 24 (0, 0)) (by (with_reducible repeat (first | refine blk_drewN ?_ _ | refine blk_drew ?_ | refine blk_alloc ?_ _)); exact BK181.out)) : gb182 ≠ gb181)); replace BK181 := Aside0.mk (blk_below (g := gb181) (o := .cells #[.int .i64 a0_0, .slice A0_1 l0_1.length c0_1] 24 (0, 0)) (by (with_reducible repeat (first | refine blk_drewN ?_ _ | refine blk_drew ?_ | refine blk_alloc ?_ _)); exact BK181.out) hb); replace HB := Aside0.mk (below_step (TB1 GE181.out) hb); clear hb hbox hg; have hnb15 := NB181_182.out; have hnc15 := NB182_181.out; have hcz16_0 := czz BK181.out 0; have hcz16_1 := czz BK181.out 1; have hfz16_0 := fz BK181.out 0; have hfz16_1 := fz BK181.out 1) | ((with_reducible refine gate_callee (f := 39) rfl ?_); refine goesL_ (some 16) rfl rfl Tryd.func39 (by kernel_rfl) rfl #[.agg #[.int .i64 a0_0, .slice A0_1 l0_1.length c0_1]] rfl TM ?_; (with_reducible refine (saronlaw05_sound.calls k a0_0 _ _ l0_1 true _ ?side1 ?side2 A3.out).mono ?_); (case side1 => exact TC HR0_1.out); (case side2 => exact HC0_1.out); rintro e w17 ⟨rfl, hb⟩; refine ⟨_, rfl, ?_⟩; replace BK181 := Aside0.mk (blk_below (g := gb181) (o := .cells #[.int .i64 a0_0, .slice A0_1 l0_1.length c0_1] 24 (0, 0)) (by (with_reducible repeat (first | refine blk_drewN ?_ _ | refine blk_drew ?_ | refine blk_alloc ?_ _)); exact BK181.out) hb); replace BK182 := Aside0.mk (blk_below (g := gb182) (o := .cells #[.int .i64 a1_0, .int .i64 a1_1] 55 (0, 0)) (by (with_reducible repeat (first | refine blk_drewN ?_ _ | refine blk_drew ?_ | refine blk_alloc ?_ _)); exact BK182.out) hb); replace HB := Aside0.mk (below_step (TB2 GE181.out GE182.out) hb); (try clear hb); (try clear hb2); (try clear hk); (try clear hi)))
    have n0_ := Aside0.mk (blk_drew BK181.out)
    have n1_ := Aside0.mk (blk_drew BK182.out)
    have n2_ := Aside0.mk (below_drew1 HB.out)
    clear BK181
    clear BK182
    clear HB
    have BK181 := n0_
    have BK182 := n1_
    have HB := n2_
    clear n0_ n1_ n2_
    refine start_ (n := 11) (S := fun w' => w'.cell? ⟨gb182, 0, none⟩ = some (.int .i64 a1_0) ∧ w'.cell? ⟨gb182, 1, none⟩ = some (.int .i64 a1_1) ∧ w'.cell? ⟨gb181, 0, none⟩ = some (.int .i64 a0_0) ∧ w'.cell? ⟨gb181, 1, none⟩ = some (.slice A0_1 l0_1.length c0_1)) (ds := []) (.replicate 11 false) (by kernel_rfl) rfl rfl ⟨czz BK182.out 0, czz BK182.out 1, czz BK181.out 0, czz BK181.out 1⟩ (fun hHeld => ?_); refine with_tabW saronlaw05_CycleRound.tab3 saronlaw05_CycleRound.bits3 (fun HT_ HW_ => ?_)
    generalize w17.drew = w18 at BK181 BK182 HB hHeld ⊢
    refine pT 0 19 (bt 11 1) (k := ?_)
    refine pT 2 21 (bt 11 5) (k := ?_)
    refine pT 6 25 (bt 11 69) (k := ?_)
    refine tT4 1 20 (bt 11 71) hHeld (k := ?_)
    refine tT4 3 22 (bt 11 79) hHeld (k := ?_)
    refine pT 4 23 (bt 11 95) (k := ?_)
    refine tT4 7 26 (bt 11 223) hHeld (k := ?_)
    refine one_ (i := 5) (N := some 24) (bt 11 255) rfl rfl (one_of HT_.out (by kernel_rfl)) (by decide) (fun K hK => ?_)
    refine goes_ Tryd.func40 (by kernel_rfl) rfl #[.int .i64 a1_0, .int .i64 (l0_1.length : Int)] (by rfl) rfl rfl TM ?_
    with_reducible refine (saronref00_Turn.calls a1_0 (l0_1.length : Int) t185 _ A5.out).mono ?_
    rintro e w' ⟨rfl, ⟨nd, rfl⟩⟩
    refine ⟨_, rfl, ?_⟩
    refine hK.out _ _ ⟨czz BK182.out 0, czz BK182.out 1, czz BK181.out 0, czz BK181.out 1⟩ (fun hHeld => ?_)
    clear hK K
    refine norm_ (a' := ?_) ?_ ?_
    rotate_left
    ·show Act.put _ (some 24) _ = _
     simp only [Act.put, lA, lZ, lS, i64_w, i32_w]
     rfl
    refine one_ (i := 8) (N := some 27) (bt 11 511) rfl rfl (one_of HT_.out (by kernel_rfl)) (by decide) (fun K hK => ?_)
    refine goes_ Tryd.func40 (by kernel_rfl) rfl #[.int .i64 a1_1, .int .i64 1000] (by rfl) rfl rfl TM ?_
    with_reducible refine (saronref00_Turn.calls a1_1 1000 t186 _ A6.out).mono ?_
    rintro e w' ⟨rfl, ⟨nd, rfl⟩⟩
    refine ⟨_, rfl, ?_⟩
    refine hK.out _ _ ⟨czz BK182.out 0, czz BK182.out 1, czz BK181.out 0, czz BK181.out 1⟩ (fun hHeld => ?_)
    clear hK K
    refine norm_ (a' := ?_) ?_ ?_
    rotate_left
    ·show Act.put _ (some 27) _ = _
     simp only [Act.put, lA, lZ, lS, i64_w, i32_w]
     rfl
    refine pT 9 5 (bt 11 1023) (k := ?_)
    refine pT 10 6 (bt 11 2047) (k := ?_)
    refine done_ (done_of HT_.out (by kernel_rfl)) ?_
    have hcz19_0 := czz BK181.out 0
    have hcz19_1 := czz BK181.out 1
    have hfz19_0 := fz BK181.out 0
    have hfz19_1 := fz BK181.out 1
    have p187 : 0 ≤ (t185 : Int) := of_decide_eq_true TA
    have q187 : t185 < (l0_1.length : Int) := of_decide_eq_true TA
    obtain ⟨ad187, A187_1, c187_1, e187, hx187_0, hx187_1, hl187_1, hi187_1⟩ := at_T63 HR0_1.out t185 p187 q187
    cases e187
    replace hx187_0 := (HB.out.cell  (World.block_lt_of_cell? w _ hx187_0)).trans hx187_0
    replace hx187_1 := (HB.out.cell  (World.block_lt_of_cell? w _ hx187_1)).trans hx187_1
    have HR187_1 := Aside0.mk hi187_1
    have HC187_1 := Aside0.mk hl187_1
    clear hi187_1 hl187_1
    replace p187 := eq_true p187
    replace q187 := eq_true q187
    go_upto_region 8 with (first | ((with_reducible refine gate_dst (N := 7) rfl ?_); refine box_event ?hg (N := 7) ?hd (cs := #[.int .i64 0, .slice none 0 0]) (t := 63) ?hr ?_; (case hd => rfl); (case hg => rfl); (case hr => exact TS); intro gb188 hg w20 hbox hb; have BK188 := Aside0.mk (hbox); have GW188 := Aside0.mk ((TG2 GE181.out GE182.out : w.heap.size ≤ gb188)); have GE188 := Aside0.mk ((TG2 GE181.out GE182.out : w.heap.size ≤ gb188)); have NB181_188 := Aside0.mk ((by rw [hg]; exact Nat.ne_of_lt (blk_lt (g := gb181) (o := .cells #[.int .i64 a0_0, .slice (some ad187) l0_1.length c0_1] 24 (0, 0)) (by (with_reducible repeat (first | refine blk_drewN ?_ _ | refine blk_drew ?_ | refine blk_alloc ?_ _)); exact BK181.out)) : gb181 ≠ gb188)); have NB188_181 := Aside0.mk ((by rw [hg]; exact Nat.ne_of_gt (blk_lt (g := gb181) (o := .cells #[.int .i64 a0_0, .slice (some ad187) l0_1.length c0_1] 24 (0, 0)) (by (with_reducible repeat (first | refine blk_drewN ?_ _ | refine blk_drew ?_ | refine blk_alloc ?_ _)); exact BK181.out)) : gb188 ≠ gb181)); have NB182_188 := Aside0.mk ((by rw [hg]; exact Nat.ne_of_lt (blk_lt (g := gb182) (o := .cells #[.int .i64 a1_0, .int .i64 a1_1] 55 (0, 0)) (by (with_reducible repeat (first | refine blk_drewN ?_ _ | refine blk_drew ?_ | refine blk_alloc ?_ _)); exact BK182.out)) : gb182 ≠ gb188)); have NB188_182 := Aside0.mk ((by rw [hg]; exact Nat.ne_of_gt (blk_lt (g := gb182) (o := .cells #[.int .i64 a1_0, .int .i64 a1_1] 55 (0, 0)) (by (with_reducible repeat (first | refine blk_drewN ?_ _ | refine blk_drew ?_ | refine blk_alloc ?_ _)); exact BK182.out)) : gb188 ≠ gb182)); replace BK181 := Aside0.mk (blk_below (g := gb181) (o := .cells #[.int .i64 a0_0, .slice (some ad187) l0_1.length c0_1] 24 (0, 0)) (by (with_reducible repeat (first | refine blk_drewN ?_ _ | refine blk_drew ?_ | refine blk_alloc ?_ _)); exact BK181.out) hb); replace BK182 := Aside0.mk (blk_below (g := gb182) (o := .cells #[.int .i64 a1_0, .int .i64 a1_1] 55 (0, 0)) (by (with_reducible repeat (first | refine blk_drewN ?_ _ | refine blk_drew ?_ | refine blk_alloc ?_ _)); exact BK182.out) hb); replace HB := Aside0.mk (below_step (TB2 GE181.out GE182.out) hb); clear hb hbox hg; have hnb21 := NB188_181.out; have hnc21 := NB181_188.out; have hnb22 := NB188_182.out; have hnc22 := NB182_188.out; have hcz23_0 := czz BK188.out 0; have hcz23_1 := czz BK188.out 1; have hfz23_0 := fz BK188.out 0; have hfz23_1 := fz BK188.out 1; have hcz24_0 := czz BK181.out 0; have hcz24_1 := czz BK181.out 1; have hfz24_0 := fz BK181.out 0; have hfz24_1 := fz BK181.out 1) | ((with_reducible refine gate_callee (f := 14) rfl ?_); refine goesL_ (some 37) rfl rfl Tryd.func14 (by kernel_rfl) rfl #[.agg #[.int .i64 a0_0, .slice (some ad187) l0_1.length c0_1], .int .i64 t185, .int .i64 t186] rfl TM ?_; (with_reducible refine (cycle_Struck.calls a0_0 _ _ l0_1 t185 t186 t189 t192 _ ?side1 ?side2 ?side3 A9.out).mono ?_); (case side1 => exact Kd.C_below HR0_1.out (TB3 GE181.out GE182.out GE188.out)); (case side2 => exact HC0_1.out); (case side3 => exact Glob.fr HG.out (Fr.of_below (TB3 GE181.out GE182.out GE188.out))); rintro e w25 ⟨v190, rfl, ho0, hb⟩; refine ⟨_, rfl, ?_⟩; have HO191 := Aside0.mk (Kd.V_lower (Kd.V_mono (ok' := fun k_ => k_ ≠ gb181 ∧ k_ ≠ gb182 ∧ k_ ≠ gb188) ho0 (fun k_ hk_ => ⟨(Kd.freshB (g := gb181) (o := .cells #[.int .i64 a0_0, .slice (some ad187) l0_1.length c0_1] 24 (0, 0)) (by (with_reducible repeat (first | refine blk_drewN ?_ _ | refine blk_drew ?_ | refine blk_alloc ?_ _)); refine blk_far ?_ NB181_188.out _; (with_reducible repeat (first | refine blk_drewN ?_ _ | refine blk_drew ?_ | refine blk_alloc ?_ _)); refine blk_far ?_ NB181_188.out _; (with_reducible repeat (first | refine blk_drewN ?_ _ | refine blk_drew ?_ | refine blk_alloc ?_ _)); exact BK181.out) k_ hk_), (Kd.freshB (g := gb182) (o := .cells #[.int .i64 a1_0, .int .i64 a1_1] 55 (0, 0)) (by (with_reducible repeat (first | refine blk_drewN ?_ _ | refine blk_drew ?_ | refine blk_alloc ?_ _)); refine blk_far ?_ NB182_188.out _; (with_reducible repeat (first | refine blk_drewN ?_ _ | refine blk_drew ?_ | refine blk_alloc ?_ _)); refine blk_far ?_ NB182_188.out _; (with_reducible repeat (first | refine blk_drewN ?_ _ | refine blk_drew ?_ | refine blk_alloc ?_ _)); exact BK182.out) k_ hk_), (Kd.freshB (g := gb188) (o := .cells #[.int .i64 ((rd_T63 l0_1 t185).f0), .slice A187_1 ((rd_T63 l0_1 t185).f1).length c187_1] 63 (0, 0)) (by (with_reducible repeat (first | refine blk_drewN ?_ _ | refine blk_drew ?_ | refine blk_alloc ?_ _)); refine blk_put (cs := #[.int .i64 ((rd_T63 l0_1 t185).f0), .slice none 0 0]) ?_ 1 _ rfl; (with_reducible repeat (first | refine blk_drewN ?_ _ | refine blk_drew ?_ | refine blk_alloc ?_ _)); refine blk_put (cs := #[.int .i64 0, .slice none 0 0]) ?_ 0 _ rfl; (with_reducible repeat (first | refine blk_drewN ?_ _ | refine blk_drew ?_ | refine blk_alloc ?_ _)); exact BK188.out) k_ hk_)⟩)) (below_size (TB3 GE181.out GE182.out GE188.out))); replace BK181 := Aside0.mk (blk_below (g := gb181) (o := .cells #[.int .i64 a0_0, .slice (some ad187) l0_1.length c0_1] 24 (0, 0)) (by (with_reducible repeat (first | refine blk_drewN ?_ _ | refine blk_drew ?_ | refine blk_alloc ?_ _)); refine blk_far ?_ NB181_188.out _; (with_reducible repeat (first | refine blk_drewN ?_ _ | refine blk_drew ?_ | refine blk_alloc ?_ _)); refine blk_far ?_ NB181_188.out _; (with_reducible repeat (first | refine blk_drewN ?_ _ | refine blk_drew ?_ | refine blk_alloc ?_ _)); exact BK181.out) hb); replace BK182 := Aside0.mk (blk_below (g := gb182) (o := .cells #[.int .i64 a1_0, .int .i64 a1_1] 55 (0, 0)) (by (with_reducible repeat (first | refine blk_drewN ?_ _ | refine blk_drew ?_ | refine blk_alloc ?_ _)); refine blk_far ?_ NB182_188.out _; (with_reducible repeat (first | refine blk_drewN ?_ _ | refine blk_drew ?_ | refine blk_alloc ?_ _)); refine blk_far ?_ NB182_188.out _; (with_reducible repeat (first | refine blk_drewN ?_ _ | refine blk_drew ?_ | refine blk_alloc ?_ _)); exact BK182.out) hb); replace BK188 := Aside0.mk (blk_below (g := gb188) (o := .cells #[.int .i64 ((rd_T63 l0_1 t185).f0), .slice A187_1 ((rd_T63 l0_1 t185).f1).length c187_1] 63 (0, 0)) (by (with_reducible repeat (first | refine blk_drewN ?_ _ | refine blk_drew ?_ | refine blk_alloc ?_ _)); refine blk_put (cs := #[.int .i64 ((rd_T63 l0_1 t185).f0), .slice none 0 0]) ?_ 1 _ rfl; (with_reducible repeat (first | refine blk_drewN ?_ _ | refine blk_drew ?_ | refine blk_alloc ?_ _)); refine blk_put (cs := #[.int .i64 0, .slice none 0 0]) ?_ 0 _ rfl; (with_reducible repeat (first | refine blk_drewN ?_ _ | refine blk_drew ?_ | refine blk_alloc ?_ _)); exact BK188.out) hb); replace HB := Aside0.mk (below_step (TB3 GE181.out GE182.out GE188.out) hb); (try clear hb); (try clear hb2); (try clear hk); (try clear hi); (try clear ho0); have hcz26_0 := czz BK181.out 0; have hcz26_1 := czz BK181.out 1; have hfz26_0 := fz BK181.out 0; have hfz26_1 := fz BK181.out 1; have hcz27_0 := czz BK188.out 0; have hcz27_1 := czz BK188.out 1; have hfz27_0 := fz BK188.out 0; have hfz27_1 := fz BK188.out 1) | ((with_reducible refine gate_callee (f := 14) rfl ?_); refine goesL_ (some 47) rfl rfl Tryd.func14 (by kernel_rfl) rfl #[.agg #[.int .i64 a0_0, .slice (some ad187) l0_1.length c0_1], .int .i64 t185, .int .i64 (wrap64 (t186 + ((rd_T63 l0_1 t185).f0)))] rfl TM ?_; (with_reducible refine (cycle_Struck.calls a0_0 _ _ l0_1 t185 (wrap64 (t186 + ((rd_T63 l0_1 t185).f0))) t193 t196 _ ?side1 ?side2 ?side3 A10.out).mono ?_); (case side1 => exact TC HR0_1.out); (case side2 => exact HC0_1.out); (case side3 => exact Glob.fr HG.out (Fr.of_below (TB3 GE181.out GE182.out GE188.out))); rintro e w28 ⟨v194, rfl, ho0, hb⟩; refine ⟨_, rfl, ?_⟩; have HO195 := Aside0.mk (Kd.V_lower (Kd.V_mono (ok' := fun k_ => k_ ≠ gb181 ∧ k_ ≠ gb182 ∧ k_ ≠ gb188) ho0 (fun k_ hk_ => ⟨(Kd.freshB (g := gb181) (o := .cells #[.int .i64 a0_0, .slice (some ad187) l0_1.length c0_1] 24 (0, 0)) (by (with_reducible repeat (first | refine blk_drewN ?_ _ | refine blk_drew ?_ | refine blk_alloc ?_ _)); exact BK181.out) k_ hk_), (Kd.freshB (g := gb182) (o := .cells #[.int .i64 a1_0, .int .i64 a1_1] 55 (0, 0)) (by (with_reducible repeat (first | refine blk_drewN ?_ _ | refine blk_drew ?_ | refine blk_alloc ?_ _)); exact BK182.out) k_ hk_), (Kd.freshB (g := gb188) (o := .cells #[.int .i64 ((rd_T63 l0_1 t185).f0), .slice A187_1 ((rd_T63 l0_1 t185).f1).length c187_1] 63 (0, 0)) (by (with_reducible repeat (first | refine blk_drewN ?_ _ | refine blk_drew ?_ | refine blk_alloc ?_ _)); exact BK188.out) k_ hk_)⟩)) (below_size (TB3 GE181.out GE182.out GE188.out))); replace HO191 := Aside0.mk (Kd.V_below (by (with_reducible repeat (first | apply Kd.V_alloc | apply Kd.V_drewN | apply Kd.V_drew)); exact HO191.out) hb); replace BK181 := Aside0.mk (blk_below (g := gb181) (o := .cells #[.int .i64 a0_0, .slice (some ad187) l0_1.length c0_1] 24 (0, 0)) (by (with_reducible repeat (first | refine blk_drewN ?_ _ | refine blk_drew ?_ | refine blk_alloc ?_ _)); exact BK181.out) hb); replace BK182 := Aside0.mk (blk_below (g := gb182) (o := .cells #[.int .i64 a1_0, .int .i64 a1_1] 55 (0, 0)) (by (with_reducible repeat (first | refine blk_drewN ?_ _ | refine blk_drew ?_ | refine blk_alloc ?_ _)); exact BK182.out) hb); replace BK188 := Aside0.mk (blk_below (g := gb188) (o := .cells #[.int .i64 ((rd_T63 l0_1 t185).f0), .slice A187_1 ((rd_T63 l0_1 t185).f1).length c187_1] 63 (0, 0)) (by (with_reducible repeat (first | refine blk_drewN ?_ _ | refine blk_drew ?_ | refine blk_alloc ?_ _)); exact BK188.out) hb); replace HB := Aside0.mk (below_step (TB3 GE181.out GE182.out GE188.out) hb); (try clear hb); (try clear hb2); (try clear hk); (try clear hi); (try clear ho0); have hcz29_0 := czz BK181.out 0; have hcz29_1 := czz BK181.out 1; have hfz29_0 := fz BK181.out 0; have hfz29_1 := fz BK181.out 1) | ((with_reducible refine gate_callee (f := 19) rfl ?_); refine goesL_ (some 54) rfl rfl Tryd.func19 (by kernel_rfl) rfl #[.agg #[.int .i64 a0_0, .slice (some ad187) l0_1.length c0_1], .int .i64 t185, .int .i64 0, .int .i64 t186] rfl TM ?_; (with_reducible refine (cycle_Next.calls a0_0 _ _ l0_1 t185 0 t186 t197 t198 _ ?side1 ?side2 ?side3 A11.out).mono ?_); (case side1 => exact TC HR0_1.out); (case side2 => exact HC0_1.out); (case side3 => exact Glob.fr HG.out (Fr.of_below (TB3 GE181.out GE182.out GE188.out))); rintro e w30 ⟨rfl, hb⟩; refine ⟨_, rfl, ?_⟩; replace HO191 := Aside0.mk (Kd.V_below (by (with_reducible repeat (first | apply Kd.V_alloc | apply Kd.V_drewN | apply Kd.V_drew)); exact HO191.out) hb); replace HO195 := Aside0.mk (Kd.V_below (by (with_reducible repeat (first | apply Kd.V_alloc | apply Kd.V_drewN | apply Kd.V_drew)); exact HO195.out) hb); replace BK181 := Aside0.mk (blk_below (g := gb181) (o := .cells #[.int .i64 a0_0, .slice (some ad187) l0_1.length c0_1] 24 (0, 0)) (by (with_reducible repeat (first | refine blk_drewN ?_ _ | refine blk_drew ?_ | refine blk_alloc ?_ _)); exact BK181.out) hb); replace BK182 := Aside0.mk (blk_below (g := gb182) (o := .cells #[.int .i64 a1_0, .int .i64 a1_1] 55 (0, 0)) (by (with_reducible repeat (first | refine blk_drewN ?_ _ | refine blk_drew ?_ | refine blk_alloc ?_ _)); exact BK182.out) hb); replace BK188 := Aside0.mk (blk_below (g := gb188) (o := .cells #[.int .i64 ((rd_T63 l0_1 t185).f0), .slice A187_1 ((rd_T63 l0_1 t185).f1).length c187_1] 63 (0, 0)) (by (with_reducible repeat (first | refine blk_drewN ?_ _ | refine blk_drew ?_ | refine blk_alloc ?_ _)); exact BK188.out) hb); replace HB := Aside0.mk (below_step (TB3 GE181.out GE182.out GE188.out) hb); (try clear hb); (try clear hb2); (try clear hk); (try clear hi)))
    (try simp only [Act.put, lA, lZ, lS])
    go_cut [109] (fun v109 wc => ∃ (kq : Nat) (x109_11 : Bool), v109 = .bool x109_11 ∧ Aside0 (saronlaw05_CycleRound.j0 kq t186 t189 x109_11 a0_0 l0_1 ((rd_T63 l0_1 t185).f0) ((rd_T63 l0_1 t185).f1) = some r) ∧ Aside0 (kq ≤ k) ∧ Aside0 (Kd.V (Kd.int .i64) 3 wc w.heap.size (fun k_ => k_ ≠ gb181 ∧ k_ ≠ gb182 ∧ k_ ≠ gb188) v190 t189) ∧ Aside0 (wc.heap[gb181]? = some (.cells #[.int .i64 a0_0, (.slice (some ad187) l0_1.length c0_1)] 24 (0, 0))) ∧ Aside0 (wc.heap[gb182]? = some (.cells #[.int .i64 a1_0, .int .i64 a1_1] 55 (0, 0))) ∧ Aside0 (wc.heap[gb188]? = some (.cells #[.int .i64 ((rd_T63 l0_1 t185).f0), (.slice A187_1 ((rd_T63 l0_1 t185).f1).length c187_1)] 63 (0, 0))) ∧ Aside0 (Below w.heap.size w wc))
    case first => as_aux_lemma =>
     have H := HC12.out
     clear HC12
     by_cases c31 : t192 = 0
     ·rw [if_pos c31] at H
      have c31b0 : (t192 == 0) = true := beq_iff_eq.mpr c31
      have c31b1 : (t192 != 0) = false := bne_eq_false_iff_eq.mpr c31
      clear c31
      (first | rw [c31b0] | (simp only [i64_w, i32_w]; rw [c31b0]) | skip)
      by_cases c32 : t196 = 0
      ·rw [if_pos c32] at H
       have c32b0 : (t196 == 0) = true := beq_iff_eq.mpr c32
       have c32b1 : (t196 != 0) = false := bne_eq_false_iff_eq.mpr c32
       clear c32
       by_cases c33 : t198 = 0
       ·rw [if_pos c33] at H
        have c33b0 : (t198 == 0) = true := beq_iff_eq.mpr c33
        have c33b1 : (t198 != 0) = false := bne_eq_false_iff_eq.mpr c33
        clear c33
        replace H := Option.bind_eq_some_iff.mp H
        obtain ⟨t199, A340, H⟩ := H
        replace H : (if t199 = true then ((saronref00_Grows.f k t189 a0_0).bind fun t200 => (if t200 = true then ((saronref00_Where.f k t189 0).bind fun t201 => (if ((decide (t201 ≥ 0)) != (t197 == t186)) = true then (saronlaw05_CycleRound.j0 k t186 t189 true a0_0 l0_1 ((rd_T63 l0_1 t185).f0) ((rd_T63 l0_1 t185).f1)) else ((saronref00_Turn.f t197 ((rd_T63 l0_1 t185).f0)).bind fun t202 => (if t202 = (wrap64 (((rd_T63 l0_1 t185).f0) - 1)) then ((saronref00_Sits.f t197 t186 (wrap64 ((wrap64 (t186 + ((rd_T63 l0_1 t185).f0))) - 1))).bind fun t203 => (saronlaw05_CycleRound.j0 k t186 t189 (!t203) a0_0 l0_1 ((rd_T63 l0_1 t185).f0) ((rd_T63 l0_1 t185).f1))) else (saronlaw05_CycleRound.j0 k t186 t189 true a0_0 l0_1 ((rd_T63 l0_1 t185).f0) ((rd_T63 l0_1 t185).f1)))))) else (saronlaw05_CycleRound.j0 k t186 t189 true a0_0 l0_1 ((rd_T63 l0_1 t185).f0) ((rd_T63 l0_1 t185).f1)))) else (saronlaw05_CycleRound.j0 k t186 t189 true a0_0 l0_1 ((rd_T63 l0_1 t185).f0) ((rd_T63 l0_1 t185).f1))) = some r := H
        have A34 := Aside0.mk A340
        clear A340
        by_cases c35 : t199 = true
        ·subst c35
         have H1 : ((saronref00_Grows.f k t189 a0_0).bind fun t200 => (if t200 = true then ((saronref00_Where.f k t189 0).bind fun t201 => (if ((decide (t201 ≥ 0)) != (t197 == t186)) = true then (saronlaw05_CycleRound.j0 k t186 t189 true a0_0 l0_1 ((rd_T63 l0_1 t185).f0) ((rd_T63 l0_1 t185).f1)) else ((saronref00_Turn.f t197 ((rd_T63 l0_1 t185).f0)).bind fun t202 => (if t202 = (wrap64 (((rd_T63 l0_1 t185).f0) - 1)) then ((saronref00_Sits.f t197 t186 (wrap64 ((wrap64 (t186 + ((rd_T63 l0_1 t185).f0))) - 1))).bind fun t203 => (saronlaw05_CycleRound.j0 k t186 t189 (!t203) a0_0 l0_1 ((rd_T63 l0_1 t185).f0) ((rd_T63 l0_1 t185).f1))) else (saronlaw05_CycleRound.j0 k t186 t189 true a0_0 l0_1 ((rd_T63 l0_1 t185).f0) ((rd_T63 l0_1 t185).f1)))))) else (saronlaw05_CycleRound.j0 k t186 t189 true a0_0 l0_1 ((rd_T63 l0_1 t185).f0) ((rd_T63 l0_1 t185).f1)))) = some r := by rw [if_pos rfl] at H; exact H
         clear H
         have H := H1
         clear H1
         replace H := Option.bind_eq_some_iff.mp H
         obtain ⟨t200, A360, H⟩ := H
         replace H : (if t200 = true then ((saronref00_Where.f k t189 0).bind fun t201 => (if ((decide (t201 ≥ 0)) != (t197 == t186)) = true then (saronlaw05_CycleRound.j0 k t186 t189 true a0_0 l0_1 ((rd_T63 l0_1 t185).f0) ((rd_T63 l0_1 t185).f1)) else ((saronref00_Turn.f t197 ((rd_T63 l0_1 t185).f0)).bind fun t202 => (if t202 = (wrap64 (((rd_T63 l0_1 t185).f0) - 1)) then ((saronref00_Sits.f t197 t186 (wrap64 ((wrap64 (t186 + ((rd_T63 l0_1 t185).f0))) - 1))).bind fun t203 => (saronlaw05_CycleRound.j0 k t186 t189 (!t203) a0_0 l0_1 ((rd_T63 l0_1 t185).f0) ((rd_T63 l0_1 t185).f1))) else (saronlaw05_CycleRound.j0 k t186 t189 true a0_0 l0_1 ((rd_T63 l0_1 t185).f0) ((rd_T63 l0_1 t185).f1)))))) else (saronlaw05_CycleRound.j0 k t186 t189 true a0_0 l0_1 ((rd_T63 l0_1 t185).f0) ((rd_T63 l0_1 t185).f1))) = some r := H
         have A36 := Aside0.mk A360
         clear A360
         by_cases c37 : t200 = true
         ·subst c37
          have H1 : ((saronref00_Where.f k t189 0).bind fun t201 => (if ((decide (t201 ≥ 0)) != (t197 == t186)) = true then (saronlaw05_CycleRound.j0 k t186 t189 true a0_0 l0_1 ((rd_T63 l0_1 t185).f0) ((rd_T63 l0_1 t185).f1)) else ((saronref00_Turn.f t197 ((rd_T63 l0_1 t185).f0)).bind fun t202 => (if t202 = (wrap64 (((rd_T63 l0_1 t185).f0) - 1)) then ((saronref00_Sits.f t197 t186 (wrap64 ((wrap64 (t186 + ((rd_T63 l0_1 t185).f0))) - 1))).bind fun t203 => (saronlaw05_CycleRound.j0 k t186 t189 (!t203) a0_0 l0_1 ((rd_T63 l0_1 t185).f0) ((rd_T63 l0_1 t185).f1))) else (saronlaw05_CycleRound.j0 k t186 t189 true a0_0 l0_1 ((rd_T63 l0_1 t185).f0) ((rd_T63 l0_1 t185).f1)))))) = some r := by rw [if_pos rfl] at H; exact H
          clear H
          have H := H1
          clear H1
          replace H := Option.bind_eq_some_iff.mp H
          obtain ⟨t201, A380, H⟩ := H
          replace H : (if ((decide (t201 ≥ 0)) != (t197 == t186)) = true then (saronlaw05_CycleRound.j0 k t186 t189 true a0_0 l0_1 ((rd_T63 l0_1 t185).f0) ((rd_T63 l0_1 t185).f1)) else ((saronref00_Turn.f t197 ((rd_T63 l0_1 t185).f0)).bind fun t202 => (if t202 = (wrap64 (((rd_T63 l0_1 t185).f0) - 1)) then ((saronref00_Sits.f t197 t186 (wrap64 ((wrap64 (t186 + ((rd_T63 l0_1 t185).f0))) - 1))).bind fun t203 => (saronlaw05_CycleRound.j0 k t186 t189 (!t203) a0_0 l0_1 ((rd_T63 l0_1 t185).f0) ((rd_T63 l0_1 t185).f1))) else (saronlaw05_CycleRound.j0 k t186 t189 true a0_0 l0_1 ((rd_T63 l0_1 t185).f0) ((rd_T63 l0_1 t185).f1))))) = some r := H
          have A38 := Aside0.mk A380
          clear A380
          by_cases c39 : ((decide (t201 ≥ 0)) != (t197 == t186)) = true
          ·rw [if_pos c39] at H
           have c39b0 : ((decide (t201 ≥ 0)) != (t197 == t186)) = true := c39
           (try (have c39b1 : decide ((decide (t201 ≥ 0)) = (t197 == t186)) = false := by simpa using c39))
           (try (have c39b2 : ((decide (t201 ≥ 0)) == (t197 == t186)) = false := by simpa using c39))
           (try (have c39b3 : ¬ ((decide (t201 ≥ 0)) = (t197 == t186)) := by simpa using c39))
           clear c39
           have H' := Aside0.mk H
           clear H
           try go_wp2
           have n0_ := Aside0.mk (Kd.V_drew HO191.out)
           have n1_ := Aside0.mk (Kd.V_drew HO195.out)
           have n2_ := Aside0.mk (blk_drew BK181.out)
           have n3_ := Aside0.mk (blk_drew BK182.out)
           have n4_ := Aside0.mk (blk_drew BK188.out)
           have n5_ := Aside0.mk (below_drew1 HB.out)
           clear HO191
           clear HO195
           clear BK181
           clear BK182
           clear BK188
           clear HB
           have HO191 := n0_
           have HO195 := n1_
           have BK181 := n2_
           have BK182 := n3_
           have BK188 := n4_
           have HB := n5_
           clear n0_ n1_ n2_ n3_ n4_ n5_
           obtain ⟨Ao41, co41, eo41⟩ := Kd.V_slice HO191.out
           (first | subst eo41 | (injection eo41 with f1_ f2_ f3_; have f4_ := f1_.symm; have f5_ := f3_.symm; clear f1_ f2_ f3_; subst f4_; subst f5_))
           obtain ⟨Ao42, co42, eo42⟩ := Kd.V_slice HO195.out
           (first | subst eo42 | (injection eo42 with f1_ f2_ f3_; have f4_ := f1_.symm; have f5_ := f3_.symm; clear f1_ f2_ f3_; subst f4_; subst f5_))
           refine start_ (n := 53) (S := fun w' => w'.cell? ⟨gb181, 0, none⟩ = some (.int .i64 a0_0) ∧ w'.cell? ⟨gb181, 1, none⟩ = some (.slice (some ad187) l0_1.length c0_1)) (ds := []) (.replicate 53 false) (by kernel_rfl) rfl rfl ⟨czz BK181.out 0, czz BK181.out 1⟩ (fun hHeld => ?_); refine with_tabW saronlaw05_CycleRound.tab8 saronlaw05_CycleRound.bits8 (fun HT_ HW_ => ?_)
           generalize w30.drew = w40 at HO191 HO195 BK181 BK182 BK188 HB hHeld ⊢
           refine pT 0 57 (bt 53 1) (k := ?_)
           refine pT 1 58 (bt 53 3) (k := ?_)
           refine pT 2 59 (bt 53 7) (k := ?_)
           refine pT 3 60 (bt 53 15) (k := ?_)
           refine pT 4 61 (bt 53 31) (k := ?_)
           refine pT 5 62 (bt 53 63) (k := ?_)
           refine pT 6 63 (bt 53 127) (k := ?_)
           refine pT 7 64 (bt 53 255) (k := ?_)
           refine pT 8 65 (bt 53 511) (k := ?_)
           refine pT 9 66 (bt 53 1023) (k := ?_)
           refine pT 10 67 (bt 53 2047) (k := ?_)
           refine pT 11 68 (bt 53 4095) (k := ?_)
           refine pT 12 69 (bt 53 8191) (k := ?_)
           refine one_ (i := 13) (N := some 70) (bt 53 16383) rfl rfl (one_of HT_.out (by kernel_rfl)) (by decide) (fun K hK => ?_)
           refine goes_ Tryd.func16 (by kernel_rfl) rfl #[.slice Ao41 t189.length co41, .slice Ao42 t193.length co42] (by rfl) rfl rfl TM ?_
           with_reducible refine (saronref00_Equal.calls k _ _ t189 _ _ t193 true _ ?side1 ?side2 ?side3 ?side4 A34.out).mono ?_
           (case side1 => repeat (first | exact (Kd.V_reads' HO191.out).2.2 | (with_reducible refine Kd.C_alloc ?_ _) | (with_reducible refine Kd.C_drewN ?_ _) | (with_reducible refine Kd.C_drew ?_)))
           (case side2 => exact (Kd.V_reads' HO191.out).2.1)
           (case side3 => repeat (first | exact (Kd.V_reads' HO195.out).2.2 | (with_reducible refine Kd.C_alloc ?_ _) | (with_reducible refine Kd.C_drewN ?_ _) | (with_reducible refine Kd.C_drew ?_)))
           (case side4 => exact (Kd.V_reads' HO195.out).2.1)
           rintro e w' ⟨rfl, ⟨nd, rfl⟩⟩
           refine ⟨_, rfl, ?_⟩
           refine hK.out _ _ ⟨czz BK181.out 0, czz BK181.out 1⟩ (fun hHeld => ?_)
           clear hK K
           refine norm_ (a' := ?_) ?_ ?_
           rotate_left
           ·show Act.put _ (some 70) _ = _
            simp only [Act.put, lA, lZ, lS, i64_w, i32_w]
            rfl
           refine pT 14 71 (bt 53 32767) (k := ?_)
           refine pT 15 72 (bt 53 65535) (k := ?_)
           refine pT 16 73 (bt 53 131071) (k := ?_)
           refine pT 17 74 (bt 53 262143) (k := ?_)
           refine pT 18 75 (bt 53 524287) (k := ?_)
           refine tT2 19 76 (bt 53 1048575) hHeld (k := ?_)
           refine one_ (i := 20) (N := some 77) (bt 53 2097151) rfl rfl (one_of HT_.out (by kernel_rfl)) (by decide) (fun K hK => ?_)
           refine goes_ Tryd.func41 (by kernel_rfl) rfl #[.slice Ao41 t189.length co41, .int .i64 a0_0] (by rfl) rfl rfl TM ?_
           with_reducible refine (saronref00_Grows.calls k _ _ t189 a0_0 true _ ?side1 ?side2 A36.out).mono ?_
           (case side1 => repeat (first | exact (Kd.V_reads' HO191.out).2.2 | (with_reducible refine Kd.C_alloc ?_ _) | (with_reducible refine Kd.C_drewN ?_ _) | (with_reducible refine Kd.C_drew ?_)))
           (case side2 => exact (Kd.V_reads' HO191.out).2.1)
           rintro e w' ⟨rfl, ⟨nd, rfl⟩⟩
           refine ⟨_, rfl, ?_⟩
           refine hK.out _ _ ⟨czz BK181.out 0, czz BK181.out 1⟩ (fun hHeld => ?_)
           clear hK K
           refine norm_ (a' := ?_) ?_ ?_
           rotate_left
           ·show Act.put _ (some 77) _ = _
            simp only [Act.put, lA, lZ, lS, i64_w, i32_w]
            rfl
           refine pT 21 78 (bt 53 4194303) (k := ?_)
           refine pT 22 79 (bt 53 8388607) (k := ?_)
           refine pT 23 80 (bt 53 16777215) (k := ?_)
           refine pT 24 81 (bt 53 33554431) (k := ?_)
           refine pT 27 84 (bt 53 167772159) (k := ?_)
           refine pT 28 85 (bt 53 436207615) (k := ?_)
           refine pT 29 86 (bt 53 973078527) (k := ?_)
           refine one_ (i := 25) (N := some 82) (bt 53 1006632959) rfl rfl (one_of HT_.out (by kernel_rfl)) (by decide) (fun K hK => ?_)
           refine goes_ Tryd.func42 (by kernel_rfl) rfl #[.slice Ao41 t189.length co41, .int .i64 0] (by rfl) rfl rfl TM ?_
           with_reducible refine (saronref00_Where.calls k _ _ t189 0 t201 _ ?side1 ?side2 A38.out).mono ?_
           (case side1 => repeat (first | exact (Kd.V_reads' HO191.out).2.2 | (with_reducible refine Kd.C_alloc ?_ _) | (with_reducible refine Kd.C_drewN ?_ _) | (with_reducible refine Kd.C_drew ?_)))
           (case side2 => exact (Kd.V_reads' HO191.out).2.1)
           rintro e w' ⟨rfl, ⟨nd, rfl⟩⟩
           refine ⟨_, rfl, ?_⟩
           refine hK.out _ _ ⟨czz BK181.out 0, czz BK181.out 1⟩ (fun hHeld => ?_)
           clear hK K
           refine norm_ (a' := ?_) ?_ ?_
           rotate_left
           ·show Act.put _ (some 82) _ = _
            simp only [Act.put, lA, lZ, lS, i64_w, i32_w]
            rfl
           refine pT 26 83 (bt 53 1073741823) (k := ?_)
           refine pT 30 87 (bt 53 2147483647) (k := ?_)
           refine pT 31 88 (bt 53 4294967295) (k := ?_)
           refine pT 32 89 (bt 53 8589934591) (k := ?_)
           refine pU 33 90 (bt 53 17179869183) (k := ?_)
           refine pU 34 91 (bt 53 34359738367) (k := ?_)
           refine pU 35 92 (bt 53 68719476735) (k := ?_)
           refine pU 36 93 (bt 53 137438953471) (k := ?_)
           refine pU 37 94 (bt 53 274877906943) (k := ?_)
           refine pU 38 95 (bt 53 549755813887) (k := ?_)
           refine pU 39 96 (bt 53 1099511627775) (k := ?_)
           refine pU 40 97 (bt 53 2199023255551) (k := ?_)
           refine pT 41 98 (bt 53 4398046511103) (k := ?_)
           refine pT 42 99 (bt 53 8796093022207) (k := ?_)
           refine pU 43 100 (bt 53 17592186044415) (k := ?_)
           refine pU 44 101 (bt 53 35184372088831) (k := ?_)
           refine pU 45 102 (bt 53 70368744177663) (k := ?_)
           refine pU 46 103 (bt 53 140737488355327) (k := ?_)
           refine pU 47 104 (bt 53 281474976710655) (k := ?_)
           refine pU 48 105 (bt 53 562949953421311) (k := ?_)
           refine pU 49 106 (bt 53 1125899906842623) (k := ?_)
           refine pU 50 107 (bt 53 2251799813685247) (k := ?_)
           refine pU 51 108 (bt 53 4503599627370495) (k := ?_)
           refine pT 52 109 (bt 53 9007199254740991) (k := ?_)
           refine done_ (done_of HT_.out (by kernel_rfl)) ?_
           try go_wp2
           go_meet
           case rel => exact ⟨_, (true), TT, H', ⟨by first | omega | exact Nat.le_refl _⟩, ⟨by (with_reducible repeat (first | apply Kd.V_alloc | apply Kd.V_drewN | apply Kd.V_drew)); exact HO191.out⟩, ⟨by (with_reducible repeat (first | refine blk_drewN ?_ _ | refine blk_drew ?_ | refine blk_alloc ?_ _)); exact BK181.out⟩, ⟨by (with_reducible repeat (first | refine blk_drewN ?_ _ | refine blk_drew ?_ | refine blk_alloc ?_ _)); exact BK182.out⟩, ⟨by (with_reducible repeat (first | refine blk_drewN ?_ _ | refine blk_drew ?_ | refine blk_alloc ?_ _)); exact BK188.out⟩, ⟨TB3 GE181.out GE182.out GE188.out⟩⟩
          ·rw [if_neg c39] at H
           have c39b0 : ((decide (t201 ≥ 0)) != (t197 == t186)) = false := by simpa using c39
           (try (have c39b1 : decide ((decide (t201 ≥ 0)) = (t197 == t186)) = true := by simpa using c39))
           (try (have c39b2 : ((decide (t201 ≥ 0)) == (t197 == t186)) = true := by simpa using c39))
           clear c39
           replace H := Option.bind_eq_some_iff.mp H
           obtain ⟨t202, A430, H⟩ := H
           replace H : (if t202 = (wrap64 (((rd_T63 l0_1 t185).f0) - 1)) then ((saronref00_Sits.f t197 t186 (wrap64 ((wrap64 (t186 + ((rd_T63 l0_1 t185).f0))) - 1))).bind fun t203 => (saronlaw05_CycleRound.j0 k t186 t189 (!t203) a0_0 l0_1 ((rd_T63 l0_1 t185).f0) ((rd_T63 l0_1 t185).f1))) else (saronlaw05_CycleRound.j0 k t186 t189 true a0_0 l0_1 ((rd_T63 l0_1 t185).f0) ((rd_T63 l0_1 t185).f1))) = some r := H
           have A43 := Aside0.mk A430
           clear A430
           by_cases c44 : t202 = (wrap64 (((rd_T63 l0_1 t185).f0) - 1))
           ·rw [if_pos c44] at H
            have c44b0 : (t202 == (wrap64 (((rd_T63 l0_1 t185).f0) - 1))) = true := beq_iff_eq.mpr c44
            have c44b1 : (t202 != (wrap64 (((rd_T63 l0_1 t185).f0) - 1))) = false := bne_eq_false_iff_eq.mpr c44
            clear c44
            replace H := Option.bind_eq_some_iff.mp H
            obtain ⟨t203, A450, H⟩ := H
            replace H : (saronlaw05_CycleRound.j0 k t186 t189 (!t203) a0_0 l0_1 ((rd_T63 l0_1 t185).f0) ((rd_T63 l0_1 t185).f1)) = some r := H
            have A45 := Aside0.mk A450
            clear A450
            have H' := Aside0.mk H
            clear H
            try go_wp2
            have n0_ := Aside0.mk (Kd.V_drew HO191.out)
            have n1_ := Aside0.mk (Kd.V_drew HO195.out)
            have n2_ := Aside0.mk (blk_drew BK181.out)
            have n3_ := Aside0.mk (blk_drew BK182.out)
            have n4_ := Aside0.mk (blk_drew BK188.out)
            have n5_ := Aside0.mk (below_drew1 HB.out)
            clear HO191
            clear HO195
            clear BK181
            clear BK182
            clear BK188
            clear HB
            have HO191 := n0_
            have HO195 := n1_
            have BK181 := n2_
            have BK182 := n3_
            have BK188 := n4_
            have HB := n5_
            clear n0_ n1_ n2_ n3_ n4_ n5_
            obtain ⟨Ao47, co47, eo47⟩ := Kd.V_slice HO191.out
            (first | subst eo47 | (injection eo47 with f1_ f2_ f3_; have f4_ := f1_.symm; have f5_ := f3_.symm; clear f1_ f2_ f3_; subst f4_; subst f5_))
            obtain ⟨Ao48, co48, eo48⟩ := Kd.V_slice HO195.out
            (first | subst eo48 | (injection eo48 with f1_ f2_ f3_; have f4_ := f1_.symm; have f5_ := f3_.symm; clear f1_ f2_ f3_; subst f4_; subst f5_))
            refine start_ (n := 53) (S := fun w' => w'.cell? ⟨gb181, 0, none⟩ = some (.int .i64 a0_0) ∧ w'.cell? ⟨gb181, 1, none⟩ = some (.slice (some ad187) l0_1.length c0_1) ∧ w'.cell? ⟨gb188, 0, none⟩ = some (.int .i64 ((rd_T63 l0_1 t185).f0)) ∧ w'.cell? ⟨gb188, 1, none⟩ = some (.slice A187_1 ((rd_T63 l0_1 t185).f1).length c187_1)) (ds := []) (.replicate 53 false) (by kernel_rfl) rfl rfl ⟨czz BK181.out 0, czz BK181.out 1, czz BK188.out 0, czz BK188.out 1⟩ (fun hHeld => ?_); refine with_tabW saronlaw05_CycleRound.tab8 saronlaw05_CycleRound.bits8 (fun HT_ HW_ => ?_)
            generalize w30.drew = w46 at HO191 HO195 BK181 BK182 BK188 HB hHeld ⊢
            refine pT 0 57 (bt 53 1) (k := ?_)
            refine pT 1 58 (bt 53 3) (k := ?_)
            refine pT 2 59 (bt 53 7) (k := ?_)
            refine pT 3 60 (bt 53 15) (k := ?_)
            refine pT 4 61 (bt 53 31) (k := ?_)
            refine pT 5 62 (bt 53 63) (k := ?_)
            refine pT 6 63 (bt 53 127) (k := ?_)
            refine pT 7 64 (bt 53 255) (k := ?_)
            refine pT 8 65 (bt 53 511) (k := ?_)
            refine pT 9 66 (bt 53 1023) (k := ?_)
            refine pT 10 67 (bt 53 2047) (k := ?_)
            refine pT 11 68 (bt 53 4095) (k := ?_)
            refine pT 12 69 (bt 53 8191) (k := ?_)
            refine one_ (i := 13) (N := some 70) (bt 53 16383) rfl rfl (one_of HT_.out (by kernel_rfl)) (by decide) (fun K hK => ?_)
            refine goes_ Tryd.func16 (by kernel_rfl) rfl #[.slice Ao47 t189.length co47, .slice Ao48 t193.length co48] (by rfl) rfl rfl TM ?_
            with_reducible refine (saronref00_Equal.calls k _ _ t189 _ _ t193 true _ ?side1 ?side2 ?side3 ?side4 A34.out).mono ?_
            (case side1 => repeat (first | exact (Kd.V_reads' HO191.out).2.2 | (with_reducible refine Kd.C_alloc ?_ _) | (with_reducible refine Kd.C_drewN ?_ _) | (with_reducible refine Kd.C_drew ?_)))
            (case side2 => exact (Kd.V_reads' HO191.out).2.1)
            (case side3 => repeat (first | exact (Kd.V_reads' HO195.out).2.2 | (with_reducible refine Kd.C_alloc ?_ _) | (with_reducible refine Kd.C_drewN ?_ _) | (with_reducible refine Kd.C_drew ?_)))
            (case side4 => exact (Kd.V_reads' HO195.out).2.1)
            rintro e w' ⟨rfl, ⟨nd, rfl⟩⟩
            refine ⟨_, rfl, ?_⟩
            refine hK.out _ _ ⟨czz BK181.out 0, czz BK181.out 1, czz BK188.out 0, czz BK188.out 1⟩ (fun hHeld => ?_)
            clear hK K
            refine norm_ (a' := ?_) ?_ ?_
            rotate_left
            ·show Act.put _ (some 70) _ = _
             simp only [Act.put, lA, lZ, lS, i64_w, i32_w]
             rfl
            refine pT 14 71 (bt 53 32767) (k := ?_)
            refine pT 15 72 (bt 53 65535) (k := ?_)
            refine pT 16 73 (bt 53 131071) (k := ?_)
            refine pT 17 74 (bt 53 262143) (k := ?_)
            refine pT 18 75 (bt 53 524287) (k := ?_)
            refine tT4 19 76 (bt 53 1048575) hHeld (k := ?_)
            refine one_ (i := 20) (N := some 77) (bt 53 2097151) rfl rfl (one_of HT_.out (by kernel_rfl)) (by decide) (fun K hK => ?_)
            refine goes_ Tryd.func41 (by kernel_rfl) rfl #[.slice Ao47 t189.length co47, .int .i64 a0_0] (by rfl) rfl rfl TM ?_
            with_reducible refine (saronref00_Grows.calls k _ _ t189 a0_0 true _ ?side1 ?side2 A36.out).mono ?_
            (case side1 => repeat (first | exact (Kd.V_reads' HO191.out).2.2 | (with_reducible refine Kd.C_alloc ?_ _) | (with_reducible refine Kd.C_drewN ?_ _) | (with_reducible refine Kd.C_drew ?_)))
            (case side2 => exact (Kd.V_reads' HO191.out).2.1)
            rintro e w' ⟨rfl, ⟨nd, rfl⟩⟩
            refine ⟨_, rfl, ?_⟩
            refine hK.out _ _ ⟨czz BK181.out 0, czz BK181.out 1, czz BK188.out 0, czz BK188.out 1⟩ (fun hHeld => ?_)
            clear hK K
            refine norm_ (a' := ?_) ?_ ?_
            rotate_left
            ·show Act.put _ (some 77) _ = _
             simp only [Act.put, lA, lZ, lS, i64_w, i32_w]
             rfl
            refine pT 21 78 (bt 53 4194303) (k := ?_)
            refine pT 22 79 (bt 53 8388607) (k := ?_)
            refine pT 23 80 (bt 53 16777215) (k := ?_)
            refine pT 24 81 (bt 53 33554431) (k := ?_)
            refine pT 27 84 (bt 53 167772159) (k := ?_)
            refine pT 28 85 (bt 53 436207615) (k := ?_)
            refine pT 29 86 (bt 53 973078527) (k := ?_)
            refine one_ (i := 25) (N := some 82) (bt 53 1006632959) rfl rfl (one_of HT_.out (by kernel_rfl)) (by decide) (fun K hK => ?_)
            refine goes_ Tryd.func42 (by kernel_rfl) rfl #[.slice Ao47 t189.length co47, .int .i64 0] (by rfl) rfl rfl TM ?_
            with_reducible refine (saronref00_Where.calls k _ _ t189 0 t201 _ ?side1 ?side2 A38.out).mono ?_
            (case side1 => repeat (first | exact (Kd.V_reads' HO191.out).2.2 | (with_reducible refine Kd.C_alloc ?_ _) | (with_reducible refine Kd.C_drewN ?_ _) | (with_reducible refine Kd.C_drew ?_)))
            (case side2 => exact (Kd.V_reads' HO191.out).2.1)
            rintro e w' ⟨rfl, ⟨nd, rfl⟩⟩
            refine ⟨_, rfl, ?_⟩
            refine hK.out _ _ ⟨czz BK181.out 0, czz BK181.out 1, czz BK188.out 0, czz BK188.out 1⟩ (fun hHeld => ?_)
            clear hK K
            refine norm_ (a' := ?_) ?_ ?_
            rotate_left
            ·show Act.put _ (some 82) _ = _
             simp only [Act.put, lA, lZ, lS, i64_w, i32_w]
             rfl
            refine pT 26 83 (bt 53 1073741823) (k := ?_)
            refine pT 30 87 (bt 53 2147483647) (k := ?_)
            refine pT 31 88 (bt 53 4294967295) (k := ?_)
            refine pT 32 89 (bt 53 8589934591) (k := ?_)
            refine pT 33 90 (bt 53 17179869183) (k := ?_)
            refine pT 34 91 (bt 53 34359738367) (k := ?_)
            refine pT 37 94 (bt 53 171798691839) (k := ?_)
            refine tT4 35 92 (bt 53 206158430207) hHeld (k := ?_)
            refine tT4 38 95 (bt 53 481036337151) hHeld (k := ?_)
            refine pT 39 96 (bt 53 1030792151039) (k := ?_)
            refine one_ (i := 36) (N := some 93) (bt 53 1099511627775) rfl rfl (one_of HT_.out (by kernel_rfl)) (by decide) (fun K hK => ?_)
            refine goes_ Tryd.func40 (by kernel_rfl) rfl #[.int .i64 t197, .int .i64 ((rd_T63 l0_1 t185).f0)] (by rfl) rfl rfl TM ?_
            with_reducible refine (saronref00_Turn.calls t197 ((rd_T63 l0_1 t185).f0) t202 _ A43.out).mono ?_
            rintro e w' ⟨rfl, ⟨nd, rfl⟩⟩
            refine ⟨_, rfl, ?_⟩
            refine hK.out _ _ ⟨czz BK181.out 0, czz BK181.out 1, czz BK188.out 0, czz BK188.out 1⟩ (fun hHeld => ?_)
            clear hK K
            refine norm_ (a' := ?_) ?_ ?_
            rotate_left
            ·show Act.put _ (some 93) _ = _
             simp only [Act.put, lA, lZ, lS, i64_w, i32_w]
             rfl
            refine pT 40 97 (bt 53 2199023255551) (k := ?_)
            refine pT 41 98 (bt 53 4398046511103) (k := ?_)
            refine pT 42 99 (bt 53 8796093022207) (k := ?_)
            refine pT 43 100 (bt 53 17592186044415) (k := ?_)
            refine pT 44 101 (bt 53 35184372088831) (k := ?_)
            refine pT 45 102 (bt 53 70368744177663) (k := ?_)
            refine pT 46 103 (bt 53 140737488355327) (k := ?_)
            refine tT4 47 104 (bt 53 281474976710655) hHeld (k := ?_)
            refine pT 48 105 (bt 53 562949953421311) (k := ?_)
            refine pT 49 106 (bt 53 1125899906842623) (k := ?_)
            refine one_ (i := 50) (N := some 107) (bt 53 2251799813685247) rfl rfl (one_of HT_.out (by kernel_rfl)) (by decide) (fun K hK => ?_)
            refine goes_ Tryd.func43 (by kernel_rfl) rfl #[.int .i64 t197, .int .i64 t186, .int .i64 (wrap64 ((wrap64 (t186 + ((rd_T63 l0_1 t185).f0))) - 1))] (by rfl) rfl rfl TM ?_
            with_reducible refine (saronref00_Sits.calls t197 t186 (wrap64 ((wrap64 (t186 + ((rd_T63 l0_1 t185).f0))) - 1)) t203 _ A45.out).mono ?_
            rintro e w' ⟨rfl, ⟨nd, rfl⟩⟩
            refine ⟨_, rfl, ?_⟩
            refine hK.out _ _ ⟨czz BK181.out 0, czz BK181.out 1, czz BK188.out 0, czz BK188.out 1⟩ (fun hHeld => ?_)
            clear hK K
            refine norm_ (a' := ?_) ?_ ?_
            rotate_left
            ·show Act.put _ (some 107) _ = _
             simp only [Act.put, lA, lZ, lS, i64_w, i32_w]
             rfl
            refine pT 51 108 (bt 53 4503599627370495) (k := ?_)
            refine pT 52 109 (bt 53 9007199254740991) (k := ?_)
            refine done_ (done_of HT_.out (by kernel_rfl)) ?_
            try go_wp2
            go_meet
            case rel => exact ⟨_, (!t203), TT, H', ⟨by first | omega | exact Nat.le_refl _⟩, ⟨by (with_reducible repeat (first | apply Kd.V_alloc | apply Kd.V_drewN | apply Kd.V_drew)); exact HO191.out⟩, ⟨by (with_reducible repeat (first | refine blk_drewN ?_ _ | refine blk_drew ?_ | refine blk_alloc ?_ _)); exact BK181.out⟩, ⟨by (with_reducible repeat (first | refine blk_drewN ?_ _ | refine blk_drew ?_ | refine blk_alloc ?_ _)); exact BK182.out⟩, ⟨by (with_reducible repeat (first | refine blk_drewN ?_ _ | refine blk_drew ?_ | refine blk_alloc ?_ _)); exact BK188.out⟩, ⟨TB3 GE181.out GE182.out GE188.out⟩⟩
           ·rw [if_neg c44] at H
            have c44b0 : (t202 == (wrap64 (((rd_T63 l0_1 t185).f0) - 1))) = false := beq_eq_false_iff_ne.mpr c44
            have c44b1 : (t202 != (wrap64 (((rd_T63 l0_1 t185).f0) - 1))) = true := bne_iff_ne.mpr c44
            have H' := Aside0.mk H
            clear H
            try go_wp2
            have n0_ := Aside0.mk (Kd.V_drew HO191.out)
            have n1_ := Aside0.mk (Kd.V_drew HO195.out)
            have n2_ := Aside0.mk (blk_drew BK181.out)
            have n3_ := Aside0.mk (blk_drew BK182.out)
            have n4_ := Aside0.mk (blk_drew BK188.out)
            have n5_ := Aside0.mk (below_drew1 HB.out)
            clear HO191
            clear HO195
            clear BK181
            clear BK182
            clear BK188
            clear HB
            have HO191 := n0_
            have HO195 := n1_
            have BK181 := n2_
            have BK182 := n3_
            have BK188 := n4_
            have HB := n5_
            clear n0_ n1_ n2_ n3_ n4_ n5_
            obtain ⟨Ao50, co50, eo50⟩ := Kd.V_slice HO191.out
            (first | subst eo50 | (injection eo50 with f1_ f2_ f3_; have f4_ := f1_.symm; have f5_ := f3_.symm; clear f1_ f2_ f3_; subst f4_; subst f5_))
            obtain ⟨Ao51, co51, eo51⟩ := Kd.V_slice HO195.out
            (first | subst eo51 | (injection eo51 with f1_ f2_ f3_; have f4_ := f1_.symm; have f5_ := f3_.symm; clear f1_ f2_ f3_; subst f4_; subst f5_))
            refine start_ (n := 53) (S := fun w' => w'.cell? ⟨gb181, 0, none⟩ = some (.int .i64 a0_0) ∧ w'.cell? ⟨gb181, 1, none⟩ = some (.slice (some ad187) l0_1.length c0_1) ∧ w'.cell? ⟨gb188, 0, none⟩ = some (.int .i64 ((rd_T63 l0_1 t185).f0)) ∧ w'.cell? ⟨gb188, 1, none⟩ = some (.slice A187_1 ((rd_T63 l0_1 t185).f1).length c187_1)) (ds := []) (.replicate 53 false) (by kernel_rfl) rfl rfl ⟨czz BK181.out 0, czz BK181.out 1, czz BK188.out 0, czz BK188.out 1⟩ (fun hHeld => ?_); refine with_tabW saronlaw05_CycleRound.tab8 saronlaw05_CycleRound.bits8 (fun HT_ HW_ => ?_)
            generalize w30.drew = w49 at HO191 HO195 BK181 BK182 BK188 HB hHeld ⊢
            refine pT 0 57 (bt 53 1) (k := ?_)
            refine pT 1 58 (bt 53 3) (k := ?_)
            refine pT 2 59 (bt 53 7) (k := ?_)
            refine pT 3 60 (bt 53 15) (k := ?_)
            refine pT 4 61 (bt 53 31) (k := ?_)
            refine pT 5 62 (bt 53 63) (k := ?_)
            refine pT 6 63 (bt 53 127) (k := ?_)
            refine pT 7 64 (bt 53 255) (k := ?_)
            refine pT 8 65 (bt 53 511) (k := ?_)
            refine pT 9 66 (bt 53 1023) (k := ?_)
            refine pT 10 67 (bt 53 2047) (k := ?_)
            refine pT 11 68 (bt 53 4095) (k := ?_)
            refine pT 12 69 (bt 53 8191) (k := ?_)
            refine one_ (i := 13) (N := some 70) (bt 53 16383) rfl rfl (one_of HT_.out (by kernel_rfl)) (by decide) (fun K hK => ?_)
            refine goes_ Tryd.func16 (by kernel_rfl) rfl #[.slice Ao50 t189.length co50, .slice Ao51 t193.length co51] (by rfl) rfl rfl TM ?_
            with_reducible refine (saronref00_Equal.calls k _ _ t189 _ _ t193 true _ ?side1 ?side2 ?side3 ?side4 A34.out).mono ?_
            (case side1 => repeat (first | exact (Kd.V_reads' HO191.out).2.2 | (with_reducible refine Kd.C_alloc ?_ _) | (with_reducible refine Kd.C_drewN ?_ _) | (with_reducible refine Kd.C_drew ?_)))
            (case side2 => exact (Kd.V_reads' HO191.out).2.1)
            (case side3 => repeat (first | exact (Kd.V_reads' HO195.out).2.2 | (with_reducible refine Kd.C_alloc ?_ _) | (with_reducible refine Kd.C_drewN ?_ _) | (with_reducible refine Kd.C_drew ?_)))
            (case side4 => exact (Kd.V_reads' HO195.out).2.1)
            rintro e w' ⟨rfl, ⟨nd, rfl⟩⟩
            refine ⟨_, rfl, ?_⟩
            refine hK.out _ _ ⟨czz BK181.out 0, czz BK181.out 1, czz BK188.out 0, czz BK188.out 1⟩ (fun hHeld => ?_)
            clear hK K
            refine norm_ (a' := ?_) ?_ ?_
            rotate_left
            ·show Act.put _ (some 70) _ = _
             simp only [Act.put, lA, lZ, lS, i64_w, i32_w]
             rfl
            refine pT 14 71 (bt 53 32767) (k := ?_)
            refine pT 15 72 (bt 53 65535) (k := ?_)
            refine pT 16 73 (bt 53 131071) (k := ?_)
            refine pT 17 74 (bt 53 262143) (k := ?_)
            refine pT 18 75 (bt 53 524287) (k := ?_)
            refine tT4 19 76 (bt 53 1048575) hHeld (k := ?_)
            refine one_ (i := 20) (N := some 77) (bt 53 2097151) rfl rfl (one_of HT_.out (by kernel_rfl)) (by decide) (fun K hK => ?_)
            refine goes_ Tryd.func41 (by kernel_rfl) rfl #[.slice Ao50 t189.length co50, .int .i64 a0_0] (by rfl) rfl rfl TM ?_
            with_reducible refine (saronref00_Grows.calls k _ _ t189 a0_0 true _ ?side1 ?side2 A36.out).mono ?_
            (case side1 => repeat (first | exact (Kd.V_reads' HO191.out).2.2 | (with_reducible refine Kd.C_alloc ?_ _) | (with_reducible refine Kd.C_drewN ?_ _) | (with_reducible refine Kd.C_drew ?_)))
            (case side2 => exact (Kd.V_reads' HO191.out).2.1)
            rintro e w' ⟨rfl, ⟨nd, rfl⟩⟩
            refine ⟨_, rfl, ?_⟩
            refine hK.out _ _ ⟨czz BK181.out 0, czz BK181.out 1, czz BK188.out 0, czz BK188.out 1⟩ (fun hHeld => ?_)
            clear hK K
            refine norm_ (a' := ?_) ?_ ?_
            rotate_left
            ·show Act.put _ (some 77) _ = _
             simp only [Act.put, lA, lZ, lS, i64_w, i32_w]
             rfl
            refine pT 21 78 (bt 53 4194303) (k := ?_)
            refine pT 22 79 (bt 53 8388607) (k := ?_)
            refine pT 23 80 (bt 53 16777215) (k := ?_)
            refine pT 24 81 (bt 53 33554431) (k := ?_)
            refine pT 27 84 (bt 53 167772159) (k := ?_)
            refine pT 28 85 (bt 53 436207615) (k := ?_)
            refine pT 29 86 (bt 53 973078527) (k := ?_)
            refine one_ (i := 25) (N := some 82) (bt 53 1006632959) rfl rfl (one_of HT_.out (by kernel_rfl)) (by decide) (fun K hK => ?_)
            refine goes_ Tryd.func42 (by kernel_rfl) rfl #[.slice Ao50 t189.length co50, .int .i64 0] (by rfl) rfl rfl TM ?_
            with_reducible refine (saronref00_Where.calls k _ _ t189 0 t201 _ ?side1 ?side2 A38.out).mono ?_
            (case side1 => repeat (first | exact (Kd.V_reads' HO191.out).2.2 | (with_reducible refine Kd.C_alloc ?_ _) | (with_reducible refine Kd.C_drewN ?_ _) | (with_reducible refine Kd.C_drew ?_)))
            (case side2 => exact (Kd.V_reads' HO191.out).2.1)
            rintro e w' ⟨rfl, ⟨nd, rfl⟩⟩
            refine ⟨_, rfl, ?_⟩
            refine hK.out _ _ ⟨czz BK181.out 0, czz BK181.out 1, czz BK188.out 0, czz BK188.out 1⟩ (fun hHeld => ?_)
            clear hK K
            refine norm_ (a' := ?_) ?_ ?_
            rotate_left
            ·show Act.put _ (some 82) _ = _
             simp only [Act.put, lA, lZ, lS, i64_w, i32_w]
             rfl
            refine pT 26 83 (bt 53 1073741823) (k := ?_)
            refine pT 30 87 (bt 53 2147483647) (k := ?_)
            refine pT 31 88 (bt 53 4294967295) (k := ?_)
            refine pT 32 89 (bt 53 8589934591) (k := ?_)
            refine pT 33 90 (bt 53 17179869183) (k := ?_)
            refine pT 34 91 (bt 53 34359738367) (k := ?_)
            refine pT 37 94 (bt 53 171798691839) (k := ?_)
            refine tT4 35 92 (bt 53 206158430207) hHeld (k := ?_)
            refine tT4 38 95 (bt 53 481036337151) hHeld (k := ?_)
            refine pT 39 96 (bt 53 1030792151039) (k := ?_)
            refine one_ (i := 36) (N := some 93) (bt 53 1099511627775) rfl rfl (one_of HT_.out (by kernel_rfl)) (by decide) (fun K hK => ?_)
            refine goes_ Tryd.func40 (by kernel_rfl) rfl #[.int .i64 t197, .int .i64 ((rd_T63 l0_1 t185).f0)] (by rfl) rfl rfl TM ?_
            with_reducible refine (saronref00_Turn.calls t197 ((rd_T63 l0_1 t185).f0) t202 _ A43.out).mono ?_
            rintro e w' ⟨rfl, ⟨nd, rfl⟩⟩
            refine ⟨_, rfl, ?_⟩
            refine hK.out _ _ ⟨czz BK181.out 0, czz BK181.out 1, czz BK188.out 0, czz BK188.out 1⟩ (fun hHeld => ?_)
            clear hK K
            refine norm_ (a' := ?_) ?_ ?_
            rotate_left
            ·show Act.put _ (some 93) _ = _
             simp only [Act.put, lA, lZ, lS, i64_w, i32_w]
             rfl
            refine pT 40 97 (bt 53 2199023255551) (k := ?_)
            refine pT 41 98 (bt 53 4398046511103) (k := ?_)
            refine pT 42 99 (bt 53 8796093022207) (k := ?_)
            refine pU 43 100 (bt 53 17592186044415) (k := ?_)
            refine pU 44 101 (bt 53 35184372088831) (k := ?_)
            refine pU 45 102 (bt 53 70368744177663) (k := ?_)
            refine pU 46 103 (bt 53 140737488355327) (k := ?_)
            refine pU 47 104 (bt 53 281474976710655) (k := ?_)
            refine pU 48 105 (bt 53 562949953421311) (k := ?_)
            refine pU 49 106 (bt 53 1125899906842623) (k := ?_)
            refine pU 50 107 (bt 53 2251799813685247) (k := ?_)
            refine pU 51 108 (bt 53 4503599627370495) (k := ?_)
            refine pT 52 109 (bt 53 9007199254740991) (k := ?_)
            refine done_ (done_of HT_.out (by kernel_rfl)) ?_
            try go_wp2
            go_meet
            case rel => exact ⟨_, (true), TT, H', ⟨by first | omega | exact Nat.le_refl _⟩, ⟨by (with_reducible repeat (first | apply Kd.V_alloc | apply Kd.V_drewN | apply Kd.V_drew)); exact HO191.out⟩, ⟨by (with_reducible repeat (first | refine blk_drewN ?_ _ | refine blk_drew ?_ | refine blk_alloc ?_ _)); exact BK181.out⟩, ⟨by (with_reducible repeat (first | refine blk_drewN ?_ _ | refine blk_drew ?_ | refine blk_alloc ?_ _)); exact BK182.out⟩, ⟨by (with_reducible repeat (first | refine blk_drewN ?_ _ | refine blk_drew ?_ | refine blk_alloc ?_ _)); exact BK188.out⟩, ⟨TB3 GE181.out GE182.out GE188.out⟩⟩
         ·replace c37 := Bool.eq_false_iff.mpr c37
          subst c37
          have H1 : (saronlaw05_CycleRound.j0 k t186 t189 true a0_0 l0_1 ((rd_T63 l0_1 t185).f0) ((rd_T63 l0_1 t185).f1)) = some r := by rw [if_neg (show ¬ (false = true) by decide)] at H; exact H
          clear H
          have H := H1
          clear H1
          have H' := Aside0.mk H
          clear H
          try go_wp2
          have n0_ := Aside0.mk (Kd.V_drew HO191.out)
          have n1_ := Aside0.mk (Kd.V_drew HO195.out)
          have n2_ := Aside0.mk (blk_drew BK181.out)
          have n3_ := Aside0.mk (blk_drew BK182.out)
          have n4_ := Aside0.mk (blk_drew BK188.out)
          have n5_ := Aside0.mk (below_drew1 HB.out)
          clear HO191
          clear HO195
          clear BK181
          clear BK182
          clear BK188
          clear HB
          have HO191 := n0_
          have HO195 := n1_
          have BK181 := n2_
          have BK182 := n3_
          have BK188 := n4_
          have HB := n5_
          clear n0_ n1_ n2_ n3_ n4_ n5_
          obtain ⟨Ao53, co53, eo53⟩ := Kd.V_slice HO191.out
          (first | subst eo53 | (injection eo53 with f1_ f2_ f3_; have f4_ := f1_.symm; have f5_ := f3_.symm; clear f1_ f2_ f3_; subst f4_; subst f5_))
          obtain ⟨Ao54, co54, eo54⟩ := Kd.V_slice HO195.out
          (first | subst eo54 | (injection eo54 with f1_ f2_ f3_; have f4_ := f1_.symm; have f5_ := f3_.symm; clear f1_ f2_ f3_; subst f4_; subst f5_))
          refine start_ (n := 53) (S := fun w' => w'.cell? ⟨gb181, 0, none⟩ = some (.int .i64 a0_0) ∧ w'.cell? ⟨gb181, 1, none⟩ = some (.slice (some ad187) l0_1.length c0_1)) (ds := []) (.replicate 53 false) (by kernel_rfl) rfl rfl ⟨czz BK181.out 0, czz BK181.out 1⟩ (fun hHeld => ?_); refine with_tabW saronlaw05_CycleRound.tab8 saronlaw05_CycleRound.bits8 (fun HT_ HW_ => ?_)
          generalize w30.drew = w52 at HO191 HO195 BK181 BK182 BK188 HB hHeld ⊢
          refine pT 0 57 (bt 53 1) (k := ?_)
          refine pT 1 58 (bt 53 3) (k := ?_)
          refine pT 2 59 (bt 53 7) (k := ?_)
          refine pT 3 60 (bt 53 15) (k := ?_)
          refine pT 4 61 (bt 53 31) (k := ?_)
          refine pT 5 62 (bt 53 63) (k := ?_)
          refine pT 6 63 (bt 53 127) (k := ?_)
          refine pT 7 64 (bt 53 255) (k := ?_)
          refine pT 8 65 (bt 53 511) (k := ?_)
          refine pT 9 66 (bt 53 1023) (k := ?_)
          refine pT 10 67 (bt 53 2047) (k := ?_)
          refine pT 11 68 (bt 53 4095) (k := ?_)
          refine pT 12 69 (bt 53 8191) (k := ?_)
          refine one_ (i := 13) (N := some 70) (bt 53 16383) rfl rfl (one_of HT_.out (by kernel_rfl)) (by decide) (fun K hK => ?_)
          refine goes_ Tryd.func16 (by kernel_rfl) rfl #[.slice Ao53 t189.length co53, .slice Ao54 t193.length co54] (by rfl) rfl rfl TM ?_
          with_reducible refine (saronref00_Equal.calls k _ _ t189 _ _ t193 true _ ?side1 ?side2 ?side3 ?side4 A34.out).mono ?_
          (case side1 => repeat (first | exact (Kd.V_reads' HO191.out).2.2 | (with_reducible refine Kd.C_alloc ?_ _) | (with_reducible refine Kd.C_drewN ?_ _) | (with_reducible refine Kd.C_drew ?_)))
          (case side2 => exact (Kd.V_reads' HO191.out).2.1)
          (case side3 => repeat (first | exact (Kd.V_reads' HO195.out).2.2 | (with_reducible refine Kd.C_alloc ?_ _) | (with_reducible refine Kd.C_drewN ?_ _) | (with_reducible refine Kd.C_drew ?_)))
          (case side4 => exact (Kd.V_reads' HO195.out).2.1)
          rintro e w' ⟨rfl, ⟨nd, rfl⟩⟩
          refine ⟨_, rfl, ?_⟩
          refine hK.out _ _ ⟨czz BK181.out 0, czz BK181.out 1⟩ (fun hHeld => ?_)
          clear hK K
          refine norm_ (a' := ?_) ?_ ?_
          rotate_left
          ·show Act.put _ (some 70) _ = _
           simp only [Act.put, lA, lZ, lS, i64_w, i32_w]
           rfl
          refine pT 14 71 (bt 53 32767) (k := ?_)
          refine pT 15 72 (bt 53 65535) (k := ?_)
          refine pT 16 73 (bt 53 131071) (k := ?_)
          refine pT 17 74 (bt 53 262143) (k := ?_)
          refine pT 18 75 (bt 53 524287) (k := ?_)
          refine tT2 19 76 (bt 53 1048575) hHeld (k := ?_)
          refine one_ (i := 20) (N := some 77) (bt 53 2097151) rfl rfl (one_of HT_.out (by kernel_rfl)) (by decide) (fun K hK => ?_)
          refine goes_ Tryd.func41 (by kernel_rfl) rfl #[.slice Ao53 t189.length co53, .int .i64 a0_0] (by rfl) rfl rfl TM ?_
          with_reducible refine (saronref00_Grows.calls k _ _ t189 a0_0 false _ ?side1 ?side2 A36.out).mono ?_
          (case side1 => repeat (first | exact (Kd.V_reads' HO191.out).2.2 | (with_reducible refine Kd.C_alloc ?_ _) | (with_reducible refine Kd.C_drewN ?_ _) | (with_reducible refine Kd.C_drew ?_)))
          (case side2 => exact (Kd.V_reads' HO191.out).2.1)
          rintro e w' ⟨rfl, ⟨nd, rfl⟩⟩
          refine ⟨_, rfl, ?_⟩
          refine hK.out _ _ ⟨czz BK181.out 0, czz BK181.out 1⟩ (fun hHeld => ?_)
          clear hK K
          refine norm_ (a' := ?_) ?_ ?_
          rotate_left
          ·show Act.put _ (some 77) _ = _
           simp only [Act.put, lA, lZ, lS, i64_w, i32_w]
           rfl
          refine pT 21 78 (bt 53 4194303) (k := ?_)
          refine pT 22 79 (bt 53 8388607) (k := ?_)
          refine pT 23 80 (bt 53 16777215) (k := ?_)
          refine pU 24 81 (bt 53 33554431) (k := ?_)
          refine pU 25 82 (bt 53 67108863) (k := ?_)
          refine pU 26 83 (bt 53 134217727) (k := ?_)
          refine pU 27 84 (bt 53 268435455) (k := ?_)
          refine pU 28 85 (bt 53 536870911) (k := ?_)
          refine pU 29 86 (bt 53 1073741823) (k := ?_)
          refine pU 30 87 (bt 53 2147483647) (k := ?_)
          refine pT 31 88 (bt 53 4294967295) (k := ?_)
          refine pT 32 89 (bt 53 8589934591) (k := ?_)
          refine pU 33 90 (bt 53 17179869183) (k := ?_)
          refine pU 34 91 (bt 53 34359738367) (k := ?_)
          refine pU 35 92 (bt 53 68719476735) (k := ?_)
          refine pU 36 93 (bt 53 137438953471) (k := ?_)
          refine pU 37 94 (bt 53 274877906943) (k := ?_)
          refine pU 38 95 (bt 53 549755813887) (k := ?_)
          refine pU 39 96 (bt 53 1099511627775) (k := ?_)
          refine pU 40 97 (bt 53 2199023255551) (k := ?_)
          refine pT 41 98 (bt 53 4398046511103) (k := ?_)
          refine pT 42 99 (bt 53 8796093022207) (k := ?_)
          refine pU 43 100 (bt 53 17592186044415) (k := ?_)
          refine pU 44 101 (bt 53 35184372088831) (k := ?_)
          refine pU 45 102 (bt 53 70368744177663) (k := ?_)
          refine pU 46 103 (bt 53 140737488355327) (k := ?_)
          refine pU 47 104 (bt 53 281474976710655) (k := ?_)
          refine pU 48 105 (bt 53 562949953421311) (k := ?_)
          refine pU 49 106 (bt 53 1125899906842623) (k := ?_)
          refine pU 50 107 (bt 53 2251799813685247) (k := ?_)
          refine pU 51 108 (bt 53 4503599627370495) (k := ?_)
          refine pT 52 109 (bt 53 9007199254740991) (k := ?_)
          refine done_ (done_of HT_.out (by kernel_rfl)) ?_
          try go_wp2
          go_meet
          case rel => exact ⟨_, (true), TT, H', ⟨by first | omega | exact Nat.le_refl _⟩, ⟨by (with_reducible repeat (first | apply Kd.V_alloc | apply Kd.V_drewN | apply Kd.V_drew)); exact HO191.out⟩, ⟨by (with_reducible repeat (first | refine blk_drewN ?_ _ | refine blk_drew ?_ | refine blk_alloc ?_ _)); exact BK181.out⟩, ⟨by (with_reducible repeat (first | refine blk_drewN ?_ _ | refine blk_drew ?_ | refine blk_alloc ?_ _)); exact BK182.out⟩, ⟨by (with_reducible repeat (first | refine blk_drewN ?_ _ | refine blk_drew ?_ | refine blk_alloc ?_ _)); exact BK188.out⟩, ⟨TB3 GE181.out GE182.out GE188.out⟩⟩
        ·replace c35 := Bool.eq_false_iff.mpr c35
         subst c35
         have H1 : (saronlaw05_CycleRound.j0 k t186 t189 true a0_0 l0_1 ((rd_T63 l0_1 t185).f0) ((rd_T63 l0_1 t185).f1)) = some r := by rw [if_neg (show ¬ (false = true) by decide)] at H; exact H
         clear H
         have H := H1
         clear H1
         have H' := Aside0.mk H
         clear H
         try go_wp2
         have n0_ := Aside0.mk (Kd.V_drew HO191.out)
         have n1_ := Aside0.mk (Kd.V_drew HO195.out)
         have n2_ := Aside0.mk (blk_drew BK181.out)
         have n3_ := Aside0.mk (blk_drew BK182.out)
         have n4_ := Aside0.mk (blk_drew BK188.out)
         have n5_ := Aside0.mk (below_drew1 HB.out)
         clear HO191
         clear HO195
         clear BK181
         clear BK182
         clear BK188
         clear HB
         have HO191 := n0_
         have HO195 := n1_
         have BK181 := n2_
         have BK182 := n3_
         have BK188 := n4_
         have HB := n5_
         clear n0_ n1_ n2_ n3_ n4_ n5_
         obtain ⟨Ao56, co56, eo56⟩ := Kd.V_slice HO191.out
         (first | subst eo56 | (injection eo56 with f1_ f2_ f3_; have f4_ := f1_.symm; have f5_ := f3_.symm; clear f1_ f2_ f3_; subst f4_; subst f5_))
         obtain ⟨Ao57, co57, eo57⟩ := Kd.V_slice HO195.out
         (first | subst eo57 | (injection eo57 with f1_ f2_ f3_; have f4_ := f1_.symm; have f5_ := f3_.symm; clear f1_ f2_ f3_; subst f4_; subst f5_))
         refine start_ (n := 53) (S := fun w' => True) (ds := []) (.replicate 53 false) (by kernel_rfl) rfl rfl trivial (fun hHeld => ?_); refine with_tabW saronlaw05_CycleRound.tab8 saronlaw05_CycleRound.bits8 (fun HT_ HW_ => ?_)
         generalize w30.drew = w55 at HO191 HO195 BK181 BK182 BK188 HB hHeld ⊢
         refine pT 0 57 (bt 53 1) (k := ?_)
         refine pT 1 58 (bt 53 3) (k := ?_)
         refine pT 2 59 (bt 53 7) (k := ?_)
         refine pT 3 60 (bt 53 15) (k := ?_)
         refine pT 4 61 (bt 53 31) (k := ?_)
         refine pT 5 62 (bt 53 63) (k := ?_)
         refine pT 6 63 (bt 53 127) (k := ?_)
         refine pT 7 64 (bt 53 255) (k := ?_)
         refine pT 8 65 (bt 53 511) (k := ?_)
         refine pT 9 66 (bt 53 1023) (k := ?_)
         refine pT 10 67 (bt 53 2047) (k := ?_)
         refine pT 11 68 (bt 53 4095) (k := ?_)
         refine pT 12 69 (bt 53 8191) (k := ?_)
         refine one_ (i := 13) (N := some 70) (bt 53 16383) rfl rfl (one_of HT_.out (by kernel_rfl)) (by decide) (fun K hK => ?_)
         refine goes_ Tryd.func16 (by kernel_rfl) rfl #[.slice Ao56 t189.length co56, .slice Ao57 t193.length co57] (by rfl) rfl rfl TM ?_
         with_reducible refine (saronref00_Equal.calls k _ _ t189 _ _ t193 false _ ?side1 ?side2 ?side3 ?side4 A34.out).mono ?_
         (case side1 => repeat (first | exact (Kd.V_reads' HO191.out).2.2 | (with_reducible refine Kd.C_alloc ?_ _) | (with_reducible refine Kd.C_drewN ?_ _) | (with_reducible refine Kd.C_drew ?_)))
         (case side2 => exact (Kd.V_reads' HO191.out).2.1)
         (case side3 => repeat (first | exact (Kd.V_reads' HO195.out).2.2 | (with_reducible refine Kd.C_alloc ?_ _) | (with_reducible refine Kd.C_drewN ?_ _) | (with_reducible refine Kd.C_drew ?_)))
         (case side4 => exact (Kd.V_reads' HO195.out).2.1)
         rintro e w' ⟨rfl, ⟨nd, rfl⟩⟩
         refine ⟨_, rfl, ?_⟩
         refine hK.out _ _ trivial (fun hHeld => ?_)
         clear hK K
         refine norm_ (a' := ?_) ?_ ?_
         rotate_left
         ·show Act.put _ (some 70) _ = _
          simp only [Act.put, lA, lZ, lS, i64_w, i32_w]
          rfl
         refine pT 14 71 (bt 53 32767) (k := ?_)
         refine pT 15 72 (bt 53 65535) (k := ?_)
         refine pT 16 73 (bt 53 131071) (k := ?_)
         refine pU 17 74 (bt 53 262143) (k := ?_)
         refine pU 18 75 (bt 53 524287) (k := ?_)
         refine pU 19 76 (bt 53 1048575) (k := ?_)
         refine pU 20 77 (bt 53 2097151) (k := ?_)
         refine pU 21 78 (bt 53 4194303) (k := ?_)
         refine pT 22 79 (bt 53 8388607) (k := ?_)
         refine pT 23 80 (bt 53 16777215) (k := ?_)
         refine pU 24 81 (bt 53 33554431) (k := ?_)
         refine pU 25 82 (bt 53 67108863) (k := ?_)
         refine pU 26 83 (bt 53 134217727) (k := ?_)
         refine pU 27 84 (bt 53 268435455) (k := ?_)
         refine pU 28 85 (bt 53 536870911) (k := ?_)
         refine pU 29 86 (bt 53 1073741823) (k := ?_)
         refine pU 30 87 (bt 53 2147483647) (k := ?_)
         refine pT 31 88 (bt 53 4294967295) (k := ?_)
         refine pT 32 89 (bt 53 8589934591) (k := ?_)
         refine pU 33 90 (bt 53 17179869183) (k := ?_)
         refine pU 34 91 (bt 53 34359738367) (k := ?_)
         refine pU 35 92 (bt 53 68719476735) (k := ?_)
         refine pU 36 93 (bt 53 137438953471) (k := ?_)
         refine pU 37 94 (bt 53 274877906943) (k := ?_)
         refine pU 38 95 (bt 53 549755813887) (k := ?_)
         refine pU 39 96 (bt 53 1099511627775) (k := ?_)
         refine pU 40 97 (bt 53 2199023255551) (k := ?_)
         refine pT 41 98 (bt 53 4398046511103) (k := ?_)
         refine pT 42 99 (bt 53 8796093022207) (k := ?_)
         refine pU 43 100 (bt 53 17592186044415) (k := ?_)
         refine pU 44 101 (bt 53 35184372088831) (k := ?_)
         refine pU 45 102 (bt 53 70368744177663) (k := ?_)
         refine pU 46 103 (bt 53 140737488355327) (k := ?_)
         refine pU 47 104 (bt 53 281474976710655) (k := ?_)
         refine pU 48 105 (bt 53 562949953421311) (k := ?_)
         refine pU 49 106 (bt 53 1125899906842623) (k := ?_)
         refine pU 50 107 (bt 53 2251799813685247) (k := ?_)
         refine pU 51 108 (bt 53 4503599627370495) (k := ?_)
         refine pT 52 109 (bt 53 9007199254740991) (k := ?_)
         refine done_ (done_of HT_.out (by kernel_rfl)) ?_
         try go_wp2
         go_meet
         case rel => exact ⟨_, (true), TT, H', ⟨by first | omega | exact Nat.le_refl _⟩, ⟨by (with_reducible repeat (first | apply Kd.V_alloc | apply Kd.V_drewN | apply Kd.V_drew)); exact HO191.out⟩, ⟨by (with_reducible repeat (first | refine blk_drewN ?_ _ | refine blk_drew ?_ | refine blk_alloc ?_ _)); exact BK181.out⟩, ⟨by (with_reducible repeat (first | refine blk_drewN ?_ _ | refine blk_drew ?_ | refine blk_alloc ?_ _)); exact BK182.out⟩, ⟨by (with_reducible repeat (first | refine blk_drewN ?_ _ | refine blk_drew ?_ | refine blk_alloc ?_ _)); exact BK188.out⟩, ⟨TB3 GE181.out GE182.out GE188.out⟩⟩
       ·rw [if_neg c33] at H
        have c33b0 : (t198 == 0) = false := beq_eq_false_iff_ne.mpr c33
        have c33b1 : (t198 != 0) = true := bne_iff_ne.mpr c33
        have H' := Aside0.mk H
        clear H
        try go_wp2
        have n0_ := Aside0.mk (Kd.V_drew HO191.out)
        have n1_ := Aside0.mk (Kd.V_drew HO195.out)
        have n2_ := Aside0.mk (blk_drew BK181.out)
        have n3_ := Aside0.mk (blk_drew BK182.out)
        have n4_ := Aside0.mk (blk_drew BK188.out)
        have n5_ := Aside0.mk (below_drew1 HB.out)
        clear HO191
        clear HO195
        clear BK181
        clear BK182
        clear BK188
        clear HB
        have HO191 := n0_
        have HO195 := n1_
        have BK181 := n2_
        have BK182 := n3_
        have BK188 := n4_
        have HB := n5_
        clear n0_ n1_ n2_ n3_ n4_ n5_
        refine start_ (n := 53) (S := fun w' => True) (ds := []) (.replicate 53 false) (by kernel_rfl) rfl rfl trivial (fun hHeld => ?_); refine with_tabW saronlaw05_CycleRound.tab8 saronlaw05_CycleRound.bits8 (fun HT_ HW_ => ?_)
        generalize w30.drew = w58 at HO191 HO195 BK181 BK182 BK188 HB hHeld ⊢
        refine pT 0 57 (bt 53 1) (k := ?_)
        refine pT 1 58 (bt 53 3) (k := ?_)
        refine pT 2 59 (bt 53 7) (k := ?_)
        refine pT 3 60 (bt 53 15) (k := ?_)
        refine pT 4 61 (bt 53 31) (k := ?_)
        refine pT 5 62 (bt 53 63) (k := ?_)
        refine pT 6 63 (bt 53 127) (k := ?_)
        refine pT 7 64 (bt 53 255) (k := ?_)
        refine pT 8 65 (bt 53 511) (k := ?_)
        refine pT 9 66 (bt 53 1023) (k := ?_)
        refine pT 10 67 (bt 53 2047) (k := ?_)
        refine pU 11 68 (bt 53 4095) (k := ?_)
        refine pU 12 69 (bt 53 8191) (k := ?_)
        refine pU 13 70 (bt 53 16383) (k := ?_)
        refine pU 14 71 (bt 53 32767) (k := ?_)
        refine pT 15 72 (bt 53 65535) (k := ?_)
        refine pT 16 73 (bt 53 131071) (k := ?_)
        refine pU 17 74 (bt 53 262143) (k := ?_)
        refine pU 18 75 (bt 53 524287) (k := ?_)
        refine pU 19 76 (bt 53 1048575) (k := ?_)
        refine pU 20 77 (bt 53 2097151) (k := ?_)
        refine pU 21 78 (bt 53 4194303) (k := ?_)
        refine pT 22 79 (bt 53 8388607) (k := ?_)
        refine pT 23 80 (bt 53 16777215) (k := ?_)
        refine pU 24 81 (bt 53 33554431) (k := ?_)
        refine pU 25 82 (bt 53 67108863) (k := ?_)
        refine pU 26 83 (bt 53 134217727) (k := ?_)
        refine pU 27 84 (bt 53 268435455) (k := ?_)
        refine pU 28 85 (bt 53 536870911) (k := ?_)
        refine pU 29 86 (bt 53 1073741823) (k := ?_)
        refine pU 30 87 (bt 53 2147483647) (k := ?_)
        refine pT 31 88 (bt 53 4294967295) (k := ?_)
        refine pT 32 89 (bt 53 8589934591) (k := ?_)
        refine pU 33 90 (bt 53 17179869183) (k := ?_)
        refine pU 34 91 (bt 53 34359738367) (k := ?_)
        refine pU 35 92 (bt 53 68719476735) (k := ?_)
        refine pU 36 93 (bt 53 137438953471) (k := ?_)
        refine pU 37 94 (bt 53 274877906943) (k := ?_)
        refine pU 38 95 (bt 53 549755813887) (k := ?_)
        refine pU 39 96 (bt 53 1099511627775) (k := ?_)
        refine pU 40 97 (bt 53 2199023255551) (k := ?_)
        refine pT 41 98 (bt 53 4398046511103) (k := ?_)
        refine pT 42 99 (bt 53 8796093022207) (k := ?_)
        refine pU 43 100 (bt 53 17592186044415) (k := ?_)
        refine pU 44 101 (bt 53 35184372088831) (k := ?_)
        refine pU 45 102 (bt 53 70368744177663) (k := ?_)
        refine pU 46 103 (bt 53 140737488355327) (k := ?_)
        refine pU 47 104 (bt 53 281474976710655) (k := ?_)
        refine pU 48 105 (bt 53 562949953421311) (k := ?_)
        refine pU 49 106 (bt 53 1125899906842623) (k := ?_)
        refine pU 50 107 (bt 53 2251799813685247) (k := ?_)
        refine pU 51 108 (bt 53 4503599627370495) (k := ?_)
        refine pT 52 109 (bt 53 9007199254740991) (k := ?_)
        refine done_ (done_of HT_.out (by kernel_rfl)) ?_
        try go_wp2
        go_meet
        case rel => exact ⟨_, (true), TT, H', ⟨by first | omega | exact Nat.le_refl _⟩, ⟨by (with_reducible repeat (first | apply Kd.V_alloc | apply Kd.V_drewN | apply Kd.V_drew)); exact HO191.out⟩, ⟨by (with_reducible repeat (first | refine blk_drewN ?_ _ | refine blk_drew ?_ | refine blk_alloc ?_ _)); exact BK181.out⟩, ⟨by (with_reducible repeat (first | refine blk_drewN ?_ _ | refine blk_drew ?_ | refine blk_alloc ?_ _)); exact BK182.out⟩, ⟨by (with_reducible repeat (first | refine blk_drewN ?_ _ | refine blk_drew ?_ | refine blk_alloc ?_ _)); exact BK188.out⟩, ⟨TB3 GE181.out GE182.out GE188.out⟩⟩
      ·rw [if_neg c32] at H
       have c32b0 : (t196 == 0) = false := beq_eq_false_iff_ne.mpr c32
       have c32b1 : (t196 != 0) = true := bne_iff_ne.mpr c32
       have H' := Aside0.mk H
       clear H
       try go_wp2
       have n0_ := Aside0.mk (Kd.V_drew HO191.out)
       have n1_ := Aside0.mk (Kd.V_drew HO195.out)
       have n2_ := Aside0.mk (blk_drew BK181.out)
       have n3_ := Aside0.mk (blk_drew BK182.out)
       have n4_ := Aside0.mk (blk_drew BK188.out)
       have n5_ := Aside0.mk (below_drew1 HB.out)
       clear HO191
       clear HO195
       clear BK181
       clear BK182
       clear BK188
       clear HB
       have HO191 := n0_
       have HO195 := n1_
       have BK181 := n2_
       have BK182 := n3_
       have BK188 := n4_
       have HB := n5_
       clear n0_ n1_ n2_ n3_ n4_ n5_
       refine start_ (n := 53) (S := fun w' => True) (ds := []) (.replicate 53 false) (by kernel_rfl) rfl rfl trivial (fun hHeld => ?_); refine with_tabW saronlaw05_CycleRound.tab8 saronlaw05_CycleRound.bits8 (fun HT_ HW_ => ?_)
       generalize w30.drew = w59 at HO191 HO195 BK181 BK182 BK188 HB hHeld ⊢
       refine pT 0 57 (bt 53 1) (k := ?_)
       refine pT 1 58 (bt 53 3) (k := ?_)
       refine pT 2 59 (bt 53 7) (k := ?_)
       refine pT 3 60 (bt 53 15) (k := ?_)
       refine pT 4 61 (bt 53 31) (k := ?_)
       refine pT 5 62 (bt 53 63) (k := ?_)
       refine pT 6 63 (bt 53 127) (k := ?_)
       refine pU 7 64 (bt 53 255) (k := ?_)
       refine pU 8 65 (bt 53 511) (k := ?_)
       refine pT 9 66 (bt 53 1023) (k := ?_)
       refine pT 10 67 (bt 53 2047) (k := ?_)
       refine pU 11 68 (bt 53 4095) (k := ?_)
       refine pU 12 69 (bt 53 8191) (k := ?_)
       refine pU 13 70 (bt 53 16383) (k := ?_)
       refine pU 14 71 (bt 53 32767) (k := ?_)
       refine pT 15 72 (bt 53 65535) (k := ?_)
       refine pT 16 73 (bt 53 131071) (k := ?_)
       refine pU 17 74 (bt 53 262143) (k := ?_)
       refine pU 18 75 (bt 53 524287) (k := ?_)
       refine pU 19 76 (bt 53 1048575) (k := ?_)
       refine pU 20 77 (bt 53 2097151) (k := ?_)
       refine pU 21 78 (bt 53 4194303) (k := ?_)
       refine pT 22 79 (bt 53 8388607) (k := ?_)
       refine pT 23 80 (bt 53 16777215) (k := ?_)
       refine pU 24 81 (bt 53 33554431) (k := ?_)
       refine pU 25 82 (bt 53 67108863) (k := ?_)
       refine pU 26 83 (bt 53 134217727) (k := ?_)
       refine pU 27 84 (bt 53 268435455) (k := ?_)
       refine pU 28 85 (bt 53 536870911) (k := ?_)
       refine pU 29 86 (bt 53 1073741823) (k := ?_)
       refine pU 30 87 (bt 53 2147483647) (k := ?_)
       refine pT 31 88 (bt 53 4294967295) (k := ?_)
       refine pT 32 89 (bt 53 8589934591) (k := ?_)
       refine pU 33 90 (bt 53 17179869183) (k := ?_)
       refine pU 34 91 (bt 53 34359738367) (k := ?_)
       refine pU 35 92 (bt 53 68719476735) (k := ?_)
       refine pU 36 93 (bt 53 137438953471) (k := ?_)
       refine pU 37 94 (bt 53 274877906943) (k := ?_)
       refine pU 38 95 (bt 53 549755813887) (k := ?_)
       refine pU 39 96 (bt 53 1099511627775) (k := ?_)
       refine pU 40 97 (bt 53 2199023255551) (k := ?_)
       refine pT 41 98 (bt 53 4398046511103) (k := ?_)
       refine pT 42 99 (bt 53 8796093022207) (k := ?_)
       refine pU 43 100 (bt 53 17592186044415) (k := ?_)
       refine pU 44 101 (bt 53 35184372088831) (k := ?_)
       refine pU 45 102 (bt 53 70368744177663) (k := ?_)
       refine pU 46 103 (bt 53 140737488355327) (k := ?_)
       refine pU 47 104 (bt 53 281474976710655) (k := ?_)
       refine pU 48 105 (bt 53 562949953421311) (k := ?_)
       refine pU 49 106 (bt 53 1125899906842623) (k := ?_)
       refine pU 50 107 (bt 53 2251799813685247) (k := ?_)
       refine pU 51 108 (bt 53 4503599627370495) (k := ?_)
       refine pT 52 109 (bt 53 9007199254740991) (k := ?_)
       refine done_ (done_of HT_.out (by kernel_rfl)) ?_
       try go_wp2
       go_meet
       case rel => exact ⟨_, (true), TT, H', ⟨by first | omega | exact Nat.le_refl _⟩, ⟨by (with_reducible repeat (first | apply Kd.V_alloc | apply Kd.V_drewN | apply Kd.V_drew)); exact HO191.out⟩, ⟨by (with_reducible repeat (first | refine blk_drewN ?_ _ | refine blk_drew ?_ | refine blk_alloc ?_ _)); exact BK181.out⟩, ⟨by (with_reducible repeat (first | refine blk_drewN ?_ _ | refine blk_drew ?_ | refine blk_alloc ?_ _)); exact BK182.out⟩, ⟨by (with_reducible repeat (first | refine blk_drewN ?_ _ | refine blk_drew ?_ | refine blk_alloc ?_ _)); exact BK188.out⟩, ⟨TB3 GE181.out GE182.out GE188.out⟩⟩
     ·rw [if_neg c31] at H
      have c31b0 : (t192 == 0) = false := beq_eq_false_iff_ne.mpr c31
      have c31b1 : (t192 != 0) = true := bne_iff_ne.mpr c31
      (first | rw [c31b0] | (simp only [i64_w, i32_w]; rw [c31b0]) | skip)
      have H' := Aside0.mk H
      clear H
      try go_wp2
      have n0_ := Aside0.mk (Kd.V_drew HO191.out)
      have n1_ := Aside0.mk (Kd.V_drew HO195.out)
      have n2_ := Aside0.mk (blk_drew BK181.out)
      have n3_ := Aside0.mk (blk_drew BK182.out)
      have n4_ := Aside0.mk (blk_drew BK188.out)
      have n5_ := Aside0.mk (below_drew1 HB.out)
      clear HO191
      clear HO195
      clear BK181
      clear BK182
      clear BK188
      clear HB
      have HO191 := n0_
      have HO195 := n1_
      have BK181 := n2_
      have BK182 := n3_
      have BK188 := n4_
      have HB := n5_
      clear n0_ n1_ n2_ n3_ n4_ n5_
      refine start_ (n := 53) (S := fun w' => True) (ds := []) (.replicate 53 false) (by kernel_rfl) rfl rfl trivial (fun hHeld => ?_); refine with_tabW saronlaw05_CycleRound.tab8 saronlaw05_CycleRound.bits8 (fun HT_ HW_ => ?_)
      generalize w30.drew = w60 at HO191 HO195 BK181 BK182 BK188 HB hHeld ⊢
      refine pT 0 57 (bt 53 1) (k := ?_)
      refine pT 1 58 (bt 53 3) (k := ?_)
      refine pT 2 59 (bt 53 7) (k := ?_)
      refine pU 3 60 (bt 53 15) (k := ?_)
      refine pU 4 61 (bt 53 31) (k := ?_)
      refine pT 5 62 (bt 53 63) (k := ?_)
      refine pT 6 63 (bt 53 127) (k := ?_)
      refine pU 7 64 (bt 53 255) (k := ?_)
      refine pU 8 65 (bt 53 511) (k := ?_)
      refine pT 9 66 (bt 53 1023) (k := ?_)
      refine pT 10 67 (bt 53 2047) (k := ?_)
      refine pU 11 68 (bt 53 4095) (k := ?_)
      refine pU 12 69 (bt 53 8191) (k := ?_)
      refine pU 13 70 (bt 53 16383) (k := ?_)
      refine pU 14 71 (bt 53 32767) (k := ?_)
      refine pT 15 72 (bt 53 65535) (k := ?_)
      refine pT 16 73 (bt 53 131071) (k := ?_)
      refine pU 17 74 (bt 53 262143) (k := ?_)
      refine pU 18 75 (bt 53 524287) (k := ?_)
      refine pU 19 76 (bt 53 1048575) (k := ?_)
      refine pU 20 77 (bt 53 2097151) (k := ?_)
      refine pU 21 78 (bt 53 4194303) (k := ?_)
      refine pT 22 79 (bt 53 8388607) (k := ?_)
      refine pT 23 80 (bt 53 16777215) (k := ?_)
      refine pU 24 81 (bt 53 33554431) (k := ?_)
      refine pU 25 82 (bt 53 67108863) (k := ?_)
      refine pU 26 83 (bt 53 134217727) (k := ?_)
      refine pU 27 84 (bt 53 268435455) (k := ?_)
      refine pU 28 85 (bt 53 536870911) (k := ?_)
      refine pU 29 86 (bt 53 1073741823) (k := ?_)
      refine pU 30 87 (bt 53 2147483647) (k := ?_)
      refine pT 31 88 (bt 53 4294967295) (k := ?_)
      refine pT 32 89 (bt 53 8589934591) (k := ?_)
      refine pU 33 90 (bt 53 17179869183) (k := ?_)
      refine pU 34 91 (bt 53 34359738367) (k := ?_)
      refine pU 35 92 (bt 53 68719476735) (k := ?_)
      refine pU 36 93 (bt 53 137438953471) (k := ?_)
      refine pU 37 94 (bt 53 274877906943) (k := ?_)
      refine pU 38 95 (bt 53 549755813887) (k := ?_)
      refine pU 39 96 (bt 53 1099511627775) (k := ?_)
      refine pU 40 97 (bt 53 2199023255551) (k := ?_)
      refine pT 41 98 (bt 53 4398046511103) (k := ?_)
      refine pT 42 99 (bt 53 8796093022207) (k := ?_)
      refine pU 43 100 (bt 53 17592186044415) (k := ?_)
      refine pU 44 101 (bt 53 35184372088831) (k := ?_)
      refine pU 45 102 (bt 53 70368744177663) (k := ?_)
      refine pU 46 103 (bt 53 140737488355327) (k := ?_)
      refine pU 47 104 (bt 53 281474976710655) (k := ?_)
      refine pU 48 105 (bt 53 562949953421311) (k := ?_)
      refine pU 49 106 (bt 53 1125899906842623) (k := ?_)
      refine pU 50 107 (bt 53 2251799813685247) (k := ?_)
      refine pU 51 108 (bt 53 4503599627370495) (k := ?_)
      refine pT 52 109 (bt 53 9007199254740991) (k := ?_)
      refine done_ (done_of HT_.out (by kernel_rfl)) ?_
      try go_wp2
      go_meet
      case rel => exact ⟨_, (true), TT, H', ⟨by first | omega | exact Nat.le_refl _⟩, ⟨by (with_reducible repeat (first | apply Kd.V_alloc | apply Kd.V_drewN | apply Kd.V_drew)); exact HO191.out⟩, ⟨by (with_reducible repeat (first | refine blk_drewN ?_ _ | refine blk_drew ?_ | refine blk_alloc ?_ _)); exact BK181.out⟩, ⟨by (with_reducible repeat (first | refine blk_drewN ?_ _ | refine blk_drew ?_ | refine blk_alloc ?_ _)); exact BK182.out⟩, ⟨by (with_reducible repeat (first | refine blk_drewN ?_ _ | refine blk_drew ?_ | refine blk_alloc ?_ _)); exact BK188.out⟩, ⟨TB3 GE181.out GE182.out GE188.out⟩⟩
    case rest => as_aux_lemma =>
     clear HC12
     try clear p2
     try clear c3
     try clear c31
     try clear c31b0
     try clear c31b1
     try clear HO_8
     try clear BK181
     try clear BK182
     try clear BK188
     try clear HB
     obtain ⟨kq, x109_11, rfl, HA, HJ11, HO_8, BK181, BK182, BK188, HB⟩ := hcut
     cases kq with
     | zero => exact absurd HA.out (by simp [saronlaw05_CycleRound.j0])
     | succ kj11 =>
      have H := HA.out
      clear HA
      simp only [saronlaw05_CycleRound.j0] at H
      by_cases c61 : x109_11 = true
      ·subst c61
       have H1 : (some false) = some r := by rw [if_pos rfl] at H; exact H
       clear H
       have H := H1
       clear H1
       obtain rfl := Option.some.inj H
       go_wp2
       go_ret
       exact ⟨TR, TB3 GE181.out GE182.out GE188.out⟩
      ·replace c61 := Bool.eq_false_iff.mpr c61
       subst c61
       have H1 : (saronlaw05_CycleRound.l0 kj11 t186 t189 0 a0_0 l0_1 ((rd_T63 l0_1 t185).f0) ((rd_T63 l0_1 t185).f1)) = some r := by rw [if_neg (show ¬ (false = true) by decide)] at H; exact H
       clear H
       have H := H1
       clear H1
       have H' := Aside0.mk H
       clear H
       go_wp2
       go_loopg [14] kj11 (fun kq v14 w' => ∃ (x14_2 : Int), v14 = .int .i64 x14_2 ∧ Aside0 (saronlaw05_CycleRound.l0 kq t186 t189 x14_2 a0_0 l0_1 ((rd_T63 l0_1 t185).f0) ((rd_T63 l0_1 t185).f1) = some r) ∧ Aside0 (kq ≤ kj11) ∧ Aside0 (Kd.V (Kd.int .i64) 3 w' w.heap.size (fun k_ => k_ ≠ gb181 ∧ k_ ≠ gb182 ∧ k_ ≠ gb188) v190 t189) ∧ Aside0 (w'.heap[gb181]? = some (.cells #[.int .i64 a0_0, (.slice (some ad187) l0_1.length c0_1)] 24 (0, 0))) ∧ Aside0 (w'.heap[gb182]? = some (.cells #[.int .i64 a1_0, .int .i64 a1_1] 55 (0, 0))) ∧ Aside0 (w'.heap[gb188]? = some (.cells #[.int .i64 ((rd_T63 l0_1 t185).f0), (.slice A187_1 ((rd_T63 l0_1 t185).f1).length c187_1)] 63 (0, 0))) ∧ Aside0 (Below w.heap.size w w'))
       case atStart => exact ⟨(0), TT, H', ⟨Nat.le_refl _⟩, ⟨by (with_reducible repeat (first | apply Kd.V_alloc | apply Kd.V_drewN | apply Kd.V_drew)); exact HO_8.out⟩, ⟨by (with_reducible repeat (first | refine blk_drewN ?_ _ | refine blk_drew ?_ | refine blk_alloc ?_ _)); exact BK181.out⟩, ⟨by (with_reducible repeat (first | refine blk_drewN ?_ _ | refine blk_drew ?_ | refine blk_alloc ?_ _)); exact BK182.out⟩, ⟨by (with_reducible repeat (first | refine blk_drewN ?_ _ | refine blk_drew ?_ | refine blk_alloc ?_ _)); exact BK188.out⟩, ⟨TB3 GE181.out GE182.out GE188.out⟩⟩
       case round => as_aux_lemma =>
        clear H'
        try clear c1
        try clear p2
        try clear c3
        try clear c6
        try clear c18
        try clear c31
        try clear c31b0
        try clear c31b1
        try clear c61
        try clear p2
        obtain ⟨x14_2, rfl, HA, HK2, HO_8, BK181, BK182, BK188, HB⟩ := hrel
        cases gk with
        | zero => exact absurd HA.out (by simp [saronlaw05_CycleRound.l0])
        | succ k2 =>
         have H := HA.out
         clear HA
         simp only [saronlaw05_CycleRound.l0] at H
         by_cases c62 : x14_2 < a0_0
         ·rw [if_pos c62] at H
          have c62b0 : decide (x14_2 < a0_0) = true := decide_eq_true c62
          clear c62
          replace H := Option.bind_eq_some_iff.mp H
          obtain ⟨t205, A630, H⟩ := H
          replace H : (if 0 ≤ x14_2 then (if x14_2 < (((rd_T63 l0_1 t185).f1).length : Int) then ((saronref00_Turn.f t186 ((rd_T63 l0_1 t185).f0)).bind fun t207 => ((saronref00_Where.f k2 (rd_L1 ((rd_T63 l0_1 t185).f1) x14_2) t207).bind fun t208 => (if ((decide (t205 ≥ 0)) != (decide (t208 ≥ 0))) = true then (some false) else (saronlaw05_CycleRound.l0 k2 t186 t189 (wrap64 (x14_2 + 1)) a0_0 l0_1 ((rd_T63 l0_1 t185).f0) ((rd_T63 l0_1 t185).f1))))) else (none)) else (none)) = some r := H
          have A63 := Aside0.mk A630
          clear A630
          by_cases c64 : 0 ≤ x14_2
          ·rw [if_pos c64] at H
           have c64b0 : decide (0 ≤ x14_2) = true := decide_eq_true c64
           clear c64
           by_cases c65 : x14_2 < (((rd_T63 l0_1 t185).f1).length : Int)
           ·rw [if_pos c65] at H
            have c65b0 : decide (x14_2 < (((rd_T63 l0_1 t185).f1).length : Int)) = true := decide_eq_true c65
            clear c65
            replace H := Option.bind_eq_some_iff.mp H
            obtain ⟨t207, A660, H⟩ := H
            replace H : ((saronref00_Where.f k2 (rd_L1 ((rd_T63 l0_1 t185).f1) x14_2) t207).bind fun t208 => (if ((decide (t205 ≥ 0)) != (decide (t208 ≥ 0))) = true then (some false) else (saronlaw05_CycleRound.l0 k2 t186 t189 (wrap64 (x14_2 + 1)) a0_0 l0_1 ((rd_T63 l0_1 t185).f0) ((rd_T63 l0_1 t185).f1)))) = some r := H
            have A66 := Aside0.mk A660
            clear A660
            replace H := Option.bind_eq_some_iff.mp H
            obtain ⟨t208, A670, H⟩ := H
            replace H : (if ((decide (t205 ≥ 0)) != (decide (t208 ≥ 0))) = true then (some false) else (saronlaw05_CycleRound.l0 k2 t186 t189 (wrap64 (x14_2 + 1)) a0_0 l0_1 ((rd_T63 l0_1 t185).f0) ((rd_T63 l0_1 t185).f1))) = some r := H
            have A67 := Aside0.mk A670
            clear A670
            by_cases c68 : ((decide (t205 ≥ 0)) != (decide (t208 ≥ 0))) = true
            ·rw [if_pos c68] at H
             have c68b0 : ((decide (t205 ≥ 0)) != (decide (t208 ≥ 0))) = true := c68
             (try (have c68b1 : decide ((decide (t205 ≥ 0)) = (decide (t208 ≥ 0))) = false := by simpa using c68))
             (try (have c68b2 : ((decide (t205 ≥ 0)) == (decide (t208 ≥ 0))) = false := by simpa using c68))
             (try (have c68b3 : ¬ ((decide (t205 ≥ 0)) = (decide (t208 ≥ 0))) := by simpa using c68))
             clear c68
             obtain rfl := Option.some.inj H
             have hnb69 := NB181_182.out
             have hnc69 := NB182_181.out
             have hnb70 := NB181_188.out
             have hnc70 := NB188_181.out
             have hcz71_0 := czz BK181.out 0
             have hcz71_1 := czz BK181.out 1
             have hfz71_0 := fz BK181.out 0
             have hfz71_1 := fz BK181.out 1
             try go_wp2
             have n0_ := Aside0.mk (Kd.V_drew HO_8.out)
             have n1_ := Aside0.mk (blk_drew BK181.out)
             have n2_ := Aside0.mk (blk_drew BK182.out)
             have n3_ := Aside0.mk (blk_drew BK188.out)
             have n4_ := Aside0.mk (below_drew1 HB.out)
             clear HO_8
             clear BK181
             clear BK182
             clear BK188
             clear HB
             have HO_8 := n0_
             have BK181 := n1_
             have BK182 := n2_
             have BK188 := n3_
             have HB := n4_
             clear n0_ n1_ n2_ n3_ n4_
             have p206 : 0 ≤ (x14_2 : Int) := of_decide_eq_true TA
             have q206 : x14_2 < (((rd_T63 l0_1 t185).f1).length : Int) := of_decide_eq_true TA
             obtain ⟨ad206, A206_0, c206_0, e206, hx206_0, hl206_0, hi206_0⟩ := at_L1 HR187_1.out x14_2 p206 q206
             have hw206_0 := hx206_0
             cases e206
             replace hx206_0 := (HB.out.cell  (World.block_lt_of_cell? w _ hx206_0)).trans hx206_0
             have HR206_0 := Aside0.mk hi206_0
             have HC206_0 := Aside0.mk hl206_0
             clear hi206_0 hl206_0
             replace p206 := eq_true p206
             replace q206 := eq_true q206
             obtain ⟨Ao73, co73, eo73⟩ := Kd.V_slice HO_8.out
             (first | subst eo73 | (injection eo73 with f1_ f2_ f3_; have f4_ := f1_.symm; have f5_ := f3_.symm; clear f1_ f2_ f3_; subst f4_; subst f5_))
             refine start_ (n := 16) (S := fun w' => w'.cell? ⟨gb188, 0, none⟩ = some (.int .i64 ((rd_T63 l0_1 t185).f0)) ∧ w'.cell? ⟨gb188, 1, none⟩ = some (.slice (some ad206) ((rd_T63 l0_1 t185).f1).length c187_1) ∧ w'.cell? (ad206.add (x14_2).toNat) = some (.slice A206_0 (rd_L1 ((rd_T63 l0_1 t185).f1) x14_2).length c206_0)) (ds := []) (.replicate 16 false) (by kernel_rfl) rfl rfl ⟨czz BK188.out 0, czz BK188.out 1, ((HB.out.cell  (World.block_lt_of_cell? w _ hw206_0)).trans hw206_0)⟩ (fun hHeld => ?_); refine with_tabW saronlaw05_CycleRound.tab13 saronlaw05_CycleRound.bits13 (fun HT_ HW_ => ?_)
             generalize wr.drew = w72 at HO_8 BK181 BK182 BK188 HB HR206_0 hx206_0 hHeld ⊢
             refine pT 0 116 (bt 16 1) (k := ?_)
             refine pT 1 117 (bt 16 3) (k := ?_)
             refine pT 4 120 (bt 16 19) (k := ?_)
             refine pT 6 122 (bt 16 83) (k := ?_)
             refine pT 9 125 (bt 16 595) (k := ?_)
             refine pT 10 126 (bt 16 1619) (k := ?_)
             refine tT3 5 121 (bt 16 1651) hHeld (k := ?_)
             refine pT 7 123 (bt 16 1779) (k := ?_)
             refine tT3 8 124 (bt 16 2035) hHeld (k := ?_)
             refine tT3 11 127 (bt 16 4083) hHeld (k := ?_)
             refine one_ (i := 2) (N := some 118) (bt 16 4087) rfl rfl (one_of HT_.out (by kernel_rfl)) (by decide) (fun K hK => ?_)
             refine goes_ Tryd.func42 (by kernel_rfl) rfl #[.slice Ao73 t189.length co73, .int .i64 x14_2] (by rfl) rfl rfl TM ?_
             with_reducible refine (saronref00_Where.calls k2 _ _ t189 x14_2 t205 _ ?side1 ?side2 A63.out).mono ?_
             (case side1 => repeat (first | exact (Kd.V_reads' HO_8.out).2.2 | (with_reducible refine Kd.C_alloc ?_ _) | (with_reducible refine Kd.C_drewN ?_ _) | (with_reducible refine Kd.C_drew ?_)))
             (case side2 => exact (Kd.V_reads' HO_8.out).2.1)
             rintro e w' ⟨rfl, ⟨nd, rfl⟩⟩
             refine ⟨_, rfl, ?_⟩
             refine hK.out _ _ ⟨czz BK188.out 0, czz BK188.out 1, ((HB.out.cell  (World.block_lt_of_cell? w _ hw206_0)).trans hw206_0)⟩ (fun hHeld => ?_)
             clear hK K
             refine norm_ (a' := ?_) ?_ ?_
             rotate_left
             ·show Act.put _ (some 118) _ = _
              simp only [Act.put, lA, lZ, lS, i64_w, i32_w]
              rfl
             refine pT 3 119 (bt 16 4095) (k := ?_)
             refine one_ (i := 12) (N := some 128) (bt 16 8191) rfl rfl (one_of HT_.out (by kernel_rfl)) (by decide) (fun K hK => ?_)
             refine goes_ Tryd.func40 (by kernel_rfl) rfl #[.int .i64 t186, .int .i64 ((rd_T63 l0_1 t185).f0)] (by rfl) rfl rfl TM ?_
             with_reducible refine (saronref00_Turn.calls t186 ((rd_T63 l0_1 t185).f0) t207 _ A66.out).mono ?_
             rintro e w' ⟨rfl, ⟨nd, rfl⟩⟩
             refine ⟨_, rfl, ?_⟩
             refine hK.out _ _ ⟨czz BK188.out 0, czz BK188.out 1, ((HB.out.cell  (World.block_lt_of_cell? w _ hw206_0)).trans hw206_0)⟩ (fun hHeld => ?_)
             clear hK K
             refine norm_ (a' := ?_) ?_ ?_
             rotate_left
             ·show Act.put _ (some 128) _ = _
              simp only [Act.put, lA, lZ, lS, i64_w, i32_w]
              rfl
             refine one_ (i := 13) (N := some 129) (bt 16 16383) rfl rfl (one_of HT_.out (by kernel_rfl)) (by decide) (fun K hK => ?_)
             refine goes_ Tryd.func42 (by kernel_rfl) rfl #[.slice A206_0 (rd_L1 ((rd_T63 l0_1 t185).f1) x14_2).length c206_0, .int .i64 t207] (by rfl) rfl rfl TM ?_
             with_reducible refine (saronref00_Where.calls k2 _ _ (rd_L1 ((rd_T63 l0_1 t185).f1) x14_2) t207 t208 _ ?side1 ?side2 A67.out).mono ?_
             (case side1 => exact TD HR206_0.out (TB3 GE181.out GE182.out GE188.out))
             (case side2 => exact HC206_0.out)
             rintro e w' ⟨rfl, ⟨nd, rfl⟩⟩
             refine ⟨_, rfl, ?_⟩
             refine hK.out _ _ ⟨czz BK188.out 0, czz BK188.out 1, ((HB.out.cell  (World.block_lt_of_cell? w _ hw206_0)).trans hw206_0)⟩ (fun hHeld => ?_)
             clear hK K
             refine norm_ (a' := ?_) ?_ ?_
             rotate_left
             ·show Act.put _ (some 129) _ = _
              simp only [Act.put, lA, lZ, lS, i64_w, i32_w]
              rfl
             refine pT 14 130 (bt 16 32767) (k := ?_)
             refine pT 15 131 (bt 16 65535) (k := ?_)
             refine done_ (done_of HT_.out (by kernel_rfl)) ?_
             try go_wp2
             go_ret
             exact ⟨TR, TB3 GE181.out GE182.out GE188.out⟩
            ·rw [if_neg c68] at H
             have c68b0 : ((decide (t205 ≥ 0)) != (decide (t208 ≥ 0))) = false := by simpa using c68
             (try (have c68b1 : decide ((decide (t205 ≥ 0)) = (decide (t208 ≥ 0))) = true := by simpa using c68))
             (try (have c68b2 : ((decide (t205 ≥ 0)) == (decide (t208 ≥ 0))) = true := by simpa using c68))
             clear c68
             have H' := Aside0.mk H
             clear H
             have hnb74 := NB181_182.out
             have hnc74 := NB182_181.out
             have hnb75 := NB181_188.out
             have hnc75 := NB188_181.out
             have hcz76_0 := czz BK181.out 0
             have hcz76_1 := czz BK181.out 1
             have hfz76_0 := fz BK181.out 0
             have hfz76_1 := fz BK181.out 1
             try go_wp2
             have n0_ := Aside0.mk (Kd.V_drew HO_8.out)
             have n1_ := Aside0.mk (blk_drew BK181.out)
             have n2_ := Aside0.mk (blk_drew BK182.out)
             have n3_ := Aside0.mk (blk_drew BK188.out)
             have n4_ := Aside0.mk (below_drew1 HB.out)
             clear HO_8
             clear BK181
             clear BK182
             clear BK188
             clear HB
             have HO_8 := n0_
             have BK181 := n1_
             have BK182 := n2_
             have BK188 := n3_
             have HB := n4_
             clear n0_ n1_ n2_ n3_ n4_
             have p206 : 0 ≤ (x14_2 : Int) := of_decide_eq_true TA
             have q206 : x14_2 < (((rd_T63 l0_1 t185).f1).length : Int) := of_decide_eq_true TA
             obtain ⟨ad206, A206_0, c206_0, e206, hx206_0, hl206_0, hi206_0⟩ := at_L1 HR187_1.out x14_2 p206 q206
             have hw206_0 := hx206_0
             cases e206
             replace hx206_0 := (HB.out.cell  (World.block_lt_of_cell? w _ hx206_0)).trans hx206_0
             have HR206_0 := Aside0.mk hi206_0
             have HC206_0 := Aside0.mk hl206_0
             clear hi206_0 hl206_0
             replace p206 := eq_true p206
             replace q206 := eq_true q206
             obtain ⟨Ao78, co78, eo78⟩ := Kd.V_slice HO_8.out
             (first | subst eo78 | (injection eo78 with f1_ f2_ f3_; have f4_ := f1_.symm; have f5_ := f3_.symm; clear f1_ f2_ f3_; subst f4_; subst f5_))
             refine start_ (n := 16) (S := fun w' => w'.cell? ⟨gb188, 0, none⟩ = some (.int .i64 ((rd_T63 l0_1 t185).f0)) ∧ w'.cell? ⟨gb188, 1, none⟩ = some (.slice (some ad206) ((rd_T63 l0_1 t185).f1).length c187_1) ∧ w'.cell? (ad206.add (x14_2).toNat) = some (.slice A206_0 (rd_L1 ((rd_T63 l0_1 t185).f1) x14_2).length c206_0)) (ds := []) (.replicate 16 false) (by kernel_rfl) rfl rfl ⟨czz BK188.out 0, czz BK188.out 1, ((HB.out.cell  (World.block_lt_of_cell? w _ hw206_0)).trans hw206_0)⟩ (fun hHeld => ?_); refine with_tabW saronlaw05_CycleRound.tab13 saronlaw05_CycleRound.bits13 (fun HT_ HW_ => ?_)
             generalize wr.drew = w77 at HO_8 BK181 BK182 BK188 HB HR206_0 hx206_0 hHeld ⊢
             refine pT 0 116 (bt 16 1) (k := ?_)
             refine pT 1 117 (bt 16 3) (k := ?_)
             refine pT 4 120 (bt 16 19) (k := ?_)
             refine pT 6 122 (bt 16 83) (k := ?_)
             refine pT 9 125 (bt 16 595) (k := ?_)
             refine pT 10 126 (bt 16 1619) (k := ?_)
             refine tT3 5 121 (bt 16 1651) hHeld (k := ?_)
             refine pT 7 123 (bt 16 1779) (k := ?_)
             refine tT3 8 124 (bt 16 2035) hHeld (k := ?_)
             refine tT3 11 127 (bt 16 4083) hHeld (k := ?_)
             refine one_ (i := 2) (N := some 118) (bt 16 4087) rfl rfl (one_of HT_.out (by kernel_rfl)) (by decide) (fun K hK => ?_)
             refine goes_ Tryd.func42 (by kernel_rfl) rfl #[.slice Ao78 t189.length co78, .int .i64 x14_2] (by rfl) rfl rfl TM ?_
             with_reducible refine (saronref00_Where.calls k2 _ _ t189 x14_2 t205 _ ?side1 ?side2 A63.out).mono ?_
             (case side1 => repeat (first | exact (Kd.V_reads' HO_8.out).2.2 | (with_reducible refine Kd.C_alloc ?_ _) | (with_reducible refine Kd.C_drewN ?_ _) | (with_reducible refine Kd.C_drew ?_)))
             (case side2 => exact (Kd.V_reads' HO_8.out).2.1)
             rintro e w' ⟨rfl, ⟨nd, rfl⟩⟩
             refine ⟨_, rfl, ?_⟩
             refine hK.out _ _ ⟨czz BK188.out 0, czz BK188.out 1, ((HB.out.cell  (World.block_lt_of_cell? w _ hw206_0)).trans hw206_0)⟩ (fun hHeld => ?_)
             clear hK K
             refine norm_ (a' := ?_) ?_ ?_
             rotate_left
             ·show Act.put _ (some 118) _ = _
              simp only [Act.put, lA, lZ, lS, i64_w, i32_w]
              rfl
             refine pT 3 119 (bt 16 4095) (k := ?_)
             refine one_ (i := 12) (N := some 128) (bt 16 8191) rfl rfl (one_of HT_.out (by kernel_rfl)) (by decide) (fun K hK => ?_)
             refine goes_ Tryd.func40 (by kernel_rfl) rfl #[.int .i64 t186, .int .i64 ((rd_T63 l0_1 t185).f0)] (by rfl) rfl rfl TM ?_
             with_reducible refine (saronref00_Turn.calls t186 ((rd_T63 l0_1 t185).f0) t207 _ A66.out).mono ?_
             rintro e w' ⟨rfl, ⟨nd, rfl⟩⟩
             refine ⟨_, rfl, ?_⟩
             refine hK.out _ _ ⟨czz BK188.out 0, czz BK188.out 1, ((HB.out.cell  (World.block_lt_of_cell? w _ hw206_0)).trans hw206_0)⟩ (fun hHeld => ?_)
             clear hK K
             refine norm_ (a' := ?_) ?_ ?_
             rotate_left
             ·show Act.put _ (some 128) _ = _
              simp only [Act.put, lA, lZ, lS, i64_w, i32_w]
              rfl
             refine one_ (i := 13) (N := some 129) (bt 16 16383) rfl rfl (one_of HT_.out (by kernel_rfl)) (by decide) (fun K hK => ?_)
             refine goes_ Tryd.func42 (by kernel_rfl) rfl #[.slice A206_0 (rd_L1 ((rd_T63 l0_1 t185).f1) x14_2).length c206_0, .int .i64 t207] (by rfl) rfl rfl TM ?_
             with_reducible refine (saronref00_Where.calls k2 _ _ (rd_L1 ((rd_T63 l0_1 t185).f1) x14_2) t207 t208 _ ?side1 ?side2 A67.out).mono ?_
             (case side1 => exact TD HR206_0.out (TB3 GE181.out GE182.out GE188.out))
             (case side2 => exact HC206_0.out)
             rintro e w' ⟨rfl, ⟨nd, rfl⟩⟩
             refine ⟨_, rfl, ?_⟩
             refine hK.out _ _ ⟨czz BK188.out 0, czz BK188.out 1, ((HB.out.cell  (World.block_lt_of_cell? w _ hw206_0)).trans hw206_0)⟩ (fun hHeld => ?_)
             clear hK K
             refine norm_ (a' := ?_) ?_ ?_
             rotate_left
             ·show Act.put _ (some 129) _ = _
              simp only [Act.put, lA, lZ, lS, i64_w, i32_w]
              rfl
             refine pT 14 130 (bt 16 32767) (k := ?_)
             refine pT 15 131 (bt 16 65535) (k := ?_)
             refine done_ (done_of HT_.out (by kernel_rfl)) ?_
             try go_wp2
             go_roundg k2
             case measure => have := HJ11.out; have := HK2.out; omega
             case rel => exact ⟨(wrap64 (x14_2 + 1)), TT, H', ⟨by have := HJ11.out; have := HK2.out; omega⟩, ⟨by (with_reducible repeat (first | apply Kd.V_alloc | apply Kd.V_drewN | apply Kd.V_drew)); exact HO_8.out⟩, ⟨by (with_reducible repeat (first | refine blk_drewN ?_ _ | refine blk_drew ?_ | refine blk_alloc ?_ _)); exact BK181.out⟩, ⟨by (with_reducible repeat (first | refine blk_drewN ?_ _ | refine blk_drew ?_ | refine blk_alloc ?_ _)); exact BK182.out⟩, ⟨by (with_reducible repeat (first | refine blk_drewN ?_ _ | refine blk_drew ?_ | refine blk_alloc ?_ _)); exact BK188.out⟩, ⟨TB3 GE181.out GE182.out GE188.out⟩⟩
           ·rw [if_neg c65] at H
            exact absurd H (by simp)
          ·rw [if_neg c64] at H
           exact absurd H (by simp)
         ·rw [if_neg c62] at H
          have c62b0 : decide (x14_2 < a0_0) = false := decide_eq_false c62
          clear c62
          replace H := Option.bind_eq_some_iff.mp H
          obtain ⟨t204, A790, H⟩ := H
          replace H : (some t204) = some r := H
          have A79 := Aside0.mk A790
          clear A790
          obtain rfl := Option.some.inj H
          have hnb80 := NB181_182.out
          have hnc80 := NB182_181.out
          have hnb81 := NB181_188.out
          have hnc81 := NB188_181.out
          have hcz82_0 := czz BK181.out 0
          have hcz82_1 := czz BK181.out 1
          have hfz82_0 := fz BK181.out 0
          have hfz82_1 := fz BK181.out 1
          go_wp2_with (first | ((with_reducible refine gate_callee (f := 23) rfl ?_); refine goesL_ (some 132) rfl rfl Tryd.func23 (by kernel_rfl) rfl #[] rfl TM ?_; (with_reducible refine (saronlaw05_marked.calls  t204 _ ?side1 A79.out).mono ?_); (case side1 => exact Glob.fr HG.out (Fr.of_below (TB3 GE181.out GE182.out GE188.out))); rintro e w83 ⟨rfl, hb⟩; refine ⟨_, rfl, ?_⟩; replace HO_8 := Aside0.mk (Kd.V_below (by (with_reducible repeat (first | apply Kd.V_alloc | apply Kd.V_drewN | apply Kd.V_drew)); exact HO_8.out) hb); replace BK181 := Aside0.mk (blk_below (g := gb181) (o := .cells #[.int .i64 a0_0, .slice (some ad187) l0_1.length c0_1] 24 (0, 0)) (by (with_reducible repeat (first | refine blk_drewN ?_ _ | refine blk_drew ?_ | refine blk_alloc ?_ _)); exact BK181.out) hb); replace BK182 := Aside0.mk (blk_below (g := gb182) (o := .cells #[.int .i64 a1_0, .int .i64 a1_1] 55 (0, 0)) (by (with_reducible repeat (first | refine blk_drewN ?_ _ | refine blk_drew ?_ | refine blk_alloc ?_ _)); exact BK182.out) hb); replace BK188 := Aside0.mk (blk_below (g := gb188) (o := .cells #[.int .i64 ((rd_T63 l0_1 t185).f0), .slice A187_1 ((rd_T63 l0_1 t185).f1).length c187_1] 63 (0, 0)) (by (with_reducible repeat (first | refine blk_drewN ?_ _ | refine blk_drew ?_ | refine blk_alloc ?_ _)); exact BK188.out) hb); replace HB := Aside0.mk (below_step (TB3 GE181.out GE182.out GE188.out) hb); (try clear hb); (try clear hb2); (try clear hk); (try clear hi)))
          go_ret
          exact ⟨TR, TB3 GE181.out GE182.out GE188.out⟩
   ·rw [if_neg c8] at H
    exact absurd H (by simp)
  ·rw [if_neg c7] at H
   exact absurd H (by simp)
 ·replace c4 := Bool.eq_false_iff.mpr c4
  subst c4
  have H1 : ((saronlaw05_marked.f).bind fun t184 => (some t184)) = some r := by rw [if_neg (show ¬ (false = true) by decide)] at H; exact H
  clear H
  have H := H1
  clear H1
  replace H := Option.bind_eq_some_iff.mp H
  obtain ⟨t184, A840, H⟩ := H
  replace H : (some t184) = some r := H
  have A84 := Aside0.mk A840
  clear A840
  obtain rfl := Option.some.inj H
  go_enter Tryd.func6, Tryd.ntmps6
  go_wp2_with (first | ((with_reducible refine gate_dst (N := 2) rfl ?_); refine box_event ?hg (N := 2) ?hd (cs := #[.int .i64 a0_0, .slice A0_1 l0_1.length c0_1]) (t := 24) ?hr ?_; (case hd => rfl); (case hg => rfl); (case hr => exact TS); intro gb181 hg w85 hbox hb; have BK181 := Aside0.mk (hbox); have GW181 := Aside0.mk ((TG : w.heap.size ≤ gb181)); have GE181 := Aside0.mk ((TG : w.heap.size ≤ gb181)); replace HB := Aside0.mk (below_step TB hb); clear hb hbox hg) | ((with_reducible refine gate_dst (N := 3) rfl ?_); refine box_event ?hg (N := 3) ?hd (cs := #[.int .i64 a1_0, .int .i64 a1_1]) (t := 55) ?hr ?_; (case hd => rfl); (case hg => rfl); (case hr => exact TS); intro gb182 hg w86 hbox hb; have BK182 := Aside0.mk (hbox); have GW182 := Aside0.mk ((TG1 GE181.out : w.heap.size ≤ gb182)); have GE182 := Aside0.mk ((TG1 GE181.out : w.heap.size ≤ gb182)); have NB181_182 := Aside0.mk ((by rw [hg]; exact Nat.ne_of_lt (blk_lt (g := gb181) (o := .cells #[.int .i64 a0_0, .slice A0_1 l0_1.length c0_1] 24 (0, 0)) (by (with_reducible repeat (first | refine blk_drewN ?_ _ | refine blk_drew ?_ | refine blk_alloc ?_ _)); exact BK181.out)) : gb181 ≠ gb182)); have NB182_181 := Aside0.mk ((by rw [hg]; exact Nat.ne_of_gt (blk_lt (g := gb181) (o := .cells #[.int .i64 a0_0, .slice A0_1 l0_1.length c0_1] 24 (0, 0)) (by (with_reducible repeat (first | refine blk_drewN ?_ _ | refine blk_drew ?_ | refine blk_alloc ?_ _)); exact BK181.out)) : gb182 ≠ gb181)); replace BK181 := Aside0.mk (blk_below (g := gb181) (o := .cells #[.int .i64 a0_0, .slice A0_1 l0_1.length c0_1] 24 (0, 0)) (by (with_reducible repeat (first | refine blk_drewN ?_ _ | refine blk_drew ?_ | refine blk_alloc ?_ _)); exact BK181.out) hb); replace HB := Aside0.mk (below_step (TB1 GE181.out) hb); clear hb hbox hg; have hnb87 := NB181_182.out; have hnc87 := NB182_181.out; have hcz88_0 := czz BK181.out 0; have hcz88_1 := czz BK181.out 1; have hfz88_0 := fz BK181.out 0; have hfz88_1 := fz BK181.out 1) | ((with_reducible refine gate_callee (f := 39) rfl ?_); refine goesL_ (some 16) rfl rfl Tryd.func39 (by kernel_rfl) rfl #[.agg #[.int .i64 a0_0, .slice A0_1 l0_1.length c0_1]] rfl TM ?_; (with_reducible refine (saronlaw05_sound.calls k a0_0 _ _ l0_1 false _ ?side1 ?side2 A3.out).mono ?_); (case side1 => exact TC HR0_1.out); (case side2 => exact HC0_1.out); rintro e w89 ⟨rfl, hb⟩; refine ⟨_, rfl, ?_⟩; replace BK181 := Aside0.mk (blk_below (g := gb181) (o := .cells #[.int .i64 a0_0, .slice A0_1 l0_1.length c0_1] 24 (0, 0)) (by (with_reducible repeat (first | refine blk_drewN ?_ _ | refine blk_drew ?_ | refine blk_alloc ?_ _)); exact BK181.out) hb); replace BK182 := Aside0.mk (blk_below (g := gb182) (o := .cells #[.int .i64 a1_0, .int .i64 a1_1] 55 (0, 0)) (by (with_reducible repeat (first | refine blk_drewN ?_ _ | refine blk_drew ?_ | refine blk_alloc ?_ _)); exact BK182.out) hb); replace HB := Aside0.mk (below_step (TB2 GE181.out GE182.out) hb); (try clear hb); (try clear hb2); (try clear hk); (try clear hi)) | ((with_reducible refine gate_callee (f := 23) rfl ?_); refine goesL_ (some 18) rfl rfl Tryd.func23 (by kernel_rfl) rfl #[] rfl TM ?_; (with_reducible refine (saronlaw05_marked.calls  t184 _ ?side1 A84.out).mono ?_); (case side1 => exact Glob.fr HG.out (Fr.of_below (TB2 GE181.out GE182.out))); rintro e w90 ⟨rfl, hb⟩; refine ⟨_, rfl, ?_⟩; replace BK181 := Aside0.mk (blk_below (g := gb181) (o := .cells #[.int .i64 a0_0, .slice A0_1 l0_1.length c0_1] 24 (0, 0)) (by (with_reducible repeat (first | refine blk_drewN ?_ _ | refine blk_drew ?_ | refine blk_alloc ?_ _)); exact BK181.out) hb); replace BK182 := Aside0.mk (blk_below (g := gb182) (o := .cells #[.int .i64 a1_0, .int .i64 a1_1] 55 (0, 0)) (by (with_reducible repeat (first | refine blk_drewN ?_ _ | refine blk_drew ?_ | refine blk_alloc ?_ _)); exact BK182.out) hb); replace HB := Aside0.mk (below_step (TB2 GE181.out GE182.out) hb); (try clear hb); (try clear hb2); (try clear hk); (try clear hi)))
  go_ret
  exact ⟨TR, TB2 GE181.out GE182.out⟩
end Go.Proofs.YtephecfapclgfaaDoor.PRaspKeys
