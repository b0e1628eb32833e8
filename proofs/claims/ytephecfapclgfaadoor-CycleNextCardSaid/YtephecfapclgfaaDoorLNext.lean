import Derived.Test.YtephecfapclgfaaDoorG7
import Derived.Test.YtephecfapclgfaaDoorCS
import Derived.Test.YtephecfapclgfaaDoorCD
import Derived.Test.YtephecfapclgfaaDoorM0
import Derived.Test.YtephecfapclgfaaDoorProg
import Derived.Below
import Derived.Deep.Draws
import Derived.Deep.AppendLies
import Derived.Maps.AppendAt
import Derived.OwnWalk
import Derived.Laws.BytesArg
import Derived.Laws.MakeOwn
import Derived.Laws.OwnMore
import Derived.Deep.OwnRows
import Derived.Tactics
import Derived.Lib.ConvBytes
import Derived.Laws.Slices
import Derived.WalkKit
import Derived.KernelRfl
import Derived.RowKit3
import Derived.Deep.LoopGhost
import Derived.Deep.QuietTactic
import Derived.BigQuiet
import Derived.WideLaws
import Derived.Deep.DeepCutAuto
import Derived.Deep.CutBlock
import Derived.Deep.RegionHeld3
import Derived.Laws.Rows
import Derived.Lib.AppendStr
import Derived.ArgAppend
import Derived.Laws.IdiomCopy
import Derived.OrdersHeld
import Derived.Laws.BitsLemmas
import Derived.RowKit
set_option linter.unusedVariables false
set_option linter.unusedSimpArgs false
namespace Go.Proofs.YtephecfapclgfaaDoor.M
open Go.RowKit Go.Proofs.YtephecfapclgfaaDoorW.PrintWords Go.Proofs.YtephecfapclgfaaDoorW.PrintLast
theorem czz {w : World} {g : Nat} {cs : Array Value} {t : TypeId} {v : Value} (h : w.heap[g]? = some (.cells cs t (0, 0))) (i : Nat) (hv : cs[i]? = some v := by (first | (simp only [List.getElem?_toArray, List.getElem?_cons_zero, List.getElem?_cons_succ]; rfl) | exact rfl)) : w.cell? ⟨g, i, none⟩ = some v := (blk_cell h i).trans hv
end Go.Proofs.YtephecfapclgfaaDoor.M
namespace Go.Proofs.YtephecfapclgfaaDoor.PRaspKeys
open Go.RowKit Go.Proofs.YtephecfapclgfaaDoorW.PrintWords Go.Proofs.YtephecfapclgfaaDoorW.PrintLast Go.Proofs.YtephecfapclgfaaDoorW.PrintMore Go.Proofs.YtephecfapclgfaaDoor.M
attribute [local go_sem] max2_int min2_int max_two min_two max_three min_three max_four min_four   -- for this text's walks alone
/-! #### struct type 63 -/
/-! #### struct type 38 -/
/-! #### struct type 97 -/
end Go.Proofs.YtephecfapclgfaaDoor.PRaspKeys
namespace Go.Proofs.YtephecfapclgfaaDoor.PRaspKeys
open Go.RowKit Go.Proofs.YtephecfapclgfaaDoorW.PrintWords Go.Proofs.YtephecfapclgfaaDoorW.PrintLast Go.Proofs.YtephecfapclgfaaDoorW.PrintMore Go.Proofs.YtephecfapclgfaaDoor.M
attribute [local go_sem] max2_int min2_int max_two min_two max_three min_three max_four min_four   -- for this text's walks alone
end Go.Proofs.YtephecfapclgfaaDoor.PRaspKeys
namespace Go.Proofs.YtephecfapclgfaaDoor.PRaspKeys
open Go.RowKit Go.Proofs.YtephecfapclgfaaDoorW.PrintWords Go.Proofs.YtephecfapclgfaaDoorW.PrintLast Go.Proofs.YtephecfapclgfaaDoorW.PrintMore Go.Proofs.YtephecfapclgfaaDoor.M
attribute [local go_sem] max2_int min2_int max_two min_two max_three min_three max_four min_four   -- for this text's walks alone
end Go.Proofs.YtephecfapclgfaaDoor.PRaspKeys
namespace Go.Proofs.YtephecfapclgfaaDoor.PRaspKeys
open Go.RowKit Go.Proofs.YtephecfapclgfaaDoorW.PrintWords Go.Proofs.YtephecfapclgfaaDoorW.PrintLast Go.Proofs.YtephecfapclgfaaDoorW.PrintMore Go.Proofs.YtephecfapclgfaaDoor.M
attribute [local go_sem] max2_int min2_int max_two min_two max_three min_three max_four min_four   -- for this text's walks alone
end Go.Proofs.YtephecfapclgfaaDoor.PRaspKeys
namespace Go.Proofs.YtephecfapclgfaaDoor.PRaspKeys
open Go.RowKit Go.Proofs.YtephecfapclgfaaDoorW.PrintWords Go.Proofs.YtephecfapclgfaaDoorW.PrintLast Go.Proofs.YtephecfapclgfaaDoorW.PrintMore Go.Proofs.YtephecfapclgfaaDoor.M
attribute [local go_sem] max2_int min2_int max_two min_two max_three min_three max_four min_four   -- for this text's walks alone
/-! ### saronlaw05_CycleNext: function 7 -/
mutual
def saronlaw05_CycleNext.j0 : Nat → Int → Int → Int → Int → Int → Int → Bool → Int → List (S63) → Int → List (List Int) → Option (Bool)
 | 0, _, _, _, _, _, _, _, _, _, _, _ => none
 | k + 1, x5, x6, x7, x9, x11, x12, x98, x182000, x182001, x190000, x190001 => if x98 = true then (some false) else (saronlaw05_CycleNext.l0 k x5 x6 x9 x11 x12 x7 x182000 x182001 x190000 x190001)
def saronlaw05_CycleNext.l0 : Nat → Int → Int → Int → Int → Int → Int → Int → List (S63) → Int → List (List Int) → Option (Bool)
 | 0, _, _, _, _, _, _, _, _, _, _ => none
 | k + 1, x5, x6, x9, x11, x12, x13, x182000, x182001, x190000, x190001 => if x13 ≤ x9 then ((cycle_Struck.f x182000 x182001 x5 x13).bind fun bt197 => (if bt197.2 = 0 then ((saronref00_Where.f k bt197.1 x6).bind fun t201 => (if ((decide (t201 ≥ 0)) != (x13 == x9)) = true then (some false) else (saronlaw05_CycleNext.l0 k x5 x6 x9 x11 x12 (wrap64 (x13 + 1)) x182000 x182001 x190000 x190001))) else (some false))) else ((cycle_Next.f x182000 x182001 x5 x6 (wrap64 (x9 + 1))).bind fun bt202 => (if bt202.2 = 0 then (if x12 = 0 then (if x11 > 0 then (if (wrap64 (bt202.1 - x9)) = x11 then (if x11 = 0 then (none) else (if (Int.tmod x190000 x11) = 0 then (if 0 ≤ x6 then (if x6 < (x190001.length : Int) then (if (wrap64 (Int.tdiv x190000 x11)) = ((rd_L1 x190001 x6).length : Int) then ((saronlaw05_marked.f).bind fun t205 => (some t205)) else (some false)) else (none)) else (none)) else (some false))) else (some false)) else (some false)) else (saronlaw05_CycleNext.l1 k x5 x6 x9 x11 x12 x190000 0 x9 0 x182000 x182001 x190000 x190001)) else (some false)))
def saronlaw05_CycleNext.l1 : Nat → Int → Int → Int → Int → Int → Int → Int → Int → Int → Int → List (S63) → Int → List (List Int) → Option (Bool)
 | 0, _, _, _, _, _, _, _, _, _, _, _, _, _ => none
 | k + 1, x5, x6, x9, x11, x12, x18, x19, x20, x21, x182000, x182001, x190000, x190001 => if 0 ≤ x6 then (if x6 < (x190001.length : Int) then (if x21 < ((rd_L1 x190001 x6).length : Int) then ((cycle_Next.f x182000 x182001 x5 x6 (wrap64 (x20 + 1))).bind fun bt207 => (if bt207.2 = 0 then (if bt207.1 ≤ x20 then (some false) else (saronlaw05_CycleNext.l1 k x5 x6 x9 x11 x12 (mn x18 (wrap64 (bt207.1 - x20))) (mx x19 (wrap64 (bt207.1 - x20))) bt207.1 (wrap64 (x21 + 1)) x182000 x182001 x190000 x190001)) else (some false))) else (if x12 = 4 then (if x11 = 0 then (if x18 < x19 then (if x20 = (wrap64 (x9 + x190000)) then ((saronlaw05_marked.f).bind fun t209 => (some t209)) else (some false)) else (some false)) else (some false)) else (some false))) else (none)) else (none)
end
def saronlaw05_CycleNext.f (k : Nat) (a0_0 : Int) (l0_1 : List (S63)) (a1_0 : Int) (a1_1 : Int) (a1_2 : Int) : Option (Bool) := (saronlaw05_sound.f k a0_0 l0_1).bind fun t183 => (if t183 = true then ((saronref00_Turn.f a1_0 (l0_1.length : Int)).bind fun t185 => ((saronref00_Turn.f a1_1 a0_0).bind fun t186 => ((saronref00_Turn.f a1_2 1000).bind fun t187 => (if 0 ≤ t185 then (if t185 < (l0_1.length : Int) then ((cycle_Next.f a0_0 l0_1 t185 t186 t187).bind fun bt190 => ((cycle_Even.f a0_0 l0_1 t185 t186).bind fun bt192 => (if 0 ≤ t186 then (if t186 < (((rd_T63 l0_1 t185).f1).length : Int) then (if ((rd_L1 ((rd_T63 l0_1 t185).f1) t186).length : Int) = 0 then (if bt190.2 = 4 then (if bt192.2 = 4 then (if bt190.1 = 0 then (if bt192.1 = 0 then ((saronlaw05_marked.f).bind fun t195 => (some t195)) else (some false)) else (some false)) else (some false)) else (some false)) else (if bt190.2 = 0 then ((saronref00_Sits.f bt190.1 t187 (wrap64 ((wrap64 (t187 + ((rd_T63 l0_1 t185).f0))) - 1))).bind fun t196 => (saronlaw05_CycleNext.j0 k t185 t186 t187 bt190.1 bt192.1 bt192.2 (!t196) a0_0 l0_1 ((rd_T63 l0_1 t185).f0) ((rd_T63 l0_1 t185).f1))) else (saronlaw05_CycleNext.j0 k t185 t186 t187 bt190.1 bt192.1 bt192.2 true a0_0 l0_1 ((rd_T63 l0_1 t185).f0) ((rd_T63 l0_1 t185).f1)))) else (none)) else (none)))) else (none)) else (none))))) else ((saronlaw05_marked.f).bind fun t184 => (some t184)))
theorem saronlaw05_CycleNext.mono_l : ∀ k, (∀ y0 y1 y2 y3 y4 y5 y6 y7 y8 y9 y10, LeO (saronlaw05_CycleNext.j0 k y0 y1 y2 y3 y4 y5 y6 y7 y8 y9 y10) (saronlaw05_CycleNext.j0 (k + 1) y0 y1 y2 y3 y4 y5 y6 y7 y8 y9 y10)) ∧ (∀ y0 y1 y2 y3 y4 y5 y6 y7 y8 y9, LeO (saronlaw05_CycleNext.l0 k y0 y1 y2 y3 y4 y5 y6 y7 y8 y9) (saronlaw05_CycleNext.l0 (k + 1) y0 y1 y2 y3 y4 y5 y6 y7 y8 y9)) ∧ (∀ y0 y1 y2 y3 y4 y5 y6 y7 y8 y9 y10 y11 y12, LeO (saronlaw05_CycleNext.l1 k y0 y1 y2 y3 y4 y5 y6 y7 y8 y9 y10 y11 y12) (saronlaw05_CycleNext.l1 (k + 1) y0 y1 y2 y3 y4 y5 y6 y7 y8 y9 y10 y11 y12))
 | 0 => ⟨fun _ _ _ _ _ _ _ _ _ _ _ r h => by simp [saronlaw05_CycleNext.j0] at h, fun _ _ _ _ _ _ _ _ _ _ r h => by simp [saronlaw05_CycleNext.l0] at h, fun _ _ _ _ _ _ _ _ _ _ _ _ _ r h => by simp [saronlaw05_CycleNext.l1] at h⟩
 | k + 1 => by
  obtain ⟨ih0, ih1, ih2⟩ := saronlaw05_CycleNext.mono_l k
  refine ⟨?_, ?_, ?_⟩
  ·intro y0 y1 y2 y3 y4 y5 y6 y7 y8 y9 y10
   unfold saronlaw05_CycleNext.j0
   repeat' first
   | (with_reducible exact ih0 _ _ _ _ _ _ _ _ _ _ _)
   | (with_reducible exact ih1 _ _ _ _ _ _ _ _ _ _)
   | (with_reducible exact ih2 _ _ _ _ _ _ _ _ _ _ _ _ _)
   | (with_reducible exact saronlaw05_sound.mono _ _ _)
   | (with_reducible exact saronref00_Where.mono _ _ _)
   | (with_reducible exact LeO.refl _)
   | (with_reducible exact LeO.none _)
   | (with_reducible refine LeO.ite ?_ ?_)
   | (with_reducible refine LeO.bind ?_ (fun _ => ?_))
   | exact ih0 _ _ _ _ _ _ _ _ _ _ _
   | exact ih1 _ _ _ _ _ _ _ _ _ _
   | exact ih2 _ _ _ _ _ _ _ _ _ _ _ _ _
   | exact saronlaw05_sound.mono _ _ _
   | exact saronref00_Where.mono _ _ _
   | exact LeO.none _
   | refine LeO.ite ?_ ?_
   | refine LeO.bind ?_ (fun _ => ?_)
  ·intro y0 y1 y2 y3 y4 y5 y6 y7 y8 y9
   unfold saronlaw05_CycleNext.l0
   repeat' first
   | (with_reducible exact ih0 _ _ _ _ _ _ _ _ _ _ _)
   | (with_reducible exact ih1 _ _ _ _ _ _ _ _ _ _)
   | (with_reducible exact ih2 _ _ _ _ _ _ _ _ _ _ _ _ _)
   | (with_reducible exact saronlaw05_sound.mono _ _ _)
   | (with_reducible exact saronref00_Where.mono _ _ _)
   | (with_reducible exact LeO.refl _)
   | (with_reducible exact LeO.none _)
   | (with_reducible refine LeO.ite ?_ ?_)
   | (with_reducible refine LeO.bind ?_ (fun _ => ?_))
   | exact ih0 _ _ _ _ _ _ _ _ _ _ _
   | exact ih1 _ _ _ _ _ _ _ _ _ _
   | exact ih2 _ _ _ _ _ _ _ _ _ _ _ _ _
   | exact saronlaw05_sound.mono _ _ _
   | exact saronref00_Where.mono _ _ _
   | exact LeO.none _
   | refine LeO.ite ?_ ?_
   | refine LeO.bind ?_ (fun _ => ?_)
  ·intro y0 y1 y2 y3 y4 y5 y6 y7 y8 y9 y10 y11 y12
   unfold saronlaw05_CycleNext.l1
   repeat' first
   | (with_reducible exact ih0 _ _ _ _ _ _ _ _ _ _ _)
   | (with_reducible exact ih1 _ _ _ _ _ _ _ _ _ _)
   | (with_reducible exact ih2 _ _ _ _ _ _ _ _ _ _ _ _ _)
   | (with_reducible exact saronlaw05_sound.mono _ _ _)
   | (with_reducible exact saronref00_Where.mono _ _ _)
   | (with_reducible exact LeO.refl _)
   | (with_reducible exact LeO.none _)
   | (with_reducible refine LeO.ite ?_ ?_)
   | (with_reducible refine LeO.bind ?_ (fun _ => ?_))
   | exact ih0 _ _ _ _ _ _ _ _ _ _ _
   | exact ih1 _ _ _ _ _ _ _ _ _ _
   | exact ih2 _ _ _ _ _ _ _ _ _ _ _ _ _
   | exact saronlaw05_sound.mono _ _ _
   | exact saronref00_Where.mono _ _ _
   | exact LeO.none _
   | refine LeO.ite ?_ ?_
   | refine LeO.bind ?_ (fun _ => ?_)
theorem saronlaw05_CycleNext.mono : ∀ a0 a1 a2 a3 a4 k, LeO (saronlaw05_CycleNext.f k a0 a1 a2 a3 a4) (saronlaw05_CycleNext.f (k + 1) a0 a1 a2 a3 a4) := by
 intro a0 a1 a2 a3 a4 k
 obtain ⟨ih0, ih1, ih2⟩ := saronlaw05_CycleNext.mono_l k
 unfold saronlaw05_CycleNext.f
 repeat' first
   | (with_reducible exact ih0 _ _ _ _ _ _ _ _ _ _ _)
   | (with_reducible exact ih1 _ _ _ _ _ _ _ _ _ _)
   | (with_reducible exact ih2 _ _ _ _ _ _ _ _ _ _ _ _ _)
   | (with_reducible exact saronlaw05_sound.mono _ _ _)
   | (with_reducible exact saronref00_Where.mono _ _ _)
   | (with_reducible exact LeO.refl _)
   | (with_reducible exact LeO.none _)
   | (with_reducible refine LeO.ite ?_ ?_)
   | (with_reducible refine LeO.bind ?_ (fun _ => ?_))
   | exact ih0 _ _ _ _ _ _ _ _ _ _ _
   | exact ih1 _ _ _ _ _ _ _ _ _ _
   | exact ih2 _ _ _ _ _ _ _ _ _ _ _ _ _
   | exact saronlaw05_sound.mono _ _ _
   | exact saronref00_Where.mono _ _ _
   | exact LeO.none _
   | refine LeO.ite ?_ ?_
   | refine LeO.bind ?_ (fun _ => ?_)
def saronlaw05_CycleNext.T3 : Bool × List (List Nat × List Nat) := (true, [([], []), ([0], [0]), ([], []), ([2], [2]), ([3], [3]), ([1, 4], [1, 4]), ([], []), ([6], [6]), ([], []), ([8], [8]), ([7, 9, 5], [7, 9]), ([], []), ([11], [11]), ([12, 10], [12]), ([5, 13, 0, 1, 2, 3, 4, 5], [5]), ([10, 14, 0, 1, 2, 3, 4, 5, 6, 7, 8, 9, 10, 14], [10]), ([13, 15, 0, 1, 2, 3, 4, 5, 6, 7, 8, 9, 10, 11, 12, 13, 14, 15], [13])])
def saronlaw05_CycleNext.B3 : List Nat := [0, 1, 0, 4, 12, 31, 0, 64, 0, 256, 1023, 0, 2048, 8191, 16383, 32767, 65535]
theorem saronlaw05_CycleNext.tab3 : rtab .any (opsOf Tryd.f7 3) = saronlaw05_CycleNext.T3 := by kernel_rfl
theorem saronlaw05_CycleNext.bits3 : waitsOk saronlaw05_CycleNext.T3.2 saronlaw05_CycleNext.B3 = true := by kernel_rfl
def saronlaw05_CycleNext.T21 : Bool × List (List Nat × List Nat) := (true, [([], []), ([0], [0]), ([1], [1]), ([2], [2]), ([2], [2]), ([3, 4, 2], [2, 3, 4]), ([2], [2]), ([5, 6, 2], [2, 5, 6]), ([2, 7], [2, 7]), ([8, 2], [8]), ([9], [9]), ([10, 9], [9, 10]), ([9], [9]), ([11, 12, 9], [9, 11, 12]), ([13, 9], [9, 13]), ([9, 14], [9, 14]), ([15, 9], [15]), ([16], [16]), ([17, 16], [16, 17]), ([16], [16]), ([18, 19, 16], [16, 18, 19]), ([16], [16]), ([21, 16], [16, 21]), ([16], [16]), ([22, 23, 16], [16, 22, 23]), ([24, 16], [16, 24]), ([25, 16], [16, 25]), ([20, 26, 16], [16, 20, 26]), ([16, 27], [16, 27]), ([28, 16], [28]), ([29, 29], [29]), ([29, 30], [29, 30]), ([31, 30, 0, 1, 2, 3, 4, 5, 6, 7, 8, 9, 10, 11, 12, 13, 14, 15, 16, 17, 18, 19, 20, 21, 22, 23, 24, 25, 26, 27, 28, 29, 30, 31], [31])])
def saronlaw05_CycleNext.B21 : List Nat := [0, 1, 3, 7, 7, 31, 7, 127, 255, 511, 1023, 2047, 1023, 8191, 16383, 32767, 65535, 131071, 262143, 131071, 1048575, 131071, 2228223, 131071, 14811135, 31588351, 65142783, 134217727, 268435455, 536870911, 1073741823, 2147483647, 4294967295]
theorem saronlaw05_CycleNext.tab21 : rtab .any (opsOf Tryd.f7 21) = saronlaw05_CycleNext.T21 := by kernel_rfl
theorem saronlaw05_CycleNext.bits21 : waitsOk saronlaw05_CycleNext.T21.2 saronlaw05_CycleNext.B21 = true := by kernel_rfl
set_option maxHeartbeats 8000000 in
set_option maxRecDepth 100000 in
theorem saronlaw05_CycleNext.calls (k : Nat) (a0_0 : Int) (A0_1 : Option Addr) (c0_1 : Nat) (l0_1 : List (S63)) (a1_0 : Int) (a1_1 : Int) (a1_2 : Int) (r : Bool) (w : World) (hr0_1 : Kd.C k63 w A0_1 l0_1.length l0_1) (hc0_1 : l0_1.length ≤ c0_1) (hG : Glob w) (h : saronlaw05_CycleNext.f k a0_0 l0_1 a1_0 a1_1 a1_2 = some r) :
  Calls Tryd.prog 7 #[.agg #[.int .i64 a0_0, .slice A0_1 l0_1.length c0_1], .agg #[.int .i64 a1_0, .int .i64 a1_1, .int .i64 a1_2]] w fun e w' => e = .returned (.bool r) ∧ Below w.heap.size w w' := by
 have hu24 := Tryd.underlying24
 have hu25 := Tryd.underlying25
 have hu63 := Tryd.underlying63
 have HR0_1 := Aside0.mk hr0_1
 have HC0_1 := Aside0.mk hc0_1
 clear hr0_1 hc0_1
 have HB := Aside0.mk (Below.refl w.heap.size w)
 have HG := Aside0.mk hG
 clear hG
 have H : ((saronlaw05_sound.f k a0_0 l0_1).bind fun t183 => (if t183 = true then ((saronref00_Turn.f a1_0 (l0_1.length : Int)).bind fun t185 => ((saronref00_Turn.f a1_1 a0_0).bind fun t186 => ((saronref00_Turn.f a1_2 1000).bind fun t187 => (if 0 ≤ t185 then (if t185 < (l0_1.length : Int) then ((cycle_Next.f a0_0 l0_1 t185 t186 t187).bind fun bt190 => ((cycle_Even.f a0_0 l0_1 t185 t186).bind fun bt192 => (if 0 ≤ t186 then (if t186 < (((rd_T63 l0_1 t185).f1).length : Int) then (if ((rd_L1 ((rd_T63 l0_1 t185).f1) t186).length : Int) = 0 then (if bt190.2 = 4 then (if bt192.2 = 4 then (if bt190.1 = 0 then (if bt192.1 = 0 then ((saronlaw05_marked.f).bind fun t195 => (some t195)) else (some false)) else (some false)) else (some false)) else (some false)) else (if bt190.2 = 0 then ((saronref00_Sits.f bt190.1 t187 (wrap64 ((wrap64 (t187 + ((rd_T63 l0_1 t185).f0))) - 1))).bind fun t196 => (saronlaw05_CycleNext.j0 k t185 t186 t187 bt190.1 bt192.1 bt192.2 (!t196) a0_0 l0_1 ((rd_T63 l0_1 t185).f0) ((rd_T63 l0_1 t185).f1))) else (saronlaw05_CycleNext.j0 k t185 t186 t187 bt190.1 bt192.1 bt192.2 true a0_0 l0_1 ((rd_T63 l0_1 t185).f0) ((rd_T63 l0_1 t185).f1)))) else (none)) else (none)))) else (none)) else (none))))) else ((saronlaw05_marked.f).bind fun t184 => (some t184)))) = some r := h
 clear h
 replace H := Option.bind_eq_some_iff.mp H
 obtain ⟨t183, A30, H⟩ := H
 replace H : (if t183 = true then ((saronref00_Turn.f a1_0 (l0_1.length : Int)).bind fun t185 => ((saronref00_Turn.f a1_1 a0_0).bind fun t186 => ((saronref00_Turn.f a1_2 1000).bind fun t187 => (if 0 ≤ t185 then (if t185 < (l0_1.length : Int) then ((cycle_Next.f a0_0 l0_1 t185 t186 t187).bind fun bt190 => ((cycle_Even.f a0_0 l0_1 t185 t186).bind fun bt192 => (if 0 ≤ t186 then (if t186 < (((rd_T63 l0_1 t185).f1).length : Int) then (if ((rd_L1 ((rd_T63 l0_1 t185).f1) t186).length : Int) = 0 then (if bt190.2 = 4 then (if bt192.2 = 4 then (if bt190.1 = 0 then (if bt192.1 = 0 then ((saronlaw05_marked.f).bind fun t195 => (some t195)) else (some false)) else (some false)) else (some false)) else (some false)) else (if bt190.2 = 0 then ((saronref00_Sits.f bt190.1 t187 (wrap64 ((wrap64 (t187 + ((rd_T63 l0_1 t185).f0))) - 1))).bind fun t196 => (saronlaw05_CycleNext.j0 k t185 t186 t187 bt190.1 bt192.1 bt192.2 (!t196) a0_0 l0_1 ((rd_T63 l0_1 t185).f0) ((rd_T63 l0_1 t185).f1))) else (saronlaw05_CycleNext.j0 k t185 t186 t187 bt190.1 bt192.1 bt192.2 true a0_0 l0_1 ((rd_T63 l0_1 t185).f0) ((rd_T63 l0_1 t185).f1)))) else (none)) else (none)))) else (none)) else (none))))) else ((saronlaw05_marked.f).bind fun t184 => (some t184))) = some r := H
 have A3 := Aside0.mk A30
 clear A30
 by_cases c4 : t183 = true
 ·subst c4
  have H1 : ((saronref00_Turn.f a1_0 (l0_1.length : Int)).bind fun t185 => ((saronref00_Turn.f a1_1 a0_0).bind fun t186 => ((saronref00_Turn.f a1_2 1000).bind fun t187 => (if 0 ≤ t185 then (if t185 < (l0_1.length : Int) then ((cycle_Next.f a0_0 l0_1 t185 t186 t187).bind fun bt190 => ((cycle_Even.f a0_0 l0_1 t185 t186).bind fun bt192 => (if 0 ≤ t186 then (if t186 < (((rd_T63 l0_1 t185).f1).length : Int) then (if ((rd_L1 ((rd_T63 l0_1 t185).f1) t186).length : Int) = 0 then (if bt190.2 = 4 then (if bt192.2 = 4 then (if bt190.1 = 0 then (if bt192.1 = 0 then ((saronlaw05_marked.f).bind fun t195 => (some t195)) else (some false)) else (some false)) else (some false)) else (some false)) else (if bt190.2 = 0 then ((saronref00_Sits.f bt190.1 t187 (wrap64 ((wrap64 (t187 + ((rd_T63 l0_1 t185).f0))) - 1))).bind fun t196 => (saronlaw05_CycleNext.j0 k t185 t186 t187 bt190.1 bt192.1 bt192.2 (!t196) a0_0 l0_1 ((rd_T63 l0_1 t185).f0) ((rd_T63 l0_1 t185).f1))) else (saronlaw05_CycleNext.j0 k t185 t186 t187 bt190.1 bt192.1 bt192.2 true a0_0 l0_1 ((rd_T63 l0_1 t185).f0) ((rd_T63 l0_1 t185).f1)))) else (none)) else (none)))) else (none)) else (none))))) = some r := by rw [if_pos rfl] at H; exact H
  clear H
  have H := H1
  clear H1
  replace H := Option.bind_eq_some_iff.mp H
  obtain ⟨t185, A50, H⟩ := H
  replace H : ((saronref00_Turn.f a1_1 a0_0).bind fun t186 => ((saronref00_Turn.f a1_2 1000).bind fun t187 => (if 0 ≤ t185 then (if t185 < (l0_1.length : Int) then ((cycle_Next.f a0_0 l0_1 t185 t186 t187).bind fun bt190 => ((cycle_Even.f a0_0 l0_1 t185 t186).bind fun bt192 => (if 0 ≤ t186 then (if t186 < (((rd_T63 l0_1 t185).f1).length : Int) then (if ((rd_L1 ((rd_T63 l0_1 t185).f1) t186).length : Int) = 0 then (if bt190.2 = 4 then (if bt192.2 = 4 then (if bt190.1 = 0 then (if bt192.1 = 0 then ((saronlaw05_marked.f).bind fun t195 => (some t195)) else (some false)) else (some false)) else (some false)) else (some false)) else (if bt190.2 = 0 then ((saronref00_Sits.f bt190.1 t187 (wrap64 ((wrap64 (t187 + ((rd_T63 l0_1 t185).f0))) - 1))).bind fun t196 => (saronlaw05_CycleNext.j0 k t185 t186 t187 bt190.1 bt192.1 bt192.2 (!t196) a0_0 l0_1 ((rd_T63 l0_1 t185).f0) ((rd_T63 l0_1 t185).f1))) else (saronlaw05_CycleNext.j0 k t185 t186 t187 bt190.1 bt192.1 bt192.2 true a0_0 l0_1 ((rd_T63 l0_1 t185).f0) ((rd_T63 l0_1 t185).f1)))) else (none)) else (none)))) else (none)) else (none)))) = some r := H
  have A5 := Aside0.mk A50
  clear A50
  replace H := Option.bind_eq_some_iff.mp H
  obtain ⟨t186, A60, H⟩ := H
  replace H : ((saronref00_Turn.f a1_2 1000).bind fun t187 => (if 0 ≤ t185 then (if t185 < (l0_1.length : Int) then ((cycle_Next.f a0_0 l0_1 t185 t186 t187).bind fun bt190 => ((cycle_Even.f a0_0 l0_1 t185 t186).bind fun bt192 => (if 0 ≤ t186 then (if t186 < (((rd_T63 l0_1 t185).f1).length : Int) then (if ((rd_L1 ((rd_T63 l0_1 t185).f1) t186).length : Int) = 0 then (if bt190.2 = 4 then (if bt192.2 = 4 then (if bt190.1 = 0 then (if bt192.1 = 0 then ((saronlaw05_marked.f).bind fun t195 => (some t195)) else (some false)) else (some false)) else (some false)) else (some false)) else (if bt190.2 = 0 then ((saronref00_Sits.f bt190.1 t187 (wrap64 ((wrap64 (t187 + ((rd_T63 l0_1 t185).f0))) - 1))).bind fun t196 => (saronlaw05_CycleNext.j0 k t185 t186 t187 bt190.1 bt192.1 bt192.2 (!t196) a0_0 l0_1 ((rd_T63 l0_1 t185).f0) ((rd_T63 l0_1 t185).f1))) else (saronlaw05_CycleNext.j0 k t185 t186 t187 bt190.1 bt192.1 bt192.2 true a0_0 l0_1 ((rd_T63 l0_1 t185).f0) ((rd_T63 l0_1 t185).f1)))) else (none)) else (none)))) else (none)) else (none))) = some r := H
  have A6 := Aside0.mk A60
  clear A60
  replace H := Option.bind_eq_some_iff.mp H
  obtain ⟨t187, A70, H⟩ := H
  replace H : (if 0 ≤ t185 then (if t185 < (l0_1.length : Int) then ((cycle_Next.f a0_0 l0_1 t185 t186 t187).bind fun bt190 => ((cycle_Even.f a0_0 l0_1 t185 t186).bind fun bt192 => (if 0 ≤ t186 then (if t186 < (((rd_T63 l0_1 t185).f1).length : Int) then (if ((rd_L1 ((rd_T63 l0_1 t185).f1) t186).length : Int) = 0 then (if bt190.2 = 4 then (if bt192.2 = 4 then (if bt190.1 = 0 then (if bt192.1 = 0 then ((saronlaw05_marked.f).bind fun t195 => (some t195)) else (some false)) else (some false)) else (some false)) else (some false)) else (if bt190.2 = 0 then ((saronref00_Sits.f bt190.1 t187 (wrap64 ((wrap64 (t187 + ((rd_T63 l0_1 t185).f0))) - 1))).bind fun t196 => (saronlaw05_CycleNext.j0 k t185 t186 t187 bt190.1 bt192.1 bt192.2 (!t196) a0_0 l0_1 ((rd_T63 l0_1 t185).f0) ((rd_T63 l0_1 t185).f1))) else (saronlaw05_CycleNext.j0 k t185 t186 t187 bt190.1 bt192.1 bt192.2 true a0_0 l0_1 ((rd_T63 l0_1 t185).f0) ((rd_T63 l0_1 t185).f1)))) else (none)) else (none)))) else (none)) else (none)) = some r := H
  have A7 := Aside0.mk A70
  clear A70
  by_cases c8 : 0 ≤ t185
  ·rw [if_pos c8] at H
   have c8b0 : decide (0 ≤ t185) = true := decide_eq_true c8
   clear c8
   by_cases c9 : t185 < (l0_1.length : Int)
   ·rw [if_pos c9] at H
    have c9b0 : decide (t185 < (l0_1.length : Int)) = true := decide_eq_true c9
    clear c9
    replace H := Option.bind_eq_some_iff.mp H
    obtain ⟨⟨t190, t191⟩, A100, H⟩ := H
    replace H : ((cycle_Even.f a0_0 l0_1 t185 t186).bind fun bt192 => (if 0 ≤ t186 then (if t186 < (((rd_T63 l0_1 t185).f1).length : Int) then (if ((rd_L1 ((rd_T63 l0_1 t185).f1) t186).length : Int) = 0 then (if t191 = 4 then (if bt192.2 = 4 then (if t190 = 0 then (if bt192.1 = 0 then ((saronlaw05_marked.f).bind fun t195 => (some t195)) else (some false)) else (some false)) else (some false)) else (some false)) else (if t191 = 0 then ((saronref00_Sits.f t190 t187 (wrap64 ((wrap64 (t187 + ((rd_T63 l0_1 t185).f0))) - 1))).bind fun t196 => (saronlaw05_CycleNext.j0 k t185 t186 t187 t190 bt192.1 bt192.2 (!t196) a0_0 l0_1 ((rd_T63 l0_1 t185).f0) ((rd_T63 l0_1 t185).f1))) else (saronlaw05_CycleNext.j0 k t185 t186 t187 t190 bt192.1 bt192.2 true a0_0 l0_1 ((rd_T63 l0_1 t185).f0) ((rd_T63 l0_1 t185).f1)))) else (none)) else (none))) = some r := H
    have A10 := Aside0.mk A100
    clear A100
    replace H := Option.bind_eq_some_iff.mp H
    obtain ⟨⟨t192, t193⟩, A110, H⟩ := H
    replace H : (if 0 ≤ t186 then (if t186 < (((rd_T63 l0_1 t185).f1).length : Int) then (if ((rd_L1 ((rd_T63 l0_1 t185).f1) t186).length : Int) = 0 then (if t191 = 4 then (if t193 = 4 then (if t190 = 0 then (if t192 = 0 then ((saronlaw05_marked.f).bind fun t195 => (some t195)) else (some false)) else (some false)) else (some false)) else (some false)) else (if t191 = 0 then ((saronref00_Sits.f t190 t187 (wrap64 ((wrap64 (t187 + ((rd_T63 l0_1 t185).f0))) - 1))).bind fun t196 => (saronlaw05_CycleNext.j0 k t185 t186 t187 t190 t192 t193 (!t196) a0_0 l0_1 ((rd_T63 l0_1 t185).f0) ((rd_T63 l0_1 t185).f1))) else (saronlaw05_CycleNext.j0 k t185 t186 t187 t190 t192 t193 true a0_0 l0_1 ((rd_T63 l0_1 t185).f0) ((rd_T63 l0_1 t185).f1)))) else (none)) else (none)) = some r := H
    have A11 := Aside0.mk A110
    clear A110
    by_cases c12 : 0 ≤ t186
    ·rw [if_pos c12] at H
     have c12b0 : decide (0 ≤ t186) = true := decide_eq_true c12
     clear c12
     by_cases c13 : t186 < (((rd_T63 l0_1 t185).f1).length : Int)
     ·rw [if_pos c13] at H
      have c13b0 : decide (t186 < (((rd_T63 l0_1 t185).f1).length : Int)) = true := decide_eq_true c13
      clear c13
      by_cases c14 : ((rd_L1 ((rd_T63 l0_1 t185).f1) t186).length : Int) = 0
      ·rw [if_pos c14] at H
       have c14b0 : (((rd_L1 ((rd_T63 l0_1 t185).f1) t186).length : Int) == 0) = true := beq_iff_eq.mpr c14
       have c14b1 : (((rd_L1 ((rd_T63 l0_1 t185).f1) t186).length : Int) != 0) = false := bne_eq_false_iff_eq.mpr c14
       clear c14
       by_cases c15 : t191 = 4
       ·rw [if_pos c15] at H
        have c15b0 : (t191 == 4) = true := beq_iff_eq.mpr c15
        have c15b1 : (t191 != 4) = false := bne_eq_false_iff_eq.mpr c15
        clear c15
        by_cases c16 : t193 = 4
        ·rw [if_pos c16] at H
         have c16b0 : (t193 == 4) = true := beq_iff_eq.mpr c16
         have c16b1 : (t193 != 4) = false := bne_eq_false_iff_eq.mpr c16
         clear c16
         by_cases c17 : t190 = 0
         ·rw [if_pos c17] at H
          have c17b0 : (t190 == 0) = true := beq_iff_eq.mpr c17
          have c17b1 : (t190 != 0) = false := bne_eq_false_iff_eq.mpr c17
          clear c17
          by_cases c18 : t192 = 0
          ·rw [if_pos c18] at H
           have c18b0 : (t192 == 0) = true := beq_iff_eq.mpr c18
           have c18b1 : (t192 != 0) = false := bne_eq_false_iff_eq.mpr c18
           clear c18
           replace H := Option.bind_eq_some_iff.mp H
           obtain ⟨t195, A190, H⟩ := H
           replace H : (some t195) = some r := H
           have A19 := Aside0.mk A190
           clear A190
           obtain rfl := Option.some.inj H
           go_enter Tryd.func7, Tryd.ntmps7
           try go_wp2_with (first | ((with_reducible refine gate_dst (N := 2) rfl ?_); (try (refine gate_guard (by rfl) ?_; dsimp only)); refine box_event ?hg (N := 2) ?hd (cs := #[.int .i64 a0_0, .slice A0_1 l0_1.length c0_1]) (t := 24) ?hr ?_; (case hd => rfl); (case hg => rfl); (case hr => exact TS); intro gb181 hg w20 hbox hb; have BK181 := Aside0.mk (hbox); have GW181 := Aside0.mk ((TG : w.heap.size ≤ gb181)); have GE181 := Aside0.mk ((TG : w.heap.size ≤ gb181)); replace HB := Aside0.mk (below_step TB hb); clear hb hbox hg) | ((with_reducible refine gate_dst (N := 3) rfl ?_); (try (refine gate_guard (by rfl) ?_; dsimp only)); refine box_event ?hg (N := 3) ?hd (cs := #[.int .i64 a1_0, .int .i64 a1_1, .int .i64 a1_2]) (t := 25) ?hr ?_; (case hd => rfl); (case hg => rfl); (case hr => exact TS); intro gb182 hg w21 hbox hb; have BK182 := Aside0.mk (hbox); have GW182 := Aside0.mk ((TG1 GE181.out : w.heap.size ≤ gb182)); have GE182 := Aside0.mk ((TG1 GE181.out : w.heap.size ≤ gb182)); have NB181_182 := Aside0.mk ((by rw [hg]; exact Nat.ne_of_lt (blk_lt (g := gb181) (o := .cells #[.int .i64 a0_0, .slice A0_1 l0_1.length c0_1] 24 (0, 0)) (by (with_reducible repeat (first | refine blk_drewN ?_ _ | refine blk_drew ?_ | refine blk_alloc ?_ _)); exact BK181.out)) : gb181 ≠ gb182)); have NB182_181 := Aside0.mk ((by rw [hg]; exact Nat.ne_of_gt (blk_lt (g := gb181) (o := .cells #[.int .i64 a0_0, .slice A0_1 l0_1.length c0_1] 24 (0, 0)) (by (with_reducible repeat (first | refine blk_drewN ?_ _ | refine blk_drew ?_ | refine blk_alloc ?_ _)); exact BK181.out)) : gb182 ≠ gb181)); replace BK181 := Aside0.mk (blk_below (g := gb181) (o := .cells #[.int .i64 a0_0, .slice A0_1 l0_1.length c0_1] 24 (0, 0)) (by (with_reducible repeat (first | refine blk_drewN ?_ _ | refine blk_drew ?_ | refine blk_alloc ?_ _)); exact BK181.out) hb); replace HB := Aside0.mk (below_step (TB1 GE181.out) hb); clear hb hbox hg; have hnb22 := NB181_182.out; have hnc22 := NB182_181.out; have hcz23_0 := czz BK181.out 0; have hcz23_1 := czz BK181.out 1; have hfz23_0 := fz BK181.out 0; have hfz23_1 := fz BK181.out 1) | ((with_reducible refine gate_callee (f := 39) rfl ?_); refine goesL_ (some 25) rfl rfl Tryd.func39 (by kernel_rfl) rfl #[.agg #[.int .i64 a0_0, .slice A0_1 l0_1.length c0_1]] rfl TM ?_; (with_reducible refine (saronlaw05_sound.calls k a0_0 _ _ l0_1 true _ ?side1 ?side2 A3.out).mono ?_); (case side1 => exact TC HR0_1.out); (case side2 => exact HC0_1.out); rintro e w24 ⟨rfl, hb⟩; refine ⟨_, rfl, ?_⟩; replace BK181 := Aside0.mk (blk_below (g := gb181) (o := .cells #[.int .i64 a0_0, .slice A0_1 l0_1.length c0_1] 24 (0, 0)) (by (with_reducible repeat (first | refine blk_drewN ?_ _ | refine blk_drew ?_ | refine blk_alloc ?_ _)); exact BK181.out) hb); replace BK182 := Aside0.mk (blk_below (g := gb182) (o := .cells #[.int .i64 a1_0, .int .i64 a1_1, .int .i64 a1_2] 25 (0, 0)) (by (with_reducible repeat (first | refine blk_drewN ?_ _ | refine blk_drew ?_ | refine blk_alloc ?_ _)); exact BK182.out) hb); replace HB := Aside0.mk (below_step (TB2 GE181.out GE182.out) hb); (try clear hb); (try clear hb2); (try clear hk); (try clear hi)))
           have n0_ := Aside0.mk (blk_drew BK181.out)
           have n1_ := Aside0.mk (blk_drew BK182.out)
           have n2_ := Aside0.mk (below_drew1 HB.out)
           clear BK181
           clear BK182
           clear HB
           have BK181 := n0_
           have BK182 := n1_
           have HB := n2_
           clear n0_ n1_ n2_
           refine start_ (n := 17) (S := fun w' => w'.cell? ⟨gb182, 0, none⟩ = some (.int .i64 a1_0) ∧ w'.cell? ⟨gb182, 1, none⟩ = some (.int .i64 a1_1) ∧ w'.cell? ⟨gb182, 2, none⟩ = some (.int .i64 a1_2) ∧ w'.cell? ⟨gb181, 0, none⟩ = some (.int .i64 a0_0) ∧ w'.cell? ⟨gb181, 1, none⟩ = some (.slice A0_1 l0_1.length c0_1)) (ds := []) (.replicate 17 false) (by kernel_rfl) rfl rfl ⟨czz BK182.out 0, czz BK182.out 1, czz BK182.out 2, czz BK181.out 0, czz BK181.out 1⟩ (fun hHeld => ?_); refine with_tabW saronlaw05_CycleNext.tab3 saronlaw05_CycleNext.bits3 (fun HT_ HW_ => ?_)
           generalize w24.drew = w25 at BK181 BK182 HB hHeld ⊢
           refine pT 0 28 (bt 17 1) (k := ?_)
           refine pT 2 30 (bt 17 5) (k := ?_)
           refine pT 6 34 (bt 17 69) (k := ?_)
           refine pT 8 36 (bt 17 325) (k := ?_)
           refine pT 11 39 (bt 17 2373) (k := ?_)
           refine tT5 1 29 (bt 17 2375) hHeld (k := ?_)
           refine tT5 3 31 (bt 17 2383) hHeld (k := ?_)
           refine pT 4 32 (bt 17 2399) (k := ?_)
           refine tT5 7 35 (bt 17 2527) hHeld (k := ?_)
           refine tT5 9 37 (bt 17 3039) hHeld (k := ?_)
           refine tT5 12 40 (bt 17 7135) hHeld (k := ?_)
           refine one_ (i := 5) (N := some 33) (bt 17 7167) rfl rfl (one_of HT_.out (by kernel_rfl)) (by decide) (fun K hK => ?_)
           refine goes_ Tryd.func40 (by kernel_rfl) rfl #[.int .i64 a1_0, .int .i64 (l0_1.length : Int)] (by rfl) rfl rfl TM ?_
           with_reducible refine (saronref00_Turn.calls a1_0 (l0_1.length : Int) t185 _ A5.out).mono ?_
           rintro e w' ⟨rfl, ⟨nd, rfl⟩⟩
           refine ⟨_, rfl, ?_⟩
           refine hK.out _ _ ⟨czz BK182.out 0, czz BK182.out 1, czz BK182.out 2, czz BK181.out 0, czz BK181.out 1⟩ (fun hHeld => ?_)
           clear hK K
           refine norm_ (a' := ?_) ?_ ?_
           rotate_left
           ·show Act.put _ (some 33) _ = _
            simp only [Act.put, lA, lZ, lS, i64_w, i32_w]
            rfl
           refine one_ (i := 10) (N := some 38) (bt 17 8191) rfl rfl (one_of HT_.out (by kernel_rfl)) (by decide) (fun K hK => ?_)
           refine goes_ Tryd.func40 (by kernel_rfl) rfl #[.int .i64 a1_1, .int .i64 a0_0] (by rfl) rfl rfl TM ?_
           with_reducible refine (saronref00_Turn.calls a1_1 a0_0 t186 _ A6.out).mono ?_
           rintro e w' ⟨rfl, ⟨nd, rfl⟩⟩
           refine ⟨_, rfl, ?_⟩
           refine hK.out _ _ ⟨czz BK182.out 0, czz BK182.out 1, czz BK182.out 2, czz BK181.out 0, czz BK181.out 1⟩ (fun hHeld => ?_)
           clear hK K
           refine norm_ (a' := ?_) ?_ ?_
           rotate_left
           ·show Act.put _ (some 38) _ = _
            simp only [Act.put, lA, lZ, lS, i64_w, i32_w]
            rfl
           refine one_ (i := 13) (N := some 41) (bt 17 16383) rfl rfl (one_of HT_.out (by kernel_rfl)) (by decide) (fun K hK => ?_)
           refine goes_ Tryd.func40 (by kernel_rfl) rfl #[.int .i64 a1_2, .int .i64 1000] (by rfl) rfl rfl TM ?_
           with_reducible refine (saronref00_Turn.calls a1_2 1000 t187 _ A7.out).mono ?_
           rintro e w' ⟨rfl, ⟨nd, rfl⟩⟩
           refine ⟨_, rfl, ?_⟩
           refine hK.out _ _ ⟨czz BK182.out 0, czz BK182.out 1, czz BK182.out 2, czz BK181.out 0, czz BK181.out 1⟩ (fun hHeld => ?_)
           clear hK K
           refine norm_ (a' := ?_) ?_ ?_
           rotate_left
           ·show Act.put _ (some 41) _ = _
            simp only [Act.put, lA, lZ, lS, i64_w, i32_w]
            rfl
           refine pT 14 5 (bt 17 32767) (k := ?_)
           refine pT 15 6 (bt 17 65535) (k := ?_)
           refine pT 16 7 (bt 17 131071) (k := ?_)
           refine done_ (done_of HT_.out (by kernel_rfl)) ?_
           have hcz26_0 := czz BK181.out 0
           have hcz26_1 := czz BK181.out 1
           have hfz26_0 := fz BK181.out 0
           have hfz26_1 := fz BK181.out 1
           have p188 : 0 ≤ (t185 : Int) := of_decide_eq_true TA
           have q188 : t185 < (l0_1.length : Int) := of_decide_eq_true TA
           obtain ⟨ad188, A188_1, c188_1, e188, hx188_0, hx188_1, hl188_1, hi188_1⟩ := at_T63 HR0_1.out t185 p188 q188
           cases e188
           replace hx188_0 := (HB.out.cell  (World.block_lt_of_cell? w _ hx188_0)).trans hx188_0
           replace hx188_1 := (HB.out.cell  (World.block_lt_of_cell? w _ hx188_1)).trans hx188_1
           have HR188_1 := Aside0.mk hi188_1
           have HC188_1 := Aside0.mk hl188_1
           clear hi188_1 hl188_1
           replace p188 := eq_true p188
           replace q188 := eq_true q188
           try go_wp2_with (first | ((with_reducible refine gate_dst (N := 8) rfl ?_); (try (refine gate_guard (by rfl) ?_; dsimp only)); refine box_event ?hg (N := 8) ?hd (cs := #[.int .i64 0, .slice none 0 0]) (t := 63) ?hr ?_; (case hd => rfl); (case hg => rfl); (case hr => exact TS); intro gb189 hg w27 hbox hb; have BK189 := Aside0.mk (hbox); have GW189 := Aside0.mk ((TG2 GE181.out GE182.out : w.heap.size ≤ gb189)); have GE189 := Aside0.mk ((TG2 GE181.out GE182.out : w.heap.size ≤ gb189)); have NB181_189 := Aside0.mk ((by rw [hg]; exact Nat.ne_of_lt (blk_lt (g := gb181) (o := .cells #[.int .i64 a0_0, .slice (some ad188) l0_1.length c0_1] 24 (0, 0)) (by (with_reducible repeat (first | refine blk_drewN ?_ _ | refine blk_drew ?_ | refine blk_alloc ?_ _)); exact BK181.out)) : gb181 ≠ gb189)); have NB189_181 := Aside0.mk ((by rw [hg]; exact Nat.ne_of_gt (blk_lt (g := gb181) (o := .cells #[.int .i64 a0_0, .slice (some ad188) l0_1.length c0_1] 24 (0, 0)) (by (with_reducible repeat (first | refine blk_drewN ?_ _ | refine blk_drew ?_ | refine blk_alloc ?_ _)); exact BK181.out)) : gb189 ≠ gb181)); have NB182_189 := Aside0.mk ((by rw [hg]; exact Nat.ne_of_lt (blk_lt (g := gb182) (o := .cells #[.int .i64 a1_0, .int .i64 a1_1, .int .i64 a1_2] 25 (0, 0)) (by (with_reducible repeat (first | refine blk_drewN ?_ _ | refine blk_drew ?_ | refine blk_alloc ?_ _)); exact BK182.out)) : gb182 ≠ gb189)); have NB189_182 := Aside0.mk ((by rw [hg]; exact Nat.ne_of_gt (blk_lt (g := gb182) (o := .cells #[.int .i64 a1_0, .int .i64 a1_1, .int .i64 a1_2] 25 (0, 0)) (by (with_reducible repeat (first | refine blk_drewN ?_ _ | refine blk_drew ?_ | refine blk_alloc ?_ _)); exact BK182.out)) : gb189 ≠ gb182)); replace BK181 := Aside0.mk (blk_below (g := gb181) (o := .cells #[.int .i64 a0_0, .slice (some ad188) l0_1.length c0_1] 24 (0, 0)) (by (with_reducible repeat (first | refine blk_drewN ?_ _ | refine blk_drew ?_ | refine blk_alloc ?_ _)); exact BK181.out) hb); replace BK182 := Aside0.mk (blk_below (g := gb182) (o := .cells #[.int .i64 a1_0, .int .i64 a1_1, .int .i64 a1_2] 25 (0, 0)) (by (with_reducible repeat (first | refine blk_drewN ?_ _ | refine blk_drew ?_ | refine blk_alloc ?_ _)); exact BK182.out) hb); replace HB := Aside0.mk (below_step (TB2 GE181.out GE182.out) hb); clear hb hbox hg; have hnb28 := NB189_181.out; have hnc28 := NB181_189.out; have hnb29 := NB189_182.out; have hnc29 := NB182_189.out; have hcz30_0 := czz BK189.out 0; have hcz30_1 := czz BK189.out 1; have hfz30_0 := fz BK189.out 0; have hfz30_1 := fz BK189.out 1; have hcz31_0 := czz BK181.out 0; have hcz31_1 := czz BK181.out 1; have hfz31_0 := fz BK181.out 0; have hfz31_1 := fz BK181.out 1) | ((with_reducible refine gate_callee (f := 19) rfl ?_); refine goesL_ (some 52) rfl rfl Tryd.func19 (by kernel_rfl) rfl #[.agg #[.int .i64 a0_0, .slice (some ad188) l0_1.length c0_1], .int .i64 t185, .int .i64 t186, .int .i64 t187] rfl TM ?_; (with_reducible refine (cycle_Next.calls a0_0 _ _ l0_1 t185 t186 t187 t190 t191 _ ?side1 ?side2 ?side3 A10.out).mono ?_); (case side1 => exact Kd.C_below HR0_1.out (TB3 GE181.out GE182.out GE189.out)); (case side2 => exact HC0_1.out); (case side3 => exact Glob.fr HG.out (Fr.of_below (TB3 GE181.out GE182.out GE189.out))); rintro e w32 ⟨rfl, hb⟩; refine ⟨_, rfl, ?_⟩; replace BK181 := Aside0.mk (blk_below (g := gb181) (o := .cells #[.int .i64 a0_0, .slice (some ad188) l0_1.length c0_1] 24 (0, 0)) (by (with_reducible repeat (first | refine blk_drewN ?_ _ | refine blk_drew ?_ | refine blk_alloc ?_ _)); refine blk_far ?_ NB181_189.out _; (with_reducible repeat (first | refine blk_drewN ?_ _ | refine blk_drew ?_ | refine blk_alloc ?_ _)); refine blk_far ?_ NB181_189.out _; (with_reducible repeat (first | refine blk_drewN ?_ _ | refine blk_drew ?_ | refine blk_alloc ?_ _)); exact BK181.out) hb); replace BK182 := Aside0.mk (blk_below (g := gb182) (o := .cells #[.int .i64 a1_0, .int .i64 a1_1, .int .i64 a1_2] 25 (0, 0)) (by (with_reducible repeat (first | refine blk_drewN ?_ _ | refine blk_drew ?_ | refine blk_alloc ?_ _)); refine blk_far ?_ NB182_189.out _; (with_reducible repeat (first | refine blk_drewN ?_ _ | refine blk_drew ?_ | refine blk_alloc ?_ _)); refine blk_far ?_ NB182_189.out _; (with_reducible repeat (first | refine blk_drewN ?_ _ | refine blk_drew ?_ | refine blk_alloc ?_ _)); exact BK182.out) hb); replace BK189 := Aside0.mk (blk_below (g := gb189) (o := .cells #[.int .i64 ((rd_T63 l0_1 t185).f0), .slice A188_1 ((rd_T63 l0_1 t185).f1).length c188_1] 63 (0, 0)) (by (with_reducible repeat (first | refine blk_drewN ?_ _ | refine blk_drew ?_ | refine blk_alloc ?_ _)); refine blk_put (cs := #[.int .i64 ((rd_T63 l0_1 t185).f0), .slice none 0 0]) ?_ 1 _ rfl; (with_reducible repeat (first | refine blk_drewN ?_ _ | refine blk_drew ?_ | refine blk_alloc ?_ _)); refine blk_put (cs := #[.int .i64 0, .slice none 0 0]) ?_ 0 _ rfl; (with_reducible repeat (first | refine blk_drewN ?_ _ | refine blk_drew ?_ | refine blk_alloc ?_ _)); exact BK189.out) hb); replace HB := Aside0.mk (below_step (TB3 GE181.out GE182.out GE189.out) hb); (try clear hb); (try clear hb2); (try clear hk); (try clear hi); have hcz33_0 := czz BK181.out 0; have hcz33_1 := czz BK181.out 1; have hfz33_0 := fz BK181.out 0; have hfz33_1 := fz BK181.out 1) | ((with_reducible refine gate_callee (f := 21) rfl ?_); refine goesL_ (some 59) rfl rfl Tryd.func21 (by kernel_rfl) rfl #[.agg #[.int .i64 a0_0, .slice (some ad188) l0_1.length c0_1], .int .i64 t185, .int .i64 t186] rfl TM ?_; (with_reducible refine (cycle_Even.calls a0_0 _ _ l0_1 t185 t186 t192 t193 _ ?side1 ?side2 ?side3 A11.out).mono ?_); (case side1 => exact TC HR0_1.out); (case side2 => exact HC0_1.out); (case side3 => exact Glob.fr HG.out (Fr.of_below (TB3 GE181.out GE182.out GE189.out))); rintro e w34 ⟨rfl, hb⟩; refine ⟨_, rfl, ?_⟩; replace BK181 := Aside0.mk (blk_below (g := gb181) (o := .cells #[.int .i64 a0_0, .slice (some ad188) l0_1.length c0_1] 24 (0, 0)) (by (with_reducible repeat (first | refine blk_drewN ?_ _ | refine blk_drew ?_ | refine blk_alloc ?_ _)); exact BK181.out) hb); replace BK182 := Aside0.mk (blk_below (g := gb182) (o := .cells #[.int .i64 a1_0, .int .i64 a1_1, .int .i64 a1_2] 25 (0, 0)) (by (with_reducible repeat (first | refine blk_drewN ?_ _ | refine blk_drew ?_ | refine blk_alloc ?_ _)); exact BK182.out) hb); replace BK189 := Aside0.mk (blk_below (g := gb189) (o := .cells #[.int .i64 ((rd_T63 l0_1 t185).f0), .slice A188_1 ((rd_T63 l0_1 t185).f1).length c188_1] 63 (0, 0)) (by (with_reducible repeat (first | refine blk_drewN ?_ _ | refine blk_drew ?_ | refine blk_alloc ?_ _)); exact BK189.out) hb); replace HB := Aside0.mk (below_step (TB3 GE181.out GE182.out GE189.out) hb); (try clear hb); (try clear hb2); (try clear hk); (try clear hi); have hcz35_0 := czz BK189.out 0; have hcz35_1 := czz BK189.out 1; have hfz35_0 := fz BK189.out 0; have hfz35_1 := fz BK189.out 1; have p194 : 0 ≤ (t186 : Int) := of_decide_eq_true TA; have q194 : t186 < (((rd_T63 l0_1 t185).f1).length : Int) := of_decide_eq_true TA; obtain ⟨ad194, A194_0, c194_0, e194, hx194_0, hl194_0, hi194_0⟩ := at_L1 HR188_1.out t186 p194 q194; cases e194; replace hx194_0 := (HB.out.cell  (World.block_lt_of_cell? w _ hx194_0)).trans hx194_0; have HR194_0 := Aside0.mk hi194_0; have HC194_0 := Aside0.mk hl194_0; clear hi194_0 hl194_0; replace p194 := eq_true p194; replace q194 := eq_true q194) | (go_at_call 23; (with_reducible refine (saronlaw05_marked.calls  t195 _ ?side1 A19.out).mono ?_); (case side1 => exact Glob.fr HG.out (Fr.of_below (TB3 GE181.out GE182.out GE189.out))); rintro e w36 ⟨rfl, hb⟩; replace BK181 := Aside0.mk (blk_below (g := gb181) (o := .cells #[.int .i64 a0_0, .slice (some ad188) l0_1.length c0_1] 24 (0, 0)) (by (with_reducible repeat (first | refine blk_drewN ?_ _ | refine blk_drew ?_ | refine blk_alloc ?_ _)); exact BK181.out) hb); replace BK182 := Aside0.mk (blk_below (g := gb182) (o := .cells #[.int .i64 a1_0, .int .i64 a1_1, .int .i64 a1_2] 25 (0, 0)) (by (with_reducible repeat (first | refine blk_drewN ?_ _ | refine blk_drew ?_ | refine blk_alloc ?_ _)); exact BK182.out) hb); replace BK189 := Aside0.mk (blk_below (g := gb189) (o := .cells #[.int .i64 ((rd_T63 l0_1 t185).f0), .slice (some ad194) ((rd_T63 l0_1 t185).f1).length c188_1] 63 (0, 0)) (by (with_reducible repeat (first | refine blk_drewN ?_ _ | refine blk_drew ?_ | refine blk_alloc ?_ _)); exact BK189.out) hb); replace HB := Aside0.mk (below_step (TB3 GE181.out GE182.out GE189.out) hb); (try clear hb); (try clear hb2); (try clear hk); (try clear hi)))
           go_ret
           exact ⟨TR, TB3 GE181.out GE182.out GE189.out⟩
          ·rw [if_neg c18] at H
           have c18b0 : (t192 == 0) = false := beq_eq_false_iff_ne.mpr c18
           have c18b1 : (t192 != 0) = true := bne_iff_ne.mpr c18
           obtain rfl := Option.some.inj H
           go_enter Tryd.func7, Tryd.ntmps7
           try go_wp2_with (first | ((with_reducible refine gate_dst (N := 2) rfl ?_); (try (refine gate_guard (by rfl) ?_; dsimp only)); refine box_event ?hg (N := 2) ?hd (cs := #[.int .i64 a0_0, .slice A0_1 l0_1.length c0_1]) (t := 24) ?hr ?_; (case hd => rfl); (case hg => rfl); (case hr => exact TS); intro gb181 hg w37 hbox hb; have BK181 := Aside0.mk (hbox); have GW181 := Aside0.mk ((TG : w.heap.size ≤ gb181)); have GE181 := Aside0.mk ((TG : w.heap.size ≤ gb181)); replace HB := Aside0.mk (below_step TB hb); clear hb hbox hg) | ((with_reducible refine gate_dst (N := 3) rfl ?_); (try (refine gate_guard (by rfl) ?_; dsimp only)); refine box_event ?hg (N := 3) ?hd (cs := #[.int .i64 a1_0, .int .i64 a1_1, .int .i64 a1_2]) (t := 25) ?hr ?_; (case hd => rfl); (case hg => rfl); (case hr => exact TS); intro gb182 hg w38 hbox hb; have BK182 := Aside0.mk (hbox); have GW182 := Aside0.mk ((TG1 GE181.out : w.heap.size ≤ gb182)); have GE182 := Aside0.mk ((TG1 GE181.out : w.heap.size ≤ gb182)); have NB181_182 := Aside0.mk ((by rw [hg]; exact Nat.ne_of_lt (blk_lt (g := gb181) (o := .cells #[.int .i64 a0_0, .slice A0_1 l0_1.length c0_1] 24 (0, 0)) (by (with_reducible repeat (first | refine blk_drewN ?_ _ | refine blk_drew ?_ | refine blk_alloc ?_ _)); exact BK181.out)) : gb181 ≠ gb182)); have NB182_181 := Aside0.mk ((by rw [hg]; exact Nat.ne_of_gt (blk_lt (g := gb181) (o := .cells #[.int .i64 a0_0, .slice A0_1 l0_1.length c0_1] 24 (0, 0)) (by (with_reducible repeat (first | refine blk_drewN ?_ _ | refine blk_drew ?_ | refine blk_alloc ?_ _)); exact BK181.out)) : gb182 ≠ gb181)); replace BK181 := Aside0.mk (blk_below (g := gb181) (o := .cells #[.int .i64 a0_0, .slice A0_1 l0_1.length c0_1] 24 (0, 0)) (by (with_reducible repeat (first | refine blk_drewN ?_ _ | refine blk_drew ?_ | refine blk_alloc ?_ _)); exact BK181.out) hb); replace HB := Aside0.mk (below_step (TB1 GE181.out) hb); clear hb hbox hg; have hnb39 := NB181_182.out; have hnc39 := NB182_181.out; have hcz40_0 := czz BK181.out 0; have hcz40_1 := czz BK181.out 1; have hfz40_0 := fz BK181.out 0; have hfz40_1 := fz BK181.out 1) | ((with_reducible refine gate_callee (f := 39) rfl ?_); refine goesL_ (some 25) rfl rfl Tryd.func39 (by kernel_rfl) rfl #[.agg #[.int .i64 a0_0, .slice A0_1 l0_1.length c0_1]] rfl TM ?_; (with_reducible refine (saronlaw05_sound.calls k a0_0 _ _ l0_1 true _ ?side1 ?side2 A3.out).mono ?_); (case side1 => exact TC HR0_1.out); (case side2 => exact HC0_1.out); rintro e w41 ⟨rfl, hb⟩; refine ⟨_, rfl, ?_⟩; replace BK181 := Aside0.mk (blk_below (g := gb181) (o := .cells #[.int .i64 a0_0, .slice A0_1 l0_1.length c0_1] 24 (0, 0)) (by (with_reducible repeat (first | refine blk_drewN ?_ _ | refine blk_drew ?_ | refine blk_alloc ?_ _)); exact BK181.out) hb); replace BK182 := Aside0.mk (blk_below (g := gb182) (o := .cells #[.int .i64 a1_0, .int .i64 a1_1, .int .i64 a1_2] 25 (0, 0)) (by (with_reducible repeat (first | refine blk_drewN ?_ _ | refine blk_drew ?_ | refine blk_alloc ?_ _)); exact BK182.out) hb); replace HB := Aside0.mk (below_step (TB2 GE181.out GE182.out) hb); (try clear hb); (try clear hb2); (try clear hk); (try clear hi)))
           have n0_ := Aside0.mk (blk_drew BK181.out)
           have n1_ := Aside0.mk (blk_drew BK182.out)
           have n2_ := Aside0.mk (below_drew1 HB.out)
           clear BK181
           clear BK182
           clear HB
           have BK181 := n0_
           have BK182 := n1_
           have HB := n2_
           clear n0_ n1_ n2_
           refine start_ (n := 17) (S := fun w' => w'.cell? ⟨gb182, 0, none⟩ = some (.int .i64 a1_0) ∧ w'.cell? ⟨gb182, 1, none⟩ = some (.int .i64 a1_1) ∧ w'.cell? ⟨gb182, 2, none⟩ = some (.int .i64 a1_2) ∧ w'.cell? ⟨gb181, 0, none⟩ = some (.int .i64 a0_0) ∧ w'.cell? ⟨gb181, 1, none⟩ = some (.slice A0_1 l0_1.length c0_1)) (ds := []) (.replicate 17 false) (by kernel_rfl) rfl rfl ⟨czz BK182.out 0, czz BK182.out 1, czz BK182.out 2, czz BK181.out 0, czz BK181.out 1⟩ (fun hHeld => ?_); refine with_tabW saronlaw05_CycleNext.tab3 saronlaw05_CycleNext.bits3 (fun HT_ HW_ => ?_)
           generalize w41.drew = w42 at BK181 BK182 HB hHeld ⊢
           refine pT 0 28 (bt 17 1) (k := ?_)
           refine pT 2 30 (bt 17 5) (k := ?_)
           refine pT 6 34 (bt 17 69) (k := ?_)
           refine pT 8 36 (bt 17 325) (k := ?_)
           refine pT 11 39 (bt 17 2373) (k := ?_)
           refine tT5 1 29 (bt 17 2375) hHeld (k := ?_)
           refine tT5 3 31 (bt 17 2383) hHeld (k := ?_)
           refine pT 4 32 (bt 17 2399) (k := ?_)
           refine tT5 7 35 (bt 17 2527) hHeld (k := ?_)
           refine tT5 9 37 (bt 17 3039) hHeld (k := ?_)
           refine tT5 12 40 (bt 17 7135) hHeld (k := ?_)
           refine one_ (i := 5) (N := some 33) (bt 17 7167) rfl rfl (one_of HT_.out (by kernel_rfl)) (by decide) (fun K hK => ?_)
           refine goes_ Tryd.func40 (by kernel_rfl) rfl #[.int .i64 a1_0, .int .i64 (l0_1.length : Int)] (by rfl) rfl rfl TM ?_
           with_reducible refine (saronref00_Turn.calls a1_0 (l0_1.length : Int) t185 _ A5.out).mono ?_
           rintro e w' ⟨rfl, ⟨nd, rfl⟩⟩
           refine ⟨_, rfl, ?_⟩
           refine hK.out _ _ ⟨czz BK182.out 0, czz BK182.out 1, czz BK182.out 2, czz BK181.out 0, czz BK181.out 1⟩ (fun hHeld => ?_)
           clear hK K
           refine norm_ (a' := ?_) ?_ ?_
           rotate_left
           ·show Act.put _ (some 33) _ = _
            simp only [Act.put, lA, lZ, lS, i64_w, i32_w]
            rfl
           refine one_ (i := 10) (N := some 38) (bt 17 8191) rfl rfl (one_of HT_.out (by kernel_rfl)) (by decide) (fun K hK => ?_)
           refine goes_ Tryd.func40 (by kernel_rfl) rfl #[.int .i64 a1_1, .int .i64 a0_0] (by rfl) rfl rfl TM ?_
           with_reducible refine (saronref00_Turn.calls a1_1 a0_0 t186 _ A6.out).mono ?_
           rintro e w' ⟨rfl, ⟨nd, rfl⟩⟩
           refine ⟨_, rfl, ?_⟩
           refine hK.out _ _ ⟨czz BK182.out 0, czz BK182.out 1, czz BK182.out 2, czz BK181.out 0, czz BK181.out 1⟩ (fun hHeld => ?_)
           clear hK K
           refine norm_ (a' := ?_) ?_ ?_
           rotate_left
           ·show Act.put _ (some 38) _ = _
            simp only [Act.put, lA, lZ, lS, i64_w, i32_w]
            rfl
           refine one_ (i := 13) (N := some 41) (bt 17 16383) rfl rfl (one_of HT_.out (by kernel_rfl)) (by decide) (fun K hK => ?_)
           refine goes_ Tryd.func40 (by kernel_rfl) rfl #[.int .i64 a1_2, .int .i64 1000] (by rfl) rfl rfl TM ?_
           with_reducible refine (saronref00_Turn.calls a1_2 1000 t187 _ A7.out).mono ?_
           rintro e w' ⟨rfl, ⟨nd, rfl⟩⟩
           refine ⟨_, rfl, ?_⟩
           refine hK.out _ _ ⟨czz BK182.out 0, czz BK182.out 1, czz BK182.out 2, czz BK181.out 0, czz BK181.out 1⟩ (fun hHeld => ?_)
           clear hK K
           refine norm_ (a' := ?_) ?_ ?_
           rotate_left
           ·show Act.put _ (some 41) _ = _
            simp only [Act.put, lA, lZ, lS, i64_w, i32_w]
            rfl
           refine pT 14 5 (bt 17 32767) (k := ?_)
           refine pT 15 6 (bt 17 65535) (k := ?_)
           refine pT 16 7 (bt 17 131071) (k := ?_)
           refine done_ (done_of HT_.out (by kernel_rfl)) ?_
           have hcz43_0 := czz BK181.out 0
           have hcz43_1 := czz BK181.out 1
           have hfz43_0 := fz BK181.out 0
           have hfz43_1 := fz BK181.out 1
           have p188 : 0 ≤ (t185 : Int) := of_decide_eq_true TA
           have q188 : t185 < (l0_1.length : Int) := of_decide_eq_true TA
           obtain ⟨ad188, A188_1, c188_1, e188, hx188_0, hx188_1, hl188_1, hi188_1⟩ := at_T63 HR0_1.out t185 p188 q188
           cases e188
           replace hx188_0 := (HB.out.cell  (World.block_lt_of_cell? w _ hx188_0)).trans hx188_0
           replace hx188_1 := (HB.out.cell  (World.block_lt_of_cell? w _ hx188_1)).trans hx188_1
           have HR188_1 := Aside0.mk hi188_1
           have HC188_1 := Aside0.mk hl188_1
           clear hi188_1 hl188_1
           replace p188 := eq_true p188
           replace q188 := eq_true q188
           try go_wp2_with (first | ((with_reducible refine gate_dst (N := 8) rfl ?_); (try (refine gate_guard (by rfl) ?_; dsimp only)); refine box_event ?hg (N := 8) ?hd (cs := #[.int .i64 0, .slice none 0 0]) (t := 63) ?hr ?_; (case hd => rfl); (case hg => rfl); (case hr => exact TS); intro gb189 hg w44 hbox hb; have BK189 := Aside0.mk (hbox); have GW189 := Aside0.mk ((TG2 GE181.out GE182.out : w.heap.size ≤ gb189)); have GE189 := Aside0.mk ((TG2 GE181.out GE182.out : w.heap.size ≤ gb189)); have NB181_189 := Aside0.mk ((by rw [hg]; exact Nat.ne_of_lt (blk_lt (g := gb181) (o := .cells #[.int .i64 a0_0, .slice (some ad188) l0_1.length c0_1] 24 (0, 0)) (by (with_reducible repeat (first | refine blk_drewN ?_ _ | refine blk_drew ?_ | refine blk_alloc ?_ _)); exact BK181.out)) : gb181 ≠ gb189)); have NB189_181 := Aside0.mk ((by rw [hg]; exact Nat.ne_of_gt (blk_lt (g := gb181) (o := .cells #[.int .i64 a0_0, .slice (some ad188) l0_1.length c0_1] 24 (0, 0)) (by (with_reducible repeat (first | refine blk_drewN ?_ _ | refine blk_drew ?_ | refine blk_alloc ?_ _)); exact BK181.out)) : gb189 ≠ gb181)); have NB182_189 := Aside0.mk ((by rw [hg]; exact Nat.ne_of_lt (blk_lt (g := gb182) (o := .cells #[.int .i64 a1_0, .int .i64 a1_1, .int .i64 a1_2] 25 (0, 0)) (by (with_reducible repeat (first | refine blk_drewN ?_ _ | refine blk_drew ?_ | refine blk_alloc ?_ _)); exact BK182.out)) : gb182 ≠ gb189)); have NB189_182 := Aside0.mk ((by rw [hg]; exact Nat.ne_of_gt (blk_lt (g := gb182) (o := .cells #[.int .i64 a1_0, .int .i64 a1_1, .int .i64 a1_2] 25 (0, 0)) (by (with_reducible repeat (first | refine blk_drewN ?_ _ | refine blk_drew ?_ | refine blk_alloc ?_ _)); exact BK182.out)) : gb189 ≠ gb182)); replace BK181 := Aside0.mk (blk_below (g := gb181) (o := .cells #[.int .i64 a0_0, .slice (some ad188) l0_1.length c0_1] 24 (0, 0)) (by (with_reducible repeat (first | refine blk_drewN ?_ _ | refine blk_drew ?_ | refine blk_alloc ?_ _)); exact BK181.out) hb); replace BK182 := Aside0.mk (blk_below (g := gb182) (o := .cells #[.int .i64 a1_0, .int .i64 a1_1, .int .i64 a1_2] 25 (0, 0)) (by (with_reducible repeat (first | refine blk_drewN ?_ _ | refine blk_drew ?_ | refine blk_alloc ?_ _)); exact BK182.out) hb); replace HB := Aside0.mk (below_step (TB2 GE181.out GE182.out) hb); clear hb hbox hg; have hnb45 := NB189_181.out; have hnc45 := NB181_189.out; have hnb46 := NB189_182.out; have hnc46 := NB182_189.out; have hcz47_0 := czz BK189.out 0; have hcz47_1 := czz BK189.out 1; have hfz47_0 := fz BK189.out 0; have hfz47_1 := fz BK189.out 1; have hcz48_0 := czz BK181.out 0; have hcz48_1 := czz BK181.out 1; have hfz48_0 := fz BK181.out 0; have hfz48_1 := fz BK181.out 1) | ((with_reducible refine gate_callee (f := 19) rfl ?_); refine goesL_ (some 52) rfl rfl Tryd.func19 (by kernel_rfl) rfl #[.agg #[.int .i64 a0_0, .slice (some ad188) l0_1.length c0_1], .int .i64 t185, .int .i64 t186, .int .i64 t187] rfl TM ?_; (with_reducible refine (cycle_Next.calls a0_0 _ _ l0_1 t185 t186 t187 t190 t191 _ ?side1 ?side2 ?side3 A10.out).mono ?_); (case side1 => exact Kd.C_below HR0_1.out (TB3 GE181.out GE182.out GE189.out)); (case side2 => exact HC0_1.out); (case side3 => exact Glob.fr HG.out (Fr.of_below (TB3 GE181.out GE182.out GE189.out))); rintro e w49 ⟨rfl, hb⟩; refine ⟨_, rfl, ?_⟩; replace BK181 := Aside0.mk (blk_below (g := gb181) (o := .cells #[.int .i64 a0_0, .slice (some ad188) l0_1.length c0_1] 24 (0, 0)) (by (with_reducible repeat (first | refine blk_drewN ?_ _ | refine blk_drew ?_ | refine blk_alloc ?_ _)); refine blk_far ?_ NB181_189.out _; (with_reducible repeat (first | refine blk_drewN ?_ _ | refine blk_drew ?_ | refine blk_alloc ?_ _)); refine blk_far ?_ NB181_189.out _; (with_reducible repeat (first | refine blk_drewN ?_ _ | refine blk_drew ?_ | refine blk_alloc ?_ _)); exact BK181.out) hb); replace BK182 := Aside0.mk (blk_below (g := gb182) (o := .cells #[.int .i64 a1_0, .int .i64 a1_1, .int .i64 a1_2] 25 (0, 0)) (by (with_reducible repeat (first | refine blk_drewN ?_ _ | refine blk_drew ?_ | refine blk_alloc ?_ _)); refine blk_far ?_ NB182_189.out _; (with_reducible repeat (first | refine blk_drewN ?_ _ | refine blk_drew ?_ | refine blk_alloc ?_ _)); refine blk_far ?_ NB182_189.out _; (with_reducible repeat (first | refine blk_drewN ?_ _ | refine blk_drew ?_ | refine blk_alloc ?_ _)); exact BK182.out) hb); replace BK189 := Aside0.mk (blk_below (g := gb189) (o := .cells #[.int .i64 ((rd_T63 l0_1 t185).f0), .slice A188_1 ((rd_T63 l0_1 t185).f1).length c188_1] 63 (0, 0)) (by (with_reducible repeat (first | refine blk_drewN ?_ _ | refine blk_drew ?_ | refine blk_alloc ?_ _)); refine blk_put (cs := #[.int .i64 ((rd_T63 l0_1 t185).f0), .slice none 0 0]) ?_ 1 _ rfl; (with_reducible repeat (first | refine blk_drewN ?_ _ | refine blk_drew ?_ | refine blk_alloc ?_ _)); refine blk_put (cs := #[.int .i64 0, .slice none 0 0]) ?_ 0 _ rfl; (with_reducible repeat (first | refine blk_drewN ?_ _ | refine blk_drew ?_ | refine blk_alloc ?_ _)); exact BK189.out) hb); replace HB := Aside0.mk (below_step (TB3 GE181.out GE182.out GE189.out) hb); (try clear hb); (try clear hb2); (try clear hk); (try clear hi); have hcz50_0 := czz BK181.out 0; have hcz50_1 := czz BK181.out 1; have hfz50_0 := fz BK181.out 0; have hfz50_1 := fz BK181.out 1) | ((with_reducible refine gate_callee (f := 21) rfl ?_); refine goesL_ (some 59) rfl rfl Tryd.func21 (by kernel_rfl) rfl #[.agg #[.int .i64 a0_0, .slice (some ad188) l0_1.length c0_1], .int .i64 t185, .int .i64 t186] rfl TM ?_; (with_reducible refine (cycle_Even.calls a0_0 _ _ l0_1 t185 t186 t192 t193 _ ?side1 ?side2 ?side3 A11.out).mono ?_); (case side1 => exact TC HR0_1.out); (case side2 => exact HC0_1.out); (case side3 => exact Glob.fr HG.out (Fr.of_below (TB3 GE181.out GE182.out GE189.out))); rintro e w51 ⟨rfl, hb⟩; refine ⟨_, rfl, ?_⟩; replace BK181 := Aside0.mk (blk_below (g := gb181) (o := .cells #[.int .i64 a0_0, .slice (some ad188) l0_1.length c0_1] 24 (0, 0)) (by (with_reducible repeat (first | refine blk_drewN ?_ _ | refine blk_drew ?_ | refine blk_alloc ?_ _)); exact BK181.out) hb); replace BK182 := Aside0.mk (blk_below (g := gb182) (o := .cells #[.int .i64 a1_0, .int .i64 a1_1, .int .i64 a1_2] 25 (0, 0)) (by (with_reducible repeat (first | refine blk_drewN ?_ _ | refine blk_drew ?_ | refine blk_alloc ?_ _)); exact BK182.out) hb); replace BK189 := Aside0.mk (blk_below (g := gb189) (o := .cells #[.int .i64 ((rd_T63 l0_1 t185).f0), .slice A188_1 ((rd_T63 l0_1 t185).f1).length c188_1] 63 (0, 0)) (by (with_reducible repeat (first | refine blk_drewN ?_ _ | refine blk_drew ?_ | refine blk_alloc ?_ _)); exact BK189.out) hb); replace HB := Aside0.mk (below_step (TB3 GE181.out GE182.out GE189.out) hb); (try clear hb); (try clear hb2); (try clear hk); (try clear hi); have hcz52_0 := czz BK189.out 0; have hcz52_1 := czz BK189.out 1; have hfz52_0 := fz BK189.out 0; have hfz52_1 := fz BK189.out 1; have p194 : 0 ≤ (t186 : Int) := of_decide_eq_true TA; have q194 : t186 < (((rd_T63 l0_1 t185).f1).length : Int) := of_decide_eq_true TA; obtain ⟨ad194, A194_0, c194_0, e194, hx194_0, hl194_0, hi194_0⟩ := at_L1 HR188_1.out t186 p194 q194; cases e194; replace hx194_0 := (HB.out.cell  (World.block_lt_of_cell? w _ hx194_0)).trans hx194_0; have HR194_0 := Aside0.mk hi194_0; have HC194_0 := Aside0.mk hl194_0; clear hi194_0 hl194_0; replace p194 := eq_true p194; replace q194 := eq_true q194))
           go_ret
           exact ⟨TR, TB3 GE181.out GE182.out GE189.out⟩
         ·rw [if_neg c17] at H
          have c17b0 : (t190 == 0) = false := beq_eq_false_iff_ne.mpr c17
          have c17b1 : (t190 != 0) = true := bne_iff_ne.mpr c17
          obtain rfl := Option.some.inj H
          go_enter Tryd.func7, Tryd.ntmps7
          try go_wp2_with (first | ((with_reducible refine gate_dst (N := 2) rfl ?_); (try (refine gate_guard (by rfl) ?_; dsimp only)); refine box_event ?hg (N := 2) ?hd (cs := #[.int .i64 a0_0, .slice A0_1 l0_1.length c0_1]) (t := 24) ?hr ?_; (case hd => rfl); (case hg => rfl); (case hr => exact TS); intro gb181 hg w53 hbox hb; have BK181 := Aside0.mk (hbox); have GW181 := Aside0.mk ((TG : w.heap.size ≤ gb181)); have GE181 := Aside0.mk ((TG : w.heap.size ≤ gb181)); replace HB := Aside0.mk (below_step TB hb); clear hb hbox hg) | ((with_reducible refine gate_dst (N := 3) rfl ?_); (try (refine gate_guard (by rfl) ?_; dsimp only)); refine box_event ?hg (N := 3) ?hd (cs := #[.int .i64 a1_0, .int .i64 a1_1, .int .i64 a1_2]) (t := 25) ?hr ?_; (case hd => rfl); (case hg => rfl); (case hr => exact TS); intro gb182 hg w54 hbox hb; have BK182 := Aside0.mk (hbox); have GW182 := Aside0.mk ((TG1 GE181.out : w.heap.size ≤ gb182)); have GE182 := Aside0.mk ((TG1 GE181.out : w.heap.size ≤ gb182)); have NB181_182 := Aside0.mk ((by rw [hg]; exact Nat.ne_of_lt (blk_lt (g := gb181) (o := .cells #[.int .i64 a0_0, .slice A0_1 l0_1.length c0_1] 24 (0, 0)) (by (with_reducible repeat (first | refine blk_drewN ?_ _ | refine blk_drew ?_ | refine blk_alloc ?_ _)); exact BK181.out)) : gb181 ≠ gb182)); have NB182_181 := Aside0.mk ((by rw [hg]; exact Nat.ne_of_gt (blk_lt (g := gb181) (o := .cells #[.int .i64 a0_0, .slice A0_1 l0_1.length c0_1] 24 (0, 0)) (by (with_reducible repeat (first | refine blk_drewN ?_ _ | refine blk_drew ?_ | refine blk_alloc ?_ _)); exact BK181.out)) : gb182 ≠ gb181)); replace BK181 := Aside0.mk (blk_below (g := gb181) (o := .cells #[.int .i64 a0_0, .slice A0_1 l0_1.length c0_1] 24 (0, 0)) (by (with_reducible repeat (first | refine blk_drewN ?_ _ | refine blk_drew ?_ | refine blk_alloc ?_ _)); exact BK181.out) hb); replace HB := Aside0.mk (below_step (TB1 GE181.out) hb); clear hb hbox hg; have hnb55 := NB181_182.out; have hnc55 := NB182_181.out; have hcz56_0 := czz BK181.out 0; have hcz56_1 := czz BK181.out 1; have hfz56_0 := fz BK181.out 0; have hfz56_1 := fz BK181.out 1) | ((with_reducible refine gate_callee (f := 39) rfl ?_); refine goesL_ (some 25) rfl rfl Tryd.func39 (by kernel_rfl) rfl #[.agg #[.int .i64 a0_0, .slice A0_1 l0_1.length c0_1]] rfl TM ?_; (with_reducible refine (saronlaw05_sound.calls k a0_0 _ _ l0_1 true _ ?side1 ?side2 A3.out).mono ?_); (case side1 => exact TC HR0_1.out); (case side2 => exact HC0_1.out); rintro e w57 ⟨rfl, hb⟩; refine ⟨_, rfl, ?_⟩; replace BK181 := Aside0.mk (blk_below (g := gb181) (o := .cells #[.int .i64 a0_0, .slice A0_1 l0_1.length c0_1] 24 (0, 0)) (by (with_reducible repeat (first | refine blk_drewN ?_ _ | refine blk_drew ?_ | refine blk_alloc ?_ _)); exact BK181.out) hb); replace BK182 := Aside0.mk (blk_below (g := gb182) (o := .cells #[.int .i64 a1_0, .int .i64 a1_1, .int .i64 a1_2] 25 (0, 0)) (by (with_reducible repeat (first | refine blk_drewN ?_ _ | refine blk_drew ?_ | refine blk_alloc ?_ _)); exact BK182.out) hb); replace HB := Aside0.mk (below_step (TB2 GE181.out GE182.out) hb); (try clear hb); (try clear hb2); (try clear hk); (try clear hi)))
          have n0_ := Aside0.mk (blk_drew BK181.out)
          have n1_ := Aside0.mk (blk_drew BK182.out)
          have n2_ := Aside0.mk (below_drew1 HB.out)
          clear BK181
          clear BK182
          clear HB
          have BK181 := n0_
          have BK182 := n1_
          have HB := n2_
          clear n0_ n1_ n2_
          refine start_ (n := 17) (S := fun w' => w'.cell? ⟨gb182, 0, none⟩ = some (.int .i64 a1_0) ∧ w'.cell? ⟨gb182, 1, none⟩ = some (.int .i64 a1_1) ∧ w'.cell? ⟨gb182, 2, none⟩ = some (.int .i64 a1_2) ∧ w'.cell? ⟨gb181, 0, none⟩ = some (.int .i64 a0_0) ∧ w'.cell? ⟨gb181, 1, none⟩ = some (.slice A0_1 l0_1.length c0_1)) (ds := []) (.replicate 17 false) (by kernel_rfl) rfl rfl ⟨czz BK182.out 0, czz BK182.out 1, czz BK182.out 2, czz BK181.out 0, czz BK181.out 1⟩ (fun hHeld => ?_); refine with_tabW saronlaw05_CycleNext.tab3 saronlaw05_CycleNext.bits3 (fun HT_ HW_ => ?_)
          generalize w57.drew = w58 at BK181 BK182 HB hHeld ⊢
          refine pT 0 28 (bt 17 1) (k := ?_)
          refine pT 2 30 (bt 17 5) (k := ?_)
          refine pT 6 34 (bt 17 69) (k := ?_)
          refine pT 8 36 (bt 17 325) (k := ?_)
          refine pT 11 39 (bt 17 2373) (k := ?_)
          refine tT5 1 29 (bt 17 2375) hHeld (k := ?_)
          refine tT5 3 31 (bt 17 2383) hHeld (k := ?_)
          refine pT 4 32 (bt 17 2399) (k := ?_)
          refine tT5 7 35 (bt 17 2527) hHeld (k := ?_)
          refine tT5 9 37 (bt 17 3039) hHeld (k := ?_)
          refine tT5 12 40 (bt 17 7135) hHeld (k := ?_)
          refine one_ (i := 5) (N := some 33) (bt 17 7167) rfl rfl (one_of HT_.out (by kernel_rfl)) (by decide) (fun K hK => ?_)
          refine goes_ Tryd.func40 (by kernel_rfl) rfl #[.int .i64 a1_0, .int .i64 (l0_1.length : Int)] (by rfl) rfl rfl TM ?_
          with_reducible refine (saronref00_Turn.calls a1_0 (l0_1.length : Int) t185 _ A5.out).mono ?_
          rintro e w' ⟨rfl, ⟨nd, rfl⟩⟩
          refine ⟨_, rfl, ?_⟩
          refine hK.out _ _ ⟨czz BK182.out 0, czz BK182.out 1, czz BK182.out 2, czz BK181.out 0, czz BK181.out 1⟩ (fun hHeld => ?_)
          clear hK K
          refine norm_ (a' := ?_) ?_ ?_
          rotate_left
          ·show Act.put _ (some 33) _ = _
           simp only [Act.put, lA, lZ, lS, i64_w, i32_w]
           rfl
          refine one_ (i := 10) (N := some 38) (bt 17 8191) rfl rfl (one_of HT_.out (by kernel_rfl)) (by decide) (fun K hK => ?_)
          refine goes_ Tryd.func40 (by kernel_rfl) rfl #[.int .i64 a1_1, .int .i64 a0_0] (by rfl) rfl rfl TM ?_
          with_reducible refine (saronref00_Turn.calls a1_1 a0_0 t186 _ A6.out).mono ?_
          rintro e w' ⟨rfl, ⟨nd, rfl⟩⟩
          refine ⟨_, rfl, ?_⟩
          refine hK.out _ _ ⟨czz BK182.out 0, czz BK182.out 1, czz BK182.out 2, czz BK181.out 0, czz BK181.out 1⟩ (fun hHeld => ?_)
          clear hK K
          refine norm_ (a' := ?_) ?_ ?_
          rotate_left
          ·show Act.put _ (some 38) _ = _
           simp only [Act.put, lA, lZ, lS, i64_w, i32_w]
           rfl
          refine one_ (i := 13) (N := some 41) (bt 17 16383) rfl rfl (one_of HT_.out (by kernel_rfl)) (by decide) (fun K hK => ?_)
          refine goes_ Tryd.func40 (by kernel_rfl) rfl #[.int .i64 a1_2, .int .i64 1000] (by rfl) rfl rfl TM ?_
          with_reducible refine (saronref00_Turn.calls a1_2 1000 t187 _ A7.out).mono ?_
          rintro e w' ⟨rfl, ⟨nd, rfl⟩⟩
          refine ⟨_, rfl, ?_⟩
          refine hK.out _ _ ⟨czz BK182.out 0, czz BK182.out 1, czz BK182.out 2, czz BK181.out 0, czz BK181.out 1⟩ (fun hHeld => ?_)
          clear hK K
          refine norm_ (a' := ?_) ?_ ?_
          rotate_left
          ·show Act.put _ (some 41) _ = _
           simp only [Act.put, lA, lZ, lS, i64_w, i32_w]
           rfl
          refine pT 14 5 (bt 17 32767) (k := ?_)
          refine pT 15 6 (bt 17 65535) (k := ?_)
          refine pT 16 7 (bt 17 131071) (k := ?_)
          refine done_ (done_of HT_.out (by kernel_rfl)) ?_
          have hcz59_0 := czz BK181.out 0
          have hcz59_1 := czz BK181.out 1
          have hfz59_0 := fz BK181.out 0
          have hfz59_1 := fz BK181.out 1
          have p188 : 0 ≤ (t185 : Int) := of_decide_eq_true TA
          have q188 : t185 < (l0_1.length : Int) := of_decide_eq_true TA
          obtain ⟨ad188, A188_1, c188_1, e188, hx188_0, hx188_1, hl188_1, hi188_1⟩ := at_T63 HR0_1.out t185 p188 q188
          cases e188
          replace hx188_0 := (HB.out.cell  (World.block_lt_of_cell? w _ hx188_0)).trans hx188_0
          replace hx188_1 := (HB.out.cell  (World.block_lt_of_cell? w _ hx188_1)).trans hx188_1
          have HR188_1 := Aside0.mk hi188_1
          have HC188_1 := Aside0.mk hl188_1
          clear hi188_1 hl188_1
          replace p188 := eq_true p188
          replace q188 := eq_true q188
          try go_wp2_with (first | ((with_reducible refine gate_dst (N := 8) rfl ?_); (try (refine gate_guard (by rfl) ?_; dsimp only)); refine box_event ?hg (N := 8) ?hd (cs := #[.int .i64 0, .slice none 0 0]) (t := 63) ?hr ?_; (case hd => rfl); (case hg => rfl); (case hr => exact TS); intro gb189 hg w60 hbox hb; have BK189 := Aside0.mk (hbox); have GW189 := Aside0.mk ((TG2 GE181.out GE182.out : w.heap.size ≤ gb189)); have GE189 := Aside0.mk ((TG2 GE181.out GE182.out : w.heap.size ≤ gb189)); have NB181_189 := Aside0.mk ((by rw [hg]; exact Nat.ne_of_lt (blk_lt (g := gb181) (o := .cells #[.int .i64 a0_0, .slice (some ad188) l0_1.length c0_1] 24 (0, 0)) (by (with_reducible repeat (first | refine blk_drewN ?_ _ | refine blk_drew ?_ | refine blk_alloc ?_ _)); exact BK181.out)) : gb181 ≠ gb189)); have NB189_181 := Aside0.mk ((by rw [hg]; exact Nat.ne_of_gt (blk_lt (g := gb181) (o := .cells #[.int .i64 a0_0, .slice (some ad188) l0_1.length c0_1] 24 (0, 0)) (by (with_reducible repeat (first | refine blk_drewN ?_ _ | refine blk_drew ?_ | refine blk_alloc ?_ _)); exact BK181.out)) : gb189 ≠ gb181)); have NB182_189 := Aside0.mk ((by rw [hg]; exact Nat.ne_of_lt (blk_lt (g := gb182) (o := .cells #[.int .i64 a1_0, .int .i64 a1_1, .int .i64 a1_2] 25 (0, 0)) (by (with_reducible repeat (first | refine blk_drewN ?_ _ | refine blk_drew ?_ | refine blk_alloc ?_ _)); exact BK182.out)) : gb182 ≠ gb189)); have NB189_182 := Aside0.mk ((by rw [hg]; exact Nat.ne_of_gt (blk_lt (g := gb182) (o := .cells #[.int .i64 a1_0, .int .i64 a1_1, .int .i64 a1_2] 25 (0, 0)) (by (with_reducible repeat (first | refine blk_drewN ?_ _ | refine blk_drew ?_ | refine blk_alloc ?_ _)); exact BK182.out)) : gb189 ≠ gb182)); replace BK181 := Aside0.mk (blk_below (g := gb181) (o := .cells #[.int .i64 a0_0, .slice (some ad188) l0_1.length c0_1] 24 (0, 0)) (by (with_reducible repeat (first | refine blk_drewN ?_ _ | refine blk_drew ?_ | refine blk_alloc ?_ _)); exact BK181.out) hb); replace BK182 := Aside0.mk (blk_below (g := gb182) (o := .cells #[.int .i64 a1_0, .int .i64 a1_1, .int .i64 a1_2] 25 (0, 0)) (by (with_reducible repeat (first | refine blk_drewN ?_ _ | refine blk_drew ?_ | refine blk_alloc ?_ _)); exact BK182.out) hb); replace HB := Aside0.mk (below_step (TB2 GE181.out GE182.out) hb); clear hb hbox hg; have hnb61 := NB189_181.out; have hnc61 := NB181_189.out; have hnb62 := NB189_182.out; have hnc62 := NB182_189.out; have hcz63_0 := czz BK189.out 0; have hcz63_1 := czz BK189.out 1; have hfz63_0 := fz BK189.out 0; have hfz63_1 := fz BK189.out 1; have hcz64_0 := czz BK181.out 0; have hcz64_1 := czz BK181.out 1; have hfz64_0 := fz BK181.out 0; have hfz64_1 := fz BK181.out 1) | ((with_reducible refine gate_callee (f := 19) rfl ?_); refine goesL_ (some 52) rfl rfl Tryd.func19 (by kernel_rfl) rfl #[.agg #[.int .i64 a0_0, .slice (some ad188) l0_1.length c0_1], .int .i64 t185, .int .i64 t186, .int .i64 t187] rfl TM ?_; (with_reducible refine (cycle_Next.calls a0_0 _ _ l0_1 t185 t186 t187 t190 t191 _ ?side1 ?side2 ?side3 A10.out).mono ?_); (case side1 => exact Kd.C_below HR0_1.out (TB3 GE181.out GE182.out GE189.out)); (case side2 => exact HC0_1.out); (case side3 => exact Glob.fr HG.out (Fr.of_below (TB3 GE181.out GE182.out GE189.out))); rintro e w65 ⟨rfl, hb⟩; refine ⟨_, rfl, ?_⟩; replace BK181 := Aside0.mk (blk_below (g := gb181) (o := .cells #[.int .i64 a0_0, .slice (some ad188) l0_1.length c0_1] 24 (0, 0)) (by (with_reducible repeat (first | refine blk_drewN ?_ _ | refine blk_drew ?_ | refine blk_alloc ?_ _)); refine blk_far ?_ NB181_189.out _; (with_reducible repeat (first | refine blk_drewN ?_ _ | refine blk_drew ?_ | refine blk_alloc ?_ _)); refine blk_far ?_ NB181_189.out _; (with_reducible repeat (first | refine blk_drewN ?_ _ | refine blk_drew ?_ | refine blk_alloc ?_ _)); exact BK181.out) hb); replace BK182 := Aside0.mk (blk_below (g := gb182) (o := .cells #[.int .i64 a1_0, .int .i64 a1_1, .int .i64 a1_2] 25 (0, 0)) (by (with_reducible repeat (first | refine blk_drewN ?_ _ | refine blk_drew ?_ | refine blk_alloc ?_ _)); refine blk_far ?_ NB182_189.out _; (with_reducible repeat (first | refine blk_drewN ?_ _ | refine blk_drew ?_ | refine blk_alloc ?_ _)); refine blk_far ?_ NB182_189.out _; (with_reducible repeat (first | refine blk_drewN ?_ _ | refine blk_drew ?_ | refine blk_alloc ?_ _)); exact BK182.out) hb); replace BK189 := Aside0.mk (blk_below (g := gb189) (o := .cells #[.int .i64 ((rd_T63 l0_1 t185).f0), .slice A188_1 ((rd_T63 l0_1 t185).f1).length c188_1] 63 (0, 0)) (by (with_reducible repeat (first | refine blk_drewN ?_ _ | refine blk_drew ?_ | refine blk_alloc ?_ _)); refine blk_put (cs := #[.int .i64 ((rd_T63 l0_1 t185).f0), .slice none 0 0]) ?_ 1 _ rfl; (with_reducible repeat (first | refine blk_drewN ?_ _ | refine blk_drew ?_ | refine blk_alloc ?_ _)); refine blk_put (cs := #[.int .i64 0, .slice none 0 0]) ?_ 0 _ rfl; (with_reducible repeat (first | refine blk_drewN ?_ _ | refine blk_drew ?_ | refine blk_alloc ?_ _)); exact BK189.out) hb); replace HB := Aside0.mk (below_step (TB3 GE181.out GE182.out GE189.out) hb); (try clear hb); (try clear hb2); (try clear hk); (try clear hi); have hcz66_0 := czz BK181.out 0; have hcz66_1 := czz BK181.out 1; have hfz66_0 := fz BK181.out 0; have hfz66_1 := fz BK181.out 1) | ((with_reducible refine gate_callee (f := 21) rfl ?_); refine goesL_ (some 59) rfl rfl Tryd.func21 (by kernel_rfl) rfl #[.agg #[.int .i64 a0_0, .slice (some ad188) l0_1.length c0_1], .int .i64 t185, .int .i64 t186] rfl TM ?_; (with_reducible refine (cycle_Even.calls a0_0 _ _ l0_1 t185 t186 t192 t193 _ ?side1 ?side2 ?side3 A11.out).mono ?_); (case side1 => exact TC HR0_1.out); (case side2 => exact HC0_1.out); (case side3 => exact Glob.fr HG.out (Fr.of_below (TB3 GE181.out GE182.out GE189.out))); rintro e w67 ⟨rfl, hb⟩; refine ⟨_, rfl, ?_⟩; replace BK181 := Aside0.mk (blk_below (g := gb181) (o := .cells #[.int .i64 a0_0, .slice (some ad188) l0_1.length c0_1] 24 (0, 0)) (by (with_reducible repeat (first | refine blk_drewN ?_ _ | refine blk_drew ?_ | refine blk_alloc ?_ _)); exact BK181.out) hb); replace BK182 := Aside0.mk (blk_below (g := gb182) (o := .cells #[.int .i64 a1_0, .int .i64 a1_1, .int .i64 a1_2] 25 (0, 0)) (by (with_reducible repeat (first | refine blk_drewN ?_ _ | refine blk_drew ?_ | refine blk_alloc ?_ _)); exact BK182.out) hb); replace BK189 := Aside0.mk (blk_below (g := gb189) (o := .cells #[.int .i64 ((rd_T63 l0_1 t185).f0), .slice A188_1 ((rd_T63 l0_1 t185).f1).length c188_1] 63 (0, 0)) (by (with_reducible repeat (first | refine blk_drewN ?_ _ | refine blk_drew ?_ | refine blk_alloc ?_ _)); exact BK189.out) hb); replace HB := Aside0.mk (below_step (TB3 GE181.out GE182.out GE189.out) hb); (try clear hb); (try clear hb2); (try clear hk); (try clear hi); have hcz68_0 := czz BK189.out 0; have hcz68_1 := czz BK189.out 1; have hfz68_0 := fz BK189.out 0; have hfz68_1 := fz BK189.out 1; have p194 : 0 ≤ (t186 : Int) := of_decide_eq_true TA; have q194 : t186 < (((rd_T63 l0_1 t185).f1).length : Int) := of_decide_eq_true TA; obtain ⟨ad194, A194_0, c194_0, e194, hx194_0, hl194_0, hi194_0⟩ := at_L1 HR188_1.out t186 p194 q194; cases e194; replace hx194_0 := (HB.out.cell  (World.block_lt_of_cell? w _ hx194_0)).trans hx194_0; have HR194_0 := Aside0.mk hi194_0; have HC194_0 := Aside0.mk hl194_0; clear hi194_0 hl194_0; replace p194 := eq_true p194; replace q194 := eq_true q194))
          go_ret
          exact ⟨TR, TB3 GE181.out GE182.out GE189.out⟩
        ·rw [if_neg c16] at H
         have c16b0 : (t193 == 4) = false := beq_eq_false_iff_ne.mpr c16
         have c16b1 : (t193 != 4) = true := bne_iff_ne.mpr c16
         obtain rfl := Option.some.inj H
         go_enter Tryd.func7, Tryd.ntmps7
         try go_wp2_with (first | ((with_reducible refine gate_dst (N := 2) rfl ?_); (try (refine gate_guard (by rfl) ?_; dsimp only)); refine box_event ?hg (N := 2) ?hd (cs := #[.int .i64 a0_0, .slice A0_1 l0_1.length c0_1]) (t := 24) ?hr ?_; (case hd => rfl); (case hg => rfl); (case hr => exact TS); intro gb181 hg w69 hbox hb; have BK181 := Aside0.mk (hbox); have GW181 := Aside0.mk ((TG : w.heap.size ≤ gb181)); have GE181 := Aside0.mk ((TG : w.heap.size ≤ gb181)); replace HB := Aside0.mk (below_step TB hb); clear hb hbox hg) | ((with_reducible refine gate_dst (N := 3) rfl ?_); (try (refine gate_guard (by rfl) ?_; dsimp only)); refine box_event ?hg (N := 3) ?hd (cs := #[.int .i64 a1_0, .int .i64 a1_1, .int .i64 a1_2]) (t := 25) ?hr ?_; (case hd => rfl); (case hg => rfl); (case hr => exact TS); intro gb182 hg w70 hbox hb; have BK182 := Aside0.mk (hbox); have GW182 := Aside0.mk ((TG1 GE181.out : w.heap.size ≤ gb182)); have GE182 := Aside0.mk ((TG1 GE181.out : w.heap.size ≤ gb182)); have NB181_182 := Aside0.mk ((by rw [hg]; exact Nat.ne_of_lt (blk_lt (g := gb181) (o := .cells #[.int .i64 a0_0, .slice A0_1 l0_1.length c0_1] 24 (0, 0)) (by (with_reducible repeat (first | refine blk_drewN ?_ _ | refine blk_drew ?_ | refine blk_alloc ?_ _)); exact BK181.out)) : gb181 ≠ gb182)); have NB182_181 := Aside0.mk ((by rw [hg]; exact Nat.ne_of_gt (blk_lt (g := gb181) (o := .cells #[.int .i64 a0_0, .slice A0_1 l0_1.length c0_1] 24 (0, 0)) (by (with_reducible repeat (first | refine blk_drewN ?_ _ | refine blk_drew ?_ | refine blk_alloc ?_ _)); exact BK181.out)) : gb182 ≠ gb181)); replace BK181 := Aside0.mk (blk_below (g := gb181) (o := .cells #[.int .i64 a0_0, .slice A0_1 l0_1.length c0_1] 24 (0, 0)) (by (with_reducible repeat (first | refine blk_drewN ?_ _ | refine blk_drew ?_ | refine blk_alloc ?_ _)); exact BK181.out) hb); replace HB := Aside0.mk (below_step (TB1 GE181.out) hb); clear hb hbox hg; have hnb71 := NB181_182.out; have hnc71 := NB182_181.out; have hcz72_0 := czz BK181.out 0; have hcz72_1 := czz BK181.out 1; have hfz72_0 := fz BK181.out 0; have hfz72_1 := fz BK181.out 1) | ((with_reducible refine gate_callee (f := 39) rfl ?_); refine goesL_ (some 25) rfl rfl Tryd.func39 (by kernel_rfl) rfl #[.agg #[.int .i64 a0_0, .slice A0_1 l0_1.length c0_1]] rfl TM ?_; (with_reducible refine (saronlaw05_sound.calls k a0_0 _ _ l0_1 true _ ?side1 ?side2 A3.out).mono ?_); (case side1 => exact TC HR0_1.out); (case side2 => exact HC0_1.out); rintro e w73 ⟨rfl, hb⟩; refine ⟨_, rfl, ?_⟩; replace BK181 := Aside0.mk (blk_below (g := gb181) (o := .cells #[.int .i64 a0_0, .slice A0_1 l0_1.length c0_1] 24 (0, 0)) (by (with_reducible repeat (first | refine blk_drewN ?_ _ | refine blk_drew ?_ | refine blk_alloc ?_ _)); exact BK181.out) hb); replace BK182 := Aside0.mk (blk_below (g := gb182) (o := .cells #[.int .i64 a1_0, .int .i64 a1_1, .int .i64 a1_2] 25 (0, 0)) (by (with_reducible repeat (first | refine blk_drewN ?_ _ | refine blk_drew ?_ | refine blk_alloc ?_ _)); exact BK182.out) hb); replace HB := Aside0.mk (below_step (TB2 GE181.out GE182.out) hb); (try clear hb); (try clear hb2); (try clear hk); (try clear hi)))
         have n0_ := Aside0.mk (blk_drew BK181.out)
         have n1_ := Aside0.mk (blk_drew BK182.out)
         have n2_ := Aside0.mk (below_drew1 HB.out)
         clear BK181
         clear BK182
         clear HB
         have BK181 := n0_
         have BK182 := n1_
         have HB := n2_
         clear n0_ n1_ n2_
         refine start_ (n := 17) (S := fun w' => w'.cell? ⟨gb182, 0, none⟩ = some (.int .i64 a1_0) ∧ w'.cell? ⟨gb182, 1, none⟩ = some (.int .i64 a1_1) ∧ w'.cell? ⟨gb182, 2, none⟩ = some (.int .i64 a1_2) ∧ w'.cell? ⟨gb181, 0, none⟩ = some (.int .i64 a0_0) ∧ w'.cell? ⟨gb181, 1, none⟩ = some (.slice A0_1 l0_1.length c0_1)) (ds := []) (.replicate 17 false) (by kernel_rfl) rfl rfl ⟨czz BK182.out 0, czz BK182.out 1, czz BK182.out 2, czz BK181.out 0, czz BK181.out 1⟩ (fun hHeld => ?_); refine with_tabW saronlaw05_CycleNext.tab3 saronlaw05_CycleNext.bits3 (fun HT_ HW_ => ?_)
         generalize w73.drew = w74 at BK181 BK182 HB hHeld ⊢
         refine pT 0 28 (bt 17 1) (k := ?_)
         refine pT 2 30 (bt 17 5) (k := ?_)
         refine pT 6 34 (bt 17 69) (k := ?_)
         refine pT 8 36 (bt 17 325) (k := ?_)
         refine pT 11 39 (bt 17 2373) (k := ?_)
         refine tT5 1 29 (bt 17 2375) hHeld (k := ?_)
         refine tT5 3 31 (bt 17 2383) hHeld (k := ?_)
         refine pT 4 32 (bt 17 2399) (k := ?_)
         refine tT5 7 35 (bt 17 2527) hHeld (k := ?_)
         refine tT5 9 37 (bt 17 3039) hHeld (k := ?_)
         refine tT5 12 40 (bt 17 7135) hHeld (k := ?_)
         refine one_ (i := 5) (N := some 33) (bt 17 7167) rfl rfl (one_of HT_.out (by kernel_rfl)) (by decide) (fun K hK => ?_)
         refine goes_ Tryd.func40 (by kernel_rfl) rfl #[.int .i64 a1_0, .int .i64 (l0_1.length : Int)] (by rfl) rfl rfl TM ?_
         with_reducible refine (saronref00_Turn.calls a1_0 (l0_1.length : Int) t185 _ A5.out).mono ?_
         rintro e w' ⟨rfl, ⟨nd, rfl⟩⟩
         refine ⟨_, rfl, ?_⟩
         refine hK.out _ _ ⟨czz BK182.out 0, czz BK182.out 1, czz BK182.out 2, czz BK181.out 0, czz BK181.out 1⟩ (fun hHeld => ?_)
         clear hK K
         refine norm_ (a' := ?_) ?_ ?_
         rotate_left
         ·show Act.put _ (some 33) _ = _
          simp only [Act.put, lA, lZ, lS, i64_w, i32_w]
          rfl
         refine one_ (i := 10) (N := some 38) (bt 17 8191) rfl rfl (one_of HT_.out (by kernel_rfl)) (by decide) (fun K hK => ?_)
         refine goes_ Tryd.func40 (by kernel_rfl) rfl #[.int .i64 a1_1, .int .i64 a0_0] (by rfl) rfl rfl TM ?_
         with_reducible refine (saronref00_Turn.calls a1_1 a0_0 t186 _ A6.out).mono ?_
         rintro e w' ⟨rfl, ⟨nd, rfl⟩⟩
         refine ⟨_, rfl, ?_⟩
         refine hK.out _ _ ⟨czz BK182.out 0, czz BK182.out 1, czz BK182.out 2, czz BK181.out 0, czz BK181.out 1⟩ (fun hHeld => ?_)
         clear hK K
         refine norm_ (a' := ?_) ?_ ?_
         rotate_left
         ·show Act.put _ (some 38) _ = _
          simp only [Act.put, lA, lZ, lS, i64_w, i32_w]
          rfl
         refine one_ (i := 13) (N := some 41) (bt 17 16383) rfl rfl (one_of HT_.out (by kernel_rfl)) (by decide) (fun K hK => ?_)
         refine goes_ Tryd.func40 (by kernel_rfl) rfl #[.int .i64 a1_2, .int .i64 1000] (by rfl) rfl rfl TM ?_
         with_reducible refine (saronref00_Turn.calls a1_2 1000 t187 _ A7.out).mono ?_
         rintro e w' ⟨rfl, ⟨nd, rfl⟩⟩
         refine ⟨_, rfl, ?_⟩
         refine hK.out _ _ ⟨czz BK182.out 0, czz BK182.out 1, czz BK182.out 2, czz BK181.out 0, czz BK181.out 1⟩ (fun hHeld => ?_)
         clear hK K
         refine norm_ (a' := ?_) ?_ ?_
         rotate_left
         ·show Act.put _ (some 41) _ = _
          simp only [Act.put, lA, lZ, lS, i64_w, i32_w]
          rfl
         refine pT 14 5 (bt 17 32767) (k := ?_)
         refine pT 15 6 (bt 17 65535) (k := ?_)
         refine pT 16 7 (bt 17 131071) (k := ?_)
         refine done_ (done_of HT_.out (by kernel_rfl)) ?_
         have hcz75_0 := czz BK181.out 0
         have hcz75_1 := czz BK181.out 1
         have hfz75_0 := fz BK181.out 0
         have hfz75_1 := fz BK181.out 1
         have p188 : 0 ≤ (t185 : Int) := of_decide_eq_true TA
         have q188 : t185 < (l0_1.length : Int) := of_decide_eq_true TA
         obtain ⟨ad188, A188_1, c188_1, e188, hx188_0, hx188_1, hl188_1, hi188_1⟩ := at_T63 HR0_1.out t185 p188 q188
         cases e188
         replace hx188_0 := (HB.out.cell  (World.block_lt_of_cell? w _ hx188_0)).trans hx188_0
         replace hx188_1 := (HB.out.cell  (World.block_lt_of_cell? w _ hx188_1)).trans hx188_1
         have HR188_1 := Aside0.mk hi188_1
         have HC188_1 := Aside0.mk hl188_1
         clear hi188_1 hl188_1
         replace p188 := eq_true p188
         replace q188 := eq_true q188
         try go_wp2_with (first | ((with_reducible refine gate_dst (N := 8) rfl ?_); (try (refine gate_guard (by rfl) ?_; dsimp only)); refine box_event ?hg (N := 8) ?hd (cs := #[.int .i64 0, .slice none 0 0]) (t := 63) ?hr ?_; (case hd => rfl); (case hg => rfl); (case hr => exact TS); intro gb189 hg w76 hbox hb; have BK189 := Aside0.mk (hbox); have GW189 := Aside0.mk ((TG2 GE181.out GE182.out : w.heap.size ≤ gb189)); have GE189 := Aside0.mk ((TG2 GE181.out GE182.out : w.heap.size ≤ gb189)); have NB181_189 := Aside0.mk ((by rw [hg]; exact Nat.ne_of_lt (blk_lt (g := gb181) (o := .cells #[.int .i64 a0_0, .slice (some ad188) l0_1.length c0_1] 24 (0, 0)) (by (with_reducible repeat (first | refine blk_drewN ?_ _ | refine blk_drew ?_ | refine blk_alloc ?_ _)); exact BK181.out)) : gb181 ≠ gb189)); have NB189_181 := Aside0.mk ((by rw [hg]; exact Nat.ne_of_gt (blk_lt (g := gb181) (o := .cells #[.int .i64 a0_0, .slice (some ad188) l0_1.length c0_1] 24 (0, 0)) (by (with_reducible repeat (first | refine blk_drewN ?_ _ | refine blk_drew ?_ | refine blk_alloc ?_ _)); exact BK181.out)) : gb189 ≠ gb181)); have NB182_189 := Aside0.mk ((by rw [hg]; exact Nat.ne_of_lt (blk_lt (g := gb182) (o := .cells #[.int .i64 a1_0, .int .i64 a1_1, .int .i64 a1_2] 25 (0, 0)) (by (with_reducible repeat (first | refine blk_drewN ?_ _ | refine blk_drew ?_ | refine blk_alloc ?_ _)); exact BK182.out)) : gb182 ≠ gb189)); have NB189_182 := Aside0.mk ((by rw [hg]; exact Nat.ne_of_gt (blk_lt (g := gb182) (o := .cells #[.int .i64 a1_0, .int .i64 a1_1, .int .i64 a1_2] 25 (0, 0)) (by (with_reducible repeat (first | refine blk_drewN ?_ _ | refine blk_drew ?_ | refine blk_alloc ?_ _)); exact BK182.out)) : gb189 ≠ gb182)); replace BK181 := Aside0.mk (blk_below (g := gb181) (o := .cells #[.int .i64 a0_0, .slice (some ad188) l0_1.length c0_1] 24 (0, 0)) (by (with_reducible repeat (first | refine blk_drewN ?_ _ | refine blk_drew ?_ | refine blk_alloc ?_ _)); exact BK181.out) hb); replace BK182 := Aside0.mk (blk_below (g := gb182) (o := .cells #[.int .i64 a1_0, .int .i64 a1_1, .int .i64 a1_2] 25 (0, 0)) (by (with_reducible repeat (first | refine blk_drewN ?_ _ | refine blk_drew ?_ | refine blk_alloc ?_ _)); exact BK182.out) hb); replace HB := Aside0.mk (below_step (TB2 GE181.out GE182.out) hb); clear hb hbox hg; have hnb77 := NB189_181.out; have hnc77 := NB181_189.out; have hnb78 := NB189_182.out; have hnc78 := NB182_189.out; have hcz79_0 := czz BK189.out 0; have hcz79_1 := czz BK189.out 1; have hfz79_0 := fz BK189.out 0; have hfz79_1 := fz BK189.out 1; have hcz80_0 := czz BK181.out 0; have hcz80_1 := czz BK181.out 1; have hfz80_0 := fz BK181.out 0; have hfz80_1 := fz BK181.out 1) | ((with_reducible refine gate_callee (f := 19) rfl ?_); refine goesL_ (some 52) rfl rfl Tryd.func19 (by kernel_rfl) rfl #[.agg #[.int .i64 a0_0, .slice (some ad188) l0_1.length c0_1], .int .i64 t185, .int .i64 t186, .int .i64 t187] rfl TM ?_; (with_reducible refine (cycle_Next.calls a0_0 _ _ l0_1 t185 t186 t187 t190 t191 _ ?side1 ?side2 ?side3 A10.out).mono ?_); (case side1 => exact Kd.C_below HR0_1.out (TB3 GE181.out GE182.out GE189.out)); (case side2 => exact HC0_1.out); (case side3 => exact Glob.fr HG.out (Fr.of_below (TB3 GE181.out GE182.out GE189.out))); rintro e w81 ⟨rfl, hb⟩; refine ⟨_, rfl, ?_⟩; replace BK181 := Aside0.mk (blk_below (g := gb181) (o := .cells #[.int .i64 a0_0, .slice (some ad188) l0_1.length c0_1] 24 (0, 0)) (by (with_reducible repeat (first | refine blk_drewN ?_ _ | refine blk_drew ?_ | refine blk_alloc ?_ _)); refine blk_far ?_ NB181_189.out _; (with_reducible repeat (first | refine blk_drewN ?_ _ | refine blk_drew ?_ | refine blk_alloc ?_ _)); refine blk_far ?_ NB181_189.out _; (with_reducible repeat (first | refine blk_drewN ?_ _ | refine blk_drew ?_ | refine blk_alloc ?_ _)); exact BK181.out) hb); replace BK182 := Aside0.mk (blk_below (g := gb182) (o := .cells #[.int .i64 a1_0, .int .i64 a1_1, .int .i64 a1_2] 25 (0, 0)) (by (with_reducible repeat (first | refine blk_drewN ?_ _ | refine blk_drew ?_ | refine blk_alloc ?_ _)); refine blk_far ?_ NB182_189.out _; (with_reducible repeat (first | refine blk_drewN ?_ _ | refine blk_drew ?_ | refine blk_alloc ?_ _)); refine blk_far ?_ NB182_189.out _; (with_reducible repeat (first | refine blk_drewN ?_ _ | refine blk_drew ?_ | refine blk_alloc ?_ _)); exact BK182.out) hb); replace BK189 := Aside0.mk (blk_below (g := gb189) (o := .cells #[.int .i64 ((rd_T63 l0_1 t185).f0), .slice A188_1 ((rd_T63 l0_1 t185).f1).length c188_1] 63 (0, 0)) (by (with_reducible repeat (first | refine blk_drewN ?_ _ | refine blk_drew ?_ | refine blk_alloc ?_ _)); refine blk_put (cs := #[.int .i64 ((rd_T63 l0_1 t185).f0), .slice none 0 0]) ?_ 1 _ rfl; (with_reducible repeat (first | refine blk_drewN ?_ _ | refine blk_drew ?_ | refine blk_alloc ?_ _)); refine blk_put (cs := #[.int .i64 0, .slice none 0 0]) ?_ 0 _ rfl; (with_reducible repeat (first | refine blk_drewN ?_ _ | refine blk_drew ?_ | refine blk_alloc ?_ _)); exact BK189.out) hb); replace HB := Aside0.mk (below_step (TB3 GE181.out GE182.out GE189.out) hb); (try clear hb); (try clear hb2); (try clear hk); (try clear hi); have hcz82_0 := czz BK181.out 0; have hcz82_1 := czz BK181.out 1; have hfz82_0 := fz BK181.out 0; have hfz82_1 := fz BK181.out 1) | ((with_reducible refine gate_callee (f := 21) rfl ?_); refine goesL_ (some 59) rfl rfl Tryd.func21 (by kernel_rfl) rfl #[.agg #[.int .i64 a0_0, .slice (some ad188) l0_1.length c0_1], .int .i64 t185, .int .i64 t186] rfl TM ?_; (with_reducible refine (cycle_Even.calls a0_0 _ _ l0_1 t185 t186 t192 t193 _ ?side1 ?side2 ?side3 A11.out).mono ?_); (case side1 => exact TC HR0_1.out); (case side2 => exact HC0_1.out); (case side3 => exact Glob.fr HG.out (Fr.of_below (TB3 GE181.out GE182.out GE189.out))); rintro e w83 ⟨rfl, hb⟩; refine ⟨_, rfl, ?_⟩; replace BK181 := Aside0.mk (blk_below (g := gb181) (o := .cells #[.int .i64 a0_0, .slice (some ad188) l0_1.length c0_1] 24 (0, 0)) (by (with_reducible repeat (first | refine blk_drewN ?_ _ | refine blk_drew ?_ | refine blk_alloc ?_ _)); exact BK181.out) hb); replace BK182 := Aside0.mk (blk_below (g := gb182) (o := .cells #[.int .i64 a1_0, .int .i64 a1_1, .int .i64 a1_2] 25 (0, 0)) (by (with_reducible repeat (first | refine blk_drewN ?_ _ | refine blk_drew ?_ | refine blk_alloc ?_ _)); exact BK182.out) hb); replace BK189 := Aside0.mk (blk_below (g := gb189) (o := .cells #[.int .i64 ((rd_T63 l0_1 t185).f0), .slice A188_1 ((rd_T63 l0_1 t185).f1).length c188_1] 63 (0, 0)) (by (with_reducible repeat (first | refine blk_drewN ?_ _ | refine blk_drew ?_ | refine blk_alloc ?_ _)); exact BK189.out) hb); replace HB := Aside0.mk (below_step (TB3 GE181.out GE182.out GE189.out) hb); (try clear hb); (try clear hb2); (try clear hk); (try clear hi); have hcz84_0 := czz BK189.out 0; have hcz84_1 := czz BK189.out 1; have hfz84_0 := fz BK189.out 0; have hfz84_1 := fz BK189.out 1; have p194 : 0 ≤ (t186 : Int) := of_decide_eq_true TA; have q194 : t186 < (((rd_T63 l0_1 t185).f1).length : Int) := of_decide_eq_true TA; obtain ⟨ad194, A194_0, c194_0, e194, hx194_0, hl194_0, hi194_0⟩ := at_L1 HR188_1.out t186 p194 q194; cases e194; replace hx194_0 := (HB.out.cell  (World.block_lt_of_cell? w _ hx194_0)).trans hx194_0; have HR194_0 := Aside0.mk hi194_0; have HC194_0 := Aside0.mk hl194_0; clear hi194_0 hl194_0; replace p194 := eq_true p194; replace q194 := eq_true q194))
         go_ret
         exact ⟨TR, TB3 GE181.out GE182.out GE189.out⟩
       ·rw [if_neg c15] at H
        have c15b0 : (t191 == 4) = false := beq_eq_false_iff_ne.mpr c15
        have c15b1 : (t191 != 4) = true := bne_iff_ne.mpr c15
        obtain rfl := Option.some.inj H
        go_enter Tryd.func7, Tryd.ntmps7
        try go_wp2_with (first | ((with_reducible refine gate_dst (N := 2) rfl ?_); (try (refine gate_guard (by rfl) ?_; dsimp only)); refine box_event ?hg (N := 2) ?hd (cs := #[.int .i64 a0_0, .slice A0_1 l0_1.length c0_1]) (t := 24) ?hr ?_; (case hd => rfl); (case hg => rfl); (case hr => exact TS); intro gb181 hg w85 hbox hb; have BK181 := Aside0.mk (hbox); have GW181 := Aside0.mk ((TG : w.heap.size ≤ gb181)); have GE181 := Aside0.mk ((TG : w.heap.size ≤ gb181)); replace HB := Aside0.mk (below_step TB hb); clear hb hbox hg) | ((with_reducible refine gate_dst (N := 3) rfl ?_); (try (refine gate_guard (by rfl) ?_; dsimp only)); refine box_event ?hg (N := 3) ?hd (cs := #[.int .i64 a1_0, .int .i64 a1_1, .int .i64 a1_2]) (t := 25) ?hr ?_; (case hd => rfl); (case hg => rfl); (case hr => exact TS); intro gb182 hg w86 hbox hb; have BK182 := Aside0.mk (hbox); have GW182 := Aside0.mk ((TG1 GE181.out : w.heap.size ≤ gb182)); have GE182 := Aside0.mk ((TG1 GE181.out : w.heap.size ≤ gb182)); have NB181_182 := Aside0.mk ((by rw [hg]; exact Nat.ne_of_lt (blk_lt (g := gb181) (o := .cells #[.int .i64 a0_0, .slice A0_1 l0_1.length c0_1] 24 (0, 0)) (by (with_reducible repeat (first | refine blk_drewN ?_ _ | refine blk_drew ?_ | refine blk_alloc ?_ _)); exact BK181.out)) : gb181 ≠ gb182)); have NB182_181 := Aside0.mk ((by rw [hg]; exact Nat.ne_of_gt (blk_lt (g := gb181) (o := .cells #[.int .i64 a0_0, .slice A0_1 l0_1.length c0_1] 24 (0, 0)) (by (with_reducible repeat (first | refine blk_drewN ?_ _ | refine blk_drew ?_ | refine blk_alloc ?_ _)); exact BK181.out)) : gb182 ≠ gb181)); replace BK181 := Aside0.mk (blk_below (g := gb181) (o := .cells #[.int .i64 a0_0, .slice A0_1 l0_1.length c0_1] 24 (0, 0)) (by (with_reducible repeat (first | refine blk_drewN ?_ _ | refine blk_drew ?_ | refine blk_alloc ?_ _)); exact BK181.out) hb); replace HB := Aside0.mk (below_step (TB1 GE181.out) hb); clear hb hbox hg; have hnb87 := NB181_182.out; have hnc87 := NB182_181.out; have hcz88_0 := czz BK181.out 0; have hcz88_1 := czz BK181.out 1; have hfz88_0 := fz BK181.out 0; have hfz88_1 := fz BK181.out 1) | ((with_reducible refine gate_callee (f := 39) rfl ?_); refine goesL_ (some 25) rfl rfl Tryd.func39 (by kernel_rfl) rfl #[.agg #[.int .i64 a0_0, .slice A0_1 l0_1.length c0_1]] rfl TM ?_; (with_reducible refine (saronlaw05_sound.calls k a0_0 _ _ l0_1 true _ ?side1 ?side2 A3.out).mono ?_); (case side1 => exact TC HR0_1.out); (case side2 => exact HC0_1.out); rintro e w89 ⟨rfl, hb⟩; refine ⟨_, rfl, ?_⟩; replace BK181 := Aside0.mk (blk_below (g := gb181) (o := .cells #[.int .i64 a0_0, .slice A0_1 l0_1.length c0_1] 24 (0, 0)) (by (with_reducible repeat (first | refine blk_drewN ?_ _ | refine blk_drew ?_ | refine blk_alloc ?_ _)); exact BK181.out) hb); replace BK182 := Aside0.mk (blk_below (g := gb182) (o := .cells #[.int .i64 a1_0, .int .i64 a1_1, .int .i64 a1_2] 25 (0, 0)) (by (with_reducible repeat (first | refine blk_drewN ?_ _ | refine blk_drew ?_ | refine blk_alloc ?_ _)); exact BK182.out) hb); replace HB := Aside0.mk (below_step (TB2 GE181.out GE182.out) hb); (try clear hb); (try clear hb2); (try clear hk); (try clear hi)))
        have n0_ := Aside0.mk (blk_drew BK181.out)
        have n1_ := Aside0.mk (blk_drew BK182.out)
        have n2_ := Aside0.mk (below_drew1 HB.out)
        clear BK181
        clear BK182
        clear HB
        have BK181 := n0_
        have BK182 := n1_
        have HB := n2_
        clear n0_ n1_ n2_
        refine start_ (n := 17) (S := fun w' => w'.cell? ⟨gb182, 0, none⟩ = some (.int .i64 a1_0) ∧ w'.cell? ⟨gb182, 1, none⟩ = some (.int .i64 a1_1) ∧ w'.cell? ⟨gb182, 2, none⟩ = some (.int .i64 a1_2) ∧ w'.cell? ⟨gb181, 0, none⟩ = some (.int .i64 a0_0) ∧ w'.cell? ⟨gb181, 1, none⟩ = some (.slice A0_1 l0_1.length c0_1)) (ds := []) (.replicate 17 false) (by kernel_rfl) rfl rfl ⟨czz BK182.out 0, czz BK182.out 1, czz BK182.out 2, czz BK181.out 0, czz BK181.out 1⟩ (fun hHeld => ?_); refine with_tabW saronlaw05_CycleNext.tab3 saronlaw05_CycleNext.bits3 (fun HT_ HW_ => ?_)
        generalize w89.drew = w90 at BK181 BK182 HB hHeld ⊢
        refine pT 0 28 (bt 17 1) (k := ?_)
        refine pT 2 30 (bt 17 5) (k := ?_)
        refine pT 6 34 (bt 17 69) (k := ?_)
        refine pT 8 36 (bt 17 325) (k := ?_)
        refine pT 11 39 (bt 17 2373) (k := ?_)
        refine tT5 1 29 (bt 17 2375) hHeld (k := ?_)
        refine tT5 3 31 (bt 17 2383) hHeld (k := ?_)
        refine pT 4 32 (bt 17 2399) (k := ?_)
        refine tT5 7 35 (bt 17 2527) hHeld (k := ?_)
        refine tT5 9 37 (bt 17 3039) hHeld (k := ?_)
        refine tT5 12 40 (bt 17 7135) hHeld (k := ?_)
        refine one_ (i := 5) (N := some 33) (bt 17 7167) rfl rfl (one_of HT_.out (by kernel_rfl)) (by decide) (fun K hK => ?_)
        refine goes_ Tryd.func40 (by kernel_rfl) rfl #[.int .i64 a1_0, .int .i64 (l0_1.length : Int)] (by rfl) rfl rfl TM ?_
        with_reducible refine (saronref00_Turn.calls a1_0 (l0_1.length : Int) t185 _ A5.out).mono ?_
        rintro e w' ⟨rfl, ⟨nd, rfl⟩⟩
        refine ⟨_, rfl, ?_⟩
        refine hK.out _ _ ⟨czz BK182.out 0, czz BK182.out 1, czz BK182.out 2, czz BK181.out 0, czz BK181.out 1⟩ (fun hHeld => ?_)
        clear hK K
        refine norm_ (a' := ?_) ?_ ?_
        rotate_left
        ·show Act.put _ (some 33) _ = _
         simp only [Act.put, lA, lZ, lS, i64_w, i32_w]
         rfl
        refine one_ (i := 10) (N := some 38) (bt 17 8191) rfl rfl (one_of HT_.out (by kernel_rfl)) (by decide) (fun K hK => ?_)
        refine goes_ Tryd.func40 (by kernel_rfl) rfl #[.int .i64 a1_1, .int .i64 a0_0] (by rfl) rfl rfl TM ?_
        with_reducible refine (saronref00_Turn.calls a1_1 a0_0 t186 _ A6.out).mono ?_
        rintro e w' ⟨rfl, ⟨nd, rfl⟩⟩
        refine ⟨_, rfl, ?_⟩
        refine hK.out _ _ ⟨czz BK182.out 0, czz BK182.out 1, czz BK182.out 2, czz BK181.out 0, czz BK181.out 1⟩ (fun hHeld => ?_)
        clear hK K
        refine norm_ (a' := ?_) ?_ ?_
        rotate_left
        ·show Act.put _ (some 38) _ = _
         simp only [Act.put, lA, lZ, lS, i64_w, i32_w]
         rfl
        refine one_ (i := 13) (N := some 41) (bt 17 16383) rfl rfl (one_of HT_.out (by kernel_rfl)) (by decide) (fun K hK => ?_)
        refine goes_ Tryd.func40 (by kernel_rfl) rfl #[.int .i64 a1_2, .int .i64 1000] (by rfl) rfl rfl TM ?_
        with_reducible refine (saronref00_Turn.calls a1_2 1000 t187 _ A7.out).mono ?_
        rintro e w' ⟨rfl, ⟨nd, rfl⟩⟩
        refine ⟨_, rfl, ?_⟩
        refine hK.out _ _ ⟨czz BK182.out 0, czz BK182.out 1, czz BK182.out 2, czz BK181.out 0, czz BK181.out 1⟩ (fun hHeld => ?_)
        clear hK K
        refine norm_ (a' := ?_) ?_ ?_
        rotate_left
        ·show Act.put _ (some 41) _ = _
         simp only [Act.put, lA, lZ, lS, i64_w, i32_w]
         rfl
        refine pT 14 5 (bt 17 32767) (k := ?_)
        refine pT 15 6 (bt 17 65535) (k := ?_)
        refine pT 16 7 (bt 17 131071) (k := ?_)
        refine done_ (done_of HT_.out (by kernel_rfl)) ?_
        have hcz91_0 := czz BK181.out 0
        have hcz91_1 := czz BK181.out 1
        have hfz91_0 := fz BK181.out 0
        have hfz91_1 := fz BK181.out 1
        have p188 : 0 ≤ (t185 : Int) := of_decide_eq_true TA
        have q188 : t185 < (l0_1.length : Int) := of_decide_eq_true TA
        obtain ⟨ad188, A188_1, c188_1, e188, hx188_0, hx188_1, hl188_1, hi188_1⟩ := at_T63 HR0_1.out t185 p188 q188
        cases e188
        replace hx188_0 := (HB.out.cell  (World.block_lt_of_cell? w _ hx188_0)).trans hx188_0
        replace hx188_1 := (HB.out.cell  (World.block_lt_of_cell? w _ hx188_1)).trans hx188_1
        have HR188_1 := Aside0.mk hi188_1
        have HC188_1 := Aside0.mk hl188_1
        clear hi188_1 hl188_1
        replace p188 := eq_true p188
        replace q188 := eq_true q188
        try go_wp2_with (first | ((with_reducible refine gate_dst (N := 8) rfl ?_); (try (refine gate_guard (by rfl) ?_; dsimp only)); refine box_event ?hg (N := 8) ?hd (cs := #[.int .i64 0, .slice none 0 0]) (t := 63) ?hr ?_; (case hd => rfl); (case hg => rfl); (case hr => exact TS); intro gb189 hg w92 hbox hb; have BK189 := Aside0.mk (hbox); have GW189 := Aside0.mk ((TG2 GE181.out GE182.out : w.heap.size ≤ gb189)); have GE189 := Aside0.mk ((TG2 GE181.out GE182.out : w.heap.size ≤ gb189)); have NB181_189 := Aside0.mk ((by rw [hg]; exact Nat.ne_of_lt (blk_lt (g := gb181) (o := .cells #[.int .i64 a0_0, .slice (some ad188) l0_1.length c0_1] 24 (0, 0)) (by (with_reducible repeat (first | refine blk_drewN ?_ _ | refine blk_drew ?_ | refine blk_alloc ?_ _)); exact BK181.out)) : gb181 ≠ gb189)); have NB189_181 := Aside0.mk ((by rw [hg]; exact Nat.ne_of_gt (blk_lt (g := gb181) (o := .cells #[.int .i64 a0_0, .slice (some ad188) l0_1.length c0_1] 24 (0, 0)) (by (with_reducible repeat (first | refine blk_drewN ?_ _ | refine blk_drew ?_ | refine blk_alloc ?_ _)); exact BK181.out)) : gb189 ≠ gb181)); have NB182_189 := Aside0.mk ((by rw [hg]; exact Nat.ne_of_lt (blk_lt (g := gb182) (o := .cells #[.int .i64 a1_0, .int .i64 a1_1, .int .i64 a1_2] 25 (0, 0)) (by (with_reducible repeat (first | refine blk_drewN ?_ _ | refine blk_drew ?_ | refine blk_alloc ?_ _)); exact BK182.out)) : gb182 ≠ gb189)); have NB189_182 := Aside0.mk ((by rw [hg]; exact Nat.ne_of_gt (blk_lt (g := gb182) (o := .cells #[.int .i64 a1_0, .int .i64 a1_1, .int .i64 a1_2] 25 (0, 0)) (by (with_reducible repeat (first | refine blk_drewN ?_ _ | refine blk_drew ?_ | refine blk_alloc ?_ _)); exact BK182.out)) : gb189 ≠ gb182)); replace BK181 := Aside0.mk (blk_below (g := gb181) (o := .cells #[.int .i64 a0_0, .slice (some ad188) l0_1.length c0_1] 24 (0, 0)) (by (with_reducible repeat (first | refine blk_drewN ?_ _ | refine blk_drew ?_ | refine blk_alloc ?_ _)); exact BK181.out) hb); replace BK182 := Aside0.mk (blk_below (g := gb182) (o := .cells #[.int .i64 a1_0, .int .i64 a1_1, .int .i64 a1_2] 25 (0, 0)) (by (with_reducible repeat (first | refine blk_drewN ?_ _ | refine blk_drew ?_ | refine blk_alloc ?_ _)); exact BK182.out) hb); replace HB := Aside0.mk (below_step (TB2 GE181.out GE182.out) hb); clear hb hbox hg; have hnb93 := NB189_181.out; have hnc93 := NB181_189.out; have hnb94 := NB189_182.out; have hnc94 := NB182_189.out; have hcz95_0 := czz BK189.out 0; have hcz95_1 := czz BK189.out 1; have hfz95_0 := fz BK189.out 0; have hfz95_1 := fz BK189.out 1; have hcz96_0 := czz BK181.out 0; have hcz96_1 := czz BK181.out 1; have hfz96_0 := fz BK181.out 0; have hfz96_1 := fz BK181.out 1) | ((with_reducible refine gate_callee (f := 19) rfl ?_); refine goesL_ (some 52) rfl rfl Tryd.func19 (by kernel_rfl) rfl #[.agg #[.int .i64 a0_0, .slice (some ad188) l0_1.length c0_1], .int .i64 t185, .int .i64 t186, .int .i64 t187] rfl TM ?_; (with_reducible refine (cycle_Next.calls a0_0 _ _ l0_1 t185 t186 t187 t190 t191 _ ?side1 ?side2 ?side3 A10.out).mono ?_); (case side1 => exact Kd.C_below HR0_1.out (TB3 GE181.out GE182.out GE189.out)); (case side2 => exact HC0_1.out); (case side3 => exact Glob.fr HG.out (Fr.of_below (TB3 GE181.out GE182.out GE189.out))); rintro e w97 ⟨rfl, hb⟩; refine ⟨_, rfl, ?_⟩; replace BK181 := Aside0.mk (blk_below (g := gb181) (o := .cells #[.int .i64 a0_0, .slice (some ad188) l0_1.length c0_1] 24 (0, 0)) (by (with_reducible repeat (first | refine blk_drewN ?_ _ | refine blk_drew ?_ | refine blk_alloc ?_ _)); refine blk_far ?_ NB181_189.out _; (with_reducible repeat (first | refine blk_drewN ?_ _ | refine blk_drew ?_ | refine blk_alloc ?_ _)); refine blk_far ?_ NB181_189.out _; (with_reducible repeat (first | refine blk_drewN ?_ _ | refine blk_drew ?_ | refine blk_alloc ?_ _)); exact BK181.out) hb); replace BK182 := Aside0.mk (blk_below (g := gb182) (o := .cells #[.int .i64 a1_0, .int .i64 a1_1, .int .i64 a1_2] 25 (0, 0)) (by (with_reducible repeat (first | refine blk_drewN ?_ _ | refine blk_drew ?_ | refine blk_alloc ?_ _)); refine blk_far ?_ NB182_189.out _; (with_reducible repeat (first | refine blk_drewN ?_ _ | refine blk_drew ?_ | refine blk_alloc ?_ _)); refine blk_far ?_ NB182_189.out _; (with_reducible repeat (first | refine blk_drewN ?_ _ | refine blk_drew ?_ | refine blk_alloc ?_ _)); exact BK182.out) hb); replace BK189 := Aside0.mk (blk_below (g := gb189) (o := .cells #[.int .i64 ((rd_T63 l0_1 t185).f0), .slice A188_1 ((rd_T63 l0_1 t185).f1).length c188_1] 63 (0, 0)) (by (with_reducible repeat (first | refine blk_drewN ?_ _ | refine blk_drew ?_ | refine blk_alloc ?_ _)); refine blk_put (cs := #[.int .i64 ((rd_T63 l0_1 t185).f0), .slice none 0 0]) ?_ 1 _ rfl; (with_reducible repeat (first | refine blk_drewN ?_ _ | refine blk_drew ?_ | refine blk_alloc ?_ _)); refine blk_put (cs := #[.int .i64 0, .slice none 0 0]) ?_ 0 _ rfl; (with_reducible repeat (first | refine blk_drewN ?_ _ | refine blk_drew ?_ | refine blk_alloc ?_ _)); exact BK189.out) hb); replace HB := Aside0.mk (below_step (TB3 GE181.out GE182.out GE189.out) hb); (try clear hb); (try clear hb2); (try clear hk); (try clear hi); have hcz98_0 := czz BK181.out 0; have hcz98_1 := czz BK181.out 1; have hfz98_0 := fz BK181.out 0; have hfz98_1 := fz BK181.out 1) | ((with_reducible refine gate_callee (f := 21) rfl ?_); refine goesL_ (some 59) rfl rfl Tryd.func21 (by kernel_rfl) rfl #[.agg #[.int .i64 a0_0, .slice (some ad188) l0_1.length c0_1], .int .i64 t185, .int .i64 t186] rfl TM ?_; (with_reducible refine (cycle_Even.calls a0_0 _ _ l0_1 t185 t186 t192 t193 _ ?side1 ?side2 ?side3 A11.out).mono ?_); (case side1 => exact TC HR0_1.out); (case side2 => exact HC0_1.out); (case side3 => exact Glob.fr HG.out (Fr.of_below (TB3 GE181.out GE182.out GE189.out))); rintro e w99 ⟨rfl, hb⟩; refine ⟨_, rfl, ?_⟩; replace BK181 := Aside0.mk (blk_below (g := gb181) (o := .cells #[.int .i64 a0_0, .slice (some ad188) l0_1.length c0_1] 24 (0, 0)) (by (with_reducible repeat (first | refine blk_drewN ?_ _ | refine blk_drew ?_ | refine blk_alloc ?_ _)); exact BK181.out) hb); replace BK182 := Aside0.mk (blk_below (g := gb182) (o := .cells #[.int .i64 a1_0, .int .i64 a1_1, .int .i64 a1_2] 25 (0, 0)) (by (with_reducible repeat (first | refine blk_drewN ?_ _ | refine blk_drew ?_ | refine blk_alloc ?_ _)); exact BK182.out) hb); replace BK189 := Aside0.mk (blk_below (g := gb189) (o := .cells #[.int .i64 ((rd_T63 l0_1 t185).f0), .slice A188_1 ((rd_T63 l0_1 t185).f1).length c188_1] 63 (0, 0)) (by (with_reducible repeat (first | refine blk_drewN ?_ _ | refine blk_drew ?_ | refine blk_alloc ?_ _)); exact BK189.out) hb); replace HB := Aside0.mk (below_step (TB3 GE181.out GE182.out GE189.out) hb); (try clear hb); (try clear hb2); (try clear hk); (try clear hi); have hcz100_0 := czz BK189.out 0; have hcz100_1 := czz BK189.out 1; have hfz100_0 := fz BK189.out 0; have hfz100_1 := fz BK189.out 1; have p194 : 0 ≤ (t186 : Int) := of_decide_eq_true TA; have q194 : t186 < (((rd_T63 l0_1 t185).f1).length : Int) := of_decide_eq_true TA; obtain ⟨ad194, A194_0, c194_0, e194, hx194_0, hl194_0, hi194_0⟩ := at_L1 HR188_1.out t186 p194 q194; cases e194; replace hx194_0 := (HB.out.cell  (World.block_lt_of_cell? w _ hx194_0)).trans hx194_0; have HR194_0 := Aside0.mk hi194_0; have HC194_0 := Aside0.mk hl194_0; clear hi194_0 hl194_0; replace p194 := eq_true p194; replace q194 := eq_true q194))
        go_ret
        exact ⟨TR, TB3 GE181.out GE182.out GE189.out⟩
      ·rw [if_neg c14] at H
       have c14b0 : (((rd_L1 ((rd_T63 l0_1 t185).f1) t186).length : Int) == 0) = false := beq_eq_false_iff_ne.mpr c14
       have c14b1 : (((rd_L1 ((rd_T63 l0_1 t185).f1) t186).length : Int) != 0) = true := bne_iff_ne.mpr c14
       have c14b2 : ¬ ((rd_L1 ((rd_T63 l0_1 t185).f1) t186) = []) := fun h_ => c14 (by rw [h_]; rfl)
       have HC101 := Aside0.mk H
       clear H
       go_enter Tryd.func7, Tryd.ntmps7
       try go_wp2_with (first | ((with_reducible refine gate_dst (N := 2) rfl ?_); (try (refine gate_guard (by rfl) ?_; dsimp only)); refine box_event ?hg (N := 2) ?hd (cs := #[.int .i64 a0_0, .slice A0_1 l0_1.length c0_1]) (t := 24) ?hr ?_; (case hd => rfl); (case hg => rfl); (case hr => exact TS); intro gb181 hg w102 hbox hb; have BK181 := Aside0.mk (hbox); have GW181 := Aside0.mk ((TG : w.heap.size ≤ gb181)); have GE181 := Aside0.mk ((TG : w.heap.size ≤ gb181)); replace HB := Aside0.mk (below_step TB hb); clear hb hbox hg) | ((with_reducible refine gate_dst (N := 3) rfl ?_); (try (refine gate_guard (by rfl) ?_; dsimp only)); refine box_event ?hg (N := 3) ?hd (cs := #[.int .i64 a1_0, .int .i64 a1_1, .int .i64 a1_2]) (t := 25) ?hr ?_; (case hd => rfl); (case hg => rfl); (case hr => exact TS); intro gb182 hg w103 hbox hb; have BK182 := Aside0.mk (hbox); have GW182 := Aside0.mk ((TG1 GE181.out : w.heap.size ≤ gb182)); have GE182 := Aside0.mk ((TG1 GE181.out : w.heap.size ≤ gb182)); have NB181_182 := Aside0.mk ((by rw [hg]; exact Nat.ne_of_lt (blk_lt (g := gb181) (o := .cells #[.int .i64 a0_0, .slice A0_1 l0_1.length c0_1] 24 (0, 0)) (by (with_reducible repeat (first | refine blk_drewN ?_ _ | refine blk_drew ?_ | refine blk_alloc ?_ _)); exact BK181.out)) : gb181 ≠ gb182)); have NB182_181 := Aside0.mk ((by rw [hg]; exact Nat.ne_of_gt (blk_lt (g := gb181) (o := .cells #[.int .i64 a0_0, .slice A0_1 l0_1.length c0_1] 24 (0, 0)) (by (with_reducible repeat (first | refine blk_drewN ?_ _ | refine blk_drew ?_ | refine blk_alloc ?_ _)); exact BK181.out)) : gb182 ≠ gb181)); replace BK181 := Aside0.mk (blk_below (g := gb181) (o := .cells #[.int .i64 a0_0, .slice A0_1 l0_1.length c0_1] 24 (0, 0)) (by (with_reducible repeat (first | refine blk_drewN ?_ _ | refine blk_drew ?_ | refine blk_alloc ?_ _)); exact BK181.out) hb); replace HB := Aside0.mk (below_step (TB1 GE181.out) hb); clear hb hbox hg; have hnb104 := NB181_182.out; have hnc104 := NB182_181.out; have hcz105_0 := czz BK181.out 0; have hcz105_1 := czz BK181.out 1; have hfz105_0 := fz BK181.out 0; have hfz105_1 := fz BK181.out 1) | ((with_reducible refine gate_callee (f := 39) rfl ?_); refine goesL_ (some 25) rfl rfl Tryd.func39 (by kernel_rfl) rfl #[.agg #[.int .i64 a0_0, .slice A0_1 l0_1.length c0_1]] rfl TM ?_; (with_reducible refine (saronlaw05_sound.calls k a0_0 _ _ l0_1 true _ ?side1 ?side2 A3.out).mono ?_); (case side1 => exact TC HR0_1.out); (case side2 => exact HC0_1.out); rintro e w106 ⟨rfl, hb⟩; refine ⟨_, rfl, ?_⟩; replace BK181 := Aside0.mk (blk_below (g := gb181) (o := .cells #[.int .i64 a0_0, .slice A0_1 l0_1.length c0_1] 24 (0, 0)) (by (with_reducible repeat (first | refine blk_drewN ?_ _ | refine blk_drew ?_ | refine blk_alloc ?_ _)); exact BK181.out) hb); replace BK182 := Aside0.mk (blk_below (g := gb182) (o := .cells #[.int .i64 a1_0, .int .i64 a1_1, .int .i64 a1_2] 25 (0, 0)) (by (with_reducible repeat (first | refine blk_drewN ?_ _ | refine blk_drew ?_ | refine blk_alloc ?_ _)); exact BK182.out) hb); replace HB := Aside0.mk (below_step (TB2 GE181.out GE182.out) hb); (try clear hb); (try clear hb2); (try clear hk); (try clear hi)))
       have n0_ := Aside0.mk (blk_drew BK181.out)
       have n1_ := Aside0.mk (blk_drew BK182.out)
       have n2_ := Aside0.mk (below_drew1 HB.out)
       clear BK181
       clear BK182
       clear HB
       have BK181 := n0_
       have BK182 := n1_
       have HB := n2_
       clear n0_ n1_ n2_
       refine start_ (n := 17) (S := fun w' => w'.cell? ⟨gb182, 0, none⟩ = some (.int .i64 a1_0) ∧ w'.cell? ⟨gb182, 1, none⟩ = some (.int .i64 a1_1) ∧ w'.cell? ⟨gb182, 2, none⟩ = some (.int .i64 a1_2) ∧ w'.cell? ⟨gb181, 0, none⟩ = some (.int .i64 a0_0) ∧ w'.cell? ⟨gb181, 1, none⟩ = some (.slice A0_1 l0_1.length c0_1)) (ds := []) (.replicate 17 false) (by kernel_rfl) rfl rfl ⟨czz BK182.out 0, czz BK182.out 1, czz BK182.out 2, czz BK181.out 0, czz BK181.out 1⟩ (fun hHeld => ?_); refine with_tabW saronlaw05_CycleNext.tab3 saronlaw05_CycleNext.bits3 (fun HT_ HW_ => ?_)
       generalize w106.drew = w107 at BK181 BK182 HB hHeld ⊢
       refine pT 0 28 (bt 17 1) (k := ?_)
       refine pT 2 30 (bt 17 5) (k := ?_)
       refine pT 6 34 (bt 17 69) (k := ?_)
       refine pT 8 36 (bt 17 325) (k := ?_)
       refine pT 11 39 (bt 17 2373) (k := ?_)
       refine tT5 1 29 (bt 17 2375) hHeld (k := ?_)
       refine tT5 3 31 (bt 17 2383) hHeld (k := ?_)
       refine pT 4 32 (bt 17 2399) (k := ?_)
       refine tT5 7 35 (bt 17 2527) hHeld (k := ?_)
       refine tT5 9 37 (bt 17 3039) hHeld (k := ?_)
       refine tT5 12 40 (bt 17 7135) hHeld (k := ?_)
       refine one_ (i := 5) (N := some 33) (bt 17 7167) rfl rfl (one_of HT_.out (by kernel_rfl)) (by decide) (fun K hK => ?_)
       refine goes_ Tryd.func40 (by kernel_rfl) rfl #[.int .i64 a1_0, .int .i64 (l0_1.length : Int)] (by rfl) rfl rfl TM ?_
       with_reducible refine (saronref00_Turn.calls a1_0 (l0_1.length : Int) t185 _ A5.out).mono ?_
       rintro e w' ⟨rfl, ⟨nd, rfl⟩⟩
       refine ⟨_, rfl, ?_⟩
       refine hK.out _ _ ⟨czz BK182.out 0, czz BK182.out 1, czz BK182.out 2, czz BK181.out 0, czz BK181.out 1⟩ (fun hHeld => ?_)
       clear hK K
       refine norm_ (a' := ?_) ?_ ?_
       rotate_left
       ·show Act.put _ (some 33) _ = _
        simp only [Act.put, lA, lZ, lS, i64_w, i32_w]
        rfl
       refine one_ (i := 10) (N := some 38) (bt 17 8191) rfl rfl (one_of HT_.out (by kernel_rfl)) (by decide) (fun K hK => ?_)
       refine goes_ Tryd.func40 (by kernel_rfl) rfl #[.int .i64 a1_1, .int .i64 a0_0] (by rfl) rfl rfl TM ?_
       with_reducible refine (saronref00_Turn.calls a1_1 a0_0 t186 _ A6.out).mono ?_
       rintro e w' ⟨rfl, ⟨nd, rfl⟩⟩
       refine ⟨_, rfl, ?_⟩
       refine hK.out _ _ ⟨czz BK182.out 0, czz BK182.out 1, czz BK182.out 2, czz BK181.out 0, czz BK181.out 1⟩ (fun hHeld => ?_)
       clear hK K
       refine norm_ (a' := ?_) ?_ ?_
       rotate_left
       ·show Act.put _ (some 38) _ = _
        simp only [Act.put, lA, lZ, lS, i64_w, i32_w]
        rfl
       refine one_ (i := 13) (N := some 41) (bt 17 16383) rfl rfl (one_of HT_.out (by kernel_rfl)) (by decide) (fun K hK => ?_)
       refine goes_ Tryd.func40 (by kernel_rfl) rfl #[.int .i64 a1_2, .int .i64 1000] (by rfl) rfl rfl TM ?_
       with_reducible refine (saronref00_Turn.calls a1_2 1000 t187 _ A7.out).mono ?_
       rintro e w' ⟨rfl, ⟨nd, rfl⟩⟩
       refine ⟨_, rfl, ?_⟩
       refine hK.out _ _ ⟨czz BK182.out 0, czz BK182.out 1, czz BK182.out 2, czz BK181.out 0, czz BK181.out 1⟩ (fun hHeld => ?_)
       clear hK K
       refine norm_ (a' := ?_) ?_ ?_
       rotate_left
       ·show Act.put _ (some 41) _ = _
        simp only [Act.put, lA, lZ, lS, i64_w, i32_w]
        rfl
       refine pT 14 5 (bt 17 32767) (k := ?_)
       refine pT 15 6 (bt 17 65535) (k := ?_)
       refine pT 16 7 (bt 17 131071) (k := ?_)
       refine done_ (done_of HT_.out (by kernel_rfl)) ?_
       have hcz108_0 := czz BK181.out 0
       have hcz108_1 := czz BK181.out 1
       have hfz108_0 := fz BK181.out 0
       have hfz108_1 := fz BK181.out 1
       have p188 : 0 ≤ (t185 : Int) := of_decide_eq_true TA
       have q188 : t185 < (l0_1.length : Int) := of_decide_eq_true TA
       obtain ⟨ad188, A188_1, c188_1, e188, hx188_0, hx188_1, hl188_1, hi188_1⟩ := at_T63 HR0_1.out t185 p188 q188
       cases e188
       replace hx188_0 := (HB.out.cell  (World.block_lt_of_cell? w _ hx188_0)).trans hx188_0
       replace hx188_1 := (HB.out.cell  (World.block_lt_of_cell? w _ hx188_1)).trans hx188_1
       have HR188_1 := Aside0.mk hi188_1
       have HC188_1 := Aside0.mk hl188_1
       clear hi188_1 hl188_1
       replace p188 := eq_true p188
       replace q188 := eq_true q188
       go_upto_region 9 with (first | ((with_reducible refine gate_dst (N := 8) rfl ?_); (try (refine gate_guard (by rfl) ?_; dsimp only)); refine box_event ?hg (N := 8) ?hd (cs := #[.int .i64 0, .slice none 0 0]) (t := 63) ?hr ?_; (case hd => rfl); (case hg => rfl); (case hr => exact TS); intro gb189 hg w109 hbox hb; have BK189 := Aside0.mk (hbox); have GW189 := Aside0.mk ((TG2 GE181.out GE182.out : w.heap.size ≤ gb189)); have GE189 := Aside0.mk ((TG2 GE181.out GE182.out : w.heap.size ≤ gb189)); have NB181_189 := Aside0.mk ((by rw [hg]; exact Nat.ne_of_lt (blk_lt (g := gb181) (o := .cells #[.int .i64 a0_0, .slice (some ad188) l0_1.length c0_1] 24 (0, 0)) (by (with_reducible repeat (first | refine blk_drewN ?_ _ | refine blk_drew ?_ | refine blk_alloc ?_ _)); exact BK181.out)) : gb181 ≠ gb189)); have NB189_181 := Aside0.mk ((by rw [hg]; exact Nat.ne_of_gt (blk_lt (g := gb181) (o := .cells #[.int .i64 a0_0, .slice (some ad188) l0_1.length c0_1] 24 (0, 0)) (by (with_reducible repeat (first | refine blk_drewN ?_ _ | refine blk_drew ?_ | refine blk_alloc ?_ _)); exact BK181.out)) : gb189 ≠ gb181)); have NB182_189 := Aside0.mk ((by rw [hg]; exact Nat.ne_of_lt (blk_lt (g := gb182) (o := .cells #[.int .i64 a1_0, .int .i64 a1_1, .int .i64 a1_2] 25 (0, 0)) (by (with_reducible repeat (first | refine blk_drewN ?_ _ | refine blk_drew ?_ | refine blk_alloc ?_ _)); exact BK182.out)) : gb182 ≠ gb189)); have NB189_182 := Aside0.mk ((by rw [hg]; exact Nat.ne_of_gt (blk_lt (g := gb182) (o := .cells #[.int .i64 a1_0, .int .i64 a1_1, .int .i64 a1_2] 25 (0, 0)) (by (with_reducible repeat (first | refine blk_drewN ?_ _ | refine blk_drew ?_ | refine blk_alloc ?_ _)); exact BK182.out)) : gb189 ≠ gb182)); replace BK181 := Aside0.mk (blk_below (g := gb181) (o := .cells #[.int .i64 a0_0, .slice (some ad188) l0_1.length c0_1] 24 (0, 0)) (by (with_reducible repeat (first | refine blk_drewN ?_ _ | refine blk_drew ?_ | refine blk_alloc ?_ _)); exact BK181.out) hb); replace BK182 := Aside0.mk (blk_below (g := gb182) (o := .cells #[.int .i64 a1_0, .int .i64 a1_1, .int .i64 a1_2] 25 (0, 0)) (by (with_reducible repeat (first | refine blk_drewN ?_ _ | refine blk_drew ?_ | refine blk_alloc ?_ _)); exact BK182.out) hb); replace HB := Aside0.mk (below_step (TB2 GE181.out GE182.out) hb); clear hb hbox hg; have hnb110 := NB189_181.out; have hnc110 := NB181_189.out; have hnb111 := NB189_182.out; have hnc111 := NB182_189.out; have hcz112_0 := czz BK189.out 0; have hcz112_1 := czz BK189.out 1; have hfz112_0 := fz BK189.out 0; have hfz112_1 := fz BK189.out 1; have hcz113_0 := czz BK181.out 0; have hcz113_1 := czz BK181.out 1; have hfz113_0 := fz BK181.out 0; have hfz113_1 := fz BK181.out 1) | ((with_reducible refine gate_callee (f := 19) rfl ?_); refine goesL_ (some 52) rfl rfl Tryd.func19 (by kernel_rfl) rfl #[.agg #[.int .i64 a0_0, .slice (some ad188) l0_1.length c0_1], .int .i64 t185, .int .i64 t186, .int .i64 t187] rfl TM ?_; (with_reducible refine (cycle_Next.calls a0_0 _ _ l0_1 t185 t186 t187 t190 t191 _ ?side1 ?side2 ?side3 A10.out).mono ?_); (case side1 => exact Kd.C_below HR0_1.out (TB3 GE181.out GE182.out GE189.out)); (case side2 => exact HC0_1.out); (case side3 => exact Glob.fr HG.out (Fr.of_below (TB3 GE181.out GE182.out GE189.out))); rintro e w114 ⟨rfl, hb⟩; refine ⟨_, rfl, ?_⟩; replace BK181 := Aside0.mk (blk_below (g := gb181) (o := .cells #[.int .i64 a0_0, .slice (some ad188) l0_1.length c0_1] 24 (0, 0)) (by (with_reducible repeat (first | refine blk_drewN ?_ _ | refine blk_drew ?_ | refine blk_alloc ?_ _)); refine blk_far ?_ NB181_189.out _; (with_reducible repeat (first | refine blk_drewN ?_ _ | refine blk_drew ?_ | refine blk_alloc ?_ _)); refine blk_far ?_ NB181_189.out _; (with_reducible repeat (first | refine blk_drewN ?_ _ | refine blk_drew ?_ | refine blk_alloc ?_ _)); exact BK181.out) hb); replace BK182 := Aside0.mk (blk_below (g := gb182) (o := .cells #[.int .i64 a1_0, .int .i64 a1_1, .int .i64 a1_2] 25 (0, 0)) (by (with_reducible repeat (first | refine blk_drewN ?_ _ | refine blk_drew ?_ | refine blk_alloc ?_ _)); refine blk_far ?_ NB182_189.out _; (with_reducible repeat (first | refine blk_drewN ?_ _ | refine blk_drew ?_ | refine blk_alloc ?_ _)); refine blk_far ?_ NB182_189.out _; (with_reducible repeat (first | refine blk_drewN ?_ _ | refine blk_drew ?_ | refine blk_alloc ?_ _)); exact BK182.out) hb); replace BK189 := Aside0.mk (blk_below (g := gb189) (o := .cells #[.int .i64 ((rd_T63 l0_1 t185).f0), .slice A188_1 ((rd_T63 l0_1 t185).f1).length c188_1] 63 (0, 0)) (by (with_reducible repeat (first | refine blk_drewN ?_ _ | refine blk_drew ?_ | refine blk_alloc ?_ _)); refine blk_put (cs := #[.int .i64 ((rd_T63 l0_1 t185).f0), .slice none 0 0]) ?_ 1 _ rfl; (with_reducible repeat (first | refine blk_drewN ?_ _ | refine blk_drew ?_ | refine blk_alloc ?_ _)); refine blk_put (cs := #[.int .i64 0, .slice none 0 0]) ?_ 0 _ rfl; (with_reducible repeat (first | refine blk_drewN ?_ _ | refine blk_drew ?_ | refine blk_alloc ?_ _)); exact BK189.out) hb); replace HB := Aside0.mk (below_step (TB3 GE181.out GE182.out GE189.out) hb); (try clear hb); (try clear hb2); (try clear hk); (try clear hi); have hcz115_0 := czz BK181.out 0; have hcz115_1 := czz BK181.out 1; have hfz115_0 := fz BK181.out 0; have hfz115_1 := fz BK181.out 1) | ((with_reducible refine gate_callee (f := 21) rfl ?_); refine goesL_ (some 59) rfl rfl Tryd.func21 (by kernel_rfl) rfl #[.agg #[.int .i64 a0_0, .slice (some ad188) l0_1.length c0_1], .int .i64 t185, .int .i64 t186] rfl TM ?_; (with_reducible refine (cycle_Even.calls a0_0 _ _ l0_1 t185 t186 t192 t193 _ ?side1 ?side2 ?side3 A11.out).mono ?_); (case side1 => exact TC HR0_1.out); (case side2 => exact HC0_1.out); (case side3 => exact Glob.fr HG.out (Fr.of_below (TB3 GE181.out GE182.out GE189.out))); rintro e w116 ⟨rfl, hb⟩; refine ⟨_, rfl, ?_⟩; replace BK181 := Aside0.mk (blk_below (g := gb181) (o := .cells #[.int .i64 a0_0, .slice (some ad188) l0_1.length c0_1] 24 (0, 0)) (by (with_reducible repeat (first | refine blk_drewN ?_ _ | refine blk_drew ?_ | refine blk_alloc ?_ _)); exact BK181.out) hb); replace BK182 := Aside0.mk (blk_below (g := gb182) (o := .cells #[.int .i64 a1_0, .int .i64 a1_1, .int .i64 a1_2] 25 (0, 0)) (by (with_reducible repeat (first | refine blk_drewN ?_ _ | refine blk_drew ?_ | refine blk_alloc ?_ _)); exact BK182.out) hb); replace BK189 := Aside0.mk (blk_below (g := gb189) (o := .cells #[.int .i64 ((rd_T63 l0_1 t185).f0), .slice A188_1 ((rd_T63 l0_1 t185).f1).length c188_1] 63 (0, 0)) (by (with_reducible repeat (first | refine blk_drewN ?_ _ | refine blk_drew ?_ | refine blk_alloc ?_ _)); exact BK189.out) hb); replace HB := Aside0.mk (below_step (TB3 GE181.out GE182.out GE189.out) hb); (try clear hb); (try clear hb2); (try clear hk); (try clear hi); have hcz117_0 := czz BK189.out 0; have hcz117_1 := czz BK189.out 1; have hfz117_0 := fz BK189.out 0; have hfz117_1 := fz BK189.out 1; have p194 : 0 ≤ (t186 : Int) := of_decide_eq_true TA; have q194 : t186 < (((rd_T63 l0_1 t185).f1).length : Int) := of_decide_eq_true TA; obtain ⟨ad194, A194_0, c194_0, e194, hx194_0, hl194_0, hi194_0⟩ := at_L1 HR188_1.out t186 p194 q194; cases e194; replace hx194_0 := (HB.out.cell  (World.block_lt_of_cell? w _ hx194_0)).trans hx194_0; have HR194_0 := Aside0.mk hi194_0; have HC194_0 := Aside0.mk hl194_0; clear hi194_0 hl194_0; replace p194 := eq_true p194; replace q194 := eq_true q194))
       (try simp only [Act.put, lA, lZ, lS])
       go_cut [98] (fun v98 wc => ∃ (kq : Nat) (x98_100 : Bool), v98 = .bool x98_100 ∧ Aside0 (saronlaw05_CycleNext.j0 kq t185 t186 t187 t190 t192 t193 x98_100 a0_0 l0_1 ((rd_T63 l0_1 t185).f0) ((rd_T63 l0_1 t185).f1) = some r) ∧ Aside0 (kq ≤ k) ∧ Aside0 (wc.heap[gb181]? = some (.cells #[.int .i64 a0_0, (.slice (some ad188) l0_1.length c0_1)] 24 (0, 0))) ∧ Aside0 (wc.heap[gb182]? = some (.cells #[.int .i64 a1_0, .int .i64 a1_1, .int .i64 a1_2] 25 (0, 0))) ∧ Aside0 (wc.heap[gb189]? = some (.cells #[.int .i64 ((rd_T63 l0_1 t185).f0), (.slice (some ad194) ((rd_T63 l0_1 t185).f1).length c188_1)] 63 (0, 0))) ∧ Aside0 (Below w.heap.size w wc))
       case first => as_aux_lemma =>
        have H := HC101.out
        clear HC101
        by_cases c118 : t191 = 0
        ·rw [if_pos c118] at H
         have c118b0 : (t191 == 0) = true := beq_iff_eq.mpr c118
         have c118b1 : (t191 != 0) = false := bne_eq_false_iff_eq.mpr c118
         clear c118
         (first | rw [c118b0] | (simp only [i64_w, i32_w]; rw [c118b0]) | skip)
         replace H := Option.bind_eq_some_iff.mp H
         obtain ⟨t196, A1190, H⟩ := H
         replace H : (saronlaw05_CycleNext.j0 k t185 t186 t187 t190 t192 t193 (!t196) a0_0 l0_1 ((rd_T63 l0_1 t185).f0) ((rd_T63 l0_1 t185).f1)) = some r := H
         have A119 := Aside0.mk A1190
         clear A1190
         have H' := Aside0.mk H
         clear H
         have hnb120 := NB189_181.out
         have hnc120 := NB181_189.out
         have hnb121 := NB189_182.out
         have hnc121 := NB182_189.out
         have hcz122_0 := czz BK189.out 0
         have hcz122_1 := czz BK189.out 1
         have hfz122_0 := fz BK189.out 0
         have hfz122_1 := fz BK189.out 1
         go_wp2_with (first | (go_at_call 43; (with_reducible refine (saronref00_Sits.calls t190 t187 (wrap64 ((wrap64 (t187 + ((rd_T63 l0_1 t185).f0))) - 1)) t196 _ A119.out).mono ?_); rintro e w' ⟨rfl, ⟨nd, rfl⟩⟩))
         go_meet
         case rel => exact ⟨_, (!t196), TT, H', ⟨by first | omega | exact Nat.le_refl _⟩, ⟨by (with_reducible repeat (first | refine blk_drewN ?_ _ | refine blk_drew ?_ | refine blk_alloc ?_ _)); exact BK181.out⟩, ⟨by (with_reducible repeat (first | refine blk_drewN ?_ _ | refine blk_drew ?_ | refine blk_alloc ?_ _)); exact BK182.out⟩, ⟨by (with_reducible repeat (first | refine blk_drewN ?_ _ | refine blk_drew ?_ | refine blk_alloc ?_ _)); exact BK189.out⟩, ⟨TB3 GE181.out GE182.out GE189.out⟩⟩
        ·rw [if_neg c118] at H
         have c118b0 : (t191 == 0) = false := beq_eq_false_iff_ne.mpr c118
         have c118b1 : (t191 != 0) = true := bne_iff_ne.mpr c118
         (first | rw [c118b0] | (simp only [i64_w, i32_w]; rw [c118b0]) | skip)
         have H' := Aside0.mk H
         clear H
         go_wp2
         go_meet
         case rel => exact ⟨_, (true), TT, H', ⟨by first | omega | exact Nat.le_refl _⟩, ⟨by (with_reducible repeat (first | refine blk_drewN ?_ _ | refine blk_drew ?_ | refine blk_alloc ?_ _)); exact BK181.out⟩, ⟨by (with_reducible repeat (first | refine blk_drewN ?_ _ | refine blk_drew ?_ | refine blk_alloc ?_ _)); exact BK182.out⟩, ⟨by (with_reducible repeat (first | refine blk_drewN ?_ _ | refine blk_drew ?_ | refine blk_alloc ?_ _)); exact BK189.out⟩, ⟨TB3 GE181.out GE182.out GE189.out⟩⟩
       case rest => as_aux_lemma =>
        clear HC101
        try clear c1
        try clear p1
        try clear q1
        try clear hx1
        try clear c2
        try clear p2
        try clear c3
        try clear c4
        try clear c6
        try clear p6
        try clear c7
        try clear c8
        try clear c9
        try clear c10
        try clear c11
        try clear c12
        try clear c14
        try clear c14b0
        try clear c14b1
        try clear c14b2
        try clear c15
        try clear c15b0
        try clear c15b1
        try clear c16
        try clear c16b0
        try clear c16b1
        try clear c18
        try clear p18
        try clear q18
        try clear hx18
        try clear c19
        try clear p19
        try clear q19
        try clear hx19
        try clear c21
        try clear c39
        try clear c40
        try clear c61
        try clear c62
        try clear p64
        try clear c71
        try clear c77
        try clear c78
        try clear c87
        try clear c93
        try clear c94
        try clear c104
        try clear c110
        try clear c111
        try clear c118
        try clear c118b0
        try clear c118b1
        try clear c120
        try clear c121
        try clear hcz100_0 hcz100_1
        try clear hcz105_0 hcz105_1
        try clear hcz108_0 hcz108_1
        try clear hcz112_0 hcz112_1
        try clear hcz113_0 hcz113_1
        try clear hcz115_0 hcz115_1
        try clear hcz117_0 hcz117_1
        try clear hcz122_0 hcz122_1
        try clear hcz63_0 hcz63_1
        try clear hcz64_0 hcz64_1
        try clear hcz66_0 hcz66_1
        try clear hcz68_0 hcz68_1
        try clear hcz72_0 hcz72_1
        try clear hcz75_0 hcz75_1
        try clear hcz79_0 hcz79_1
        try clear hcz80_0 hcz80_1
        try clear hcz82_0 hcz82_1
        try clear hcz84_0 hcz84_1
        try clear hcz88_0 hcz88_1
        try clear hcz91_0 hcz91_1
        try clear hcz95_0 hcz95_1
        try clear hcz96_0 hcz96_1
        try clear hcz98_0 hcz98_1
        try clear hfz100_0 hfz100_1
        try clear hfz105_0 hfz105_1
        try clear hfz108_0 hfz108_1
        try clear hfz112_0 hfz112_1
        try clear hfz113_0 hfz113_1
        try clear hfz115_0 hfz115_1
        try clear hfz117_0 hfz117_1
        try clear hfz122_0 hfz122_1
        try clear hfz63_0 hfz63_1
        try clear hfz64_0 hfz64_1
        try clear hfz66_0 hfz66_1
        try clear hfz68_0 hfz68_1
        try clear hfz72_0 hfz72_1
        try clear hfz75_0 hfz75_1
        try clear hfz79_0 hfz79_1
        try clear hfz80_0 hfz80_1
        try clear hfz82_0 hfz82_1
        try clear hfz84_0 hfz84_1
        try clear hfz88_0 hfz88_1
        try clear hfz91_0 hfz91_1
        try clear hfz95_0 hfz95_1
        try clear hfz96_0 hfz96_1
        try clear hfz98_0 hfz98_1
        try clear hx188_0
        try clear hx188_1
        try clear hx194_0
        try clear p188
        try clear p194
        try clear q188
        try clear q194
        try clear BK181
        try clear BK182
        try clear BK189
        try clear HB
        obtain ⟨kq, x98_100, rfl, HA, HJ100, BK181, BK182, BK189, HB⟩ := hcut
        cases kq with
        | zero => exact absurd HA.out (by simp [saronlaw05_CycleNext.j0])
        | succ kj100 =>
         have H := HA.out
         clear HA
         simp only [saronlaw05_CycleNext.j0] at H
         by_cases c123 : x98_100 = true
         ·subst c123
          have H1 : (some false) = some r := by rw [if_pos rfl] at H; exact H
          clear H
          have H := H1
          clear H1
          obtain rfl := Option.some.inj H
          go_wp2
          go_ret
          exact ⟨TR, TB3 GE181.out GE182.out GE189.out⟩
         ·replace c123 := Bool.eq_false_iff.mpr c123
          subst c123
          have H1 : (saronlaw05_CycleNext.l0 kj100 t185 t186 t190 t192 t193 t187 a0_0 l0_1 ((rd_T63 l0_1 t185).f0) ((rd_T63 l0_1 t185).f1)) = some r := by rw [if_neg (show ¬ (false = true) by decide)] at H; exact H
          clear H
          have H := H1
          clear H1
          have H' := Aside0.mk H
          clear H
          go_wp2
          go_loopg [13] kj100 (fun kq v13 w' => ∃ (x13_2 : Int), v13 = .int .i64 x13_2 ∧ Aside0 (saronlaw05_CycleNext.l0 kq t185 t186 t190 t192 t193 x13_2 a0_0 l0_1 ((rd_T63 l0_1 t185).f0) ((rd_T63 l0_1 t185).f1) = some r) ∧ Aside0 (kq ≤ kj100) ∧ Aside0 (w'.heap[gb181]? = some (.cells #[.int .i64 a0_0, (.slice (some ad188) l0_1.length c0_1)] 24 (0, 0))) ∧ Aside0 (w'.heap[gb182]? = some (.cells #[.int .i64 a1_0, .int .i64 a1_1, .int .i64 a1_2] 25 (0, 0))) ∧ Aside0 (w'.heap[gb189]? = some (.cells #[.int .i64 ((rd_T63 l0_1 t185).f0), (.slice (some ad194) ((rd_T63 l0_1 t185).f1).length c188_1)] 63 (0, 0))) ∧ Aside0 (Below w.heap.size w w'))
          case atStart => exact ⟨(t187), TT, H', ⟨Nat.le_refl _⟩, ⟨by (with_reducible repeat (first | refine blk_drewN ?_ _ | refine blk_drew ?_ | refine blk_alloc ?_ _)); exact BK181.out⟩, ⟨by (with_reducible repeat (first | refine blk_drewN ?_ _ | refine blk_drew ?_ | refine blk_alloc ?_ _)); exact BK182.out⟩, ⟨by (with_reducible repeat (first | refine blk_drewN ?_ _ | refine blk_drew ?_ | refine blk_alloc ?_ _)); exact BK189.out⟩, ⟨TB3 GE181.out GE182.out GE189.out⟩⟩
          case round => as_aux_lemma =>
           clear H'
           try clear c1
           try clear p1
           try clear q1
           try clear hx1
           try clear c2
           try clear p2
           try clear c3
           try clear c4
           try clear c6
           try clear p6
           try clear c7
           try clear c8
           try clear c9
           try clear c10
           try clear c11
           try clear c12
           try clear c14
           try clear c14b0
           try clear c14b1
           try clear c14b2
           try clear c15
           try clear c15b0
           try clear c15b1
           try clear c16
           try clear c16b0
           try clear c16b1
           try clear c18
           try clear p18
           try clear q18
           try clear hx18
           try clear c19
           try clear p19
           try clear q19
           try clear hx19
           try clear c21
           try clear c39
           try clear c40
           try clear c61
           try clear c62
           try clear p64
           try clear c71
           try clear c77
           try clear c78
           try clear c87
           try clear c93
           try clear c94
           try clear c104
           try clear c110
           try clear c111
           try clear c118
           try clear c118b0
           try clear c118b1
           try clear c120
           try clear c121
           try clear c123
           try clear hcz100_0 hcz100_1
           try clear hcz105_0 hcz105_1
           try clear hcz108_0 hcz108_1
           try clear hcz112_0 hcz112_1
           try clear hcz113_0 hcz113_1
           try clear hcz115_0 hcz115_1
           try clear hcz117_0 hcz117_1
           try clear hcz122_0 hcz122_1
           try clear hcz63_0 hcz63_1
           try clear hcz64_0 hcz64_1
           try clear hcz66_0 hcz66_1
           try clear hcz68_0 hcz68_1
           try clear hcz72_0 hcz72_1
           try clear hcz75_0 hcz75_1
           try clear hcz79_0 hcz79_1
           try clear hcz80_0 hcz80_1
           try clear hcz82_0 hcz82_1
           try clear hcz84_0 hcz84_1
           try clear hcz88_0 hcz88_1
           try clear hcz91_0 hcz91_1
           try clear hcz95_0 hcz95_1
           try clear hcz96_0 hcz96_1
           try clear hcz98_0 hcz98_1
           try clear hfz100_0 hfz100_1
           try clear hfz105_0 hfz105_1
           try clear hfz108_0 hfz108_1
           try clear hfz112_0 hfz112_1
           try clear hfz113_0 hfz113_1
           try clear hfz115_0 hfz115_1
           try clear hfz117_0 hfz117_1
           try clear hfz122_0 hfz122_1
           try clear hfz63_0 hfz63_1
           try clear hfz64_0 hfz64_1
           try clear hfz66_0 hfz66_1
           try clear hfz68_0 hfz68_1
           try clear hfz72_0 hfz72_1
           try clear hfz75_0 hfz75_1
           try clear hfz79_0 hfz79_1
           try clear hfz80_0 hfz80_1
           try clear hfz82_0 hfz82_1
           try clear hfz84_0 hfz84_1
           try clear hfz88_0 hfz88_1
           try clear hfz91_0 hfz91_1
           try clear hfz95_0 hfz95_1
           try clear hfz96_0 hfz96_1
           try clear hfz98_0 hfz98_1
           try clear hx188_0
           try clear hx188_1
           try clear hx194_0
           try clear p1
           try clear p18
           try clear p188
           try clear p19
           try clear p194
           try clear p2
           try clear p6
           try clear p64
           try clear q1
           try clear q18
           try clear q188
           try clear q19
           try clear q194
           obtain ⟨x13_2, rfl, HA, HK2, BK181, BK182, BK189, HB⟩ := hrel
           cases gk with
           | zero => exact absurd HA.out (by simp [saronlaw05_CycleNext.l0])
           | succ k2 =>
            have H := HA.out
            clear HA
            simp only [saronlaw05_CycleNext.l0] at H
            by_cases c124 : x13_2 ≤ t190
            ·rw [if_pos c124] at H
             have c124b0 : decide (x13_2 ≤ t190) = true := decide_eq_true c124
             clear c124
             replace H := Option.bind_eq_some_iff.mp H
             obtain ⟨⟨t197, t200⟩, A1250, H⟩ := H
             replace H : (if t200 = 0 then ((saronref00_Where.f k2 t197 t186).bind fun t201 => (if ((decide (t201 ≥ 0)) != (x13_2 == t190)) = true then (some false) else (saronlaw05_CycleNext.l0 k2 t185 t186 t190 t192 t193 (wrap64 (x13_2 + 1)) a0_0 l0_1 ((rd_T63 l0_1 t185).f0) ((rd_T63 l0_1 t185).f1)))) else (some false)) = some r := H
             have A125 := Aside0.mk A1250
             clear A1250
             by_cases c126 : t200 = 0
             ·rw [if_pos c126] at H
              have c126b0 : (t200 == 0) = true := beq_iff_eq.mpr c126
              have c126b1 : (t200 != 0) = false := bne_eq_false_iff_eq.mpr c126
              clear c126
              replace H := Option.bind_eq_some_iff.mp H
              obtain ⟨t201, A1270, H⟩ := H
              replace H : (if ((decide (t201 ≥ 0)) != (x13_2 == t190)) = true then (some false) else (saronlaw05_CycleNext.l0 k2 t185 t186 t190 t192 t193 (wrap64 (x13_2 + 1)) a0_0 l0_1 ((rd_T63 l0_1 t185).f0) ((rd_T63 l0_1 t185).f1))) = some r := H
              have A127 := Aside0.mk A1270
              clear A1270
              by_cases c128 : ((decide (t201 ≥ 0)) != (x13_2 == t190)) = true
              ·rw [if_pos c128] at H
               have c128b0 : ((decide (t201 ≥ 0)) != (x13_2 == t190)) = true := c128
               (try (have c128b1 : decide ((decide (t201 ≥ 0)) = (x13_2 == t190)) = false := by simpa using c128))
               (try (have c128b2 : ((decide (t201 ≥ 0)) == (x13_2 == t190)) = false := by simpa using c128))
               (try (have c128b3 : ¬ ((decide (t201 ≥ 0)) = (x13_2 == t190)) := by simpa using c128))
               clear c128
               obtain rfl := Option.some.inj H
               have hnb129 := NB181_182.out
               have hnc129 := NB182_181.out
               have hnb130 := NB181_189.out
               have hnc130 := NB189_181.out
               have hcz131_0 := czz BK181.out 0
               have hcz131_1 := czz BK181.out 1
               have hfz131_0 := fz BK181.out 0
               have hfz131_1 := fz BK181.out 1
               go_wp2_with (first | ((with_reducible refine gate_callee (f := 14) rfl ?_); refine goesL_ (some 109) rfl rfl Tryd.func14 (by kernel_rfl) rfl #[.agg #[.int .i64 a0_0, .slice (some ad188) l0_1.length c0_1], .int .i64 t185, .int .i64 x13_2] rfl TM ?_; (with_reducible refine (cycle_Struck.calls a0_0 _ _ l0_1 t185 x13_2 t197 t200 _ ?side1 ?side2 ?side3 A125.out).mono ?_); (case side1 => exact TC HR0_1.out); (case side2 => exact HC0_1.out); (case side3 => exact Glob.fr HG.out (Fr.of_below (TB3 GE181.out GE182.out GE189.out))); rintro e w132 ⟨v198, rfl, ho0, hb⟩; refine ⟨_, rfl, ?_⟩; have HO199 := Aside0.mk (Kd.V_lower (Kd.V_mono (ok' := fun k_ => k_ ≠ gb181 ∧ k_ ≠ gb182 ∧ k_ ≠ gb189) ho0 (fun k_ hk_ => ⟨(Kd.freshB (g := gb181) (o := .cells #[.int .i64 a0_0, .slice (some ad188) l0_1.length c0_1] 24 (0, 0)) (by (with_reducible repeat (first | refine blk_drewN ?_ _ | refine blk_drew ?_ | refine blk_alloc ?_ _)); exact BK181.out) k_ hk_), (Kd.freshB (g := gb182) (o := .cells #[.int .i64 a1_0, .int .i64 a1_1, .int .i64 a1_2] 25 (0, 0)) (by (with_reducible repeat (first | refine blk_drewN ?_ _ | refine blk_drew ?_ | refine blk_alloc ?_ _)); exact BK182.out) k_ hk_), (Kd.freshB (g := gb189) (o := .cells #[.int .i64 ((rd_T63 l0_1 t185).f0), .slice (some ad194) ((rd_T63 l0_1 t185).f1).length c188_1] 63 (0, 0)) (by (with_reducible repeat (first | refine blk_drewN ?_ _ | refine blk_drew ?_ | refine blk_alloc ?_ _)); exact BK189.out) k_ hk_)⟩)) (below_size (TB3 GE181.out GE182.out GE189.out))); replace BK181 := Aside0.mk (blk_below (g := gb181) (o := .cells #[.int .i64 a0_0, .slice (some ad188) l0_1.length c0_1] 24 (0, 0)) (by (with_reducible repeat (first | refine blk_drewN ?_ _ | refine blk_drew ?_ | refine blk_alloc ?_ _)); exact BK181.out) hb); replace BK182 := Aside0.mk (blk_below (g := gb182) (o := .cells #[.int .i64 a1_0, .int .i64 a1_1, .int .i64 a1_2] 25 (0, 0)) (by (with_reducible repeat (first | refine blk_drewN ?_ _ | refine blk_drew ?_ | refine blk_alloc ?_ _)); exact BK182.out) hb); replace BK189 := Aside0.mk (blk_below (g := gb189) (o := .cells #[.int .i64 ((rd_T63 l0_1 t185).f0), .slice (some ad194) ((rd_T63 l0_1 t185).f1).length c188_1] 63 (0, 0)) (by (with_reducible repeat (first | refine blk_drewN ?_ _ | refine blk_drew ?_ | refine blk_alloc ?_ _)); exact BK189.out) hb); replace HB := Aside0.mk (below_step (TB3 GE181.out GE182.out GE189.out) hb); (try clear hb); (try clear hb2); (try clear hk); (try clear hi); (try clear ho0); obtain ⟨Ao133, co133, eo133⟩ := Kd.V_slice HO199.out; subst eo133) | (go_at_call 42; (with_reducible refine (saronref00_Where.calls k2 _ _ t197 t186 t201 _ ?side1 ?side2 A127.out).mono ?_); (case side1 => repeat (first | exact (Kd.V_reads' HO199.out).2.2 | (with_reducible refine Kd.C_alloc ?_ _) | (with_reducible refine Kd.C_drewN ?_ _) | (with_reducible refine Kd.C_drew ?_))); (case side2 => exact (Kd.V_reads' HO199.out).2.1); rintro e w' ⟨rfl, ⟨nd, rfl⟩⟩))
               go_ret
               exact ⟨TR, TB3 GE181.out GE182.out GE189.out⟩
              ·rw [if_neg c128] at H
               have c128b0 : ((decide (t201 ≥ 0)) != (x13_2 == t190)) = false := by simpa using c128
               (try (have c128b1 : decide ((decide (t201 ≥ 0)) = (x13_2 == t190)) = true := by simpa using c128))
               (try (have c128b2 : ((decide (t201 ≥ 0)) == (x13_2 == t190)) = true := by simpa using c128))
               clear c128
               have H' := Aside0.mk H
               clear H
               have hnb134 := NB181_182.out
               have hnc134 := NB182_181.out
               have hnb135 := NB181_189.out
               have hnc135 := NB189_181.out
               have hcz136_0 := czz BK181.out 0
               have hcz136_1 := czz BK181.out 1
               have hfz136_0 := fz BK181.out 0
               have hfz136_1 := fz BK181.out 1
               go_wp2_with (first | ((with_reducible refine gate_callee (f := 14) rfl ?_); refine goesL_ (some 109) rfl rfl Tryd.func14 (by kernel_rfl) rfl #[.agg #[.int .i64 a0_0, .slice (some ad188) l0_1.length c0_1], .int .i64 t185, .int .i64 x13_2] rfl TM ?_; (with_reducible refine (cycle_Struck.calls a0_0 _ _ l0_1 t185 x13_2 t197 t200 _ ?side1 ?side2 ?side3 A125.out).mono ?_); (case side1 => exact TC HR0_1.out); (case side2 => exact HC0_1.out); (case side3 => exact Glob.fr HG.out (Fr.of_below (TB3 GE181.out GE182.out GE189.out))); rintro e w137 ⟨v198, rfl, ho0, hb⟩; refine ⟨_, rfl, ?_⟩; have HO199 := Aside0.mk (Kd.V_lower (Kd.V_mono (ok' := fun k_ => k_ ≠ gb181 ∧ k_ ≠ gb182 ∧ k_ ≠ gb189) ho0 (fun k_ hk_ => ⟨(Kd.freshB (g := gb181) (o := .cells #[.int .i64 a0_0, .slice (some ad188) l0_1.length c0_1] 24 (0, 0)) (by (with_reducible repeat (first | refine blk_drewN ?_ _ | refine blk_drew ?_ | refine blk_alloc ?_ _)); exact BK181.out) k_ hk_), (Kd.freshB (g := gb182) (o := .cells #[.int .i64 a1_0, .int .i64 a1_1, .int .i64 a1_2] 25 (0, 0)) (by (with_reducible repeat (first | refine blk_drewN ?_ _ | refine blk_drew ?_ | refine blk_alloc ?_ _)); exact BK182.out) k_ hk_), (Kd.freshB (g := gb189) (o := .cells #[.int .i64 ((rd_T63 l0_1 t185).f0), .slice (some ad194) ((rd_T63 l0_1 t185).f1).length c188_1] 63 (0, 0)) (by (with_reducible repeat (first | refine blk_drewN ?_ _ | refine blk_drew ?_ | refine blk_alloc ?_ _)); exact BK189.out) k_ hk_)⟩)) (below_size (TB3 GE181.out GE182.out GE189.out))); replace BK181 := Aside0.mk (blk_below (g := gb181) (o := .cells #[.int .i64 a0_0, .slice (some ad188) l0_1.length c0_1] 24 (0, 0)) (by (with_reducible repeat (first | refine blk_drewN ?_ _ | refine blk_drew ?_ | refine blk_alloc ?_ _)); exact BK181.out) hb); replace BK182 := Aside0.mk (blk_below (g := gb182) (o := .cells #[.int .i64 a1_0, .int .i64 a1_1, .int .i64 a1_2] 25 (0, 0)) (by (with_reducible repeat (first | refine blk_drewN ?_ _ | refine blk_drew ?_ | refine blk_alloc ?_ _)); exact BK182.out) hb); replace BK189 := Aside0.mk (blk_below (g := gb189) (o := .cells #[.int .i64 ((rd_T63 l0_1 t185).f0), .slice (some ad194) ((rd_T63 l0_1 t185).f1).length c188_1] 63 (0, 0)) (by (with_reducible repeat (first | refine blk_drewN ?_ _ | refine blk_drew ?_ | refine blk_alloc ?_ _)); exact BK189.out) hb); replace HB := Aside0.mk (below_step (TB3 GE181.out GE182.out GE189.out) hb); (try clear hb); (try clear hb2); (try clear hk); (try clear hi); (try clear ho0); obtain ⟨Ao138, co138, eo138⟩ := Kd.V_slice HO199.out; subst eo138) | (go_at_call 42; (with_reducible refine (saronref00_Where.calls k2 _ _ t197 t186 t201 _ ?side1 ?side2 A127.out).mono ?_); (case side1 => repeat (first | exact (Kd.V_reads' HO199.out).2.2 | (with_reducible refine Kd.C_alloc ?_ _) | (with_reducible refine Kd.C_drewN ?_ _) | (with_reducible refine Kd.C_drew ?_))); (case side2 => exact (Kd.V_reads' HO199.out).2.1); rintro e w' ⟨rfl, ⟨nd, rfl⟩⟩))
               go_roundg k2
               case measure => have := HJ100.out; have := HK2.out; omega
               case rel => exact ⟨(wrap64 (x13_2 + 1)), TT, H', ⟨by have := HJ100.out; have := HK2.out; omega⟩, ⟨by (with_reducible repeat (first | refine blk_drewN ?_ _ | refine blk_drew ?_ | refine blk_alloc ?_ _)); exact BK181.out⟩, ⟨by (with_reducible repeat (first | refine blk_drewN ?_ _ | refine blk_drew ?_ | refine blk_alloc ?_ _)); exact BK182.out⟩, ⟨by (with_reducible repeat (first | refine blk_drewN ?_ _ | refine blk_drew ?_ | refine blk_alloc ?_ _)); exact BK189.out⟩, ⟨TB3 GE181.out GE182.out GE189.out⟩⟩
             ·rw [if_neg c126] at H
              have c126b0 : (t200 == 0) = false := beq_eq_false_iff_ne.mpr c126
              have c126b1 : (t200 != 0) = true := bne_iff_ne.mpr c126
              obtain rfl := Option.some.inj H
              have hnb139 := NB181_182.out
              have hnc139 := NB182_181.out
              have hnb140 := NB181_189.out
              have hnc140 := NB189_181.out
              have hcz141_0 := czz BK181.out 0
              have hcz141_1 := czz BK181.out 1
              have hfz141_0 := fz BK181.out 0
              have hfz141_1 := fz BK181.out 1
              go_wp2_with (first | ((with_reducible refine gate_callee (f := 14) rfl ?_); refine goesL_ (some 109) rfl rfl Tryd.func14 (by kernel_rfl) rfl #[.agg #[.int .i64 a0_0, .slice (some ad188) l0_1.length c0_1], .int .i64 t185, .int .i64 x13_2] rfl TM ?_; (with_reducible refine (cycle_Struck.calls a0_0 _ _ l0_1 t185 x13_2 t197 t200 _ ?side1 ?side2 ?side3 A125.out).mono ?_); (case side1 => exact TC HR0_1.out); (case side2 => exact HC0_1.out); (case side3 => exact Glob.fr HG.out (Fr.of_below (TB3 GE181.out GE182.out GE189.out))); rintro e w142 ⟨v198, rfl, ho0, hb⟩; refine ⟨_, rfl, ?_⟩; have HO199 := Aside0.mk (Kd.V_lower (Kd.V_mono (ok' := fun k_ => k_ ≠ gb181 ∧ k_ ≠ gb182 ∧ k_ ≠ gb189) ho0 (fun k_ hk_ => ⟨(Kd.freshB (g := gb181) (o := .cells #[.int .i64 a0_0, .slice (some ad188) l0_1.length c0_1] 24 (0, 0)) (by (with_reducible repeat (first | refine blk_drewN ?_ _ | refine blk_drew ?_ | refine blk_alloc ?_ _)); exact BK181.out) k_ hk_), (Kd.freshB (g := gb182) (o := .cells #[.int .i64 a1_0, .int .i64 a1_1, .int .i64 a1_2] 25 (0, 0)) (by (with_reducible repeat (first | refine blk_drewN ?_ _ | refine blk_drew ?_ | refine blk_alloc ?_ _)); exact BK182.out) k_ hk_), (Kd.freshB (g := gb189) (o := .cells #[.int .i64 ((rd_T63 l0_1 t185).f0), .slice (some ad194) ((rd_T63 l0_1 t185).f1).length c188_1] 63 (0, 0)) (by (with_reducible repeat (first | refine blk_drewN ?_ _ | refine blk_drew ?_ | refine blk_alloc ?_ _)); exact BK189.out) k_ hk_)⟩)) (below_size (TB3 GE181.out GE182.out GE189.out))); replace BK181 := Aside0.mk (blk_below (g := gb181) (o := .cells #[.int .i64 a0_0, .slice (some ad188) l0_1.length c0_1] 24 (0, 0)) (by (with_reducible repeat (first | refine blk_drewN ?_ _ | refine blk_drew ?_ | refine blk_alloc ?_ _)); exact BK181.out) hb); replace BK182 := Aside0.mk (blk_below (g := gb182) (o := .cells #[.int .i64 a1_0, .int .i64 a1_1, .int .i64 a1_2] 25 (0, 0)) (by (with_reducible repeat (first | refine blk_drewN ?_ _ | refine blk_drew ?_ | refine blk_alloc ?_ _)); exact BK182.out) hb); replace BK189 := Aside0.mk (blk_below (g := gb189) (o := .cells #[.int .i64 ((rd_T63 l0_1 t185).f0), .slice (some ad194) ((rd_T63 l0_1 t185).f1).length c188_1] 63 (0, 0)) (by (with_reducible repeat (first | refine blk_drewN ?_ _ | refine blk_drew ?_ | refine blk_alloc ?_ _)); exact BK189.out) hb); replace HB := Aside0.mk (below_step (TB3 GE181.out GE182.out GE189.out) hb); (try clear hb); (try clear hb2); (try clear hk); (try clear hi); (try clear ho0)))
              go_ret
              exact ⟨TR, TB3 GE181.out GE182.out GE189.out⟩
            ·rw [if_neg c124] at H
             have c124b0 : decide (x13_2 ≤ t190) = false := decide_eq_false c124
             clear c124
             replace H := Option.bind_eq_some_iff.mp H
             obtain ⟨⟨t202, t203⟩, A1430, H⟩ := H
             replace H : (if t203 = 0 then (if t193 = 0 then (if t192 > 0 then (if (wrap64 (t202 - t190)) = t192 then (if t192 = 0 then (none) else (if (Int.tmod ((rd_T63 l0_1 t185).f0) t192) = 0 then (if 0 ≤ t186 then (if t186 < (((rd_T63 l0_1 t185).f1).length : Int) then (if (wrap64 (Int.tdiv ((rd_T63 l0_1 t185).f0) t192)) = ((rd_L1 ((rd_T63 l0_1 t185).f1) t186).length : Int) then ((saronlaw05_marked.f).bind fun t205 => (some t205)) else (some false)) else (none)) else (none)) else (some false))) else (some false)) else (some false)) else (saronlaw05_CycleNext.l1 k2 t185 t186 t190 t192 t193 ((rd_T63 l0_1 t185).f0) 0 t190 0 a0_0 l0_1 ((rd_T63 l0_1 t185).f0) ((rd_T63 l0_1 t185).f1))) else (some false)) = some r := H
             have A143 := Aside0.mk A1430
             clear A1430
             by_cases c144 : t203 = 0
             ·rw [if_pos c144] at H
              have c144b0 : (t203 == 0) = true := beq_iff_eq.mpr c144
              have c144b1 : (t203 != 0) = false := bne_eq_false_iff_eq.mpr c144
              clear c144
              by_cases c145 : t193 = 0
              ·rw [if_pos c145] at H
               have c145b0 : (t193 == 0) = true := beq_iff_eq.mpr c145
               have c145b1 : (t193 != 0) = false := bne_eq_false_iff_eq.mpr c145
               clear c145
               by_cases c146 : t192 > 0
               ·rw [if_pos c146] at H
                have c146b0 : decide (0 < t192) = true := decide_eq_true c146
                clear c146
                by_cases c147 : (wrap64 (t202 - t190)) = t192
                ·rw [if_pos c147] at H
                 have c147b0 : ((wrap64 (t202 - t190)) == t192) = true := beq_iff_eq.mpr c147
                 have c147b1 : ((wrap64 (t202 - t190)) != t192) = false := bne_eq_false_iff_eq.mpr c147
                 clear c147
                 by_cases c148 : t192 = 0
                 ·rw [if_pos c148] at H
                  exact absurd H (by simp)
                 ·rw [if_neg c148] at H
                  have c148b0 : (t192 == 0) = false := beq_eq_false_iff_ne.mpr c148
                  have c148b1 : (t192 != 0) = true := bne_iff_ne.mpr c148
                  by_cases c149 : (Int.tmod ((rd_T63 l0_1 t185).f0) t192) = 0
                  ·rw [if_pos c149] at H
                   have c149b0 : ((Int.tmod ((rd_T63 l0_1 t185).f0) t192) == 0) = true := beq_iff_eq.mpr c149
                   have c149b1 : ((Int.tmod ((rd_T63 l0_1 t185).f0) t192) != 0) = false := bne_eq_false_iff_eq.mpr c149
                   clear c149
                   by_cases c150 : 0 ≤ t186
                   ·rw [if_pos c150] at H
                    have c150b0 : decide (0 ≤ t186) = true := decide_eq_true c150
                    clear c150
                    by_cases c151 : t186 < (((rd_T63 l0_1 t185).f1).length : Int)
                    ·rw [if_pos c151] at H
                     have c151b0 : decide (t186 < (((rd_T63 l0_1 t185).f1).length : Int)) = true := decide_eq_true c151
                     clear c151
                     by_cases c152 : (wrap64 (Int.tdiv ((rd_T63 l0_1 t185).f0) t192)) = ((rd_L1 ((rd_T63 l0_1 t185).f1) t186).length : Int)
                     ·rw [if_pos c152] at H
                      have c152b0 : ((wrap64 (Int.tdiv ((rd_T63 l0_1 t185).f0) t192)) == ((rd_L1 ((rd_T63 l0_1 t185).f1) t186).length : Int)) = true := beq_iff_eq.mpr c152
                      have c152b1 : ((wrap64 (Int.tdiv ((rd_T63 l0_1 t185).f0) t192)) != ((rd_L1 ((rd_T63 l0_1 t185).f1) t186).length : Int)) = false := bne_eq_false_iff_eq.mpr c152
                      clear c152
                      replace H := Option.bind_eq_some_iff.mp H
                      obtain ⟨t205, A1530, H⟩ := H
                      replace H : (some t205) = some r := H
                      have A153 := Aside0.mk A1530
                      clear A1530
                      obtain rfl := Option.some.inj H
                      have hnb154 := NB181_182.out
                      have hnc154 := NB182_181.out
                      have hnb155 := NB181_189.out
                      have hnc155 := NB189_181.out
                      have hcz156_0 := czz BK181.out 0
                      have hcz156_1 := czz BK181.out 1
                      have hfz156_0 := fz BK181.out 0
                      have hfz156_1 := fz BK181.out 1
                      try go_wp2_with (first | ((with_reducible refine gate_callee (f := 19) rfl ?_); refine goesL_ (some 130) rfl rfl Tryd.func19 (by kernel_rfl) rfl #[.agg #[.int .i64 a0_0, .slice (some ad188) l0_1.length c0_1], .int .i64 t185, .int .i64 t186, .int .i64 (wrap64 (t190 + 1))] rfl TM ?_; (with_reducible refine (cycle_Next.calls a0_0 _ _ l0_1 t185 t186 (wrap64 (t190 + 1)) t202 t203 _ ?side1 ?side2 ?side3 A143.out).mono ?_); (case side1 => exact TC HR0_1.out); (case side2 => exact HC0_1.out); (case side3 => exact Glob.fr HG.out (Fr.of_below (TB3 GE181.out GE182.out GE189.out))); rintro e w157 ⟨rfl, hb⟩; refine ⟨_, rfl, ?_⟩; replace BK181 := Aside0.mk (blk_below (g := gb181) (o := .cells #[.int .i64 a0_0, .slice (some ad188) l0_1.length c0_1] 24 (0, 0)) (by (with_reducible repeat (first | refine blk_drewN ?_ _ | refine blk_drew ?_ | refine blk_alloc ?_ _)); exact BK181.out) hb); replace BK182 := Aside0.mk (blk_below (g := gb182) (o := .cells #[.int .i64 a1_0, .int .i64 a1_1, .int .i64 a1_2] 25 (0, 0)) (by (with_reducible repeat (first | refine blk_drewN ?_ _ | refine blk_drew ?_ | refine blk_alloc ?_ _)); exact BK182.out) hb); replace BK189 := Aside0.mk (blk_below (g := gb189) (o := .cells #[.int .i64 ((rd_T63 l0_1 t185).f0), .slice (some ad194) ((rd_T63 l0_1 t185).f1).length c188_1] 63 (0, 0)) (by (with_reducible repeat (first | refine blk_drewN ?_ _ | refine blk_drew ?_ | refine blk_alloc ?_ _)); exact BK189.out) hb); replace HB := Aside0.mk (below_step (TB3 GE181.out GE182.out GE189.out) hb); (try clear hb); (try clear hb2); (try clear hk); (try clear hi)))
                      have n0_ := Aside0.mk (blk_drew BK181.out)
                      have n1_ := Aside0.mk (blk_drew BK182.out)
                      have n2_ := Aside0.mk (blk_drew BK189.out)
                      have n3_ := Aside0.mk (below_drew1 HB.out)
                      clear BK181
                      clear BK182
                      clear BK189
                      clear HB
                      have BK181 := n0_
                      have BK182 := n1_
                      have BK189 := n2_
                      have HB := n3_
                      clear n0_ n1_ n2_ n3_
                      have p204 : 0 ≤ (t186 : Int) := of_decide_eq_true TA
                      have q204 : t186 < (((rd_T63 l0_1 t185).f1).length : Int) := of_decide_eq_true TA
                      obtain ⟨ad204, A204_0, c204_0, e204, hx204_0, hl204_0, hi204_0⟩ := at_L1 HR188_1.out t186 p204 q204
                      have hw204_0 := hx204_0
                      obtain rfl : ad194 = ad204 := (by injection e204)
                      replace hx204_0 := (HB.out.cell  (World.block_lt_of_cell? w _ hx204_0)).trans hx204_0
                      have HR204_0 := Aside0.mk hi204_0
                      have HC204_0 := Aside0.mk hl204_0
                      clear hi204_0 hl204_0
                      replace p204 := eq_true p204
                      replace q204 := eq_true q204
                      refine start_ (n := 33) (S := fun w' => w'.cell? ⟨gb189, 0, none⟩ = some (.int .i64 ((rd_T63 l0_1 t185).f0)) ∧ w'.cell? ⟨gb189, 1, none⟩ = some (.slice (some ad194) ((rd_T63 l0_1 t185).f1).length c188_1) ∧ w'.cell? (ad194.add (t186).toNat) = some (.slice A204_0 (rd_L1 ((rd_T63 l0_1 t185).f1) t186).length c204_0)) (ds := []) (.replicate 33 false) (by kernel_rfl) rfl rfl ⟨czz BK189.out 0, czz BK189.out 1, ((HB.out.cell  (World.block_lt_of_cell? w _ hw204_0)).trans hw204_0)⟩ (fun hHeld => ?_); refine with_tabW saronlaw05_CycleNext.tab21 saronlaw05_CycleNext.bits21 (fun HT_ HW_ => ?_)
                      generalize w157.drew = w158 at BK181 BK182 BK189 HB HR204_0 hx204_0 hHeld ⊢
                      refine pT 0 137 (bt 33 1) (k := ?_)
                      refine pT 1 138 (bt 33 3) (k := ?_)
                      refine pT 2 139 (bt 33 7) (k := ?_)
                      refine pT 3 140 (bt 33 15) (k := ?_)
                      refine pT 4 141 (bt 33 31) (k := ?_)
                      refine pT 5 142 (bt 33 63) (k := ?_)
                      refine pT 6 143 (bt 33 127) (k := ?_)
                      refine pT 7 144 (bt 33 255) (k := ?_)
                      refine pT 8 145 (bt 33 511) (k := ?_)
                      refine pT 9 146 (bt 33 1023) (k := ?_)
                      refine pT 10 147 (bt 33 2047) (k := ?_)
                      refine pT 12 149 (bt 33 6143) (k := ?_)
                      refine tT3 11 148 (bt 33 8191) hHeld (k := ?_)
                      refine pT 13 150 (bt 33 16383) (k := ?_)
                      refine pT 14 151 (bt 33 32767) (k := ?_)
                      refine pT 15 152 (bt 33 65535) (k := ?_)
                      refine pT 16 153 (bt 33 131071) (k := ?_)
                      refine pT 17 154 (bt 33 262143) (k := ?_)
                      refine pT 19 156 (bt 33 786431) (k := ?_)
                      refine pT 21 158 (bt 33 2883583) (k := ?_)
                      refine pT 23 160 (bt 33 11272191) (k := ?_)
                      refine tT3 18 155 (bt 33 11534335) hHeld (k := ?_)
                      refine pT 20 157 (bt 33 12582911) (k := ?_)
                      refine tT3 22 159 (bt 33 16777215) hHeld (k := ?_)
                      refine pT 24 161 (bt 33 33554431) (k := ?_)
                      refine tT3 25 162 (bt 33 67108863) hHeld (k := ?_)
                      refine pT 26 163 (bt 33 134217727) (k := ?_)
                      refine pT 27 164 (bt 33 268435455) (k := ?_)
                      refine pT 28 165 (bt 33 536870911) (k := ?_)
                      refine pT 29 166 (bt 33 1073741823) (k := ?_)
                      refine one_ (i := 30) (N := some 167) (bt 33 2147483647) rfl rfl (one_of HT_.out (by kernel_rfl)) (by decide) (fun K hK => ?_)
                      refine goes_ Tryd.func23 (by kernel_rfl) rfl #[] (by rfl) rfl rfl TM ?_
                      with_reducible refine (saronlaw05_marked.calls  t205 _ ?side1 A153.out).mono ?_
                      (case side1 => exact Glob.fr HG.out (Fr.of_below (TB3 GE181.out GE182.out GE189.out)))
                      rintro e w159 ⟨rfl, hb⟩
                      refine ⟨_, rfl, ?_⟩
                      have n0_ := Aside0.mk (blk_below (g := gb181) (o := .cells #[.int .i64 a0_0, .slice (some ad188) l0_1.length c0_1] 24 (0, 0)) (by (with_reducible repeat (first | refine blk_drewN ?_ _ | refine blk_drew ?_ | refine blk_alloc ?_ _)); exact BK181.out) hb)
                      have n1_ := Aside0.mk (blk_below (g := gb182) (o := .cells #[.int .i64 a1_0, .int .i64 a1_1, .int .i64 a1_2] 25 (0, 0)) (by (with_reducible repeat (first | refine blk_drewN ?_ _ | refine blk_drew ?_ | refine blk_alloc ?_ _)); exact BK182.out) hb)
                      have n2_ := Aside0.mk (blk_below (g := gb189) (o := .cells #[.int .i64 ((rd_T63 l0_1 t185).f0), .slice (some ad194) ((rd_T63 l0_1 t185).f1).length c188_1] 63 (0, 0)) (by (with_reducible repeat (first | refine blk_drewN ?_ _ | refine blk_drew ?_ | refine blk_alloc ?_ _)); exact BK189.out) hb)
                      have n3_ := Aside0.mk (below_step (TB3 GE181.out GE182.out GE189.out) hb)
                      clear BK181
                      clear BK182
                      clear BK189
                      clear HB
                      have BK181 := n0_
                      have BK182 := n1_
                      have BK189 := n2_
                      have HB := n3_
                      clear n0_ n1_ n2_ n3_
                      (try clear hb)
                      (try clear hb2)
                      (try clear hk)
                      (try clear hi)
                      refine hK.out _ _ ⟨czz BK189.out 0, czz BK189.out 1, ((HB.out.cell  (World.block_lt_of_cell? w _ hw204_0)).trans hw204_0)⟩ (fun hHeld => ?_)
                      clear hK K
                      refine norm_ (a' := ?_) ?_ ?_
                      rotate_left
                      ·show Act.put _ (some 167) _ = _
                       simp only [Act.put, lA, lZ, lS, i64_w, i32_w]
                       rfl
                      refine pT 31 168 (bt 33 4294967295) (k := ?_)
                      refine pT 32 4 (bt 33 8589934591) (k := ?_)
                      refine done_ (done_of HT_.out (by kernel_rfl)) ?_
                      try go_wp2
                      go_ret
                      exact ⟨TR, TB3 GE181.out GE182.out GE189.out⟩
                     ·rw [if_neg c152] at H
                      have c152b0 : ((wrap64 (Int.tdiv ((rd_T63 l0_1 t185).f0) t192)) == ((rd_L1 ((rd_T63 l0_1 t185).f1) t186).length : Int)) = false := beq_eq_false_iff_ne.mpr c152
                      have c152b1 : ((wrap64 (Int.tdiv ((rd_T63 l0_1 t185).f0) t192)) != ((rd_L1 ((rd_T63 l0_1 t185).f1) t186).length : Int)) = true := bne_iff_ne.mpr c152
                      obtain rfl := Option.some.inj H
                      have hnb160 := NB181_182.out
                      have hnc160 := NB182_181.out
                      have hnb161 := NB181_189.out
                      have hnc161 := NB189_181.out
                      have hcz162_0 := czz BK181.out 0
                      have hcz162_1 := czz BK181.out 1
                      have hfz162_0 := fz BK181.out 0
                      have hfz162_1 := fz BK181.out 1
                      try go_wp2_with (first | ((with_reducible refine gate_callee (f := 19) rfl ?_); refine goesL_ (some 130) rfl rfl Tryd.func19 (by kernel_rfl) rfl #[.agg #[.int .i64 a0_0, .slice (some ad188) l0_1.length c0_1], .int .i64 t185, .int .i64 t186, .int .i64 (wrap64 (t190 + 1))] rfl TM ?_; (with_reducible refine (cycle_Next.calls a0_0 _ _ l0_1 t185 t186 (wrap64 (t190 + 1)) t202 t203 _ ?side1 ?side2 ?side3 A143.out).mono ?_); (case side1 => exact TC HR0_1.out); (case side2 => exact HC0_1.out); (case side3 => exact Glob.fr HG.out (Fr.of_below (TB3 GE181.out GE182.out GE189.out))); rintro e w163 ⟨rfl, hb⟩; refine ⟨_, rfl, ?_⟩; replace BK181 := Aside0.mk (blk_below (g := gb181) (o := .cells #[.int .i64 a0_0, .slice (some ad188) l0_1.length c0_1] 24 (0, 0)) (by (with_reducible repeat (first | refine blk_drewN ?_ _ | refine blk_drew ?_ | refine blk_alloc ?_ _)); exact BK181.out) hb); replace BK182 := Aside0.mk (blk_below (g := gb182) (o := .cells #[.int .i64 a1_0, .int .i64 a1_1, .int .i64 a1_2] 25 (0, 0)) (by (with_reducible repeat (first | refine blk_drewN ?_ _ | refine blk_drew ?_ | refine blk_alloc ?_ _)); exact BK182.out) hb); replace BK189 := Aside0.mk (blk_below (g := gb189) (o := .cells #[.int .i64 ((rd_T63 l0_1 t185).f0), .slice (some ad194) ((rd_T63 l0_1 t185).f1).length c188_1] 63 (0, 0)) (by (with_reducible repeat (first | refine blk_drewN ?_ _ | refine blk_drew ?_ | refine blk_alloc ?_ _)); exact BK189.out) hb); replace HB := Aside0.mk (below_step (TB3 GE181.out GE182.out GE189.out) hb); (try clear hb); (try clear hb2); (try clear hk); (try clear hi)))
                      have n0_ := Aside0.mk (blk_drew BK181.out)
                      have n1_ := Aside0.mk (blk_drew BK182.out)
                      have n2_ := Aside0.mk (blk_drew BK189.out)
                      have n3_ := Aside0.mk (below_drew1 HB.out)
                      clear BK181
                      clear BK182
                      clear BK189
                      clear HB
                      have BK181 := n0_
                      have BK182 := n1_
                      have BK189 := n2_
                      have HB := n3_
                      clear n0_ n1_ n2_ n3_
                      have p204 : 0 ≤ (t186 : Int) := of_decide_eq_true TA
                      have q204 : t186 < (((rd_T63 l0_1 t185).f1).length : Int) := of_decide_eq_true TA
                      obtain ⟨ad204, A204_0, c204_0, e204, hx204_0, hl204_0, hi204_0⟩ := at_L1 HR188_1.out t186 p204 q204
                      have hw204_0 := hx204_0
                      obtain rfl : ad194 = ad204 := (by injection e204)
                      replace hx204_0 := (HB.out.cell  (World.block_lt_of_cell? w _ hx204_0)).trans hx204_0
                      have HR204_0 := Aside0.mk hi204_0
                      have HC204_0 := Aside0.mk hl204_0
                      clear hi204_0 hl204_0
                      replace p204 := eq_true p204
                      replace q204 := eq_true q204
                      refine start_ (n := 33) (S := fun w' => w'.cell? ⟨gb189, 0, none⟩ = some (.int .i64 ((rd_T63 l0_1 t185).f0)) ∧ w'.cell? ⟨gb189, 1, none⟩ = some (.slice (some ad194) ((rd_T63 l0_1 t185).f1).length c188_1) ∧ w'.cell? (ad194.add (t186).toNat) = some (.slice A204_0 (rd_L1 ((rd_T63 l0_1 t185).f1) t186).length c204_0)) (ds := []) (.replicate 33 false) (by kernel_rfl) rfl rfl ⟨czz BK189.out 0, czz BK189.out 1, ((HB.out.cell  (World.block_lt_of_cell? w _ hw204_0)).trans hw204_0)⟩ (fun hHeld => ?_); refine with_tabW saronlaw05_CycleNext.tab21 saronlaw05_CycleNext.bits21 (fun HT_ HW_ => ?_)
                      generalize w163.drew = w164 at BK181 BK182 BK189 HB HR204_0 hx204_0 hHeld ⊢
                      refine pT 0 137 (bt 33 1) (k := ?_)
                      refine pT 1 138 (bt 33 3) (k := ?_)
                      refine pT 2 139 (bt 33 7) (k := ?_)
                      refine pT 3 140 (bt 33 15) (k := ?_)
                      refine pT 4 141 (bt 33 31) (k := ?_)
                      refine pT 5 142 (bt 33 63) (k := ?_)
                      refine pT 6 143 (bt 33 127) (k := ?_)
                      refine pT 7 144 (bt 33 255) (k := ?_)
                      refine pT 8 145 (bt 33 511) (k := ?_)
                      refine pT 9 146 (bt 33 1023) (k := ?_)
                      refine pT 10 147 (bt 33 2047) (k := ?_)
                      refine pT 12 149 (bt 33 6143) (k := ?_)
                      refine tT3 11 148 (bt 33 8191) hHeld (k := ?_)
                      refine pT 13 150 (bt 33 16383) (k := ?_)
                      refine pT 14 151 (bt 33 32767) (k := ?_)
                      refine pT 15 152 (bt 33 65535) (k := ?_)
                      refine pT 16 153 (bt 33 131071) (k := ?_)
                      refine pT 17 154 (bt 33 262143) (k := ?_)
                      refine pT 19 156 (bt 33 786431) (k := ?_)
                      refine pT 21 158 (bt 33 2883583) (k := ?_)
                      refine pT 23 160 (bt 33 11272191) (k := ?_)
                      refine tT3 18 155 (bt 33 11534335) hHeld (k := ?_)
                      refine pT 20 157 (bt 33 12582911) (k := ?_)
                      refine tT3 22 159 (bt 33 16777215) hHeld (k := ?_)
                      refine pT 24 161 (bt 33 33554431) (k := ?_)
                      refine tT3 25 162 (bt 33 67108863) hHeld (k := ?_)
                      refine pT 26 163 (bt 33 134217727) (k := ?_)
                      refine pT 27 164 (bt 33 268435455) (k := ?_)
                      refine pT 28 165 (bt 33 536870911) (k := ?_)
                      refine pT 29 166 (bt 33 1073741823) (k := ?_)
                      refine pU 30 167 (bt 33 2147483647) (k := ?_)
                      refine pT 31 168 (bt 33 4294967295) (k := ?_)
                      refine pT 32 4 (bt 33 8589934591) (k := ?_)
                      refine done_ (done_of HT_.out (by kernel_rfl)) ?_
                      try go_wp2
                      go_ret
                      exact ⟨TR, TB3 GE181.out GE182.out GE189.out⟩
                    ·rw [if_neg c151] at H
                     exact absurd H (by simp)
                   ·rw [if_neg c150] at H
                    exact absurd H (by simp)
                  ·rw [if_neg c149] at H
                   have c149b0 : ((Int.tmod ((rd_T63 l0_1 t185).f0) t192) == 0) = false := beq_eq_false_iff_ne.mpr c149
                   have c149b1 : ((Int.tmod ((rd_T63 l0_1 t185).f0) t192) != 0) = true := bne_iff_ne.mpr c149
                   obtain rfl := Option.some.inj H
                   have hnb165 := NB181_182.out
                   have hnc165 := NB182_181.out
                   have hnb166 := NB181_189.out
                   have hnc166 := NB189_181.out
                   have hcz167_0 := czz BK181.out 0
                   have hcz167_1 := czz BK181.out 1
                   have hfz167_0 := fz BK181.out 0
                   have hfz167_1 := fz BK181.out 1
                   try go_wp2_with (first | ((with_reducible refine gate_callee (f := 19) rfl ?_); refine goesL_ (some 130) rfl rfl Tryd.func19 (by kernel_rfl) rfl #[.agg #[.int .i64 a0_0, .slice (some ad188) l0_1.length c0_1], .int .i64 t185, .int .i64 t186, .int .i64 (wrap64 (t190 + 1))] rfl TM ?_; (with_reducible refine (cycle_Next.calls a0_0 _ _ l0_1 t185 t186 (wrap64 (t190 + 1)) t202 t203 _ ?side1 ?side2 ?side3 A143.out).mono ?_); (case side1 => exact TC HR0_1.out); (case side2 => exact HC0_1.out); (case side3 => exact Glob.fr HG.out (Fr.of_below (TB3 GE181.out GE182.out GE189.out))); rintro e w168 ⟨rfl, hb⟩; refine ⟨_, rfl, ?_⟩; replace BK181 := Aside0.mk (blk_below (g := gb181) (o := .cells #[.int .i64 a0_0, .slice (some ad188) l0_1.length c0_1] 24 (0, 0)) (by (with_reducible repeat (first | refine blk_drewN ?_ _ | refine blk_drew ?_ | refine blk_alloc ?_ _)); exact BK181.out) hb); replace BK182 := Aside0.mk (blk_below (g := gb182) (o := .cells #[.int .i64 a1_0, .int .i64 a1_1, .int .i64 a1_2] 25 (0, 0)) (by (with_reducible repeat (first | refine blk_drewN ?_ _ | refine blk_drew ?_ | refine blk_alloc ?_ _)); exact BK182.out) hb); replace BK189 := Aside0.mk (blk_below (g := gb189) (o := .cells #[.int .i64 ((rd_T63 l0_1 t185).f0), .slice (some ad194) ((rd_T63 l0_1 t185).f1).length c188_1] 63 (0, 0)) (by (with_reducible repeat (first | refine blk_drewN ?_ _ | refine blk_drew ?_ | refine blk_alloc ?_ _)); exact BK189.out) hb); replace HB := Aside0.mk (below_step (TB3 GE181.out GE182.out GE189.out) hb); (try clear hb); (try clear hb2); (try clear hk); (try clear hi)))
                   have n0_ := Aside0.mk (blk_drew BK181.out)
                   have n1_ := Aside0.mk (blk_drew BK182.out)
                   have n2_ := Aside0.mk (blk_drew BK189.out)
                   have n3_ := Aside0.mk (below_drew1 HB.out)
                   clear BK181
                   clear BK182
                   clear BK189
                   clear HB
                   have BK181 := n0_
                   have BK182 := n1_
                   have BK189 := n2_
                   have HB := n3_
                   clear n0_ n1_ n2_ n3_
                   refine start_ (n := 33) (S := fun w' => w'.cell? ⟨gb189, 0, none⟩ = some (.int .i64 ((rd_T63 l0_1 t185).f0)) ∧ w'.cell? ⟨gb189, 1, none⟩ = some (.slice (some ad194) ((rd_T63 l0_1 t185).f1).length c188_1)) (ds := []) (.replicate 33 false) (by kernel_rfl) rfl rfl ⟨czz BK189.out 0, czz BK189.out 1⟩ (fun hHeld => ?_); refine with_tabW saronlaw05_CycleNext.tab21 saronlaw05_CycleNext.bits21 (fun HT_ HW_ => ?_)
                   generalize w168.drew = w169 at BK181 BK182 BK189 HB hHeld ⊢
                   refine pT 0 137 (bt 33 1) (k := ?_)
                   refine pT 1 138 (bt 33 3) (k := ?_)
                   refine pT 2 139 (bt 33 7) (k := ?_)
                   refine pT 3 140 (bt 33 15) (k := ?_)
                   refine pT 4 141 (bt 33 31) (k := ?_)
                   refine pT 5 142 (bt 33 63) (k := ?_)
                   refine pT 6 143 (bt 33 127) (k := ?_)
                   refine pT 7 144 (bt 33 255) (k := ?_)
                   refine pT 8 145 (bt 33 511) (k := ?_)
                   refine pT 9 146 (bt 33 1023) (k := ?_)
                   refine pT 10 147 (bt 33 2047) (k := ?_)
                   refine pT 12 149 (bt 33 6143) (k := ?_)
                   refine tT2 11 148 (bt 33 8191) hHeld (k := ?_)
                   refine pT 13 150 (bt 33 16383) (k := ?_)
                   refine pT 14 151 (bt 33 32767) (k := ?_)
                   refine pT 15 152 (bt 33 65535) (k := ?_)
                   refine pT 16 153 (bt 33 131071) (k := ?_)
                   refine pU 17 154 (bt 33 262143) (k := ?_)
                   refine pU 18 155 (bt 33 524287) (k := ?_)
                   refine pU 19 156 (bt 33 1048575) (k := ?_)
                   refine pU 20 157 (bt 33 2097151) (k := ?_)
                   refine pU 21 158 (bt 33 4194303) (k := ?_)
                   refine pU 22 159 (bt 33 8388607) (k := ?_)
                   refine pU 23 160 (bt 33 16777215) (k := ?_)
                   refine pU 24 161 (bt 33 33554431) (k := ?_)
                   refine pU 25 162 (bt 33 67108863) (k := ?_)
                   refine pU 26 163 (bt 33 134217727) (k := ?_)
                   refine pU 27 164 (bt 33 268435455) (k := ?_)
                   refine pT 28 165 (bt 33 536870911) (k := ?_)
                   refine pT 29 166 (bt 33 1073741823) (k := ?_)
                   refine pU 30 167 (bt 33 2147483647) (k := ?_)
                   refine pT 31 168 (bt 33 4294967295) (k := ?_)
                   refine pT 32 4 (bt 33 8589934591) (k := ?_)
                   refine done_ (done_of HT_.out (by kernel_rfl)) ?_
                   try go_wp2
                   go_ret
                   exact ⟨TR, TB3 GE181.out GE182.out GE189.out⟩
                ·rw [if_neg c147] at H
                 have c147b0 : ((wrap64 (t202 - t190)) == t192) = false := beq_eq_false_iff_ne.mpr c147
                 have c147b1 : ((wrap64 (t202 - t190)) != t192) = true := bne_iff_ne.mpr c147
                 obtain rfl := Option.some.inj H
                 have hnb170 := NB181_182.out
                 have hnc170 := NB182_181.out
                 have hnb171 := NB181_189.out
                 have hnc171 := NB189_181.out
                 have hcz172_0 := czz BK181.out 0
                 have hcz172_1 := czz BK181.out 1
                 have hfz172_0 := fz BK181.out 0
                 have hfz172_1 := fz BK181.out 1
                 try go_wp2_with (first | ((with_reducible refine gate_callee (f := 19) rfl ?_); refine goesL_ (some 130) rfl rfl Tryd.func19 (by kernel_rfl) rfl #[.agg #[.int .i64 a0_0, .slice (some ad188) l0_1.length c0_1], .int .i64 t185, .int .i64 t186, .int .i64 (wrap64 (t190 + 1))] rfl TM ?_; (with_reducible refine (cycle_Next.calls a0_0 _ _ l0_1 t185 t186 (wrap64 (t190 + 1)) t202 t203 _ ?side1 ?side2 ?side3 A143.out).mono ?_); (case side1 => exact TC HR0_1.out); (case side2 => exact HC0_1.out); (case side3 => exact Glob.fr HG.out (Fr.of_below (TB3 GE181.out GE182.out GE189.out))); rintro e w173 ⟨rfl, hb⟩; refine ⟨_, rfl, ?_⟩; replace BK181 := Aside0.mk (blk_below (g := gb181) (o := .cells #[.int .i64 a0_0, .slice (some ad188) l0_1.length c0_1] 24 (0, 0)) (by (with_reducible repeat (first | refine blk_drewN ?_ _ | refine blk_drew ?_ | refine blk_alloc ?_ _)); exact BK181.out) hb); replace BK182 := Aside0.mk (blk_below (g := gb182) (o := .cells #[.int .i64 a1_0, .int .i64 a1_1, .int .i64 a1_2] 25 (0, 0)) (by (with_reducible repeat (first | refine blk_drewN ?_ _ | refine blk_drew ?_ | refine blk_alloc ?_ _)); exact BK182.out) hb); replace BK189 := Aside0.mk (blk_below (g := gb189) (o := .cells #[.int .i64 ((rd_T63 l0_1 t185).f0), .slice (some ad194) ((rd_T63 l0_1 t185).f1).length c188_1] 63 (0, 0)) (by (with_reducible repeat (first | refine blk_drewN ?_ _ | refine blk_drew ?_ | refine blk_alloc ?_ _)); exact BK189.out) hb); replace HB := Aside0.mk (below_step (TB3 GE181.out GE182.out GE189.out) hb); (try clear hb); (try clear hb2); (try clear hk); (try clear hi)))
                 have n0_ := Aside0.mk (blk_drew BK181.out)
                 have n1_ := Aside0.mk (blk_drew BK182.out)
                 have n2_ := Aside0.mk (blk_drew BK189.out)
                 have n3_ := Aside0.mk (below_drew1 HB.out)
                 clear BK181
                 clear BK182
                 clear BK189
                 clear HB
                 have BK181 := n0_
                 have BK182 := n1_
                 have BK189 := n2_
                 have HB := n3_
                 clear n0_ n1_ n2_ n3_
                 refine start_ (n := 33) (S := fun w' => True) (ds := []) (.replicate 33 false) (by kernel_rfl) rfl rfl trivial (fun hHeld => ?_); refine with_tabW saronlaw05_CycleNext.tab21 saronlaw05_CycleNext.bits21 (fun HT_ HW_ => ?_)
                 generalize w173.drew = w174 at BK181 BK182 BK189 HB hHeld ⊢
                 refine pT 0 137 (bt 33 1) (k := ?_)
                 refine pT 1 138 (bt 33 3) (k := ?_)
                 refine pT 2 139 (bt 33 7) (k := ?_)
                 refine pT 3 140 (bt 33 15) (k := ?_)
                 refine pT 4 141 (bt 33 31) (k := ?_)
                 refine pT 5 142 (bt 33 63) (k := ?_)
                 refine pT 6 143 (bt 33 127) (k := ?_)
                 refine pT 7 144 (bt 33 255) (k := ?_)
                 refine pT 8 145 (bt 33 511) (k := ?_)
                 refine pT 9 146 (bt 33 1023) (k := ?_)
                 refine pU 10 147 (bt 33 2047) (k := ?_)
                 refine pU 11 148 (bt 33 4095) (k := ?_)
                 refine pU 12 149 (bt 33 8191) (k := ?_)
                 refine pU 13 150 (bt 33 16383) (k := ?_)
                 refine pU 14 151 (bt 33 32767) (k := ?_)
                 refine pT 15 152 (bt 33 65535) (k := ?_)
                 refine pT 16 153 (bt 33 131071) (k := ?_)
                 refine pU 17 154 (bt 33 262143) (k := ?_)
                 refine pU 18 155 (bt 33 524287) (k := ?_)
                 refine pU 19 156 (bt 33 1048575) (k := ?_)
                 refine pU 20 157 (bt 33 2097151) (k := ?_)
                 refine pU 21 158 (bt 33 4194303) (k := ?_)
                 refine pU 22 159 (bt 33 8388607) (k := ?_)
                 refine pU 23 160 (bt 33 16777215) (k := ?_)
                 refine pU 24 161 (bt 33 33554431) (k := ?_)
                 refine pU 25 162 (bt 33 67108863) (k := ?_)
                 refine pU 26 163 (bt 33 134217727) (k := ?_)
                 refine pU 27 164 (bt 33 268435455) (k := ?_)
                 refine pT 28 165 (bt 33 536870911) (k := ?_)
                 refine pT 29 166 (bt 33 1073741823) (k := ?_)
                 refine pU 30 167 (bt 33 2147483647) (k := ?_)
                 refine pT 31 168 (bt 33 4294967295) (k := ?_)
                 refine pT 32 4 (bt 33 8589934591) (k := ?_)
                 refine done_ (done_of HT_.out (by kernel_rfl)) ?_
                 try go_wp2
                 go_ret
                 exact ⟨TR, TB3 GE181.out GE182.out GE189.out⟩
               ·rw [if_neg c146] at H
                have c146b0 : decide (0 < t192) = false := decide_eq_false c146
                clear c146
                obtain rfl := Option.some.inj H
                have hnb175 := NB181_182.out
                have hnc175 := NB182_181.out
                have hnb176 := NB181_189.out
                have hnc176 := NB189_181.out
                have hcz177_0 := czz BK181.out 0
                have hcz177_1 := czz BK181.out 1
                have hfz177_0 := fz BK181.out 0
                have hfz177_1 := fz BK181.out 1
                try go_wp2_with (first | ((with_reducible refine gate_callee (f := 19) rfl ?_); refine goesL_ (some 130) rfl rfl Tryd.func19 (by kernel_rfl) rfl #[.agg #[.int .i64 a0_0, .slice (some ad188) l0_1.length c0_1], .int .i64 t185, .int .i64 t186, .int .i64 (wrap64 (t190 + 1))] rfl TM ?_; (with_reducible refine (cycle_Next.calls a0_0 _ _ l0_1 t185 t186 (wrap64 (t190 + 1)) t202 t203 _ ?side1 ?side2 ?side3 A143.out).mono ?_); (case side1 => exact TC HR0_1.out); (case side2 => exact HC0_1.out); (case side3 => exact Glob.fr HG.out (Fr.of_below (TB3 GE181.out GE182.out GE189.out))); rintro e w178 ⟨rfl, hb⟩; refine ⟨_, rfl, ?_⟩; replace BK181 := Aside0.mk (blk_below (g := gb181) (o := .cells #[.int .i64 a0_0, .slice (some ad188) l0_1.length c0_1] 24 (0, 0)) (by (with_reducible repeat (first | refine blk_drewN ?_ _ | refine blk_drew ?_ | refine blk_alloc ?_ _)); exact BK181.out) hb); replace BK182 := Aside0.mk (blk_below (g := gb182) (o := .cells #[.int .i64 a1_0, .int .i64 a1_1, .int .i64 a1_2] 25 (0, 0)) (by (with_reducible repeat (first | refine blk_drewN ?_ _ | refine blk_drew ?_ | refine blk_alloc ?_ _)); exact BK182.out) hb); replace BK189 := Aside0.mk (blk_below (g := gb189) (o := .cells #[.int .i64 ((rd_T63 l0_1 t185).f0), .slice (some ad194) ((rd_T63 l0_1 t185).f1).length c188_1] 63 (0, 0)) (by (with_reducible repeat (first | refine blk_drewN ?_ _ | refine blk_drew ?_ | refine blk_alloc ?_ _)); exact BK189.out) hb); replace HB := Aside0.mk (below_step (TB3 GE181.out GE182.out GE189.out) hb); (try clear hb); (try clear hb2); (try clear hk); (try clear hi)))
                have n0_ := Aside0.mk (blk_drew BK181.out)
                have n1_ := Aside0.mk (blk_drew BK182.out)
                have n2_ := Aside0.mk (blk_drew BK189.out)
                have n3_ := Aside0.mk (below_drew1 HB.out)
                clear BK181
                clear BK182
                clear BK189
                clear HB
                have BK181 := n0_
                have BK182 := n1_
                have BK189 := n2_
                have HB := n3_
                clear n0_ n1_ n2_ n3_
                refine start_ (n := 33) (S := fun w' => True) (ds := []) (.replicate 33 false) (by kernel_rfl) rfl rfl trivial (fun hHeld => ?_); refine with_tabW saronlaw05_CycleNext.tab21 saronlaw05_CycleNext.bits21 (fun HT_ HW_ => ?_)
                generalize w178.drew = w179 at BK181 BK182 BK189 HB hHeld ⊢
                refine pT 0 137 (bt 33 1) (k := ?_)
                refine pT 1 138 (bt 33 3) (k := ?_)
                refine pT 2 139 (bt 33 7) (k := ?_)
                refine pU 3 140 (bt 33 15) (k := ?_)
                refine pU 4 141 (bt 33 31) (k := ?_)
                refine pU 5 142 (bt 33 63) (k := ?_)
                refine pU 6 143 (bt 33 127) (k := ?_)
                refine pU 7 144 (bt 33 255) (k := ?_)
                refine pT 8 145 (bt 33 511) (k := ?_)
                refine pT 9 146 (bt 33 1023) (k := ?_)
                refine pU 10 147 (bt 33 2047) (k := ?_)
                refine pU 11 148 (bt 33 4095) (k := ?_)
                refine pU 12 149 (bt 33 8191) (k := ?_)
                refine pU 13 150 (bt 33 16383) (k := ?_)
                refine pU 14 151 (bt 33 32767) (k := ?_)
                refine pT 15 152 (bt 33 65535) (k := ?_)
                refine pT 16 153 (bt 33 131071) (k := ?_)
                refine pU 17 154 (bt 33 262143) (k := ?_)
                refine pU 18 155 (bt 33 524287) (k := ?_)
                refine pU 19 156 (bt 33 1048575) (k := ?_)
                refine pU 20 157 (bt 33 2097151) (k := ?_)
                refine pU 21 158 (bt 33 4194303) (k := ?_)
                refine pU 22 159 (bt 33 8388607) (k := ?_)
                refine pU 23 160 (bt 33 16777215) (k := ?_)
                refine pU 24 161 (bt 33 33554431) (k := ?_)
                refine pU 25 162 (bt 33 67108863) (k := ?_)
                refine pU 26 163 (bt 33 134217727) (k := ?_)
                refine pU 27 164 (bt 33 268435455) (k := ?_)
                refine pT 28 165 (bt 33 536870911) (k := ?_)
                refine pT 29 166 (bt 33 1073741823) (k := ?_)
                refine pU 30 167 (bt 33 2147483647) (k := ?_)
                refine pT 31 168 (bt 33 4294967295) (k := ?_)
                refine pT 32 4 (bt 33 8589934591) (k := ?_)
                refine done_ (done_of HT_.out (by kernel_rfl)) ?_
                try go_wp2
                go_ret
                exact ⟨TR, TB3 GE181.out GE182.out GE189.out⟩
              ·rw [if_neg c145] at H
               have c145b0 : (t193 == 0) = false := beq_eq_false_iff_ne.mpr c145
               have c145b1 : (t193 != 0) = true := bne_iff_ne.mpr c145
               have H' := Aside0.mk H
               clear H
               have hnb180 := NB181_182.out
               have hnc180 := NB182_181.out
               have hnb181 := NB181_189.out
               have hnc181 := NB189_181.out
               have hcz182_0 := czz BK181.out 0
               have hcz182_1 := czz BK181.out 1
               have hfz182_0 := fz BK181.out 0
               have hfz182_1 := fz BK181.out 1
               go_wp2_with (first | ((with_reducible refine gate_callee (f := 19) rfl ?_); refine goesL_ (some 130) rfl rfl Tryd.func19 (by kernel_rfl) rfl #[.agg #[.int .i64 a0_0, .slice (some ad188) l0_1.length c0_1], .int .i64 t185, .int .i64 t186, .int .i64 (wrap64 (t190 + 1))] rfl TM ?_; (with_reducible refine (cycle_Next.calls a0_0 _ _ l0_1 t185 t186 (wrap64 (t190 + 1)) t202 t203 _ ?side1 ?side2 ?side3 A143.out).mono ?_); (case side1 => exact TC HR0_1.out); (case side2 => exact HC0_1.out); (case side3 => exact Glob.fr HG.out (Fr.of_below (TB3 GE181.out GE182.out GE189.out))); rintro e w183 ⟨rfl, hb⟩; refine ⟨_, rfl, ?_⟩; replace BK181 := Aside0.mk (blk_below (g := gb181) (o := .cells #[.int .i64 a0_0, .slice (some ad188) l0_1.length c0_1] 24 (0, 0)) (by (with_reducible repeat (first | refine blk_drewN ?_ _ | refine blk_drew ?_ | refine blk_alloc ?_ _)); exact BK181.out) hb); replace BK182 := Aside0.mk (blk_below (g := gb182) (o := .cells #[.int .i64 a1_0, .int .i64 a1_1, .int .i64 a1_2] 25 (0, 0)) (by (with_reducible repeat (first | refine blk_drewN ?_ _ | refine blk_drew ?_ | refine blk_alloc ?_ _)); exact BK182.out) hb); replace BK189 := Aside0.mk (blk_below (g := gb189) (o := .cells #[.int .i64 ((rd_T63 l0_1 t185).f0), .slice (some ad194) ((rd_T63 l0_1 t185).f1).length c188_1] 63 (0, 0)) (by (with_reducible repeat (first | refine blk_drewN ?_ _ | refine blk_drew ?_ | refine blk_alloc ?_ _)); exact BK189.out) hb); replace HB := Aside0.mk (below_step (TB3 GE181.out GE182.out GE189.out) hb); (try clear hb); (try clear hb2); (try clear hk); (try clear hi); have hnb184 := NB189_182.out; have hnc184 := NB182_189.out; have hcz185_0 := czz BK189.out 0; have hcz185_1 := czz BK189.out 1; have hfz185_0 := fz BK189.out 0; have hfz185_1 := fz BK189.out 1))
               go_loopg [18, 19, 20, 21] k2 (fun kq v18 v19 v20 v21 w' => ∃ (x18_3 : Int) (x19_3 : Int) (x20_3 : Int) (x21_3 : Int), v18 = .int .i64 x18_3 ∧ v19 = .int .i64 x19_3 ∧ v20 = .int .i64 x20_3 ∧ v21 = .int .i64 x21_3 ∧ Aside0 (saronlaw05_CycleNext.l1 kq t185 t186 t190 t192 t193 x18_3 x19_3 x20_3 x21_3 a0_0 l0_1 ((rd_T63 l0_1 t185).f0) ((rd_T63 l0_1 t185).f1) = some r) ∧ Aside0 (kq ≤ k2) ∧ Aside0 (w'.heap[gb181]? = some (.cells #[.int .i64 a0_0, (.slice (some ad188) l0_1.length c0_1)] 24 (0, 0))) ∧ Aside0 (w'.heap[gb182]? = some (.cells #[.int .i64 a1_0, .int .i64 a1_1, .int .i64 a1_2] 25 (0, 0))) ∧ Aside0 (w'.heap[gb189]? = some (.cells #[.int .i64 ((rd_T63 l0_1 t185).f0), (.slice (some ad194) ((rd_T63 l0_1 t185).f1).length c188_1)] 63 (0, 0))) ∧ Aside0 (Below w.heap.size w w'))
               case atStart => exact ⟨(((rd_T63 l0_1 t185).f0)), (0), (t190), (0), TT, TT, TT, TT, H', ⟨Nat.le_refl _⟩, ⟨by (with_reducible repeat (first | refine blk_drewN ?_ _ | refine blk_drew ?_ | refine blk_alloc ?_ _)); exact BK181.out⟩, ⟨by (with_reducible repeat (first | refine blk_drewN ?_ _ | refine blk_drew ?_ | refine blk_alloc ?_ _)); exact BK182.out⟩, ⟨by (with_reducible repeat (first | refine blk_drewN ?_ _ | refine blk_drew ?_ | refine blk_alloc ?_ _)); exact BK189.out⟩, ⟨TB3 GE181.out GE182.out GE189.out⟩⟩
               case round => as_aux_lemma =>
                clear H'
                try clear c1
                try clear p2
                try clear p6
                try clear c14
                try clear c17
                try clear c18
                try clear c19
                try clear p64
                try clear c145
                try clear c145b0
                try clear c145b1
                try clear c146
                try clear c146b0
                try clear c147
                try clear c147b0
                try clear c147b1
                try clear c170
                try clear c171
                try clear c175
                try clear c176
                try clear c180
                try clear c181
                try clear c184
                try clear hcz172_0 hcz172_1
                try clear hcz177_0 hcz177_1
                try clear hcz182_0 hcz182_1
                try clear hcz185_0 hcz185_1
                try clear hfz172_0 hfz172_1
                try clear hfz177_0 hfz177_1
                try clear hfz182_0 hfz182_1
                try clear hfz185_0 hfz185_1
                obtain ⟨x18_3, x19_3, x20_3, x21_3, rfl, rfl, rfl, rfl, HA, HK3, BK181, BK182, BK189, HB⟩ := hrel
                cases gk with
                | zero => exact absurd HA.out (by simp [saronlaw05_CycleNext.l1])
                | succ k3 =>
                 have H := HA.out
                 clear HA
                 simp only [saronlaw05_CycleNext.l1] at H
                 by_cases c186 : 0 ≤ t186
                 ·rw [if_pos c186] at H
                  have c186b0 : decide (0 ≤ t186) = true := decide_eq_true c186
                  clear c186
                  by_cases c187 : t186 < (((rd_T63 l0_1 t185).f1).length : Int)
                  ·rw [if_pos c187] at H
                   have c187b0 : decide (t186 < (((rd_T63 l0_1 t185).f1).length : Int)) = true := decide_eq_true c187
                   clear c187
                   by_cases c188 : x21_3 < ((rd_L1 ((rd_T63 l0_1 t185).f1) t186).length : Int)
                   ·rw [if_pos c188] at H
                    have c188b0 : decide (x21_3 < ((rd_L1 ((rd_T63 l0_1 t185).f1) t186).length : Int)) = true := decide_eq_true c188
                    clear c188
                    replace H := Option.bind_eq_some_iff.mp H
                    obtain ⟨⟨t207, t208⟩, A1890, H⟩ := H
                    replace H : (if t208 = 0 then (if t207 ≤ x20_3 then (some false) else (saronlaw05_CycleNext.l1 k3 t185 t186 t190 t192 t193 (mn x18_3 (wrap64 (t207 - x20_3))) (mx x19_3 (wrap64 (t207 - x20_3))) t207 (wrap64 (x21_3 + 1)) a0_0 l0_1 ((rd_T63 l0_1 t185).f0) ((rd_T63 l0_1 t185).f1))) else (some false)) = some r := H
                    have A189 := Aside0.mk A1890
                    clear A1890
                    by_cases c190 : t208 = 0
                    ·rw [if_pos c190] at H
                     have c190b0 : (t208 == 0) = true := beq_iff_eq.mpr c190
                     have c190b1 : (t208 != 0) = false := bne_eq_false_iff_eq.mpr c190
                     clear c190
                     by_cases c191 : t207 ≤ x20_3
                     ·rw [if_pos c191] at H
                      have c191b0 : decide (t207 ≤ x20_3) = true := decide_eq_true c191
                      clear c191
                      obtain rfl := Option.some.inj H
                      have hnb192 := NB189_181.out
                      have hnc192 := NB181_189.out
                      have hnb193 := NB189_182.out
                      have hnc193 := NB182_189.out
                      have hcz194_0 := czz BK189.out 0
                      have hcz194_1 := czz BK189.out 1
                      have hfz194_0 := fz BK189.out 0
                      have hfz194_1 := fz BK189.out 1
                      have p206 : 0 ≤ (t186 : Int) := of_decide_eq_true TA
                      have q206 : t186 < (((rd_T63 l0_1 t185).f1).length : Int) := of_decide_eq_true TA
                      obtain ⟨ad206, A206_0, c206_0, e206, hx206_0, hl206_0, hi206_0⟩ := at_L1 HR188_1.out t186 p206 q206
                      obtain rfl : ad194 = ad206 := (by injection e206)
                      replace hx206_0 := (HB.out.cell  (World.block_lt_of_cell? w _ hx206_0)).trans hx206_0
                      have HR206_0 := Aside0.mk hi206_0
                      have HC206_0 := Aside0.mk hl206_0
                      clear hi206_0 hl206_0
                      replace p206 := eq_true p206
                      replace q206 := eq_true q206
                      have hnb195 := NB181_182.out
                      have hnc195 := NB182_181.out
                      have hcz196_0 := czz BK181.out 0
                      have hcz196_1 := czz BK181.out 1
                      have hfz196_0 := fz BK181.out 0
                      have hfz196_1 := fz BK181.out 1
                      go_wp2_with (first | ((with_reducible refine gate_callee (f := 19) rfl ?_); refine goesL_ (some 188) rfl rfl Tryd.func19 (by kernel_rfl) rfl #[.agg #[.int .i64 a0_0, .slice (some ad188) l0_1.length c0_1], .int .i64 t185, .int .i64 t186, .int .i64 (wrap64 (x20_3 + 1))] rfl TM ?_; (with_reducible refine (cycle_Next.calls a0_0 _ _ l0_1 t185 t186 (wrap64 (x20_3 + 1)) t207 t208 _ ?side1 ?side2 ?side3 A189.out).mono ?_); (case side1 => exact TC HR0_1.out); (case side2 => exact HC0_1.out); (case side3 => exact Glob.fr HG.out (Fr.of_below (TB3 GE181.out GE182.out GE189.out))); rintro e w197 ⟨rfl, hb⟩; refine ⟨_, rfl, ?_⟩; replace BK181 := Aside0.mk (blk_below (g := gb181) (o := .cells #[.int .i64 a0_0, .slice (some ad188) l0_1.length c0_1] 24 (0, 0)) (by (with_reducible repeat (first | refine blk_drewN ?_ _ | refine blk_drew ?_ | refine blk_alloc ?_ _)); exact BK181.out) hb); replace BK182 := Aside0.mk (blk_below (g := gb182) (o := .cells #[.int .i64 a1_0, .int .i64 a1_1, .int .i64 a1_2] 25 (0, 0)) (by (with_reducible repeat (first | refine blk_drewN ?_ _ | refine blk_drew ?_ | refine blk_alloc ?_ _)); exact BK182.out) hb); replace BK189 := Aside0.mk (blk_below (g := gb189) (o := .cells #[.int .i64 ((rd_T63 l0_1 t185).f0), .slice (some ad194) ((rd_T63 l0_1 t185).f1).length c188_1] 63 (0, 0)) (by (with_reducible repeat (first | refine blk_drewN ?_ _ | refine blk_drew ?_ | refine blk_alloc ?_ _)); exact BK189.out) hb); replace HB := Aside0.mk (below_step (TB3 GE181.out GE182.out GE189.out) hb); (try clear hb); (try clear hb2); (try clear hk); (try clear hi)))
                      go_ret
                      exact ⟨TR, TB3 GE181.out GE182.out GE189.out⟩
                     ·rw [if_neg c191] at H
                      have c191b0 : decide (t207 ≤ x20_3) = false := decide_eq_false c191
                      clear c191
                      obtain ⟨ji198, hji198⟩ : ∃ j_ : Int, (mn x18_3 (wrap64 (t207 - x20_3))) = j_ := ⟨_, rfl⟩
                      replace H : (saronlaw05_CycleNext.l1 k3 t185 t186 t190 t192 t193 ji198 (mx x19_3 (wrap64 (t207 - x20_3))) t207 (wrap64 (x21_3 + 1)) a0_0 l0_1 ((rd_T63 l0_1 t185).f0) ((rd_T63 l0_1 t185).f1)) = some r := by first | (rw [hji198] at H; exact H) | (simp only [hji198] at H ⊢; exact H)
                      (try rw [hji198] at A189)
                      have hji198_ : (if (wrap64 (t207 - x20_3)) < x18_3 then (wrap64 (t207 - x20_3)) else x18_3) = ji198 := hji198
                      obtain ⟨ji199, hji199⟩ : ∃ j_ : Int, (mx x19_3 (wrap64 (t207 - x20_3))) = j_ := ⟨_, rfl⟩
                      replace H : (saronlaw05_CycleNext.l1 k3 t185 t186 t190 t192 t193 ji198 ji199 t207 (wrap64 (x21_3 + 1)) a0_0 l0_1 ((rd_T63 l0_1 t185).f0) ((rd_T63 l0_1 t185).f1)) = some r := by first | (rw [hji199] at H; exact H) | (simp only [hji199] at H ⊢; exact H)
                      (try rw [hji199] at A189)
                      have hji199_ : (if x19_3 < (wrap64 (t207 - x20_3)) then (wrap64 (t207 - x20_3)) else x19_3) = ji199 := hji199
                      have H' := Aside0.mk H
                      clear H
                      have hnb200 := NB189_181.out
                      have hnc200 := NB181_189.out
                      have hnb201 := NB189_182.out
                      have hnc201 := NB182_189.out
                      have hcz202_0 := czz BK189.out 0
                      have hcz202_1 := czz BK189.out 1
                      have hfz202_0 := fz BK189.out 0
                      have hfz202_1 := fz BK189.out 1
                      have p206 : 0 ≤ (t186 : Int) := of_decide_eq_true TA
                      have q206 : t186 < (((rd_T63 l0_1 t185).f1).length : Int) := of_decide_eq_true TA
                      obtain ⟨ad206, A206_0, c206_0, e206, hx206_0, hl206_0, hi206_0⟩ := at_L1 HR188_1.out t186 p206 q206
                      obtain rfl : ad194 = ad206 := (by injection e206)
                      replace hx206_0 := (HB.out.cell  (World.block_lt_of_cell? w _ hx206_0)).trans hx206_0
                      have HR206_0 := Aside0.mk hi206_0
                      have HC206_0 := Aside0.mk hl206_0
                      clear hi206_0 hl206_0
                      replace p206 := eq_true p206
                      replace q206 := eq_true q206
                      have hnb203 := NB181_182.out
                      have hnc203 := NB182_181.out
                      have hcz204_0 := czz BK181.out 0
                      have hcz204_1 := czz BK181.out 1
                      have hfz204_0 := fz BK181.out 0
                      have hfz204_1 := fz BK181.out 1
                      go_wp2_with (first | ((with_reducible refine gate_callee (f := 19) rfl ?_); refine goesL_ (some 188) rfl rfl Tryd.func19 (by kernel_rfl) rfl #[.agg #[.int .i64 a0_0, .slice (some ad188) l0_1.length c0_1], .int .i64 t185, .int .i64 t186, .int .i64 (wrap64 (x20_3 + 1))] rfl TM ?_; (with_reducible refine (cycle_Next.calls a0_0 _ _ l0_1 t185 t186 (wrap64 (x20_3 + 1)) t207 t208 _ ?side1 ?side2 ?side3 A189.out).mono ?_); (case side1 => exact TC HR0_1.out); (case side2 => exact HC0_1.out); (case side3 => exact Glob.fr HG.out (Fr.of_below (TB3 GE181.out GE182.out GE189.out))); rintro e w205 ⟨rfl, hb⟩; refine ⟨_, rfl, ?_⟩; replace BK181 := Aside0.mk (blk_below (g := gb181) (o := .cells #[.int .i64 a0_0, .slice (some ad188) l0_1.length c0_1] 24 (0, 0)) (by (with_reducible repeat (first | refine blk_drewN ?_ _ | refine blk_drew ?_ | refine blk_alloc ?_ _)); exact BK181.out) hb); replace BK182 := Aside0.mk (blk_below (g := gb182) (o := .cells #[.int .i64 a1_0, .int .i64 a1_1, .int .i64 a1_2] 25 (0, 0)) (by (with_reducible repeat (first | refine blk_drewN ?_ _ | refine blk_drew ?_ | refine blk_alloc ?_ _)); exact BK182.out) hb); replace BK189 := Aside0.mk (blk_below (g := gb189) (o := .cells #[.int .i64 ((rd_T63 l0_1 t185).f0), .slice (some ad194) ((rd_T63 l0_1 t185).f1).length c188_1] 63 (0, 0)) (by (with_reducible repeat (first | refine blk_drewN ?_ _ | refine blk_drew ?_ | refine blk_alloc ?_ _)); exact BK189.out) hb); replace HB := Aside0.mk (below_step (TB3 GE181.out GE182.out GE189.out) hb); (try clear hb); (try clear hb2); (try clear hk); (try clear hi)))
                      go_roundg k3
                      case measure => have := HJ100.out; have := HK2.out; have := HK3.out; omega
                      case rel => exact ⟨(ji198), (ji199), (t207), (wrap64 (x21_3 + 1)), (by first | rfl | (simp; done) | (simp only [← hji198] <;> (first | rfl | simp)) | (simp [*]; done)), (by first | rfl | (simp; done) | (simp only [← hji199] <;> (first | rfl | simp)) | (simp [*]; done)), TT, TT, H', ⟨by have := HJ100.out; have := HK2.out; have := HK3.out; omega⟩, ⟨by (with_reducible repeat (first | refine blk_drewN ?_ _ | refine blk_drew ?_ | refine blk_alloc ?_ _)); exact BK181.out⟩, ⟨by (with_reducible repeat (first | refine blk_drewN ?_ _ | refine blk_drew ?_ | refine blk_alloc ?_ _)); exact BK182.out⟩, ⟨by (with_reducible repeat (first | refine blk_drewN ?_ _ | refine blk_drew ?_ | refine blk_alloc ?_ _)); exact BK189.out⟩, ⟨TB3 GE181.out GE182.out GE189.out⟩⟩
                    ·rw [if_neg c190] at H
                     have c190b0 : (t208 == 0) = false := beq_eq_false_iff_ne.mpr c190
                     have c190b1 : (t208 != 0) = true := bne_iff_ne.mpr c190
                     obtain rfl := Option.some.inj H
                     have hnb206 := NB189_181.out
                     have hnc206 := NB181_189.out
                     have hnb207 := NB189_182.out
                     have hnc207 := NB182_189.out
                     have hcz208_0 := czz BK189.out 0
                     have hcz208_1 := czz BK189.out 1
                     have hfz208_0 := fz BK189.out 0
                     have hfz208_1 := fz BK189.out 1
                     have p206 : 0 ≤ (t186 : Int) := of_decide_eq_true TA
                     have q206 : t186 < (((rd_T63 l0_1 t185).f1).length : Int) := of_decide_eq_true TA
                     obtain ⟨ad206, A206_0, c206_0, e206, hx206_0, hl206_0, hi206_0⟩ := at_L1 HR188_1.out t186 p206 q206
                     obtain rfl : ad194 = ad206 := (by injection e206)
                     replace hx206_0 := (HB.out.cell  (World.block_lt_of_cell? w _ hx206_0)).trans hx206_0
                     have HR206_0 := Aside0.mk hi206_0
                     have HC206_0 := Aside0.mk hl206_0
                     clear hi206_0 hl206_0
                     replace p206 := eq_true p206
                     replace q206 := eq_true q206
                     have hnb209 := NB181_182.out
                     have hnc209 := NB182_181.out
                     have hcz210_0 := czz BK181.out 0
                     have hcz210_1 := czz BK181.out 1
                     have hfz210_0 := fz BK181.out 0
                     have hfz210_1 := fz BK181.out 1
                     go_wp2_with (first | ((with_reducible refine gate_callee (f := 19) rfl ?_); refine goesL_ (some 188) rfl rfl Tryd.func19 (by kernel_rfl) rfl #[.agg #[.int .i64 a0_0, .slice (some ad188) l0_1.length c0_1], .int .i64 t185, .int .i64 t186, .int .i64 (wrap64 (x20_3 + 1))] rfl TM ?_; (with_reducible refine (cycle_Next.calls a0_0 _ _ l0_1 t185 t186 (wrap64 (x20_3 + 1)) t207 t208 _ ?side1 ?side2 ?side3 A189.out).mono ?_); (case side1 => exact TC HR0_1.out); (case side2 => exact HC0_1.out); (case side3 => exact Glob.fr HG.out (Fr.of_below (TB3 GE181.out GE182.out GE189.out))); rintro e w211 ⟨rfl, hb⟩; refine ⟨_, rfl, ?_⟩; replace BK181 := Aside0.mk (blk_below (g := gb181) (o := .cells #[.int .i64 a0_0, .slice (some ad188) l0_1.length c0_1] 24 (0, 0)) (by (with_reducible repeat (first | refine blk_drewN ?_ _ | refine blk_drew ?_ | refine blk_alloc ?_ _)); exact BK181.out) hb); replace BK182 := Aside0.mk (blk_below (g := gb182) (o := .cells #[.int .i64 a1_0, .int .i64 a1_1, .int .i64 a1_2] 25 (0, 0)) (by (with_reducible repeat (first | refine blk_drewN ?_ _ | refine blk_drew ?_ | refine blk_alloc ?_ _)); exact BK182.out) hb); replace BK189 := Aside0.mk (blk_below (g := gb189) (o := .cells #[.int .i64 ((rd_T63 l0_1 t185).f0), .slice (some ad194) ((rd_T63 l0_1 t185).f1).length c188_1] 63 (0, 0)) (by (with_reducible repeat (first | refine blk_drewN ?_ _ | refine blk_drew ?_ | refine blk_alloc ?_ _)); exact BK189.out) hb); replace HB := Aside0.mk (below_step (TB3 GE181.out GE182.out GE189.out) hb); (try clear hb); (try clear hb2); (try clear hk); (try clear hi)))
                     go_ret
                     exact ⟨TR, TB3 GE181.out GE182.out GE189.out⟩
                   ·rw [if_neg c188] at H
                    have c188b0 : decide (x21_3 < ((rd_L1 ((rd_T63 l0_1 t185).f1) t186).length : Int)) = false := decide_eq_false c188
                    clear c188
                    by_cases c212 : t193 = 4
                    ·rw [if_pos c212] at H
                     have c212b0 : (t193 == 4) = true := beq_iff_eq.mpr c212
                     have c212b1 : (t193 != 4) = false := bne_eq_false_iff_eq.mpr c212
                     clear c212
                     by_cases c213 : t192 = 0
                     ·rw [if_pos c213] at H
                      have c213b0 : (t192 == 0) = true := beq_iff_eq.mpr c213
                      have c213b1 : (t192 != 0) = false := bne_eq_false_iff_eq.mpr c213
                      clear c213
                      by_cases c214 : x18_3 < x19_3
                      ·rw [if_pos c214] at H
                       have c214b0 : decide (x18_3 < x19_3) = true := decide_eq_true c214
                       clear c214
                       by_cases c215 : x20_3 = (wrap64 (t190 + ((rd_T63 l0_1 t185).f0)))
                       ·rw [if_pos c215] at H
                        have c215b0 : (x20_3 == (wrap64 (t190 + ((rd_T63 l0_1 t185).f0)))) = true := beq_iff_eq.mpr c215
                        have c215b1 : (x20_3 != (wrap64 (t190 + ((rd_T63 l0_1 t185).f0)))) = false := bne_eq_false_iff_eq.mpr c215
                        clear c215
                        replace H := Option.bind_eq_some_iff.mp H
                        obtain ⟨t209, A2160, H⟩ := H
                        replace H : (some t209) = some r := H
                        have A216 := Aside0.mk A2160
                        clear A2160
                        obtain rfl := Option.some.inj H
                        have hnb217 := NB189_181.out
                        have hnc217 := NB181_189.out
                        have hnb218 := NB189_182.out
                        have hnc218 := NB182_189.out
                        have hcz219_0 := czz BK189.out 0
                        have hcz219_1 := czz BK189.out 1
                        have hfz219_0 := fz BK189.out 0
                        have hfz219_1 := fz BK189.out 1
                        have p206 : 0 ≤ (t186 : Int) := of_decide_eq_true TA
                        have q206 : t186 < (((rd_T63 l0_1 t185).f1).length : Int) := of_decide_eq_true TA
                        obtain ⟨ad206, A206_0, c206_0, e206, hx206_0, hl206_0, hi206_0⟩ := at_L1 HR188_1.out t186 p206 q206
                        obtain rfl : ad194 = ad206 := (by injection e206)
                        replace hx206_0 := (HB.out.cell  (World.block_lt_of_cell? w _ hx206_0)).trans hx206_0
                        have HR206_0 := Aside0.mk hi206_0
                        have HC206_0 := Aside0.mk hl206_0
                        clear hi206_0 hl206_0
                        replace p206 := eq_true p206
                        replace q206 := eq_true q206
                        go_wp2_with (first | (go_at_call 23; (with_reducible refine (saronlaw05_marked.calls  t209 _ ?side1 A216.out).mono ?_); (case side1 => exact Glob.fr HG.out (Fr.of_below (TB3 GE181.out GE182.out GE189.out))); rintro e w220 ⟨rfl, hb⟩; replace BK181 := Aside0.mk (blk_below (g := gb181) (o := .cells #[.int .i64 a0_0, .slice (some ad188) l0_1.length c0_1] 24 (0, 0)) (by (with_reducible repeat (first | refine blk_drewN ?_ _ | refine blk_drew ?_ | refine blk_alloc ?_ _)); exact BK181.out) hb); replace BK182 := Aside0.mk (blk_below (g := gb182) (o := .cells #[.int .i64 a1_0, .int .i64 a1_1, .int .i64 a1_2] 25 (0, 0)) (by (with_reducible repeat (first | refine blk_drewN ?_ _ | refine blk_drew ?_ | refine blk_alloc ?_ _)); exact BK182.out) hb); replace BK189 := Aside0.mk (blk_below (g := gb189) (o := .cells #[.int .i64 ((rd_T63 l0_1 t185).f0), .slice (some ad194) ((rd_T63 l0_1 t185).f1).length c188_1] 63 (0, 0)) (by (with_reducible repeat (first | refine blk_drewN ?_ _ | refine blk_drew ?_ | refine blk_alloc ?_ _)); exact BK189.out) hb); replace HB := Aside0.mk (below_step (TB3 GE181.out GE182.out GE189.out) hb); (try clear hb); (try clear hb2); (try clear hk); (try clear hi)))
                        go_ret
                        exact ⟨TR, TB3 GE181.out GE182.out GE189.out⟩
                       ·rw [if_neg c215] at H
                        have c215b0 : (x20_3 == (wrap64 (t190 + ((rd_T63 l0_1 t185).f0)))) = false := beq_eq_false_iff_ne.mpr c215
                        have c215b1 : (x20_3 != (wrap64 (t190 + ((rd_T63 l0_1 t185).f0)))) = true := bne_iff_ne.mpr c215
                        obtain rfl := Option.some.inj H
                        have hnb221 := NB189_181.out
                        have hnc221 := NB181_189.out
                        have hnb222 := NB189_182.out
                        have hnc222 := NB182_189.out
                        have hcz223_0 := czz BK189.out 0
                        have hcz223_1 := czz BK189.out 1
                        have hfz223_0 := fz BK189.out 0
                        have hfz223_1 := fz BK189.out 1
                        have p206 : 0 ≤ (t186 : Int) := of_decide_eq_true TA
                        have q206 : t186 < (((rd_T63 l0_1 t185).f1).length : Int) := of_decide_eq_true TA
                        obtain ⟨ad206, A206_0, c206_0, e206, hx206_0, hl206_0, hi206_0⟩ := at_L1 HR188_1.out t186 p206 q206
                        obtain rfl : ad194 = ad206 := (by injection e206)
                        replace hx206_0 := (HB.out.cell  (World.block_lt_of_cell? w _ hx206_0)).trans hx206_0
                        have HR206_0 := Aside0.mk hi206_0
                        have HC206_0 := Aside0.mk hl206_0
                        clear hi206_0 hl206_0
                        replace p206 := eq_true p206
                        replace q206 := eq_true q206
                        go_wp2
                        go_ret
                        exact ⟨TR, TB3 GE181.out GE182.out GE189.out⟩
                      ·rw [if_neg c214] at H
                       have c214b0 : decide (x18_3 < x19_3) = false := decide_eq_false c214
                       clear c214
                       obtain rfl := Option.some.inj H
                       have hnb224 := NB189_181.out
                       have hnc224 := NB181_189.out
                       have hnb225 := NB189_182.out
                       have hnc225 := NB182_189.out
                       have hcz226_0 := czz BK189.out 0
                       have hcz226_1 := czz BK189.out 1
                       have hfz226_0 := fz BK189.out 0
                       have hfz226_1 := fz BK189.out 1
                       have p206 : 0 ≤ (t186 : Int) := of_decide_eq_true TA
                       have q206 : t186 < (((rd_T63 l0_1 t185).f1).length : Int) := of_decide_eq_true TA
                       obtain ⟨ad206, A206_0, c206_0, e206, hx206_0, hl206_0, hi206_0⟩ := at_L1 HR188_1.out t186 p206 q206
                       obtain rfl : ad194 = ad206 := (by injection e206)
                       replace hx206_0 := (HB.out.cell  (World.block_lt_of_cell? w _ hx206_0)).trans hx206_0
                       have HR206_0 := Aside0.mk hi206_0
                       have HC206_0 := Aside0.mk hl206_0
                       clear hi206_0 hl206_0
                       replace p206 := eq_true p206
                       replace q206 := eq_true q206
                       go_wp2
                       go_ret
                       exact ⟨TR, TB3 GE181.out GE182.out GE189.out⟩
                     ·rw [if_neg c213] at H
                      have c213b0 : (t192 == 0) = false := beq_eq_false_iff_ne.mpr c213
                      have c213b1 : (t192 != 0) = true := bne_iff_ne.mpr c213
                      obtain rfl := Option.some.inj H
                      have hnb227 := NB189_181.out
                      have hnc227 := NB181_189.out
                      have hnb228 := NB189_182.out
                      have hnc228 := NB182_189.out
                      have hcz229_0 := czz BK189.out 0
                      have hcz229_1 := czz BK189.out 1
                      have hfz229_0 := fz BK189.out 0
                      have hfz229_1 := fz BK189.out 1
                      have p206 : 0 ≤ (t186 : Int) := of_decide_eq_true TA
                      have q206 : t186 < (((rd_T63 l0_1 t185).f1).length : Int) := of_decide_eq_true TA
                      obtain ⟨ad206, A206_0, c206_0, e206, hx206_0, hl206_0, hi206_0⟩ := at_L1 HR188_1.out t186 p206 q206
                      obtain rfl : ad194 = ad206 := (by injection e206)
                      replace hx206_0 := (HB.out.cell  (World.block_lt_of_cell? w _ hx206_0)).trans hx206_0
                      have HR206_0 := Aside0.mk hi206_0
                      have HC206_0 := Aside0.mk hl206_0
                      clear hi206_0 hl206_0
                      replace p206 := eq_true p206
                      replace q206 := eq_true q206
                      go_wp2
                      go_ret
                      exact ⟨TR, TB3 GE181.out GE182.out GE189.out⟩
                    ·rw [if_neg c212] at H
                     have c212b0 : (t193 == 4) = false := beq_eq_false_iff_ne.mpr c212
                     have c212b1 : (t193 != 4) = true := bne_iff_ne.mpr c212
                     obtain rfl := Option.some.inj H
                     have hnb230 := NB189_181.out
                     have hnc230 := NB181_189.out
                     have hnb231 := NB189_182.out
                     have hnc231 := NB182_189.out
                     have hcz232_0 := czz BK189.out 0
                     have hcz232_1 := czz BK189.out 1
                     have hfz232_0 := fz BK189.out 0
                     have hfz232_1 := fz BK189.out 1
                     have p206 : 0 ≤ (t186 : Int) := of_decide_eq_true TA
                     have q206 : t186 < (((rd_T63 l0_1 t185).f1).length : Int) := of_decide_eq_true TA
                     obtain ⟨ad206, A206_0, c206_0, e206, hx206_0, hl206_0, hi206_0⟩ := at_L1 HR188_1.out t186 p206 q206
                     obtain rfl : ad194 = ad206 := (by injection e206)
                     replace hx206_0 := (HB.out.cell  (World.block_lt_of_cell? w _ hx206_0)).trans hx206_0
                     have HR206_0 := Aside0.mk hi206_0
                     have HC206_0 := Aside0.mk hl206_0
                     clear hi206_0 hl206_0
                     replace p206 := eq_true p206
                     replace q206 := eq_true q206
                     go_wp2
                     go_ret
                     exact ⟨TR, TB3 GE181.out GE182.out GE189.out⟩
                  ·rw [if_neg c187] at H
                   exact absurd H (by simp)
                 ·rw [if_neg c186] at H
                  exact absurd H (by simp)
             ·rw [if_neg c144] at H
              have c144b0 : (t203 == 0) = false := beq_eq_false_iff_ne.mpr c144
              have c144b1 : (t203 != 0) = true := bne_iff_ne.mpr c144
              obtain rfl := Option.some.inj H
              have hnb233 := NB181_182.out
              have hnc233 := NB182_181.out
              have hnb234 := NB181_189.out
              have hnc234 := NB189_181.out
              have hcz235_0 := czz BK181.out 0
              have hcz235_1 := czz BK181.out 1
              have hfz235_0 := fz BK181.out 0
              have hfz235_1 := fz BK181.out 1
              go_wp2_with (first | ((with_reducible refine gate_callee (f := 19) rfl ?_); refine goesL_ (some 130) rfl rfl Tryd.func19 (by kernel_rfl) rfl #[.agg #[.int .i64 a0_0, .slice (some ad188) l0_1.length c0_1], .int .i64 t185, .int .i64 t186, .int .i64 (wrap64 (t190 + 1))] rfl TM ?_; (with_reducible refine (cycle_Next.calls a0_0 _ _ l0_1 t185 t186 (wrap64 (t190 + 1)) t202 t203 _ ?side1 ?side2 ?side3 A143.out).mono ?_); (case side1 => exact TC HR0_1.out); (case side2 => exact HC0_1.out); (case side3 => exact Glob.fr HG.out (Fr.of_below (TB3 GE181.out GE182.out GE189.out))); rintro e w236 ⟨rfl, hb⟩; refine ⟨_, rfl, ?_⟩; replace BK181 := Aside0.mk (blk_below (g := gb181) (o := .cells #[.int .i64 a0_0, .slice (some ad188) l0_1.length c0_1] 24 (0, 0)) (by (with_reducible repeat (first | refine blk_drewN ?_ _ | refine blk_drew ?_ | refine blk_alloc ?_ _)); exact BK181.out) hb); replace BK182 := Aside0.mk (blk_below (g := gb182) (o := .cells #[.int .i64 a1_0, .int .i64 a1_1, .int .i64 a1_2] 25 (0, 0)) (by (with_reducible repeat (first | refine blk_drewN ?_ _ | refine blk_drew ?_ | refine blk_alloc ?_ _)); exact BK182.out) hb); replace BK189 := Aside0.mk (blk_below (g := gb189) (o := .cells #[.int .i64 ((rd_T63 l0_1 t185).f0), .slice (some ad194) ((rd_T63 l0_1 t185).f1).length c188_1] 63 (0, 0)) (by (with_reducible repeat (first | refine blk_drewN ?_ _ | refine blk_drew ?_ | refine blk_alloc ?_ _)); exact BK189.out) hb); replace HB := Aside0.mk (below_step (TB3 GE181.out GE182.out GE189.out) hb); (try clear hb); (try clear hb2); (try clear hk); (try clear hi)))
              go_ret
              exact ⟨TR, TB3 GE181.out GE182.out GE189.out⟩
     ·rw [if_neg c13] at H
      exact absurd H (by simp)
    ·rw [if_neg c12] at H
     exact absurd H (by simp)
   ·rw [if_neg c9] at H
    exact absurd H (by simp)
  ·rw [if_neg c8] at H
   exact absurd H (by simp)
 ·replace c4 := Bool.eq_false_iff.mpr c4
  subst c4
  have H1 : ((saronlaw05_marked.f).bind fun t184 => (some t184)) = some r := by rw [if_neg (show ¬ (false = true) by decide)] at H; exact H
  clear H
  have H := H1
  clear H1
  replace H := Option.bind_eq_some_iff.mp H
  obtain ⟨t184, A2370, H⟩ := H
  replace H : (some t184) = some r := H
  have A237 := Aside0.mk A2370
  clear A2370
  obtain rfl := Option.some.inj H
  go_enter Tryd.func7, Tryd.ntmps7
  go_wp2_with (first | ((with_reducible refine gate_dst (N := 2) rfl ?_); (try (refine gate_guard (by rfl) ?_; dsimp only)); refine box_event ?hg (N := 2) ?hd (cs := #[.int .i64 a0_0, .slice A0_1 l0_1.length c0_1]) (t := 24) ?hr ?_; (case hd => rfl); (case hg => rfl); (case hr => exact TS); intro gb181 hg w238 hbox hb; have BK181 := Aside0.mk (hbox); have GW181 := Aside0.mk ((TG : w.heap.size ≤ gb181)); have GE181 := Aside0.mk ((TG : w.heap.size ≤ gb181)); replace HB := Aside0.mk (below_step TB hb); clear hb hbox hg) | ((with_reducible refine gate_dst (N := 3) rfl ?_); (try (refine gate_guard (by rfl) ?_; dsimp only)); refine box_event ?hg (N := 3) ?hd (cs := #[.int .i64 a1_0, .int .i64 a1_1, .int .i64 a1_2]) (t := 25) ?hr ?_; (case hd => rfl); (case hg => rfl); (case hr => exact TS); intro gb182 hg w239 hbox hb; have BK182 := Aside0.mk (hbox); have GW182 := Aside0.mk ((TG1 GE181.out : w.heap.size ≤ gb182)); have GE182 := Aside0.mk ((TG1 GE181.out : w.heap.size ≤ gb182)); have NB181_182 := Aside0.mk ((by rw [hg]; exact Nat.ne_of_lt (blk_lt (g := gb181) (o := .cells #[.int .i64 a0_0, .slice A0_1 l0_1.length c0_1] 24 (0, 0)) (by (with_reducible repeat (first | refine blk_drewN ?_ _ | refine blk_drew ?_ | refine blk_alloc ?_ _)); exact BK181.out)) : gb181 ≠ gb182)); have NB182_181 := Aside0.mk ((by rw [hg]; exact Nat.ne_of_gt (blk_lt (g := gb181) (o := .cells #[.int .i64 a0_0, .slice A0_1 l0_1.length c0_1] 24 (0, 0)) (by (with_reducible repeat (first | refine blk_drewN ?_ _ | refine blk_drew ?_ | refine blk_alloc ?_ _)); exact BK181.out)) : gb182 ≠ gb181)); replace BK181 := Aside0.mk (blk_below (g := gb181) (o := .cells #[.int .i64 a0_0, .slice A0_1 l0_1.length c0_1] 24 (0, 0)) (by (with_reducible repeat (first | refine blk_drewN ?_ _ | refine blk_drew ?_ | refine blk_alloc ?_ _)); exact BK181.out) hb); replace HB := Aside0.mk (below_step (TB1 GE181.out) hb); clear hb hbox hg; have hnb240 := NB181_182.out; have hnc240 := NB182_181.out; have hcz241_0 := czz BK181.out 0; have hcz241_1 := czz BK181.out 1; have hfz241_0 := fz BK181.out 0; have hfz241_1 := fz BK181.out 1) | ((with_reducible refine gate_callee (f := 39) rfl ?_); refine goesL_ (some 25) rfl rfl Tryd.func39 (by kernel_rfl) rfl #[.agg #[.int .i64 a0_0, .slice A0_1 l0_1.length c0_1]] rfl TM ?_; (with_reducible refine (saronlaw05_sound.calls k a0_0 _ _ l0_1 false _ ?side1 ?side2 A3.out).mono ?_); (case side1 => exact TC HR0_1.out); (case side2 => exact HC0_1.out); rintro e w242 ⟨rfl, hb⟩; refine ⟨_, rfl, ?_⟩; replace BK181 := Aside0.mk (blk_below (g := gb181) (o := .cells #[.int .i64 a0_0, .slice A0_1 l0_1.length c0_1] 24 (0, 0)) (by (with_reducible repeat (first | refine blk_drewN ?_ _ | refine blk_drew ?_ | refine blk_alloc ?_ _)); exact BK181.out) hb); replace BK182 := Aside0.mk (blk_below (g := gb182) (o := .cells #[.int .i64 a1_0, .int .i64 a1_1, .int .i64 a1_2] 25 (0, 0)) (by (with_reducible repeat (first | refine blk_drewN ?_ _ | refine blk_drew ?_ | refine blk_alloc ?_ _)); exact BK182.out) hb); replace HB := Aside0.mk (below_step (TB2 GE181.out GE182.out) hb); (try clear hb); (try clear hb2); (try clear hk); (try clear hi)) | ((with_reducible refine gate_callee (f := 23) rfl ?_); refine goesL_ (some 27) rfl rfl Tryd.func23 (by kernel_rfl) rfl #[] rfl TM ?_; (with_reducible refine (saronlaw05_marked.calls  t184 _ ?side1 A237.out).mono ?_); (case side1 => exact Glob.fr HG.out (Fr.of_below (TB2 GE181.out GE182.out))); rintro e w243 ⟨rfl, hb⟩; refine ⟨_, rfl, ?_⟩; replace BK181 := Aside0.mk (blk_below (g := gb181) (o := .cells #[.int .i64 a0_0, .slice A0_1 l0_1.length c0_1] 24 (0, 0)) (by (with_reducible repeat (first | refine blk_drewN ?_ _ | refine blk_drew ?_ | refine blk_alloc ?_ _)); exact BK181.out) hb); replace BK182 := Aside0.mk (blk_below (g := gb182) (o := .cells #[.int .i64 a1_0, .int .i64 a1_1, .int .i64 a1_2] 25 (0, 0)) (by (with_reducible repeat (first | refine blk_drewN ?_ _ | refine blk_drew ?_ | refine blk_alloc ?_ _)); exact BK182.out) hb); replace HB := Aside0.mk (below_step (TB2 GE181.out GE182.out) hb); (try clear hb); (try clear hb2); (try clear hk); (try clear hi)))
  go_ret
  exact ⟨TR, TB2 GE181.out GE182.out⟩
end Go.Proofs.YtephecfapclgfaaDoor.PRaspKeys
