import Derived.Test.YtephecfapclgfaaDoorG7
import Derived.Test.YtephecfapclgfaaDoorCS
import Derived.Test.YtephecfapclgfaaDoorCA
import Derived.Test.YtephecfapclgfaaDoorM0
import Derived.Test.YtephecfapclgfaaDoorProg
import Derived.Below
import Derived.Deep.Draws
import Derived.Deep.AppendLies
import Derived.Maps.AppendAt
import Derived.OwnWalk
import Derived.Laws.BytesArg
import Derived.Laws.MakeOwn
import Derived.Laws.OwnMore
import Derived.Deep.OwnRows
import Derived.Tactics
import Derived.Lib.ConvBytes
import Derived.Laws.Slices
import Derived.WalkKit
import Derived.KernelRfl
import Derived.RowKit3
import Derived.Deep.LoopGhost
import Derived.Deep.QuietTactic
import Derived.BigQuiet
import Derived.WideLaws
import Derived.Deep.DeepCutAuto
import Derived.Deep.CutBlock
import Derived.Deep.RegionHeld3
import Derived.Laws.Rows
import Derived.Lib.AppendStr
import Derived.ArgAppend
import Derived.Laws.IdiomCopy
import Derived.OrdersHeld
import Derived.Laws.BitsLemmas
import Derived.RowKit
set_option linter.unusedVariables false
set_option linter.unusedSimpArgs false
namespace Go.Proofs.YtephecfapclgfaaDoor.M
open Go.RowKit Go.Proofs.YtephecfapclgfaaDoorW.PrintWords Go.Proofs.YtephecfapclgfaaDoorW.PrintLast
theorem czz {w : World} {g : Nat} {cs : Array Value} {t : TypeId} {v : Value} (h : w.heap[g]? = some (.cells cs t (0, 0))) (i : Nat) (hv : cs[i]? = some v := by (first | (simp only [List.getElem?_toArray, List.getElem?_cons_zero, List.getElem?_cons_succ]; rfl) | exact rfl)) : w.cell? ⟨g, i, none⟩ = some v := (blk_cell h i).trans hv
end Go.Proofs.YtephecfapclgfaaDoor.M
namespace Go.Proofs.YtephecfapclgfaaDoor.PRaspKeys
open Go.RowKit Go.Proofs.YtephecfapclgfaaDoorW.PrintWords Go.Proofs.YtephecfapclgfaaDoorW.PrintLast Go.Proofs.YtephecfapclgfaaDoorW.PrintMore Go.Proofs.YtephecfapclgfaaDoor.M
attribute [local go_sem] max2_int min2_int max_two min_two max_three min_three max_four min_four   -- for this text's walks alone
/-! #### struct type 63 -/
/-! #### struct type 38 -/
/-! #### struct type 97 -/
end Go.Proofs.YtephecfapclgfaaDoor.PRaspKeys
namespace Go.Proofs.YtephecfapclgfaaDoor.PRaspKeys
open Go.RowKit Go.Proofs.YtephecfapclgfaaDoorW.PrintWords Go.Proofs.YtephecfapclgfaaDoorW.PrintLast Go.Proofs.YtephecfapclgfaaDoorW.PrintMore Go.Proofs.YtephecfapclgfaaDoor.M
attribute [local go_sem] max2_int min2_int max_two min_two max_three min_three max_four min_four   -- for this text's walks alone
end Go.Proofs.YtephecfapclgfaaDoor.PRaspKeys
namespace Go.Proofs.YtephecfapclgfaaDoor.PRaspKeys
open Go.RowKit Go.Proofs.YtephecfapclgfaaDoorW.PrintWords Go.Proofs.YtephecfapclgfaaDoorW.PrintLast Go.Proofs.YtephecfapclgfaaDoorW.PrintMore Go.Proofs.YtephecfapclgfaaDoor.M
attribute [local go_sem] max2_int min2_int max_two min_two max_three min_three max_four min_four   -- for this text's walks alone
end Go.Proofs.YtephecfapclgfaaDoor.PRaspKeys
namespace Go.Proofs.YtephecfapclgfaaDoor.PRaspKeys
open Go.RowKit Go.Proofs.YtephecfapclgfaaDoorW.PrintWords Go.Proofs.YtephecfapclgfaaDoorW.PrintLast Go.Proofs.YtephecfapclgfaaDoorW.PrintMore Go.Proofs.YtephecfapclgfaaDoor.M
attribute [local go_sem] max2_int min2_int max_two min_two max_three min_three max_four min_four   -- for this text's walks alone
/-! ### saronlaw05_at: function 46 -/
def saronlaw05_at.f (a0 : Int) (a1 : Int) : Option (Int × Int) := some (a0, a1)
set_option maxHeartbeats 8000000 in
set_option maxRecDepth 100000 in
theorem saronlaw05_at.calls (a0 : Int) (a1 : Int) (r1 : Int) (r2 : Int) (w : World) (h : saronlaw05_at.f a0 a1 = some (r1, r2)) :
  Calls Tryd.prog 46 #[.int .i64 a0, .int .i64 a1] w fun e w' => e = .returned (.agg #[.int .i64 r1, .int .i64 r2]) ∧ Below w.heap.size w w' := by
 have hu38 := Tryd.underlying38
 have HB := Aside0.mk (Below.refl w.heap.size w)
 have H : (some (a0, a1)) = some (r1, r2) := h
 clear h
 simp only [Option.some.injEq, Prod.mk.injEq] at H
 obtain ⟨rfl, rfl⟩ := H
 go_enter Tryd.func46, Tryd.ntmps46
 go_wp2_with (first | ((with_reducible refine gate_dst (N := 4) rfl ?_); refine box_event ?hg (N := 4) ?hd (cs := #[.int .i64 0, .int .i64 0]) (t := 38) ?hr ?_; (case hd => rfl); (case hg => rfl); (case hr => exact TS); intro gb192 hg w3 hbox hb; have BK192 := Aside0.mk (hbox); have GW192 := Aside0.mk ((TG : w.heap.size ≤ gb192)); have GE192 := Aside0.mk ((TG : w.heap.size ≤ gb192)); replace HB := Aside0.mk (below_step TB hb); clear hb hbox hg; have hcz4_0 := czz BK192.out 0; have hcz4_1 := czz BK192.out 1; have hfz4_0 := fz BK192.out 0; have hfz4_1 := fz BK192.out 1))
 refine bodyPost_ret (results_cell_row rfl _ _ gb192 38 #[.int .i64 a0, .int .i64 a1] (0, 0) _ rfl (by (with_reducible repeat (first | refine blk_drewN ?_ _ | refine blk_drew ?_ | refine blk_alloc ?_ _)); refine blk_put (cs := #[.int .i64 a0, .int .i64 0]) ?_ 1 _ rfl; (with_reducible repeat (first | refine blk_drewN ?_ _ | refine blk_drew ?_ | refine blk_alloc ?_ _)); refine blk_put (cs := #[.int .i64 0, .int .i64 0]) ?_ 0 _ rfl; (with_reducible repeat (first | refine blk_drewN ?_ _ | refine blk_drew ?_ | refine blk_alloc ?_ _)); exact BK192.out) Tryd.underlying38 rfl (by kernel_rfl)) rfl ?_
 exact ⟨TR, TB1 GE192.out⟩
end Go.Proofs.YtephecfapclgfaaDoor.PRaspKeys
namespace Go.Proofs.YtephecfapclgfaaDoor.PRaspKeys
open Go.RowKit Go.Proofs.YtephecfapclgfaaDoorW.PrintWords Go.Proofs.YtephecfapclgfaaDoorW.PrintLast Go.Proofs.YtephecfapclgfaaDoorW.PrintMore Go.Proofs.YtephecfapclgfaaDoor.M
attribute [local go_sem] max2_int min2_int max_two min_two max_three min_three max_four min_four   -- for this text's walks alone
/-! ### saronlaw05_CycleStrokes: function 3 -/
mutual
def saronlaw05_CycleStrokes.j0 : Nat → Bool → Int → List (S63) → Int → Int → Int → Option (Bool)
 | 0, _, _, _, _, _, _ => none
 | k + 1, x44, x234000, x234001, x235000, x235001, x235002 => if x44 = true then (some false) else ((cycle_Next.f x234000 x234001 x235000 x235001 x235002).bind fun bt246 => ((saronref05_Next.f k x234000 x234001 x235000 x235001 x235002).bind fun bt248 => (if bt246.1 = bt248.1 then (saronlaw05_CycleStrokes.j1 k (bt246.2 != bt248.2) x234000 x234001 x235000 x235001 x235002) else (saronlaw05_CycleStrokes.j1 k true x234000 x234001 x235000 x235001 x235002))))
def saronlaw05_CycleStrokes.j1 : Nat → Bool → Int → List (S63) → Int → Int → Int → Option (Bool)
 | 0, _, _, _, _, _, _ => none
 | k + 1, x74, x234000, x234001, x235000, x235001, x235002 => if x74 = true then (some false) else ((cycle_Even.f x234000 x234001 x235000 x235001).bind fun bt250 => ((saronref05_Even.f k x234000 x234001 x235000 x235001).bind fun bt252 => (if bt250.1 = bt252.1 then (if bt250.2 = bt252.2 then ((saronlaw05_marked.f).bind fun t254 => (some t254)) else (some false)) else (some false))))
end
def saronlaw05_CycleStrokes.f (k : Nat) (a0_0 : Int) (l0_1 : List (S63)) (a1_0 : Int) (a1_1 : Int) (a1_2 : Int) : Option (Bool) := (cycle_Struck.f a0_0 l0_1 a1_0 a1_2).bind fun bt235 => ((saronref05_Struck.f k a0_0 l0_1 a1_0 a1_2).bind fun bt239 => ((saronref00_Equal.f k bt235.1 bt239.1).bind fun t243 => (if t243 = true then (if bt235.2 = bt239.2 then ((cycle_Check.f k a0_0 l0_1).bind fun t244 => ((saronref05_Check.f k a0_0 l0_1).bind fun t245 => (saronlaw05_CycleStrokes.j0 k (t244 != t245) a0_0 l0_1 a1_0 a1_1 a1_2))) else (saronlaw05_CycleStrokes.j0 k true a0_0 l0_1 a1_0 a1_1 a1_2)) else (saronlaw05_CycleStrokes.j0 k true a0_0 l0_1 a1_0 a1_1 a1_2))))
theorem saronlaw05_CycleStrokes.mono_l : ∀ k, (∀ y0 y1 y2 y3 y4 y5, LeO (saronlaw05_CycleStrokes.j0 k y0 y1 y2 y3 y4 y5) (saronlaw05_CycleStrokes.j0 (k + 1) y0 y1 y2 y3 y4 y5)) ∧ (∀ y0 y1 y2 y3 y4 y5, LeO (saronlaw05_CycleStrokes.j1 k y0 y1 y2 y3 y4 y5) (saronlaw05_CycleStrokes.j1 (k + 1) y0 y1 y2 y3 y4 y5))
 | 0 => ⟨fun _ _ _ _ _ _ r h => by simp [saronlaw05_CycleStrokes.j0] at h, fun _ _ _ _ _ _ r h => by simp [saronlaw05_CycleStrokes.j1] at h⟩
 | k + 1 => by
  obtain ⟨ih0, ih1⟩ := saronlaw05_CycleStrokes.mono_l k
  refine ⟨?_, ?_⟩
  ·intro y0 y1 y2 y3 y4 y5
   unfold saronlaw05_CycleStrokes.j0
   repeat' first
   | (with_reducible exact ih0 _ _ _ _ _ _)
   | (with_reducible exact ih1 _ _ _ _ _ _)
   | (with_reducible exact cycle_Check.mono _ _ _)
   | (with_reducible exact saronref00_Equal.mono _ _ _)
   | (with_reducible exact saronref05_Check.mono _ _ _)
   | (with_reducible exact saronref05_Even.mono _ _ _ _ _)
   | (with_reducible exact saronref05_Next.mono _ _ _ _ _ _)
   | (with_reducible exact saronref05_Struck.mono _ _ _ _ _)
   | (with_reducible exact LeO.refl _)
   | (with_reducible exact LeO.none _)
   | (with_reducible refine LeO.ite ?_ ?_)
   | (with_reducible refine LeO.bind ?_ (fun _ => ?_))
   | exact ih0 _ _ _ _ _ _
   | exact ih1 _ _ _ _ _ _
   | exact cycle_Check.mono _ _ _
   | exact saronref00_Equal.mono _ _ _
   | exact saronref05_Check.mono _ _ _
   | exact saronref05_Even.mono _ _ _ _ _
   | exact saronref05_Next.mono _ _ _ _ _ _
   | exact saronref05_Struck.mono _ _ _ _ _
   | exact LeO.none _
   | refine LeO.ite ?_ ?_
   | refine LeO.bind ?_ (fun _ => ?_)
  ·intro y0 y1 y2 y3 y4 y5
   unfold saronlaw05_CycleStrokes.j1
   repeat' first
   | (with_reducible exact ih0 _ _ _ _ _ _)
   | (with_reducible exact ih1 _ _ _ _ _ _)
   | (with_reducible exact cycle_Check.mono _ _ _)
   | (with_reducible exact saronref00_Equal.mono _ _ _)
   | (with_reducible exact saronref05_Check.mono _ _ _)
   | (with_reducible exact saronref05_Even.mono _ _ _ _ _)
   | (with_reducible exact saronref05_Next.mono _ _ _ _ _ _)
   | (with_reducible exact saronref05_Struck.mono _ _ _ _ _)
   | (with_reducible exact LeO.refl _)
   | (with_reducible exact LeO.none _)
   | (with_reducible refine LeO.ite ?_ ?_)
   | (with_reducible refine LeO.bind ?_ (fun _ => ?_))
   | exact ih0 _ _ _ _ _ _
   | exact ih1 _ _ _ _ _ _
   | exact cycle_Check.mono _ _ _
   | exact saronref00_Equal.mono _ _ _
   | exact saronref05_Check.mono _ _ _
   | exact saronref05_Even.mono _ _ _ _ _
   | exact saronref05_Next.mono _ _ _ _ _ _
   | exact saronref05_Struck.mono _ _ _ _ _
   | exact LeO.none _
   | refine LeO.ite ?_ ?_
   | refine LeO.bind ?_ (fun _ => ?_)
theorem saronlaw05_CycleStrokes.mono : ∀ a0 a1 a2 a3 a4 k, LeO (saronlaw05_CycleStrokes.f k a0 a1 a2 a3 a4) (saronlaw05_CycleStrokes.f (k + 1) a0 a1 a2 a3 a4) := by
 intro a0 a1 a2 a3 a4 k
 obtain ⟨ih0, ih1⟩ := saronlaw05_CycleStrokes.mono_l k
 unfold saronlaw05_CycleStrokes.f
 repeat' first
   | (with_reducible exact ih0 _ _ _ _ _ _)
   | (with_reducible exact ih1 _ _ _ _ _ _)
   | (with_reducible exact cycle_Check.mono _ _ _)
   | (with_reducible exact saronref00_Equal.mono _ _ _)
   | (with_reducible exact saronref05_Check.mono _ _ _)
   | (with_reducible exact saronref05_Even.mono _ _ _ _ _)
   | (with_reducible exact saronref05_Next.mono _ _ _ _ _ _)
   | (with_reducible exact saronref05_Struck.mono _ _ _ _ _)
   | (with_reducible exact LeO.refl _)
   | (with_reducible exact LeO.none _)
   | (with_reducible refine LeO.ite ?_ ?_)
   | (with_reducible refine LeO.bind ?_ (fun _ => ?_))
   | exact ih0 _ _ _ _ _ _
   | exact ih1 _ _ _ _ _ _
   | exact cycle_Check.mono _ _ _
   | exact saronref00_Equal.mono _ _ _
   | exact saronref05_Check.mono _ _ _
   | exact saronref05_Even.mono _ _ _ _ _
   | exact saronref05_Next.mono _ _ _ _ _ _
   | exact saronref05_Struck.mono _ _ _ _ _
   | exact LeO.none _
   | refine LeO.ite ?_ ?_
   | refine LeO.bind ?_ (fun _ => ?_)
def saronlaw05_CycleStrokes.T3 : Bool × List (List Nat × List Nat) := (true, [([], []), ([], []), ([0, 1], [0, 1]), ([2], [2]), ([3, 2], [3]), ([4], [4]), ([4], [4]), ([5, 6, 4], [4, 5, 6]), ([4, 7], [4, 7]), ([8, 4], [8]), ([9], [9]), ([10, 9, 9], [9, 10]), ([9], [9]), ([12, 11, 9], [9, 12]), ([11, 13, 9], [9, 11, 13]), ([9, 14], [9, 14])])
def saronlaw05_CycleStrokes.B3 : List Nat := [0, 0, 3, 7, 15, 31, 31, 127, 255, 511, 1023, 2047, 1023, 8191, 16383, 32767]
theorem saronlaw05_CycleStrokes.tab3 : rtab .any (opsOf Tryd.f3 3) = saronlaw05_CycleStrokes.T3 := by kernel_rfl
theorem saronlaw05_CycleStrokes.bits3 : waitsOk saronlaw05_CycleStrokes.T3.2 saronlaw05_CycleStrokes.B3 = true := by kernel_rfl
set_option maxHeartbeats 8000000 in
set_option maxRecDepth 100000 in
theorem saronlaw05_CycleStrokes.calls (k : Nat) (a0_0 : Int) (A0_1 : Option Addr) (c0_1 : Nat) (l0_1 : List (S63)) (a1_0 : Int) (a1_1 : Int) (a1_2 : Int) (r : Bool) (w : World) (hr0_1 : Kd.C k63 w A0_1 l0_1.length l0_1) (hc0_1 : l0_1.length ≤ c0_1) (hG : Glob w) (h : saronlaw05_CycleStrokes.f k a0_0 l0_1 a1_0 a1_1 a1_2 = some r) :
  Calls Tryd.prog 3 #[.agg #[.int .i64 a0_0, .slice A0_1 l0_1.length c0_1], .agg #[.int .i64 a1_0, .int .i64 a1_1, .int .i64 a1_2]] w fun e w' => e = .returned (.bool r) ∧ Below w.heap.size w w' := by
 have hu24 := Tryd.underlying24
 have hu25 := Tryd.underlying25
 have HR0_1 := Aside0.mk hr0_1
 have HC0_1 := Aside0.mk hc0_1
 clear hr0_1 hc0_1
 have HB := Aside0.mk (Below.refl w.heap.size w)
 have HG := Aside0.mk hG
 clear hG
 have H : ((cycle_Struck.f a0_0 l0_1 a1_0 a1_2).bind fun bt235 => ((saronref05_Struck.f k a0_0 l0_1 a1_0 a1_2).bind fun bt239 => ((saronref00_Equal.f k bt235.1 bt239.1).bind fun t243 => (if t243 = true then (if bt235.2 = bt239.2 then ((cycle_Check.f k a0_0 l0_1).bind fun t244 => ((saronref05_Check.f k a0_0 l0_1).bind fun t245 => (saronlaw05_CycleStrokes.j0 k (t244 != t245) a0_0 l0_1 a1_0 a1_1 a1_2))) else (saronlaw05_CycleStrokes.j0 k true a0_0 l0_1 a1_0 a1_1 a1_2)) else (saronlaw05_CycleStrokes.j0 k true a0_0 l0_1 a1_0 a1_1 a1_2))))) = some r := h
 clear h
 replace H := Option.bind_eq_some_iff.mp H
 obtain ⟨⟨t235, t238⟩, A30, H⟩ := H
 replace H : ((saronref05_Struck.f k a0_0 l0_1 a1_0 a1_2).bind fun bt239 => ((saronref00_Equal.f k t235 bt239.1).bind fun t243 => (if t243 = true then (if t238 = bt239.2 then ((cycle_Check.f k a0_0 l0_1).bind fun t244 => ((saronref05_Check.f k a0_0 l0_1).bind fun t245 => (saronlaw05_CycleStrokes.j0 k (t244 != t245) a0_0 l0_1 a1_0 a1_1 a1_2))) else (saronlaw05_CycleStrokes.j0 k true a0_0 l0_1 a1_0 a1_1 a1_2)) else (saronlaw05_CycleStrokes.j0 k true a0_0 l0_1 a1_0 a1_1 a1_2)))) = some r := H
 have A3 := Aside0.mk A30
 clear A30
 replace H := Option.bind_eq_some_iff.mp H
 obtain ⟨⟨t239, t242⟩, A40, H⟩ := H
 replace H : ((saronref00_Equal.f k t235 t239).bind fun t243 => (if t243 = true then (if t238 = t242 then ((cycle_Check.f k a0_0 l0_1).bind fun t244 => ((saronref05_Check.f k a0_0 l0_1).bind fun t245 => (saronlaw05_CycleStrokes.j0 k (t244 != t245) a0_0 l0_1 a1_0 a1_1 a1_2))) else (saronlaw05_CycleStrokes.j0 k true a0_0 l0_1 a1_0 a1_1 a1_2)) else (saronlaw05_CycleStrokes.j0 k true a0_0 l0_1 a1_0 a1_1 a1_2))) = some r := H
 have A4 := Aside0.mk A40
 clear A40
 have HC5 := Aside0.mk H
 clear H
 go_enter Tryd.func3, Tryd.ntmps3
 go_upto_region 3 with (first | ((with_reducible refine gate_dst (N := 2) rfl ?_); refine box_event ?hg (N := 2) ?hd (cs := #[.int .i64 a0_0, .slice A0_1 l0_1.length c0_1]) (t := 24) ?hr ?_; (case hd => rfl); (case hg => rfl); (case hr => exact TS); intro gb233 hg w6 hbox hb; have BK233 := Aside0.mk (hbox); have GW233 := Aside0.mk ((TG : w.heap.size ≤ gb233)); have GE233 := Aside0.mk ((TG : w.heap.size ≤ gb233)); replace HB := Aside0.mk (below_step TB hb); clear hb hbox hg) | ((with_reducible refine gate_dst (N := 3) rfl ?_); refine box_event ?hg (N := 3) ?hd (cs := #[.int .i64 a1_0, .int .i64 a1_1, .int .i64 a1_2]) (t := 25) ?hr ?_; (case hd => rfl); (case hg => rfl); (case hr => exact TS); intro gb234 hg w7 hbox hb; have BK234 := Aside0.mk (hbox); have GW234 := Aside0.mk ((TG1 GE233.out : w.heap.size ≤ gb234)); have GE234 := Aside0.mk ((TG1 GE233.out : w.heap.size ≤ gb234)); have NB233_234 := Aside0.mk ((by rw [hg]; exact Nat.ne_of_lt (blk_lt (g := gb233) (o := .cells #[.int .i64 a0_0, .slice A0_1 l0_1.length c0_1] 24 (0, 0)) (by (with_reducible repeat (first | refine blk_drewN ?_ _ | refine blk_drew ?_ | refine blk_alloc ?_ _)); exact BK233.out)) : gb233 ≠ gb234)); have NB234_233 := Aside0.mk ((by rw [hg]; exact Nat.ne_of_gt (blk_lt (g := gb233) (o := .cells #[.int .i64 a0_0, .slice A0_1 l0_1.length c0_1] 24 (0, 0)) (by (with_reducible repeat (first | refine blk_drewN ?_ _ | refine blk_drew ?_ | refine blk_alloc ?_ _)); exact BK233.out)) : gb234 ≠ gb233)); replace BK233 := Aside0.mk (blk_below (g := gb233) (o := .cells #[.int .i64 a0_0, .slice A0_1 l0_1.length c0_1] 24 (0, 0)) (by (with_reducible repeat (first | refine blk_drewN ?_ _ | refine blk_drew ?_ | refine blk_alloc ?_ _)); exact BK233.out) hb); replace HB := Aside0.mk (below_step (TB1 GE233.out) hb); clear hb hbox hg; have hnb8 := NB233_234.out; have hnc8 := NB234_233.out; have hcz9_0 := czz BK233.out 0; have hcz9_1 := czz BK233.out 1; have hfz9_0 := fz BK233.out 0; have hfz9_1 := fz BK233.out 1; have hcz10_0 := czz BK234.out 0; have hcz10_1 := czz BK234.out 1; have hcz10_2 := czz BK234.out 2; have hfz10_0 := fz BK234.out 0; have hfz10_1 := fz BK234.out 1; have hfz10_2 := fz BK234.out 2) | ((with_reducible refine gate_callee (f := 14) rfl ?_); refine goesL_ (some 17) rfl rfl Tryd.func14 (by kernel_rfl) rfl #[.agg #[.int .i64 a0_0, .slice A0_1 l0_1.length c0_1], .int .i64 a1_0, .int .i64 a1_2] rfl TM ?_; (with_reducible refine (cycle_Struck.calls a0_0 _ _ l0_1 a1_0 a1_2 t235 t238 _ ?side1 ?side2 ?side3 A3.out).mono ?_); (case side1 => exact TC HR0_1.out); (case side2 => exact HC0_1.out); (case side3 => exact Glob.fr HG.out (Fr.of_below (TB2 GE233.out GE234.out))); rintro e w11 ⟨v236, rfl, ho0, hb⟩; refine ⟨_, rfl, ?_⟩; have HO237 := Aside0.mk (Kd.V_lower (Kd.V_mono (ok' := fun k_ => k_ ≠ gb233 ∧ k_ ≠ gb234) ho0 (fun k_ hk_ => ⟨(Kd.freshB (g := gb233) (o := .cells #[.int .i64 a0_0, .slice A0_1 l0_1.length c0_1] 24 (0, 0)) (by (with_reducible repeat (first | refine blk_drewN ?_ _ | refine blk_drew ?_ | refine blk_alloc ?_ _)); exact BK233.out) k_ hk_), (Kd.freshB (g := gb234) (o := .cells #[.int .i64 a1_0, .int .i64 a1_1, .int .i64 a1_2] 25 (0, 0)) (by (with_reducible repeat (first | refine blk_drewN ?_ _ | refine blk_drew ?_ | refine blk_alloc ?_ _)); exact BK234.out) k_ hk_)⟩)) (below_size (TB2 GE233.out GE234.out))); replace BK233 := Aside0.mk (blk_below (g := gb233) (o := .cells #[.int .i64 a0_0, .slice A0_1 l0_1.length c0_1] 24 (0, 0)) (by (with_reducible repeat (first | refine blk_drewN ?_ _ | refine blk_drew ?_ | refine blk_alloc ?_ _)); exact BK233.out) hb); replace BK234 := Aside0.mk (blk_below (g := gb234) (o := .cells #[.int .i64 a1_0, .int .i64 a1_1, .int .i64 a1_2] 25 (0, 0)) (by (with_reducible repeat (first | refine blk_drewN ?_ _ | refine blk_drew ?_ | refine blk_alloc ?_ _)); exact BK234.out) hb); replace HB := Aside0.mk (below_step (TB2 GE233.out GE234.out) hb); (try clear hb); (try clear hb2); (try clear hk); (try clear hi); (try clear ho0); have hcz12_0 := czz BK233.out 0; have hcz12_1 := czz BK233.out 1; have hfz12_0 := fz BK233.out 0; have hfz12_1 := fz BK233.out 1; have hcz13_0 := czz BK234.out 0; have hcz13_1 := czz BK234.out 1; have hcz13_2 := czz BK234.out 2; have hfz13_0 := fz BK234.out 0; have hfz13_1 := fz BK234.out 1; have hfz13_2 := fz BK234.out 2) | ((with_reducible refine gate_callee (f := 15) rfl ?_); refine goesL_ (some 26) rfl rfl Tryd.func15 (by kernel_rfl) rfl #[.agg #[.int .i64 a0_0, .slice A0_1 l0_1.length c0_1], .int .i64 a1_0, .int .i64 a1_2] rfl TM ?_; (with_reducible refine (saronref05_Struck.calls k a0_0 _ _ l0_1 a1_0 a1_2 t239 t242 _ ?side1 ?side2 A4.out).mono ?_); (case side1 => exact TC HR0_1.out); (case side2 => exact HC0_1.out); rintro e w14 ⟨v240, rfl, ho0, hb⟩; refine ⟨_, rfl, ?_⟩; have HO241 := Aside0.mk (Kd.R_lower ho0 (below_size (TB2 GE233.out GE234.out))); replace HO237 := Aside0.mk (Kd.V_elder' (by (with_reducible repeat (first | apply Kd.V_alloc | apply Kd.V_drewN | apply Kd.V_drew)); exact HO237.out) (Kd.R_base ho0) hb); replace BK233 := Aside0.mk (blk_below (g := gb233) (o := .cells #[.int .i64 a0_0, .slice A0_1 l0_1.length c0_1] 24 (0, 0)) (by (with_reducible repeat (first | refine blk_drewN ?_ _ | refine blk_drew ?_ | refine blk_alloc ?_ _)); exact BK233.out) hb); replace BK234 := Aside0.mk (blk_below (g := gb234) (o := .cells #[.int .i64 a1_0, .int .i64 a1_1, .int .i64 a1_2] 25 (0, 0)) (by (with_reducible repeat (first | refine blk_drewN ?_ _ | refine blk_drew ?_ | refine blk_alloc ?_ _)); exact BK234.out) hb); replace HB := Aside0.mk (below_step (TB2 GE233.out GE234.out) hb); (try clear hb); (try clear hb2); (try clear hk); (try clear hi); (try clear ho0)))
 (try simp only [Act.put, lA, lZ, lS])
 go_cut [44] (fun v44 wc => ∃ (kq : Nat) (x44_4 : Bool), v44 = .bool x44_4 ∧ Aside0 (saronlaw05_CycleStrokes.j0 kq x44_4 a0_0 l0_1 a1_0 a1_1 a1_2 = some r) ∧ Aside0 (kq ≤ k) ∧ Aside0 (wc.heap[gb233]? = some (.cells #[.int .i64 a0_0, (.slice A0_1 l0_1.length c0_1)] 24 (0, 0))) ∧ Aside0 (wc.heap[gb234]? = some (.cells #[.int .i64 a1_0, .int .i64 a1_1, .int .i64 a1_2] 25 (0, 0))) ∧ Aside0 (Below w.heap.size w wc))
 case first => as_aux_lemma =>
  have H := HC5.out
  clear HC5
  replace H := Option.bind_eq_some_iff.mp H
  obtain ⟨t243, A150, H⟩ := H
  replace H : (if t243 = true then (if t238 = t242 then ((cycle_Check.f k a0_0 l0_1).bind fun t244 => ((saronref05_Check.f k a0_0 l0_1).bind fun t245 => (saronlaw05_CycleStrokes.j0 k (t244 != t245) a0_0 l0_1 a1_0 a1_1 a1_2))) else (saronlaw05_CycleStrokes.j0 k true a0_0 l0_1 a1_0 a1_1 a1_2)) else (saronlaw05_CycleStrokes.j0 k true a0_0 l0_1 a1_0 a1_1 a1_2)) = some r := H
  have A15 := Aside0.mk A150
  clear A150
  by_cases c16 : t243 = true
  ·subst c16
   have H1 : (if t238 = t242 then ((cycle_Check.f k a0_0 l0_1).bind fun t244 => ((saronref05_Check.f k a0_0 l0_1).bind fun t245 => (saronlaw05_CycleStrokes.j0 k (t244 != t245) a0_0 l0_1 a1_0 a1_1 a1_2))) else (saronlaw05_CycleStrokes.j0 k true a0_0 l0_1 a1_0 a1_1 a1_2)) = some r := by rw [if_pos rfl] at H; exact H
   clear H
   have H := H1
   clear H1
   by_cases c17 : t238 = t242
   ·rw [if_pos c17] at H
    have c17b0 : (t238 == t242) = true := beq_iff_eq.mpr c17
    have c17b1 : (t238 != t242) = false := bne_eq_false_iff_eq.mpr c17
    clear c17
    (first | rw [c17b0] | (simp only [i64_w, i32_w]; rw [c17b0]) | skip)
    replace H := Option.bind_eq_some_iff.mp H
    obtain ⟨t244, A180, H⟩ := H
    replace H : ((saronref05_Check.f k a0_0 l0_1).bind fun t245 => (saronlaw05_CycleStrokes.j0 k (t244 != t245) a0_0 l0_1 a1_0 a1_1 a1_2)) = some r := H
    have A18 := Aside0.mk A180
    clear A180
    replace H := Option.bind_eq_some_iff.mp H
    obtain ⟨t245, A190, H⟩ := H
    replace H : (saronlaw05_CycleStrokes.j0 k (t244 != t245) a0_0 l0_1 a1_0 a1_1 a1_2) = some r := H
    have A19 := Aside0.mk A190
    clear A190
    have H' := Aside0.mk H
    clear H
    try go_wp2
    have n0_ := Aside0.mk (Kd.V_drew HO237.out)
    have n1_ := Aside0.mk (Kd.R_drew HO241.out)
    have n2_ := Aside0.mk (blk_drew BK233.out)
    have n3_ := Aside0.mk (blk_drew BK234.out)
    have n4_ := Aside0.mk (below_drew1 HB.out)
    clear HO237
    clear HO241
    clear BK233
    clear BK234
    clear HB
    have HO237 := n0_
    have HO241 := n1_
    have BK233 := n2_
    have BK234 := n3_
    have HB := n4_
    clear n0_ n1_ n2_ n3_ n4_
    obtain ⟨Ao21, co21, eo21⟩ := Kd.V_slice HO237.out
    (first | subst eo21 | (injection eo21 with f1_ f2_ f3_; have f4_ := f1_.symm; have f5_ := f3_.symm; clear f1_ f2_ f3_; subst f4_; subst f5_))
    obtain ⟨Ao22, co22, eo22⟩ := Kd.R_slice HO241.out
    (first | subst eo22 | (injection eo22 with f1_ f2_ f3_; have f4_ := f1_.symm; have f5_ := f3_.symm; clear f1_ f2_ f3_; subst f4_; subst f5_))
    refine start_ (n := 16) (S := fun w' => w'.cell? ⟨gb233, 0, none⟩ = some (.int .i64 a0_0) ∧ w'.cell? ⟨gb233, 1, none⟩ = some (.slice A0_1 l0_1.length c0_1)) (ds := []) (.replicate 16 false) (by kernel_rfl) rfl rfl ⟨czz BK233.out 0, czz BK233.out 1⟩ (fun hHeld => ?_); refine with_tabW saronlaw05_CycleStrokes.tab3 saronlaw05_CycleStrokes.bits3 (fun HT_ HW_ => ?_)
    generalize w14.drew = w20 at HO237 HO241 BK233 BK234 HB hHeld ⊢
    refine pT 0 29 (bt 16 1) (k := ?_)
    refine pT 1 30 (bt 16 3) (k := ?_)
    refine one_ (i := 2) (N := some 31) (bt 16 7) rfl rfl (one_of HT_.out (by kernel_rfl)) (by decide) (fun K hK => ?_)
    refine goes_ Tryd.func16 (by kernel_rfl) rfl #[.slice Ao21 t235.length co21, .slice Ao22 t239.length co22] (by rfl) rfl rfl TM ?_
    with_reducible refine (saronref00_Equal.calls k _ _ t235 _ _ t239 true _ ?side1 ?side2 ?side3 ?side4 A15.out).mono ?_
    (case side1 => repeat (first | exact (Kd.V_reads' HO237.out).2.2 | (with_reducible refine Kd.C_alloc ?_ _) | (with_reducible refine Kd.C_drewN ?_ _) | (with_reducible refine Kd.C_drew ?_)))
    (case side2 => exact (Kd.V_reads' HO237.out).2.1)
    (case side3 => repeat (first | exact (Kd.R_reads' HO241.out).2.2 | (with_reducible refine Kd.C_alloc ?_ _) | (with_reducible refine Kd.C_drewN ?_ _) | (with_reducible refine Kd.C_drew ?_)))
    (case side4 => exact (Kd.R_reads' HO241.out).2.1)
    rintro e w' ⟨rfl, ⟨nd, rfl⟩⟩
    refine ⟨_, rfl, ?_⟩
    refine hK.out _ _ ⟨czz BK233.out 0, czz BK233.out 1⟩ (fun hHeld => ?_)
    clear hK K
    refine norm_ (a' := ?_) ?_ ?_
    rotate_left
    ·show Act.put _ (some 31) _ = _
     simp only [Act.put, lA, lZ, lS, i64_w, i32_w]
     rfl
    refine pT 3 32 (bt 16 15) (k := ?_)
    refine pT 4 33 (bt 16 31) (k := ?_)
    refine pT 5 34 (bt 16 63) (k := ?_)
    refine pT 6 35 (bt 16 127) (k := ?_)
    refine pT 7 36 (bt 16 255) (k := ?_)
    refine pT 8 37 (bt 16 511) (k := ?_)
    refine pT 9 38 (bt 16 1023) (k := ?_)
    refine tT2 10 39 (bt 16 2047) hHeld (k := ?_)
    refine tT2 12 41 (bt 16 6143) hHeld (k := ?_)
    refine one_ (i := 11) (N := some 40) (bt 16 8191) rfl rfl (one_of HT_.out (by kernel_rfl)) (by decide) (fun K hK => ?_)
    refine goes_ Tryd.func17 (by kernel_rfl) rfl #[.agg #[.int .i64 a0_0, .slice A0_1 l0_1.length c0_1]] (by rfl) rfl rfl TM ?_
    with_reducible refine (cycle_Check.calls k a0_0 _ _ l0_1 t244 _ ?side1 ?side2 A18.out).mono ?_
    (case side1 => exact TD HR0_1.out (TB2 GE233.out GE234.out))
    (case side2 => exact HC0_1.out)
    rintro e w23 ⟨rfl, hb⟩
    refine ⟨_, rfl, ?_⟩
    have n0_ := Aside0.mk (Kd.V_below (by (with_reducible repeat (first | apply Kd.V_alloc | apply Kd.V_drewN | apply Kd.V_drew)); exact HO237.out) hb)
    have n1_ := Aside0.mk (Kd.R_below (TRo HO241.out) hb)
    have n2_ := Aside0.mk (blk_below (g := gb233) (o := .cells #[.int .i64 a0_0, .slice A0_1 l0_1.length c0_1] 24 (0, 0)) (by (with_reducible repeat (first | refine blk_drewN ?_ _ | refine blk_drew ?_ | refine blk_alloc ?_ _)); exact BK233.out) hb)
    have n3_ := Aside0.mk (blk_below (g := gb234) (o := .cells #[.int .i64 a1_0, .int .i64 a1_1, .int .i64 a1_2] 25 (0, 0)) (by (with_reducible repeat (first | refine blk_drewN ?_ _ | refine blk_drew ?_ | refine blk_alloc ?_ _)); exact BK234.out) hb)
    have n4_ := Aside0.mk (below_step (TB2 GE233.out GE234.out) hb)
    clear HO237
    clear HO241
    clear BK233
    clear BK234
    clear HB
    have HO237 := n0_
    have HO241 := n1_
    have BK233 := n2_
    have BK234 := n3_
    have HB := n4_
    clear n0_ n1_ n2_ n3_ n4_
    (try clear hb)
    (try clear hb2)
    (try clear hk)
    (try clear hi)
    refine hK.out _ _ ⟨czz BK233.out 0, czz BK233.out 1⟩ (fun hHeld => ?_)
    clear hK K
    refine norm_ (a' := ?_) ?_ ?_
    rotate_left
    ·show Act.put _ (some 40) _ = _
     simp only [Act.put, lA, lZ, lS, i64_w, i32_w]
     rfl
    refine one_ (i := 13) (N := some 42) (bt 16 16383) rfl rfl (one_of HT_.out (by kernel_rfl)) (by decide) (fun K hK => ?_)
    refine goes_ Tryd.func18 (by kernel_rfl) rfl #[.agg #[.int .i64 a0_0, .slice A0_1 l0_1.length c0_1]] (by rfl) rfl rfl TM ?_
    with_reducible refine (saronref05_Check.calls k a0_0 _ _ l0_1 t245 _ ?side1 ?side2 A19.out).mono ?_
    (case side1 => exact TC HR0_1.out)
    (case side2 => exact HC0_1.out)
    rintro e w24 ⟨rfl, hb⟩
    refine ⟨_, rfl, ?_⟩
    have n0_ := Aside0.mk (Kd.V_below (by (with_reducible repeat (first | apply Kd.V_alloc | apply Kd.V_drewN | apply Kd.V_drew)); exact HO237.out) hb)
    have n1_ := Aside0.mk (Kd.R_below (TRo HO241.out) hb)
    have n2_ := Aside0.mk (blk_below (g := gb233) (o := .cells #[.int .i64 a0_0, .slice A0_1 l0_1.length c0_1] 24 (0, 0)) (by (with_reducible repeat (first | refine blk_drewN ?_ _ | refine blk_drew ?_ | refine blk_alloc ?_ _)); exact BK233.out) hb)
    have n3_ := Aside0.mk (blk_below (g := gb234) (o := .cells #[.int .i64 a1_0, .int .i64 a1_1, .int .i64 a1_2] 25 (0, 0)) (by (with_reducible repeat (first | refine blk_drewN ?_ _ | refine blk_drew ?_ | refine blk_alloc ?_ _)); exact BK234.out) hb)
    have n4_ := Aside0.mk (below_step (TB2 GE233.out GE234.out) hb)
    clear HO237
    clear HO241
    clear BK233
    clear BK234
    clear HB
    have HO237 := n0_
    have HO241 := n1_
    have BK233 := n2_
    have BK234 := n3_
    have HB := n4_
    clear n0_ n1_ n2_ n3_ n4_
    (try clear hb)
    (try clear hb2)
    (try clear hk)
    (try clear hi)
    refine hK.out _ _ ⟨czz BK233.out 0, czz BK233.out 1⟩ (fun hHeld => ?_)
    clear hK K
    refine norm_ (a' := ?_) ?_ ?_
    rotate_left
    ·show Act.put _ (some 42) _ = _
     simp only [Act.put, lA, lZ, lS, i64_w, i32_w]
     rfl
    refine pT 14 43 (bt 16 32767) (k := ?_)
    refine pT 15 44 (bt 16 65535) (k := ?_)
    refine done_ (done_of HT_.out (by kernel_rfl)) ?_
    try go_wp2
    go_meet
    case rel => exact ⟨_, ((t244 != t245)), TT, H', ⟨by first | omega | exact Nat.le_refl _⟩, ⟨by (with_reducible repeat (first | refine blk_drewN ?_ _ | refine blk_drew ?_ | refine blk_alloc ?_ _)); exact BK233.out⟩, ⟨by (with_reducible repeat (first | refine blk_drewN ?_ _ | refine blk_drew ?_ | refine blk_alloc ?_ _)); exact BK234.out⟩, ⟨TB2 GE233.out GE234.out⟩⟩
   ·rw [if_neg c17] at H
    have c17b0 : (t238 == t242) = false := beq_eq_false_iff_ne.mpr c17
    have c17b1 : (t238 != t242) = true := bne_iff_ne.mpr c17
    (first | rw [c17b0] | (simp only [i64_w, i32_w]; rw [c17b0]) | skip)
    have H' := Aside0.mk H
    clear H
    try go_wp2
    have n0_ := Aside0.mk (Kd.V_drew HO237.out)
    have n1_ := Aside0.mk (Kd.R_drew HO241.out)
    have n2_ := Aside0.mk (blk_drew BK233.out)
    have n3_ := Aside0.mk (blk_drew BK234.out)
    have n4_ := Aside0.mk (below_drew1 HB.out)
    clear HO237
    clear HO241
    clear BK233
    clear BK234
    clear HB
    have HO237 := n0_
    have HO241 := n1_
    have BK233 := n2_
    have BK234 := n3_
    have HB := n4_
    clear n0_ n1_ n2_ n3_ n4_
    obtain ⟨Ao26, co26, eo26⟩ := Kd.V_slice HO237.out
    (first | subst eo26 | (injection eo26 with f1_ f2_ f3_; have f4_ := f1_.symm; have f5_ := f3_.symm; clear f1_ f2_ f3_; subst f4_; subst f5_))
    obtain ⟨Ao27, co27, eo27⟩ := Kd.R_slice HO241.out
    (first | subst eo27 | (injection eo27 with f1_ f2_ f3_; have f4_ := f1_.symm; have f5_ := f3_.symm; clear f1_ f2_ f3_; subst f4_; subst f5_))
    refine start_ (n := 16) (S := fun w' => True) (ds := []) (.replicate 16 false) (by kernel_rfl) rfl rfl trivial (fun hHeld => ?_); refine with_tabW saronlaw05_CycleStrokes.tab3 saronlaw05_CycleStrokes.bits3 (fun HT_ HW_ => ?_)
    generalize w14.drew = w25 at HO237 HO241 BK233 BK234 HB hHeld ⊢
    refine pT 0 29 (bt 16 1) (k := ?_)
    refine pT 1 30 (bt 16 3) (k := ?_)
    refine one_ (i := 2) (N := some 31) (bt 16 7) rfl rfl (one_of HT_.out (by kernel_rfl)) (by decide) (fun K hK => ?_)
    refine goes_ Tryd.func16 (by kernel_rfl) rfl #[.slice Ao26 t235.length co26, .slice Ao27 t239.length co27] (by rfl) rfl rfl TM ?_
    with_reducible refine (saronref00_Equal.calls k _ _ t235 _ _ t239 true _ ?side1 ?side2 ?side3 ?side4 A15.out).mono ?_
    (case side1 => repeat (first | exact (Kd.V_reads' HO237.out).2.2 | (with_reducible refine Kd.C_alloc ?_ _) | (with_reducible refine Kd.C_drewN ?_ _) | (with_reducible refine Kd.C_drew ?_)))
    (case side2 => exact (Kd.V_reads' HO237.out).2.1)
    (case side3 => repeat (first | exact (Kd.R_reads' HO241.out).2.2 | (with_reducible refine Kd.C_alloc ?_ _) | (with_reducible refine Kd.C_drewN ?_ _) | (with_reducible refine Kd.C_drew ?_)))
    (case side4 => exact (Kd.R_reads' HO241.out).2.1)
    rintro e w' ⟨rfl, ⟨nd, rfl⟩⟩
    refine ⟨_, rfl, ?_⟩
    refine hK.out _ _ trivial (fun hHeld => ?_)
    clear hK K
    refine norm_ (a' := ?_) ?_ ?_
    rotate_left
    ·show Act.put _ (some 31) _ = _
     simp only [Act.put, lA, lZ, lS, i64_w, i32_w]
     rfl
    refine pT 3 32 (bt 16 15) (k := ?_)
    refine pT 4 33 (bt 16 31) (k := ?_)
    refine pT 5 34 (bt 16 63) (k := ?_)
    refine pT 6 35 (bt 16 127) (k := ?_)
    refine pT 7 36 (bt 16 255) (k := ?_)
    refine pT 8 37 (bt 16 511) (k := ?_)
    refine pT 9 38 (bt 16 1023) (k := ?_)
    refine pU 10 39 (bt 16 2047) (k := ?_)
    refine pU 11 40 (bt 16 4095) (k := ?_)
    refine pU 12 41 (bt 16 8191) (k := ?_)
    refine pU 13 42 (bt 16 16383) (k := ?_)
    refine pU 14 43 (bt 16 32767) (k := ?_)
    refine pT 15 44 (bt 16 65535) (k := ?_)
    refine done_ (done_of HT_.out (by kernel_rfl)) ?_
    try go_wp2
    go_meet
    case rel => exact ⟨_, (true), TT, H', ⟨by first | omega | exact Nat.le_refl _⟩, ⟨by (with_reducible repeat (first | refine blk_drewN ?_ _ | refine blk_drew ?_ | refine blk_alloc ?_ _)); exact BK233.out⟩, ⟨by (with_reducible repeat (first | refine blk_drewN ?_ _ | refine blk_drew ?_ | refine blk_alloc ?_ _)); exact BK234.out⟩, ⟨TB2 GE233.out GE234.out⟩⟩
  ·replace c16 := Bool.eq_false_iff.mpr c16
   subst c16
   have H1 : (saronlaw05_CycleStrokes.j0 k true a0_0 l0_1 a1_0 a1_1 a1_2) = some r := by rw [if_neg (show ¬ (false = true) by decide)] at H; exact H
   clear H
   have H := H1
   clear H1
   have H' := Aside0.mk H
   clear H
   try go_wp2
   have n0_ := Aside0.mk (Kd.V_drew HO237.out)
   have n1_ := Aside0.mk (Kd.R_drew HO241.out)
   have n2_ := Aside0.mk (blk_drew BK233.out)
   have n3_ := Aside0.mk (blk_drew BK234.out)
   have n4_ := Aside0.mk (below_drew1 HB.out)
   clear HO237
   clear HO241
   clear BK233
   clear BK234
   clear HB
   have HO237 := n0_
   have HO241 := n1_
   have BK233 := n2_
   have BK234 := n3_
   have HB := n4_
   clear n0_ n1_ n2_ n3_ n4_
   obtain ⟨Ao29, co29, eo29⟩ := Kd.V_slice HO237.out
   (first | subst eo29 | (injection eo29 with f1_ f2_ f3_; have f4_ := f1_.symm; have f5_ := f3_.symm; clear f1_ f2_ f3_; subst f4_; subst f5_))
   obtain ⟨Ao30, co30, eo30⟩ := Kd.R_slice HO241.out
   (first | subst eo30 | (injection eo30 with f1_ f2_ f3_; have f4_ := f1_.symm; have f5_ := f3_.symm; clear f1_ f2_ f3_; subst f4_; subst f5_))
   refine start_ (n := 16) (S := fun w' => True) (ds := []) (.replicate 16 false) (by kernel_rfl) rfl rfl trivial (fun hHeld => ?_); refine with_tabW saronlaw05_CycleStrokes.tab3 saronlaw05_CycleStrokes.bits3 (fun HT_ HW_ => ?_)
   generalize w14.drew = w28 at HO237 HO241 BK233 BK234 HB hHeld ⊢
   refine pT 0 29 (bt 16 1) (k := ?_)
   refine pT 1 30 (bt 16 3) (k := ?_)
   refine one_ (i := 2) (N := some 31) (bt 16 7) rfl rfl (one_of HT_.out (by kernel_rfl)) (by decide) (fun K hK => ?_)
   refine goes_ Tryd.func16 (by kernel_rfl) rfl #[.slice Ao29 t235.length co29, .slice Ao30 t239.length co30] (by rfl) rfl rfl TM ?_
   with_reducible refine (saronref00_Equal.calls k _ _ t235 _ _ t239 false _ ?side1 ?side2 ?side3 ?side4 A15.out).mono ?_
   (case side1 => repeat (first | exact (Kd.V_reads' HO237.out).2.2 | (with_reducible refine Kd.C_alloc ?_ _) | (with_reducible refine Kd.C_drewN ?_ _) | (with_reducible refine Kd.C_drew ?_)))
   (case side2 => exact (Kd.V_reads' HO237.out).2.1)
   (case side3 => repeat (first | exact (Kd.R_reads' HO241.out).2.2 | (with_reducible refine Kd.C_alloc ?_ _) | (with_reducible refine Kd.C_drewN ?_ _) | (with_reducible refine Kd.C_drew ?_)))
   (case side4 => exact (Kd.R_reads' HO241.out).2.1)
   rintro e w' ⟨rfl, ⟨nd, rfl⟩⟩
   refine ⟨_, rfl, ?_⟩
   refine hK.out _ _ trivial (fun hHeld => ?_)
   clear hK K
   refine norm_ (a' := ?_) ?_ ?_
   rotate_left
   ·show Act.put _ (some 31) _ = _
    simp only [Act.put, lA, lZ, lS, i64_w, i32_w]
    rfl
   refine pT 3 32 (bt 16 15) (k := ?_)
   refine pT 4 33 (bt 16 31) (k := ?_)
   refine pU 5 34 (bt 16 63) (k := ?_)
   refine pU 6 35 (bt 16 127) (k := ?_)
   refine pU 7 36 (bt 16 255) (k := ?_)
   refine pT 8 37 (bt 16 511) (k := ?_)
   refine pT 9 38 (bt 16 1023) (k := ?_)
   refine pU 10 39 (bt 16 2047) (k := ?_)
   refine pU 11 40 (bt 16 4095) (k := ?_)
   refine pU 12 41 (bt 16 8191) (k := ?_)
   refine pU 13 42 (bt 16 16383) (k := ?_)
   refine pU 14 43 (bt 16 32767) (k := ?_)
   refine pT 15 44 (bt 16 65535) (k := ?_)
   refine done_ (done_of HT_.out (by kernel_rfl)) ?_
   try go_wp2
   go_meet
   case rel => exact ⟨_, (true), TT, H', ⟨by first | omega | exact Nat.le_refl _⟩, ⟨by (with_reducible repeat (first | refine blk_drewN ?_ _ | refine blk_drew ?_ | refine blk_alloc ?_ _)); exact BK233.out⟩, ⟨by (with_reducible repeat (first | refine blk_drewN ?_ _ | refine blk_drew ?_ | refine blk_alloc ?_ _)); exact BK234.out⟩, ⟨TB2 GE233.out GE234.out⟩⟩
 case rest => as_aux_lemma =>
  clear HC5
  try clear c1
  try clear p2
  try clear c3
  try clear c8
  try clear c14
  try clear c15
  try clear c16
  try clear c17
  try clear c17b0
  try clear c17b1
  try clear c18
  try clear hcz10_0 hcz10_1 hcz10_2
  try clear hcz12_0 hcz12_1
  try clear hcz13_0 hcz13_1 hcz13_2
  try clear hcz9_0 hcz9_1
  try clear hfz10_0 hfz10_1 hfz10_2
  try clear hfz12_0 hfz12_1
  try clear hfz13_0 hfz13_1 hfz13_2
  try clear hfz9_0 hfz9_1
  try clear BK233
  try clear BK234
  try clear HB
  obtain ⟨kq, x44_4, rfl, HA, HJ4, BK233, BK234, HB⟩ := hcut
  cases kq with
  | zero => exact absurd HA.out (by simp [saronlaw05_CycleStrokes.j0])
  | succ kj4 =>
   have H := HA.out
   clear HA
   simp only [saronlaw05_CycleStrokes.j0] at H
   by_cases c31 : x44_4 = true
   ·subst c31
    have H1 : (some false) = some r := by rw [if_pos rfl] at H; exact H
    clear H
    have H := H1
    clear H1
    obtain rfl := Option.some.inj H
    go_wp2
    go_ret
    exact ⟨TR, TB2 GE233.out GE234.out⟩
   ·replace c31 := Bool.eq_false_iff.mpr c31
    subst c31
    have H1 : ((cycle_Next.f a0_0 l0_1 a1_0 a1_1 a1_2).bind fun bt246 => ((saronref05_Next.f kj4 a0_0 l0_1 a1_0 a1_1 a1_2).bind fun bt248 => (if bt246.1 = bt248.1 then (saronlaw05_CycleStrokes.j1 kj4 (bt246.2 != bt248.2) a0_0 l0_1 a1_0 a1_1 a1_2) else (saronlaw05_CycleStrokes.j1 kj4 true a0_0 l0_1 a1_0 a1_1 a1_2)))) = some r := by rw [if_neg (show ¬ (false = true) by decide)] at H; exact H
    clear H
    have H := H1
    clear H1
    replace H := Option.bind_eq_some_iff.mp H
    obtain ⟨⟨t246, t247⟩, A320, H⟩ := H
    replace H : ((saronref05_Next.f kj4 a0_0 l0_1 a1_0 a1_1 a1_2).bind fun bt248 => (if t246 = bt248.1 then (saronlaw05_CycleStrokes.j1 kj4 (t247 != bt248.2) a0_0 l0_1 a1_0 a1_1 a1_2) else (saronlaw05_CycleStrokes.j1 kj4 true a0_0 l0_1 a1_0 a1_1 a1_2))) = some r := H
    have A32 := Aside0.mk A320
    clear A320
    replace H := Option.bind_eq_some_iff.mp H
    obtain ⟨⟨t248, t249⟩, A330, H⟩ := H
    replace H : (if t246 = t248 then (saronlaw05_CycleStrokes.j1 kj4 (t247 != t249) a0_0 l0_1 a1_0 a1_1 a1_2) else (saronlaw05_CycleStrokes.j1 kj4 true a0_0 l0_1 a1_0 a1_1 a1_2)) = some r := H
    have A33 := Aside0.mk A330
    clear A330
    have HC34 := Aside0.mk H
    clear H
    have hnb35 := NB233_234.out
    have hnc35 := NB234_233.out
    have hcz36_0 := czz BK233.out 0
    have hcz36_1 := czz BK233.out 1
    have hfz36_0 := fz BK233.out 0
    have hfz36_1 := fz BK233.out 1
    have hcz37_0 := czz BK234.out 0
    have hcz37_1 := czz BK234.out 1
    have hcz37_2 := czz BK234.out 2
    have hfz37_0 := fz BK234.out 0
    have hfz37_1 := fz BK234.out 1
    have hfz37_2 := fz BK234.out 2
    go_upto_region 7 with (first | ((with_reducible refine gate_callee (f := 19) rfl ?_); refine goesL_ (some 53) rfl rfl Tryd.func19 (by kernel_rfl) rfl #[.agg #[.int .i64 a0_0, .slice A0_1 l0_1.length c0_1], .int .i64 a1_0, .int .i64 a1_1, .int .i64 a1_2] rfl TM ?_; (with_reducible refine (cycle_Next.calls a0_0 _ _ l0_1 a1_0 a1_1 a1_2 t246 t247 _ ?side1 ?side2 ?side3 A32.out).mono ?_); (case side1 => exact TC HR0_1.out); (case side2 => exact HC0_1.out); (case side3 => exact Glob.fr HG.out (Fr.of_below (TB2 GE233.out GE234.out))); rintro e w38 ⟨rfl, hb⟩; refine ⟨_, rfl, ?_⟩; replace BK233 := Aside0.mk (blk_below (g := gb233) (o := .cells #[.int .i64 a0_0, .slice A0_1 l0_1.length c0_1] 24 (0, 0)) (by (with_reducible repeat (first | refine blk_drewN ?_ _ | refine blk_drew ?_ | refine blk_alloc ?_ _)); exact BK233.out) hb); replace BK234 := Aside0.mk (blk_below (g := gb234) (o := .cells #[.int .i64 a1_0, .int .i64 a1_1, .int .i64 a1_2] 25 (0, 0)) (by (with_reducible repeat (first | refine blk_drewN ?_ _ | refine blk_drew ?_ | refine blk_alloc ?_ _)); exact BK234.out) hb); replace HB := Aside0.mk (below_step (TB2 GE233.out GE234.out) hb); (try clear hb); (try clear hb2); (try clear hk); (try clear hi); have hcz39_0 := czz BK233.out 0; have hcz39_1 := czz BK233.out 1; have hfz39_0 := fz BK233.out 0; have hfz39_1 := fz BK233.out 1; have hcz40_0 := czz BK234.out 0; have hcz40_1 := czz BK234.out 1; have hcz40_2 := czz BK234.out 2; have hfz40_0 := fz BK234.out 0; have hfz40_1 := fz BK234.out 1; have hfz40_2 := fz BK234.out 2) | ((with_reducible refine gate_callee (f := 20) rfl ?_); refine goesL_ (some 64) rfl rfl Tryd.func20 (by kernel_rfl) rfl #[.agg #[.int .i64 a0_0, .slice A0_1 l0_1.length c0_1], .int .i64 a1_0, .int .i64 a1_1, .int .i64 a1_2] rfl TM ?_; (with_reducible refine (saronref05_Next.calls kj4 a0_0 _ _ l0_1 a1_0 a1_1 a1_2 t248 t249 _ ?side1 ?side2 A33.out).mono ?_); (case side1 => exact TC HR0_1.out); (case side2 => exact HC0_1.out); rintro e w41 ⟨rfl, hb⟩; refine ⟨_, rfl, ?_⟩; replace BK233 := Aside0.mk (blk_below (g := gb233) (o := .cells #[.int .i64 a0_0, .slice A0_1 l0_1.length c0_1] 24 (0, 0)) (by (with_reducible repeat (first | refine blk_drewN ?_ _ | refine blk_drew ?_ | refine blk_alloc ?_ _)); exact BK233.out) hb); replace BK234 := Aside0.mk (blk_below (g := gb234) (o := .cells #[.int .i64 a1_0, .int .i64 a1_1, .int .i64 a1_2] 25 (0, 0)) (by (with_reducible repeat (first | refine blk_drewN ?_ _ | refine blk_drew ?_ | refine blk_alloc ?_ _)); exact BK234.out) hb); replace HB := Aside0.mk (below_step (TB2 GE233.out GE234.out) hb); (try clear hb); (try clear hb2); (try clear hk); (try clear hi)))
    (try simp only [Act.put, lA, lZ, lS])
    go_cut [74] (fun v74 wc => ∃ (kq : Nat) (x74_33 : Bool), v74 = .bool x74_33 ∧ Aside0 (saronlaw05_CycleStrokes.j1 kq x74_33 a0_0 l0_1 a1_0 a1_1 a1_2 = some r) ∧ Aside0 (kq ≤ kj4) ∧ Aside0 (wc.heap[gb233]? = some (.cells #[.int .i64 a0_0, (.slice A0_1 l0_1.length c0_1)] 24 (0, 0))) ∧ Aside0 (wc.heap[gb234]? = some (.cells #[.int .i64 a1_0, .int .i64 a1_1, .int .i64 a1_2] 25 (0, 0))) ∧ Aside0 (Below w.heap.size w wc))
    case first => as_aux_lemma =>
     have H := HC34.out
     clear HC34
     by_cases c42 : t246 = t248
     ·rw [if_pos c42] at H
      have c42b0 : (t246 == t248) = true := beq_iff_eq.mpr c42
      have c42b1 : (t246 != t248) = false := bne_eq_false_iff_eq.mpr c42
      clear c42
      (first | rw [c42b0] | (simp only [i64_w, i32_w]; rw [c42b0]) | skip)
      have H' := Aside0.mk H
      clear H
      go_wp2
      go_meet
      case rel => exact ⟨_, ((t247 != t249)), TT, H', ⟨by have := HJ4.out; first | omega | exact Nat.le_refl _⟩, ⟨by (with_reducible repeat (first | refine blk_drewN ?_ _ | refine blk_drew ?_ | refine blk_alloc ?_ _)); exact BK233.out⟩, ⟨by (with_reducible repeat (first | refine blk_drewN ?_ _ | refine blk_drew ?_ | refine blk_alloc ?_ _)); exact BK234.out⟩, ⟨TB2 GE233.out GE234.out⟩⟩
     ·rw [if_neg c42] at H
      have c42b0 : (t246 == t248) = false := beq_eq_false_iff_ne.mpr c42
      have c42b1 : (t246 != t248) = true := bne_iff_ne.mpr c42
      (first | rw [c42b0] | (simp only [i64_w, i32_w]; rw [c42b0]) | skip)
      have H' := Aside0.mk H
      clear H
      go_wp2
      go_meet
      case rel => exact ⟨_, (true), TT, H', ⟨by have := HJ4.out; first | omega | exact Nat.le_refl _⟩, ⟨by (with_reducible repeat (first | refine blk_drewN ?_ _ | refine blk_drew ?_ | refine blk_alloc ?_ _)); exact BK233.out⟩, ⟨by (with_reducible repeat (first | refine blk_drewN ?_ _ | refine blk_drew ?_ | refine blk_alloc ?_ _)); exact BK234.out⟩, ⟨TB2 GE233.out GE234.out⟩⟩
    case rest => as_aux_lemma =>
     clear HC34
     try clear c1
     try clear c2
     try clear p2
     try clear c3
     try clear c4
     try clear c8
     try clear c14
     try clear c15
     try clear c16
     try clear c17
     try clear c17b0
     try clear c17b1
     try clear c18
     try clear c19
     try clear c20
     try clear c31
     try clear c35
     try clear c42
     try clear c42b0
     try clear c42b1
     try clear hcz10_0 hcz10_1 hcz10_2
     try clear hcz12_0 hcz12_1
     try clear hcz13_0 hcz13_1 hcz13_2
     try clear hcz36_0 hcz36_1
     try clear hcz37_0 hcz37_1 hcz37_2
     try clear hcz39_0 hcz39_1
     try clear hcz40_0 hcz40_1 hcz40_2
     try clear hcz9_0 hcz9_1
     try clear hfz10_0 hfz10_1 hfz10_2
     try clear hfz12_0 hfz12_1
     try clear hfz13_0 hfz13_1 hfz13_2
     try clear hfz36_0 hfz36_1
     try clear hfz37_0 hfz37_1 hfz37_2
     try clear hfz39_0 hfz39_1
     try clear hfz40_0 hfz40_1 hfz40_2
     try clear hfz9_0 hfz9_1
     try clear p2
     try clear BK233
     try clear BK234
     try clear HB
     obtain ⟨kq, x74_33, rfl, HA, HJ33, BK233, BK234, HB⟩ := hcut
     cases kq with
     | zero => exact absurd HA.out (by simp [saronlaw05_CycleStrokes.j1])
     | succ kj33 =>
      have H := HA.out
      clear HA
      simp only [saronlaw05_CycleStrokes.j1] at H
      by_cases c43 : x74_33 = true
      ·subst c43
       have H1 : (some false) = some r := by rw [if_pos rfl] at H; exact H
       clear H
       have H := H1
       clear H1
       obtain rfl := Option.some.inj H
       go_wp2
       go_ret
       exact ⟨TR, TB2 GE233.out GE234.out⟩
      ·replace c43 := Bool.eq_false_iff.mpr c43
       subst c43
       have H1 : ((cycle_Even.f a0_0 l0_1 a1_0 a1_1).bind fun bt250 => ((saronref05_Even.f kj33 a0_0 l0_1 a1_0 a1_1).bind fun bt252 => (if bt250.1 = bt252.1 then (if bt250.2 = bt252.2 then ((saronlaw05_marked.f).bind fun t254 => (some t254)) else (some false)) else (some false)))) = some r := by rw [if_neg (show ¬ (false = true) by decide)] at H; exact H
       clear H
       have H := H1
       clear H1
       replace H := Option.bind_eq_some_iff.mp H
       obtain ⟨⟨t250, t251⟩, A440, H⟩ := H
       replace H : ((saronref05_Even.f kj33 a0_0 l0_1 a1_0 a1_1).bind fun bt252 => (if t250 = bt252.1 then (if t251 = bt252.2 then ((saronlaw05_marked.f).bind fun t254 => (some t254)) else (some false)) else (some false))) = some r := H
       have A44 := Aside0.mk A440
       clear A440
       replace H := Option.bind_eq_some_iff.mp H
       obtain ⟨⟨t252, t253⟩, A450, H⟩ := H
       replace H : (if t250 = t252 then (if t251 = t253 then ((saronlaw05_marked.f).bind fun t254 => (some t254)) else (some false)) else (some false)) = some r := H
       have A45 := Aside0.mk A450
       clear A450
       by_cases c46 : t250 = t252
       ·rw [if_pos c46] at H
        have c46b0 : (t250 == t252) = true := beq_iff_eq.mpr c46
        have c46b1 : (t250 != t252) = false := bne_eq_false_iff_eq.mpr c46
        clear c46
        by_cases c47 : t251 = t253
        ·rw [if_pos c47] at H
         have c47b0 : (t251 == t253) = true := beq_iff_eq.mpr c47
         have c47b1 : (t251 != t253) = false := bne_eq_false_iff_eq.mpr c47
         clear c47
         replace H := Option.bind_eq_some_iff.mp H
         obtain ⟨t254, A480, H⟩ := H
         replace H : (some t254) = some r := H
         have A48 := Aside0.mk A480
         clear A480
         obtain rfl := Option.some.inj H
         have hnb49 := NB233_234.out
         have hnc49 := NB234_233.out
         have hcz50_0 := czz BK233.out 0
         have hcz50_1 := czz BK233.out 1
         have hfz50_0 := fz BK233.out 0
         have hfz50_1 := fz BK233.out 1
         have hcz51_0 := czz BK234.out 0
         have hcz51_1 := czz BK234.out 1
         have hcz51_2 := czz BK234.out 2
         have hfz51_0 := fz BK234.out 0
         have hfz51_1 := fz BK234.out 1
         have hfz51_2 := fz BK234.out 2
         go_wp2_with (first | ((with_reducible refine gate_callee (f := 21) rfl ?_); refine goesL_ (some 81) rfl rfl Tryd.func21 (by kernel_rfl) rfl #[.agg #[.int .i64 a0_0, .slice A0_1 l0_1.length c0_1], .int .i64 a1_0, .int .i64 a1_1] rfl TM ?_; (with_reducible refine (cycle_Even.calls a0_0 _ _ l0_1 a1_0 a1_1 t250 t251 _ ?side1 ?side2 ?side3 A44.out).mono ?_); (case side1 => exact TC HR0_1.out); (case side2 => exact HC0_1.out); (case side3 => exact Glob.fr HG.out (Fr.of_below (TB2 GE233.out GE234.out))); rintro e w52 ⟨rfl, hb⟩; refine ⟨_, rfl, ?_⟩; replace BK233 := Aside0.mk (blk_below (g := gb233) (o := .cells #[.int .i64 a0_0, .slice A0_1 l0_1.length c0_1] 24 (0, 0)) (by (with_reducible repeat (first | refine blk_drewN ?_ _ | refine blk_drew ?_ | refine blk_alloc ?_ _)); exact BK233.out) hb); replace BK234 := Aside0.mk (blk_below (g := gb234) (o := .cells #[.int .i64 a1_0, .int .i64 a1_1, .int .i64 a1_2] 25 (0, 0)) (by (with_reducible repeat (first | refine blk_drewN ?_ _ | refine blk_drew ?_ | refine blk_alloc ?_ _)); exact BK234.out) hb); replace HB := Aside0.mk (below_step (TB2 GE233.out GE234.out) hb); (try clear hb); (try clear hb2); (try clear hk); (try clear hi); have hcz53_0 := czz BK233.out 0; have hcz53_1 := czz BK233.out 1; have hfz53_0 := fz BK233.out 0; have hfz53_1 := fz BK233.out 1; have hcz54_0 := czz BK234.out 0; have hcz54_1 := czz BK234.out 1; have hcz54_2 := czz BK234.out 2; have hfz54_0 := fz BK234.out 0; have hfz54_1 := fz BK234.out 1; have hfz54_2 := fz BK234.out 2) | ((with_reducible refine gate_callee (f := 22) rfl ?_); refine goesL_ (some 90) rfl rfl Tryd.func22 (by kernel_rfl) rfl #[.agg #[.int .i64 a0_0, .slice A0_1 l0_1.length c0_1], .int .i64 a1_0, .int .i64 a1_1] rfl TM ?_; (with_reducible refine (saronref05_Even.calls kj33 a0_0 _ _ l0_1 a1_0 a1_1 t252 t253 _ ?side1 ?side2 A45.out).mono ?_); (case side1 => exact TC HR0_1.out); (case side2 => exact HC0_1.out); rintro e w55 ⟨rfl, hb⟩; refine ⟨_, rfl, ?_⟩; replace BK233 := Aside0.mk (blk_below (g := gb233) (o := .cells #[.int .i64 a0_0, .slice A0_1 l0_1.length c0_1] 24 (0, 0)) (by (with_reducible repeat (first | refine blk_drewN ?_ _ | refine blk_drew ?_ | refine blk_alloc ?_ _)); exact BK233.out) hb); replace BK234 := Aside0.mk (blk_below (g := gb234) (o := .cells #[.int .i64 a1_0, .int .i64 a1_1, .int .i64 a1_2] 25 (0, 0)) (by (with_reducible repeat (first | refine blk_drewN ?_ _ | refine blk_drew ?_ | refine blk_alloc ?_ _)); exact BK234.out) hb); replace HB := Aside0.mk (below_step (TB2 GE233.out GE234.out) hb); (try clear hb); (try clear hb2); (try clear hk); (try clear hi)) | (go_at_call 23; (with_reducible refine (saronlaw05_marked.calls  t254 _ ?side1 A48.out).mono ?_); (case side1 => exact Glob.fr HG.out (Fr.of_below (TB2 GE233.out GE234.out))); rintro e w56 ⟨rfl, hb⟩; replace BK233 := Aside0.mk (blk_below (g := gb233) (o := .cells #[.int .i64 a0_0, .slice A0_1 l0_1.length c0_1] 24 (0, 0)) (by (with_reducible repeat (first | refine blk_drewN ?_ _ | refine blk_drew ?_ | refine blk_alloc ?_ _)); exact BK233.out) hb); replace BK234 := Aside0.mk (blk_below (g := gb234) (o := .cells #[.int .i64 a1_0, .int .i64 a1_1, .int .i64 a1_2] 25 (0, 0)) (by (with_reducible repeat (first | refine blk_drewN ?_ _ | refine blk_drew ?_ | refine blk_alloc ?_ _)); exact BK234.out) hb); replace HB := Aside0.mk (below_step (TB2 GE233.out GE234.out) hb); (try clear hb); (try clear hb2); (try clear hk); (try clear hi)))
         go_ret
         exact ⟨TR, TB2 GE233.out GE234.out⟩
        ·rw [if_neg c47] at H
         have c47b0 : (t251 == t253) = false := beq_eq_false_iff_ne.mpr c47
         have c47b1 : (t251 != t253) = true := bne_iff_ne.mpr c47
         obtain rfl := Option.some.inj H
         have hnb57 := NB233_234.out
         have hnc57 := NB234_233.out
         have hcz58_0 := czz BK233.out 0
         have hcz58_1 := czz BK233.out 1
         have hfz58_0 := fz BK233.out 0
         have hfz58_1 := fz BK233.out 1
         have hcz59_0 := czz BK234.out 0
         have hcz59_1 := czz BK234.out 1
         have hcz59_2 := czz BK234.out 2
         have hfz59_0 := fz BK234.out 0
         have hfz59_1 := fz BK234.out 1
         have hfz59_2 := fz BK234.out 2
         go_wp2_with (first | ((with_reducible refine gate_callee (f := 21) rfl ?_); refine goesL_ (some 81) rfl rfl Tryd.func21 (by kernel_rfl) rfl #[.agg #[.int .i64 a0_0, .slice A0_1 l0_1.length c0_1], .int .i64 a1_0, .int .i64 a1_1] rfl TM ?_; (with_reducible refine (cycle_Even.calls a0_0 _ _ l0_1 a1_0 a1_1 t250 t251 _ ?side1 ?side2 ?side3 A44.out).mono ?_); (case side1 => exact TC HR0_1.out); (case side2 => exact HC0_1.out); (case side3 => exact Glob.fr HG.out (Fr.of_below (TB2 GE233.out GE234.out))); rintro e w60 ⟨rfl, hb⟩; refine ⟨_, rfl, ?_⟩; replace BK233 := Aside0.mk (blk_below (g := gb233) (o := .cells #[.int .i64 a0_0, .slice A0_1 l0_1.length c0_1] 24 (0, 0)) (by (with_reducible repeat (first | refine blk_drewN ?_ _ | refine blk_drew ?_ | refine blk_alloc ?_ _)); exact BK233.out) hb); replace BK234 := Aside0.mk (blk_below (g := gb234) (o := .cells #[.int .i64 a1_0, .int .i64 a1_1, .int .i64 a1_2] 25 (0, 0)) (by (with_reducible repeat (first | refine blk_drewN ?_ _ | refine blk_drew ?_ | refine blk_alloc ?_ _)); exact BK234.out) hb); replace HB := Aside0.mk (below_step (TB2 GE233.out GE234.out) hb); (try clear hb); (try clear hb2); (try clear hk); (try clear hi); have hcz61_0 := czz BK233.out 0; have hcz61_1 := czz BK233.out 1; have hfz61_0 := fz BK233.out 0; have hfz61_1 := fz BK233.out 1; have hcz62_0 := czz BK234.out 0; have hcz62_1 := czz BK234.out 1; have hcz62_2 := czz BK234.out 2; have hfz62_0 := fz BK234.out 0; have hfz62_1 := fz BK234.out 1; have hfz62_2 := fz BK234.out 2) | ((with_reducible refine gate_callee (f := 22) rfl ?_); refine goesL_ (some 90) rfl rfl Tryd.func22 (by kernel_rfl) rfl #[.agg #[.int .i64 a0_0, .slice A0_1 l0_1.length c0_1], .int .i64 a1_0, .int .i64 a1_1] rfl TM ?_; (with_reducible refine (saronref05_Even.calls kj33 a0_0 _ _ l0_1 a1_0 a1_1 t252 t253 _ ?side1 ?side2 A45.out).mono ?_); (case side1 => exact TC HR0_1.out); (case side2 => exact HC0_1.out); rintro e w63 ⟨rfl, hb⟩; refine ⟨_, rfl, ?_⟩; replace BK233 := Aside0.mk (blk_below (g := gb233) (o := .cells #[.int .i64 a0_0, .slice A0_1 l0_1.length c0_1] 24 (0, 0)) (by (with_reducible repeat (first | refine blk_drewN ?_ _ | refine blk_drew ?_ | refine blk_alloc ?_ _)); exact BK233.out) hb); replace BK234 := Aside0.mk (blk_below (g := gb234) (o := .cells #[.int .i64 a1_0, .int .i64 a1_1, .int .i64 a1_2] 25 (0, 0)) (by (with_reducible repeat (first | refine blk_drewN ?_ _ | refine blk_drew ?_ | refine blk_alloc ?_ _)); exact BK234.out) hb); replace HB := Aside0.mk (below_step (TB2 GE233.out GE234.out) hb); (try clear hb); (try clear hb2); (try clear hk); (try clear hi)))
         go_ret
         exact ⟨TR, TB2 GE233.out GE234.out⟩
       ·rw [if_neg c46] at H
        have c46b0 : (t250 == t252) = false := beq_eq_false_iff_ne.mpr c46
        have c46b1 : (t250 != t252) = true := bne_iff_ne.mpr c46
        obtain rfl := Option.some.inj H
        have hnb64 := NB233_234.out
        have hnc64 := NB234_233.out
        have hcz65_0 := czz BK233.out 0
        have hcz65_1 := czz BK233.out 1
        have hfz65_0 := fz BK233.out 0
        have hfz65_1 := fz BK233.out 1
        have hcz66_0 := czz BK234.out 0
        have hcz66_1 := czz BK234.out 1
        have hcz66_2 := czz BK234.out 2
        have hfz66_0 := fz BK234.out 0
        have hfz66_1 := fz BK234.out 1
        have hfz66_2 := fz BK234.out 2
        go_wp2_with (first | ((with_reducible refine gate_callee (f := 21) rfl ?_); refine goesL_ (some 81) rfl rfl Tryd.func21 (by kernel_rfl) rfl #[.agg #[.int .i64 a0_0, .slice A0_1 l0_1.length c0_1], .int .i64 a1_0, .int .i64 a1_1] rfl TM ?_; (with_reducible refine (cycle_Even.calls a0_0 _ _ l0_1 a1_0 a1_1 t250 t251 _ ?side1 ?side2 ?side3 A44.out).mono ?_); (case side1 => exact TC HR0_1.out); (case side2 => exact HC0_1.out); (case side3 => exact Glob.fr HG.out (Fr.of_below (TB2 GE233.out GE234.out))); rintro e w67 ⟨rfl, hb⟩; refine ⟨_, rfl, ?_⟩; replace BK233 := Aside0.mk (blk_below (g := gb233) (o := .cells #[.int .i64 a0_0, .slice A0_1 l0_1.length c0_1] 24 (0, 0)) (by (with_reducible repeat (first | refine blk_drewN ?_ _ | refine blk_drew ?_ | refine blk_alloc ?_ _)); exact BK233.out) hb); replace BK234 := Aside0.mk (blk_below (g := gb234) (o := .cells #[.int .i64 a1_0, .int .i64 a1_1, .int .i64 a1_2] 25 (0, 0)) (by (with_reducible repeat (first | refine blk_drewN ?_ _ | refine blk_drew ?_ | refine blk_alloc ?_ _)); exact BK234.out) hb); replace HB := Aside0.mk (below_step (TB2 GE233.out GE234.out) hb); (try clear hb); (try clear hb2); (try clear hk); (try clear hi); have hcz68_0 := czz BK233.out 0; have hcz68_1 := czz BK233.out 1; have hfz68_0 := fz BK233.out 0; have hfz68_1 := fz BK233.out 1; have hcz69_0 := czz BK234.out 0; have hcz69_1 := czz BK234.out 1; have hcz69_2 := czz BK234.out 2; have hfz69_0 := fz BK234.out 0; have hfz69_1 := fz BK234.out 1; have hfz69_2 := fz BK234.out 2) | ((with_reducible refine gate_callee (f := 22) rfl ?_); refine goesL_ (some 90) rfl rfl Tryd.func22 (by kernel_rfl) rfl #[.agg #[.int .i64 a0_0, .slice A0_1 l0_1.length c0_1], .int .i64 a1_0, .int .i64 a1_1] rfl TM ?_; (with_reducible refine (saronref05_Even.calls kj33 a0_0 _ _ l0_1 a1_0 a1_1 t252 t253 _ ?side1 ?side2 A45.out).mono ?_); (case side1 => exact TC HR0_1.out); (case side2 => exact HC0_1.out); rintro e w70 ⟨rfl, hb⟩; refine ⟨_, rfl, ?_⟩; replace BK233 := Aside0.mk (blk_below (g := gb233) (o := .cells #[.int .i64 a0_0, .slice A0_1 l0_1.length c0_1] 24 (0, 0)) (by (with_reducible repeat (first | refine blk_drewN ?_ _ | refine blk_drew ?_ | refine blk_alloc ?_ _)); exact BK233.out) hb); replace BK234 := Aside0.mk (blk_below (g := gb234) (o := .cells #[.int .i64 a1_0, .int .i64 a1_1, .int .i64 a1_2] 25 (0, 0)) (by (with_reducible repeat (first | refine blk_drewN ?_ _ | refine blk_drew ?_ | refine blk_alloc ?_ _)); exact BK234.out) hb); replace HB := Aside0.mk (below_step (TB2 GE233.out GE234.out) hb); (try clear hb); (try clear hb2); (try clear hk); (try clear hi)))
        go_ret
        exact ⟨TR, TB2 GE233.out GE234.out⟩
end Go.Proofs.YtephecfapclgfaaDoor.PRaspKeys
