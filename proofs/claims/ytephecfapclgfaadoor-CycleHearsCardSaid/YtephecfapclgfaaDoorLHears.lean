import Derived.Test.YtephecfapclgfaaDoorG7
import Derived.Test.YtephecfapclgfaaDoorCS
import Derived.Test.YtephecfapclgfaaDoorCH
import Derived.Test.YtephecfapclgfaaDoorM0
import Derived.Test.YtephecfapclgfaaDoorProg
import Derived.Below
import Derived.Deep.Draws
import Derived.Deep.AppendLies
import Derived.Maps.AppendAt
import Derived.OwnWalk
import Derived.Laws.BytesArg
import Derived.Laws.MakeOwn
import Derived.Laws.OwnMore
import Derived.Deep.OwnRows
import Derived.Tactics
import Derived.Lib.ConvBytes
import Derived.Laws.Slices
import Derived.WalkKit
import Derived.KernelRfl
import Derived.RowKit3
import Derived.Deep.LoopGhost
import Derived.Deep.QuietTactic
import Derived.BigQuiet
import Derived.WideLaws
import Derived.Deep.DeepCutAuto
import Derived.Deep.CutBlock
import Derived.Deep.RegionHeld3
import Derived.Laws.Rows
import Derived.Lib.AppendStr
import Derived.ArgAppend
import Derived.Laws.IdiomCopy
import Derived.OrdersHeld
import Derived.Laws.BitsLemmas
import Derived.RowKit
set_option linter.unusedVariables false
set_option linter.unusedSimpArgs false
namespace Go.Proofs.YtephecfapclgfaaDoor.M
open Go.RowKit Go.Proofs.YtephecfapclgfaaDoorW.PrintWords Go.Proofs.YtephecfapclgfaaDoorW.PrintLast
theorem czz {w : World} {g : Nat} {cs : Array Value} {t : TypeId} {v : Value} (h : w.heap[g]? = some (.cells cs t (0, 0))) (i : Nat) (hv : cs[i]? = some v := by (first | (simp only [List.getElem?_toArray, List.getElem?_cons_zero, List.getElem?_cons_succ]; rfl) | exact rfl)) : w.cell? ⟨g, i, none⟩ = some v := (blk_cell h i).trans hv
end Go.Proofs.YtephecfapclgfaaDoor.M
namespace Go.Proofs.YtephecfapclgfaaDoor.PRaspKeys
open Go.RowKit Go.Proofs.YtephecfapclgfaaDoorW.PrintWords Go.Proofs.YtephecfapclgfaaDoorW.PrintLast Go.Proofs.YtephecfapclgfaaDoorW.PrintMore Go.Proofs.YtephecfapclgfaaDoor.M
attribute [local go_sem] max2_int min2_int max_two min_two max_three min_three max_four min_four   -- for this text's walks alone
/-! #### struct type 63 -/
/-! #### struct type 38 -/
/-! #### struct type 97 -/
end Go.Proofs.YtephecfapclgfaaDoor.PRaspKeys
namespace Go.Proofs.YtephecfapclgfaaDoor.PRaspKeys
open Go.RowKit Go.Proofs.YtephecfapclgfaaDoorW.PrintWords Go.Proofs.YtephecfapclgfaaDoorW.PrintLast Go.Proofs.YtephecfapclgfaaDoorW.PrintMore Go.Proofs.YtephecfapclgfaaDoor.M
attribute [local go_sem] max2_int min2_int max_two min_two max_three min_three max_four min_four   -- for this text's walks alone
end Go.Proofs.YtephecfapclgfaaDoor.PRaspKeys
namespace Go.Proofs.YtephecfapclgfaaDoor.PRaspKeys
open Go.RowKit Go.Proofs.YtephecfapclgfaaDoorW.PrintWords Go.Proofs.YtephecfapclgfaaDoorW.PrintLast Go.Proofs.YtephecfapclgfaaDoorW.PrintMore Go.Proofs.YtephecfapclgfaaDoor.M
attribute [local go_sem] max2_int min2_int max_two min_two max_three min_three max_four min_four   -- for this text's walks alone
end Go.Proofs.YtephecfapclgfaaDoor.PRaspKeys
namespace Go.Proofs.YtephecfapclgfaaDoor.PRaspKeys
open Go.RowKit Go.Proofs.YtephecfapclgfaaDoorW.PrintWords Go.Proofs.YtephecfapclgfaaDoorW.PrintLast Go.Proofs.YtephecfapclgfaaDoorW.PrintMore Go.Proofs.YtephecfapclgfaaDoor.M
attribute [local go_sem] max2_int min2_int max_two min_two max_three min_three max_four min_four   -- for this text's walks alone
/-! ### saronlaw05_at: function 46 -/
def saronlaw05_at.f (a0 : Int) (a1 : Int) : Option (Int × Int) := some (a0, a1)
set_option maxHeartbeats 8000000 in
set_option maxRecDepth 100000 in
theorem saronlaw05_at.calls (a0 : Int) (a1 : Int) (r1 : Int) (r2 : Int) (w : World) (h : saronlaw05_at.f a0 a1 = some (r1, r2)) :
  Calls Tryd.prog 46 #[.int .i64 a0, .int .i64 a1] w fun e w' => e = .returned (.agg #[.int .i64 r1, .int .i64 r2]) ∧ Below w.heap.size w w' := by
 have hu38 := Tryd.underlying38
 have HB := Aside0.mk (Below.refl w.heap.size w)
 have H : (some (a0, a1)) = some (r1, r2) := h
 clear h
 simp only [Option.some.injEq, Prod.mk.injEq] at H
 obtain ⟨rfl, rfl⟩ := H
 go_enter Tryd.func46, Tryd.ntmps46
 go_wp2_with (first | ((with_reducible refine gate_dst (N := 4) rfl ?_); refine box_event ?hg (N := 4) ?hd (cs := #[.int .i64 0, .int .i64 0]) (t := 38) ?hr ?_; (case hd => rfl); (case hg => rfl); (case hr => exact TS); intro gb127 hg w3 hbox hb; have BK127 := Aside0.mk (hbox); have GW127 := Aside0.mk ((TG : w.heap.size ≤ gb127)); have GE127 := Aside0.mk ((TG : w.heap.size ≤ gb127)); replace HB := Aside0.mk (below_step TB hb); clear hb hbox hg; have hcz4_0 := czz BK127.out 0; have hcz4_1 := czz BK127.out 1; have hfz4_0 := fz BK127.out 0; have hfz4_1 := fz BK127.out 1))
 refine bodyPost_ret (results_cell_row rfl _ _ gb127 38 #[.int .i64 a0, .int .i64 a1] (0, 0) _ rfl (by (with_reducible repeat (first | refine blk_drewN ?_ _ | refine blk_drew ?_ | refine blk_alloc ?_ _)); refine blk_put (cs := #[.int .i64 a0, .int .i64 0]) ?_ 1 _ rfl; (with_reducible repeat (first | refine blk_drewN ?_ _ | refine blk_drew ?_ | refine blk_alloc ?_ _)); refine blk_put (cs := #[.int .i64 0, .int .i64 0]) ?_ 0 _ rfl; (with_reducible repeat (first | refine blk_drewN ?_ _ | refine blk_drew ?_ | refine blk_alloc ?_ _)); exact BK127.out) Tryd.underlying38 rfl (by kernel_rfl)) rfl ?_
 exact ⟨TR, TB1 GE127.out⟩
/-! ### saronlaw05_CycleHears: function 4 -/
mutual
def saronlaw05_CycleHears.j0 : Nat → Bool → Int → List (S63) → Int → Int → Int → List (List Int) → Int → Option (Bool)
 | 0, _, _, _, _, _, _, _, _ => none
 | k + 1, x41, x288000, x288001, x288002, x288003, x288004, x288005, x288006 => if x41 = true then (some false) else ((cycle_Places.f x288000 x288001 x288005 x288006).bind fun bt297 => ((saronref05_Places.f k x288000 x288001 x288005 x288006).bind fun bt301 => ((saronref05_SameSpots.f k bt297.1 bt301.1).bind fun t305 => (if t305 = true then (saronlaw05_CycleHears.j1 k (bt297.2 != bt301.2) x288000 x288001 x288002 x288003 x288004 x288005 x288006) else (saronlaw05_CycleHears.j1 k true x288000 x288001 x288002 x288003 x288004 x288005 x288006)))))
def saronlaw05_CycleHears.j1 : Nat → Bool → Int → List (S63) → Int → Int → Int → List (List Int) → Int → Option (Bool)
 | 0, _, _, _, _, _, _, _, _ => none
 | k + 1, x70, x288000, x288001, x288002, x288003, x288004, x288005, x288006 => if x70 = true then (some false) else ((cycle_Least.f x288000 x288001 x288005).bind fun bt306 => ((saronref05_Least.f k x288000 x288001 x288005).bind fun bt308 => (if bt306.1 = bt308.1 then (saronlaw05_CycleHears.j2 k (bt306.2 != bt308.2) x288000 x288001 x288002 x288003 x288004 x288005 x288006) else (saronlaw05_CycleHears.j2 k true x288000 x288001 x288002 x288003 x288004 x288005 x288006))))
def saronlaw05_CycleHears.j2 : Nat → Bool → Int → List (S63) → Int → Int → Int → List (List Int) → Int → Option (Bool)
 | 0, _, _, _, _, _, _, _, _ => none
 | k + 1, x94, x288000, x288001, x288002, x288003, x288004, x288005, x288006 => if x94 = true then (some false) else ((cycle_Missing.f x288000 x288001 x288002 x288003 x288005).bind fun bt310 => ((saronref05_Missing.f k x288000 x288001 x288002 x288003 x288005).bind fun bt314 => ((saronref05_SameStrokes.f k bt310.1 bt314.1).bind fun t318 => (if t318 = true then (if bt310.2 = bt314.2 then ((saronlaw05_marked.f).bind fun t319 => (some t319)) else (some false)) else (some false)))))
end
def saronlaw05_CycleHears.f (k : Nat) (a0_0 : Int) (l0_1 : List (S63)) (a0_2 : Int) (a0_3 : Int) (a0_4 : Int) (l0_5 : List (List Int)) (a0_6 : Int) : Option (Bool) := (cycle_Passage.f a0_0 l0_1 a0_2 a0_3 a0_4).bind fun bt288 => ((saronref05_Passage.f k a0_0 l0_1 a0_2 a0_3 a0_4).bind fun bt292 => ((saronref00_EqualRows.f k bt288.1 bt292.1).bind fun t296 => (if t296 = true then (saronlaw05_CycleHears.j0 k (bt288.2 != bt292.2) a0_0 l0_1 a0_2 a0_3 a0_4 l0_5 a0_6) else (saronlaw05_CycleHears.j0 k true a0_0 l0_1 a0_2 a0_3 a0_4 l0_5 a0_6))))
theorem saronlaw05_CycleHears.mono_l : ∀ k, (∀ y0 y1 y2 y3 y4 y5 y6 y7, LeO (saronlaw05_CycleHears.j0 k y0 y1 y2 y3 y4 y5 y6 y7) (saronlaw05_CycleHears.j0 (k + 1) y0 y1 y2 y3 y4 y5 y6 y7)) ∧ (∀ y0 y1 y2 y3 y4 y5 y6 y7, LeO (saronlaw05_CycleHears.j1 k y0 y1 y2 y3 y4 y5 y6 y7) (saronlaw05_CycleHears.j1 (k + 1) y0 y1 y2 y3 y4 y5 y6 y7)) ∧ (∀ y0 y1 y2 y3 y4 y5 y6 y7, LeO (saronlaw05_CycleHears.j2 k y0 y1 y2 y3 y4 y5 y6 y7) (saronlaw05_CycleHears.j2 (k + 1) y0 y1 y2 y3 y4 y5 y6 y7))
 | 0 => ⟨fun _ _ _ _ _ _ _ _ r h => by simp [saronlaw05_CycleHears.j0] at h, fun _ _ _ _ _ _ _ _ r h => by simp [saronlaw05_CycleHears.j1] at h, fun _ _ _ _ _ _ _ _ r h => by simp [saronlaw05_CycleHears.j2] at h⟩
 | k + 1 => by
  obtain ⟨ih0, ih1, ih2⟩ := saronlaw05_CycleHears.mono_l k
  refine ⟨?_, ?_, ?_⟩
  ·intro y0 y1 y2 y3 y4 y5 y6 y7
   unfold saronlaw05_CycleHears.j0
   repeat' first
   | (with_reducible exact ih0 _ _ _ _ _ _ _ _)
   | (with_reducible exact ih1 _ _ _ _ _ _ _ _)
   | (with_reducible exact ih2 _ _ _ _ _ _ _ _)
   | (with_reducible exact saronref00_EqualRows.mono _ _ _)
   | (with_reducible exact saronref05_Least.mono _ _ _ _)
   | (with_reducible exact saronref05_Missing.mono _ _ _ _ _ _)
   | (with_reducible exact saronref05_Passage.mono _ _ _ _ _ _)
   | (with_reducible exact saronref05_Places.mono _ _ _ _ _)
   | (with_reducible exact saronref05_SameSpots.mono _ _ _)
   | (with_reducible exact saronref05_SameStrokes.mono _ _ _)
   | (with_reducible exact LeO.refl _)
   | (with_reducible exact LeO.none _)
   | (with_reducible refine LeO.ite ?_ ?_)
   | (with_reducible refine LeO.bind ?_ (fun _ => ?_))
   | exact ih0 _ _ _ _ _ _ _ _
   | exact ih1 _ _ _ _ _ _ _ _
   | exact ih2 _ _ _ _ _ _ _ _
   | exact saronref00_EqualRows.mono _ _ _
   | exact saronref05_Least.mono _ _ _ _
   | exact saronref05_Missing.mono _ _ _ _ _ _
   | exact saronref05_Passage.mono _ _ _ _ _ _
   | exact saronref05_Places.mono _ _ _ _ _
   | exact saronref05_SameSpots.mono _ _ _
   | exact saronref05_SameStrokes.mono _ _ _
   | exact LeO.none _
   | refine LeO.ite ?_ ?_
   | refine LeO.bind ?_ (fun _ => ?_)
  ·intro y0 y1 y2 y3 y4 y5 y6 y7
   unfold saronlaw05_CycleHears.j1
   repeat' first
   | (with_reducible exact ih0 _ _ _ _ _ _ _ _)
   | (with_reducible exact ih1 _ _ _ _ _ _ _ _)
   | (with_reducible exact ih2 _ _ _ _ _ _ _ _)
   | (with_reducible exact saronref00_EqualRows.mono _ _ _)
   | (with_reducible exact saronref05_Least.mono _ _ _ _)
   | (with_reducible exact saronref05_Missing.mono _ _ _ _ _ _)
   | (with_reducible exact saronref05_Passage.mono _ _ _ _ _ _)
   | (with_reducible exact saronref05_Places.mono _ _ _ _ _)
   | (with_reducible exact saronref05_SameSpots.mono _ _ _)
   | (with_reducible exact saronref05_SameStrokes.mono _ _ _)
   | (with_reducible exact LeO.refl _)
   | (with_reducible exact LeO.none _)
   | (with_reducible refine LeO.ite ?_ ?_)
   | (with_reducible refine LeO.bind ?_ (fun _ => ?_))
   | exact ih0 _ _ _ _ _ _ _ _
   | exact ih1 _ _ _ _ _ _ _ _
   | exact ih2 _ _ _ _ _ _ _ _
   | exact saronref00_EqualRows.mono _ _ _
   | exact saronref05_Least.mono _ _ _ _
   | exact saronref05_Missing.mono _ _ _ _ _ _
   | exact saronref05_Passage.mono _ _ _ _ _ _
   | exact saronref05_Places.mono _ _ _ _ _
   | exact saronref05_SameSpots.mono _ _ _
   | exact saronref05_SameStrokes.mono _ _ _
   | exact LeO.none _
   | refine LeO.ite ?_ ?_
   | refine LeO.bind ?_ (fun _ => ?_)
  ·intro y0 y1 y2 y3 y4 y5 y6 y7
   unfold saronlaw05_CycleHears.j2
   repeat' first
   | (with_reducible exact ih0 _ _ _ _ _ _ _ _)
   | (with_reducible exact ih1 _ _ _ _ _ _ _ _)
   | (with_reducible exact ih2 _ _ _ _ _ _ _ _)
   | (with_reducible exact saronref00_EqualRows.mono _ _ _)
   | (with_reducible exact saronref05_Least.mono _ _ _ _)
   | (with_reducible exact saronref05_Missing.mono _ _ _ _ _ _)
   | (with_reducible exact saronref05_Passage.mono _ _ _ _ _ _)
   | (with_reducible exact saronref05_Places.mono _ _ _ _ _)
   | (with_reducible exact saronref05_SameSpots.mono _ _ _)
   | (with_reducible exact saronref05_SameStrokes.mono _ _ _)
   | (with_reducible exact LeO.refl _)
   | (with_reducible exact LeO.none _)
   | (with_reducible refine LeO.ite ?_ ?_)
   | (with_reducible refine LeO.bind ?_ (fun _ => ?_))
   | exact ih0 _ _ _ _ _ _ _ _
   | exact ih1 _ _ _ _ _ _ _ _
   | exact ih2 _ _ _ _ _ _ _ _
   | exact saronref00_EqualRows.mono _ _ _
   | exact saronref05_Least.mono _ _ _ _
   | exact saronref05_Missing.mono _ _ _ _ _ _
   | exact saronref05_Passage.mono _ _ _ _ _ _
   | exact saronref05_Places.mono _ _ _ _ _
   | exact saronref05_SameSpots.mono _ _ _
   | exact saronref05_SameStrokes.mono _ _ _
   | exact LeO.none _
   | refine LeO.ite ?_ ?_
   | refine LeO.bind ?_ (fun _ => ?_)
theorem saronlaw05_CycleHears.mono : ∀ a0 a1 a2 a3 a4 a5 a6 k, LeO (saronlaw05_CycleHears.f k a0 a1 a2 a3 a4 a5 a6) (saronlaw05_CycleHears.f (k + 1) a0 a1 a2 a3 a4 a5 a6) := by
 intro a0 a1 a2 a3 a4 a5 a6 k
 obtain ⟨ih0, ih1, ih2⟩ := saronlaw05_CycleHears.mono_l k
 unfold saronlaw05_CycleHears.f
 repeat' first
   | (with_reducible exact ih0 _ _ _ _ _ _ _ _)
   | (with_reducible exact ih1 _ _ _ _ _ _ _ _)
   | (with_reducible exact ih2 _ _ _ _ _ _ _ _)
   | (with_reducible exact saronref00_EqualRows.mono _ _ _)
   | (with_reducible exact saronref05_Least.mono _ _ _ _)
   | (with_reducible exact saronref05_Missing.mono _ _ _ _ _ _)
   | (with_reducible exact saronref05_Passage.mono _ _ _ _ _ _)
   | (with_reducible exact saronref05_Places.mono _ _ _ _ _)
   | (with_reducible exact saronref05_SameSpots.mono _ _ _)
   | (with_reducible exact saronref05_SameStrokes.mono _ _ _)
   | (with_reducible exact LeO.refl _)
   | (with_reducible exact LeO.none _)
   | (with_reducible refine LeO.ite ?_ ?_)
   | (with_reducible refine LeO.bind ?_ (fun _ => ?_))
   | exact ih0 _ _ _ _ _ _ _ _
   | exact ih1 _ _ _ _ _ _ _ _
   | exact ih2 _ _ _ _ _ _ _ _
   | exact saronref00_EqualRows.mono _ _ _
   | exact saronref05_Least.mono _ _ _ _
   | exact saronref05_Missing.mono _ _ _ _ _ _
   | exact saronref05_Passage.mono _ _ _ _ _ _
   | exact saronref05_Places.mono _ _ _ _ _
   | exact saronref05_SameSpots.mono _ _ _
   | exact saronref05_SameStrokes.mono _ _ _
   | exact LeO.none _
   | refine LeO.ite ?_ ?_
   | refine LeO.bind ?_ (fun _ => ?_)
set_option maxHeartbeats 8000000 in
set_option maxRecDepth 100000 in
theorem saronlaw05_CycleHears.calls (k : Nat) (a0_0 : Int) (A0_1 : Option Addr) (c0_1 : Nat) (l0_1 : List (S63)) (a0_2 : Int) (a0_3 : Int) (a0_4 : Int) (A0_5 : Option Addr) (c0_5 : Nat) (l0_5 : List (List Int)) (a0_6 : Int) (r : Bool) (w : World) (hr0_1 : Kd.C k63 w A0_1 l0_1.length l0_1) (hc0_1 : l0_1.length ≤ c0_1) (hr0_5 : Kd.C (Kd.slice 3 (Kd.int .i64)) w A0_5 l0_5.length l0_5) (hc0_5 : l0_5.length ≤ c0_5) (hG : Glob w) (h : saronlaw05_CycleHears.f k a0_0 l0_1 a0_2 a0_3 a0_4 l0_5 a0_6 = some r) :
  Calls Tryd.prog 4 #[.agg #[.int .i64 a0_0, .slice A0_1 l0_1.length c0_1, .int .i64 a0_2, .int .i64 a0_3, .int .i64 a0_4, .slice A0_5 l0_5.length c0_5, .int .i64 a0_6]] w fun e w' => e = .returned (.bool r) ∧ Below w.heap.size w w' := by
 have hu41 := Tryd.underlying41
 have hu24 := Tryd.underlying24
 have hu38 := Tryd.underlying38
 have HR0_1 := Aside0.mk hr0_1
 have HC0_1 := Aside0.mk hc0_1
 clear hr0_1 hc0_1
 have HR0_5 := Aside0.mk hr0_5
 have HC0_5 := Aside0.mk hc0_5
 clear hr0_5 hc0_5
 have HB := Aside0.mk (Below.refl w.heap.size w)
 have HG := Aside0.mk hG
 clear hG
 have H : ((cycle_Passage.f a0_0 l0_1 a0_2 a0_3 a0_4).bind fun bt288 => ((saronref05_Passage.f k a0_0 l0_1 a0_2 a0_3 a0_4).bind fun bt292 => ((saronref00_EqualRows.f k bt288.1 bt292.1).bind fun t296 => (if t296 = true then (saronlaw05_CycleHears.j0 k (bt288.2 != bt292.2) a0_0 l0_1 a0_2 a0_3 a0_4 l0_5 a0_6) else (saronlaw05_CycleHears.j0 k true a0_0 l0_1 a0_2 a0_3 a0_4 l0_5 a0_6))))) = some r := h
 clear h
 replace H := Option.bind_eq_some_iff.mp H
 obtain ⟨⟨t288, t291⟩, A20, H⟩ := H
 replace H : ((saronref05_Passage.f k a0_0 l0_1 a0_2 a0_3 a0_4).bind fun bt292 => ((saronref00_EqualRows.f k t288 bt292.1).bind fun t296 => (if t296 = true then (saronlaw05_CycleHears.j0 k (t291 != bt292.2) a0_0 l0_1 a0_2 a0_3 a0_4 l0_5 a0_6) else (saronlaw05_CycleHears.j0 k true a0_0 l0_1 a0_2 a0_3 a0_4 l0_5 a0_6)))) = some r := H
 have A2 := Aside0.mk A20
 clear A20
 replace H := Option.bind_eq_some_iff.mp H
 obtain ⟨⟨t292, t295⟩, A30, H⟩ := H
 replace H : ((saronref00_EqualRows.f k t288 t292).bind fun t296 => (if t296 = true then (saronlaw05_CycleHears.j0 k (t291 != t295) a0_0 l0_1 a0_2 a0_3 a0_4 l0_5 a0_6) else (saronlaw05_CycleHears.j0 k true a0_0 l0_1 a0_2 a0_3 a0_4 l0_5 a0_6))) = some r := H
 have A3 := Aside0.mk A30
 clear A30
 have HC4 := Aside0.mk H
 clear H
 go_enter Tryd.func4, Tryd.ntmps4
 go_upto_region 3 with (first | ((with_reducible refine gate_dst (N := 1) rfl ?_); refine box_event ?hg (N := 1) ?hd (cs := #[.int .i64 a0_0, .slice A0_1 l0_1.length c0_1, .int .i64 a0_2, .int .i64 a0_3, .int .i64 a0_4, .slice A0_5 l0_5.length c0_5, .int .i64 a0_6]) (t := 41) ?hr ?_; (case hd => rfl); (case hg => rfl); (case hr => exact TS); intro gb287 hg w5 hbox hb; have BK287 := Aside0.mk (hbox); have GW287 := Aside0.mk ((TG : w.heap.size ≤ gb287)); have GE287 := Aside0.mk ((TG : w.heap.size ≤ gb287)); replace HB := Aside0.mk (below_step TB hb); clear hb hbox hg; have hcz6_0 := czz BK287.out 0; have hcz6_1 := czz BK287.out 1; have hcz6_2 := czz BK287.out 2; have hcz6_3 := czz BK287.out 3; have hcz6_4 := czz BK287.out 4; have hcz6_5 := czz BK287.out 5; have hcz6_6 := czz BK287.out 6; have hfz6_0 := fz BK287.out 0; have hfz6_1 := fz BK287.out 1; have hfz6_2 := fz BK287.out 2; have hfz6_3 := fz BK287.out 3; have hfz6_4 := fz BK287.out 4; have hfz6_5 := fz BK287.out 5; have hfz6_6 := fz BK287.out 6) | ((with_reducible refine gate_callee (f := 24) rfl ?_); refine goesL_ (some 20) rfl rfl Tryd.func24 (by kernel_rfl) rfl #[.agg #[.int .i64 a0_0, .slice A0_1 l0_1.length c0_1], .agg #[.int .i64 a0_2, .int .i64 a0_3], .int .i64 a0_4] rfl TM ?_; (with_reducible refine (cycle_Passage.calls a0_0 _ _ l0_1 a0_2 a0_3 a0_4 t288 t291 _ ?side1 ?side2 ?side3 A2.out).mono ?_); (case side1 => exact TC HR0_1.out); (case side2 => exact HC0_1.out); (case side3 => exact Glob.fr HG.out (Fr.of_below (TB1 GE287.out))); rintro e w7 ⟨v289, rfl, ho0, hb⟩; refine ⟨_, rfl, ?_⟩; have HO290 := Aside0.mk (Kd.V_lower (Kd.V_mono (ok' := fun k_ => k_ ≠ gb287) ho0 (fun k_ hk_ => (Kd.freshB (g := gb287) (o := .cells #[.int .i64 a0_0, .slice A0_1 l0_1.length c0_1, .int .i64 a0_2, .int .i64 a0_3, .int .i64 a0_4, .slice A0_5 l0_5.length c0_5, .int .i64 a0_6] 41 (0, 0)) (by (with_reducible repeat (first | refine blk_drewN ?_ _ | refine blk_drew ?_ | refine blk_alloc ?_ _)); exact BK287.out) k_ hk_))) (below_size (TB1 GE287.out))); replace BK287 := Aside0.mk (blk_below (g := gb287) (o := .cells #[.int .i64 a0_0, .slice A0_1 l0_1.length c0_1, .int .i64 a0_2, .int .i64 a0_3, .int .i64 a0_4, .slice A0_5 l0_5.length c0_5, .int .i64 a0_6] 41 (0, 0)) (by (with_reducible repeat (first | refine blk_drewN ?_ _ | refine blk_drew ?_ | refine blk_alloc ?_ _)); exact BK287.out) hb); replace HB := Aside0.mk (below_step (TB1 GE287.out) hb); (try clear hb); (try clear hb2); (try clear hk); (try clear hi); (try clear ho0); have hcz8_0 := czz BK287.out 0; have hcz8_1 := czz BK287.out 1; have hcz8_2 := czz BK287.out 2; have hcz8_3 := czz BK287.out 3; have hcz8_4 := czz BK287.out 4; have hcz8_5 := czz BK287.out 5; have hcz8_6 := czz BK287.out 6; have hfz8_0 := fz BK287.out 0; have hfz8_1 := fz BK287.out 1; have hfz8_2 := fz BK287.out 2; have hfz8_3 := fz BK287.out 3; have hfz8_4 := fz BK287.out 4; have hfz8_5 := fz BK287.out 5; have hfz8_6 := fz BK287.out 6) | ((with_reducible refine gate_callee (f := 25) rfl ?_); refine goesL_ (some 30) rfl rfl Tryd.func25 (by kernel_rfl) rfl #[.agg #[.int .i64 a0_0, .slice A0_1 l0_1.length c0_1], .agg #[.int .i64 a0_2, .int .i64 a0_3], .int .i64 a0_4] rfl TM ?_; (with_reducible refine (saronref05_Passage.calls k a0_0 _ _ l0_1 a0_2 a0_3 a0_4 t292 t295 _ ?side1 ?side2 A3.out).mono ?_); (case side1 => exact TC HR0_1.out); (case side2 => exact HC0_1.out); rintro e w9 ⟨v293, rfl, ho0, hb⟩; refine ⟨_, rfl, ?_⟩; have HO294 := Aside0.mk (Kd.S_lower ho0 (below_size (TB1 GE287.out))); replace HO290 := Aside0.mk (Kd.V_elder' (by (with_reducible repeat (first | apply Kd.V_alloc | apply Kd.V_drewN | apply Kd.V_drew)); exact HO290.out) (Kd.S_base ho0) hb); replace BK287 := Aside0.mk (blk_below (g := gb287) (o := .cells #[.int .i64 a0_0, .slice A0_1 l0_1.length c0_1, .int .i64 a0_2, .int .i64 a0_3, .int .i64 a0_4, .slice A0_5 l0_5.length c0_5, .int .i64 a0_6] 41 (0, 0)) (by (with_reducible repeat (first | refine blk_drewN ?_ _ | refine blk_drew ?_ | refine blk_alloc ?_ _)); exact BK287.out) hb); replace HB := Aside0.mk (below_step (TB1 GE287.out) hb); (try clear hb); (try clear hb2); (try clear hk); (try clear hi); (try clear ho0)))
 (try simp only [Act.put, lA, lZ, lS])
 go_cut [41] (fun v41 wc => ∃ (kq : Nat) (x41_3 : Bool), v41 = .bool x41_3 ∧ Aside0 (saronlaw05_CycleHears.j0 kq x41_3 a0_0 l0_1 a0_2 a0_3 a0_4 l0_5 a0_6 = some r) ∧ Aside0 (kq ≤ k) ∧ Aside0 (wc.heap[gb287]? = some (.cells #[.int .i64 a0_0, (.slice A0_1 l0_1.length c0_1), .int .i64 a0_2, .int .i64 a0_3, .int .i64 a0_4, (.slice A0_5 l0_5.length c0_5), .int .i64 a0_6] 41 (0, 0))) ∧ Aside0 (Below w.heap.size w wc))
 case first => as_aux_lemma =>
  have H := HC4.out
  clear HC4
  replace H := Option.bind_eq_some_iff.mp H
  obtain ⟨t296, A100, H⟩ := H
  replace H : (if t296 = true then (saronlaw05_CycleHears.j0 k (t291 != t295) a0_0 l0_1 a0_2 a0_3 a0_4 l0_5 a0_6) else (saronlaw05_CycleHears.j0 k true a0_0 l0_1 a0_2 a0_3 a0_4 l0_5 a0_6)) = some r := H
  have A10 := Aside0.mk A100
  clear A100
  by_cases c11 : t296 = true
  ·subst c11
   have H1 : (saronlaw05_CycleHears.j0 k (t291 != t295) a0_0 l0_1 a0_2 a0_3 a0_4 l0_5 a0_6) = some r := by rw [if_pos rfl] at H; exact H
   clear H
   have H := H1
   clear H1
   have H' := Aside0.mk H
   clear H
   obtain ⟨Ao12, co12, eo12⟩ := Kd.V_slice HO290.out
   subst eo12
   obtain ⟨Ao13, co13, eo13⟩ := Kd.S_slice HO294.out
   subst eo13
   go_wp2_with (first | ((with_reducible refine gate_callee (f := 26) rfl ?_); refine goesL_ (some 35) rfl rfl Tryd.func26 (by kernel_rfl) rfl #[.slice Ao12 t288.length co12, .slice Ao13 t292.length co13] rfl TM ?_; (with_reducible refine (saronref00_EqualRows.calls k _ _ t288 _ _ t292 true _ ?side1 ?side2 ?side3 ?side4 A10.out).mono ?_); (case side1 => repeat (first | exact (Kd.V_reads' HO290.out).2.2 | (with_reducible refine Kd.C_alloc ?_ _) | (with_reducible refine Kd.C_drewN ?_ _) | (with_reducible refine Kd.C_drew ?_))); (case side2 => exact (Kd.V_reads' HO290.out).2.1); (case side3 => exact TE (Kd.S_reads' HO294.out).2.2); (case side4 => exact (Kd.S_reads' HO294.out).2.1); rintro e w' ⟨rfl, ⟨nd, rfl⟩⟩; refine ⟨_, rfl, ?_⟩))
   go_meet
   case rel => exact ⟨_, ((t291 != t295)), TT, H', ⟨by first | omega | exact Nat.le_refl _⟩, ⟨by (with_reducible repeat (first | refine blk_drewN ?_ _ | refine blk_drew ?_ | refine blk_alloc ?_ _)); exact BK287.out⟩, ⟨TB1 GE287.out⟩⟩
  ·replace c11 := Bool.eq_false_iff.mpr c11
   subst c11
   have H1 : (saronlaw05_CycleHears.j0 k true a0_0 l0_1 a0_2 a0_3 a0_4 l0_5 a0_6) = some r := by rw [if_neg (show ¬ (false = true) by decide)] at H; exact H
   clear H
   have H := H1
   clear H1
   have H' := Aside0.mk H
   clear H
   obtain ⟨Ao14, co14, eo14⟩ := Kd.V_slice HO290.out
   subst eo14
   obtain ⟨Ao15, co15, eo15⟩ := Kd.S_slice HO294.out
   subst eo15
   go_wp2_with (first | ((with_reducible refine gate_callee (f := 26) rfl ?_); refine goesL_ (some 35) rfl rfl Tryd.func26 (by kernel_rfl) rfl #[.slice Ao14 t288.length co14, .slice Ao15 t292.length co15] rfl TM ?_; (with_reducible refine (saronref00_EqualRows.calls k _ _ t288 _ _ t292 false _ ?side1 ?side2 ?side3 ?side4 A10.out).mono ?_); (case side1 => repeat (first | exact (Kd.V_reads' HO290.out).2.2 | (with_reducible refine Kd.C_alloc ?_ _) | (with_reducible refine Kd.C_drewN ?_ _) | (with_reducible refine Kd.C_drew ?_))); (case side2 => exact (Kd.V_reads' HO290.out).2.1); (case side3 => exact TE (Kd.S_reads' HO294.out).2.2); (case side4 => exact (Kd.S_reads' HO294.out).2.1); rintro e w' ⟨rfl, ⟨nd, rfl⟩⟩; refine ⟨_, rfl, ?_⟩))
   go_meet
   case rel => exact ⟨_, (true), TT, H', ⟨by first | omega | exact Nat.le_refl _⟩, ⟨by (with_reducible repeat (first | refine blk_drewN ?_ _ | refine blk_drew ?_ | refine blk_alloc ?_ _)); exact BK287.out⟩, ⟨TB1 GE287.out⟩⟩
 case rest => as_aux_lemma =>
  clear HC4
  try clear c1
  try clear c2
  try clear p2
  try clear c4
  try clear c11
  try clear hcz6_0 hcz6_1 hcz6_2 hcz6_3 hcz6_4 hcz6_5 hcz6_6
  try clear hcz8_0 hcz8_1 hcz8_2 hcz8_3 hcz8_4 hcz8_5 hcz8_6
  try clear hfz6_0 hfz6_1 hfz6_2 hfz6_3 hfz6_4 hfz6_5 hfz6_6
  try clear hfz8_0 hfz8_1 hfz8_2 hfz8_3 hfz8_4 hfz8_5 hfz8_6
  try clear BK287
  try clear HB
  obtain ⟨kq, x41_3, rfl, HA, HJ3, BK287, HB⟩ := hcut
  cases kq with
  | zero => exact absurd HA.out (by simp [saronlaw05_CycleHears.j0])
  | succ kj3 =>
   have H := HA.out
   clear HA
   simp only [saronlaw05_CycleHears.j0] at H
   by_cases c16 : x41_3 = true
   ·subst c16
    have H1 : (some false) = some r := by rw [if_pos rfl] at H; exact H
    clear H
    have H := H1
    clear H1
    obtain rfl := Option.some.inj H
    go_wp2
    go_ret
    exact ⟨TR, TB1 GE287.out⟩
   ·replace c16 := Bool.eq_false_iff.mpr c16
    subst c16
    have H1 : ((cycle_Places.f a0_0 l0_1 l0_5 a0_6).bind fun bt297 => ((saronref05_Places.f kj3 a0_0 l0_1 l0_5 a0_6).bind fun bt301 => ((saronref05_SameSpots.f kj3 bt297.1 bt301.1).bind fun t305 => (if t305 = true then (saronlaw05_CycleHears.j1 kj3 (bt297.2 != bt301.2) a0_0 l0_1 a0_2 a0_3 a0_4 l0_5 a0_6) else (saronlaw05_CycleHears.j1 kj3 true a0_0 l0_1 a0_2 a0_3 a0_4 l0_5 a0_6))))) = some r := by rw [if_neg (show ¬ (false = true) by decide)] at H; exact H
    clear H
    have H := H1
    clear H1
    replace H := Option.bind_eq_some_iff.mp H
    obtain ⟨⟨t297, t300⟩, A170, H⟩ := H
    replace H : ((saronref05_Places.f kj3 a0_0 l0_1 l0_5 a0_6).bind fun bt301 => ((saronref05_SameSpots.f kj3 t297 bt301.1).bind fun t305 => (if t305 = true then (saronlaw05_CycleHears.j1 kj3 (t300 != bt301.2) a0_0 l0_1 a0_2 a0_3 a0_4 l0_5 a0_6) else (saronlaw05_CycleHears.j1 kj3 true a0_0 l0_1 a0_2 a0_3 a0_4 l0_5 a0_6)))) = some r := H
    have A17 := Aside0.mk A170
    clear A170
    replace H := Option.bind_eq_some_iff.mp H
    obtain ⟨⟨t301, t304⟩, A180, H⟩ := H
    replace H : ((saronref05_SameSpots.f kj3 t297 t301).bind fun t305 => (if t305 = true then (saronlaw05_CycleHears.j1 kj3 (t300 != t304) a0_0 l0_1 a0_2 a0_3 a0_4 l0_5 a0_6) else (saronlaw05_CycleHears.j1 kj3 true a0_0 l0_1 a0_2 a0_3 a0_4 l0_5 a0_6))) = some r := H
    have A18 := Aside0.mk A180
    clear A180
    have HC19 := Aside0.mk H
    clear H
    have hcz20_0 := czz BK287.out 0
    have hcz20_1 := czz BK287.out 1
    have hcz20_2 := czz BK287.out 2
    have hcz20_3 := czz BK287.out 3
    have hcz20_4 := czz BK287.out 4
    have hcz20_5 := czz BK287.out 5
    have hcz20_6 := czz BK287.out 6
    have hfz20_0 := fz BK287.out 0
    have hfz20_1 := fz BK287.out 1
    have hfz20_2 := fz BK287.out 2
    have hfz20_3 := fz BK287.out 3
    have hfz20_4 := fz BK287.out 4
    have hfz20_5 := fz BK287.out 5
    have hfz20_6 := fz BK287.out 6
    go_upto_region 7 with (first | ((with_reducible refine gate_callee (f := 27) rfl ?_); refine goesL_ (some 49) rfl rfl Tryd.func27 (by kernel_rfl) rfl #[.agg #[.int .i64 a0_0, .slice A0_1 l0_1.length c0_1], .slice A0_5 l0_5.length c0_5, .int .i64 a0_6] rfl TM ?_; (with_reducible refine (cycle_Places.calls a0_0 _ _ l0_1 _ _ l0_5 a0_6 t297 t300 _ ?side1 ?side2 ?side3 ?side4 ?side5 A17.out).mono ?_); (case side1 => exact TC HR0_1.out); (case side2 => exact HC0_1.out); (case side3 => exact TC HR0_5.out); (case side4 => exact HC0_5.out); (case side5 => exact Glob.fr HG.out (Fr.of_below (TB1 GE287.out))); rintro e w21 ⟨v298, rfl, ho0, hb⟩; refine ⟨_, rfl, ?_⟩; have HO299 := Aside0.mk (Kd.V_lower (Kd.V_mono (ok' := fun k_ => k_ ≠ gb287) ho0 (fun k_ hk_ => (Kd.freshB (g := gb287) (o := .cells #[.int .i64 a0_0, .slice A0_1 l0_1.length c0_1, .int .i64 a0_2, .int .i64 a0_3, .int .i64 a0_4, .slice A0_5 l0_5.length c0_5, .int .i64 a0_6] 41 (0, 0)) (by (with_reducible repeat (first | refine blk_drewN ?_ _ | refine blk_drew ?_ | refine blk_alloc ?_ _)); exact BK287.out) k_ hk_))) (below_size (TB1 GE287.out))); replace BK287 := Aside0.mk (blk_below (g := gb287) (o := .cells #[.int .i64 a0_0, .slice A0_1 l0_1.length c0_1, .int .i64 a0_2, .int .i64 a0_3, .int .i64 a0_4, .slice A0_5 l0_5.length c0_5, .int .i64 a0_6] 41 (0, 0)) (by (with_reducible repeat (first | refine blk_drewN ?_ _ | refine blk_drew ?_ | refine blk_alloc ?_ _)); exact BK287.out) hb); replace HB := Aside0.mk (below_step (TB1 GE287.out) hb); (try clear hb); (try clear hb2); (try clear hk); (try clear hi); (try clear ho0); have hcz22_0 := czz BK287.out 0; have hcz22_1 := czz BK287.out 1; have hcz22_2 := czz BK287.out 2; have hcz22_3 := czz BK287.out 3; have hcz22_4 := czz BK287.out 4; have hcz22_5 := czz BK287.out 5; have hcz22_6 := czz BK287.out 6; have hfz22_0 := fz BK287.out 0; have hfz22_1 := fz BK287.out 1; have hfz22_2 := fz BK287.out 2; have hfz22_3 := fz BK287.out 3; have hfz22_4 := fz BK287.out 4; have hfz22_5 := fz BK287.out 5; have hfz22_6 := fz BK287.out 6) | ((with_reducible refine gate_callee (f := 28) rfl ?_); refine goesL_ (some 59) rfl rfl Tryd.func28 (by kernel_rfl) rfl #[.agg #[.int .i64 a0_0, .slice A0_1 l0_1.length c0_1], .slice A0_5 l0_5.length c0_5, .int .i64 a0_6] rfl TM ?_; (with_reducible refine (saronref05_Places.calls kj3 a0_0 _ _ l0_1 _ _ l0_5 a0_6 t301 t304 _ ?side1 ?side2 ?side3 ?side4 A18.out).mono ?_); (case side1 => exact TC HR0_1.out); (case side2 => exact HC0_1.out); (case side3 => exact TC HR0_5.out); (case side4 => exact HC0_5.out); rintro e w23 ⟨v302, rfl, ho0, hb⟩; refine ⟨_, rfl, ?_⟩; have HO303 := Aside0.mk (Kd.R_lower ho0 (below_size (TB1 GE287.out))); replace HO299 := Aside0.mk (Kd.V_elder' (by (with_reducible repeat (first | apply Kd.V_alloc | apply Kd.V_drewN | apply Kd.V_drew)); exact HO299.out) (Kd.R_base ho0) hb); replace BK287 := Aside0.mk (blk_below (g := gb287) (o := .cells #[.int .i64 a0_0, .slice A0_1 l0_1.length c0_1, .int .i64 a0_2, .int .i64 a0_3, .int .i64 a0_4, .slice A0_5 l0_5.length c0_5, .int .i64 a0_6] 41 (0, 0)) (by (with_reducible repeat (first | refine blk_drewN ?_ _ | refine blk_drew ?_ | refine blk_alloc ?_ _)); exact BK287.out) hb); replace HB := Aside0.mk (below_step (TB1 GE287.out) hb); (try clear hb); (try clear hb2); (try clear hk); (try clear hi); (try clear ho0)))
    (try simp only [Act.put, lA, lZ, lS])
    go_cut [70] (fun v70 wc => ∃ (kq : Nat) (x70_18 : Bool), v70 = .bool x70_18 ∧ Aside0 (saronlaw05_CycleHears.j1 kq x70_18 a0_0 l0_1 a0_2 a0_3 a0_4 l0_5 a0_6 = some r) ∧ Aside0 (kq ≤ kj3) ∧ Aside0 (wc.heap[gb287]? = some (.cells #[.int .i64 a0_0, (.slice A0_1 l0_1.length c0_1), .int .i64 a0_2, .int .i64 a0_3, .int .i64 a0_4, (.slice A0_5 l0_5.length c0_5), .int .i64 a0_6] 41 (0, 0))) ∧ Aside0 (Below w.heap.size w wc))
    case first => as_aux_lemma =>
     have H := HC19.out
     clear HC19
     replace H := Option.bind_eq_some_iff.mp H
     obtain ⟨t305, A240, H⟩ := H
     replace H : (if t305 = true then (saronlaw05_CycleHears.j1 kj3 (t300 != t304) a0_0 l0_1 a0_2 a0_3 a0_4 l0_5 a0_6) else (saronlaw05_CycleHears.j1 kj3 true a0_0 l0_1 a0_2 a0_3 a0_4 l0_5 a0_6)) = some r := H
     have A24 := Aside0.mk A240
     clear A240
     by_cases c25 : t305 = true
     ·subst c25
      have H1 : (saronlaw05_CycleHears.j1 kj3 (t300 != t304) a0_0 l0_1 a0_2 a0_3 a0_4 l0_5 a0_6) = some r := by rw [if_pos rfl] at H; exact H
      clear H
      have H := H1
      clear H1
      have H' := Aside0.mk H
      clear H
      obtain ⟨Ao26, co26, eo26⟩ := Kd.V_slice HO299.out
      subst eo26
      obtain ⟨Ao27, co27, eo27⟩ := Kd.R_slice HO303.out
      subst eo27
      go_wp2_with (first | ((with_reducible refine gate_callee (f := 29) rfl ?_); refine goesL_ (some 64) rfl rfl Tryd.func29 (by kernel_rfl) rfl #[.slice Ao26 t297.length co26, .slice Ao27 t301.length co27] rfl TM ?_; (with_reducible refine (saronref05_SameSpots.calls kj3 _ _ t297 _ _ t301 true _ ?side1 ?side2 ?side3 ?side4 A24.out).mono ?_); (case side1 => repeat (first | exact (Kd.V_reads' HO299.out).2.2 | (with_reducible refine Kd.C_alloc ?_ _) | (with_reducible refine Kd.C_drewN ?_ _) | (with_reducible refine Kd.C_drew ?_))); (case side2 => exact (Kd.V_reads' HO299.out).2.1); (case side3 => repeat (first | exact (Kd.R_reads' HO303.out).2.2 | (with_reducible refine Kd.C_alloc ?_ _) | (with_reducible refine Kd.C_drewN ?_ _) | (with_reducible refine Kd.C_drew ?_))); (case side4 => exact (Kd.R_reads' HO303.out).2.1); rintro e w' ⟨rfl, ⟨nd, rfl⟩⟩; refine ⟨_, rfl, ?_⟩))
      go_meet
      case rel => exact ⟨_, ((t300 != t304)), TT, H', ⟨by have := HJ3.out; first | omega | exact Nat.le_refl _⟩, ⟨by (with_reducible repeat (first | refine blk_drewN ?_ _ | refine blk_drew ?_ | refine blk_alloc ?_ _)); exact BK287.out⟩, ⟨TB1 GE287.out⟩⟩
     ·replace c25 := Bool.eq_false_iff.mpr c25
      subst c25
      have H1 : (saronlaw05_CycleHears.j1 kj3 true a0_0 l0_1 a0_2 a0_3 a0_4 l0_5 a0_6) = some r := by rw [if_neg (show ¬ (false = true) by decide)] at H; exact H
      clear H
      have H := H1
      clear H1
      have H' := Aside0.mk H
      clear H
      obtain ⟨Ao28, co28, eo28⟩ := Kd.V_slice HO299.out
      subst eo28
      obtain ⟨Ao29, co29, eo29⟩ := Kd.R_slice HO303.out
      subst eo29
      go_wp2_with (first | ((with_reducible refine gate_callee (f := 29) rfl ?_); refine goesL_ (some 64) rfl rfl Tryd.func29 (by kernel_rfl) rfl #[.slice Ao28 t297.length co28, .slice Ao29 t301.length co29] rfl TM ?_; (with_reducible refine (saronref05_SameSpots.calls kj3 _ _ t297 _ _ t301 false _ ?side1 ?side2 ?side3 ?side4 A24.out).mono ?_); (case side1 => repeat (first | exact (Kd.V_reads' HO299.out).2.2 | (with_reducible refine Kd.C_alloc ?_ _) | (with_reducible refine Kd.C_drewN ?_ _) | (with_reducible refine Kd.C_drew ?_))); (case side2 => exact (Kd.V_reads' HO299.out).2.1); (case side3 => repeat (first | exact (Kd.R_reads' HO303.out).2.2 | (with_reducible refine Kd.C_alloc ?_ _) | (with_reducible refine Kd.C_drewN ?_ _) | (with_reducible refine Kd.C_drew ?_))); (case side4 => exact (Kd.R_reads' HO303.out).2.1); rintro e w' ⟨rfl, ⟨nd, rfl⟩⟩; refine ⟨_, rfl, ?_⟩))
      go_meet
      case rel => exact ⟨_, (true), TT, H', ⟨by have := HJ3.out; first | omega | exact Nat.le_refl _⟩, ⟨by (with_reducible repeat (first | refine blk_drewN ?_ _ | refine blk_drew ?_ | refine blk_alloc ?_ _)); exact BK287.out⟩, ⟨TB1 GE287.out⟩⟩
    case rest => as_aux_lemma =>
     clear HC19
     try clear c1
     try clear c2
     try clear p2
     try clear c4
     try clear c11
     try clear c16
     try clear c24
     try clear c25
     try clear c26
     try clear c27
     try clear c28
     try clear c29
     try clear hcz20_0 hcz20_1 hcz20_2 hcz20_3 hcz20_4 hcz20_5 hcz20_6
     try clear hcz22_0 hcz22_1 hcz22_2 hcz22_3 hcz22_4 hcz22_5 hcz22_6
     try clear hcz6_0 hcz6_1 hcz6_2 hcz6_3 hcz6_4 hcz6_5 hcz6_6
     try clear hcz8_0 hcz8_1 hcz8_2 hcz8_3 hcz8_4 hcz8_5 hcz8_6
     try clear hfz20_0 hfz20_1 hfz20_2 hfz20_3 hfz20_4 hfz20_5 hfz20_6
     try clear hfz22_0 hfz22_1 hfz22_2 hfz22_3 hfz22_4 hfz22_5 hfz22_6
     try clear hfz6_0 hfz6_1 hfz6_2 hfz6_3 hfz6_4 hfz6_5 hfz6_6
     try clear hfz8_0 hfz8_1 hfz8_2 hfz8_3 hfz8_4 hfz8_5 hfz8_6
     try clear p2
     try clear BK287
     try clear HB
     obtain ⟨kq, x70_18, rfl, HA, HJ18, BK287, HB⟩ := hcut
     cases kq with
     | zero => exact absurd HA.out (by simp [saronlaw05_CycleHears.j1])
     | succ kj18 =>
      have H := HA.out
      clear HA
      simp only [saronlaw05_CycleHears.j1] at H
      by_cases c30 : x70_18 = true
      ·subst c30
       have H1 : (some false) = some r := by rw [if_pos rfl] at H; exact H
       clear H
       have H := H1
       clear H1
       obtain rfl := Option.some.inj H
       go_wp2
       go_ret
       exact ⟨TR, TB1 GE287.out⟩
      ·replace c30 := Bool.eq_false_iff.mpr c30
       subst c30
       have H1 : ((cycle_Least.f a0_0 l0_1 l0_5).bind fun bt306 => ((saronref05_Least.f kj18 a0_0 l0_1 l0_5).bind fun bt308 => (if bt306.1 = bt308.1 then (saronlaw05_CycleHears.j2 kj18 (bt306.2 != bt308.2) a0_0 l0_1 a0_2 a0_3 a0_4 l0_5 a0_6) else (saronlaw05_CycleHears.j2 kj18 true a0_0 l0_1 a0_2 a0_3 a0_4 l0_5 a0_6)))) = some r := by rw [if_neg (show ¬ (false = true) by decide)] at H; exact H
       clear H
       have H := H1
       clear H1
       replace H := Option.bind_eq_some_iff.mp H
       obtain ⟨⟨t306, t307⟩, A310, H⟩ := H
       replace H : ((saronref05_Least.f kj18 a0_0 l0_1 l0_5).bind fun bt308 => (if t306 = bt308.1 then (saronlaw05_CycleHears.j2 kj18 (t307 != bt308.2) a0_0 l0_1 a0_2 a0_3 a0_4 l0_5 a0_6) else (saronlaw05_CycleHears.j2 kj18 true a0_0 l0_1 a0_2 a0_3 a0_4 l0_5 a0_6))) = some r := H
       have A31 := Aside0.mk A310
       clear A310
       replace H := Option.bind_eq_some_iff.mp H
       obtain ⟨⟨t308, t309⟩, A320, H⟩ := H
       replace H : (if t306 = t308 then (saronlaw05_CycleHears.j2 kj18 (t307 != t309) a0_0 l0_1 a0_2 a0_3 a0_4 l0_5 a0_6) else (saronlaw05_CycleHears.j2 kj18 true a0_0 l0_1 a0_2 a0_3 a0_4 l0_5 a0_6)) = some r := H
       have A32 := Aside0.mk A320
       clear A320
       have HC33 := Aside0.mk H
       clear H
       have hcz34_0 := czz BK287.out 0
       have hcz34_1 := czz BK287.out 1
       have hcz34_2 := czz BK287.out 2
       have hcz34_3 := czz BK287.out 3
       have hcz34_4 := czz BK287.out 4
       have hcz34_5 := czz BK287.out 5
       have hcz34_6 := czz BK287.out 6
       have hfz34_0 := fz BK287.out 0
       have hfz34_1 := fz BK287.out 1
       have hfz34_2 := fz BK287.out 2
       have hfz34_3 := fz BK287.out 3
       have hfz34_4 := fz BK287.out 4
       have hfz34_5 := fz BK287.out 5
       have hfz34_6 := fz BK287.out 6
       go_upto_region 11 with (first | ((with_reducible refine gate_callee (f := 30) rfl ?_); refine goesL_ (some 76) rfl rfl Tryd.func30 (by kernel_rfl) rfl #[.agg #[.int .i64 a0_0, .slice A0_1 l0_1.length c0_1], .slice A0_5 l0_5.length c0_5] rfl TM ?_; (with_reducible refine (cycle_Least.calls a0_0 _ _ l0_1 _ _ l0_5 t306 t307 _ ?side1 ?side2 ?side3 ?side4 ?side5 A31.out).mono ?_); (case side1 => exact TC HR0_1.out); (case side2 => exact HC0_1.out); (case side3 => exact TC HR0_5.out); (case side4 => exact HC0_5.out); (case side5 => exact Glob.fr HG.out (Fr.of_below (TB1 GE287.out))); rintro e w35 ⟨rfl, hb⟩; refine ⟨_, rfl, ?_⟩; replace BK287 := Aside0.mk (blk_below (g := gb287) (o := .cells #[.int .i64 a0_0, .slice A0_1 l0_1.length c0_1, .int .i64 a0_2, .int .i64 a0_3, .int .i64 a0_4, .slice A0_5 l0_5.length c0_5, .int .i64 a0_6] 41 (0, 0)) (by (with_reducible repeat (first | refine blk_drewN ?_ _ | refine blk_drew ?_ | refine blk_alloc ?_ _)); exact BK287.out) hb); replace HB := Aside0.mk (below_step (TB1 GE287.out) hb); (try clear hb); (try clear hb2); (try clear hk); (try clear hi); have hcz36_0 := czz BK287.out 0; have hcz36_1 := czz BK287.out 1; have hcz36_2 := czz BK287.out 2; have hcz36_3 := czz BK287.out 3; have hcz36_4 := czz BK287.out 4; have hcz36_5 := czz BK287.out 5; have hcz36_6 := czz BK287.out 6; have hfz36_0 := fz BK287.out 0; have hfz36_1 := fz BK287.out 1; have hfz36_2 := fz BK287.out 2; have hfz36_3 := fz BK287.out 3; have hfz36_4 := fz BK287.out 4; have hfz36_5 := fz BK287.out 5; have hfz36_6 := fz BK287.out 6) | ((with_reducible refine gate_callee (f := 31) rfl ?_); refine goesL_ (some 84) rfl rfl Tryd.func31 (by kernel_rfl) rfl #[.agg #[.int .i64 a0_0, .slice A0_1 l0_1.length c0_1], .slice A0_5 l0_5.length c0_5] rfl TM ?_; (with_reducible refine (saronref05_Least.calls kj18 a0_0 _ _ l0_1 _ _ l0_5 t308 t309 _ ?side1 ?side2 ?side3 ?side4 A32.out).mono ?_); (case side1 => exact TC HR0_1.out); (case side2 => exact HC0_1.out); (case side3 => exact TC HR0_5.out); (case side4 => exact HC0_5.out); rintro e w37 ⟨rfl, hb⟩; refine ⟨_, rfl, ?_⟩; replace BK287 := Aside0.mk (blk_below (g := gb287) (o := .cells #[.int .i64 a0_0, .slice A0_1 l0_1.length c0_1, .int .i64 a0_2, .int .i64 a0_3, .int .i64 a0_4, .slice A0_5 l0_5.length c0_5, .int .i64 a0_6] 41 (0, 0)) (by (with_reducible repeat (first | refine blk_drewN ?_ _ | refine blk_drew ?_ | refine blk_alloc ?_ _)); exact BK287.out) hb); replace HB := Aside0.mk (below_step (TB1 GE287.out) hb); (try clear hb); (try clear hb2); (try clear hk); (try clear hi)))
       (try simp only [Act.put, lA, lZ, lS])
       go_cut [94] (fun v94 wc => ∃ (kq : Nat) (x94_32 : Bool), v94 = .bool x94_32 ∧ Aside0 (saronlaw05_CycleHears.j2 kq x94_32 a0_0 l0_1 a0_2 a0_3 a0_4 l0_5 a0_6 = some r) ∧ Aside0 (kq ≤ kj18) ∧ Aside0 (wc.heap[gb287]? = some (.cells #[.int .i64 a0_0, (.slice A0_1 l0_1.length c0_1), .int .i64 a0_2, .int .i64 a0_3, .int .i64 a0_4, (.slice A0_5 l0_5.length c0_5), .int .i64 a0_6] 41 (0, 0))) ∧ Aside0 (Below w.heap.size w wc))
       case first => as_aux_lemma =>
        have H := HC33.out
        clear HC33
        by_cases c38 : t306 = t308
        ·rw [if_pos c38] at H
         have c38b0 : (t306 == t308) = true := beq_iff_eq.mpr c38
         have c38b1 : (t306 != t308) = false := bne_eq_false_iff_eq.mpr c38
         clear c38
         (first | rw [c38b0] | (simp only [i64_w, i32_w]; rw [c38b0]) | skip)
         have H' := Aside0.mk H
         clear H
         go_wp2
         go_meet
         case rel => exact ⟨_, ((t307 != t309)), TT, H', ⟨by have := HJ3.out; have := HJ18.out; first | omega | exact Nat.le_refl _⟩, ⟨by (with_reducible repeat (first | refine blk_drewN ?_ _ | refine blk_drew ?_ | refine blk_alloc ?_ _)); exact BK287.out⟩, ⟨TB1 GE287.out⟩⟩
        ·rw [if_neg c38] at H
         have c38b0 : (t306 == t308) = false := beq_eq_false_iff_ne.mpr c38
         have c38b1 : (t306 != t308) = true := bne_iff_ne.mpr c38
         (first | rw [c38b0] | (simp only [i64_w, i32_w]; rw [c38b0]) | skip)
         have H' := Aside0.mk H
         clear H
         go_wp2
         go_meet
         case rel => exact ⟨_, (true), TT, H', ⟨by have := HJ3.out; have := HJ18.out; first | omega | exact Nat.le_refl _⟩, ⟨by (with_reducible repeat (first | refine blk_drewN ?_ _ | refine blk_drew ?_ | refine blk_alloc ?_ _)); exact BK287.out⟩, ⟨TB1 GE287.out⟩⟩
       case rest => as_aux_lemma =>
        clear HC33
        try clear c1
        try clear c2
        try clear p2
        try clear c3
        try clear c4
        try clear c11
        try clear c16
        try clear c24
        try clear c25
        try clear c26
        try clear c27
        try clear c28
        try clear c29
        try clear c30
        try clear c31
        try clear c38
        try clear c38b0
        try clear c38b1
        try clear hcz20_0 hcz20_1 hcz20_2 hcz20_3 hcz20_4 hcz20_5 hcz20_6
        try clear hcz22_0 hcz22_1 hcz22_2 hcz22_3 hcz22_4 hcz22_5 hcz22_6
        try clear hcz34_0 hcz34_1 hcz34_2 hcz34_3 hcz34_4 hcz34_5 hcz34_6
        try clear hcz36_0 hcz36_1 hcz36_2 hcz36_3 hcz36_4 hcz36_5 hcz36_6
        try clear hcz6_0 hcz6_1 hcz6_2 hcz6_3 hcz6_4 hcz6_5 hcz6_6
        try clear hcz8_0 hcz8_1 hcz8_2 hcz8_3 hcz8_4 hcz8_5 hcz8_6
        try clear hfz20_0 hfz20_1 hfz20_2 hfz20_3 hfz20_4 hfz20_5 hfz20_6
        try clear hfz22_0 hfz22_1 hfz22_2 hfz22_3 hfz22_4 hfz22_5 hfz22_6
        try clear hfz34_0 hfz34_1 hfz34_2 hfz34_3 hfz34_4 hfz34_5 hfz34_6
        try clear hfz36_0 hfz36_1 hfz36_2 hfz36_3 hfz36_4 hfz36_5 hfz36_6
        try clear hfz6_0 hfz6_1 hfz6_2 hfz6_3 hfz6_4 hfz6_5 hfz6_6
        try clear hfz8_0 hfz8_1 hfz8_2 hfz8_3 hfz8_4 hfz8_5 hfz8_6
        try clear p2
        try clear BK287
        try clear HB
        obtain ⟨kq, x94_32, rfl, HA, HJ32, BK287, HB⟩ := hcut
        cases kq with
        | zero => exact absurd HA.out (by simp [saronlaw05_CycleHears.j2])
        | succ kj32 =>
         have H := HA.out
         clear HA
         simp only [saronlaw05_CycleHears.j2] at H
         by_cases c39 : x94_32 = true
         ·subst c39
          have H1 : (some false) = some r := by rw [if_pos rfl] at H; exact H
          clear H
          have H := H1
          clear H1
          obtain rfl := Option.some.inj H
          go_wp2
          go_ret
          exact ⟨TR, TB1 GE287.out⟩
         ·replace c39 := Bool.eq_false_iff.mpr c39
          subst c39
          have H1 : ((cycle_Missing.f a0_0 l0_1 a0_2 a0_3 l0_5).bind fun bt310 => ((saronref05_Missing.f kj32 a0_0 l0_1 a0_2 a0_3 l0_5).bind fun bt314 => ((saronref05_SameStrokes.f kj32 bt310.1 bt314.1).bind fun t318 => (if t318 = true then (if bt310.2 = bt314.2 then ((saronlaw05_marked.f).bind fun t319 => (some t319)) else (some false)) else (some false))))) = some r := by rw [if_neg (show ¬ (false = true) by decide)] at H; exact H
          clear H
          have H := H1
          clear H1
          replace H := Option.bind_eq_some_iff.mp H
          obtain ⟨⟨t310, t313⟩, A400, H⟩ := H
          replace H : ((saronref05_Missing.f kj32 a0_0 l0_1 a0_2 a0_3 l0_5).bind fun bt314 => ((saronref05_SameStrokes.f kj32 t310 bt314.1).bind fun t318 => (if t318 = true then (if t313 = bt314.2 then ((saronlaw05_marked.f).bind fun t319 => (some t319)) else (some false)) else (some false)))) = some r := H
          have A40 := Aside0.mk A400
          clear A400
          replace H := Option.bind_eq_some_iff.mp H
          obtain ⟨⟨t314, t317⟩, A410, H⟩ := H
          replace H : ((saronref05_SameStrokes.f kj32 t310 t314).bind fun t318 => (if t318 = true then (if t313 = t317 then ((saronlaw05_marked.f).bind fun t319 => (some t319)) else (some false)) else (some false))) = some r := H
          have A41 := Aside0.mk A410
          clear A410
          replace H := Option.bind_eq_some_iff.mp H
          obtain ⟨t318, A420, H⟩ := H
          replace H : (if t318 = true then (if t313 = t317 then ((saronlaw05_marked.f).bind fun t319 => (some t319)) else (some false)) else (some false)) = some r := H
          have A42 := Aside0.mk A420
          clear A420
          by_cases c43 : t318 = true
          ·subst c43
           have H1 : (if t313 = t317 then ((saronlaw05_marked.f).bind fun t319 => (some t319)) else (some false)) = some r := by rw [if_pos rfl] at H; exact H
           clear H
           have H := H1
           clear H1
           by_cases c44 : t313 = t317
           ·rw [if_pos c44] at H
            have c44b0 : (t313 == t317) = true := beq_iff_eq.mpr c44
            have c44b1 : (t313 != t317) = false := bne_eq_false_iff_eq.mpr c44
            clear c44
            replace H := Option.bind_eq_some_iff.mp H
            obtain ⟨t319, A450, H⟩ := H
            replace H : (some t319) = some r := H
            have A45 := Aside0.mk A450
            clear A450
            obtain rfl := Option.some.inj H
            have hcz46_0 := czz BK287.out 0
            have hcz46_1 := czz BK287.out 1
            have hcz46_2 := czz BK287.out 2
            have hcz46_3 := czz BK287.out 3
            have hcz46_4 := czz BK287.out 4
            have hcz46_5 := czz BK287.out 5
            have hcz46_6 := czz BK287.out 6
            have hfz46_0 := fz BK287.out 0
            have hfz46_1 := fz BK287.out 1
            have hfz46_2 := fz BK287.out 2
            have hfz46_3 := fz BK287.out 3
            have hfz46_4 := fz BK287.out 4
            have hfz46_5 := fz BK287.out 5
            have hfz46_6 := fz BK287.out 6
            go_wp2_with (first | ((with_reducible refine gate_callee (f := 32) rfl ?_); refine goesL_ (some 102) rfl rfl Tryd.func32 (by kernel_rfl) rfl #[.agg #[.int .i64 a0_0, .slice A0_1 l0_1.length c0_1], .agg #[.int .i64 a0_2, .int .i64 a0_3], .slice A0_5 l0_5.length c0_5] rfl TM ?_; (with_reducible refine (cycle_Missing.calls a0_0 _ _ l0_1 a0_2 a0_3 _ _ l0_5 t310 t313 _ ?side1 ?side2 ?side3 ?side4 ?side5 A40.out).mono ?_); (case side1 => exact TC HR0_1.out); (case side2 => exact HC0_1.out); (case side3 => exact TC HR0_5.out); (case side4 => exact HC0_5.out); (case side5 => exact Glob.fr HG.out (Fr.of_below (TB1 GE287.out))); rintro e w47 ⟨v311, rfl, ho0, hb⟩; refine ⟨_, rfl, ?_⟩; have HO312 := Aside0.mk (Kd.V_lower (Kd.V_mono (ok' := fun k_ => k_ ≠ gb287) ho0 (fun k_ hk_ => (Kd.freshB (g := gb287) (o := .cells #[.int .i64 a0_0, .slice A0_1 l0_1.length c0_1, .int .i64 a0_2, .int .i64 a0_3, .int .i64 a0_4, .slice A0_5 l0_5.length c0_5, .int .i64 a0_6] 41 (0, 0)) (by (with_reducible repeat (first | refine blk_drewN ?_ _ | refine blk_drew ?_ | refine blk_alloc ?_ _)); exact BK287.out) k_ hk_))) (below_size (TB1 GE287.out))); replace BK287 := Aside0.mk (blk_below (g := gb287) (o := .cells #[.int .i64 a0_0, .slice A0_1 l0_1.length c0_1, .int .i64 a0_2, .int .i64 a0_3, .int .i64 a0_4, .slice A0_5 l0_5.length c0_5, .int .i64 a0_6] 41 (0, 0)) (by (with_reducible repeat (first | refine blk_drewN ?_ _ | refine blk_drew ?_ | refine blk_alloc ?_ _)); exact BK287.out) hb); replace HB := Aside0.mk (below_step (TB1 GE287.out) hb); (try clear hb); (try clear hb2); (try clear hk); (try clear hi); (try clear ho0); have hcz48_0 := czz BK287.out 0; have hcz48_1 := czz BK287.out 1; have hcz48_2 := czz BK287.out 2; have hcz48_3 := czz BK287.out 3; have hcz48_4 := czz BK287.out 4; have hcz48_5 := czz BK287.out 5; have hcz48_6 := czz BK287.out 6; have hfz48_0 := fz BK287.out 0; have hfz48_1 := fz BK287.out 1; have hfz48_2 := fz BK287.out 2; have hfz48_3 := fz BK287.out 3; have hfz48_4 := fz BK287.out 4; have hfz48_5 := fz BK287.out 5; have hfz48_6 := fz BK287.out 6) | ((with_reducible refine gate_callee (f := 33) rfl ?_); refine goesL_ (some 112) rfl rfl Tryd.func33 (by kernel_rfl) rfl #[.agg #[.int .i64 a0_0, .slice A0_1 l0_1.length c0_1], .agg #[.int .i64 a0_2, .int .i64 a0_3], .slice A0_5 l0_5.length c0_5] rfl TM ?_; (with_reducible refine (saronref05_Missing.calls kj32 a0_0 _ _ l0_1 a0_2 a0_3 _ _ l0_5 t314 t317 _ ?side1 ?side2 ?side3 ?side4 A41.out).mono ?_); (case side1 => exact TC HR0_1.out); (case side2 => exact HC0_1.out); (case side3 => exact TC HR0_5.out); (case side4 => exact HC0_5.out); rintro e w49 ⟨v315, rfl, ho0, hb⟩; refine ⟨_, rfl, ?_⟩; have HO316 := Aside0.mk (Kd.R_lower ho0 (below_size (TB1 GE287.out))); replace HO312 := Aside0.mk (Kd.V_elder' (by (with_reducible repeat (first | apply Kd.V_alloc | apply Kd.V_drewN | apply Kd.V_drew)); exact HO312.out) (Kd.R_base ho0) hb); replace BK287 := Aside0.mk (blk_below (g := gb287) (o := .cells #[.int .i64 a0_0, .slice A0_1 l0_1.length c0_1, .int .i64 a0_2, .int .i64 a0_3, .int .i64 a0_4, .slice A0_5 l0_5.length c0_5, .int .i64 a0_6] 41 (0, 0)) (by (with_reducible repeat (first | refine blk_drewN ?_ _ | refine blk_drew ?_ | refine blk_alloc ?_ _)); exact BK287.out) hb); replace HB := Aside0.mk (below_step (TB1 GE287.out) hb); (try clear hb); (try clear hb2); (try clear hk); (try clear hi); (try clear ho0); obtain ⟨Ao50, co50, eo50⟩ := Kd.V_slice HO312.out; subst eo50; obtain ⟨Ao51, co51, eo51⟩ := Kd.R_slice HO316.out; subst eo51) | ((with_reducible refine gate_callee (f := 34) rfl ?_); refine goesL_ (some 117) rfl rfl Tryd.func34 (by kernel_rfl) rfl #[.slice Ao50 t310.length co50, .slice Ao51 t314.length co51] rfl TM ?_; (with_reducible refine (saronref05_SameStrokes.calls kj32 _ _ t310 _ _ t314 true _ ?side1 ?side2 ?side3 ?side4 A42.out).mono ?_); (case side1 => repeat (first | exact (Kd.V_reads' HO312.out).2.2 | (with_reducible refine Kd.C_alloc ?_ _) | (with_reducible refine Kd.C_drewN ?_ _) | (with_reducible refine Kd.C_drew ?_))); (case side2 => exact (Kd.V_reads' HO312.out).2.1); (case side3 => repeat (first | exact (Kd.R_reads' HO316.out).2.2 | (with_reducible refine Kd.C_alloc ?_ _) | (with_reducible refine Kd.C_drewN ?_ _) | (with_reducible refine Kd.C_drew ?_))); (case side4 => exact (Kd.R_reads' HO316.out).2.1); rintro e w' ⟨rfl, ⟨nd, rfl⟩⟩; refine ⟨_, rfl, ?_⟩) | (go_at_call 23; (with_reducible refine (saronlaw05_marked.calls  t319 _ ?side1 A45.out).mono ?_); (case side1 => exact Glob.fr HG.out (Fr.of_below (TB1 GE287.out))); rintro e w52 ⟨rfl, hb⟩; replace HO312 := Aside0.mk (Kd.V_below (by (with_reducible repeat (first | apply Kd.V_alloc | apply Kd.V_drewN | apply Kd.V_drew)); exact HO312.out) hb); replace HO316 := Aside0.mk (Kd.R_below (TRo HO316.out) hb); replace BK287 := Aside0.mk (blk_below (g := gb287) (o := .cells #[.int .i64 a0_0, .slice A0_1 l0_1.length c0_1, .int .i64 a0_2, .int .i64 a0_3, .int .i64 a0_4, .slice A0_5 l0_5.length c0_5, .int .i64 a0_6] 41 (0, 0)) (by (with_reducible repeat (first | refine blk_drewN ?_ _ | refine blk_drew ?_ | refine blk_alloc ?_ _)); exact BK287.out) hb); replace HB := Aside0.mk (below_step (TB1 GE287.out) hb); (try clear hb); (try clear hb2); (try clear hk); (try clear hi)))
            go_ret
            exact ⟨TR, TB1 GE287.out⟩
           ·rw [if_neg c44] at H
            have c44b0 : (t313 == t317) = false := beq_eq_false_iff_ne.mpr c44
            have c44b1 : (t313 != t317) = true := bne_iff_ne.mpr c44
            obtain rfl := Option.some.inj H
            have hcz53_0 := czz BK287.out 0
            have hcz53_1 := czz BK287.out 1
            have hcz53_2 := czz BK287.out 2
            have hcz53_3 := czz BK287.out 3
            have hcz53_4 := czz BK287.out 4
            have hcz53_5 := czz BK287.out 5
            have hcz53_6 := czz BK287.out 6
            have hfz53_0 := fz BK287.out 0
            have hfz53_1 := fz BK287.out 1
            have hfz53_2 := fz BK287.out 2
            have hfz53_3 := fz BK287.out 3
            have hfz53_4 := fz BK287.out 4
            have hfz53_5 := fz BK287.out 5
            have hfz53_6 := fz BK287.out 6
            go_wp2_with (first | ((with_reducible refine gate_callee (f := 32) rfl ?_); refine goesL_ (some 102) rfl rfl Tryd.func32 (by kernel_rfl) rfl #[.agg #[.int .i64 a0_0, .slice A0_1 l0_1.length c0_1], .agg #[.int .i64 a0_2, .int .i64 a0_3], .slice A0_5 l0_5.length c0_5] rfl TM ?_; (with_reducible refine (cycle_Missing.calls a0_0 _ _ l0_1 a0_2 a0_3 _ _ l0_5 t310 t313 _ ?side1 ?side2 ?side3 ?side4 ?side5 A40.out).mono ?_); (case side1 => exact TC HR0_1.out); (case side2 => exact HC0_1.out); (case side3 => exact TC HR0_5.out); (case side4 => exact HC0_5.out); (case side5 => exact Glob.fr HG.out (Fr.of_below (TB1 GE287.out))); rintro e w54 ⟨v311, rfl, ho0, hb⟩; refine ⟨_, rfl, ?_⟩; have HO312 := Aside0.mk (Kd.V_lower (Kd.V_mono (ok' := fun k_ => k_ ≠ gb287) ho0 (fun k_ hk_ => (Kd.freshB (g := gb287) (o := .cells #[.int .i64 a0_0, .slice A0_1 l0_1.length c0_1, .int .i64 a0_2, .int .i64 a0_3, .int .i64 a0_4, .slice A0_5 l0_5.length c0_5, .int .i64 a0_6] 41 (0, 0)) (by (with_reducible repeat (first | refine blk_drewN ?_ _ | refine blk_drew ?_ | refine blk_alloc ?_ _)); exact BK287.out) k_ hk_))) (below_size (TB1 GE287.out))); replace BK287 := Aside0.mk (blk_below (g := gb287) (o := .cells #[.int .i64 a0_0, .slice A0_1 l0_1.length c0_1, .int .i64 a0_2, .int .i64 a0_3, .int .i64 a0_4, .slice A0_5 l0_5.length c0_5, .int .i64 a0_6] 41 (0, 0)) (by (with_reducible repeat (first | refine blk_drewN ?_ _ | refine blk_drew ?_ | refine blk_alloc ?_ _)); exact BK287.out) hb); replace HB := Aside0.mk (below_step (TB1 GE287.out) hb); (try clear hb); (try clear hb2); (try clear hk); (try clear hi); (try clear ho0); have hcz55_0 := czz BK287.out 0; have hcz55_1 := czz BK287.out 1; have hcz55_2 := czz BK287.out 2; have hcz55_3 := czz BK287.out 3; have hcz55_4 := czz BK287.out 4; have hcz55_5 := czz BK287.out 5; have hcz55_6 := czz BK287.out 6; have hfz55_0 := fz BK287.out 0; have hfz55_1 := fz BK287.out 1; have hfz55_2 := fz BK287.out 2; have hfz55_3 := fz BK287.out 3; have hfz55_4 := fz BK287.out 4; have hfz55_5 := fz BK287.out 5; have hfz55_6 := fz BK287.out 6) | ((with_reducible refine gate_callee (f := 33) rfl ?_); refine goesL_ (some 112) rfl rfl Tryd.func33 (by kernel_rfl) rfl #[.agg #[.int .i64 a0_0, .slice A0_1 l0_1.length c0_1], .agg #[.int .i64 a0_2, .int .i64 a0_3], .slice A0_5 l0_5.length c0_5] rfl TM ?_; (with_reducible refine (saronref05_Missing.calls kj32 a0_0 _ _ l0_1 a0_2 a0_3 _ _ l0_5 t314 t317 _ ?side1 ?side2 ?side3 ?side4 A41.out).mono ?_); (case side1 => exact TC HR0_1.out); (case side2 => exact HC0_1.out); (case side3 => exact TC HR0_5.out); (case side4 => exact HC0_5.out); rintro e w56 ⟨v315, rfl, ho0, hb⟩; refine ⟨_, rfl, ?_⟩; have HO316 := Aside0.mk (Kd.R_lower ho0 (below_size (TB1 GE287.out))); replace HO312 := Aside0.mk (Kd.V_elder' (by (with_reducible repeat (first | apply Kd.V_alloc | apply Kd.V_drewN | apply Kd.V_drew)); exact HO312.out) (Kd.R_base ho0) hb); replace BK287 := Aside0.mk (blk_below (g := gb287) (o := .cells #[.int .i64 a0_0, .slice A0_1 l0_1.length c0_1, .int .i64 a0_2, .int .i64 a0_3, .int .i64 a0_4, .slice A0_5 l0_5.length c0_5, .int .i64 a0_6] 41 (0, 0)) (by (with_reducible repeat (first | refine blk_drewN ?_ _ | refine blk_drew ?_ | refine blk_alloc ?_ _)); exact BK287.out) hb); replace HB := Aside0.mk (below_step (TB1 GE287.out) hb); (try clear hb); (try clear hb2); (try clear hk); (try clear hi); (try clear ho0); obtain ⟨Ao57, co57, eo57⟩ := Kd.V_slice HO312.out; subst eo57; obtain ⟨Ao58, co58, eo58⟩ := Kd.R_slice HO316.out; subst eo58) | ((with_reducible refine gate_callee (f := 34) rfl ?_); refine goesL_ (some 117) rfl rfl Tryd.func34 (by kernel_rfl) rfl #[.slice Ao57 t310.length co57, .slice Ao58 t314.length co58] rfl TM ?_; (with_reducible refine (saronref05_SameStrokes.calls kj32 _ _ t310 _ _ t314 true _ ?side1 ?side2 ?side3 ?side4 A42.out).mono ?_); (case side1 => repeat (first | exact (Kd.V_reads' HO312.out).2.2 | (with_reducible refine Kd.C_alloc ?_ _) | (with_reducible refine Kd.C_drewN ?_ _) | (with_reducible refine Kd.C_drew ?_))); (case side2 => exact (Kd.V_reads' HO312.out).2.1); (case side3 => repeat (first | exact (Kd.R_reads' HO316.out).2.2 | (with_reducible refine Kd.C_alloc ?_ _) | (with_reducible refine Kd.C_drewN ?_ _) | (with_reducible refine Kd.C_drew ?_))); (case side4 => exact (Kd.R_reads' HO316.out).2.1); rintro e w' ⟨rfl, ⟨nd, rfl⟩⟩; refine ⟨_, rfl, ?_⟩))
            go_ret
            exact ⟨TR, TB1 GE287.out⟩
          ·replace c43 := Bool.eq_false_iff.mpr c43
           subst c43
           have H1 : (some false) = some r := by rw [if_neg (show ¬ (false = true) by decide)] at H; exact H
           clear H
           have H := H1
           clear H1
           obtain rfl := Option.some.inj H
           have hcz59_0 := czz BK287.out 0
           have hcz59_1 := czz BK287.out 1
           have hcz59_2 := czz BK287.out 2
           have hcz59_3 := czz BK287.out 3
           have hcz59_4 := czz BK287.out 4
           have hcz59_5 := czz BK287.out 5
           have hcz59_6 := czz BK287.out 6
           have hfz59_0 := fz BK287.out 0
           have hfz59_1 := fz BK287.out 1
           have hfz59_2 := fz BK287.out 2
           have hfz59_3 := fz BK287.out 3
           have hfz59_4 := fz BK287.out 4
           have hfz59_5 := fz BK287.out 5
           have hfz59_6 := fz BK287.out 6
           go_wp2_with (first | ((with_reducible refine gate_callee (f := 32) rfl ?_); refine goesL_ (some 102) rfl rfl Tryd.func32 (by kernel_rfl) rfl #[.agg #[.int .i64 a0_0, .slice A0_1 l0_1.length c0_1], .agg #[.int .i64 a0_2, .int .i64 a0_3], .slice A0_5 l0_5.length c0_5] rfl TM ?_; (with_reducible refine (cycle_Missing.calls a0_0 _ _ l0_1 a0_2 a0_3 _ _ l0_5 t310 t313 _ ?side1 ?side2 ?side3 ?side4 ?side5 A40.out).mono ?_); (case side1 => exact TC HR0_1.out); (case side2 => exact HC0_1.out); (case side3 => exact TC HR0_5.out); (case side4 => exact HC0_5.out); (case side5 => exact Glob.fr HG.out (Fr.of_below (TB1 GE287.out))); rintro e w60 ⟨v311, rfl, ho0, hb⟩; refine ⟨_, rfl, ?_⟩; have HO312 := Aside0.mk (Kd.V_lower (Kd.V_mono (ok' := fun k_ => k_ ≠ gb287) ho0 (fun k_ hk_ => (Kd.freshB (g := gb287) (o := .cells #[.int .i64 a0_0, .slice A0_1 l0_1.length c0_1, .int .i64 a0_2, .int .i64 a0_3, .int .i64 a0_4, .slice A0_5 l0_5.length c0_5, .int .i64 a0_6] 41 (0, 0)) (by (with_reducible repeat (first | refine blk_drewN ?_ _ | refine blk_drew ?_ | refine blk_alloc ?_ _)); exact BK287.out) k_ hk_))) (below_size (TB1 GE287.out))); replace BK287 := Aside0.mk (blk_below (g := gb287) (o := .cells #[.int .i64 a0_0, .slice A0_1 l0_1.length c0_1, .int .i64 a0_2, .int .i64 a0_3, .int .i64 a0_4, .slice A0_5 l0_5.length c0_5, .int .i64 a0_6] 41 (0, 0)) (by (with_reducible repeat (first | refine blk_drewN ?_ _ | refine blk_drew ?_ | refine blk_alloc ?_ _)); exact BK287.out) hb); replace HB := Aside0.mk (below_step (TB1 GE287.out) hb); (try clear hb); (try clear hb2); (try clear hk); (try clear hi); (try clear ho0); have hcz61_0 := czz BK287.out 0; have hcz61_1 := czz BK287.out 1; have hcz61_2 := czz BK287.out 2; have hcz61_3 := czz BK287.out 3; have hcz61_4 := czz BK287.out 4; have hcz61_5 := czz BK287.out 5; have hcz61_6 := czz BK287.out 6; have hfz61_0 := fz BK287.out 0; have hfz61_1 := fz BK287.out 1; have hfz61_2 := fz BK287.out 2; have hfz61_3 := fz BK287.out 3; have hfz61_4 := fz BK287.out 4; have hfz61_5 := fz BK287.out 5; have hfz61_6 := fz BK287.out 6) | ((with_reducible refine gate_callee (f := 33) rfl ?_); refine goesL_ (some 112) rfl rfl Tryd.func33 (by kernel_rfl) rfl #[.agg #[.int .i64 a0_0, .slice A0_1 l0_1.length c0_1], .agg #[.int .i64 a0_2, .int .i64 a0_3], .slice A0_5 l0_5.length c0_5] rfl TM ?_; (with_reducible refine (saronref05_Missing.calls kj32 a0_0 _ _ l0_1 a0_2 a0_3 _ _ l0_5 t314 t317 _ ?side1 ?side2 ?side3 ?side4 A41.out).mono ?_); (case side1 => exact TC HR0_1.out); (case side2 => exact HC0_1.out); (case side3 => exact TC HR0_5.out); (case side4 => exact HC0_5.out); rintro e w62 ⟨v315, rfl, ho0, hb⟩; refine ⟨_, rfl, ?_⟩; have HO316 := Aside0.mk (Kd.R_lower ho0 (below_size (TB1 GE287.out))); replace HO312 := Aside0.mk (Kd.V_elder' (by (with_reducible repeat (first | apply Kd.V_alloc | apply Kd.V_drewN | apply Kd.V_drew)); exact HO312.out) (Kd.R_base ho0) hb); replace BK287 := Aside0.mk (blk_below (g := gb287) (o := .cells #[.int .i64 a0_0, .slice A0_1 l0_1.length c0_1, .int .i64 a0_2, .int .i64 a0_3, .int .i64 a0_4, .slice A0_5 l0_5.length c0_5, .int .i64 a0_6] 41 (0, 0)) (by (with_reducible repeat (first | refine blk_drewN ?_ _ | refine blk_drew ?_ | refine blk_alloc ?_ _)); exact BK287.out) hb); replace HB := Aside0.mk (below_step (TB1 GE287.out) hb); (try clear hb); (try clear hb2); (try clear hk); (try clear hi); (try clear ho0); obtain ⟨Ao63, co63, eo63⟩ := Kd.V_slice HO312.out; subst eo63; obtain ⟨Ao64, co64, eo64⟩ := Kd.R_slice HO316.out; subst eo64) | ((with_reducible refine gate_callee (f := 34) rfl ?_); refine goesL_ (some 117) rfl rfl Tryd.func34 (by kernel_rfl) rfl #[.slice Ao63 t310.length co63, .slice Ao64 t314.length co64] rfl TM ?_; (with_reducible refine (saronref05_SameStrokes.calls kj32 _ _ t310 _ _ t314 false _ ?side1 ?side2 ?side3 ?side4 A42.out).mono ?_); (case side1 => repeat (first | exact (Kd.V_reads' HO312.out).2.2 | (with_reducible refine Kd.C_alloc ?_ _) | (with_reducible refine Kd.C_drewN ?_ _) | (with_reducible refine Kd.C_drew ?_))); (case side2 => exact (Kd.V_reads' HO312.out).2.1); (case side3 => repeat (first | exact (Kd.R_reads' HO316.out).2.2 | (with_reducible refine Kd.C_alloc ?_ _) | (with_reducible refine Kd.C_drewN ?_ _) | (with_reducible refine Kd.C_drew ?_))); (case side4 => exact (Kd.R_reads' HO316.out).2.1); rintro e w' ⟨rfl, ⟨nd, rfl⟩⟩; refine ⟨_, rfl, ?_⟩))
           go_ret
           exact ⟨TR, TB1 GE287.out⟩
end Go.Proofs.YtephecfapclgfaaDoor.PRaspKeys
