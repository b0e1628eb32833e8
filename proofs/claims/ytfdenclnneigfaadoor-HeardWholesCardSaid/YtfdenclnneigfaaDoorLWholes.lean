import Derived.Test.YtfdenclnneigfaaDoorGF
import Derived.Test.YtfdenclnneigfaaDoorCS
import Derived.Test.YtfdenclnneigfaaDoorC1
import Derived.Test.YtfdenclnneigfaaDoorC3
import Derived.Test.YtfdenclnneigfaaDoorCW
import Derived.Test.YtfdenclnneigfaaDoorCN
import Derived.Test.YtfdenclnneigfaaDoorM0
import Derived.Test.YtfdenclnneigfaaDoorProg
import Derived.Below
import Derived.Deep.Draws
import Derived.Deep.AppendLies
import Derived.Maps.AppendAt
import Derived.OwnWalk
import Derived.Laws.BytesArg
import Derived.Laws.MakeOwn
import Derived.Laws.OwnMore
import Derived.Deep.OwnRows
import Derived.Tactics
import Derived.Lib.ConvBytes
import Derived.Laws.Slices
import Derived.WalkKit
import Derived.KernelRfl
import Derived.RowKit3
import Derived.Deep.LoopGhost
import Derived.Deep.QuietTactic
import Derived.BigQuiet
import Derived.WideLaws
import Derived.Deep.DeepCutAuto
import Derived.Deep.CutBlock
import Derived.Deep.RegionHeld3
import Derived.Laws.Rows
import Derived.Lib.AppendStr
import Derived.ArgAppend
import Derived.Laws.IdiomCopy
import Derived.OrdersHeld
import Derived.Laws.BitsLemmas
import Derived.RowKit
set_option linter.unusedVariables false
set_option linter.unusedSimpArgs false
namespace Go.Proofs.YtfdenclnneigfaaDoor.M
open Go.RowKit Go.Proofs.YtfdenclnneigfaaDoorW.PrintWords Go.Proofs.YtfdenclnneigfaaDoorW.PrintLast
theorem czz {w : World} {g : Nat} {cs : Array Value} {t : TypeId} {v : Value} (h : w.heap[g]? = some (.cells cs t (0, 0))) (i : Nat) (hv : cs[i]? = some v := by (first | (simp only [List.getElem?_toArray, List.getElem?_cons_zero, List.getElem?_cons_succ]; rfl) | exact rfl)) : w.cell? ⟨g, i, none⟩ = some v := (blk_cell h i).trans hv
end Go.Proofs.YtfdenclnneigfaaDoor.M
namespace Go.Proofs.YtfdenclnneigfaaDoor.PRaspKeys
open Go.RowKit Go.Proofs.YtfdenclnneigfaaDoorW.PrintWords Go.Proofs.YtfdenclnneigfaaDoorW.PrintLast Go.Proofs.YtfdenclnneigfaaDoorW.PrintMore Go.Proofs.YtfdenclnneigfaaDoor.M
attribute [local go_sem] max2_int min2_int max_two min_two max_three min_three max_four min_four   -- for this text's walks alone
/-! #### struct type 114 -/
/-! #### struct type 62 -/
end Go.Proofs.YtfdenclnneigfaaDoor.PRaspKeys
namespace Go.Proofs.YtfdenclnneigfaaDoor.PRaspKeys
open Go.RowKit Go.Proofs.YtfdenclnneigfaaDoorW.PrintWords Go.Proofs.YtfdenclnneigfaaDoorW.PrintLast Go.Proofs.YtfdenclnneigfaaDoorW.PrintMore Go.Proofs.YtfdenclnneigfaaDoor.M
attribute [local go_sem] max2_int min2_int max_two min_two max_three min_three max_four min_four   -- for this text's walks alone
/-! ### saronlaw09_HeardWholes: function 6 -/
mutual
def saronlaw09_HeardWholes.j0 : Nat → List Int → Bool → Int → List (S114) → List (S62) → Int → Int → Int → Option (Bool)
 | 0, _, _, _, _, _, _, _, _ => none
 | k + 1, x2, x38, x284000, x284001, x284002, x285000, x285001, x285002 => if x38 = true then (some false) else ((heard_Whole.f k x284000 x284001 x284002 x2 x285002).bind fun bt289 => ((saronref09_Whole.f k x284000 x284001 x284002 x2 x285002).bind fun bt293 => ((saronref00_Equal.f k bt289.1 bt293.1).bind fun t297 => (if t297 = true then (saronlaw09_HeardWholes.j1 k (bt289.2 != bt293.2) x284000 x284001 x284002) else (saronlaw09_HeardWholes.j1 k true x284000 x284001 x284002)))))
def saronlaw09_HeardWholes.j1 : Nat → Bool → Int → List (S114) → List (S62) → Option (Bool)
 | 0, _, _, _, _ => none
 | k + 1, x63, x284000, x284001, x284002 => if x63 = true then (some false) else ((heard_Known.f k x284000 x284001 x284002).bind fun bt298 => ((saronref09_Known.f k x284000 x284001 x284002).bind fun bt300 => (if bt298.1 = bt300.1 then (if bt298.2 = bt300.2 then ((saronlaw09_listened.f).bind fun t302 => (some t302)) else (some false)) else (some false))))
end
def saronlaw09_HeardWholes.f (k : Nat) (a0_0 : Int) (l0_1 : List (S114)) (l0_2 : List (S62)) (a1_0 : Int) (a1_1 : Int) (a1_2 : Int) (l2 : List Int) : Option (Bool) := (heard_Common.f a0_0 l0_1 l0_2 a1_0 a1_1).bind fun bt285 => ((saronref09_Common.f k a0_0 l0_1 l0_2 a1_0 a1_1).bind fun bt287 => (if bt285.1 = bt287.1 then (saronlaw09_HeardWholes.j0 k l2 (bt285.2 != bt287.2) a0_0 l0_1 l0_2 a1_0 a1_1 a1_2) else (saronlaw09_HeardWholes.j0 k l2 true a0_0 l0_1 l0_2 a1_0 a1_1 a1_2)))
theorem saronlaw09_HeardWholes.mono_l : ∀ k, (∀ y0 y1 y2 y3 y4 y5 y6 y7, LeO (saronlaw09_HeardWholes.j0 k y0 y1 y2 y3 y4 y5 y6 y7) (saronlaw09_HeardWholes.j0 (k + 1) y0 y1 y2 y3 y4 y5 y6 y7)) ∧ (∀ y0 y1 y2 y3, LeO (saronlaw09_HeardWholes.j1 k y0 y1 y2 y3) (saronlaw09_HeardWholes.j1 (k + 1) y0 y1 y2 y3))
 | 0 => ⟨fun _ _ _ _ _ _ _ _ r h => by simp [saronlaw09_HeardWholes.j0] at h, fun _ _ _ _ r h => by simp [saronlaw09_HeardWholes.j1] at h⟩
 | k + 1 => by
  obtain ⟨ih0, ih1⟩ := saronlaw09_HeardWholes.mono_l k
  refine ⟨?_, ?_⟩
  ·intro y0 y1 y2 y3 y4 y5 y6 y7
   unfold saronlaw09_HeardWholes.j0
   repeat' first
   | (with_reducible exact ih0 _ _ _ _ _ _ _ _)
   | (with_reducible exact ih1 _ _ _ _)
   | (with_reducible exact heard_Known.mono _ _ _ _)
   | (with_reducible exact heard_Whole.mono _ _ _ _ _ _)
   | (with_reducible exact saronref00_Equal.mono _ _ _)
   | (with_reducible exact saronref09_Common.mono _ _ _ _ _ _)
   | (with_reducible exact saronref09_Known.mono _ _ _ _)
   | (with_reducible exact saronref09_Whole.mono _ _ _ _ _ _)
   | (with_reducible exact LeO.refl _)
   | (with_reducible exact LeO.none _)
   | (with_reducible refine LeO.ite ?_ ?_)
   | (with_reducible refine LeO.bind ?_ (fun _ => ?_))
   | exact ih0 _ _ _ _ _ _ _ _
   | exact ih1 _ _ _ _
   | exact heard_Known.mono _ _ _ _
   | exact heard_Whole.mono _ _ _ _ _ _
   | exact saronref00_Equal.mono _ _ _
   | exact saronref09_Common.mono _ _ _ _ _ _
   | exact saronref09_Known.mono _ _ _ _
   | exact saronref09_Whole.mono _ _ _ _ _ _
   | exact LeO.none _
   | refine LeO.ite ?_ ?_
   | refine LeO.bind ?_ (fun _ => ?_)
  ·intro y0 y1 y2 y3
   unfold saronlaw09_HeardWholes.j1
   repeat' first
   | (with_reducible exact ih0 _ _ _ _ _ _ _ _)
   | (with_reducible exact ih1 _ _ _ _)
   | (with_reducible exact heard_Known.mono _ _ _ _)
   | (with_reducible exact heard_Whole.mono _ _ _ _ _ _)
   | (with_reducible exact saronref00_Equal.mono _ _ _)
   | (with_reducible exact saronref09_Common.mono _ _ _ _ _ _)
   | (with_reducible exact saronref09_Known.mono _ _ _ _)
   | (with_reducible exact saronref09_Whole.mono _ _ _ _ _ _)
   | (with_reducible exact LeO.refl _)
   | (with_reducible exact LeO.none _)
   | (with_reducible refine LeO.ite ?_ ?_)
   | (with_reducible refine LeO.bind ?_ (fun _ => ?_))
   | exact ih0 _ _ _ _ _ _ _ _
   | exact ih1 _ _ _ _
   | exact heard_Known.mono _ _ _ _
   | exact heard_Whole.mono _ _ _ _ _ _
   | exact saronref00_Equal.mono _ _ _
   | exact saronref09_Common.mono _ _ _ _ _ _
   | exact saronref09_Known.mono _ _ _ _
   | exact saronref09_Whole.mono _ _ _ _ _ _
   | exact LeO.none _
   | refine LeO.ite ?_ ?_
   | refine LeO.bind ?_ (fun _ => ?_)
theorem saronlaw09_HeardWholes.mono : ∀ a0 a1 a2 a3 a4 a5 a6 k, LeO (saronlaw09_HeardWholes.f k a0 a1 a2 a3 a4 a5 a6) (saronlaw09_HeardWholes.f (k + 1) a0 a1 a2 a3 a4 a5 a6) := by
 intro a0 a1 a2 a3 a4 a5 a6 k
 obtain ⟨ih0, ih1⟩ := saronlaw09_HeardWholes.mono_l k
 unfold saronlaw09_HeardWholes.f
 repeat' first
   | (with_reducible exact ih0 _ _ _ _ _ _ _ _)
   | (with_reducible exact ih1 _ _ _ _)
   | (with_reducible exact heard_Known.mono _ _ _ _)
   | (with_reducible exact heard_Whole.mono _ _ _ _ _ _)
   | (with_reducible exact saronref00_Equal.mono _ _ _)
   | (with_reducible exact saronref09_Common.mono _ _ _ _ _ _)
   | (with_reducible exact saronref09_Known.mono _ _ _ _)
   | (with_reducible exact saronref09_Whole.mono _ _ _ _ _ _)
   | (with_reducible exact LeO.refl _)
   | (with_reducible exact LeO.none _)
   | (with_reducible refine LeO.ite ?_ ?_)
   | (with_reducible refine LeO.bind ?_ (fun _ => ?_))
   | exact ih0 _ _ _ _ _ _ _ _
   | exact ih1 _ _ _ _
   | exact heard_Known.mono _ _ _ _
   | exact heard_Whole.mono _ _ _ _ _ _
   | exact saronref00_Equal.mono _ _ _
   | exact saronref09_Common.mono _ _ _ _ _ _
   | exact saronref09_Known.mono _ _ _ _
   | exact saronref09_Whole.mono _ _ _ _ _ _
   | exact LeO.none _
   | refine LeO.ite ?_ ?_
   | refine LeO.bind ?_ (fun _ => ?_)
set_option maxHeartbeats 8000000 in
set_option maxRecDepth 100000 in
theorem saronlaw09_HeardWholes.calls (k : Nat) (a0_0 : Int) (A0_1 : Option Addr) (c0_1 : Nat) (l0_1 : List (S114)) (A0_2 : Option Addr) (c0_2 : Nat) (l0_2 : List (S62)) (a1_0 : Int) (a1_1 : Int) (a1_2 : Int) (A2 : Option Addr) (c2 : Nat) (l2 : List Int) (r : Bool) (w : World) (hr0_1 : Kd.C k114 w A0_1 l0_1.length l0_1) (hc0_1 : l0_1.length ≤ c0_1) (hr0_2 : Kd.C k62 w A0_2 l0_2.length l0_2) (hc0_2 : l0_2.length ≤ c0_2) (hr2 : Kd.C (Kd.int .i64) w A2 l2.length l2) (hc2 : l2.length ≤ c2) (hG : Glob w) (h : saronlaw09_HeardWholes.f k a0_0 l0_1 l0_2 a1_0 a1_1 a1_2 l2 = some r) :
  Calls Tryd.prog 6 #[.agg #[.int .i64 a0_0, .slice A0_1 l0_1.length c0_1, .slice A0_2 l0_2.length c0_2], .agg #[.int .i64 a1_0, .int .i64 a1_1, .int .i64 a1_2], .slice A2 l2.length c2] w fun e w' => e = .returned (.bool r) ∧ Below w.heap.size w w' := by
 have hu27 := Tryd.underlying27
 have hu49 := Tryd.underlying49
 have HR0_1 := Aside0.mk hr0_1
 have HC0_1 := Aside0.mk hc0_1
 clear hr0_1 hc0_1
 have HR0_2 := Aside0.mk hr0_2
 have HC0_2 := Aside0.mk hc0_2
 clear hr0_2 hc0_2
 have HR2 := Aside0.mk hr2
 have HC2 := Aside0.mk hc2
 clear hr2 hc2
 have HB := Aside0.mk (Below.refl w.heap.size w)
 have HG := Aside0.mk hG
 clear hG
 have H : ((heard_Common.f a0_0 l0_1 l0_2 a1_0 a1_1).bind fun bt285 => ((saronref09_Common.f k a0_0 l0_1 l0_2 a1_0 a1_1).bind fun bt287 => (if bt285.1 = bt287.1 then (saronlaw09_HeardWholes.j0 k l2 (bt285.2 != bt287.2) a0_0 l0_1 l0_2 a1_0 a1_1 a1_2) else (saronlaw09_HeardWholes.j0 k l2 true a0_0 l0_1 l0_2 a1_0 a1_1 a1_2)))) = some r := h
 clear h
 replace H := Option.bind_eq_some_iff.mp H
 obtain ⟨⟨t285, t286⟩, A40, H⟩ := H
 replace H : ((saronref09_Common.f k a0_0 l0_1 l0_2 a1_0 a1_1).bind fun bt287 => (if t285 = bt287.1 then (saronlaw09_HeardWholes.j0 k l2 (t286 != bt287.2) a0_0 l0_1 l0_2 a1_0 a1_1 a1_2) else (saronlaw09_HeardWholes.j0 k l2 true a0_0 l0_1 l0_2 a1_0 a1_1 a1_2))) = some r := H
 have A4 := Aside0.mk A40
 clear A40
 replace H := Option.bind_eq_some_iff.mp H
 obtain ⟨⟨t287, t288⟩, A50, H⟩ := H
 replace H : (if t285 = t287 then (saronlaw09_HeardWholes.j0 k l2 (t286 != t288) a0_0 l0_1 l0_2 a1_0 a1_1 a1_2) else (saronlaw09_HeardWholes.j0 k l2 true a0_0 l0_1 l0_2 a1_0 a1_1 a1_2)) = some r := H
 have A5 := Aside0.mk A50
 clear A50
 have HC6 := Aside0.mk H
 clear H
 go_enter Tryd.func6, Tryd.ntmps6
 go_upto_region 3 with (first | ((with_reducible refine gate_dst (N := 3) rfl ?_); refine box_event ?hg (N := 3) ?hd (cs := #[.int .i64 a0_0, .slice A0_1 l0_1.length c0_1, .slice A0_2 l0_2.length c0_2]) (t := 27) ?hr ?_; (case hd => rfl); (case hg => rfl); (case hr => exact TS); intro gb283 hg w7 hbox hb; have BK283 := Aside0.mk (hbox); have GW283 := Aside0.mk ((TG : w.heap.size ≤ gb283)); have GE283 := Aside0.mk ((TG : w.heap.size ≤ gb283)); replace HB := Aside0.mk (below_step TB hb); clear hb hbox hg) | ((with_reducible refine gate_dst (N := 4) rfl ?_); refine box_event ?hg (N := 4) ?hd (cs := #[.int .i64 a1_0, .int .i64 a1_1, .int .i64 a1_2]) (t := 49) ?hr ?_; (case hd => rfl); (case hg => rfl); (case hr => exact TS); intro gb284 hg w8 hbox hb; have BK284 := Aside0.mk (hbox); have GW284 := Aside0.mk ((TG1 GE283.out : w.heap.size ≤ gb284)); have GE284 := Aside0.mk ((TG1 GE283.out : w.heap.size ≤ gb284)); have NB283_284 := Aside0.mk ((by rw [hg]; exact Nat.ne_of_lt (blk_lt (g := gb283) (o := .cells #[.int .i64 a0_0, .slice A0_1 l0_1.length c0_1, .slice A0_2 l0_2.length c0_2] 27 (0, 0)) (by (with_reducible repeat (first | refine blk_drewN ?_ _ | refine blk_drew ?_ | refine blk_alloc ?_ _)); exact BK283.out)) : gb283 ≠ gb284)); have NB284_283 := Aside0.mk ((by rw [hg]; exact Nat.ne_of_gt (blk_lt (g := gb283) (o := .cells #[.int .i64 a0_0, .slice A0_1 l0_1.length c0_1, .slice A0_2 l0_2.length c0_2] 27 (0, 0)) (by (with_reducible repeat (first | refine blk_drewN ?_ _ | refine blk_drew ?_ | refine blk_alloc ?_ _)); exact BK283.out)) : gb284 ≠ gb283)); replace BK283 := Aside0.mk (blk_below (g := gb283) (o := .cells #[.int .i64 a0_0, .slice A0_1 l0_1.length c0_1, .slice A0_2 l0_2.length c0_2] 27 (0, 0)) (by (with_reducible repeat (first | refine blk_drewN ?_ _ | refine blk_drew ?_ | refine blk_alloc ?_ _)); exact BK283.out) hb); replace HB := Aside0.mk (below_step (TB1 GE283.out) hb); clear hb hbox hg; have hnb9 := NB283_284.out; have hnc9 := NB284_283.out; have hcz10_0 := czz BK283.out 0; have hcz10_1 := czz BK283.out 1; have hcz10_2 := czz BK283.out 2; have hfz10_0 := fz BK283.out 0; have hfz10_1 := fz BK283.out 1; have hfz10_2 := fz BK283.out 2; have hcz11_0 := czz BK284.out 0; have hcz11_1 := czz BK284.out 1; have hcz11_2 := czz BK284.out 2; have hfz11_0 := fz BK284.out 0; have hfz11_1 := fz BK284.out 1; have hfz11_2 := fz BK284.out 2) | ((with_reducible refine gate_callee (f := 30) rfl ?_); refine goesL_ (some 19) rfl rfl Tryd.func30 (by kernel_rfl) rfl #[.agg #[.int .i64 a0_0, .slice A0_1 l0_1.length c0_1, .slice A0_2 l0_2.length c0_2], .int .i64 a1_0, .int .i64 a1_1] rfl TM ?_; (with_reducible refine (heard_Common.calls a0_0 _ _ l0_1 _ _ l0_2 a1_0 a1_1 t285 t286 _ ?side1 ?side2 ?side3 ?side4 ?side5 A4.out).mono ?_); (case side1 => exact TC HR0_1.out); (case side2 => exact HC0_1.out); (case side3 => exact TC HR0_2.out); (case side4 => exact HC0_2.out); (case side5 => exact Glob.fr HG.out (Fr.of_below (TB2 GE283.out GE284.out))); rintro e w12 ⟨rfl, hb⟩; refine ⟨_, rfl, ?_⟩; replace BK283 := Aside0.mk (blk_below (g := gb283) (o := .cells #[.int .i64 a0_0, .slice A0_1 l0_1.length c0_1, .slice A0_2 l0_2.length c0_2] 27 (0, 0)) (by (with_reducible repeat (first | refine blk_drewN ?_ _ | refine blk_drew ?_ | refine blk_alloc ?_ _)); exact BK283.out) hb); replace BK284 := Aside0.mk (blk_below (g := gb284) (o := .cells #[.int .i64 a1_0, .int .i64 a1_1, .int .i64 a1_2] 49 (0, 0)) (by (with_reducible repeat (first | refine blk_drewN ?_ _ | refine blk_drew ?_ | refine blk_alloc ?_ _)); exact BK284.out) hb); replace HB := Aside0.mk (below_step (TB2 GE283.out GE284.out) hb); (try clear hb); (try clear hb2); (try clear hk); (try clear hi); have hcz13_0 := czz BK283.out 0; have hcz13_1 := czz BK283.out 1; have hcz13_2 := czz BK283.out 2; have hfz13_0 := fz BK283.out 0; have hfz13_1 := fz BK283.out 1; have hfz13_2 := fz BK283.out 2; have hcz14_0 := czz BK284.out 0; have hcz14_1 := czz BK284.out 1; have hcz14_2 := czz BK284.out 2; have hfz14_0 := fz BK284.out 0; have hfz14_1 := fz BK284.out 1; have hfz14_2 := fz BK284.out 2) | ((with_reducible refine gate_callee (f := 31) rfl ?_); refine goesL_ (some 28) rfl rfl Tryd.func31 (by kernel_rfl) rfl #[.agg #[.int .i64 a0_0, .slice A0_1 l0_1.length c0_1, .slice A0_2 l0_2.length c0_2], .int .i64 a1_0, .int .i64 a1_1] rfl TM ?_; (with_reducible refine (saronref09_Common.calls k a0_0 _ _ l0_1 _ _ l0_2 a1_0 a1_1 t287 t288 _ ?side1 ?side2 ?side3 ?side4 A5.out).mono ?_); (case side1 => exact TC HR0_1.out); (case side2 => exact HC0_1.out); (case side3 => exact TC HR0_2.out); (case side4 => exact HC0_2.out); rintro e w15 ⟨rfl, hb⟩; refine ⟨_, rfl, ?_⟩; replace BK283 := Aside0.mk (blk_below (g := gb283) (o := .cells #[.int .i64 a0_0, .slice A0_1 l0_1.length c0_1, .slice A0_2 l0_2.length c0_2] 27 (0, 0)) (by (with_reducible repeat (first | refine blk_drewN ?_ _ | refine blk_drew ?_ | refine blk_alloc ?_ _)); exact BK283.out) hb); replace BK284 := Aside0.mk (blk_below (g := gb284) (o := .cells #[.int .i64 a1_0, .int .i64 a1_1, .int .i64 a1_2] 49 (0, 0)) (by (with_reducible repeat (first | refine blk_drewN ?_ _ | refine blk_drew ?_ | refine blk_alloc ?_ _)); exact BK284.out) hb); replace HB := Aside0.mk (below_step (TB2 GE283.out GE284.out) hb); (try clear hb); (try clear hb2); (try clear hk); (try clear hi)))
 (try simp only [Act.put, lA, lZ, lS])
 go_cut [38] (fun v38 wc => ∃ (kq : Nat) (x38_5 : Bool), v38 = .bool x38_5 ∧ Aside0 (saronlaw09_HeardWholes.j0 kq l2 x38_5 a0_0 l0_1 l0_2 a1_0 a1_1 a1_2 = some r) ∧ Aside0 (kq ≤ k) ∧ Aside0 (wc.heap[gb283]? = some (.cells #[.int .i64 a0_0, (.slice A0_1 l0_1.length c0_1), (.slice A0_2 l0_2.length c0_2)] 27 (0, 0))) ∧ Aside0 (wc.heap[gb284]? = some (.cells #[.int .i64 a1_0, .int .i64 a1_1, .int .i64 a1_2] 49 (0, 0))) ∧ Aside0 (Below w.heap.size w wc))
 case first => as_aux_lemma =>
  have H := HC6.out
  clear HC6
  by_cases c16 : t285 = t287
  ·rw [if_pos c16] at H
   have c16b0 : (t285 == t287) = true := beq_iff_eq.mpr c16
   have c16b1 : (t285 != t287) = false := bne_eq_false_iff_eq.mpr c16
   clear c16
   (first | rw [c16b0] | (simp only [i64_w, i32_w]; rw [c16b0]) | skip)
   have H' := Aside0.mk H
   clear H
   go_wp2
   go_meet
   case rel => exact ⟨_, ((t286 != t288)), TT, H', ⟨by first | omega | exact Nat.le_refl _⟩, ⟨by (with_reducible repeat (first | refine blk_drewN ?_ _ | refine blk_drew ?_ | refine blk_alloc ?_ _)); exact BK283.out⟩, ⟨by (with_reducible repeat (first | refine blk_drewN ?_ _ | refine blk_drew ?_ | refine blk_alloc ?_ _)); exact BK284.out⟩, ⟨TB2 GE283.out GE284.out⟩⟩
  ·rw [if_neg c16] at H
   have c16b0 : (t285 == t287) = false := beq_eq_false_iff_ne.mpr c16
   have c16b1 : (t285 != t287) = true := bne_iff_ne.mpr c16
   (first | rw [c16b0] | (simp only [i64_w, i32_w]; rw [c16b0]) | skip)
   have H' := Aside0.mk H
   clear H
   go_wp2
   go_meet
   case rel => exact ⟨_, (true), TT, H', ⟨by first | omega | exact Nat.le_refl _⟩, ⟨by (with_reducible repeat (first | refine blk_drewN ?_ _ | refine blk_drew ?_ | refine blk_alloc ?_ _)); exact BK283.out⟩, ⟨by (with_reducible repeat (first | refine blk_drewN ?_ _ | refine blk_drew ?_ | refine blk_alloc ?_ _)); exact BK284.out⟩, ⟨TB2 GE283.out GE284.out⟩⟩
 case rest => as_aux_lemma =>
  clear HC6
  try clear c1
  try clear c2
  try clear p2
  try clear c3
  try clear c6
  try clear c9
  try clear c16
  try clear c16b0
  try clear c16b1
  try clear hcz10_0 hcz10_1 hcz10_2
  try clear hcz11_0 hcz11_1 hcz11_2
  try clear hcz13_0 hcz13_1 hcz13_2
  try clear hcz14_0 hcz14_1 hcz14_2
  try clear hfz10_0 hfz10_1 hfz10_2
  try clear hfz11_0 hfz11_1 hfz11_2
  try clear hfz13_0 hfz13_1 hfz13_2
  try clear hfz14_0 hfz14_1 hfz14_2
  try clear BK283
  try clear BK284
  try clear HB
  obtain ⟨kq, x38_5, rfl, HA, HJ5, BK283, BK284, HB⟩ := hcut
  cases kq with
  | zero => exact absurd HA.out (by simp [saronlaw09_HeardWholes.j0])
  | succ kj5 =>
   have H := HA.out
   clear HA
   simp only [saronlaw09_HeardWholes.j0] at H
   by_cases c17 : x38_5 = true
   ·subst c17
    have H1 : (some false) = some r := by rw [if_pos rfl] at H; exact H
    clear H
    have H := H1
    clear H1
    obtain rfl := Option.some.inj H
    go_wp2
    go_ret
    exact ⟨TR, TB2 GE283.out GE284.out⟩
   ·replace c17 := Bool.eq_false_iff.mpr c17
    subst c17
    have H1 : ((heard_Whole.f kj5 a0_0 l0_1 l0_2 l2 a1_2).bind fun bt289 => ((saronref09_Whole.f kj5 a0_0 l0_1 l0_2 l2 a1_2).bind fun bt293 => ((saronref00_Equal.f kj5 bt289.1 bt293.1).bind fun t297 => (if t297 = true then (saronlaw09_HeardWholes.j1 kj5 (bt289.2 != bt293.2) a0_0 l0_1 l0_2) else (saronlaw09_HeardWholes.j1 kj5 true a0_0 l0_1 l0_2))))) = some r := by rw [if_neg (show ¬ (false = true) by decide)] at H; exact H
    clear H
    have H := H1
    clear H1
    replace H := Option.bind_eq_some_iff.mp H
    obtain ⟨⟨t289, t292⟩, A180, H⟩ := H
    replace H : ((saronref09_Whole.f kj5 a0_0 l0_1 l0_2 l2 a1_2).bind fun bt293 => ((saronref00_Equal.f kj5 t289 bt293.1).bind fun t297 => (if t297 = true then (saronlaw09_HeardWholes.j1 kj5 (t292 != bt293.2) a0_0 l0_1 l0_2) else (saronlaw09_HeardWholes.j1 kj5 true a0_0 l0_1 l0_2)))) = some r := H
    have A18 := Aside0.mk A180
    clear A180
    replace H := Option.bind_eq_some_iff.mp H
    obtain ⟨⟨t293, t296⟩, A190, H⟩ := H
    replace H : ((saronref00_Equal.f kj5 t289 t293).bind fun t297 => (if t297 = true then (saronlaw09_HeardWholes.j1 kj5 (t292 != t296) a0_0 l0_1 l0_2) else (saronlaw09_HeardWholes.j1 kj5 true a0_0 l0_1 l0_2))) = some r := H
    have A19 := Aside0.mk A190
    clear A190
    have HC20 := Aside0.mk H
    clear H
    have hnb21 := NB283_284.out
    have hnc21 := NB284_283.out
    have hcz22_0 := czz BK283.out 0
    have hcz22_1 := czz BK283.out 1
    have hcz22_2 := czz BK283.out 2
    have hfz22_0 := fz BK283.out 0
    have hfz22_1 := fz BK283.out 1
    have hfz22_2 := fz BK283.out 2
    have hcz23_0 := czz BK284.out 0
    have hcz23_1 := czz BK284.out 1
    have hcz23_2 := czz BK284.out 2
    have hfz23_0 := fz BK284.out 0
    have hfz23_1 := fz BK284.out 1
    have hfz23_2 := fz BK284.out 2
    go_upto_region 7 with (first | ((with_reducible refine gate_callee (f := 32) rfl ?_); refine goesL_ (some 44) rfl rfl Tryd.func32 (by kernel_rfl) rfl #[.agg #[.int .i64 a0_0, .slice A0_1 l0_1.length c0_1, .slice A0_2 l0_2.length c0_2], .slice A2 l2.length c2, .int .i64 a1_2] rfl TM ?_; (with_reducible refine (heard_Whole.calls kj5 a0_0 _ _ l0_1 _ _ l0_2 _ _ l2 a1_2 t289 t292 _ ?side1 ?side2 ?side3 ?side4 ?side5 ?side6 ?side7 A18.out).mono ?_); (case side1 => exact TC HR0_1.out); (case side2 => exact HC0_1.out); (case side3 => exact TC HR0_2.out); (case side4 => exact HC0_2.out); (case side5 => exact TC HR2.out); (case side6 => exact HC2.out); (case side7 => exact Glob.fr HG.out (Fr.of_below (TB2 GE283.out GE284.out))); rintro e w24 ⟨v290, rfl, ho0, hb⟩; refine ⟨_, rfl, ?_⟩; have HO291 := Aside0.mk (Kd.V_lower (Kd.V_mono (ok' := fun k_ => k_ ≠ gb283 ∧ k_ ≠ gb284) ho0 (fun k_ hk_ => ⟨(Kd.freshB (g := gb283) (o := .cells #[.int .i64 a0_0, .slice A0_1 l0_1.length c0_1, .slice A0_2 l0_2.length c0_2] 27 (0, 0)) (by (with_reducible repeat (first | refine blk_drewN ?_ _ | refine blk_drew ?_ | refine blk_alloc ?_ _)); exact BK283.out) k_ hk_), (Kd.freshB (g := gb284) (o := .cells #[.int .i64 a1_0, .int .i64 a1_1, .int .i64 a1_2] 49 (0, 0)) (by (with_reducible repeat (first | refine blk_drewN ?_ _ | refine blk_drew ?_ | refine blk_alloc ?_ _)); exact BK284.out) k_ hk_)⟩)) (below_size (TB2 GE283.out GE284.out))); replace BK283 := Aside0.mk (blk_below (g := gb283) (o := .cells #[.int .i64 a0_0, .slice A0_1 l0_1.length c0_1, .slice A0_2 l0_2.length c0_2] 27 (0, 0)) (by (with_reducible repeat (first | refine blk_drewN ?_ _ | refine blk_drew ?_ | refine blk_alloc ?_ _)); exact BK283.out) hb); replace BK284 := Aside0.mk (blk_below (g := gb284) (o := .cells #[.int .i64 a1_0, .int .i64 a1_1, .int .i64 a1_2] 49 (0, 0)) (by (with_reducible repeat (first | refine blk_drewN ?_ _ | refine blk_drew ?_ | refine blk_alloc ?_ _)); exact BK284.out) hb); replace HB := Aside0.mk (below_step (TB2 GE283.out GE284.out) hb); (try clear hb); (try clear hb2); (try clear hk); (try clear hi); (try clear ho0); have hcz25_0 := czz BK283.out 0; have hcz25_1 := czz BK283.out 1; have hcz25_2 := czz BK283.out 2; have hfz25_0 := fz BK283.out 0; have hfz25_1 := fz BK283.out 1; have hfz25_2 := fz BK283.out 2; have hcz26_0 := czz BK284.out 0; have hcz26_1 := czz BK284.out 1; have hcz26_2 := czz BK284.out 2; have hfz26_0 := fz BK284.out 0; have hfz26_1 := fz BK284.out 1; have hfz26_2 := fz BK284.out 2) | ((with_reducible refine gate_callee (f := 33) rfl ?_); refine goesL_ (some 52) rfl rfl Tryd.func33 (by kernel_rfl) rfl #[.agg #[.int .i64 a0_0, .slice A0_1 l0_1.length c0_1, .slice A0_2 l0_2.length c0_2], .slice A2 l2.length c2, .int .i64 a1_2] rfl TM ?_; (with_reducible refine (saronref09_Whole.calls kj5 a0_0 _ _ l0_1 _ _ l0_2 _ _ l2 a1_2 t293 t296 _ ?side1 ?side2 ?side3 ?side4 ?side5 ?side6 A19.out).mono ?_); (case side1 => exact TC HR0_1.out); (case side2 => exact HC0_1.out); (case side3 => exact TC HR0_2.out); (case side4 => exact HC0_2.out); (case side5 => exact TC HR2.out); (case side6 => exact HC2.out); rintro e w27 ⟨v294, rfl, ho0, hb⟩; refine ⟨_, rfl, ?_⟩; have HO295 := Aside0.mk (Kd.R_lower ho0 (below_size (TB2 GE283.out GE284.out))); replace HO291 := Aside0.mk (Kd.V_elder' (by (with_reducible repeat (first | apply Kd.V_alloc | apply Kd.V_drewN | apply Kd.V_drew)); exact HO291.out) (Kd.R_base ho0) hb); replace BK283 := Aside0.mk (blk_below (g := gb283) (o := .cells #[.int .i64 a0_0, .slice A0_1 l0_1.length c0_1, .slice A0_2 l0_2.length c0_2] 27 (0, 0)) (by (with_reducible repeat (first | refine blk_drewN ?_ _ | refine blk_drew ?_ | refine blk_alloc ?_ _)); exact BK283.out) hb); replace BK284 := Aside0.mk (blk_below (g := gb284) (o := .cells #[.int .i64 a1_0, .int .i64 a1_1, .int .i64 a1_2] 49 (0, 0)) (by (with_reducible repeat (first | refine blk_drewN ?_ _ | refine blk_drew ?_ | refine blk_alloc ?_ _)); exact BK284.out) hb); replace HB := Aside0.mk (below_step (TB2 GE283.out GE284.out) hb); (try clear hb); (try clear hb2); (try clear hk); (try clear hi); (try clear ho0)))
    (try simp only [Act.put, lA, lZ, lS])
    go_cut [63] (fun v63 wc => ∃ (kq : Nat) (x63_19 : Bool), v63 = .bool x63_19 ∧ Aside0 (saronlaw09_HeardWholes.j1 kq x63_19 a0_0 l0_1 l0_2 = some r) ∧ Aside0 (kq ≤ kj5) ∧ Aside0 (wc.heap[gb283]? = some (.cells #[.int .i64 a0_0, (.slice A0_1 l0_1.length c0_1), (.slice A0_2 l0_2.length c0_2)] 27 (0, 0))) ∧ Aside0 (wc.heap[gb284]? = some (.cells #[.int .i64 a1_0, .int .i64 a1_1, .int .i64 a1_2] 49 (0, 0))) ∧ Aside0 (Below w.heap.size w wc))
    case first => as_aux_lemma =>
     have H := HC20.out
     clear HC20
     replace H := Option.bind_eq_some_iff.mp H
     obtain ⟨t297, A280, H⟩ := H
     replace H : (if t297 = true then (saronlaw09_HeardWholes.j1 kj5 (t292 != t296) a0_0 l0_1 l0_2) else (saronlaw09_HeardWholes.j1 kj5 true a0_0 l0_1 l0_2)) = some r := H
     have A28 := Aside0.mk A280
     clear A280
     by_cases c29 : t297 = true
     ·subst c29
      have H1 : (saronlaw09_HeardWholes.j1 kj5 (t292 != t296) a0_0 l0_1 l0_2) = some r := by rw [if_pos rfl] at H; exact H
      clear H
      have H := H1
      clear H1
      have H' := Aside0.mk H
      clear H
      obtain ⟨Ao30, co30, eo30⟩ := Kd.V_slice HO291.out
      subst eo30
      obtain ⟨Ao31, co31, eo31⟩ := Kd.R_slice HO295.out
      subst eo31
      go_wp2_with (first | ((with_reducible refine gate_callee (f := 20) rfl ?_); refine goesL_ (some 57) rfl rfl Tryd.func20 (by kernel_rfl) rfl #[.slice Ao30 t289.length co30, .slice Ao31 t293.length co31] rfl TM ?_; (with_reducible refine (saronref00_Equal.calls kj5 _ _ t289 _ _ t293 true _ ?side1 ?side2 ?side3 ?side4 A28.out).mono ?_); (case side1 => repeat (first | exact (Kd.V_reads' HO291.out).2.2 | (with_reducible refine Kd.C_alloc ?_ _) | (with_reducible refine Kd.C_drewN ?_ _) | (with_reducible refine Kd.C_drew ?_))); (case side2 => exact (Kd.V_reads' HO291.out).2.1); (case side3 => repeat (first | exact (Kd.R_reads' HO295.out).2.2 | (with_reducible refine Kd.C_alloc ?_ _) | (with_reducible refine Kd.C_drewN ?_ _) | (with_reducible refine Kd.C_drew ?_))); (case side4 => exact (Kd.R_reads' HO295.out).2.1); rintro e w' ⟨rfl, ⟨nd, rfl⟩⟩; refine ⟨_, rfl, ?_⟩))
      go_meet
      case rel => exact ⟨_, ((t292 != t296)), TT, H', ⟨by have := HJ5.out; first | omega | exact Nat.le_refl _⟩, ⟨by (with_reducible repeat (first | refine blk_drewN ?_ _ | refine blk_drew ?_ | refine blk_alloc ?_ _)); exact BK283.out⟩, ⟨by (with_reducible repeat (first | refine blk_drewN ?_ _ | refine blk_drew ?_ | refine blk_alloc ?_ _)); exact BK284.out⟩, ⟨TB2 GE283.out GE284.out⟩⟩
     ·replace c29 := Bool.eq_false_iff.mpr c29
      subst c29
      have H1 : (saronlaw09_HeardWholes.j1 kj5 true a0_0 l0_1 l0_2) = some r := by rw [if_neg (show ¬ (false = true) by decide)] at H; exact H
      clear H
      have H := H1
      clear H1
      have H' := Aside0.mk H
      clear H
      obtain ⟨Ao32, co32, eo32⟩ := Kd.V_slice HO291.out
      subst eo32
      obtain ⟨Ao33, co33, eo33⟩ := Kd.R_slice HO295.out
      subst eo33
      go_wp2_with (first | ((with_reducible refine gate_callee (f := 20) rfl ?_); refine goesL_ (some 57) rfl rfl Tryd.func20 (by kernel_rfl) rfl #[.slice Ao32 t289.length co32, .slice Ao33 t293.length co33] rfl TM ?_; (with_reducible refine (saronref00_Equal.calls kj5 _ _ t289 _ _ t293 false _ ?side1 ?side2 ?side3 ?side4 A28.out).mono ?_); (case side1 => repeat (first | exact (Kd.V_reads' HO291.out).2.2 | (with_reducible refine Kd.C_alloc ?_ _) | (with_reducible refine Kd.C_drewN ?_ _) | (with_reducible refine Kd.C_drew ?_))); (case side2 => exact (Kd.V_reads' HO291.out).2.1); (case side3 => repeat (first | exact (Kd.R_reads' HO295.out).2.2 | (with_reducible refine Kd.C_alloc ?_ _) | (with_reducible refine Kd.C_drewN ?_ _) | (with_reducible refine Kd.C_drew ?_))); (case side4 => exact (Kd.R_reads' HO295.out).2.1); rintro e w' ⟨rfl, ⟨nd, rfl⟩⟩; refine ⟨_, rfl, ?_⟩))
      go_meet
      case rel => exact ⟨_, (true), TT, H', ⟨by have := HJ5.out; first | omega | exact Nat.le_refl _⟩, ⟨by (with_reducible repeat (first | refine blk_drewN ?_ _ | refine blk_drew ?_ | refine blk_alloc ?_ _)); exact BK283.out⟩, ⟨by (with_reducible repeat (first | refine blk_drewN ?_ _ | refine blk_drew ?_ | refine blk_alloc ?_ _)); exact BK284.out⟩, ⟨TB2 GE283.out GE284.out⟩⟩
    case rest => as_aux_lemma =>
     clear HC20
     try clear c1
     try clear c2
     try clear p2
     try clear c3
     try clear c6
     try clear c9
     try clear c16
     try clear c16b0
     try clear c16b1
     try clear c17
     try clear c20
     try clear c21
     try clear c29
     try clear c30
     try clear c31
     try clear c32
     try clear c33
     try clear hcz10_0 hcz10_1 hcz10_2
     try clear hcz11_0 hcz11_1 hcz11_2
     try clear hcz13_0 hcz13_1 hcz13_2
     try clear hcz14_0 hcz14_1 hcz14_2
     try clear hcz22_0 hcz22_1 hcz22_2
     try clear hcz23_0 hcz23_1 hcz23_2
     try clear hcz25_0 hcz25_1 hcz25_2
     try clear hcz26_0 hcz26_1 hcz26_2
     try clear hfz10_0 hfz10_1 hfz10_2
     try clear hfz11_0 hfz11_1 hfz11_2
     try clear hfz13_0 hfz13_1 hfz13_2
     try clear hfz14_0 hfz14_1 hfz14_2
     try clear hfz22_0 hfz22_1 hfz22_2
     try clear hfz23_0 hfz23_1 hfz23_2
     try clear hfz25_0 hfz25_1 hfz25_2
     try clear hfz26_0 hfz26_1 hfz26_2
     try clear p2
     try clear BK283
     try clear BK284
     try clear HB
     obtain ⟨kq, x63_19, rfl, HA, HJ19, BK283, BK284, HB⟩ := hcut
     cases kq with
     | zero => exact absurd HA.out (by simp [saronlaw09_HeardWholes.j1])
     | succ kj19 =>
      have H := HA.out
      clear HA
      simp only [saronlaw09_HeardWholes.j1] at H
      by_cases c34 : x63_19 = true
      ·subst c34
       have H1 : (some false) = some r := by rw [if_pos rfl] at H; exact H
       clear H
       have H := H1
       clear H1
       obtain rfl := Option.some.inj H
       go_wp2
       go_ret
       exact ⟨TR, TB2 GE283.out GE284.out⟩
      ·replace c34 := Bool.eq_false_iff.mpr c34
       subst c34
       have H1 : ((heard_Known.f kj19 a0_0 l0_1 l0_2).bind fun bt298 => ((saronref09_Known.f kj19 a0_0 l0_1 l0_2).bind fun bt300 => (if bt298.1 = bt300.1 then (if bt298.2 = bt300.2 then ((saronlaw09_listened.f).bind fun t302 => (some t302)) else (some false)) else (some false)))) = some r := by rw [if_neg (show ¬ (false = true) by decide)] at H; exact H
       clear H
       have H := H1
       clear H1
       replace H := Option.bind_eq_some_iff.mp H
       obtain ⟨⟨t298, t299⟩, A350, H⟩ := H
       replace H : ((saronref09_Known.f kj19 a0_0 l0_1 l0_2).bind fun bt300 => (if t298 = bt300.1 then (if t299 = bt300.2 then ((saronlaw09_listened.f).bind fun t302 => (some t302)) else (some false)) else (some false))) = some r := H
       have A35 := Aside0.mk A350
       clear A350
       replace H := Option.bind_eq_some_iff.mp H
       obtain ⟨⟨t300, t301⟩, A360, H⟩ := H
       replace H : (if t298 = t300 then (if t299 = t301 then ((saronlaw09_listened.f).bind fun t302 => (some t302)) else (some false)) else (some false)) = some r := H
       have A36 := Aside0.mk A360
       clear A360
       by_cases c37 : t298 = t300
       ·rw [if_pos c37] at H
        have c37b0 : (t298 == t300) = true := beq_iff_eq.mpr c37
        have c37b1 : (t298 != t300) = false := bne_eq_false_iff_eq.mpr c37
        clear c37
        by_cases c38 : t299 = t301
        ·rw [if_pos c38] at H
         have c38b0 : (t299 == t301) = true := beq_iff_eq.mpr c38
         have c38b1 : (t299 != t301) = false := bne_eq_false_iff_eq.mpr c38
         clear c38
         replace H := Option.bind_eq_some_iff.mp H
         obtain ⟨t302, A390, H⟩ := H
         replace H : (some t302) = some r := H
         have A39 := Aside0.mk A390
         clear A390
         obtain rfl := Option.some.inj H
         have hnb40 := NB283_284.out
         have hnc40 := NB284_283.out
         have hcz41_0 := czz BK283.out 0
         have hcz41_1 := czz BK283.out 1
         have hcz41_2 := czz BK283.out 2
         have hfz41_0 := fz BK283.out 0
         have hfz41_1 := fz BK283.out 1
         have hfz41_2 := fz BK283.out 2
         go_wp2_with (first | ((with_reducible refine gate_callee (f := 34) rfl ?_); refine goesL_ (some 66) rfl rfl Tryd.func34 (by kernel_rfl) rfl #[.agg #[.int .i64 a0_0, .slice A0_1 l0_1.length c0_1, .slice A0_2 l0_2.length c0_2]] rfl TM ?_; (with_reducible refine (heard_Known.calls kj19 a0_0 _ _ l0_1 _ _ l0_2 t298 t299 _ ?side1 ?side2 ?side3 ?side4 ?side5 A35.out).mono ?_); (case side1 => exact TC HR0_1.out); (case side2 => exact HC0_1.out); (case side3 => exact TC HR0_2.out); (case side4 => exact HC0_2.out); (case side5 => exact Glob.fr HG.out (Fr.of_below (TB2 GE283.out GE284.out))); rintro e w42 ⟨rfl, hb⟩; refine ⟨_, rfl, ?_⟩; replace BK283 := Aside0.mk (blk_below (g := gb283) (o := .cells #[.int .i64 a0_0, .slice A0_1 l0_1.length c0_1, .slice A0_2 l0_2.length c0_2] 27 (0, 0)) (by (with_reducible repeat (first | refine blk_drewN ?_ _ | refine blk_drew ?_ | refine blk_alloc ?_ _)); exact BK283.out) hb); replace BK284 := Aside0.mk (blk_below (g := gb284) (o := .cells #[.int .i64 a1_0, .int .i64 a1_1, .int .i64 a1_2] 49 (0, 0)) (by (with_reducible repeat (first | refine blk_drewN ?_ _ | refine blk_drew ?_ | refine blk_alloc ?_ _)); exact BK284.out) hb); replace HB := Aside0.mk (below_step (TB2 GE283.out GE284.out) hb); (try clear hb); (try clear hb2); (try clear hk); (try clear hi); have hcz43_0 := czz BK283.out 0; have hcz43_1 := czz BK283.out 1; have hcz43_2 := czz BK283.out 2; have hfz43_0 := fz BK283.out 0; have hfz43_1 := fz BK283.out 1; have hfz43_2 := fz BK283.out 2) | ((with_reducible refine gate_callee (f := 35) rfl ?_); refine goesL_ (some 71) rfl rfl Tryd.func35 (by kernel_rfl) rfl #[.agg #[.int .i64 a0_0, .slice A0_1 l0_1.length c0_1, .slice A0_2 l0_2.length c0_2]] rfl TM ?_; (with_reducible refine (saronref09_Known.calls kj19 a0_0 _ _ l0_1 _ _ l0_2 t300 t301 _ ?side1 ?side2 ?side3 ?side4 A36.out).mono ?_); (case side1 => exact TC HR0_1.out); (case side2 => exact HC0_1.out); (case side3 => exact TC HR0_2.out); (case side4 => exact HC0_2.out); rintro e w44 ⟨rfl, hb⟩; refine ⟨_, rfl, ?_⟩; replace BK283 := Aside0.mk (blk_below (g := gb283) (o := .cells #[.int .i64 a0_0, .slice A0_1 l0_1.length c0_1, .slice A0_2 l0_2.length c0_2] 27 (0, 0)) (by (with_reducible repeat (first | refine blk_drewN ?_ _ | refine blk_drew ?_ | refine blk_alloc ?_ _)); exact BK283.out) hb); replace BK284 := Aside0.mk (blk_below (g := gb284) (o := .cells #[.int .i64 a1_0, .int .i64 a1_1, .int .i64 a1_2] 49 (0, 0)) (by (with_reducible repeat (first | refine blk_drewN ?_ _ | refine blk_drew ?_ | refine blk_alloc ?_ _)); exact BK284.out) hb); replace HB := Aside0.mk (below_step (TB2 GE283.out GE284.out) hb); (try clear hb); (try clear hb2); (try clear hk); (try clear hi)) | (go_at_call 25; (with_reducible refine (saronlaw09_listened.calls  t302 _ ?side1 A39.out).mono ?_); (case side1 => exact Glob.fr HG.out (Fr.of_below (TB2 GE283.out GE284.out))); rintro e w45 ⟨rfl, hb⟩; replace BK283 := Aside0.mk (blk_below (g := gb283) (o := .cells #[.int .i64 a0_0, .slice A0_1 l0_1.length c0_1, .slice A0_2 l0_2.length c0_2] 27 (0, 0)) (by (with_reducible repeat (first | refine blk_drewN ?_ _ | refine blk_drew ?_ | refine blk_alloc ?_ _)); exact BK283.out) hb); replace BK284 := Aside0.mk (blk_below (g := gb284) (o := .cells #[.int .i64 a1_0, .int .i64 a1_1, .int .i64 a1_2] 49 (0, 0)) (by (with_reducible repeat (first | refine blk_drewN ?_ _ | refine blk_drew ?_ | refine blk_alloc ?_ _)); exact BK284.out) hb); replace HB := Aside0.mk (below_step (TB2 GE283.out GE284.out) hb); (try clear hb); (try clear hb2); (try clear hk); (try clear hi)))
         go_ret
         exact ⟨TR, TB2 GE283.out GE284.out⟩
        ·rw [if_neg c38] at H
         have c38b0 : (t299 == t301) = false := beq_eq_false_iff_ne.mpr c38
         have c38b1 : (t299 != t301) = true := bne_iff_ne.mpr c38
         obtain rfl := Option.some.inj H
         have hnb46 := NB283_284.out
         have hnc46 := NB284_283.out
         have hcz47_0 := czz BK283.out 0
         have hcz47_1 := czz BK283.out 1
         have hcz47_2 := czz BK283.out 2
         have hfz47_0 := fz BK283.out 0
         have hfz47_1 := fz BK283.out 1
         have hfz47_2 := fz BK283.out 2
         go_wp2_with (first | ((with_reducible refine gate_callee (f := 34) rfl ?_); refine goesL_ (some 66) rfl rfl Tryd.func34 (by kernel_rfl) rfl #[.agg #[.int .i64 a0_0, .slice A0_1 l0_1.length c0_1, .slice A0_2 l0_2.length c0_2]] rfl TM ?_; (with_reducible refine (heard_Known.calls kj19 a0_0 _ _ l0_1 _ _ l0_2 t298 t299 _ ?side1 ?side2 ?side3 ?side4 ?side5 A35.out).mono ?_); (case side1 => exact TC HR0_1.out); (case side2 => exact HC0_1.out); (case side3 => exact TC HR0_2.out); (case side4 => exact HC0_2.out); (case side5 => exact Glob.fr HG.out (Fr.of_below (TB2 GE283.out GE284.out))); rintro e w48 ⟨rfl, hb⟩; refine ⟨_, rfl, ?_⟩; replace BK283 := Aside0.mk (blk_below (g := gb283) (o := .cells #[.int .i64 a0_0, .slice A0_1 l0_1.length c0_1, .slice A0_2 l0_2.length c0_2] 27 (0, 0)) (by (with_reducible repeat (first | refine blk_drewN ?_ _ | refine blk_drew ?_ | refine blk_alloc ?_ _)); exact BK283.out) hb); replace BK284 := Aside0.mk (blk_below (g := gb284) (o := .cells #[.int .i64 a1_0, .int .i64 a1_1, .int .i64 a1_2] 49 (0, 0)) (by (with_reducible repeat (first | refine blk_drewN ?_ _ | refine blk_drew ?_ | refine blk_alloc ?_ _)); exact BK284.out) hb); replace HB := Aside0.mk (below_step (TB2 GE283.out GE284.out) hb); (try clear hb); (try clear hb2); (try clear hk); (try clear hi); have hcz49_0 := czz BK283.out 0; have hcz49_1 := czz BK283.out 1; have hcz49_2 := czz BK283.out 2; have hfz49_0 := fz BK283.out 0; have hfz49_1 := fz BK283.out 1; have hfz49_2 := fz BK283.out 2) | ((with_reducible refine gate_callee (f := 35) rfl ?_); refine goesL_ (some 71) rfl rfl Tryd.func35 (by kernel_rfl) rfl #[.agg #[.int .i64 a0_0, .slice A0_1 l0_1.length c0_1, .slice A0_2 l0_2.length c0_2]] rfl TM ?_; (with_reducible refine (saronref09_Known.calls kj19 a0_0 _ _ l0_1 _ _ l0_2 t300 t301 _ ?side1 ?side2 ?side3 ?side4 A36.out).mono ?_); (case side1 => exact TC HR0_1.out); (case side2 => exact HC0_1.out); (case side3 => exact TC HR0_2.out); (case side4 => exact HC0_2.out); rintro e w50 ⟨rfl, hb⟩; refine ⟨_, rfl, ?_⟩; replace BK283 := Aside0.mk (blk_below (g := gb283) (o := .cells #[.int .i64 a0_0, .slice A0_1 l0_1.length c0_1, .slice A0_2 l0_2.length c0_2] 27 (0, 0)) (by (with_reducible repeat (first | refine blk_drewN ?_ _ | refine blk_drew ?_ | refine blk_alloc ?_ _)); exact BK283.out) hb); replace BK284 := Aside0.mk (blk_below (g := gb284) (o := .cells #[.int .i64 a1_0, .int .i64 a1_1, .int .i64 a1_2] 49 (0, 0)) (by (with_reducible repeat (first | refine blk_drewN ?_ _ | refine blk_drew ?_ | refine blk_alloc ?_ _)); exact BK284.out) hb); replace HB := Aside0.mk (below_step (TB2 GE283.out GE284.out) hb); (try clear hb); (try clear hb2); (try clear hk); (try clear hi)))
         go_ret
         exact ⟨TR, TB2 GE283.out GE284.out⟩
       ·rw [if_neg c37] at H
        have c37b0 : (t298 == t300) = false := beq_eq_false_iff_ne.mpr c37
        have c37b1 : (t298 != t300) = true := bne_iff_ne.mpr c37
        obtain rfl := Option.some.inj H
        have hnb51 := NB283_284.out
        have hnc51 := NB284_283.out
        have hcz52_0 := czz BK283.out 0
        have hcz52_1 := czz BK283.out 1
        have hcz52_2 := czz BK283.out 2
        have hfz52_0 := fz BK283.out 0
        have hfz52_1 := fz BK283.out 1
        have hfz52_2 := fz BK283.out 2
        go_wp2_with (first | ((with_reducible refine gate_callee (f := 34) rfl ?_); refine goesL_ (some 66) rfl rfl Tryd.func34 (by kernel_rfl) rfl #[.agg #[.int .i64 a0_0, .slice A0_1 l0_1.length c0_1, .slice A0_2 l0_2.length c0_2]] rfl TM ?_; (with_reducible refine (heard_Known.calls kj19 a0_0 _ _ l0_1 _ _ l0_2 t298 t299 _ ?side1 ?side2 ?side3 ?side4 ?side5 A35.out).mono ?_); (case side1 => exact TC HR0_1.out); (case side2 => exact HC0_1.out); (case side3 => exact TC HR0_2.out); (case side4 => exact HC0_2.out); (case side5 => exact Glob.fr HG.out (Fr.of_below (TB2 GE283.out GE284.out))); rintro e w53 ⟨rfl, hb⟩; refine ⟨_, rfl, ?_⟩; replace BK283 := Aside0.mk (blk_below (g := gb283) (o := .cells #[.int .i64 a0_0, .slice A0_1 l0_1.length c0_1, .slice A0_2 l0_2.length c0_2] 27 (0, 0)) (by (with_reducible repeat (first | refine blk_drewN ?_ _ | refine blk_drew ?_ | refine blk_alloc ?_ _)); exact BK283.out) hb); replace BK284 := Aside0.mk (blk_below (g := gb284) (o := .cells #[.int .i64 a1_0, .int .i64 a1_1, .int .i64 a1_2] 49 (0, 0)) (by (with_reducible repeat (first | refine blk_drewN ?_ _ | refine blk_drew ?_ | refine blk_alloc ?_ _)); exact BK284.out) hb); replace HB := Aside0.mk (below_step (TB2 GE283.out GE284.out) hb); (try clear hb); (try clear hb2); (try clear hk); (try clear hi); have hcz54_0 := czz BK283.out 0; have hcz54_1 := czz BK283.out 1; have hcz54_2 := czz BK283.out 2; have hfz54_0 := fz BK283.out 0; have hfz54_1 := fz BK283.out 1; have hfz54_2 := fz BK283.out 2) | ((with_reducible refine gate_callee (f := 35) rfl ?_); refine goesL_ (some 71) rfl rfl Tryd.func35 (by kernel_rfl) rfl #[.agg #[.int .i64 a0_0, .slice A0_1 l0_1.length c0_1, .slice A0_2 l0_2.length c0_2]] rfl TM ?_; (with_reducible refine (saronref09_Known.calls kj19 a0_0 _ _ l0_1 _ _ l0_2 t300 t301 _ ?side1 ?side2 ?side3 ?side4 A36.out).mono ?_); (case side1 => exact TC HR0_1.out); (case side2 => exact HC0_1.out); (case side3 => exact TC HR0_2.out); (case side4 => exact HC0_2.out); rintro e w55 ⟨rfl, hb⟩; refine ⟨_, rfl, ?_⟩; replace BK283 := Aside0.mk (blk_below (g := gb283) (o := .cells #[.int .i64 a0_0, .slice A0_1 l0_1.length c0_1, .slice A0_2 l0_2.length c0_2] 27 (0, 0)) (by (with_reducible repeat (first | refine blk_drewN ?_ _ | refine blk_drew ?_ | refine blk_alloc ?_ _)); exact BK283.out) hb); replace BK284 := Aside0.mk (blk_below (g := gb284) (o := .cells #[.int .i64 a1_0, .int .i64 a1_1, .int .i64 a1_2] 49 (0, 0)) (by (with_reducible repeat (first | refine blk_drewN ?_ _ | refine blk_drew ?_ | refine blk_alloc ?_ _)); exact BK284.out) hb); replace HB := Aside0.mk (below_step (TB2 GE283.out GE284.out) hb); (try clear hb); (try clear hb2); (try clear hk); (try clear hi)))
        go_ret
        exact ⟨TR, TB2 GE283.out GE284.out⟩
end Go.Proofs.YtfdenclnneigfaaDoor.PRaspKeys
