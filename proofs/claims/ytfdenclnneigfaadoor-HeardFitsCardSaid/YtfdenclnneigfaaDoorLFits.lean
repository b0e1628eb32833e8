import Derived.Test.YtfdenclnneigfaaDoorGN
import Derived.Test.YtfdenclnneigfaaDoorGRA
import Derived.Test.YtfdenclnneigfaaDoorCS
import Derived.Test.YtfdenclnneigfaaDoorC1
import Derived.Test.YtfdenclnneigfaaDoorM0
import Derived.Test.YtfdenclnneigfaaDoorProg
import Derived.Below
import Derived.Deep.Draws
import Derived.Deep.AppendLies
import Derived.Maps.AppendAt
import Derived.OwnWalk
import Derived.Laws.BytesArg
import Derived.Laws.MakeOwn
import Derived.Laws.OwnMore
import Derived.Deep.OwnRows
import Derived.Tactics
import Derived.Lib.ConvBytes
import Derived.Laws.Slices
import Derived.WalkKit
import Derived.KernelRfl
import Derived.RowKit3
import Derived.Deep.LoopGhost
import Derived.Deep.QuietTactic
import Derived.BigQuiet
import Derived.WideLaws
import Derived.Deep.DeepCutAuto
import Derived.Deep.CutBlock
import Derived.Deep.RegionHeld3
import Derived.Laws.Rows
import Derived.Lib.AppendStr
import Derived.ArgAppend
import Derived.Laws.IdiomCopy
import Derived.OrdersHeld
import Derived.Laws.BitsLemmas
import Derived.RowKit
set_option linter.unusedVariables false
set_option linter.unusedSimpArgs false
namespace Go.Proofs.YtfdenclnneigfaaDoor.M
open Go.RowKit Go.Proofs.YtfdenclnneigfaaDoorW.PrintWords Go.Proofs.YtfdenclnneigfaaDoorW.PrintLast
theorem czz {w : World} {g : Nat} {cs : Array Value} {t : TypeId} {v : Value} (h : w.heap[g]? = some (.cells cs t (0, 0))) (i : Nat) (hv : cs[i]? = some v := by (first | (simp only [List.getElem?_toArray, List.getElem?_cons_zero, List.getElem?_cons_succ]; rfl) | exact rfl)) : w.cell? ⟨g, i, none⟩ = some v := (blk_cell h i).trans hv
end Go.Proofs.YtfdenclnneigfaaDoor.M
namespace Go.Proofs.YtfdenclnneigfaaDoor.PRaspKeys
open Go.RowKit Go.Proofs.YtfdenclnneigfaaDoorW.PrintWords Go.Proofs.YtfdenclnneigfaaDoorW.PrintLast Go.Proofs.YtfdenclnneigfaaDoorW.PrintMore Go.Proofs.YtfdenclnneigfaaDoor.M
attribute [local go_sem] max2_int min2_int max_two min_two max_three min_three max_four min_four   -- for this text's walks alone
/-! #### struct type 114 -/
/-! #### struct type 62 -/
/-! #### struct type 30 -/
end Go.Proofs.YtfdenclnneigfaaDoor.PRaspKeys
namespace Go.Proofs.YtfdenclnneigfaaDoor.PRaspKeys
open Go.RowKit Go.Proofs.YtfdenclnneigfaaDoorW.PrintWords Go.Proofs.YtfdenclnneigfaaDoorW.PrintLast Go.Proofs.YtfdenclnneigfaaDoorW.PrintMore Go.Proofs.YtfdenclnneigfaaDoor.M
attribute [local go_sem] max2_int min2_int max_two min_two max_three min_three max_four min_four   -- for this text's walks alone
end Go.Proofs.YtfdenclnneigfaaDoor.PRaspKeys
namespace Go.Proofs.YtfdenclnneigfaaDoor.PRaspKeys
open Go.RowKit Go.Proofs.YtfdenclnneigfaaDoorW.PrintWords Go.Proofs.YtfdenclnneigfaaDoorW.PrintLast Go.Proofs.YtfdenclnneigfaaDoorW.PrintMore Go.Proofs.YtfdenclnneigfaaDoor.M
attribute [local go_sem] max2_int min2_int max_two min_two max_three min_three max_four min_four   -- for this text's walks alone
mutual
def sHF.j0 : Nat → Int → Bool → Int → List (S114) → List (S62) → List Int → List Int → Int → Int → Option (Bool)
 | 0, _, _, _, _, _, _, _, _, _ => none
 | k + 1, x1, x43, x340000, x340001, x340002, x341000, x341001, x341002, x341003 => if x43 = true then (some false) else ((heard_Pieces.f x340000 x340001 x340002 x341000 x341001 x341002 x341003).bind fun bt347 => ((saronref09_Pieces.f x340000 x340001 x340002 x341000 x341001 x341002 x341003).bind fun bt351 => ((saronref00_Equal.f k bt347.1 bt351.1).bind fun t355 => (if t355 = true then (sHF.j1 k x1 (bt347.2 != bt351.2) x340000 x340001 x340002 x341000 x341001 x341002 x341003) else (sHF.j1 k x1 true x340000 x340001 x340002 x341000 x341001 x341002 x341003)))))
def sHF.j1 : Nat → Int → Bool → Int → List (S114) → List (S62) → List Int → List Int → Int → Int → Option (Bool)
 | 0, _, _, _, _, _, _, _, _, _ => none
 | k + 1, x1, x64, x340000, x340001, x340002, x341000, x341001, x341002, x341003 => if x64 = true then (some false) else ((heard_Begins.f x340000 x340001 x340002 x1 x341000 x341001 x341002 x341003).bind fun bt356 => ((saronref09_Begins.f x340000 x340001 x340002 x1 x341000 x341001 x341002 x341003).bind fun bt360 => ((saronref00_Equal.f k bt356.1 bt360.1).bind fun t364 => (if t364 = true then (sHF.j2 k x1 (bt356.2 != bt360.2) x340000 x340001 x340002 x341000 x341001 x341002 x341003) else (sHF.j2 k x1 true x340000 x340001 x340002 x341000 x341001 x341002 x341003)))))
def sHF.j2 : Nat → Int → Bool → Int → List (S114) → List (S62) → List Int → List Int → Int → Int → Option (Bool)
 | 0, _, _, _, _, _, _, _, _, _ => none
 | k + 1, x1, x87, x340000, x340001, x340002, x341000, x341001, x341002, x341003 => if x87 = true then (some false) else ((heard_Least.f x340000 x340001 x340002 x1 x341000 x341001 x341002 x341003).bind fun bt365 => ((saronref09_Least.f x340000 x340001 x340002 x1 x341000 x341001 x341002 x341003).bind fun bt367 => (if bt365.1 = bt367.1 then (if bt365.2 = bt367.2 then ((saronlaw09_listened.f).bind fun t369 => (some t369)) else (some false)) else (some false))))
end
def sHF.f (k : Nat) (a0_0 : Int) (l0_1 : List (S114)) (l0_2 : List (S62)) (a1 : Int) (l2_0 : List Int) (l2_1 : List Int) (a2_2 : Int) (a2_3 : Int) : Option (Bool) := (heard_Fits.f a0_0 l0_1 l0_2 a1 l2_0 l2_1 a2_2 a2_3).bind fun bt341 => ((saronref09_Fits.f a0_0 l0_1 l0_2 a1 l2_0 l2_1 a2_2 a2_3).bind fun bt343 => (if (bt341.1 != bt343.1) = true then (sHF.j0 k a1 true a0_0 l0_1 l0_2 l2_0 l2_1 a2_2 a2_3) else (if bt341.2 = bt343.2 then ((heard_Check.f a0_0 l0_1 l0_2).bind fun t345 => ((saronref09_Check.f k a0_0 l0_1 l0_2).bind fun t346 => (sHF.j0 k a1 (t345 != t346) a0_0 l0_1 l0_2 l2_0 l2_1 a2_2 a2_3))) else (sHF.j0 k a1 true a0_0 l0_1 l0_2 l2_0 l2_1 a2_2 a2_3))))
theorem sHF.mono_l : ∀ k, (∀ y0 y1 y2 y3 y4 y5 y6 y7 y8, LeO (sHF.j0 k y0 y1 y2 y3 y4 y5 y6 y7 y8) (sHF.j0 (k + 1) y0 y1 y2 y3 y4 y5 y6 y7 y8)) ∧ (∀ y0 y1 y2 y3 y4 y5 y6 y7 y8, LeO (sHF.j1 k y0 y1 y2 y3 y4 y5 y6 y7 y8) (sHF.j1 (k + 1) y0 y1 y2 y3 y4 y5 y6 y7 y8)) ∧ (∀ y0 y1 y2 y3 y4 y5 y6 y7 y8, LeO (sHF.j2 k y0 y1 y2 y3 y4 y5 y6 y7 y8) (sHF.j2 (k + 1) y0 y1 y2 y3 y4 y5 y6 y7 y8))
 | 0 => ⟨fun _ _ _ _ _ _ _ _ _ r h => by simp [sHF.j0] at h, fun _ _ _ _ _ _ _ _ _ r h => by simp [sHF.j1] at h, fun _ _ _ _ _ _ _ _ _ r h => by simp [sHF.j2] at h⟩
 | k + 1 => by
  obtain ⟨ih0, ih1, ih2⟩ := sHF.mono_l k
  refine ⟨?_, ?_, ?_⟩
  ·intro y0 y1 y2 y3 y4 y5 y6 y7 y8
   unfold sHF.j0
   repeat' first
   | (with_reducible exact ih0 _ _ _ _ _ _ _ _ _)
   | (with_reducible exact ih1 _ _ _ _ _ _ _ _ _)
   | (with_reducible exact ih2 _ _ _ _ _ _ _ _ _)
   | (with_reducible exact saronref00_Equal.mono _ _ _)
   | (with_reducible exact saronref09_Check.mono _ _ _ _)
   | (with_reducible exact LeO.refl _)
   | (with_reducible exact LeO.none _)
   | (with_reducible refine LeO.ite ?_ ?_)
   | (with_reducible refine LeO.bind ?_ (fun _ => ?_))
   | exact ih0 _ _ _ _ _ _ _ _ _
   | exact ih1 _ _ _ _ _ _ _ _ _
   | exact ih2 _ _ _ _ _ _ _ _ _
   | exact saronref00_Equal.mono _ _ _
   | exact saronref09_Check.mono _ _ _ _
   | exact LeO.none _
   | refine LeO.ite ?_ ?_
   | refine LeO.bind ?_ (fun _ => ?_)
  ·intro y0 y1 y2 y3 y4 y5 y6 y7 y8
   unfold sHF.j1
   repeat' first
   | (with_reducible exact ih0 _ _ _ _ _ _ _ _ _)
   | (with_reducible exact ih1 _ _ _ _ _ _ _ _ _)
   | (with_reducible exact ih2 _ _ _ _ _ _ _ _ _)
   | (with_reducible exact saronref00_Equal.mono _ _ _)
   | (with_reducible exact saronref09_Check.mono _ _ _ _)
   | (with_reducible exact LeO.refl _)
   | (with_reducible exact LeO.none _)
   | (with_reducible refine LeO.ite ?_ ?_)
   | (with_reducible refine LeO.bind ?_ (fun _ => ?_))
   | exact ih0 _ _ _ _ _ _ _ _ _
   | exact ih1 _ _ _ _ _ _ _ _ _
   | exact ih2 _ _ _ _ _ _ _ _ _
   | exact saronref00_Equal.mono _ _ _
   | exact saronref09_Check.mono _ _ _ _
   | exact LeO.none _
   | refine LeO.ite ?_ ?_
   | refine LeO.bind ?_ (fun _ => ?_)
  intro y0 y1 y2 y3 y4 y5 y6 y7 y8
  unfold sHF.j2
  repeat' first
  | (with_reducible exact ih0 _ _ _ _ _ _ _ _ _)
  | (with_reducible exact ih1 _ _ _ _ _ _ _ _ _)
  | (with_reducible exact ih2 _ _ _ _ _ _ _ _ _)
  | (with_reducible exact saronref00_Equal.mono _ _ _)
  | (with_reducible exact saronref09_Check.mono _ _ _ _)
  | (with_reducible exact LeO.refl _)
  | (with_reducible exact LeO.none _)
  | (with_reducible refine LeO.ite ?_ ?_)
  | (with_reducible refine LeO.bind ?_ (fun _ => ?_))
  | exact ih0 _ _ _ _ _ _ _ _ _
  | exact ih1 _ _ _ _ _ _ _ _ _
  | exact ih2 _ _ _ _ _ _ _ _ _
  | exact saronref00_Equal.mono _ _ _
  | exact saronref09_Check.mono _ _ _ _
  | exact LeO.none _
  | refine LeO.ite ?_ ?_
  | refine LeO.bind ?_ (fun _ => ?_)
theorem sHF.mono : ∀ a0 a1 a2 a3 a4 a5 a6 a7 k, LeO (sHF.f k a0 a1 a2 a3 a4 a5 a6 a7) (sHF.f (k + 1) a0 a1 a2 a3 a4 a5 a6 a7) := by
 intro a0 a1 a2 a3 a4 a5 a6 a7 k
 obtain ⟨ih0, ih1, ih2⟩ := sHF.mono_l k
 unfold sHF.f
 repeat' first
   | (with_reducible exact ih0 _ _ _ _ _ _ _ _ _)
   | (with_reducible exact ih1 _ _ _ _ _ _ _ _ _)
   | (with_reducible exact ih2 _ _ _ _ _ _ _ _ _)
   | (with_reducible exact saronref00_Equal.mono _ _ _)
   | (with_reducible exact saronref09_Check.mono _ _ _ _)
   | (with_reducible exact LeO.refl _)
   | (with_reducible exact LeO.none _)
   | (with_reducible refine LeO.ite ?_ ?_)
   | (with_reducible refine LeO.bind ?_ (fun _ => ?_))
   | exact ih0 _ _ _ _ _ _ _ _ _
   | exact ih1 _ _ _ _ _ _ _ _ _
   | exact ih2 _ _ _ _ _ _ _ _ _
   | exact saronref00_Equal.mono _ _ _
   | exact saronref09_Check.mono _ _ _ _
   | exact LeO.none _
   | refine LeO.ite ?_ ?_
   | refine LeO.bind ?_ (fun _ => ?_)
def sHF.T3 : Bool × List (List Nat × List Nat) := (true, [([], []), ([], []), ([0, 1], [0, 1]), ([2], [2]), ([3], [3]), ([3], [3]), ([4, 5, 3], [3, 4, 5]), ([3, 6], [3, 6]), ([7, 3], [7]), ([8], [8]), ([9, 8, 8], [8, 9]), ([8], [8]), ([11, 10, 8], [8, 11]), ([10, 12, 8], [8, 10, 12]), ([8, 13], [8, 13])])
def sHF.B3 : List Nat := [0, 0, 3, 7, 15, 15, 63, 127, 255, 511, 1023, 511, 4095, 8191, 16383]
theorem sHF.tab3 : rtab .any (opsOf Tryd.f3 3) = sHF.T3 := by kernel_rfl
theorem sHF.bits3 : waitsOk sHF.T3.2 sHF.B3 = true := by kernel_rfl
set_option maxHeartbeats 8000000 in
set_option maxRecDepth 100000 in
theorem sHF.calls (k : Nat) (a0_0 : Int) (A0_1 : Option Addr) (c0_1 : Nat) (l0_1 : List (S114)) (A0_2 : Option Addr) (c0_2 : Nat) (l0_2 : List (S62)) (a1 : Int) (A2_0 : Option Addr) (c2_0 : Nat) (l2_0 : List Int) (A2_1 : Option Addr) (c2_1 : Nat) (l2_1 : List Int) (a2_2 : Int) (a2_3 : Int) (r : Bool) (w : World) (hr0_1 : Kd.C k114 w A0_1 l0_1.length l0_1) (hc0_1 : l0_1.length ≤ c0_1) (hr0_2 : Kd.C k62 w A0_2 l0_2.length l0_2) (hc0_2 : l0_2.length ≤ c0_2) (hr2_0 : Kd.C (Kd.int .i64) w A2_0 l2_0.length l2_0) (hc2_0 : l2_0.length ≤ c2_0) (hr2_1 : Kd.C (Kd.int .i64) w A2_1 l2_1.length l2_1) (hc2_1 : l2_1.length ≤ c2_1) (hG : Glob w) (h : sHF.f k a0_0 l0_1 l0_2 a1 l2_0 l2_1 a2_2 a2_3 = some r) :
  Calls Tryd.prog 3 #[.agg #[.int .i64 a0_0, .slice A0_1 l0_1.length c0_1, .slice A0_2 l0_2.length c0_2], .int .i64 a1, .agg #[.slice A2_0 l2_0.length c2_0, .slice A2_1 l2_1.length c2_1, .int .i64 a2_2, .int .i64 a2_3]] w fun e w' => e = .returned (.bool r) ∧ Below w.heap.size w w' := by
 have hu27 := Tryd.underlying27
 have hu30 := Tryd.underlying30
 have HR0_1 := aS hr0_1
 have HC0_1 := aS hc0_1
 clear hr0_1 hc0_1
 have HR0_2 := aS hr0_2
 have HC0_2 := aS hc0_2
 clear hr0_2 hc0_2
 have HR2_0 := aS hr2_0
 have HC2_0 := aS hc2_0
 clear hr2_0 hc2_0
 have HR2_1 := aS hr2_1
 have HC2_1 := aS hc2_1
 clear hr2_1 hc2_1
 have HB := aS (Below.refl w.heap.size w)
 have HG := aS hG
 clear hG
 have H : ((heard_Fits.f a0_0 l0_1 l0_2 a1 l2_0 l2_1 a2_2 a2_3).bind fun bt341 => ((saronref09_Fits.f a0_0 l0_1 l0_2 a1 l2_0 l2_1 a2_2 a2_3).bind fun bt343 => (if (bt341.1 != bt343.1) = true then (sHF.j0 k a1 true a0_0 l0_1 l0_2 l2_0 l2_1 a2_2 a2_3) else (if bt341.2 = bt343.2 then ((heard_Check.f a0_0 l0_1 l0_2).bind fun t345 => ((saronref09_Check.f k a0_0 l0_1 l0_2).bind fun t346 => (sHF.j0 k a1 (t345 != t346) a0_0 l0_1 l0_2 l2_0 l2_1 a2_2 a2_3))) else (sHF.j0 k a1 true a0_0 l0_1 l0_2 l2_0 l2_1 a2_2 a2_3))))) = some r := h
 clear h
 replace H := Option.bind_eq_some_iff.mp H
 obtain ⟨⟨t341, t342⟩, A40, H⟩ := H
 replace H : ((saronref09_Fits.f a0_0 l0_1 l0_2 a1 l2_0 l2_1 a2_2 a2_3).bind fun bt343 => (if (t341 != bt343.1) = true then (sHF.j0 k a1 true a0_0 l0_1 l0_2 l2_0 l2_1 a2_2 a2_3) else (if t342 = bt343.2 then ((heard_Check.f a0_0 l0_1 l0_2).bind fun t345 => ((saronref09_Check.f k a0_0 l0_1 l0_2).bind fun t346 => (sHF.j0 k a1 (t345 != t346) a0_0 l0_1 l0_2 l2_0 l2_1 a2_2 a2_3))) else (sHF.j0 k a1 true a0_0 l0_1 l0_2 l2_0 l2_1 a2_2 a2_3)))) = some r := H
 have A4 := aS A40
 clear A40
 replace H := Option.bind_eq_some_iff.mp H
 obtain ⟨⟨t343, t344⟩, A50, H⟩ := H
 replace H : (if (t341 != t343) = true then (sHF.j0 k a1 true a0_0 l0_1 l0_2 l2_0 l2_1 a2_2 a2_3) else (if t342 = t344 then ((heard_Check.f a0_0 l0_1 l0_2).bind fun t345 => ((saronref09_Check.f k a0_0 l0_1 l0_2).bind fun t346 => (sHF.j0 k a1 (t345 != t346) a0_0 l0_1 l0_2 l2_0 l2_1 a2_2 a2_3))) else (sHF.j0 k a1 true a0_0 l0_1 l0_2 l2_0 l2_1 a2_2 a2_3))) = some r := H
 have A5 := aS A50
 clear A50
 have HC6 := aS H
 clear H
 go_enter Tryd.func3, Tryd.ntmps3
 go_upto_region 3 with (first | ((with_reducible refine gate_dst (N := 3) rfl ?_); refine box_event ?hg (N := 3) ?hd (cs := #[.int .i64 a0_0, .slice A0_1 l0_1.length c0_1, .slice A0_2 l0_2.length c0_2]) (t := 27) ?hr ?_; (case hd => rfl); (case hg => rfl); (case hr => exact TS); intro gb339 hg w7 hbox hb; have BK339 := aS (hbox); have GW339 := aS ((TG : w.heap.size ≤ gb339)); have GE339 := aS ((TG : w.heap.size ≤ gb339)); replace HB := aS (below_step TB hb); clear hb hbox hg) | ((with_reducible refine gate_dst (N := 5) rfl ?_); refine box_event ?hg (N := 5) ?hd (cs := #[.slice A2_0 l2_0.length c2_0, .slice A2_1 l2_1.length c2_1, .int .i64 a2_2, .int .i64 a2_3]) (t := 30) ?hr ?_; (case hd => rfl); (case hg => rfl); (case hr => exact TS); intro gb340 hg w8 hbox hb; have BK340 := aS (hbox); have GW340 := aS ((TG1 GE339.out : w.heap.size ≤ gb340)); have GE340 := aS ((TG1 GE339.out : w.heap.size ≤ gb340)); have NB339_340 := aS ((by rw [hg]; exact Nat.ne_of_lt (blk_lt (g := gb339) (o := .cells #[.int .i64 a0_0, .slice A0_1 l0_1.length c0_1, .slice A0_2 l0_2.length c0_2] 27 (0, 0)) (TK BK339.out)) : gb339 ≠ gb340)); have NB340_339 := aS ((by rw [hg]; exact Nat.ne_of_gt (blk_lt (g := gb339) (o := .cells #[.int .i64 a0_0, .slice A0_1 l0_1.length c0_1, .slice A0_2 l0_2.length c0_2] 27 (0, 0)) (TK BK339.out)) : gb340 ≠ gb339)); replace BK339 := aS (blk_below (g := gb339) (o := .cells #[.int .i64 a0_0, .slice A0_1 l0_1.length c0_1, .slice A0_2 l0_2.length c0_2] 27 (0, 0)) (TK BK339.out) hb); replace HB := aS (below_step (TB1 GE339.out) hb); clear hb hbox hg; have hnb9 := NB339_340.out; have hnc9 := NB340_339.out; have hcz10_0 := czz BK339.out 0; have hcz10_1 := czz BK339.out 1; have hcz10_2 := czz BK339.out 2; have hfz10_0 := fz BK339.out 0; have hfz10_1 := fz BK339.out 1; have hfz10_2 := fz BK339.out 2; have hcz11_0 := czz BK340.out 0; have hcz11_1 := czz BK340.out 1; have hcz11_2 := czz BK340.out 2; have hcz11_3 := czz BK340.out 3; have hfz11_0 := fz BK340.out 0; have hfz11_1 := fz BK340.out 1; have hfz11_2 := fz BK340.out 2; have hfz11_3 := fz BK340.out 3) | ((with_reducible refine gate_callee (f := 14) rfl ?_); refine goesL_ (some 19) rfl rfl Tryd.func14 (by kernel_rfl) rfl #[.agg #[.int .i64 a0_0, .slice A0_1 l0_1.length c0_1, .slice A0_2 l0_2.length c0_2], .int .i64 a1, .agg #[.slice A2_0 l2_0.length c2_0, .slice A2_1 l2_1.length c2_1, .int .i64 a2_2, .int .i64 a2_3]] rfl TM ?_; (with_reducible refine (heard_Fits.calls a0_0 _ _ l0_1 _ _ l0_2 a1 _ _ l2_0 _ _ l2_1 a2_2 a2_3 t341 t342 _ ?side1 ?side2 ?side3 ?side4 ?side5 ?side6 ?side7 ?side8 ?side9 A4.out).mono ?_); (case side1 => exact TC HR0_1.out); (case side2 => exact HC0_1.out); (case side3 => exact TC HR0_2.out); (case side4 => exact HC0_2.out); (case side5 => exact TC HR2_0.out); (case side6 => exact HC2_0.out); (case side7 => exact TC HR2_1.out); (case side8 => exact HC2_1.out); (case side9 => exact Glob.fr HG.out (Fr.of_below (TB2 GE339.out GE340.out))); rintro e w12 ⟨rfl, hb⟩; refine ⟨_, rfl, ?_⟩; replace BK339 := aS (blk_below (g := gb339) (o := .cells #[.int .i64 a0_0, .slice A0_1 l0_1.length c0_1, .slice A0_2 l0_2.length c0_2] 27 (0, 0)) (TK BK339.out) hb); replace BK340 := aS (blk_below (g := gb340) (o := .cells #[.slice A2_0 l2_0.length c2_0, .slice A2_1 l2_1.length c2_1, .int .i64 a2_2, .int .i64 a2_3] 30 (0, 0)) (TK BK340.out) hb); replace HB := aS (below_step (TB2 GE339.out GE340.out) hb); (try clear hb); (try clear hb2); (try clear hk); (try clear hi); have hcz13_0 := czz BK339.out 0; have hcz13_1 := czz BK339.out 1; have hcz13_2 := czz BK339.out 2; have hfz13_0 := fz BK339.out 0; have hfz13_1 := fz BK339.out 1; have hfz13_2 := fz BK339.out 2; have hcz14_0 := czz BK340.out 0; have hcz14_1 := czz BK340.out 1; have hcz14_2 := czz BK340.out 2; have hcz14_3 := czz BK340.out 3; have hfz14_0 := fz BK340.out 0; have hfz14_1 := fz BK340.out 1; have hfz14_2 := fz BK340.out 2; have hfz14_3 := fz BK340.out 3) | ((with_reducible refine gate_callee (f := 15) rfl ?_); refine goesL_ (some 26) rfl rfl Tryd.func15 (by kernel_rfl) rfl #[.agg #[.int .i64 a0_0, .slice A0_1 l0_1.length c0_1, .slice A0_2 l0_2.length c0_2], .int .i64 a1, .agg #[.slice A2_0 l2_0.length c2_0, .slice A2_1 l2_1.length c2_1, .int .i64 a2_2, .int .i64 a2_3]] rfl TM ?_; (with_reducible refine (saronref09_Fits.calls a0_0 _ _ l0_1 _ _ l0_2 a1 _ _ l2_0 _ _ l2_1 a2_2 a2_3 t343 t344 _ ?side1 ?side2 ?side3 ?side4 ?side5 ?side6 ?side7 ?side8 ?side9 A5.out).mono ?_); (case side1 => exact TC HR0_1.out); (case side2 => exact HC0_1.out); (case side3 => exact TC HR0_2.out); (case side4 => exact HC0_2.out); (case side5 => exact TC HR2_0.out); (case side6 => exact HC2_0.out); (case side7 => exact TC HR2_1.out); (case side8 => exact HC2_1.out); (case side9 => exact Glob.fr HG.out (Fr.of_below (TB2 GE339.out GE340.out))); rintro e w15 ⟨rfl, hb⟩; refine ⟨_, rfl, ?_⟩; replace BK339 := aS (blk_below (g := gb339) (o := .cells #[.int .i64 a0_0, .slice A0_1 l0_1.length c0_1, .slice A0_2 l0_2.length c0_2] 27 (0, 0)) (TK BK339.out) hb); replace BK340 := aS (blk_below (g := gb340) (o := .cells #[.slice A2_0 l2_0.length c2_0, .slice A2_1 l2_1.length c2_1, .int .i64 a2_2, .int .i64 a2_3] 30 (0, 0)) (TK BK340.out) hb); replace HB := aS (below_step (TB2 GE339.out GE340.out) hb); (try clear hb); (try clear hb2); (try clear hk); (try clear hi)))
 (try simp only [Act.put, lA, lZ, lS])
 go_cut [43] (fun v43 wc => ∃ (kq : Nat) (x43_5 : Bool), v43 = .bool x43_5 ∧ Aside0 (sHF.j0 kq a1 x43_5 a0_0 l0_1 l0_2 l2_0 l2_1 a2_2 a2_3 = some r) ∧ Aside0 (kq ≤ k) ∧ Aside0 (wc.heap[gb339]? = some (.cells #[.int .i64 a0_0, (.slice A0_1 l0_1.length c0_1), (.slice A0_2 l0_2.length c0_2)] 27 (0, 0))) ∧ Aside0 (wc.heap[gb340]? = some (.cells #[(.slice A2_0 l2_0.length c2_0), (.slice A2_1 l2_1.length c2_1), .int .i64 a2_2, .int .i64 a2_3] 30 (0, 0))) ∧ Aside0 (Below w.heap.size w wc))
 case first => as_aux_lemma =>
  have H := HC6.out
  clear HC6
  by_cases c16 : (t341 != t343) = true
  ·rw [if_pos c16] at H
   have c16b0 : (t341 != t343) = true := c16
   (try (have c16b1 : decide (t341 = t343) = false := by simpa using c16))
   (try (have c16b2 : (t341 == t343) = false := by simpa using c16))
   (try (have c16b3 : ¬ (t341 = t343) := by simpa using c16))
   clear c16
   (first | rw [c16b0] | (simp only [i64_w, i32_w]; rw [c16b0]) | skip)
   have H' := aS H
   clear H
   try go_wp2
   have n0_ := aS (blk_drew BK339.out)
   have n1_ := aS (blk_drew BK340.out)
   have n2_ := aS (below_drew1 HB.out)
   clear BK339
   clear BK340
   clear HB
   have BK339 := n0_
   have BK340 := n1_
   have HB := n2_
   clear n0_ n1_ n2_
   refine start_ (n := 15) (S := fun w' => True) (ds := []) (.replicate 15 false) (by kernel_rfl) rfl rfl trivial (fun hHeld => ?_); refine with_tabW sHF.tab3 sHF.bits3 (fun HT_ HW_ => ?_)
   generalize w15.drew = w17 at BK339 BK340 HB hHeld ⊢
   refine pT 0 29 (bt 15 1) (k := ?_)
   refine pT 1 30 (bt 15 3) (k := ?_)
   refine pT 2 31 (bt 15 7) (k := ?_)
   refine pT 3 32 (bt 15 15) (k := ?_)
   refine pU 4 33 (bt 15 31) (k := ?_)
   refine pU 5 34 (bt 15 63) (k := ?_)
   refine pU 6 35 (bt 15 127) (k := ?_)
   refine pT 7 36 (bt 15 255) (k := ?_)
   refine pT 8 37 (bt 15 511) (k := ?_)
   refine pU 9 38 (bt 15 1023) (k := ?_)
   refine pU 10 39 (bt 15 2047) (k := ?_)
   refine pU 11 40 (bt 15 4095) (k := ?_)
   refine pU 12 41 (bt 15 8191) (k := ?_)
   refine pU 13 42 (bt 15 16383) (k := ?_)
   refine pT 14 43 (bt 15 32767) (k := ?_)
   refine done_ (done_of HT_.out (by kernel_rfl)) ?_
   try go_wp2
   go_meet
   case rel => exact ⟨_, (true), TT, H', ⟨by first | omega | exact Nat.le_refl _⟩, ⟨TK BK339.out⟩, ⟨TK BK340.out⟩, ⟨TB2 GE339.out GE340.out⟩⟩
  rw [if_neg c16] at H
  have c16b0 : (t341 != t343) = false := by simpa using c16
  (try (have c16b1 : decide (t341 = t343) = true := by simpa using c16))
  (try (have c16b2 : (t341 == t343) = true := by simpa using c16))
  clear c16
  (first | rw [c16b0] | (simp only [i64_w, i32_w]; rw [c16b0]) | skip)
  by_cases c18 : t342 = t344
  rotate_left
  ·rw [if_neg c18] at H
   have c18b0 : (t342 == t344) = false := beq_eq_false_iff_ne.mpr c18
   have c18b1 : (t342 != t344) = true := bne_iff_ne.mpr c18
   have H' := aS H
   clear H
   try go_wp2
   have n0_ := aS (blk_drew BK339.out)
   have n1_ := aS (blk_drew BK340.out)
   have n2_ := aS (below_drew1 HB.out)
   clear BK339
   clear BK340
   clear HB
   have BK339 := n0_
   have BK340 := n1_
   have HB := n2_
   clear n0_ n1_ n2_
   refine start_ (n := 15) (S := fun w' => True) (ds := []) (.replicate 15 false) (by kernel_rfl) rfl rfl trivial (fun hHeld => ?_); refine with_tabW sHF.tab3 sHF.bits3 (fun HT_ HW_ => ?_)
   generalize w15.drew = w24 at BK339 BK340 HB hHeld ⊢
   refine pT 0 29 (bt 15 1) (k := ?_)
   refine pT 1 30 (bt 15 3) (k := ?_)
   refine pT 2 31 (bt 15 7) (k := ?_)
   refine pT 3 32 (bt 15 15) (k := ?_)
   refine pT 4 33 (bt 15 31) (k := ?_)
   refine pT 5 34 (bt 15 63) (k := ?_)
   refine pT 6 35 (bt 15 127) (k := ?_)
   refine pT 7 36 (bt 15 255) (k := ?_)
   refine pT 8 37 (bt 15 511) (k := ?_)
   refine pU 9 38 (bt 15 1023) (k := ?_)
   refine pU 10 39 (bt 15 2047) (k := ?_)
   refine pU 11 40 (bt 15 4095) (k := ?_)
   refine pU 12 41 (bt 15 8191) (k := ?_)
   refine pU 13 42 (bt 15 16383) (k := ?_)
   refine pT 14 43 (bt 15 32767) (k := ?_)
   refine done_ (done_of HT_.out (by kernel_rfl)) ?_
   try go_wp2
   go_meet
   case rel => exact ⟨_, (true), TT, H', ⟨by first | omega | exact Nat.le_refl _⟩, ⟨TK BK339.out⟩, ⟨TK BK340.out⟩, ⟨TB2 GE339.out GE340.out⟩⟩
  rw [if_pos c18] at H
  have c18b0 : (t342 == t344) = true := beq_iff_eq.mpr c18
  have c18b1 : (t342 != t344) = false := bne_eq_false_iff_eq.mpr c18
  clear c18
  replace H := Option.bind_eq_some_iff.mp H
  obtain ⟨t345, A190, H⟩ := H
  replace H : ((saronref09_Check.f k a0_0 l0_1 l0_2).bind fun t346 => (sHF.j0 k a1 (t345 != t346) a0_0 l0_1 l0_2 l2_0 l2_1 a2_2 a2_3)) = some r := H
  have A19 := aS A190
  clear A190
  replace H := Option.bind_eq_some_iff.mp H
  obtain ⟨t346, A200, H⟩ := H
  replace H : (sHF.j0 k a1 (t345 != t346) a0_0 l0_1 l0_2 l2_0 l2_1 a2_2 a2_3) = some r := H
  have A20 := aS A200
  clear A200
  have H' := aS H
  clear H
  try go_wp2
  have n0_ := aS (blk_drew BK339.out)
  have n1_ := aS (blk_drew BK340.out)
  have n2_ := aS (below_drew1 HB.out)
  clear BK339
  clear BK340
  clear HB
  have BK339 := n0_
  have BK340 := n1_
  have HB := n2_
  clear n0_ n1_ n2_
  refine start_ (n := 15) (S := fun w' => w'.cell? ⟨gb339, 0, none⟩ = some (.int .i64 a0_0) ∧ w'.cell? ⟨gb339, 1, none⟩ = some (.slice A0_1 l0_1.length c0_1) ∧ w'.cell? ⟨gb339, 2, none⟩ = some (.slice A0_2 l0_2.length c0_2)) (ds := []) (.replicate 15 false) (by kernel_rfl) rfl rfl ⟨czz BK339.out 0, czz BK339.out 1, czz BK339.out 2⟩ (fun hHeld => ?_); refine with_tabW sHF.tab3 sHF.bits3 (fun HT_ HW_ => ?_)
  generalize w15.drew = w21 at BK339 BK340 HB hHeld ⊢
  refine pT 0 29 (bt 15 1) (k := ?_)
  refine pT 1 30 (bt 15 3) (k := ?_)
  refine pT 2 31 (bt 15 7) (k := ?_)
  refine pT 3 32 (bt 15 15) (k := ?_)
  refine pT 4 33 (bt 15 31) (k := ?_)
  refine pT 5 34 (bt 15 63) (k := ?_)
  refine pT 6 35 (bt 15 127) (k := ?_)
  refine pT 7 36 (bt 15 255) (k := ?_)
  refine pT 8 37 (bt 15 511) (k := ?_)
  refine tT3 9 38 (bt 15 1023) hHeld (k := ?_)
  refine tT3 11 40 (bt 15 3071) hHeld (k := ?_)
  refine one_ (i := 10) (N := some 39) (bt 15 4095) rfl rfl (one_of HT_.out (by kernel_rfl)) (by decide) (fun K hK => ?_)
  refine goes_ Tryd.func16 (by kernel_rfl) rfl #[.agg #[.int .i64 a0_0, .slice A0_1 l0_1.length c0_1, .slice A0_2 l0_2.length c0_2]] (by rfl) rfl rfl TM ?_
  with_reducible refine (heard_Check.calls a0_0 _ _ l0_1 _ _ l0_2 t345 _ ?side1 ?side2 ?side3 ?side4 ?side5 A19.out).mono ?_
  (case side1 => exact TC HR0_1.out)
  (case side2 => exact HC0_1.out)
  (case side3 => exact TC HR0_2.out)
  (case side4 => exact HC0_2.out)
  (case side5 => exact Glob.fr HG.out (Fr.of_below (TB2 GE339.out GE340.out)))
  rintro e w22 ⟨rfl, hb⟩
  refine ⟨_, rfl, ?_⟩
  have n0_ := aS (blk_below (g := gb339) (o := .cells #[.int .i64 a0_0, .slice A0_1 l0_1.length c0_1, .slice A0_2 l0_2.length c0_2] 27 (0, 0)) (TK BK339.out) hb)
  have n1_ := aS (blk_below (g := gb340) (o := .cells #[.slice A2_0 l2_0.length c2_0, .slice A2_1 l2_1.length c2_1, .int .i64 a2_2, .int .i64 a2_3] 30 (0, 0)) (TK BK340.out) hb)
  have n2_ := aS (below_step (TB2 GE339.out GE340.out) hb)
  clear BK339
  clear BK340
  clear HB
  have BK339 := n0_
  have BK340 := n1_
  have HB := n2_
  clear n0_ n1_ n2_
  (try clear hb)
  (try clear hb2)
  (try clear hk)
  (try clear hi)
  refine hK.out _ _ ⟨czz BK339.out 0, czz BK339.out 1, czz BK339.out 2⟩ (fun hHeld => ?_)
  clear hK K
  refine norm_ (a' := ?_) ?_ ?_
  rotate_left
  ·show Act.put _ (some 39) _ = _
   simp only [Act.put, lA, lZ, lS, i64_w, i32_w]
   rfl
  refine one_ (i := 12) (N := some 41) (bt 15 8191) rfl rfl (one_of HT_.out (by kernel_rfl)) (by decide) (fun K hK => ?_)
  refine goes_ Tryd.func17 (by kernel_rfl) rfl #[.agg #[.int .i64 a0_0, .slice A0_1 l0_1.length c0_1, .slice A0_2 l0_2.length c0_2]] (by rfl) rfl rfl TM ?_
  with_reducible refine (saronref09_Check.calls k a0_0 _ _ l0_1 _ _ l0_2 t346 _ ?side1 ?side2 ?side3 ?side4 A20.out).mono ?_
  (case side1 => exact TC HR0_1.out)
  (case side2 => exact HC0_1.out)
  (case side3 => exact TC HR0_2.out)
  (case side4 => exact HC0_2.out)
  rintro e w23 ⟨rfl, hb⟩
  refine ⟨_, rfl, ?_⟩
  have n0_ := aS (blk_below (g := gb339) (o := .cells #[.int .i64 a0_0, .slice A0_1 l0_1.length c0_1, .slice A0_2 l0_2.length c0_2] 27 (0, 0)) (TK BK339.out) hb)
  have n1_ := aS (blk_below (g := gb340) (o := .cells #[.slice A2_0 l2_0.length c2_0, .slice A2_1 l2_1.length c2_1, .int .i64 a2_2, .int .i64 a2_3] 30 (0, 0)) (TK BK340.out) hb)
  have n2_ := aS (below_step (TB2 GE339.out GE340.out) hb)
  clear BK339
  clear BK340
  clear HB
  have BK339 := n0_
  have BK340 := n1_
  have HB := n2_
  clear n0_ n1_ n2_
  (try clear hb)
  (try clear hb2)
  (try clear hk)
  (try clear hi)
  refine hK.out _ _ ⟨czz BK339.out 0, czz BK339.out 1, czz BK339.out 2⟩ (fun hHeld => ?_)
  clear hK K
  refine norm_ (a' := ?_) ?_ ?_
  rotate_left
  ·show Act.put _ (some 41) _ = _
   simp only [Act.put, lA, lZ, lS, i64_w, i32_w]
   rfl
  refine pT 13 42 (bt 15 16383) (k := ?_)
  refine pT 14 43 (bt 15 32767) (k := ?_)
  refine done_ (done_of HT_.out (by kernel_rfl)) ?_
  try go_wp2
  go_meet
  case rel => exact ⟨_, ((t345 != t346)), TT, H', ⟨by first | omega | exact Nat.le_refl _⟩, ⟨TK BK339.out⟩, ⟨TK BK340.out⟩, ⟨TB2 GE339.out GE340.out⟩⟩
 case rest => as_aux_lemma =>
  clear HC6
  try clear c1
  try clear c2
  try clear p2
  try clear c3
  try clear c9
  try clear c14
  try clear c15
  try clear c16
  try clear c16b0
  try clear c16b1
  try clear c16b2
  try clear c17
  try clear c18
  try clear c18b0
  try clear c18b1
  try clear hcz10_0 hcz10_1 hcz10_2
  try clear hcz11_0 hcz11_1 hcz11_2 hcz11_3
  try clear hcz13_0 hcz13_1 hcz13_2
  try clear hcz14_0 hcz14_1 hcz14_2 hcz14_3
  try clear hfz10_0 hfz10_1 hfz10_2
  try clear hfz11_0 hfz11_1 hfz11_2 hfz11_3
  try clear hfz13_0 hfz13_1 hfz13_2
  try clear hfz14_0 hfz14_1 hfz14_2 hfz14_3
  try clear BK339
  try clear BK340
  try clear HB
  obtain ⟨kq, x43_5, rfl, HA, HJ5, BK339, BK340, HB⟩ := hcut
  cases kq with
  | zero => exact absurd HA.out (by simp [sHF.j0])
  | succ kj5 =>
   have H := HA.out
   clear HA
   simp only [sHF.j0] at H
   by_cases c25 : x43_5 = true
   ·subst c25
    have H1 : (some false) = some r := by rw [if_pos rfl] at H; exact H
    clear H
    have H := H1
    clear H1
    obtain rfl := Option.some.inj H
    go_wp2
    go_ret
    exact ⟨TR, TB2 GE339.out GE340.out⟩
   replace c25 := Bool.eq_false_iff.mpr c25
   subst c25
   have H1 : ((heard_Pieces.f a0_0 l0_1 l0_2 l2_0 l2_1 a2_2 a2_3).bind fun bt347 => ((saronref09_Pieces.f a0_0 l0_1 l0_2 l2_0 l2_1 a2_2 a2_3).bind fun bt351 => ((saronref00_Equal.f kj5 bt347.1 bt351.1).bind fun t355 => (if t355 = true then (sHF.j1 kj5 a1 (bt347.2 != bt351.2) a0_0 l0_1 l0_2 l2_0 l2_1 a2_2 a2_3) else (sHF.j1 kj5 a1 true a0_0 l0_1 l0_2 l2_0 l2_1 a2_2 a2_3))))) = some r := by rw [if_neg (show ¬ (false = true) by decide)] at H; exact H
   clear H
   have H := H1
   clear H1
   replace H := Option.bind_eq_some_iff.mp H
   obtain ⟨⟨t347, t350⟩, A260, H⟩ := H
   replace H : ((saronref09_Pieces.f a0_0 l0_1 l0_2 l2_0 l2_1 a2_2 a2_3).bind fun bt351 => ((saronref00_Equal.f kj5 t347 bt351.1).bind fun t355 => (if t355 = true then (sHF.j1 kj5 a1 (t350 != bt351.2) a0_0 l0_1 l0_2 l2_0 l2_1 a2_2 a2_3) else (sHF.j1 kj5 a1 true a0_0 l0_1 l0_2 l2_0 l2_1 a2_2 a2_3)))) = some r := H
   have A26 := aS A260
   clear A260
   replace H := Option.bind_eq_some_iff.mp H
   obtain ⟨⟨t351, t354⟩, A270, H⟩ := H
   replace H : ((saronref00_Equal.f kj5 t347 t351).bind fun t355 => (if t355 = true then (sHF.j1 kj5 a1 (t350 != t354) a0_0 l0_1 l0_2 l2_0 l2_1 a2_2 a2_3) else (sHF.j1 kj5 a1 true a0_0 l0_1 l0_2 l2_0 l2_1 a2_2 a2_3))) = some r := H
   have A27 := aS A270
   clear A270
   have HC28 := aS H
   clear H
   have hnb29 := NB339_340.out
   have hnc29 := NB340_339.out
   have hcz30_0 := czz BK339.out 0
   have hcz30_1 := czz BK339.out 1
   have hcz30_2 := czz BK339.out 2
   have hfz30_0 := fz BK339.out 0
   have hfz30_1 := fz BK339.out 1
   have hfz30_2 := fz BK339.out 2
   have hcz31_0 := czz BK340.out 0
   have hcz31_1 := czz BK340.out 1
   have hcz31_2 := czz BK340.out 2
   have hcz31_3 := czz BK340.out 3
   have hfz31_0 := fz BK340.out 0
   have hfz31_1 := fz BK340.out 1
   have hfz31_2 := fz BK340.out 2
   have hfz31_3 := fz BK340.out 3
   go_upto_region 7 with (first | ((with_reducible refine gate_callee (f := 18) rfl ?_); refine goesL_ (some 47) rfl rfl Tryd.func18 (by kernel_rfl) rfl #[.agg #[.int .i64 a0_0, .slice A0_1 l0_1.length c0_1, .slice A0_2 l0_2.length c0_2], .agg #[.slice A2_0 l2_0.length c2_0, .slice A2_1 l2_1.length c2_1, .int .i64 a2_2, .int .i64 a2_3]] rfl TM ?_; (with_reducible refine (heard_Pieces.calls a0_0 _ _ l0_1 _ _ l0_2 _ _ l2_0 _ _ l2_1 a2_2 a2_3 t347 t350 _ ?side1 ?side2 ?side3 ?side4 ?side5 ?side6 ?side7 ?side8 ?side9 A26.out).mono ?_); (case side1 => exact TC HR0_1.out); (case side2 => exact HC0_1.out); (case side3 => exact TC HR0_2.out); (case side4 => exact HC0_2.out); (case side5 => exact TC HR2_0.out); (case side6 => exact HC2_0.out); (case side7 => exact TC HR2_1.out); (case side8 => exact HC2_1.out); (case side9 => exact Glob.fr HG.out (Fr.of_below (TB2 GE339.out GE340.out))); rintro e w32 ⟨v348, rfl, ho0, hb⟩; refine ⟨_, rfl, ?_⟩; have HO349 := aS (Kd.V_lower (Kd.V_mono (ok' := fun k_ => k_ ≠ gb339 ∧ k_ ≠ gb340) ho0 (fun k_ hk_ => ⟨(Kd.freshB (g := gb339) (o := .cells #[.int .i64 a0_0, .slice A0_1 l0_1.length c0_1, .slice A0_2 l0_2.length c0_2] 27 (0, 0)) (TK BK339.out) k_ hk_), (Kd.freshB (g := gb340) (o := .cells #[.slice A2_0 l2_0.length c2_0, .slice A2_1 l2_1.length c2_1, .int .i64 a2_2, .int .i64 a2_3] 30 (0, 0)) (TK BK340.out) k_ hk_)⟩)) (below_size (TB2 GE339.out GE340.out))); replace BK339 := aS (blk_below (g := gb339) (o := .cells #[.int .i64 a0_0, .slice A0_1 l0_1.length c0_1, .slice A0_2 l0_2.length c0_2] 27 (0, 0)) (TK BK339.out) hb); replace BK340 := aS (blk_below (g := gb340) (o := .cells #[.slice A2_0 l2_0.length c2_0, .slice A2_1 l2_1.length c2_1, .int .i64 a2_2, .int .i64 a2_3] 30 (0, 0)) (TK BK340.out) hb); replace HB := aS (below_step (TB2 GE339.out GE340.out) hb); (try clear hb); (try clear hb2); (try clear hk); (try clear hi); (try clear ho0); have hcz33_0 := czz BK339.out 0; have hcz33_1 := czz BK339.out 1; have hcz33_2 := czz BK339.out 2; have hfz33_0 := fz BK339.out 0; have hfz33_1 := fz BK339.out 1; have hfz33_2 := fz BK339.out 2; have hcz34_0 := czz BK340.out 0; have hcz34_1 := czz BK340.out 1; have hcz34_2 := czz BK340.out 2; have hcz34_3 := czz BK340.out 3; have hfz34_0 := fz BK340.out 0; have hfz34_1 := fz BK340.out 1; have hfz34_2 := fz BK340.out 2; have hfz34_3 := fz BK340.out 3) | ((with_reducible refine gate_callee (f := 19) rfl ?_); refine goesL_ (some 53) rfl rfl Tryd.func19 (by kernel_rfl) rfl #[.agg #[.int .i64 a0_0, .slice A0_1 l0_1.length c0_1, .slice A0_2 l0_2.length c0_2], .agg #[.slice A2_0 l2_0.length c2_0, .slice A2_1 l2_1.length c2_1, .int .i64 a2_2, .int .i64 a2_3]] rfl TM ?_; (with_reducible refine (saronref09_Pieces.calls a0_0 _ _ l0_1 _ _ l0_2 _ _ l2_0 _ _ l2_1 a2_2 a2_3 t351 t354 _ ?side1 ?side2 ?side3 ?side4 ?side5 ?side6 ?side7 ?side8 ?side9 A27.out).mono ?_); (case side1 => exact TC HR0_1.out); (case side2 => exact HC0_1.out); (case side3 => exact TC HR0_2.out); (case side4 => exact HC0_2.out); (case side5 => exact TC HR2_0.out); (case side6 => exact HC2_0.out); (case side7 => exact TC HR2_1.out); (case side8 => exact HC2_1.out); (case side9 => exact Glob.fr HG.out (Fr.of_below (TB2 GE339.out GE340.out))); rintro e w35 ⟨v352, rfl, ho0, hb⟩; refine ⟨_, rfl, ?_⟩; have HO353 := aS (Kd.R_lower ho0 (below_size (TB2 GE339.out GE340.out))); replace HO349 := aS (Kd.V_elder' (by (with_reducible repeat (first | apply Kd.V_alloc | apply Kd.V_drewN | apply Kd.V_drew)); exact HO349.out) (Kd.R_base ho0) hb); replace BK339 := aS (blk_below (g := gb339) (o := .cells #[.int .i64 a0_0, .slice A0_1 l0_1.length c0_1, .slice A0_2 l0_2.length c0_2] 27 (0, 0)) (TK BK339.out) hb); replace BK340 := aS (blk_below (g := gb340) (o := .cells #[.slice A2_0 l2_0.length c2_0, .slice A2_1 l2_1.length c2_1, .int .i64 a2_2, .int .i64 a2_3] 30 (0, 0)) (TK BK340.out) hb); replace HB := aS (below_step (TB2 GE339.out GE340.out) hb); (try clear hb); (try clear hb2); (try clear hk); (try clear hi); (try clear ho0)))
   (try simp only [Act.put, lA, lZ, lS])
   go_cut [64] (fun v64 wc => ∃ (kq : Nat) (x64_27 : Bool), v64 = .bool x64_27 ∧ Aside0 (sHF.j1 kq a1 x64_27 a0_0 l0_1 l0_2 l2_0 l2_1 a2_2 a2_3 = some r) ∧ Aside0 (kq ≤ kj5) ∧ Aside0 (wc.heap[gb339]? = some (.cells #[.int .i64 a0_0, (.slice A0_1 l0_1.length c0_1), (.slice A0_2 l0_2.length c0_2)] 27 (0, 0))) ∧ Aside0 (wc.heap[gb340]? = some (.cells #[(.slice A2_0 l2_0.length c2_0), (.slice A2_1 l2_1.length c2_1), .int .i64 a2_2, .int .i64 a2_3] 30 (0, 0))) ∧ Aside0 (Below w.heap.size w wc))
   case first => as_aux_lemma =>
    have H := HC28.out
    clear HC28
    replace H := Option.bind_eq_some_iff.mp H
    obtain ⟨t355, A360, H⟩ := H
    replace H : (if t355 = true then (sHF.j1 kj5 a1 (t350 != t354) a0_0 l0_1 l0_2 l2_0 l2_1 a2_2 a2_3) else (sHF.j1 kj5 a1 true a0_0 l0_1 l0_2 l2_0 l2_1 a2_2 a2_3)) = some r := H
    have A36 := aS A360
    clear A360
    by_cases c37 : t355 = true
    ·subst c37
     have H1 : (sHF.j1 kj5 a1 (t350 != t354) a0_0 l0_1 l0_2 l2_0 l2_1 a2_2 a2_3) = some r := by rw [if_pos rfl] at H; exact H
     clear H
     have H := H1
     clear H1
     have H' := aS H
     clear H
     obtain ⟨Ao38, co38, eo38⟩ := Kd.V_slice HO349.out
     subst eo38
     obtain ⟨Ao39, co39, eo39⟩ := Kd.R_slice HO353.out
     subst eo39
     go_wp2_with (first | ((with_reducible refine gate_callee (f := 20) rfl ?_); refine goesL_ (some 58) rfl rfl Tryd.func20 (by kernel_rfl) rfl #[.slice Ao38 t347.length co38, .slice Ao39 t351.length co39] rfl TM ?_; (with_reducible refine (saronref00_Equal.calls kj5 _ _ t347 _ _ t351 true _ ?side1 ?side2 ?side3 ?side4 A36.out).mono ?_); (case side1 => repeat (first | exact (Kd.V_reads' HO349.out).2.2 | (with_reducible refine Kd.C_alloc ?_ _) | (with_reducible refine Kd.C_drewN ?_ _) | (with_reducible refine Kd.C_drew ?_))); (case side2 => exact (Kd.V_reads' HO349.out).2.1); (case side3 => repeat (first | exact (Kd.R_reads' HO353.out).2.2 | (with_reducible refine Kd.C_alloc ?_ _) | (with_reducible refine Kd.C_drewN ?_ _) | (with_reducible refine Kd.C_drew ?_))); (case side4 => exact (Kd.R_reads' HO353.out).2.1); rintro e w' ⟨rfl, ⟨nd, rfl⟩⟩; refine ⟨_, rfl, ?_⟩))
     go_meet
     case rel => exact ⟨_, ((t350 != t354)), TT, H', ⟨by have := HJ5.out; first | omega | exact Nat.le_refl _⟩, ⟨TK BK339.out⟩, ⟨TK BK340.out⟩, ⟨TB2 GE339.out GE340.out⟩⟩
    replace c37 := Bool.eq_false_iff.mpr c37
    subst c37
    have H1 : (sHF.j1 kj5 a1 true a0_0 l0_1 l0_2 l2_0 l2_1 a2_2 a2_3) = some r := by rw [if_neg (show ¬ (false = true) by decide)] at H; exact H
    clear H
    have H := H1
    clear H1
    have H' := aS H
    clear H
    obtain ⟨Ao40, co40, eo40⟩ := Kd.V_slice HO349.out
    subst eo40
    obtain ⟨Ao41, co41, eo41⟩ := Kd.R_slice HO353.out
    subst eo41
    go_wp2_with (first | ((with_reducible refine gate_callee (f := 20) rfl ?_); refine goesL_ (some 58) rfl rfl Tryd.func20 (by kernel_rfl) rfl #[.slice Ao40 t347.length co40, .slice Ao41 t351.length co41] rfl TM ?_; (with_reducible refine (saronref00_Equal.calls kj5 _ _ t347 _ _ t351 false _ ?side1 ?side2 ?side3 ?side4 A36.out).mono ?_); (case side1 => repeat (first | exact (Kd.V_reads' HO349.out).2.2 | (with_reducible refine Kd.C_alloc ?_ _) | (with_reducible refine Kd.C_drewN ?_ _) | (with_reducible refine Kd.C_drew ?_))); (case side2 => exact (Kd.V_reads' HO349.out).2.1); (case side3 => repeat (first | exact (Kd.R_reads' HO353.out).2.2 | (with_reducible refine Kd.C_alloc ?_ _) | (with_reducible refine Kd.C_drewN ?_ _) | (with_reducible refine Kd.C_drew ?_))); (case side4 => exact (Kd.R_reads' HO353.out).2.1); rintro e w' ⟨rfl, ⟨nd, rfl⟩⟩; refine ⟨_, rfl, ?_⟩))
    go_meet
    case rel => exact ⟨_, (true), TT, H', ⟨by have := HJ5.out; first | omega | exact Nat.le_refl _⟩, ⟨TK BK339.out⟩, ⟨TK BK340.out⟩, ⟨TB2 GE339.out GE340.out⟩⟩
   case rest => as_aux_lemma =>
    clear HC28
    try clear c1
    try clear c2
    try clear p2
    try clear c3
    try clear c9
    try clear c14
    try clear c15
    try clear c16
    try clear c16b0
    try clear c16b1
    try clear c16b2
    try clear c17
    try clear c18
    try clear c18b0
    try clear c18b1
    try clear c19
    try clear c20
    try clear c25
    try clear c29
    try clear c37
    try clear hcz10_0 hcz10_1 hcz10_2
    try clear hcz11_0 hcz11_1 hcz11_2 hcz11_3
    try clear hcz13_0 hcz13_1 hcz13_2
    try clear hcz14_0 hcz14_1 hcz14_2 hcz14_3
    try clear hcz30_0 hcz30_1 hcz30_2
    try clear hcz31_0 hcz31_1 hcz31_2 hcz31_3
    try clear hcz33_0 hcz33_1 hcz33_2
    try clear hcz34_0 hcz34_1 hcz34_2 hcz34_3
    try clear hfz10_0 hfz10_1 hfz10_2
    try clear hfz11_0 hfz11_1 hfz11_2 hfz11_3
    try clear hfz13_0 hfz13_1 hfz13_2
    try clear hfz14_0 hfz14_1 hfz14_2 hfz14_3
    try clear hfz30_0 hfz30_1 hfz30_2
    try clear hfz31_0 hfz31_1 hfz31_2 hfz31_3
    try clear hfz33_0 hfz33_1 hfz33_2
    try clear hfz34_0 hfz34_1 hfz34_2 hfz34_3
    try clear p2
    try clear BK339
    try clear BK340
    try clear HB
    obtain ⟨kq, x64_27, rfl, HA, HJ27, BK339, BK340, HB⟩ := hcut
    cases kq with
    | zero => exact absurd HA.out (by simp [sHF.j1])
    | succ kj27 =>
     have H := HA.out
     clear HA
     simp only [sHF.j1] at H
     by_cases c42 : x64_27 = true
     ·subst c42
      have H1 : (some false) = some r := by rw [if_pos rfl] at H; exact H
      clear H
      have H := H1
      clear H1
      obtain rfl := Option.some.inj H
      go_wp2
      go_ret
      exact ⟨TR, TB2 GE339.out GE340.out⟩
     replace c42 := Bool.eq_false_iff.mpr c42
     subst c42
     have H1 : ((heard_Begins.f a0_0 l0_1 l0_2 a1 l2_0 l2_1 a2_2 a2_3).bind fun bt356 => ((saronref09_Begins.f a0_0 l0_1 l0_2 a1 l2_0 l2_1 a2_2 a2_3).bind fun bt360 => ((saronref00_Equal.f kj27 bt356.1 bt360.1).bind fun t364 => (if t364 = true then (sHF.j2 kj27 a1 (bt356.2 != bt360.2) a0_0 l0_1 l0_2 l2_0 l2_1 a2_2 a2_3) else (sHF.j2 kj27 a1 true a0_0 l0_1 l0_2 l2_0 l2_1 a2_2 a2_3))))) = some r := by rw [if_neg (show ¬ (false = true) by decide)] at H; exact H
     clear H
     have H := H1
     clear H1
     replace H := Option.bind_eq_some_iff.mp H
     obtain ⟨⟨t356, t359⟩, A430, H⟩ := H
     replace H : ((saronref09_Begins.f a0_0 l0_1 l0_2 a1 l2_0 l2_1 a2_2 a2_3).bind fun bt360 => ((saronref00_Equal.f kj27 t356 bt360.1).bind fun t364 => (if t364 = true then (sHF.j2 kj27 a1 (t359 != bt360.2) a0_0 l0_1 l0_2 l2_0 l2_1 a2_2 a2_3) else (sHF.j2 kj27 a1 true a0_0 l0_1 l0_2 l2_0 l2_1 a2_2 a2_3)))) = some r := H
     have A43 := aS A430
     clear A430
     replace H := Option.bind_eq_some_iff.mp H
     obtain ⟨⟨t360, t363⟩, A440, H⟩ := H
     replace H : ((saronref00_Equal.f kj27 t356 t360).bind fun t364 => (if t364 = true then (sHF.j2 kj27 a1 (t359 != t363) a0_0 l0_1 l0_2 l2_0 l2_1 a2_2 a2_3) else (sHF.j2 kj27 a1 true a0_0 l0_1 l0_2 l2_0 l2_1 a2_2 a2_3))) = some r := H
     have A44 := aS A440
     clear A440
     have HC45 := aS H
     clear H
     have hnb46 := NB339_340.out
     have hnc46 := NB340_339.out
     have hcz47_0 := czz BK339.out 0
     have hcz47_1 := czz BK339.out 1
     have hcz47_2 := czz BK339.out 2
     have hfz47_0 := fz BK339.out 0
     have hfz47_1 := fz BK339.out 1
     have hfz47_2 := fz BK339.out 2
     have hcz48_0 := czz BK340.out 0
     have hcz48_1 := czz BK340.out 1
     have hcz48_2 := czz BK340.out 2
     have hcz48_3 := czz BK340.out 3
     have hfz48_0 := fz BK340.out 0
     have hfz48_1 := fz BK340.out 1
     have hfz48_2 := fz BK340.out 2
     have hfz48_3 := fz BK340.out 3
     go_upto_region 11 with (first | ((with_reducible refine gate_callee (f := 21) rfl ?_); refine goesL_ (some 69) rfl rfl Tryd.func21 (by kernel_rfl) rfl #[.agg #[.int .i64 a0_0, .slice A0_1 l0_1.length c0_1, .slice A0_2 l0_2.length c0_2], .int .i64 a1, .agg #[.slice A2_0 l2_0.length c2_0, .slice A2_1 l2_1.length c2_1, .int .i64 a2_2, .int .i64 a2_3]] rfl TM ?_; (with_reducible refine (heard_Begins.calls a0_0 _ _ l0_1 _ _ l0_2 a1 _ _ l2_0 _ _ l2_1 a2_2 a2_3 t356 t359 _ ?side1 ?side2 ?side3 ?side4 ?side5 ?side6 ?side7 ?side8 ?side9 A43.out).mono ?_); (case side1 => exact TC HR0_1.out); (case side2 => exact HC0_1.out); (case side3 => exact TC HR0_2.out); (case side4 => exact HC0_2.out); (case side5 => exact TC HR2_0.out); (case side6 => exact HC2_0.out); (case side7 => exact TC HR2_1.out); (case side8 => exact HC2_1.out); (case side9 => exact Glob.fr HG.out (Fr.of_below (TB2 GE339.out GE340.out))); rintro e w49 ⟨v357, rfl, ho0, hb⟩; refine ⟨_, rfl, ?_⟩; have HO358 := aS (Kd.V_lower (Kd.V_mono (ok' := fun k_ => k_ ≠ gb339 ∧ k_ ≠ gb340) ho0 (fun k_ hk_ => ⟨(Kd.freshB (g := gb339) (o := .cells #[.int .i64 a0_0, .slice A0_1 l0_1.length c0_1, .slice A0_2 l0_2.length c0_2] 27 (0, 0)) (TK BK339.out) k_ hk_), (Kd.freshB (g := gb340) (o := .cells #[.slice A2_0 l2_0.length c2_0, .slice A2_1 l2_1.length c2_1, .int .i64 a2_2, .int .i64 a2_3] 30 (0, 0)) (TK BK340.out) k_ hk_)⟩)) (below_size (TB2 GE339.out GE340.out))); replace BK339 := aS (blk_below (g := gb339) (o := .cells #[.int .i64 a0_0, .slice A0_1 l0_1.length c0_1, .slice A0_2 l0_2.length c0_2] 27 (0, 0)) (TK BK339.out) hb); replace BK340 := aS (blk_below (g := gb340) (o := .cells #[.slice A2_0 l2_0.length c2_0, .slice A2_1 l2_1.length c2_1, .int .i64 a2_2, .int .i64 a2_3] 30 (0, 0)) (TK BK340.out) hb); replace HB := aS (below_step (TB2 GE339.out GE340.out) hb); (try clear hb); (try clear hb2); (try clear hk); (try clear hi); (try clear ho0); have hcz50_0 := czz BK339.out 0; have hcz50_1 := czz BK339.out 1; have hcz50_2 := czz BK339.out 2; have hfz50_0 := fz BK339.out 0; have hfz50_1 := fz BK339.out 1; have hfz50_2 := fz BK339.out 2; have hcz51_0 := czz BK340.out 0; have hcz51_1 := czz BK340.out 1; have hcz51_2 := czz BK340.out 2; have hcz51_3 := czz BK340.out 3; have hfz51_0 := fz BK340.out 0; have hfz51_1 := fz BK340.out 1; have hfz51_2 := fz BK340.out 2; have hfz51_3 := fz BK340.out 3) | ((with_reducible refine gate_callee (f := 22) rfl ?_); refine goesL_ (some 76) rfl rfl Tryd.func22 (by kernel_rfl) rfl #[.agg #[.int .i64 a0_0, .slice A0_1 l0_1.length c0_1, .slice A0_2 l0_2.length c0_2], .int .i64 a1, .agg #[.slice A2_0 l2_0.length c2_0, .slice A2_1 l2_1.length c2_1, .int .i64 a2_2, .int .i64 a2_3]] rfl TM ?_; (with_reducible refine (saronref09_Begins.calls a0_0 _ _ l0_1 _ _ l0_2 a1 _ _ l2_0 _ _ l2_1 a2_2 a2_3 t360 t363 _ ?side1 ?side2 ?side3 ?side4 ?side5 ?side6 ?side7 ?side8 ?side9 A44.out).mono ?_); (case side1 => exact TC HR0_1.out); (case side2 => exact HC0_1.out); (case side3 => exact TC HR0_2.out); (case side4 => exact HC0_2.out); (case side5 => exact TC HR2_0.out); (case side6 => exact HC2_0.out); (case side7 => exact TC HR2_1.out); (case side8 => exact HC2_1.out); (case side9 => exact Glob.fr HG.out (Fr.of_below (TB2 GE339.out GE340.out))); rintro e w52 ⟨v361, rfl, ho0, hb⟩; refine ⟨_, rfl, ?_⟩; have HO362 := aS (Kd.R_lower ho0 (below_size (TB2 GE339.out GE340.out))); replace HO358 := aS (Kd.V_elder' (by (with_reducible repeat (first | apply Kd.V_alloc | apply Kd.V_drewN | apply Kd.V_drew)); exact HO358.out) (Kd.R_base ho0) hb); replace BK339 := aS (blk_below (g := gb339) (o := .cells #[.int .i64 a0_0, .slice A0_1 l0_1.length c0_1, .slice A0_2 l0_2.length c0_2] 27 (0, 0)) (TK BK339.out) hb); replace BK340 := aS (blk_below (g := gb340) (o := .cells #[.slice A2_0 l2_0.length c2_0, .slice A2_1 l2_1.length c2_1, .int .i64 a2_2, .int .i64 a2_3] 30 (0, 0)) (TK BK340.out) hb); replace HB := aS (below_step (TB2 GE339.out GE340.out) hb); (try clear hb); (try clear hb2); (try clear hk); (try clear hi); (try clear ho0)))
     (try simp only [Act.put, lA, lZ, lS])
     go_cut [87] (fun v87 wc => ∃ (kq : Nat) (x87_44 : Bool), v87 = .bool x87_44 ∧ Aside0 (sHF.j2 kq a1 x87_44 a0_0 l0_1 l0_2 l2_0 l2_1 a2_2 a2_3 = some r) ∧ Aside0 (kq ≤ kj27) ∧ Aside0 (wc.heap[gb339]? = some (.cells #[.int .i64 a0_0, (.slice A0_1 l0_1.length c0_1), (.slice A0_2 l0_2.length c0_2)] 27 (0, 0))) ∧ Aside0 (wc.heap[gb340]? = some (.cells #[(.slice A2_0 l2_0.length c2_0), (.slice A2_1 l2_1.length c2_1), .int .i64 a2_2, .int .i64 a2_3] 30 (0, 0))) ∧ Aside0 (Below w.heap.size w wc))
     case first => as_aux_lemma =>
      have H := HC45.out
      clear HC45
      replace H := Option.bind_eq_some_iff.mp H
      obtain ⟨t364, A530, H⟩ := H
      replace H : (if t364 = true then (sHF.j2 kj27 a1 (t359 != t363) a0_0 l0_1 l0_2 l2_0 l2_1 a2_2 a2_3) else (sHF.j2 kj27 a1 true a0_0 l0_1 l0_2 l2_0 l2_1 a2_2 a2_3)) = some r := H
      have A53 := aS A530
      clear A530
      by_cases c54 : t364 = true
      ·subst c54
       have H1 : (sHF.j2 kj27 a1 (t359 != t363) a0_0 l0_1 l0_2 l2_0 l2_1 a2_2 a2_3) = some r := by rw [if_pos rfl] at H; exact H
       clear H
       have H := H1
       clear H1
       have H' := aS H
       clear H
       obtain ⟨Ao55, co55, eo55⟩ := Kd.V_slice HO358.out
       subst eo55
       obtain ⟨Ao56, co56, eo56⟩ := Kd.R_slice HO362.out
       subst eo56
       go_wp2_with (first | ((with_reducible refine gate_callee (f := 20) rfl ?_); refine goesL_ (some 81) rfl rfl Tryd.func20 (by kernel_rfl) rfl #[.slice Ao55 t356.length co55, .slice Ao56 t360.length co56] rfl TM ?_; (with_reducible refine (saronref00_Equal.calls kj27 _ _ t356 _ _ t360 true _ ?side1 ?side2 ?side3 ?side4 A53.out).mono ?_); (case side1 => repeat (first | exact (Kd.V_reads' HO358.out).2.2 | (with_reducible refine Kd.C_alloc ?_ _) | (with_reducible refine Kd.C_drewN ?_ _) | (with_reducible refine Kd.C_drew ?_))); (case side2 => exact (Kd.V_reads' HO358.out).2.1); (case side3 => repeat (first | exact (Kd.R_reads' HO362.out).2.2 | (with_reducible refine Kd.C_alloc ?_ _) | (with_reducible refine Kd.C_drewN ?_ _) | (with_reducible refine Kd.C_drew ?_))); (case side4 => exact (Kd.R_reads' HO362.out).2.1); rintro e w' ⟨rfl, ⟨nd, rfl⟩⟩; refine ⟨_, rfl, ?_⟩))
       go_meet
       case rel => exact ⟨_, ((t359 != t363)), TT, H', ⟨by have := HJ5.out; have := HJ27.out; first | omega | exact Nat.le_refl _⟩, ⟨TK BK339.out⟩, ⟨TK BK340.out⟩, ⟨TB2 GE339.out GE340.out⟩⟩
      replace c54 := Bool.eq_false_iff.mpr c54
      subst c54
      have H1 : (sHF.j2 kj27 a1 true a0_0 l0_1 l0_2 l2_0 l2_1 a2_2 a2_3) = some r := by rw [if_neg (show ¬ (false = true) by decide)] at H; exact H
      clear H
      have H := H1
      clear H1
      have H' := aS H
      clear H
      obtain ⟨Ao57, co57, eo57⟩ := Kd.V_slice HO358.out
      subst eo57
      obtain ⟨Ao58, co58, eo58⟩ := Kd.R_slice HO362.out
      subst eo58
      go_wp2_with (first | ((with_reducible refine gate_callee (f := 20) rfl ?_); refine goesL_ (some 81) rfl rfl Tryd.func20 (by kernel_rfl) rfl #[.slice Ao57 t356.length co57, .slice Ao58 t360.length co58] rfl TM ?_; (with_reducible refine (saronref00_Equal.calls kj27 _ _ t356 _ _ t360 false _ ?side1 ?side2 ?side3 ?side4 A53.out).mono ?_); (case side1 => repeat (first | exact (Kd.V_reads' HO358.out).2.2 | (with_reducible refine Kd.C_alloc ?_ _) | (with_reducible refine Kd.C_drewN ?_ _) | (with_reducible refine Kd.C_drew ?_))); (case side2 => exact (Kd.V_reads' HO358.out).2.1); (case side3 => repeat (first | exact (Kd.R_reads' HO362.out).2.2 | (with_reducible refine Kd.C_alloc ?_ _) | (with_reducible refine Kd.C_drewN ?_ _) | (with_reducible refine Kd.C_drew ?_))); (case side4 => exact (Kd.R_reads' HO362.out).2.1); rintro e w' ⟨rfl, ⟨nd, rfl⟩⟩; refine ⟨_, rfl, ?_⟩))
      go_meet
      case rel => exact ⟨_, (true), TT, H', ⟨by have := HJ5.out; have := HJ27.out; first | omega | exact Nat.le_refl _⟩, ⟨TK BK339.out⟩, ⟨TK BK340.out⟩, ⟨TB2 GE339.out GE340.out⟩⟩
     case rest => as_aux_lemma =>
      clear HC45
      try clear c1
      try clear c2
      try clear p2
      try clear c3
      try clear c4
      try clear c5
      try clear c9
      try clear c14
      try clear c15
      try clear c16
      try clear c16b0
      try clear c16b1
      try clear c16b2
      try clear c17
      try clear c18
      try clear c18b0
      try clear c18b1
      try clear c19
      try clear c20
      try clear c21
      try clear c22
      try clear c25
      try clear c29
      try clear c37
      try clear c42
      try clear c46
      try clear c54
      try clear hcz10_0 hcz10_1 hcz10_2
      try clear hcz11_0 hcz11_1 hcz11_2 hcz11_3
      try clear hcz13_0 hcz13_1 hcz13_2
      try clear hcz14_0 hcz14_1 hcz14_2 hcz14_3
      try clear hcz30_0 hcz30_1 hcz30_2
      try clear hcz31_0 hcz31_1 hcz31_2 hcz31_3
      try clear hcz33_0 hcz33_1 hcz33_2
      try clear hcz34_0 hcz34_1 hcz34_2 hcz34_3
      try clear hcz47_0 hcz47_1 hcz47_2
      try clear hcz48_0 hcz48_1 hcz48_2 hcz48_3
      try clear hcz50_0 hcz50_1 hcz50_2
      try clear hcz51_0 hcz51_1 hcz51_2 hcz51_3
      try clear hfz10_0 hfz10_1 hfz10_2
      try clear hfz11_0 hfz11_1 hfz11_2 hfz11_3
      try clear hfz13_0 hfz13_1 hfz13_2
      try clear hfz14_0 hfz14_1 hfz14_2 hfz14_3
      try clear hfz30_0 hfz30_1 hfz30_2
      try clear hfz31_0 hfz31_1 hfz31_2 hfz31_3
      try clear hfz33_0 hfz33_1 hfz33_2
      try clear hfz34_0 hfz34_1 hfz34_2 hfz34_3
      try clear hfz47_0 hfz47_1 hfz47_2
      try clear hfz48_0 hfz48_1 hfz48_2 hfz48_3
      try clear hfz50_0 hfz50_1 hfz50_2
      try clear hfz51_0 hfz51_1 hfz51_2 hfz51_3
      try clear p2
      try clear BK339
      try clear BK340
      try clear HB
      obtain ⟨kq, x87_44, rfl, HA, HJ44, BK339, BK340, HB⟩ := hcut
      cases kq with
      | zero => exact absurd HA.out (by simp [sHF.j2])
      | succ kj44 =>
       have H := HA.out
       clear HA
       simp only [sHF.j2] at H
       by_cases c59 : x87_44 = true
       ·subst c59
        have H1 : (some false) = some r := by rw [if_pos rfl] at H; exact H
        clear H
        have H := H1
        clear H1
        obtain rfl := Option.some.inj H
        go_wp2
        go_ret
        exact ⟨TR, TB2 GE339.out GE340.out⟩
       replace c59 := Bool.eq_false_iff.mpr c59
       subst c59
       have H1 : ((heard_Least.f a0_0 l0_1 l0_2 a1 l2_0 l2_1 a2_2 a2_3).bind fun bt365 => ((saronref09_Least.f a0_0 l0_1 l0_2 a1 l2_0 l2_1 a2_2 a2_3).bind fun bt367 => (if bt365.1 = bt367.1 then (if bt365.2 = bt367.2 then ((saronlaw09_listened.f).bind fun t369 => (some t369)) else (some false)) else (some false)))) = some r := by rw [if_neg (show ¬ (false = true) by decide)] at H; exact H
       clear H
       have H := H1
       clear H1
       replace H := Option.bind_eq_some_iff.mp H
       obtain ⟨⟨t365, t366⟩, A600, H⟩ := H
       replace H : ((saronref09_Least.f a0_0 l0_1 l0_2 a1 l2_0 l2_1 a2_2 a2_3).bind fun bt367 => (if t365 = bt367.1 then (if t366 = bt367.2 then ((saronlaw09_listened.f).bind fun t369 => (some t369)) else (some false)) else (some false))) = some r := H
       have A60 := aS A600
       clear A600
       replace H := Option.bind_eq_some_iff.mp H
       obtain ⟨⟨t367, t368⟩, A610, H⟩ := H
       replace H : (if t365 = t367 then (if t366 = t368 then ((saronlaw09_listened.f).bind fun t369 => (some t369)) else (some false)) else (some false)) = some r := H
       have A61 := aS A610
       clear A610
       by_cases c62 : t365 = t367
       rotate_left
       ·rw [if_neg c62] at H
        have c62b0 : (t365 == t367) = false := beq_eq_false_iff_ne.mpr c62
        have c62b1 : (t365 != t367) = true := bne_iff_ne.mpr c62
        obtain rfl := Option.some.inj H
        have hnb80 := NB339_340.out
        have hnc80 := NB340_339.out
        have hcz81_0 := czz BK339.out 0
        have hcz81_1 := czz BK339.out 1
        have hcz81_2 := czz BK339.out 2
        have hfz81_0 := fz BK339.out 0
        have hfz81_1 := fz BK339.out 1
        have hfz81_2 := fz BK339.out 2
        have hcz82_0 := czz BK340.out 0
        have hcz82_1 := czz BK340.out 1
        have hcz82_2 := czz BK340.out 2
        have hcz82_3 := czz BK340.out 3
        have hfz82_0 := fz BK340.out 0
        have hfz82_1 := fz BK340.out 1
        have hfz82_2 := fz BK340.out 2
        have hfz82_3 := fz BK340.out 3
        go_wp2_with (first | ((with_reducible refine gate_callee (f := 23) rfl ?_); refine goesL_ (some 92) rfl rfl Tryd.func23 (by kernel_rfl) rfl #[.agg #[.int .i64 a0_0, .slice A0_1 l0_1.length c0_1, .slice A0_2 l0_2.length c0_2], .int .i64 a1, .agg #[.slice A2_0 l2_0.length c2_0, .slice A2_1 l2_1.length c2_1, .int .i64 a2_2, .int .i64 a2_3]] rfl TM ?_; (with_reducible refine (heard_Least.calls a0_0 _ _ l0_1 _ _ l0_2 a1 _ _ l2_0 _ _ l2_1 a2_2 a2_3 t365 t366 _ ?side1 ?side2 ?side3 ?side4 ?side5 ?side6 ?side7 ?side8 ?side9 A60.out).mono ?_); (case side1 => exact TC HR0_1.out); (case side2 => exact HC0_1.out); (case side3 => exact TC HR0_2.out); (case side4 => exact HC0_2.out); (case side5 => exact TC HR2_0.out); (case side6 => exact HC2_0.out); (case side7 => exact TC HR2_1.out); (case side8 => exact HC2_1.out); (case side9 => exact Glob.fr HG.out (Fr.of_below (TB2 GE339.out GE340.out))); rintro e w83 ⟨rfl, hb⟩; refine ⟨_, rfl, ?_⟩; replace BK339 := aS (blk_below (g := gb339) (o := .cells #[.int .i64 a0_0, .slice A0_1 l0_1.length c0_1, .slice A0_2 l0_2.length c0_2] 27 (0, 0)) (TK BK339.out) hb); replace BK340 := aS (blk_below (g := gb340) (o := .cells #[.slice A2_0 l2_0.length c2_0, .slice A2_1 l2_1.length c2_1, .int .i64 a2_2, .int .i64 a2_3] 30 (0, 0)) (TK BK340.out) hb); replace HB := aS (below_step (TB2 GE339.out GE340.out) hb); (try clear hb); (try clear hb2); (try clear hk); (try clear hi); have hcz84_0 := czz BK339.out 0; have hcz84_1 := czz BK339.out 1; have hcz84_2 := czz BK339.out 2; have hfz84_0 := fz BK339.out 0; have hfz84_1 := fz BK339.out 1; have hfz84_2 := fz BK339.out 2; have hcz85_0 := czz BK340.out 0; have hcz85_1 := czz BK340.out 1; have hcz85_2 := czz BK340.out 2; have hcz85_3 := czz BK340.out 3; have hfz85_0 := fz BK340.out 0; have hfz85_1 := fz BK340.out 1; have hfz85_2 := fz BK340.out 2; have hfz85_3 := fz BK340.out 3) | ((with_reducible refine gate_callee (f := 24) rfl ?_); refine goesL_ (some 99) rfl rfl Tryd.func24 (by kernel_rfl) rfl #[.agg #[.int .i64 a0_0, .slice A0_1 l0_1.length c0_1, .slice A0_2 l0_2.length c0_2], .int .i64 a1, .agg #[.slice A2_0 l2_0.length c2_0, .slice A2_1 l2_1.length c2_1, .int .i64 a2_2, .int .i64 a2_3]] rfl TM ?_; (with_reducible refine (saronref09_Least.calls a0_0 _ _ l0_1 _ _ l0_2 a1 _ _ l2_0 _ _ l2_1 a2_2 a2_3 t367 t368 _ ?side1 ?side2 ?side3 ?side4 ?side5 ?side6 ?side7 ?side8 ?side9 A61.out).mono ?_); (case side1 => exact TC HR0_1.out); (case side2 => exact HC0_1.out); (case side3 => exact TC HR0_2.out); (case side4 => exact HC0_2.out); (case side5 => exact TC HR2_0.out); (case side6 => exact HC2_0.out); (case side7 => exact TC HR2_1.out); (case side8 => exact HC2_1.out); (case side9 => exact Glob.fr HG.out (Fr.of_below (TB2 GE339.out GE340.out))); rintro e w86 ⟨rfl, hb⟩; refine ⟨_, rfl, ?_⟩; replace BK339 := aS (blk_below (g := gb339) (o := .cells #[.int .i64 a0_0, .slice A0_1 l0_1.length c0_1, .slice A0_2 l0_2.length c0_2] 27 (0, 0)) (TK BK339.out) hb); replace BK340 := aS (blk_below (g := gb340) (o := .cells #[.slice A2_0 l2_0.length c2_0, .slice A2_1 l2_1.length c2_1, .int .i64 a2_2, .int .i64 a2_3] 30 (0, 0)) (TK BK340.out) hb); replace HB := aS (below_step (TB2 GE339.out GE340.out) hb); (try clear hb); (try clear hb2); (try clear hk); (try clear hi)))
        go_ret
        exact ⟨TR, TB2 GE339.out GE340.out⟩
       rw [if_pos c62] at H
       have c62b0 : (t365 == t367) = true := beq_iff_eq.mpr c62
       have c62b1 : (t365 != t367) = false := bne_eq_false_iff_eq.mpr c62
       clear c62
       by_cases c63 : t366 = t368
       rotate_left
       ·rw [if_neg c63] at H
        have c63b0 : (t366 == t368) = false := beq_eq_false_iff_ne.mpr c63
        have c63b1 : (t366 != t368) = true := bne_iff_ne.mpr c63
        obtain rfl := Option.some.inj H
        have hnb73 := NB339_340.out
        have hnc73 := NB340_339.out
        have hcz74_0 := czz BK339.out 0
        have hcz74_1 := czz BK339.out 1
        have hcz74_2 := czz BK339.out 2
        have hfz74_0 := fz BK339.out 0
        have hfz74_1 := fz BK339.out 1
        have hfz74_2 := fz BK339.out 2
        have hcz75_0 := czz BK340.out 0
        have hcz75_1 := czz BK340.out 1
        have hcz75_2 := czz BK340.out 2
        have hcz75_3 := czz BK340.out 3
        have hfz75_0 := fz BK340.out 0
        have hfz75_1 := fz BK340.out 1
        have hfz75_2 := fz BK340.out 2
        have hfz75_3 := fz BK340.out 3
        go_wp2_with (first | ((with_reducible refine gate_callee (f := 23) rfl ?_); refine goesL_ (some 92) rfl rfl Tryd.func23 (by kernel_rfl) rfl #[.agg #[.int .i64 a0_0, .slice A0_1 l0_1.length c0_1, .slice A0_2 l0_2.length c0_2], .int .i64 a1, .agg #[.slice A2_0 l2_0.length c2_0, .slice A2_1 l2_1.length c2_1, .int .i64 a2_2, .int .i64 a2_3]] rfl TM ?_; (with_reducible refine (heard_Least.calls a0_0 _ _ l0_1 _ _ l0_2 a1 _ _ l2_0 _ _ l2_1 a2_2 a2_3 t365 t366 _ ?side1 ?side2 ?side3 ?side4 ?side5 ?side6 ?side7 ?side8 ?side9 A60.out).mono ?_); (case side1 => exact TC HR0_1.out); (case side2 => exact HC0_1.out); (case side3 => exact TC HR0_2.out); (case side4 => exact HC0_2.out); (case side5 => exact TC HR2_0.out); (case side6 => exact HC2_0.out); (case side7 => exact TC HR2_1.out); (case side8 => exact HC2_1.out); (case side9 => exact Glob.fr HG.out (Fr.of_below (TB2 GE339.out GE340.out))); rintro e w76 ⟨rfl, hb⟩; refine ⟨_, rfl, ?_⟩; replace BK339 := aS (blk_below (g := gb339) (o := .cells #[.int .i64 a0_0, .slice A0_1 l0_1.length c0_1, .slice A0_2 l0_2.length c0_2] 27 (0, 0)) (TK BK339.out) hb); replace BK340 := aS (blk_below (g := gb340) (o := .cells #[.slice A2_0 l2_0.length c2_0, .slice A2_1 l2_1.length c2_1, .int .i64 a2_2, .int .i64 a2_3] 30 (0, 0)) (TK BK340.out) hb); replace HB := aS (below_step (TB2 GE339.out GE340.out) hb); (try clear hb); (try clear hb2); (try clear hk); (try clear hi); have hcz77_0 := czz BK339.out 0; have hcz77_1 := czz BK339.out 1; have hcz77_2 := czz BK339.out 2; have hfz77_0 := fz BK339.out 0; have hfz77_1 := fz BK339.out 1; have hfz77_2 := fz BK339.out 2; have hcz78_0 := czz BK340.out 0; have hcz78_1 := czz BK340.out 1; have hcz78_2 := czz BK340.out 2; have hcz78_3 := czz BK340.out 3; have hfz78_0 := fz BK340.out 0; have hfz78_1 := fz BK340.out 1; have hfz78_2 := fz BK340.out 2; have hfz78_3 := fz BK340.out 3) | ((with_reducible refine gate_callee (f := 24) rfl ?_); refine goesL_ (some 99) rfl rfl Tryd.func24 (by kernel_rfl) rfl #[.agg #[.int .i64 a0_0, .slice A0_1 l0_1.length c0_1, .slice A0_2 l0_2.length c0_2], .int .i64 a1, .agg #[.slice A2_0 l2_0.length c2_0, .slice A2_1 l2_1.length c2_1, .int .i64 a2_2, .int .i64 a2_3]] rfl TM ?_; (with_reducible refine (saronref09_Least.calls a0_0 _ _ l0_1 _ _ l0_2 a1 _ _ l2_0 _ _ l2_1 a2_2 a2_3 t367 t368 _ ?side1 ?side2 ?side3 ?side4 ?side5 ?side6 ?side7 ?side8 ?side9 A61.out).mono ?_); (case side1 => exact TC HR0_1.out); (case side2 => exact HC0_1.out); (case side3 => exact TC HR0_2.out); (case side4 => exact HC0_2.out); (case side5 => exact TC HR2_0.out); (case side6 => exact HC2_0.out); (case side7 => exact TC HR2_1.out); (case side8 => exact HC2_1.out); (case side9 => exact Glob.fr HG.out (Fr.of_below (TB2 GE339.out GE340.out))); rintro e w79 ⟨rfl, hb⟩; refine ⟨_, rfl, ?_⟩; replace BK339 := aS (blk_below (g := gb339) (o := .cells #[.int .i64 a0_0, .slice A0_1 l0_1.length c0_1, .slice A0_2 l0_2.length c0_2] 27 (0, 0)) (TK BK339.out) hb); replace BK340 := aS (blk_below (g := gb340) (o := .cells #[.slice A2_0 l2_0.length c2_0, .slice A2_1 l2_1.length c2_1, .int .i64 a2_2, .int .i64 a2_3] 30 (0, 0)) (TK BK340.out) hb); replace HB := aS (below_step (TB2 GE339.out GE340.out) hb); (try clear hb); (try clear hb2); (try clear hk); (try clear hi)))
        go_ret
        exact ⟨TR, TB2 GE339.out GE340.out⟩
       rw [if_pos c63] at H
       have c63b0 : (t366 == t368) = true := beq_iff_eq.mpr c63
       have c63b1 : (t366 != t368) = false := bne_eq_false_iff_eq.mpr c63
       clear c63
       replace H := Option.bind_eq_some_iff.mp H
       obtain ⟨t369, A640, H⟩ := H
       replace H : (some t369) = some r := H
       have A64 := aS A640
       clear A640
       obtain rfl := Option.some.inj H
       have hnb65 := NB339_340.out
       have hnc65 := NB340_339.out
       have hcz66_0 := czz BK339.out 0
       have hcz66_1 := czz BK339.out 1
       have hcz66_2 := czz BK339.out 2
       have hfz66_0 := fz BK339.out 0
       have hfz66_1 := fz BK339.out 1
       have hfz66_2 := fz BK339.out 2
       have hcz67_0 := czz BK340.out 0
       have hcz67_1 := czz BK340.out 1
       have hcz67_2 := czz BK340.out 2
       have hcz67_3 := czz BK340.out 3
       have hfz67_0 := fz BK340.out 0
       have hfz67_1 := fz BK340.out 1
       have hfz67_2 := fz BK340.out 2
       have hfz67_3 := fz BK340.out 3
       go_wp2_with (first | ((with_reducible refine gate_callee (f := 23) rfl ?_); refine goesL_ (some 92) rfl rfl Tryd.func23 (by kernel_rfl) rfl #[.agg #[.int .i64 a0_0, .slice A0_1 l0_1.length c0_1, .slice A0_2 l0_2.length c0_2], .int .i64 a1, .agg #[.slice A2_0 l2_0.length c2_0, .slice A2_1 l2_1.length c2_1, .int .i64 a2_2, .int .i64 a2_3]] rfl TM ?_; (with_reducible refine (heard_Least.calls a0_0 _ _ l0_1 _ _ l0_2 a1 _ _ l2_0 _ _ l2_1 a2_2 a2_3 t365 t366 _ ?side1 ?side2 ?side3 ?side4 ?side5 ?side6 ?side7 ?side8 ?side9 A60.out).mono ?_); (case side1 => exact TC HR0_1.out); (case side2 => exact HC0_1.out); (case side3 => exact TC HR0_2.out); (case side4 => exact HC0_2.out); (case side5 => exact TC HR2_0.out); (case side6 => exact HC2_0.out); (case side7 => exact TC HR2_1.out); (case side8 => exact HC2_1.out); (case side9 => exact Glob.fr HG.out (Fr.of_below (TB2 GE339.out GE340.out))); rintro e w68 ⟨rfl, hb⟩; refine ⟨_, rfl, ?_⟩; replace BK339 := aS (blk_below (g := gb339) (o := .cells #[.int .i64 a0_0, .slice A0_1 l0_1.length c0_1, .slice A0_2 l0_2.length c0_2] 27 (0, 0)) (TK BK339.out) hb); replace BK340 := aS (blk_below (g := gb340) (o := .cells #[.slice A2_0 l2_0.length c2_0, .slice A2_1 l2_1.length c2_1, .int .i64 a2_2, .int .i64 a2_3] 30 (0, 0)) (TK BK340.out) hb); replace HB := aS (below_step (TB2 GE339.out GE340.out) hb); (try clear hb); (try clear hb2); (try clear hk); (try clear hi); have hcz69_0 := czz BK339.out 0; have hcz69_1 := czz BK339.out 1; have hcz69_2 := czz BK339.out 2; have hfz69_0 := fz BK339.out 0; have hfz69_1 := fz BK339.out 1; have hfz69_2 := fz BK339.out 2; have hcz70_0 := czz BK340.out 0; have hcz70_1 := czz BK340.out 1; have hcz70_2 := czz BK340.out 2; have hcz70_3 := czz BK340.out 3; have hfz70_0 := fz BK340.out 0; have hfz70_1 := fz BK340.out 1; have hfz70_2 := fz BK340.out 2; have hfz70_3 := fz BK340.out 3) | ((with_reducible refine gate_callee (f := 24) rfl ?_); refine goesL_ (some 99) rfl rfl Tryd.func24 (by kernel_rfl) rfl #[.agg #[.int .i64 a0_0, .slice A0_1 l0_1.length c0_1, .slice A0_2 l0_2.length c0_2], .int .i64 a1, .agg #[.slice A2_0 l2_0.length c2_0, .slice A2_1 l2_1.length c2_1, .int .i64 a2_2, .int .i64 a2_3]] rfl TM ?_; (with_reducible refine (saronref09_Least.calls a0_0 _ _ l0_1 _ _ l0_2 a1 _ _ l2_0 _ _ l2_1 a2_2 a2_3 t367 t368 _ ?side1 ?side2 ?side3 ?side4 ?side5 ?side6 ?side7 ?side8 ?side9 A61.out).mono ?_); (case side1 => exact TC HR0_1.out); (case side2 => exact HC0_1.out); (case side3 => exact TC HR0_2.out); (case side4 => exact HC0_2.out); (case side5 => exact TC HR2_0.out); (case side6 => exact HC2_0.out); (case side7 => exact TC HR2_1.out); (case side8 => exact HC2_1.out); (case side9 => exact Glob.fr HG.out (Fr.of_below (TB2 GE339.out GE340.out))); rintro e w71 ⟨rfl, hb⟩; refine ⟨_, rfl, ?_⟩; replace BK339 := aS (blk_below (g := gb339) (o := .cells #[.int .i64 a0_0, .slice A0_1 l0_1.length c0_1, .slice A0_2 l0_2.length c0_2] 27 (0, 0)) (TK BK339.out) hb); replace BK340 := aS (blk_below (g := gb340) (o := .cells #[.slice A2_0 l2_0.length c2_0, .slice A2_1 l2_1.length c2_1, .int .i64 a2_2, .int .i64 a2_3] 30 (0, 0)) (TK BK340.out) hb); replace HB := aS (below_step (TB2 GE339.out GE340.out) hb); (try clear hb); (try clear hb2); (try clear hk); (try clear hi)) | (go_at_call 25; (with_reducible refine (saronlaw09_listened.calls  t369 _ ?side1 A64.out).mono ?_); (case side1 => exact Glob.fr HG.out (Fr.of_below (TB2 GE339.out GE340.out))); rintro e w72 ⟨rfl, hb⟩; replace BK339 := aS (blk_below (g := gb339) (o := .cells #[.int .i64 a0_0, .slice A0_1 l0_1.length c0_1, .slice A0_2 l0_2.length c0_2] 27 (0, 0)) (TK BK339.out) hb); replace BK340 := aS (blk_below (g := gb340) (o := .cells #[.slice A2_0 l2_0.length c2_0, .slice A2_1 l2_1.length c2_1, .int .i64 a2_2, .int .i64 a2_3] 30 (0, 0)) (TK BK340.out) hb); replace HB := aS (below_step (TB2 GE339.out GE340.out) hb); (try clear hb); (try clear hb2); (try clear hk); (try clear hi)))
       go_ret
       exact ⟨TR, TB2 GE339.out GE340.out⟩
end Go.Proofs.YtfdenclnneigfaaDoor.PRaspKeys
