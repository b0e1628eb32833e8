import Derived.Test.YtfdenclnneigfaaDoorGN
import Derived.Test.YtfdenclnneigfaaDoorCS
import Derived.Test.YtfdenclnneigfaaDoorC1
import Derived.Test.YtfdenclnneigfaaDoorC2
import Derived.Test.YtfdenclnneigfaaDoorCT
import Derived.Test.YtfdenclnneigfaaDoorCFA
import Derived.Test.YtfdenclnneigfaaDoorM0
import Derived.Test.YtfdenclnneigfaaDoorProg
import Derived.Below
import Derived.Deep.Draws
import Derived.Deep.AppendLies
import Derived.Maps.AppendAt
import Derived.OwnWalk
import Derived.Laws.BytesArg
import Derived.Laws.MakeOwn
import Derived.Laws.OwnMore
import Derived.Deep.OwnRows
import Derived.Tactics
import Derived.Lib.ConvBytes
import Derived.Laws.Slices
import Derived.WalkKit
import Derived.KernelRfl
import Derived.RowKit3
import Derived.Deep.LoopGhost
import Derived.Deep.QuietTactic
import Derived.BigQuiet
import Derived.WideLaws
import Derived.Deep.DeepCutAuto
import Derived.Deep.CutBlock
import Derived.Deep.RegionHeld3
import Derived.Laws.Rows
import Derived.Lib.AppendStr
import Derived.ArgAppend
import Derived.Laws.IdiomCopy
import Derived.OrdersHeld
import Derived.Laws.BitsLemmas
import Derived.RowKit
set_option linter.unusedVariables false
set_option linter.unusedSimpArgs false
namespace Go.Proofs.YtfdenclnneigfaaDoor.M
open Go.RowKit Go.Proofs.YtfdenclnneigfaaDoorW.PrintWords Go.Proofs.YtfdenclnneigfaaDoorW.PrintLast
theorem czz {w : World} {g : Nat} {cs : Array Value} {t : TypeId} {v : Value} (h : w.heap[g]? = some (.cells cs t (0, 0))) (i : Nat) (hv : cs[i]? = some v := by (first | (simp only [List.getElem?_toArray, List.getElem?_cons_zero, List.getElem?_cons_succ]; rfl) | exact rfl)) : w.cell? ⟨g, i, none⟩ = some v := (blk_cell h i).trans hv
end Go.Proofs.YtfdenclnneigfaaDoor.M
namespace Go.Proofs.YtfdenclnneigfaaDoor.PRaspKeys
open Go.RowKit Go.Proofs.YtfdenclnneigfaaDoorW.PrintWords Go.Proofs.YtfdenclnneigfaaDoorW.PrintLast Go.Proofs.YtfdenclnneigfaaDoorW.PrintMore Go.Proofs.YtfdenclnneigfaaDoor.M
attribute [local go_sem] max2_int min2_int max_two min_two max_three min_three max_four min_four   -- for this text's walks alone
/-! #### struct type 114 -/
/-! #### struct type 62 -/
/-! #### struct type 30 -/
end Go.Proofs.YtfdenclnneigfaaDoor.PRaspKeys
namespace Go.Proofs.YtfdenclnneigfaaDoor.PRaspKeys
open Go.RowKit Go.Proofs.YtfdenclnneigfaaDoorW.PrintWords Go.Proofs.YtfdenclnneigfaaDoorW.PrintLast Go.Proofs.YtfdenclnneigfaaDoorW.PrintMore Go.Proofs.YtfdenclnneigfaaDoor.M
attribute [local go_sem] max2_int min2_int max_two min_two max_three min_three max_four min_four   -- for this text's walks alone
def sHA.f (k : Nat) (a0_0 : Int) (l0_1 : List (S114)) (l0_2 : List (S62)) (l1 : List (S30)) : Option (Bool) := (heard_All.f a0_0 l0_1 l0_2 l1).bind fun bt338 => ((rA.f k a0_0 l0_1 l0_2 l1).bind fun bt342 => ((saronref00_Equal.f k bt338.1 bt342.1).bind fun t346 => (if t346 = true then (if bt338.2 = bt342.2 then ((saronlaw09_listened.f).bind fun t347 => (some t347)) else (some false)) else (some false))))
theorem sHA.mono : ∀ a0 a1 a2 a3 k, LeO (sHA.f k a0 a1 a2 a3) (sHA.f (k + 1) a0 a1 a2 a3) := by
 intro a0 a1 a2 a3 k
 unfold sHA.f
 repeat' first
   | (with_reducible exact saronref00_Equal.mono _ _ _)
   | (with_reducible exact rA.mono _ _ _ _ _)
   | (with_reducible exact LeO.refl _)
   | (with_reducible exact LeO.none _)
   | (with_reducible refine LeO.ite ?_ ?_)
   | (with_reducible refine LeO.bind ?_ (fun _ => ?_))
   | exact saronref00_Equal.mono _ _ _
   | exact rA.mono _ _ _ _ _
   | exact LeO.none _
   | refine LeO.ite ?_ ?_
   | refine LeO.bind ?_ (fun _ => ?_)
set_option maxHeartbeats 8000000 in
set_option maxRecDepth 100000 in
theorem sHA.calls (k : Nat) (a0_0 : Int) (A0_1 : Option Addr) (c0_1 : Nat) (l0_1 : List (S114)) (A0_2 : Option Addr) (c0_2 : Nat) (l0_2 : List (S62)) (A1 : Option Addr) (c1 : Nat) (l1 : List (S30)) (r : Bool) (w : World) (hr0_1 : Kd.C k114 w A0_1 l0_1.length l0_1) (hc0_1 : l0_1.length ≤ c0_1) (hr0_2 : Kd.C k62 w A0_2 l0_2.length l0_2) (hc0_2 : l0_2.length ≤ c0_2) (hr1 : Kd.C k30 w A1 l1.length l1) (hc1 : l1.length ≤ c1) (hG : Glob w) (h : sHA.f k a0_0 l0_1 l0_2 l1 = some r) :
  Calls Tryd.prog 5 #[.agg #[.int .i64 a0_0, .slice A0_1 l0_1.length c0_1, .slice A0_2 l0_2.length c0_2], .slice A1 l1.length c1] w fun e w' => e = .returned (.bool r) ∧ Below w.heap.size w w' := by
 have hu27 := Tryd.underlying27
 have HR0_1 := aS hr0_1
 have HC0_1 := aS hc0_1
 clear hr0_1 hc0_1
 have HR0_2 := aS hr0_2
 have HC0_2 := aS hc0_2
 clear hr0_2 hc0_2
 have HR1 := aS hr1
 have HC1 := aS hc1
 clear hr1 hc1
 have HB := aS (Below.refl w.heap.size w)
 have HG := aS hG
 clear hG
 have H : ((heard_All.f a0_0 l0_1 l0_2 l1).bind fun bt338 => ((rA.f k a0_0 l0_1 l0_2 l1).bind fun bt342 => ((saronref00_Equal.f k bt338.1 bt342.1).bind fun t346 => (if t346 = true then (if bt338.2 = bt342.2 then ((saronlaw09_listened.f).bind fun t347 => (some t347)) else (some false)) else (some false))))) = some r := h
 clear h
 replace H := Option.bind_eq_some_iff.mp H
 obtain ⟨⟨t338, t341⟩, A30, H⟩ := H
 replace H : ((rA.f k a0_0 l0_1 l0_2 l1).bind fun bt342 => ((saronref00_Equal.f k t338 bt342.1).bind fun t346 => (if t346 = true then (if t341 = bt342.2 then ((saronlaw09_listened.f).bind fun t347 => (some t347)) else (some false)) else (some false)))) = some r := H
 have A3 := aS A30
 clear A30
 replace H := Option.bind_eq_some_iff.mp H
 obtain ⟨⟨t342, t345⟩, A40, H⟩ := H
 replace H : ((saronref00_Equal.f k t338 t342).bind fun t346 => (if t346 = true then (if t341 = t345 then ((saronlaw09_listened.f).bind fun t347 => (some t347)) else (some false)) else (some false))) = some r := H
 have A4 := aS A40
 clear A40
 replace H := Option.bind_eq_some_iff.mp H
 obtain ⟨t346, A50, H⟩ := H
 replace H : (if t346 = true then (if t341 = t345 then ((saronlaw09_listened.f).bind fun t347 => (some t347)) else (some false)) else (some false)) = some r := H
 have A5 := aS A50
 clear A50
 by_cases c6 : t346 = true
 rotate_left
 ·replace c6 := Bool.eq_false_iff.mpr c6
  subst c6
  have H1 : (some false) = some r := by rw [if_neg (show ¬ (false = true) by decide)] at H; exact H
  clear H
  have H := H1
  clear H1
  obtain rfl := Option.some.inj H
  go_enter Tryd.func5, Tryd.ntmps5
  go_wp2_with (first | ((with_reducible refine gate_dst (N := 2) rfl ?_); refine box_event ?hg (N := 2) ?hd (cs := #[.int .i64 a0_0, .slice A0_1 l0_1.length c0_1, .slice A0_2 l0_2.length c0_2]) (t := 27) ?hr ?_; (case hd => rfl); (case hg => rfl); (case hr => exact TS); intro gb337 hg w24 hbox hb; have BK337 := aS (hbox); have GW337 := aS ((TG : w.heap.size ≤ gb337)); have GE337 := aS ((TG : w.heap.size ≤ gb337)); replace HB := aS (below_step TB hb); clear hb hbox hg; have hcz25_0 := czz BK337.out 0; have hcz25_1 := czz BK337.out 1; have hcz25_2 := czz BK337.out 2; have hfz25_0 := fz BK337.out 0; have hfz25_1 := fz BK337.out 1; have hfz25_2 := fz BK337.out 2) | ((with_reducible refine gate_callee (f := 28) rfl ?_); refine goesL_ (some 12) rfl rfl Tryd.func28 (by kernel_rfl) rfl #[.agg #[.int .i64 a0_0, .slice A0_1 l0_1.length c0_1, .slice A0_2 l0_2.length c0_2], .slice A1 l1.length c1] rfl TM ?_; (with_reducible refine (heard_All.calls a0_0 _ _ l0_1 _ _ l0_2 _ _ l1 t338 t341 _ ?side1 ?side2 ?side3 ?side4 ?side5 ?side6 ?side7 A3.out).mono ?_); (case side1 => exact TC HR0_1.out); (case side2 => exact HC0_1.out); (case side3 => exact TC HR0_2.out); (case side4 => exact HC0_2.out); (case side5 => exact TC HR1.out); (case side6 => exact HC1.out); (case side7 => exact Glob.fr HG.out (Fr.of_below (TB1 GE337.out))); rintro e w26 ⟨v339, rfl, ho0, hb⟩; refine ⟨_, rfl, ?_⟩; have HO340 := aS (Kd.V_lower (Kd.V_mono (ok' := fun k_ => k_ ≠ gb337) ho0 (fun k_ hk_ => (Kd.freshB (g := gb337) (o := .cells #[.int .i64 a0_0, .slice A0_1 l0_1.length c0_1, .slice A0_2 l0_2.length c0_2] 27 (0, 0)) (TK BK337.out) k_ hk_))) (below_size (TB1 GE337.out))); replace BK337 := aS (blk_below (g := gb337) (o := .cells #[.int .i64 a0_0, .slice A0_1 l0_1.length c0_1, .slice A0_2 l0_2.length c0_2] 27 (0, 0)) (TK BK337.out) hb); replace HB := aS (below_step (TB1 GE337.out) hb); (try clear hb); (try clear hb2); (try clear hk); (try clear hi); (try clear ho0); have hcz27_0 := czz BK337.out 0; have hcz27_1 := czz BK337.out 1; have hcz27_2 := czz BK337.out 2; have hfz27_0 := fz BK337.out 0; have hfz27_1 := fz BK337.out 1; have hfz27_2 := fz BK337.out 2) | ((with_reducible refine gate_callee (f := 29) rfl ?_); refine goesL_ (some 18) rfl rfl Tryd.func29 (by kernel_rfl) rfl #[.agg #[.int .i64 a0_0, .slice A0_1 l0_1.length c0_1, .slice A0_2 l0_2.length c0_2], .slice A1 l1.length c1] rfl TM ?_; (with_reducible refine (rA.calls k a0_0 _ _ l0_1 _ _ l0_2 _ _ l1 t342 t345 _ ?side1 ?side2 ?side3 ?side4 ?side5 ?side6 A4.out).mono ?_); (case side1 => exact TC HR0_1.out); (case side2 => exact HC0_1.out); (case side3 => exact TC HR0_2.out); (case side4 => exact HC0_2.out); (case side5 => exact TC HR1.out); (case side6 => exact HC1.out); rintro e w28 ⟨v343, rfl, ho0, hb⟩; refine ⟨_, rfl, ?_⟩; have HO344 := aS (Kd.R_lower ho0 (below_size (TB1 GE337.out))); replace HO340 := aS (Kd.V_elder' (by (with_reducible repeat (first | apply Kd.V_alloc | apply Kd.V_drewN | apply Kd.V_drew)); exact HO340.out) (Kd.R_base ho0) hb); replace BK337 := aS (blk_below (g := gb337) (o := .cells #[.int .i64 a0_0, .slice A0_1 l0_1.length c0_1, .slice A0_2 l0_2.length c0_2] 27 (0, 0)) (TK BK337.out) hb); replace HB := aS (below_step (TB1 GE337.out) hb); (try clear hb); (try clear hb2); (try clear hk); (try clear hi); (try clear ho0); obtain ⟨Ao29, co29, eo29⟩ := Kd.V_slice HO340.out; subst eo29; obtain ⟨Ao30, co30, eo30⟩ := Kd.R_slice HO344.out; subst eo30) | ((with_reducible refine gate_callee (f := 20) rfl ?_); refine goesL_ (some 23) rfl rfl Tryd.func20 (by kernel_rfl) rfl #[.slice Ao29 t338.length co29, .slice Ao30 t342.length co30] rfl TM ?_; (with_reducible refine (saronref00_Equal.calls k _ _ t338 _ _ t342 false _ ?side1 ?side2 ?side3 ?side4 A5.out).mono ?_); (case side1 => repeat (first | exact (Kd.V_reads' HO340.out).2.2 | (with_reducible refine Kd.C_alloc ?_ _) | (with_reducible refine Kd.C_drewN ?_ _) | (with_reducible refine Kd.C_drew ?_))); (case side2 => exact (Kd.V_reads' HO340.out).2.1); (case side3 => repeat (first | exact (Kd.R_reads' HO344.out).2.2 | (with_reducible refine Kd.C_alloc ?_ _) | (with_reducible refine Kd.C_drewN ?_ _) | (with_reducible refine Kd.C_drew ?_))); (case side4 => exact (Kd.R_reads' HO344.out).2.1); rintro e w' ⟨rfl, ⟨nd, rfl⟩⟩; refine ⟨_, rfl, ?_⟩))
  go_ret
  exact ⟨TR, TB1 GE337.out⟩
 subst c6
 have H1 : (if t341 = t345 then ((saronlaw09_listened.f).bind fun t347 => (some t347)) else (some false)) = some r := by rw [if_pos rfl] at H; exact H
 clear H
 have H := H1
 clear H1
 by_cases c7 : t341 = t345
 rotate_left
 ·rw [if_neg c7] at H
  have c7b0 : (t341 == t345) = false := beq_eq_false_iff_ne.mpr c7
  have c7b1 : (t341 != t345) = true := bne_iff_ne.mpr c7
  obtain rfl := Option.some.inj H
  go_enter Tryd.func5, Tryd.ntmps5
  go_wp2_with (first | ((with_reducible refine gate_dst (N := 2) rfl ?_); refine box_event ?hg (N := 2) ?hd (cs := #[.int .i64 a0_0, .slice A0_1 l0_1.length c0_1, .slice A0_2 l0_2.length c0_2]) (t := 27) ?hr ?_; (case hd => rfl); (case hg => rfl); (case hr => exact TS); intro gb337 hg w17 hbox hb; have BK337 := aS (hbox); have GW337 := aS ((TG : w.heap.size ≤ gb337)); have GE337 := aS ((TG : w.heap.size ≤ gb337)); replace HB := aS (below_step TB hb); clear hb hbox hg; have hcz18_0 := czz BK337.out 0; have hcz18_1 := czz BK337.out 1; have hcz18_2 := czz BK337.out 2; have hfz18_0 := fz BK337.out 0; have hfz18_1 := fz BK337.out 1; have hfz18_2 := fz BK337.out 2) | ((with_reducible refine gate_callee (f := 28) rfl ?_); refine goesL_ (some 12) rfl rfl Tryd.func28 (by kernel_rfl) rfl #[.agg #[.int .i64 a0_0, .slice A0_1 l0_1.length c0_1, .slice A0_2 l0_2.length c0_2], .slice A1 l1.length c1] rfl TM ?_; (with_reducible refine (heard_All.calls a0_0 _ _ l0_1 _ _ l0_2 _ _ l1 t338 t341 _ ?side1 ?side2 ?side3 ?side4 ?side5 ?side6 ?side7 A3.out).mono ?_); (case side1 => exact TC HR0_1.out); (case side2 => exact HC0_1.out); (case side3 => exact TC HR0_2.out); (case side4 => exact HC0_2.out); (case side5 => exact TC HR1.out); (case side6 => exact HC1.out); (case side7 => exact Glob.fr HG.out (Fr.of_below (TB1 GE337.out))); rintro e w19 ⟨v339, rfl, ho0, hb⟩; refine ⟨_, rfl, ?_⟩; have HO340 := aS (Kd.V_lower (Kd.V_mono (ok' := fun k_ => k_ ≠ gb337) ho0 (fun k_ hk_ => (Kd.freshB (g := gb337) (o := .cells #[.int .i64 a0_0, .slice A0_1 l0_1.length c0_1, .slice A0_2 l0_2.length c0_2] 27 (0, 0)) (TK BK337.out) k_ hk_))) (below_size (TB1 GE337.out))); replace BK337 := aS (blk_below (g := gb337) (o := .cells #[.int .i64 a0_0, .slice A0_1 l0_1.length c0_1, .slice A0_2 l0_2.length c0_2] 27 (0, 0)) (TK BK337.out) hb); replace HB := aS (below_step (TB1 GE337.out) hb); (try clear hb); (try clear hb2); (try clear hk); (try clear hi); (try clear ho0); have hcz20_0 := czz BK337.out 0; have hcz20_1 := czz BK337.out 1; have hcz20_2 := czz BK337.out 2; have hfz20_0 := fz BK337.out 0; have hfz20_1 := fz BK337.out 1; have hfz20_2 := fz BK337.out 2) | ((with_reducible refine gate_callee (f := 29) rfl ?_); refine goesL_ (some 18) rfl rfl Tryd.func29 (by kernel_rfl) rfl #[.agg #[.int .i64 a0_0, .slice A0_1 l0_1.length c0_1, .slice A0_2 l0_2.length c0_2], .slice A1 l1.length c1] rfl TM ?_; (with_reducible refine (rA.calls k a0_0 _ _ l0_1 _ _ l0_2 _ _ l1 t342 t345 _ ?side1 ?side2 ?side3 ?side4 ?side5 ?side6 A4.out).mono ?_); (case side1 => exact TC HR0_1.out); (case side2 => exact HC0_1.out); (case side3 => exact TC HR0_2.out); (case side4 => exact HC0_2.out); (case side5 => exact TC HR1.out); (case side6 => exact HC1.out); rintro e w21 ⟨v343, rfl, ho0, hb⟩; refine ⟨_, rfl, ?_⟩; have HO344 := aS (Kd.R_lower ho0 (below_size (TB1 GE337.out))); replace HO340 := aS (Kd.V_elder' (by (with_reducible repeat (first | apply Kd.V_alloc | apply Kd.V_drewN | apply Kd.V_drew)); exact HO340.out) (Kd.R_base ho0) hb); replace BK337 := aS (blk_below (g := gb337) (o := .cells #[.int .i64 a0_0, .slice A0_1 l0_1.length c0_1, .slice A0_2 l0_2.length c0_2] 27 (0, 0)) (TK BK337.out) hb); replace HB := aS (below_step (TB1 GE337.out) hb); (try clear hb); (try clear hb2); (try clear hk); (try clear hi); (try clear ho0); obtain ⟨Ao22, co22, eo22⟩ := Kd.V_slice HO340.out; subst eo22; obtain ⟨Ao23, co23, eo23⟩ := Kd.R_slice HO344.out; subst eo23) | ((with_reducible refine gate_callee (f := 20) rfl ?_); refine goesL_ (some 23) rfl rfl Tryd.func20 (by kernel_rfl) rfl #[.slice Ao22 t338.length co22, .slice Ao23 t342.length co23] rfl TM ?_; (with_reducible refine (saronref00_Equal.calls k _ _ t338 _ _ t342 true _ ?side1 ?side2 ?side3 ?side4 A5.out).mono ?_); (case side1 => repeat (first | exact (Kd.V_reads' HO340.out).2.2 | (with_reducible refine Kd.C_alloc ?_ _) | (with_reducible refine Kd.C_drewN ?_ _) | (with_reducible refine Kd.C_drew ?_))); (case side2 => exact (Kd.V_reads' HO340.out).2.1); (case side3 => repeat (first | exact (Kd.R_reads' HO344.out).2.2 | (with_reducible refine Kd.C_alloc ?_ _) | (with_reducible refine Kd.C_drewN ?_ _) | (with_reducible refine Kd.C_drew ?_))); (case side4 => exact (Kd.R_reads' HO344.out).2.1); rintro e w' ⟨rfl, ⟨nd, rfl⟩⟩; refine ⟨_, rfl, ?_⟩))
  go_ret
  exact ⟨TR, TB1 GE337.out⟩
 rw [if_pos c7] at H
 have c7b0 : (t341 == t345) = true := beq_iff_eq.mpr c7
 have c7b1 : (t341 != t345) = false := bne_eq_false_iff_eq.mpr c7
 clear c7
 replace H := Option.bind_eq_some_iff.mp H
 obtain ⟨t347, A80, H⟩ := H
 replace H : (some t347) = some r := H
 have A8 := aS A80
 clear A80
 obtain rfl := Option.some.inj H
 go_enter Tryd.func5, Tryd.ntmps5
 go_wp2_with (first | ((with_reducible refine gate_dst (N := 2) rfl ?_); refine box_event ?hg (N := 2) ?hd (cs := #[.int .i64 a0_0, .slice A0_1 l0_1.length c0_1, .slice A0_2 l0_2.length c0_2]) (t := 27) ?hr ?_; (case hd => rfl); (case hg => rfl); (case hr => exact TS); intro gb337 hg w9 hbox hb; have BK337 := aS (hbox); have GW337 := aS ((TG : w.heap.size ≤ gb337)); have GE337 := aS ((TG : w.heap.size ≤ gb337)); replace HB := aS (below_step TB hb); clear hb hbox hg; have hcz10_0 := czz BK337.out 0; have hcz10_1 := czz BK337.out 1; have hcz10_2 := czz BK337.out 2; have hfz10_0 := fz BK337.out 0; have hfz10_1 := fz BK337.out 1; have hfz10_2 := fz BK337.out 2) | ((with_reducible refine gate_callee (f := 28) rfl ?_); refine goesL_ (some 12) rfl rfl Tryd.func28 (by kernel_rfl) rfl #[.agg #[.int .i64 a0_0, .slice A0_1 l0_1.length c0_1, .slice A0_2 l0_2.length c0_2], .slice A1 l1.length c1] rfl TM ?_; (with_reducible refine (heard_All.calls a0_0 _ _ l0_1 _ _ l0_2 _ _ l1 t338 t341 _ ?side1 ?side2 ?side3 ?side4 ?side5 ?side6 ?side7 A3.out).mono ?_); (case side1 => exact TC HR0_1.out); (case side2 => exact HC0_1.out); (case side3 => exact TC HR0_2.out); (case side4 => exact HC0_2.out); (case side5 => exact TC HR1.out); (case side6 => exact HC1.out); (case side7 => exact Glob.fr HG.out (Fr.of_below (TB1 GE337.out))); rintro e w11 ⟨v339, rfl, ho0, hb⟩; refine ⟨_, rfl, ?_⟩; have HO340 := aS (Kd.V_lower (Kd.V_mono (ok' := fun k_ => k_ ≠ gb337) ho0 (fun k_ hk_ => (Kd.freshB (g := gb337) (o := .cells #[.int .i64 a0_0, .slice A0_1 l0_1.length c0_1, .slice A0_2 l0_2.length c0_2] 27 (0, 0)) (TK BK337.out) k_ hk_))) (below_size (TB1 GE337.out))); replace BK337 := aS (blk_below (g := gb337) (o := .cells #[.int .i64 a0_0, .slice A0_1 l0_1.length c0_1, .slice A0_2 l0_2.length c0_2] 27 (0, 0)) (TK BK337.out) hb); replace HB := aS (below_step (TB1 GE337.out) hb); (try clear hb); (try clear hb2); (try clear hk); (try clear hi); (try clear ho0); have hcz12_0 := czz BK337.out 0; have hcz12_1 := czz BK337.out 1; have hcz12_2 := czz BK337.out 2; have hfz12_0 := fz BK337.out 0; have hfz12_1 := fz BK337.out 1; have hfz12_2 := fz BK337.out 2) | ((with_reducible refine gate_callee (f := 29) rfl ?_); refine goesL_ (some 18) rfl rfl Tryd.func29 (by kernel_rfl) rfl #[.agg #[.int .i64 a0_0, .slice A0_1 l0_1.length c0_1, .slice A0_2 l0_2.length c0_2], .slice A1 l1.length c1] rfl TM ?_; (with_reducible refine (rA.calls k a0_0 _ _ l0_1 _ _ l0_2 _ _ l1 t342 t345 _ ?side1 ?side2 ?side3 ?side4 ?side5 ?side6 A4.out).mono ?_); (case side1 => exact TC HR0_1.out); (case side2 => exact HC0_1.out); (case side3 => exact TC HR0_2.out); (case side4 => exact HC0_2.out); (case side5 => exact TC HR1.out); (case side6 => exact HC1.out); rintro e w13 ⟨v343, rfl, ho0, hb⟩; refine ⟨_, rfl, ?_⟩; have HO344 := aS (Kd.R_lower ho0 (below_size (TB1 GE337.out))); replace HO340 := aS (Kd.V_elder' (by (with_reducible repeat (first | apply Kd.V_alloc | apply Kd.V_drewN | apply Kd.V_drew)); exact HO340.out) (Kd.R_base ho0) hb); replace BK337 := aS (blk_below (g := gb337) (o := .cells #[.int .i64 a0_0, .slice A0_1 l0_1.length c0_1, .slice A0_2 l0_2.length c0_2] 27 (0, 0)) (TK BK337.out) hb); replace HB := aS (below_step (TB1 GE337.out) hb); (try clear hb); (try clear hb2); (try clear hk); (try clear hi); (try clear ho0); obtain ⟨Ao14, co14, eo14⟩ := Kd.V_slice HO340.out; subst eo14; obtain ⟨Ao15, co15, eo15⟩ := Kd.R_slice HO344.out; subst eo15) | ((with_reducible refine gate_callee (f := 20) rfl ?_); refine goesL_ (some 23) rfl rfl Tryd.func20 (by kernel_rfl) rfl #[.slice Ao14 t338.length co14, .slice Ao15 t342.length co15] rfl TM ?_; (with_reducible refine (saronref00_Equal.calls k _ _ t338 _ _ t342 true _ ?side1 ?side2 ?side3 ?side4 A5.out).mono ?_); (case side1 => repeat (first | exact (Kd.V_reads' HO340.out).2.2 | (with_reducible refine Kd.C_alloc ?_ _) | (with_reducible refine Kd.C_drewN ?_ _) | (with_reducible refine Kd.C_drew ?_))); (case side2 => exact (Kd.V_reads' HO340.out).2.1); (case side3 => repeat (first | exact (Kd.R_reads' HO344.out).2.2 | (with_reducible refine Kd.C_alloc ?_ _) | (with_reducible refine Kd.C_drewN ?_ _) | (with_reducible refine Kd.C_drew ?_))); (case side4 => exact (Kd.R_reads' HO344.out).2.1); rintro e w' ⟨rfl, ⟨nd, rfl⟩⟩; refine ⟨_, rfl, ?_⟩) | (go_at_call 25; (with_reducible refine (saronlaw09_listened.calls  t347 _ ?side1 A8.out).mono ?_); (case side1 => exact Glob.fr HG.out (Fr.of_below (TB1 GE337.out))); rintro e w16 ⟨rfl, hb⟩; replace HO340 := aS (Kd.V_below (by (with_reducible repeat (first | apply Kd.V_alloc | apply Kd.V_drewN | apply Kd.V_drew)); exact HO340.out) hb); replace HO344 := aS (Kd.R_below (TRo HO344.out) hb); replace BK337 := aS (blk_below (g := gb337) (o := .cells #[.int .i64 a0_0, .slice A0_1 l0_1.length c0_1, .slice A0_2 l0_2.length c0_2] 27 (0, 0)) (TK BK337.out) hb); replace HB := aS (below_step (TB1 GE337.out) hb); (try clear hb); (try clear hb2); (try clear hk); (try clear hi)))
 go_ret
 exact ⟨TR, TB1 GE337.out⟩
end Go.Proofs.YtfdenclnneigfaaDoor.PRaspKeys
