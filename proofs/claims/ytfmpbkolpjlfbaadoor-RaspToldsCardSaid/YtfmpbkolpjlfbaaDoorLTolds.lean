import Derived.Test.YtfmpbkolpjlfbaaDoorG5
import Derived.Test.YtfmpbkolpjlfbaaDoorCS
import Derived.Test.YtfmpbkolpjlfbaaDoorC0
import Derived.Test.YtfmpbkolpjlfbaaDoorCT
import Derived.Test.YtfmpbkolpjlfbaaDoorM0
import Derived.Test.YtfmpbkolpjlfbaaDoorProg
import Derived.Below
import Derived.Deep.Draws
import Derived.Deep.AppendLies
import Derived.Maps.AppendAt
import Derived.OwnWalk
import Derived.Laws.BytesArg
import Derived.Laws.MakeOwn
import Derived.Laws.OwnMore
import Derived.Deep.OwnRows
import Derived.Tactics
import Derived.Lib.ConvBytes
import Derived.Laws.Slices
import Derived.WalkKit
import Derived.KernelRfl
import Derived.RowKit3
import Derived.Deep.LoopGhost
import Derived.Deep.QuietTactic
import Derived.BigQuiet
import Derived.WideLaws
import Derived.Deep.DeepCutAuto
import Derived.Deep.CutBlock
import Derived.Deep.RegionHeld3
import Derived.Laws.Rows
import Derived.Lib.AppendStr
import Derived.ArgAppend
import Derived.Laws.IdiomCopy
import Derived.OrdersHeld
import Derived.Laws.BitsLemmas
import Derived.RowKit
set_option linter.unusedVariables false
set_option linter.unusedSimpArgs false
namespace Go.Proofs.YtfmpbkolpjlfbaaDoor.PRaspKeys
open Go.RowKit Go.Proofs.YtfmpbkolpjlfbaaDoorW.PrintWords Go.Proofs.YtfmpbkolpjlfbaaDoorW.PrintLast Go.Proofs.YtfmpbkolpjlfbaaDoorW.PrintMore Go.Proofs.YtfmpbkolpjlfbaaDoor.M
attribute [local go_sem] max2_int min2_int max_two min_two max_three min_three max_four min_four   -- for this text's walks alone
/-! #### struct type 24 -/
/-! #### struct type 57 -/
/-! #### struct type 69 -/
end Go.Proofs.YtfmpbkolpjlfbaaDoor.PRaspKeys
namespace Go.Proofs.YtfmpbkolpjlfbaaDoor.PRaspKeys
open Go.RowKit Go.Proofs.YtfmpbkolpjlfbaaDoorW.PrintWords Go.Proofs.YtfmpbkolpjlfbaaDoorW.PrintLast Go.Proofs.YtfmpbkolpjlfbaaDoorW.PrintMore Go.Proofs.YtfmpbkolpjlfbaaDoor.M
attribute [local go_sem] max2_int min2_int max_two min_two max_three min_three max_four min_four   -- for this text's walks alone
/-! ### saronlaw03_RaspTolds: function 6 -/
def saronlaw03_RaspTolds.f (k : Nat) (l0_0 : List (S57)) (a0_1 : Int) (a0_2 : Int) (l0_3 : List (S69)) (l1 : List Int) : Option (Bool) := (rasp_Told.f k l0_0 a0_1 a0_2 l0_3 l1).bind fun bt197 => ((saronref03_Told.f k l0_0 a0_1 a0_2 l0_3 l1).bind fun bt201 => ((saronref00_EqualRows.f k bt197.1 bt201.1).bind fun t205 => (if t205 = true then (if bt197.2 = bt201.2 then ((saronlaw03_filed.f).bind fun t206 => (some t206)) else (some false)) else (some false))))
theorem saronlaw03_RaspTolds.mono : ∀ a0 a1 a2 a3 a4 k, LeO (saronlaw03_RaspTolds.f k a0 a1 a2 a3 a4) (saronlaw03_RaspTolds.f (k + 1) a0 a1 a2 a3 a4) := by
 intro a0 a1 a2 a3 a4 k
 unfold saronlaw03_RaspTolds.f
 repeat' first
   | (with_reducible exact rasp_Told.mono _ _ _ _ _ _)
   | (with_reducible exact saronref00_EqualRows.mono _ _ _)
   | (with_reducible exact saronref03_Told.mono _ _ _ _ _ _)
   | (with_reducible exact LeO.refl _)
   | (with_reducible exact LeO.none _)
   | (with_reducible refine LeO.ite ?_ ?_)
   | (with_reducible refine LeO.bind ?_ (fun _ => ?_))
   | exact rasp_Told.mono _ _ _ _ _ _
   | exact saronref00_EqualRows.mono _ _ _
   | exact saronref03_Told.mono _ _ _ _ _ _
   | exact LeO.none _
   | refine LeO.ite ?_ ?_
   | refine LeO.bind ?_ (fun _ => ?_)
set_option maxHeartbeats 8000000 in
set_option maxRecDepth 100000 in
theorem saronlaw03_RaspTolds.calls (k : Nat) (A0_0 : Option Addr) (c0_0 : Nat) (l0_0 : List (S57)) (a0_1 : Int) (a0_2 : Int) (A0_3 : Option Addr) (c0_3 : Nat) (l0_3 : List (S69)) (A1 : Option Addr) (c1 : Nat) (l1 : List Int) (r : Bool) (w : World) (hr0_0 : Kd.C k57 w A0_0 l0_0.length l0_0) (hc0_0 : l0_0.length ≤ c0_0) (hr0_3 : Kd.C k69 w A0_3 l0_3.length l0_3) (hc0_3 : l0_3.length ≤ c0_3) (hr1 : Kd.C (Kd.int .i64) w A1 l1.length l1) (hc1 : l1.length ≤ c1) (hG : Glob w) (h : saronlaw03_RaspTolds.f k l0_0 a0_1 a0_2 l0_3 l1 = some r) :
  Calls Tryd.prog 6 #[.agg #[.slice A0_0 l0_0.length c0_0, .int .i64 a0_1, .int .i64 a0_2, .slice A0_3 l0_3.length c0_3], .slice A1 l1.length c1] w fun e w' => e = .returned (.bool r) ∧ Below w.heap.size w w' := by
 have hu27 := Tryd.underlying27
 have HR0_0 := Aside0.mk hr0_0
 have HC0_0 := Aside0.mk hc0_0
 clear hr0_0 hc0_0
 have HR0_3 := Aside0.mk hr0_3
 have HC0_3 := Aside0.mk hc0_3
 clear hr0_3 hc0_3
 have HR1 := Aside0.mk hr1
 have HC1 := Aside0.mk hc1
 clear hr1 hc1
 have HB := Aside0.mk (Below.refl w.heap.size w)
 have HG := Aside0.mk hG
 clear hG
 have H : ((rasp_Told.f k l0_0 a0_1 a0_2 l0_3 l1).bind fun bt197 => ((saronref03_Told.f k l0_0 a0_1 a0_2 l0_3 l1).bind fun bt201 => ((saronref00_EqualRows.f k bt197.1 bt201.1).bind fun t205 => (if t205 = true then (if bt197.2 = bt201.2 then ((saronlaw03_filed.f).bind fun t206 => (some t206)) else (some false)) else (some false))))) = some r := h
 clear h
 replace H := Option.bind_eq_some_iff.mp H
 obtain ⟨⟨t197, t200⟩, A30, H⟩ := H
 replace H : ((saronref03_Told.f k l0_0 a0_1 a0_2 l0_3 l1).bind fun bt201 => ((saronref00_EqualRows.f k t197 bt201.1).bind fun t205 => (if t205 = true then (if t200 = bt201.2 then ((saronlaw03_filed.f).bind fun t206 => (some t206)) else (some false)) else (some false)))) = some r := H
 have A3 := Aside0.mk A30
 clear A30
 replace H := Option.bind_eq_some_iff.mp H
 obtain ⟨⟨t201, t204⟩, A40, H⟩ := H
 replace H : ((saronref00_EqualRows.f k t197 t201).bind fun t205 => (if t205 = true then (if t200 = t204 then ((saronlaw03_filed.f).bind fun t206 => (some t206)) else (some false)) else (some false))) = some r := H
 have A4 := Aside0.mk A40
 clear A40
 replace H := Option.bind_eq_some_iff.mp H
 obtain ⟨t205, A50, H⟩ := H
 replace H : (if t205 = true then (if t200 = t204 then ((saronlaw03_filed.f).bind fun t206 => (some t206)) else (some false)) else (some false)) = some r := H
 have A5 := Aside0.mk A50
 clear A50
 by_cases c6 : t205 = true
 ·subst c6
  have H1 : (if t200 = t204 then ((saronlaw03_filed.f).bind fun t206 => (some t206)) else (some false)) = some r := by rw [if_pos rfl] at H; exact H
  clear H
  have H := H1
  clear H1
  by_cases c7 : t200 = t204
  ·rw [if_pos c7] at H
   have c7b0 : (t200 == t204) = true := beq_iff_eq.mpr c7
   have c7b1 : (t200 != t204) = false := bne_eq_false_iff_eq.mpr c7
   clear c7
   replace H := Option.bind_eq_some_iff.mp H
   obtain ⟨t206, A80, H⟩ := H
   replace H : (some t206) = some r := H
   have A8 := Aside0.mk A80
   clear A80
   obtain rfl := Option.some.inj H
   go_enter Tryd.func6, Tryd.ntmps6
   go_wp2_with (first | ((with_reducible refine gate_dst (N := 2) rfl ?_); refine box_event ?hg (N := 2) ?hd (cs := #[.slice A0_0 l0_0.length c0_0, .int .i64 a0_1, .int .i64 a0_2, .slice A0_3 l0_3.length c0_3]) (t := 27) ?hr ?_; (case hd => rfl); (case hg => rfl); (case hr => exact TS); intro gb196 hg w9 hbox hb; have BK196 := Aside0.mk (hbox); have GW196 := Aside0.mk ((TG : w.heap.size ≤ gb196)); have GE196 := Aside0.mk ((TG : w.heap.size ≤ gb196)); replace HB := Aside0.mk (below_step TB hb); clear hb hbox hg; have hcz10_0 := cz BK196.out 0; have hcz10_1 := cz BK196.out 1; have hcz10_2 := cz BK196.out 2; have hcz10_3 := cz BK196.out 3; have hfz10_0 := fz BK196.out 0; have hfz10_1 := fz BK196.out 1; have hfz10_2 := fz BK196.out 2; have hfz10_3 := fz BK196.out 3) | ((with_reducible refine gate_callee (f := 34) rfl ?_); refine goesL_ (some 12) rfl rfl Tryd.func34 (by kernel_rfl) rfl #[.agg #[.slice A0_0 l0_0.length c0_0, .int .i64 a0_1, .int .i64 a0_2, .slice A0_3 l0_3.length c0_3], .slice A1 l1.length c1] rfl TM ?_; (with_reducible refine (rasp_Told.calls k _ _ l0_0 a0_1 a0_2 _ _ l0_3 _ _ l1 t197 t200 _ ?side1 ?side2 ?side3 ?side4 ?side5 ?side6 ?side7 A3.out).mono ?_); (case side1 => exact TC HR0_0.out); (case side2 => exact HC0_0.out); (case side3 => exact TC HR0_3.out); (case side4 => exact HC0_3.out); (case side5 => exact TC HR1.out); (case side6 => exact HC1.out); (case side7 => exact Glob.fr HG.out (Fr.of_below (TB1 GE196.out))); rintro e w11 ⟨v198, rfl, ho0, hb⟩; refine ⟨_, rfl, ?_⟩; have HO199 := Aside0.mk (Kd.V_lower (Kd.V_mono (ok' := fun k_ => k_ ≠ gb196) ho0 (fun k_ hk_ => (Kd.freshB (g := gb196) (o := .cells #[.slice A0_0 l0_0.length c0_0, .int .i64 a0_1, .int .i64 a0_2, .slice A0_3 l0_3.length c0_3] 27 (0, 0)) (TK BK196.out) k_ hk_))) (below_size (TB1 GE196.out))); replace BK196 := Aside0.mk (TKb hb BK196.out); replace HB := Aside0.mk (below_step (TB1 GE196.out) hb); (try clear hb); (try clear hb2); (try clear hk); (try clear hi); (try clear ho0); have hcz12_0 := cz BK196.out 0; have hcz12_1 := cz BK196.out 1; have hcz12_2 := cz BK196.out 2; have hcz12_3 := cz BK196.out 3; have hfz12_0 := fz BK196.out 0; have hfz12_1 := fz BK196.out 1; have hfz12_2 := fz BK196.out 2; have hfz12_3 := fz BK196.out 3) | ((with_reducible refine gate_callee (f := 35) rfl ?_); refine goesL_ (some 18) rfl rfl Tryd.func35 (by kernel_rfl) rfl #[.agg #[.slice A0_0 l0_0.length c0_0, .int .i64 a0_1, .int .i64 a0_2, .slice A0_3 l0_3.length c0_3], .slice A1 l1.length c1] rfl TM ?_; (with_reducible refine (saronref03_Told.calls k _ _ l0_0 a0_1 a0_2 _ _ l0_3 _ _ l1 t201 t204 _ ?side1 ?side2 ?side3 ?side4 ?side5 ?side6 A4.out).mono ?_); (case side1 => exact TC HR0_0.out); (case side2 => exact HC0_0.out); (case side3 => exact TC HR0_3.out); (case side4 => exact HC0_3.out); (case side5 => exact TC HR1.out); (case side6 => exact HC1.out); rintro e w13 ⟨v202, rfl, ho0, hb⟩; refine ⟨_, rfl, ?_⟩; have HO203 := Aside0.mk (Kd.S_lower ho0 (below_size (TB1 GE196.out))); replace HO199 := Aside0.mk (Kd.V_elder' (by (with_reducible repeat (first | apply Kd.V_alloc | apply Kd.V_drewN | apply Kd.V_drew)); exact HO199.out) (Kd.S_base ho0) hb); replace BK196 := Aside0.mk (TKb hb BK196.out); replace HB := Aside0.mk (below_step (TB1 GE196.out) hb); (try clear hb); (try clear hb2); (try clear hk); (try clear hi); (try clear ho0); obtain ⟨Ao14, co14, eo14⟩ := Kd.V_slice HO199.out; subst eo14; obtain ⟨Ao15, co15, eo15⟩ := Kd.S_slice HO203.out; subst eo15) | ((with_reducible refine gate_callee (f := 36) rfl ?_); refine goesL_ (some 23) rfl rfl Tryd.func36 (by kernel_rfl) rfl #[.slice Ao14 t197.length co14, .slice Ao15 t201.length co15] rfl TM ?_; (with_reducible refine (saronref00_EqualRows.calls k _ _ t197 _ _ t201 true _ ?side1 ?side2 ?side3 ?side4 A5.out).mono ?_); (case side1 => repeat (first | exact (Kd.V_reads' HO199.out).2.2 | (with_reducible refine Kd.C_alloc ?_ _) | (with_reducible refine Kd.C_drewN ?_ _) | (with_reducible refine Kd.C_drew ?_))); (case side2 => exact (Kd.V_reads' HO199.out).2.1); (case side3 => exact TE (Kd.S_reads' HO203.out).2.2); (case side4 => exact (Kd.S_reads' HO203.out).2.1); rintro e w' ⟨rfl, ⟨nd, rfl⟩⟩; refine ⟨_, rfl, ?_⟩) | (go_at_call 22; (with_reducible refine (saronlaw03_filed.calls  t206 _ ?side1 A8.out).mono ?_); (case side1 => exact Glob.fr HG.out (Fr.of_below (TB1 GE196.out))); rintro e w16 ⟨rfl, hb⟩; replace HO199 := Aside0.mk (Kd.V_below (by (with_reducible repeat (first | apply Kd.V_alloc | apply Kd.V_drewN | apply Kd.V_drew)); exact HO199.out) hb); replace HO203 := Aside0.mk (Kd.S_below (TSo HO203.out) hb); replace BK196 := Aside0.mk (TKb hb BK196.out); replace HB := Aside0.mk (below_step (TB1 GE196.out) hb); (try clear hb); (try clear hb2); (try clear hk); (try clear hi)))
   go_ret
   exact ⟨TR, TB1 GE196.out⟩
  ·rw [if_neg c7] at H
   have c7b0 : (t200 == t204) = false := beq_eq_false_iff_ne.mpr c7
   have c7b1 : (t200 != t204) = true := bne_iff_ne.mpr c7
   obtain rfl := Option.some.inj H
   go_enter Tryd.func6, Tryd.ntmps6
   go_wp2_with (first | ((with_reducible refine gate_dst (N := 2) rfl ?_); refine box_event ?hg (N := 2) ?hd (cs := #[.slice A0_0 l0_0.length c0_0, .int .i64 a0_1, .int .i64 a0_2, .slice A0_3 l0_3.length c0_3]) (t := 27) ?hr ?_; (case hd => rfl); (case hg => rfl); (case hr => exact TS); intro gb196 hg w17 hbox hb; have BK196 := Aside0.mk (hbox); have GW196 := Aside0.mk ((TG : w.heap.size ≤ gb196)); have GE196 := Aside0.mk ((TG : w.heap.size ≤ gb196)); replace HB := Aside0.mk (below_step TB hb); clear hb hbox hg; have hcz18_0 := cz BK196.out 0; have hcz18_1 := cz BK196.out 1; have hcz18_2 := cz BK196.out 2; have hcz18_3 := cz BK196.out 3; have hfz18_0 := fz BK196.out 0; have hfz18_1 := fz BK196.out 1; have hfz18_2 := fz BK196.out 2; have hfz18_3 := fz BK196.out 3) | ((with_reducible refine gate_callee (f := 34) rfl ?_); refine goesL_ (some 12) rfl rfl Tryd.func34 (by kernel_rfl) rfl #[.agg #[.slice A0_0 l0_0.length c0_0, .int .i64 a0_1, .int .i64 a0_2, .slice A0_3 l0_3.length c0_3], .slice A1 l1.length c1] rfl TM ?_; (with_reducible refine (rasp_Told.calls k _ _ l0_0 a0_1 a0_2 _ _ l0_3 _ _ l1 t197 t200 _ ?side1 ?side2 ?side3 ?side4 ?side5 ?side6 ?side7 A3.out).mono ?_); (case side1 => exact TC HR0_0.out); (case side2 => exact HC0_0.out); (case side3 => exact TC HR0_3.out); (case side4 => exact HC0_3.out); (case side5 => exact TC HR1.out); (case side6 => exact HC1.out); (case side7 => exact Glob.fr HG.out (Fr.of_below (TB1 GE196.out))); rintro e w19 ⟨v198, rfl, ho0, hb⟩; refine ⟨_, rfl, ?_⟩; have HO199 := Aside0.mk (Kd.V_lower (Kd.V_mono (ok' := fun k_ => k_ ≠ gb196) ho0 (fun k_ hk_ => (Kd.freshB (g := gb196) (o := .cells #[.slice A0_0 l0_0.length c0_0, .int .i64 a0_1, .int .i64 a0_2, .slice A0_3 l0_3.length c0_3] 27 (0, 0)) (TK BK196.out) k_ hk_))) (below_size (TB1 GE196.out))); replace BK196 := Aside0.mk (TKb hb BK196.out); replace HB := Aside0.mk (below_step (TB1 GE196.out) hb); (try clear hb); (try clear hb2); (try clear hk); (try clear hi); (try clear ho0); have hcz20_0 := cz BK196.out 0; have hcz20_1 := cz BK196.out 1; have hcz20_2 := cz BK196.out 2; have hcz20_3 := cz BK196.out 3; have hfz20_0 := fz BK196.out 0; have hfz20_1 := fz BK196.out 1; have hfz20_2 := fz BK196.out 2; have hfz20_3 := fz BK196.out 3) | ((with_reducible refine gate_callee (f := 35) rfl ?_); refine goesL_ (some 18) rfl rfl Tryd.func35 (by kernel_rfl) rfl #[.agg #[.slice A0_0 l0_0.length c0_0, .int .i64 a0_1, .int .i64 a0_2, .slice A0_3 l0_3.length c0_3], .slice A1 l1.length c1] rfl TM ?_; (with_reducible refine (saronref03_Told.calls k _ _ l0_0 a0_1 a0_2 _ _ l0_3 _ _ l1 t201 t204 _ ?side1 ?side2 ?side3 ?side4 ?side5 ?side6 A4.out).mono ?_); (case side1 => exact TC HR0_0.out); (case side2 => exact HC0_0.out); (case side3 => exact TC HR0_3.out); (case side4 => exact HC0_3.out); (case side5 => exact TC HR1.out); (case side6 => exact HC1.out); rintro e w21 ⟨v202, rfl, ho0, hb⟩; refine ⟨_, rfl, ?_⟩; have HO203 := Aside0.mk (Kd.S_lower ho0 (below_size (TB1 GE196.out))); replace HO199 := Aside0.mk (Kd.V_elder' (by (with_reducible repeat (first | apply Kd.V_alloc | apply Kd.V_drewN | apply Kd.V_drew)); exact HO199.out) (Kd.S_base ho0) hb); replace BK196 := Aside0.mk (TKb hb BK196.out); replace HB := Aside0.mk (below_step (TB1 GE196.out) hb); (try clear hb); (try clear hb2); (try clear hk); (try clear hi); (try clear ho0); obtain ⟨Ao22, co22, eo22⟩ := Kd.V_slice HO199.out; subst eo22; obtain ⟨Ao23, co23, eo23⟩ := Kd.S_slice HO203.out; subst eo23) | ((with_reducible refine gate_callee (f := 36) rfl ?_); refine goesL_ (some 23) rfl rfl Tryd.func36 (by kernel_rfl) rfl #[.slice Ao22 t197.length co22, .slice Ao23 t201.length co23] rfl TM ?_; (with_reducible refine (saronref00_EqualRows.calls k _ _ t197 _ _ t201 true _ ?side1 ?side2 ?side3 ?side4 A5.out).mono ?_); (case side1 => repeat (first | exact (Kd.V_reads' HO199.out).2.2 | (with_reducible refine Kd.C_alloc ?_ _) | (with_reducible refine Kd.C_drewN ?_ _) | (with_reducible refine Kd.C_drew ?_))); (case side2 => exact (Kd.V_reads' HO199.out).2.1); (case side3 => exact TE (Kd.S_reads' HO203.out).2.2); (case side4 => exact (Kd.S_reads' HO203.out).2.1); rintro e w' ⟨rfl, ⟨nd, rfl⟩⟩; refine ⟨_, rfl, ?_⟩))
   go_ret
   exact ⟨TR, TB1 GE196.out⟩
 ·replace c6 := Bool.eq_false_iff.mpr c6
  subst c6
  have H1 : (some false) = some r := by rw [if_neg (show ¬ (false = true) by decide)] at H; exact H
  clear H
  have H := H1
  clear H1
  obtain rfl := Option.some.inj H
  go_enter Tryd.func6, Tryd.ntmps6
  go_wp2_with (first | ((with_reducible refine gate_dst (N := 2) rfl ?_); refine box_event ?hg (N := 2) ?hd (cs := #[.slice A0_0 l0_0.length c0_0, .int .i64 a0_1, .int .i64 a0_2, .slice A0_3 l0_3.length c0_3]) (t := 27) ?hr ?_; (case hd => rfl); (case hg => rfl); (case hr => exact TS); intro gb196 hg w24 hbox hb; have BK196 := Aside0.mk (hbox); have GW196 := Aside0.mk ((TG : w.heap.size ≤ gb196)); have GE196 := Aside0.mk ((TG : w.heap.size ≤ gb196)); replace HB := Aside0.mk (below_step TB hb); clear hb hbox hg; have hcz25_0 := cz BK196.out 0; have hcz25_1 := cz BK196.out 1; have hcz25_2 := cz BK196.out 2; have hcz25_3 := cz BK196.out 3; have hfz25_0 := fz BK196.out 0; have hfz25_1 := fz BK196.out 1; have hfz25_2 := fz BK196.out 2; have hfz25_3 := fz BK196.out 3) | ((with_reducible refine gate_callee (f := 34) rfl ?_); refine goesL_ (some 12) rfl rfl Tryd.func34 (by kernel_rfl) rfl #[.agg #[.slice A0_0 l0_0.length c0_0, .int .i64 a0_1, .int .i64 a0_2, .slice A0_3 l0_3.length c0_3], .slice A1 l1.length c1] rfl TM ?_; (with_reducible refine (rasp_Told.calls k _ _ l0_0 a0_1 a0_2 _ _ l0_3 _ _ l1 t197 t200 _ ?side1 ?side2 ?side3 ?side4 ?side5 ?side6 ?side7 A3.out).mono ?_); (case side1 => exact TC HR0_0.out); (case side2 => exact HC0_0.out); (case side3 => exact TC HR0_3.out); (case side4 => exact HC0_3.out); (case side5 => exact TC HR1.out); (case side6 => exact HC1.out); (case side7 => exact Glob.fr HG.out (Fr.of_below (TB1 GE196.out))); rintro e w26 ⟨v198, rfl, ho0, hb⟩; refine ⟨_, rfl, ?_⟩; have HO199 := Aside0.mk (Kd.V_lower (Kd.V_mono (ok' := fun k_ => k_ ≠ gb196) ho0 (fun k_ hk_ => (Kd.freshB (g := gb196) (o := .cells #[.slice A0_0 l0_0.length c0_0, .int .i64 a0_1, .int .i64 a0_2, .slice A0_3 l0_3.length c0_3] 27 (0, 0)) (TK BK196.out) k_ hk_))) (below_size (TB1 GE196.out))); replace BK196 := Aside0.mk (TKb hb BK196.out); replace HB := Aside0.mk (below_step (TB1 GE196.out) hb); (try clear hb); (try clear hb2); (try clear hk); (try clear hi); (try clear ho0); have hcz27_0 := cz BK196.out 0; have hcz27_1 := cz BK196.out 1; have hcz27_2 := cz BK196.out 2; have hcz27_3 := cz BK196.out 3; have hfz27_0 := fz BK196.out 0; have hfz27_1 := fz BK196.out 1; have hfz27_2 := fz BK196.out 2; have hfz27_3 := fz BK196.out 3) | ((with_reducible refine gate_callee (f := 35) rfl ?_); refine goesL_ (some 18) rfl rfl Tryd.func35 (by kernel_rfl) rfl #[.agg #[.slice A0_0 l0_0.length c0_0, .int .i64 a0_1, .int .i64 a0_2, .slice A0_3 l0_3.length c0_3], .slice A1 l1.length c1] rfl TM ?_; (with_reducible refine (saronref03_Told.calls k _ _ l0_0 a0_1 a0_2 _ _ l0_3 _ _ l1 t201 t204 _ ?side1 ?side2 ?side3 ?side4 ?side5 ?side6 A4.out).mono ?_); (case side1 => exact TC HR0_0.out); (case side2 => exact HC0_0.out); (case side3 => exact TC HR0_3.out); (case side4 => exact HC0_3.out); (case side5 => exact TC HR1.out); (case side6 => exact HC1.out); rintro e w28 ⟨v202, rfl, ho0, hb⟩; refine ⟨_, rfl, ?_⟩; have HO203 := Aside0.mk (Kd.S_lower ho0 (below_size (TB1 GE196.out))); replace HO199 := Aside0.mk (Kd.V_elder' (by (with_reducible repeat (first | apply Kd.V_alloc | apply Kd.V_drewN | apply Kd.V_drew)); exact HO199.out) (Kd.S_base ho0) hb); replace BK196 := Aside0.mk (TKb hb BK196.out); replace HB := Aside0.mk (below_step (TB1 GE196.out) hb); (try clear hb); (try clear hb2); (try clear hk); (try clear hi); (try clear ho0); obtain ⟨Ao29, co29, eo29⟩ := Kd.V_slice HO199.out; subst eo29; obtain ⟨Ao30, co30, eo30⟩ := Kd.S_slice HO203.out; subst eo30) | ((with_reducible refine gate_callee (f := 36) rfl ?_); refine goesL_ (some 23) rfl rfl Tryd.func36 (by kernel_rfl) rfl #[.slice Ao29 t197.length co29, .slice Ao30 t201.length co30] rfl TM ?_; (with_reducible refine (saronref00_EqualRows.calls k _ _ t197 _ _ t201 false _ ?side1 ?side2 ?side3 ?side4 A5.out).mono ?_); (case side1 => repeat (first | exact (Kd.V_reads' HO199.out).2.2 | (with_reducible refine Kd.C_alloc ?_ _) | (with_reducible refine Kd.C_drewN ?_ _) | (with_reducible refine Kd.C_drew ?_))); (case side2 => exact (Kd.V_reads' HO199.out).2.1); (case side3 => exact TE (Kd.S_reads' HO203.out).2.2); (case side4 => exact (Kd.S_reads' HO203.out).2.1); rintro e w' ⟨rfl, ⟨nd, rfl⟩⟩; refine ⟨_, rfl, ?_⟩))
  go_ret
  exact ⟨TR, TB1 GE196.out⟩
end Go.Proofs.YtfmpbkolpjlfbaaDoor.PRaspKeys
