import Derived.Test.YtfdenclnneigfaaDoorC1
import Derived.Test.YtfdenclnneigfaaDoorM0
import Derived.Test.YtfdenclnneigfaaDoorProg
import Derived.Below
import Derived.Deep.Draws
import Derived.Deep.AppendLies
import Derived.Maps.AppendAt
import Derived.OwnWalk
import Derived.Laws.BytesArg
import Derived.Laws.MakeOwn
import Derived.Laws.OwnMore
import Derived.Deep.OwnRows
import Derived.Tactics
import Derived.Lib.ConvBytes
import Derived.Laws.Slices
import Derived.WalkKit
import Derived.KernelRfl
import Derived.RowKit3
import Derived.Deep.LoopGhost
import Derived.Deep.QuietTactic
import Derived.BigQuiet
import Derived.WideLaws
import Derived.Deep.DeepCutAuto
import Derived.Deep.CutBlock
import Derived.Deep.RegionHeld3
import Derived.Laws.Rows
import Derived.Lib.AppendStr
import Derived.ArgAppend
import Derived.Laws.IdiomCopy
import Derived.OrdersHeld
import Derived.Laws.BitsLemmas
import Derived.RowKit
set_option linter.unusedVariables false
set_option linter.unusedSimpArgs false
namespace Go.Proofs.YtfdenclnneigfaaDoor.M
open Go.RowKit Go.Proofs.YtfdenclnneigfaaDoorW.PrintWords Go.Proofs.YtfdenclnneigfaaDoorW.PrintLast
theorem aS {p : Prop} (h : p) : Aside0 p := ⟨h⟩
end Go.Proofs.YtfdenclnneigfaaDoor.M
namespace Go.Proofs.YtfdenclnneigfaaDoor.PRaspKeys
open Go.RowKit Go.Proofs.YtfdenclnneigfaaDoorW.PrintWords Go.Proofs.YtfdenclnneigfaaDoorW.PrintLast Go.Proofs.YtfdenclnneigfaaDoorW.PrintMore Go.Proofs.YtfdenclnneigfaaDoor.M
attribute [local go_sem] max2_int min2_int max_two min_two max_three min_three max_four min_four   -- for this text's walks alone
/-! #### struct type 114 -/
end Go.Proofs.YtfdenclnneigfaaDoor.PRaspKeys
namespace Go.Proofs.YtfdenclnneigfaaDoor.PRaspKeys
open Go.RowKit Go.Proofs.YtfdenclnneigfaaDoorW.PrintWords Go.Proofs.YtfdenclnneigfaaDoorW.PrintLast Go.Proofs.YtfdenclnneigfaaDoorW.PrintMore Go.Proofs.YtfdenclnneigfaaDoor.M
attribute [local go_sem] max2_int min2_int max_two min_two max_three min_three max_four min_four   -- for this text's walks alone
def r5a.f (k : Nat) (a0_0 : Int) (l0_1 : List (S114)) (a1 : Bool) : Option (Int) := (saronref05_Check.f k a0_0 l0_1).bind fun t119 => (if t119 = 0 then (if a1 = true then (some 0) else (some 51)) else (some t119))
theorem r5a.mono : ∀ a0 a1 a2 k, LeO (r5a.f k a0 a1 a2) (r5a.f (k + 1) a0 a1 a2) := by
 intro a0 a1 a2 k
 unfold r5a.f
 repeat' first
   | (with_reducible exact saronref05_Check.mono _ _ _)
   | (with_reducible exact LeO.refl _)
   | (with_reducible exact LeO.none _)
   | (with_reducible refine LeO.ite ?_ ?_)
   | (with_reducible refine LeO.bind ?_ (fun _ => ?_))
   | exact saronref05_Check.mono _ _ _
   | exact LeO.none _
   | refine LeO.ite ?_ ?_
   | refine LeO.bind ?_ (fun _ => ?_)
set_option maxHeartbeats 8000000 in
set_option maxRecDepth 100000 in
theorem r5a.calls (k : Nat) (a0_0 : Int) (A0_1 : Option Addr) (c0_1 : Nat) (l0_1 : List (S114)) (a1 : Bool) (r : Int) (w : World) (hr0_1 : Kd.C k114 w A0_1 l0_1.length l0_1) (hc0_1 : l0_1.length ≤ c0_1) (h : r5a.f k a0_0 l0_1 a1 = some r) :
  Calls Tryd.prog 107 #[.agg #[.int .i64 a0_0, .slice A0_1 l0_1.length c0_1], .bool a1] w fun e w' => e = .returned (.int .i64 r) ∧ Below w.heap.size w w' := by
 have hu24 := Tryd.underlying24
 have HR0_1 := aS hr0_1
 have HC0_1 := aS hc0_1
 clear hr0_1 hc0_1
 have HB := aS (Below.refl w.heap.size w)
 have H : ((saronref05_Check.f k a0_0 l0_1).bind fun t119 => (if t119 = 0 then (if a1 = true then (some 0) else (some 51)) else (some t119))) = some r := h
 clear h
 replace H := Option.bind_eq_some_iff.mp H
 obtain ⟨t119, A30, H⟩ := H
 replace H : (if t119 = 0 then (if a1 = true then (some 0) else (some 51)) else (some t119)) = some r := H
 have A3 := aS A30
 clear A30
 by_cases c4 : t119 = 0
 ·rw [if_pos c4] at H
  have c4b0 : (t119 == 0) = true := beq_iff_eq.mpr c4
  have c4b1 : (t119 != 0) = false := bne_eq_false_iff_eq.mpr c4
  clear c4
  by_cases c5 : a1 = true
  ·subst c5
   have H1 : (some 0) = some r := by rw [if_pos rfl] at H; exact H
   clear H
   have H := H1
   clear H1
   obtain rfl := Option.some.inj H
   go_enter Tryd.func107, Tryd.ntmps107
   go_wp2_with (first | ((with_reducible refine gate_dst (N := 2) rfl ?_); refine box_event ?hg (N := 2) ?hd (cs := #[.int .i64 a0_0, .slice A0_1 l0_1.length c0_1]) (t := 24) ?hr ?_; (case hd => rfl); (case hg => rfl); (case hr => exact TS); intro gb118 hg w6 hbox hb; have BK118 := aS (hbox); have GW118 := aS ((TG : w.heap.size ≤ gb118)); have GE118 := aS ((TG : w.heap.size ≤ gb118)); replace HB := aS (below_step TB hb); clear hb hbox hg; have hcz7_0 := cz BK118.out 0; have hcz7_1 := cz BK118.out 1; have hfz7_0 := fz BK118.out 0; have hfz7_1 := fz BK118.out 1) | ((with_reducible refine gate_callee (f := 61) rfl ?_); refine goesL_ (some 7) rfl rfl Tryd.func61 (by kernel_rfl) rfl #[.agg #[.int .i64 a0_0, .slice A0_1 l0_1.length c0_1]] rfl TM ?_; (with_reducible refine (saronref05_Check.calls k a0_0 _ _ l0_1 t119 _ ?side1 ?side2 A3.out).mono ?_); (case side1 => exact TC HR0_1.out); (case side2 => exact HC0_1.out); rintro e w8 ⟨rfl, hb⟩; refine ⟨_, rfl, ?_⟩; replace BK118 := aS (TKb hb BK118.out); replace HB := aS (below_step (TB1 GE118.out) hb); (try clear hb); (try clear hb2); (try clear hk); (try clear hi)))
   go_ret
   exact ⟨TR, TB1 GE118.out⟩
  ·replace c5 := Bool.eq_false_iff.mpr c5
   subst c5
   have H1 : (some 51) = some r := by rw [if_neg (show ¬ (false = true) by decide)] at H; exact H
   clear H
   have H := H1
   clear H1
   obtain rfl := Option.some.inj H
   go_enter Tryd.func107, Tryd.ntmps107
   go_wp2_with (first | ((with_reducible refine gate_dst (N := 2) rfl ?_); refine box_event ?hg (N := 2) ?hd (cs := #[.int .i64 a0_0, .slice A0_1 l0_1.length c0_1]) (t := 24) ?hr ?_; (case hd => rfl); (case hg => rfl); (case hr => exact TS); intro gb118 hg w9 hbox hb; have BK118 := aS (hbox); have GW118 := aS ((TG : w.heap.size ≤ gb118)); have GE118 := aS ((TG : w.heap.size ≤ gb118)); replace HB := aS (below_step TB hb); clear hb hbox hg; have hcz10_0 := cz BK118.out 0; have hcz10_1 := cz BK118.out 1; have hfz10_0 := fz BK118.out 0; have hfz10_1 := fz BK118.out 1) | ((with_reducible refine gate_callee (f := 61) rfl ?_); refine goesL_ (some 7) rfl rfl Tryd.func61 (by kernel_rfl) rfl #[.agg #[.int .i64 a0_0, .slice A0_1 l0_1.length c0_1]] rfl TM ?_; (with_reducible refine (saronref05_Check.calls k a0_0 _ _ l0_1 t119 _ ?side1 ?side2 A3.out).mono ?_); (case side1 => exact TC HR0_1.out); (case side2 => exact HC0_1.out); rintro e w11 ⟨rfl, hb⟩; refine ⟨_, rfl, ?_⟩; replace BK118 := aS (TKb hb BK118.out); replace HB := aS (below_step (TB1 GE118.out) hb); (try clear hb); (try clear hb2); (try clear hk); (try clear hi)))
   go_ret
   exact ⟨TR, TB1 GE118.out⟩
 ·rw [if_neg c4] at H
  have c4b0 : (t119 == 0) = false := beq_eq_false_iff_ne.mpr c4
  have c4b1 : (t119 != 0) = true := bne_iff_ne.mpr c4
  obtain rfl := Option.some.inj H
  go_enter Tryd.func107, Tryd.ntmps107
  go_wp2_with (first | ((with_reducible refine gate_dst (N := 2) rfl ?_); refine box_event ?hg (N := 2) ?hd (cs := #[.int .i64 a0_0, .slice A0_1 l0_1.length c0_1]) (t := 24) ?hr ?_; (case hd => rfl); (case hg => rfl); (case hr => exact TS); intro gb118 hg w12 hbox hb; have BK118 := aS (hbox); have GW118 := aS ((TG : w.heap.size ≤ gb118)); have GE118 := aS ((TG : w.heap.size ≤ gb118)); replace HB := aS (below_step TB hb); clear hb hbox hg; have hcz13_0 := cz BK118.out 0; have hcz13_1 := cz BK118.out 1; have hfz13_0 := fz BK118.out 0; have hfz13_1 := fz BK118.out 1) | ((with_reducible refine gate_callee (f := 61) rfl ?_); refine goesL_ (some 7) rfl rfl Tryd.func61 (by kernel_rfl) rfl #[.agg #[.int .i64 a0_0, .slice A0_1 l0_1.length c0_1]] rfl TM ?_; (with_reducible refine (saronref05_Check.calls k a0_0 _ _ l0_1 t119 _ ?side1 ?side2 A3.out).mono ?_); (case side1 => exact TC HR0_1.out); (case side2 => exact HC0_1.out); rintro e w14 ⟨rfl, hb⟩; refine ⟨_, rfl, ?_⟩; replace BK118 := aS (TKb hb BK118.out); replace HB := aS (below_step (TB1 GE118.out) hb); (try clear hb); (try clear hb2); (try clear hk); (try clear hi)))
  go_ret
  exact ⟨TR, TB1 GE118.out⟩
def r5f.f (a0_0 : Int) (l0_1 : List (S114)) (a1 : Int) : Option (Bool) := (saronref00_Sits.f a1 0 (wrap64 ((l0_1.length : Int) - 1))).bind fun t121 => (some t121)
set_option maxHeartbeats 8000000 in
set_option maxRecDepth 100000 in
theorem r5f.calls (a0_0 : Int) (A0_1 : Option Addr) (c0_1 : Nat) (l0_1 : List (S114)) (a1 : Int) (r : Bool) (w : World) (hr0_1 : Kd.C k114 w A0_1 l0_1.length l0_1) (hc0_1 : l0_1.length ≤ c0_1) (h : r5f.f a0_0 l0_1 a1 = some r) :
  Calls Tryd.prog 108 #[.agg #[.int .i64 a0_0, .slice A0_1 l0_1.length c0_1], .int .i64 a1] w fun e w' => e = .returned (.bool r) ∧ Below w.heap.size w w' := by
 have hu24 := Tryd.underlying24
 have HR0_1 := aS hr0_1
 have HC0_1 := aS hc0_1
 clear hr0_1 hc0_1
 have HB := aS (Below.refl w.heap.size w)
 have H : ((saronref00_Sits.f a1 0 (wrap64 ((l0_1.length : Int) - 1))).bind fun t121 => (some t121)) = some r := h
 clear h
 replace H := Option.bind_eq_some_iff.mp H
 obtain ⟨t121, A30, H⟩ := H
 replace H : (some t121) = some r := H
 have A3 := aS A30
 clear A30
 obtain rfl := Option.some.inj H
 go_enter Tryd.func108, Tryd.ntmps108
 go_wp2_with (first | ((with_reducible refine gate_dst (N := 2) rfl ?_); refine box_event ?hg (N := 2) ?hd (cs := #[.int .i64 a0_0, .slice A0_1 l0_1.length c0_1]) (t := 24) ?hr ?_; (case hd => rfl); (case hg => rfl); (case hr => exact TS); intro gb120 hg w4 hbox hb; have BK120 := aS (hbox); have GW120 := aS ((TG : w.heap.size ≤ gb120)); have GE120 := aS ((TG : w.heap.size ≤ gb120)); replace HB := aS (below_step TB hb); clear hb hbox hg; have hcz5_0 := cz BK120.out 0; have hcz5_1 := cz BK120.out 1; have hfz5_0 := fz BK120.out 0; have hfz5_1 := fz BK120.out 1) | ((with_reducible refine gate_callee (f := 40) rfl ?_); refine goesL_ (some 10) rfl rfl Tryd.func40 (by kernel_rfl) rfl #[.int .i64 a1, .int .i64 0, .int .i64 (wrap64 ((l0_1.length : Int) - 1))] rfl TM ?_; (with_reducible refine (saronref00_Sits.calls a1 0 (wrap64 ((l0_1.length : Int) - 1)) t121 _ A3.out).mono ?_); rintro e w' ⟨rfl, ⟨nd, rfl⟩⟩; refine ⟨_, rfl, ?_⟩))
 go_ret
 exact ⟨TR, TB1 GE120.out⟩
def r5s.l0 : Nat → Int → List Int → Int → Int → List (S114) → Int → List (List Int) → Option (List Int)
 | 0, _, _, _, _, _, _, _ => none
 | k + 1, x2, x8, x9, x124000, x124001, x126000, x126001 => if x9 < x124000 then (if 0 ≤ x9 then (if x9 < (x126001.length : Int) then (if x126000 = 0 then (none) else ((saronref00_Where.f k (rd_L1 x126001 x9) (Int.tmod x2 x126000)).bind fun t127 => (if t127 ≥ 0 then (if x8.length < 17592186044416 then (r5s.l0 k x2 (x8 ++ [x9]) (wrap64 (x9 + 1)) x124000 x124001 x126000 x126001) else (none)) else (r5s.l0 k x2 x8 (wrap64 (x9 + 1)) x124000 x124001 x126000 x126001)))) else (none)) else (none)) else (some x8)
def r5s.f (k : Nat) (a0_0 : Int) (l0_1 : List (S114)) (a1 : Int) (a2 : Int) : Option (List Int) := if 0 ≤ a1 then (if a1 < (l0_1.length : Int) then (r5s.l0 k a2 ([] : List Int) 0 a0_0 l0_1 ((rd_T114 l0_1 a1).f0) ((rd_T114 l0_1 a1).f1)) else (none)) else (none)
theorem r5s.mono_l : ∀ k, (∀ y0 y1 y2 y3 y4 y5 y6, LeO (r5s.l0 k y0 y1 y2 y3 y4 y5 y6) (r5s.l0 (k + 1) y0 y1 y2 y3 y4 y5 y6))
 | 0 => fun _ _ _ _ _ _ _ r h => by simp [r5s.l0] at h
 | k + 1 => by
  have ih0 := r5s.mono_l k
  ·intro y0 y1 y2 y3 y4 y5 y6
   unfold r5s.l0
   repeat' first
   | (with_reducible exact ih0 _ _ _ _ _ _ _)
   | (with_reducible exact saronref00_Where.mono _ _ _)
   | (with_reducible exact LeO.refl _)
   | (with_reducible exact LeO.none _)
   | (with_reducible refine LeO.ite ?_ ?_)
   | (with_reducible refine LeO.bind ?_ (fun _ => ?_))
   | exact ih0 _ _ _ _ _ _ _
   | exact saronref00_Where.mono _ _ _
   | exact LeO.none _
   | refine LeO.ite ?_ ?_
   | refine LeO.bind ?_ (fun _ => ?_)
theorem r5s.mono : ∀ a0 a1 a2 a3 k, LeO (r5s.f k a0 a1 a2 a3) (r5s.f (k + 1) a0 a1 a2 a3) := by
 intro a0 a1 a2 a3 k
 have ih0 := r5s.mono_l k
 unfold r5s.f
 repeat' first
   | (with_reducible exact ih0 _ _ _ _ _ _ _)
   | (with_reducible exact saronref00_Where.mono _ _ _)
   | (with_reducible exact LeO.refl _)
   | (with_reducible exact LeO.none _)
   | (with_reducible refine LeO.ite ?_ ?_)
   | (with_reducible refine LeO.bind ?_ (fun _ => ?_))
   | exact ih0 _ _ _ _ _ _ _
   | exact saronref00_Where.mono _ _ _
   | exact LeO.none _
   | refine LeO.ite ?_ ?_
   | refine LeO.bind ?_ (fun _ => ?_)
set_option maxHeartbeats 8000000 in
set_option maxRecDepth 100000 in
theorem r5s.calls (k : Nat) (a0_0 : Int) (A0_1 : Option Addr) (c0_1 : Nat) (l0_1 : List (S114)) (a1 : Int) (a2 : Int) (r : List Int) (w : World) (hr0_1 : Kd.C k114 w A0_1 l0_1.length l0_1) (hc0_1 : l0_1.length ≤ c0_1) (h : r5s.f k a0_0 l0_1 a1 a2 = some r) :
  Calls Tryd.prog 109 #[.agg #[.int .i64 a0_0, .slice A0_1 l0_1.length c0_1], .int .i64 a1, .int .i64 a2] w fun e w' => ∃ v0_ : Value, e = .returned (v0_) ∧ Kd.R (Kd.int .i64) 3 w' w.heap.size (fun _ => True) v0_ r ∧ Below w.heap.size w w' := by
 have hu24 := Tryd.underlying24
 have hu114 := Tryd.underlying114
 have HR0_1 := aS hr0_1
 have HC0_1 := aS hc0_1
 clear hr0_1 hc0_1
 have HB := aS (Below.refl w.heap.size w)
 have H : (if 0 ≤ a1 then (if a1 < (l0_1.length : Int) then (r5s.l0 k a2 ([] : List Int) 0 a0_0 l0_1 ((rd_T114 l0_1 a1).f0) ((rd_T114 l0_1 a1).f1)) else (none)) else (none)) = some r := h
 clear h
 by_cases c4 : 0 ≤ a1
 ·rw [if_pos c4] at H
  have c4b0 : decide (0 ≤ a1) = true := decide_eq_true c4
  clear c4
  by_cases c5 : a1 < (l0_1.length : Int)
  ·rw [if_pos c5] at H
   have c5b0 : decide (a1 < (l0_1.length : Int)) = true := decide_eq_true c5
   clear c5
   have H' := aS H
   clear H
   go_enter Tryd.func109, Tryd.ntmps109
   go_wp2_with (first | ((with_reducible refine gate_dst (N := 3) rfl ?_); refine box_event ?hg (N := 3) ?hd (cs := #[.int .i64 a0_0, .slice A0_1 l0_1.length c0_1]) (t := 24) ?hr ?_; (case hd => rfl); (case hg => rfl); (case hr => exact TS); intro gb123 hg w6 hbox hb; have BK123 := aS (hbox); have GW123 := aS ((TG : w.heap.size ≤ gb123)); have GE123 := aS ((TG : w.heap.size ≤ gb123)); replace HB := aS (below_step TB hb); clear hb hbox hg; have hcz7_0 := cz BK123.out 0; have hcz7_1 := cz BK123.out 1; have hfz7_0 := fz BK123.out 0; have hfz7_1 := fz BK123.out 1; have p124 : 0 ≤ (a1 : Int) := of_decide_eq_true TA; have q124 : a1 < (l0_1.length : Int) := of_decide_eq_true TA; obtain ⟨ad124, A124_1, c124_1, e124, hx124_0, hx124_1, hl124_1, hi124_1⟩ := at_T114 HR0_1.out a1 p124 q124; cases e124; replace hx124_0 := hx HB.out hx124_0; replace hx124_1 := hx HB.out hx124_1; have HR124_1 := aS hi124_1; have HC124_1 := aS hl124_1; clear hi124_1 hl124_1; replace p124 := eq_true p124; replace q124 := eq_true q124) | ((with_reducible refine gate_dst (N := 7) rfl ?_); refine box_event ?hg (N := 7) ?hd (cs := #[.int .i64 0, .slice none 0 0]) (t := 114) ?hr ?_; (case hd => rfl); (case hg => rfl); (case hr => exact TS); intro gb125 hg w8 hbox hb; have BK125 := aS (hbox); have GW125 := aS ((TG1 GE123.out : w.heap.size ≤ gb125)); have GE125 := aS ((TG1 GE123.out : w.heap.size ≤ gb125)); have NB123_125 := aS ((by rw [hg]; exact Nat.ne_of_lt (blk_lt (g := gb123) (o := .cells #[.int .i64 a0_0, .slice (some ad124) l0_1.length c0_1] 24 (0, 0)) (TK BK123.out)) : gb123 ≠ gb125)); have NB125_123 := aS ((by rw [hg]; exact Nat.ne_of_gt (blk_lt (g := gb123) (o := .cells #[.int .i64 a0_0, .slice (some ad124) l0_1.length c0_1] 24 (0, 0)) (TK BK123.out)) : gb125 ≠ gb123)); replace BK123 := aS (TKb hb BK123.out); replace HB := aS (below_step (TB1 GE123.out) hb); clear hb hbox hg; have hnb9 := NB125_123.out; have hnc9 := NB123_125.out; have hcz10_0 := cz BK125.out 0; have hcz10_1 := cz BK125.out 1; have hfz10_0 := fz BK125.out 0; have hfz10_1 := fz BK125.out 1))
   repeat (go_quiet (first | ((with_reducible refine gate_dst (N := 3) rfl ?_); refine box_event ?hg (N := 3) ?hd (cs := #[.int .i64 a0_0, .slice A0_1 l0_1.length c0_1]) (t := 24) ?hr ?_; (case hd => rfl); (case hg => rfl); (case hr => exact TS); intro gb123 hg w6 hbox hb; have BK123 := aS (hbox); have GW123 := aS ((TG : w.heap.size ≤ gb123)); have GE123 := aS ((TG : w.heap.size ≤ gb123)); replace HB := aS (below_step TB hb); clear hb hbox hg; have hcz7_0 := cz BK123.out 0; have hcz7_1 := cz BK123.out 1; have hfz7_0 := fz BK123.out 0; have hfz7_1 := fz BK123.out 1; have p124 : 0 ≤ (a1 : Int) := of_decide_eq_true TA; have q124 : a1 < (l0_1.length : Int) := of_decide_eq_true TA; obtain ⟨ad124, A124_1, c124_1, e124, hx124_0, hx124_1, hl124_1, hi124_1⟩ := at_T114 HR0_1.out a1 p124 q124; cases e124; replace hx124_0 := hx HB.out hx124_0; replace hx124_1 := hx HB.out hx124_1; have HR124_1 := aS hi124_1; have HC124_1 := aS hl124_1; clear hi124_1 hl124_1; replace p124 := eq_true p124; replace q124 := eq_true q124) | ((with_reducible refine gate_dst (N := 7) rfl ?_); refine box_event ?hg (N := 7) ?hd (cs := #[.int .i64 0, .slice none 0 0]) (t := 114) ?hr ?_; (case hd => rfl); (case hg => rfl); (case hr => exact TS); intro gb125 hg w8 hbox hb; have BK125 := aS (hbox); have GW125 := aS ((TG1 GE123.out : w.heap.size ≤ gb125)); have GE125 := aS ((TG1 GE123.out : w.heap.size ≤ gb125)); have NB123_125 := aS ((by rw [hg]; exact Nat.ne_of_lt (blk_lt (g := gb123) (o := .cells #[.int .i64 a0_0, .slice (some ad124) l0_1.length c0_1] 24 (0, 0)) (TK BK123.out)) : gb123 ≠ gb125)); have NB125_123 := aS ((by rw [hg]; exact Nat.ne_of_gt (blk_lt (g := gb123) (o := .cells #[.int .i64 a0_0, .slice (some ad124) l0_1.length c0_1] 24 (0, 0)) (TK BK123.out)) : gb125 ≠ gb123)); replace BK123 := aS (TKb hb BK123.out); replace HB := aS (below_step (TB1 GE123.out) hb); clear hb hbox hg; have hnb9 := NB125_123.out; have hnc9 := NB123_125.out; have hcz10_0 := cz BK125.out 0; have hcz10_1 := cz BK125.out 1; have hfz10_0 := fz BK125.out 0; have hfz10_1 := fz BK125.out 1)); try go_wp2_with (first | ((with_reducible refine gate_dst (N := 3) rfl ?_); refine box_event ?hg (N := 3) ?hd (cs := #[.int .i64 a0_0, .slice A0_1 l0_1.length c0_1]) (t := 24) ?hr ?_; (case hd => rfl); (case hg => rfl); (case hr => exact TS); intro gb123 hg w6 hbox hb; have BK123 := aS (hbox); have GW123 := aS ((TG : w.heap.size ≤ gb123)); have GE123 := aS ((TG : w.heap.size ≤ gb123)); replace HB := aS (below_step TB hb); clear hb hbox hg; have hcz7_0 := cz BK123.out 0; have hcz7_1 := cz BK123.out 1; have hfz7_0 := fz BK123.out 0; have hfz7_1 := fz BK123.out 1; have p124 : 0 ≤ (a1 : Int) := of_decide_eq_true TA; have q124 : a1 < (l0_1.length : Int) := of_decide_eq_true TA; obtain ⟨ad124, A124_1, c124_1, e124, hx124_0, hx124_1, hl124_1, hi124_1⟩ := at_T114 HR0_1.out a1 p124 q124; cases e124; replace hx124_0 := hx HB.out hx124_0; replace hx124_1 := hx HB.out hx124_1; have HR124_1 := aS hi124_1; have HC124_1 := aS hl124_1; clear hi124_1 hl124_1; replace p124 := eq_true p124; replace q124 := eq_true q124) | ((with_reducible refine gate_dst (N := 7) rfl ?_); refine box_event ?hg (N := 7) ?hd (cs := #[.int .i64 0, .slice none 0 0]) (t := 114) ?hr ?_; (case hd => rfl); (case hg => rfl); (case hr => exact TS); intro gb125 hg w8 hbox hb; have BK125 := aS (hbox); have GW125 := aS ((TG1 GE123.out : w.heap.size ≤ gb125)); have GE125 := aS ((TG1 GE123.out : w.heap.size ≤ gb125)); have NB123_125 := aS ((by rw [hg]; exact Nat.ne_of_lt (blk_lt (g := gb123) (o := .cells #[.int .i64 a0_0, .slice (some ad124) l0_1.length c0_1] 24 (0, 0)) (TK BK123.out)) : gb123 ≠ gb125)); have NB125_123 := aS ((by rw [hg]; exact Nat.ne_of_gt (blk_lt (g := gb123) (o := .cells #[.int .i64 a0_0, .slice (some ad124) l0_1.length c0_1] 24 (0, 0)) (TK BK123.out)) : gb125 ≠ gb123)); replace BK123 := aS (TKb hb BK123.out); replace HB := aS (below_step (TB1 GE123.out) hb); clear hb hbox hg; have hnb9 := NB125_123.out; have hnc9 := NB123_125.out; have hcz10_0 := cz BK125.out 0; have hcz10_1 := cz BK125.out 1; have hfz10_0 := fz BK125.out 0; have hfz10_1 := fz BK125.out 1)))
   go_loopg [8, 9] k (fun kq v8 v9 w' => ∃ (x8_1 : List Int) (x9_1 : Int), v9 = .int .i64 x9_1 ∧ Aside0 (r5s.l0 kq a2 x8_1 x9_1 a0_0 l0_1 ((rd_T114 l0_1 a1).f0) ((rd_T114 l0_1 a1).f1) = some r) ∧ Aside0 (kq ≤ k) ∧ Aside0 (Kd.R (Kd.int .i64) 3 w' w.heap.size (fun _ => True) v8 x8_1) ∧ Aside0 (w'.heap[gb123]? = some (.cells #[.int .i64 a0_0, (.slice (some ad124) l0_1.length c0_1)] 24 (0, 0))) ∧ Aside0 (w'.heap[gb125]? = some (.cells #[.int .i64 ((rd_T114 l0_1 a1).f0), (.slice A124_1 ((rd_T114 l0_1 a1).f1).length c124_1)] 114 (0, 0))) ∧ Aside0 (Below w.heap.size w w'))
   case atStart => exact ⟨(([] : List Int)), (0), TT, H', ⟨Nat.le_refl _⟩, ⟨by first | exact Kd.R_nil _ _ _ _ _ | exact Kd.N_nil _ _ _ _ _ | exact Kd.V_nil _ _ _ _ _ | exact Kd.Q_nil _ _ _ _ _ | exact Kd.S_nil _ _ _ _ _⟩, ⟨by (with_reducible repeat (first | refine blk_drewN ?_ _ | refine blk_drew ?_ | refine blk_alloc ?_ _)); refine blk_far ?_ NB123_125.out _; (with_reducible repeat (first | refine blk_drewN ?_ _ | refine blk_drew ?_ | refine blk_alloc ?_ _)); refine blk_far ?_ NB123_125.out _; (with_reducible repeat (first | refine blk_drewN ?_ _ | refine blk_drew ?_ | refine blk_alloc ?_ _)); exact BK123.out⟩, ⟨by (with_reducible repeat (first | refine blk_drewN ?_ _ | refine blk_drew ?_ | refine blk_alloc ?_ _)); refine blk_put (cs := #[.int .i64 ((rd_T114 l0_1 a1).f0), .slice none 0 0]) ?_ 1 _ rfl; (with_reducible repeat (first | refine blk_drewN ?_ _ | refine blk_drew ?_ | refine blk_alloc ?_ _)); refine blk_put (cs := #[.int .i64 0, .slice none 0 0]) ?_ 0 _ rfl; (with_reducible repeat (first | refine blk_drewN ?_ _ | refine blk_drew ?_ | refine blk_alloc ?_ _)); exact BK125.out⟩, ⟨TB2 GE123.out GE125.out⟩⟩
   case round => as_aux_lemma =>
    clear H'
    try clear c1
    try clear p1
    try clear q1
    try clear hx1
    try clear p2
    try clear c4
    try clear c4b0
    try clear c5
    try clear c5b0
    try clear c9
    try clear c10
    try clear hcz10_0 hcz10_1
    try clear hcz7_0 hcz7_1
    try clear hfz10_0 hfz10_1
    try clear hfz7_0 hfz7_1
    try clear hx124_0
    try clear hx124_1
    try clear p124
    try clear q124
    obtain ⟨x8_1, x9_1, rfl, HA, HK1, HO_8, BK123, BK125, HB⟩ := hrel
    cases gk with
    | zero => exact absurd HA.out (by simp [r5s.l0])
    | succ k1 =>
     have H := HA.out
     clear HA
     simp only [r5s.l0] at H
     by_cases c11 : x9_1 < a0_0
     ·rw [if_pos c11] at H
      have c11b0 : decide (x9_1 < a0_0) = true := decide_eq_true c11
      clear c11
      by_cases c12 : 0 ≤ x9_1
      ·rw [if_pos c12] at H
       have c12b0 : decide (0 ≤ x9_1) = true := decide_eq_true c12
       clear c12
       by_cases c13 : x9_1 < (((rd_T114 l0_1 a1).f1).length : Int)
       ·rw [if_pos c13] at H
        have c13b0 : decide (x9_1 < (((rd_T114 l0_1 a1).f1).length : Int)) = true := decide_eq_true c13
        clear c13
        by_cases c14 : ((rd_T114 l0_1 a1).f0) = 0
        ·rw [if_pos c14] at H
         exact absurd H (by simp)
        ·rw [if_neg c14] at H
         have c14b0 : (((rd_T114 l0_1 a1).f0) == 0) = false := beq_eq_false_iff_ne.mpr c14
         have c14b1 : (((rd_T114 l0_1 a1).f0) != 0) = true := bne_iff_ne.mpr c14
         replace H := Option.bind_eq_some_iff.mp H
         obtain ⟨t127, A150, H⟩ := H
         replace H : (if t127 ≥ 0 then (if x8_1.length < 17592186044416 then (r5s.l0 k1 a2 (x8_1 ++ [x9_1]) (wrap64 (x9_1 + 1)) a0_0 l0_1 ((rd_T114 l0_1 a1).f0) ((rd_T114 l0_1 a1).f1)) else (none)) else (r5s.l0 k1 a2 x8_1 (wrap64 (x9_1 + 1)) a0_0 l0_1 ((rd_T114 l0_1 a1).f0) ((rd_T114 l0_1 a1).f1))) = some r := H
         have A15 := aS A150
         clear A150
         by_cases c16 : t127 ≥ 0
         ·rw [if_pos c16] at H
          have c16b0 : decide (0 ≤ t127) = true := decide_eq_true c16
          clear c16
          by_cases c17 : x8_1.length < 17592186044416
          ·rw [if_pos c17] at H
           have LMc17 := aS c17
           clear c17
           obtain ⟨y128, hy128⟩ : ∃ y_ : List Int, y_ = (x8_1 ++ [x9_1]) := ⟨_, rfl⟩
           replace H : (r5s.l0 k1 a2 y128 (wrap64 (x9_1 + 1)) a0_0 l0_1 ((rd_T114 l0_1 a1).f0) ((rd_T114 l0_1 a1).f1)) = some r := by first | (rw [hy128]; with_reducible exact H) | (have H2_ := (Option.bind_some _ _).symm.trans H; rw [hy128]; with_reducible exact H2_) | (have H2_ := (Option.bind_some _ _).symm.trans H; with_reducible exact H2_) | with_reducible exact H | (rw [hy128]; exact H) | exact H
           have Ny128 := aS hy128
           clear hy128
           have H' := aS H
           clear H
           have hnb18 := NB123_125.out
           have hnc18 := NB125_123.out
           have hcz19_0 := cz BK123.out 0
           have hcz19_1 := cz BK123.out 1
           have hfz19_0 := fz BK123.out 0
           have hfz19_1 := fz BK123.out 1
           have hcz20_0 := cz BK125.out 0
           have hcz20_1 := cz BK125.out 1
           have hfz20_0 := fz BK125.out 0
           have hfz20_1 := fz BK125.out 1
           have p126 : 0 ≤ (x9_1 : Int) := of_decide_eq_true TA
           have q126 : x9_1 < (((rd_T114 l0_1 a1).f1).length : Int) := of_decide_eq_true TA
           obtain ⟨ad126, A126_0, c126_0, e126, hx126_0, hl126_0, hi126_0⟩ := at_L1 HR124_1.out x9_1 p126 q126
           cases e126
           replace hx126_0 := hx HB.out hx126_0
           have HR126_0 := aS hi126_0
           have HC126_0 := aS hl126_0
           clear hi126_0 hl126_0
           replace p126 := eq_true p126
           replace q126 := eq_true q126
           go_wp2_with (first | (go_at_call 39; (with_reducible refine (saronref00_Where.calls k1 _ _ (rd_L1 ((rd_T114 l0_1 a1).f1) x9_1) (Int.tmod a2 ((rd_T114 l0_1 a1).f0)) t127 _ ?side1 ?side2 A15.out).mono ?_); (case side1 => exact TC HR126_0.out); (case side2 => exact HC126_0.out); rintro e w' ⟨rfl, ⟨nd, rfl⟩⟩; (try first | exact ⟨rfl, _, World.drewN_drewN _ _ _⟩ | exact ⟨rfl, _, Eq.trans (World.drewN_drewN _ _ _) (congrArg (World.drewN _) (Nat.add_assoc _ _ _))⟩)) | ((with_reducible refine gate_builtin (b := .append) (xs := #[.tmp 32, .tmp 34]) rfl ?_); at_builtin; refine Kd.R_append (Kd.int .i64) (w0 := w) w.heap.size rfl (.tmp 32) (.tmp 34) 28 3 (.int .i64 0) 8 rfl Tryd.underlying28 info3 rfl (by decide) (by omega) u8 x8_1 x9_1 [.int .i64 x9_1] (fun _ => True) (fun _ => False) rfl rfl ?aP (fun _ hk => hk.elim) ?aF ?aO ?aB ?aS ?aL ?_; (case aP => exact rfl); (case aB => exact (TB2 GE123.out GE125.out)); (case aF => exact (fun _ _ => trivial)); (case aO => exact (TRo HO_8.out)); (case aS => exact (below_size (TB2 GE123.out GE125.out))); (case aL => have := LMc17.out; omega); intro v129 w21 ho hb hg hat; rw [← Ny128.out] at ho; have HO130 := aS (ho); replace BK123 := aS (blk_grown (g := gb123) (o := .cells #[.int .i64 a0_0, .slice (some ad124) l0_1.length c0_1] 24 (0, 0)) (TK BK123.out) hg (Kd.R_ne HO_8.out BK123.out (by decide))); replace BK125 := aS (blk_grown (g := gb125) (o := .cells #[.int .i64 ((rd_T114 l0_1 a1).f0), .slice (some ad126) ((rd_T114 l0_1 a1).f1).length c124_1] 114 (0, 0)) (TK BK125.out) hg (Kd.R_ne HO_8.out BK125.out (by decide))); replace HB := aS (hb); clear HO_8; clear ho hb hg hat))
           repeat (go_quiet (first | (go_at_call 39; (with_reducible refine (saronref00_Where.calls k1 _ _ (rd_L1 ((rd_T114 l0_1 a1).f1) x9_1) (Int.tmod a2 ((rd_T114 l0_1 a1).f0)) t127 _ ?side1 ?side2 A15.out).mono ?_); (case side1 => exact TC HR126_0.out); (case side2 => exact HC126_0.out); rintro e w' ⟨rfl, ⟨nd, rfl⟩⟩; (try first | exact ⟨rfl, _, World.drewN_drewN _ _ _⟩ | exact ⟨rfl, _, Eq.trans (World.drewN_drewN _ _ _) (congrArg (World.drewN _) (Nat.add_assoc _ _ _))⟩)) | ((with_reducible refine gate_builtin (b := .append) (xs := #[.tmp 32, .tmp 34]) rfl ?_); at_builtin; refine Kd.R_append (Kd.int .i64) (w0 := w) w.heap.size rfl (.tmp 32) (.tmp 34) 28 3 (.int .i64 0) 8 rfl Tryd.underlying28 info3 rfl (by decide) (by omega) u8 x8_1 x9_1 [.int .i64 x9_1] (fun _ => True) (fun _ => False) rfl rfl ?aP (fun _ hk => hk.elim) ?aF ?aO ?aB ?aS ?aL ?_; (case aP => exact rfl); (case aB => exact (TB2 GE123.out GE125.out)); (case aF => exact (fun _ _ => trivial)); (case aO => exact (TRo HO_8.out)); (case aS => exact (below_size (TB2 GE123.out GE125.out))); (case aL => have := LMc17.out; omega); intro v129 w21 ho hb hg hat; rw [← Ny128.out] at ho; have HO130 := aS (ho); replace BK123 := aS (blk_grown (g := gb123) (o := .cells #[.int .i64 a0_0, .slice (some ad124) l0_1.length c0_1] 24 (0, 0)) (TK BK123.out) hg (Kd.R_ne HO_8.out BK123.out (by decide))); replace BK125 := aS (blk_grown (g := gb125) (o := .cells #[.int .i64 ((rd_T114 l0_1 a1).f0), .slice (some ad126) ((rd_T114 l0_1 a1).f1).length c124_1] 114 (0, 0)) (TK BK125.out) hg (Kd.R_ne HO_8.out BK125.out (by decide))); replace HB := aS (hb); clear HO_8; clear ho hb hg hat)); try go_wp2_with (first | (go_at_call 39; (with_reducible refine (saronref00_Where.calls k1 _ _ (rd_L1 ((rd_T114 l0_1 a1).f1) x9_1) (Int.tmod a2 ((rd_T114 l0_1 a1).f0)) t127 _ ?side1 ?side2 A15.out).mono ?_); (case side1 => exact TC HR126_0.out); (case side2 => exact HC126_0.out); rintro e w' ⟨rfl, ⟨nd, rfl⟩⟩; (try first | exact ⟨rfl, _, World.drewN_drewN _ _ _⟩ | exact ⟨rfl, _, Eq.trans (World.drewN_drewN _ _ _) (congrArg (World.drewN _) (Nat.add_assoc _ _ _))⟩)) | ((with_reducible refine gate_builtin (b := .append) (xs := #[.tmp 32, .tmp 34]) rfl ?_); at_builtin; refine Kd.R_append (Kd.int .i64) (w0 := w) w.heap.size rfl (.tmp 32) (.tmp 34) 28 3 (.int .i64 0) 8 rfl Tryd.underlying28 info3 rfl (by decide) (by omega) u8 x8_1 x9_1 [.int .i64 x9_1] (fun _ => True) (fun _ => False) rfl rfl ?aP (fun _ hk => hk.elim) ?aF ?aO ?aB ?aS ?aL ?_; (case aP => exact rfl); (case aB => exact (TB2 GE123.out GE125.out)); (case aF => exact (fun _ _ => trivial)); (case aO => exact (TRo HO_8.out)); (case aS => exact (below_size (TB2 GE123.out GE125.out))); (case aL => have := LMc17.out; omega); intro v129 w21 ho hb hg hat; rw [← Ny128.out] at ho; have HO130 := aS (ho); replace BK123 := aS (blk_grown (g := gb123) (o := .cells #[.int .i64 a0_0, .slice (some ad124) l0_1.length c0_1] 24 (0, 0)) (TK BK123.out) hg (Kd.R_ne HO_8.out BK123.out (by decide))); replace BK125 := aS (blk_grown (g := gb125) (o := .cells #[.int .i64 ((rd_T114 l0_1 a1).f0), .slice (some ad126) ((rd_T114 l0_1 a1).f1).length c124_1] 114 (0, 0)) (TK BK125.out) hg (Kd.R_ne HO_8.out BK125.out (by decide))); replace HB := aS (hb); clear HO_8; clear ho hb hg hat)))
           go_roundg k1
           case measure => have := HK1.out; omega
           case rel => exact ⟨(y128), (wrap64 (x9_1 + 1)), TT, H', ⟨by have := HK1.out; omega⟩, ⟨TRo HO130.out⟩, ⟨TK BK123.out⟩, ⟨TK BK125.out⟩, ⟨TB2 GE123.out GE125.out⟩⟩
          ·rw [if_neg c17] at H
           exact absurd H (by simp)
         ·rw [if_neg c16] at H
          have c16b0 : decide (0 ≤ t127) = false := decide_eq_false c16
          clear c16
          have H' := aS H
          clear H
          have hnb22 := NB123_125.out
          have hnc22 := NB125_123.out
          have hcz23_0 := cz BK123.out 0
          have hcz23_1 := cz BK123.out 1
          have hfz23_0 := fz BK123.out 0
          have hfz23_1 := fz BK123.out 1
          have hcz24_0 := cz BK125.out 0
          have hcz24_1 := cz BK125.out 1
          have hfz24_0 := fz BK125.out 0
          have hfz24_1 := fz BK125.out 1
          have p126 : 0 ≤ (x9_1 : Int) := of_decide_eq_true TA
          have q126 : x9_1 < (((rd_T114 l0_1 a1).f1).length : Int) := of_decide_eq_true TA
          obtain ⟨ad126, A126_0, c126_0, e126, hx126_0, hl126_0, hi126_0⟩ := at_L1 HR124_1.out x9_1 p126 q126
          cases e126
          replace hx126_0 := hx HB.out hx126_0
          have HR126_0 := aS hi126_0
          have HC126_0 := aS hl126_0
          clear hi126_0 hl126_0
          replace p126 := eq_true p126
          replace q126 := eq_true q126
          go_wp2_with (first | (go_at_call 39; (with_reducible refine (saronref00_Where.calls k1 _ _ (rd_L1 ((rd_T114 l0_1 a1).f1) x9_1) (Int.tmod a2 ((rd_T114 l0_1 a1).f0)) t127 _ ?side1 ?side2 A15.out).mono ?_); (case side1 => exact TC HR126_0.out); (case side2 => exact HC126_0.out); rintro e w' ⟨rfl, ⟨nd, rfl⟩⟩; (try first | exact ⟨rfl, _, World.drewN_drewN _ _ _⟩ | exact ⟨rfl, _, Eq.trans (World.drewN_drewN _ _ _) (congrArg (World.drewN _) (Nat.add_assoc _ _ _))⟩)))
          repeat (go_quiet (first | (go_at_call 39; (with_reducible refine (saronref00_Where.calls k1 _ _ (rd_L1 ((rd_T114 l0_1 a1).f1) x9_1) (Int.tmod a2 ((rd_T114 l0_1 a1).f0)) t127 _ ?side1 ?side2 A15.out).mono ?_); (case side1 => exact TC HR126_0.out); (case side2 => exact HC126_0.out); rintro e w' ⟨rfl, ⟨nd, rfl⟩⟩; (try first | exact ⟨rfl, _, World.drewN_drewN _ _ _⟩ | exact ⟨rfl, _, Eq.trans (World.drewN_drewN _ _ _) (congrArg (World.drewN _) (Nat.add_assoc _ _ _))⟩))); try go_wp2_with (first | (go_at_call 39; (with_reducible refine (saronref00_Where.calls k1 _ _ (rd_L1 ((rd_T114 l0_1 a1).f1) x9_1) (Int.tmod a2 ((rd_T114 l0_1 a1).f0)) t127 _ ?side1 ?side2 A15.out).mono ?_); (case side1 => exact TC HR126_0.out); (case side2 => exact HC126_0.out); rintro e w' ⟨rfl, ⟨nd, rfl⟩⟩; (try first | exact ⟨rfl, _, World.drewN_drewN _ _ _⟩ | exact ⟨rfl, _, Eq.trans (World.drewN_drewN _ _ _) (congrArg (World.drewN _) (Nat.add_assoc _ _ _))⟩))))
          go_roundg k1
          case measure => have := HK1.out; omega
          case rel => exact ⟨(x8_1), (wrap64 (x9_1 + 1)), TT, H', ⟨by have := HK1.out; omega⟩, ⟨TRo HO_8.out⟩, ⟨TK BK123.out⟩, ⟨TK BK125.out⟩, ⟨TB2 GE123.out GE125.out⟩⟩
       ·rw [if_neg c13] at H
        exact absurd H (by simp)
      ·rw [if_neg c12] at H
       exact absurd H (by simp)
     ·rw [if_neg c11] at H
      have c11b0 : decide (x9_1 < a0_0) = false := decide_eq_false c11
      clear c11
      obtain rfl := Option.some.inj H
      have hnb25 := NB123_125.out
      have hnc25 := NB125_123.out
      have hcz26_0 := cz BK123.out 0
      have hcz26_1 := cz BK123.out 1
      have hfz26_0 := fz BK123.out 0
      have hfz26_1 := fz BK123.out 1
      go_wp2
      repeat (go_quiet (fail); try go_wp2)
      go_ret
      exact ⟨_, TR, by (with_reducible repeat (first | apply Kd.R_alloc | apply Kd.R_drewN | apply Kd.R_drew)); exact HO_8.out, TB2 GE123.out GE125.out⟩
  ·rw [if_neg c5] at H
   exact absurd H (by simp)
 ·rw [if_neg c4] at H
  exact absurd H (by simp)
end Go.Proofs.YtfdenclnneigfaaDoor.PRaspKeys
namespace Go.Proofs.YtfdenclnneigfaaDoor.PRaspKeys
open Go.RowKit Go.Proofs.YtfdenclnneigfaaDoorW.PrintWords Go.Proofs.YtfdenclnneigfaaDoorW.PrintLast Go.Proofs.YtfdenclnneigfaaDoorW.PrintMore Go.Proofs.YtfdenclnneigfaaDoor.M
attribute [local go_sem] max2_int min2_int max_two min_two max_three min_three max_four min_four   -- for this text's walks alone
def r5S.f (k : Nat) (a0_0 : Int) (l0_1 : List (S114)) (a1 : Int) (a2 : Int) : Option (List Int × Int) := (r5f.f a0_0 l0_1 a1).bind fun t132 => (if t132 = true then ((saronref00_Sits.f a2 0 100000).bind fun t133 => ((r5a.f k a0_0 l0_1 t133).bind fun t134 => (if t134 = 0 then ((r5s.f k a0_0 l0_1 a1 a2).bind fun t135 => (some (t135, 0))) else (some (([] : List Int), t134))))) else ((r5a.f k a0_0 l0_1 false).bind fun t138 => (if t138 = 0 then ((r5s.f k a0_0 l0_1 a1 a2).bind fun t139 => (some (t139, 0))) else (some (([] : List Int), t138)))))
theorem r5S.mono : ∀ a0 a1 a2 a3 k, LeO (r5S.f k a0 a1 a2 a3) (r5S.f (k + 1) a0 a1 a2 a3) := by
 intro a0 a1 a2 a3 k
 unfold r5S.f
 repeat' first
   | (with_reducible exact r5a.mono _ _ _ _)
   | (with_reducible exact r5s.mono _ _ _ _ _)
   | (with_reducible exact LeO.refl _)
   | (with_reducible exact LeO.none _)
   | (with_reducible refine LeO.ite ?_ ?_)
   | (with_reducible refine LeO.bind ?_ (fun _ => ?_))
   | exact r5a.mono _ _ _ _
   | exact r5s.mono _ _ _ _ _
   | exact LeO.none _
   | refine LeO.ite ?_ ?_
   | refine LeO.bind ?_ (fun _ => ?_)
def r5S.T1 : Bool × List (List Nat × List Nat) := (true, [([], []), ([], []), ([], []), ([1, 2], [1, 2]), ([3, 3], [3]), ([4], [4]), ([5, 4, 4], [4, 5]), ([4, 6], [4, 6]), ([0, 7, 6], [0, 7]), ([8, 8, 0, 1, 2, 3, 4, 5, 6, 7, 8], [8])])
def r5S.B1 : List Nat := [0, 0, 0, 6, 14, 30, 62, 126, 255, 511]
theorem r5S.tab1 : rtab .any (opsOf Tryd.f105 1) = r5S.T1 := by kernel_rfl
theorem r5S.bits1 : waitsOk r5S.T1.2 r5S.B1 = true := by kernel_rfl
set_option maxHeartbeats 8000000 in
set_option maxRecDepth 100000 in
theorem r5S.calls (k : Nat) (a0_0 : Int) (A0_1 : Option Addr) (c0_1 : Nat) (l0_1 : List (S114)) (a1 : Int) (a2 : Int) (r1 : List Int) (r2 : Int) (w : World) (hr0_1 : Kd.C k114 w A0_1 l0_1.length l0_1) (hc0_1 : l0_1.length ≤ c0_1) (h : r5S.f k a0_0 l0_1 a1 a2 = some (r1, r2)) :
  Calls Tryd.prog 105 #[.agg #[.int .i64 a0_0, .slice A0_1 l0_1.length c0_1], .int .i64 a1, .int .i64 a2] w fun e w' => ∃ v0_ : Value, e = .returned (.tuple #[v0_, .int .i64 r2]) ∧ Kd.R (Kd.int .i64) 3 w' w.heap.size (fun _ => True) v0_ r1 ∧ Below w.heap.size w w' := by
 have hu24 := Tryd.underlying24
 have HR0_1 := aS hr0_1
 have HC0_1 := aS hc0_1
 clear hr0_1 hc0_1
 have HB := aS (Below.refl w.heap.size w)
 have H : ((r5f.f a0_0 l0_1 a1).bind fun t132 => (if t132 = true then ((saronref00_Sits.f a2 0 100000).bind fun t133 => ((r5a.f k a0_0 l0_1 t133).bind fun t134 => (if t134 = 0 then ((r5s.f k a0_0 l0_1 a1 a2).bind fun t135 => (some (t135, 0))) else (some (([] : List Int), t134))))) else ((r5a.f k a0_0 l0_1 false).bind fun t138 => (if t138 = 0 then ((r5s.f k a0_0 l0_1 a1 a2).bind fun t139 => (some (t139, 0))) else (some (([] : List Int), t138)))))) = some (r1, r2) := h
 clear h
 replace H := Option.bind_eq_some_iff.mp H
 obtain ⟨t132, A40, H⟩ := H
 replace H : (if t132 = true then ((saronref00_Sits.f a2 0 100000).bind fun t133 => ((r5a.f k a0_0 l0_1 t133).bind fun t134 => (if t134 = 0 then ((r5s.f k a0_0 l0_1 a1 a2).bind fun t135 => (some (t135, 0))) else (some (([] : List Int), t134))))) else ((r5a.f k a0_0 l0_1 false).bind fun t138 => (if t138 = 0 then ((r5s.f k a0_0 l0_1 a1 a2).bind fun t139 => (some (t139, 0))) else (some (([] : List Int), t138))))) = some (r1, r2) := H
 have A4 := aS A40
 clear A40
 by_cases c5 : t132 = true
 ·subst c5
  have H1 : ((saronref00_Sits.f a2 0 100000).bind fun t133 => ((r5a.f k a0_0 l0_1 t133).bind fun t134 => (if t134 = 0 then ((r5s.f k a0_0 l0_1 a1 a2).bind fun t135 => (some (t135, 0))) else (some (([] : List Int), t134))))) = some (r1, r2) := by rw [if_pos rfl] at H; exact H
  clear H
  have H := H1
  clear H1
  replace H := Option.bind_eq_some_iff.mp H
  obtain ⟨t133, A60, H⟩ := H
  replace H : ((r5a.f k a0_0 l0_1 t133).bind fun t134 => (if t134 = 0 then ((r5s.f k a0_0 l0_1 a1 a2).bind fun t135 => (some (t135, 0))) else (some (([] : List Int), t134)))) = some (r1, r2) := H
  have A6 := aS A60
  clear A60
  replace H := Option.bind_eq_some_iff.mp H
  obtain ⟨t134, A70, H⟩ := H
  replace H : (if t134 = 0 then ((r5s.f k a0_0 l0_1 a1 a2).bind fun t135 => (some (t135, 0))) else (some (([] : List Int), t134))) = some (r1, r2) := H
  have A7 := aS A70
  clear A70
  by_cases c8 : t134 = 0
  ·rw [if_pos c8] at H
   have c8b0 : (t134 == 0) = true := beq_iff_eq.mpr c8
   have c8b1 : (t134 != 0) = false := bne_eq_false_iff_eq.mpr c8
   clear c8
   replace H := Option.bind_eq_some_iff.mp H
   obtain ⟨t135, A90, H⟩ := H
   replace H : (some (t135, 0)) = some (r1, r2) := H
   have A9 := aS A90
   clear A90
   simp only [Option.some.injEq, Prod.mk.injEq] at H
   obtain ⟨rfl, rfl⟩ := H
   go_enter Tryd.func105, Tryd.ntmps105
   try go_wp2_with (first | ((with_reducible refine gate_dst (N := 3) rfl ?_); refine box_event ?hg (N := 3) ?hd (cs := #[.int .i64 a0_0, .slice A0_1 l0_1.length c0_1]) (t := 24) ?hr ?_; (case hd => rfl); (case hg => rfl); (case hr => exact TS); intro gb131 hg w10 hbox hb; have BK131 := aS (hbox); have GW131 := aS ((TG : w.heap.size ≤ gb131)); have GE131 := aS ((TG : w.heap.size ≤ gb131)); replace HB := aS (below_step TB hb); clear hb hbox hg))
   have n0_ := aS (blk_drew BK131.out)
   have n1_ := aS (below_drew1 HB.out)
   clear BK131
   clear HB
   have BK131 := n0_
   have HB := n1_
   clear n0_ n1_
   refine start_ (n := 10) (S := fun w' => w'.cell? ⟨gb131, 0, none⟩ = some (.int .i64 a0_0) ∧ w'.cell? ⟨gb131, 1, none⟩ = some (.slice A0_1 l0_1.length c0_1)) (ds := []) (.replicate 10 false) (by kernel_rfl) rfl rfl ⟨cz BK131.out 0, cz BK131.out 1⟩ (fun hHeld => ?_); refine with_tabW r5S.tab1 r5S.bits1 (fun HT_ HW_ => ?_)
   generalize w10.drew = w11 at BK131 HB hHeld ⊢
   refine pT 2 11 (bt 10 4) (k := ?_)
   refine tT2 0 9 (bt 10 5) hHeld (k := ?_)
   refine tT2 1 10 (bt 10 7) hHeld (k := ?_)
   refine one_ (i := 3) (N := some 12) (bt 10 15) rfl rfl (one_of HT_.out (by kernel_rfl)) (by decide) (fun K hK => ?_)
   refine goes_ Tryd.func108 (by kernel_rfl) rfl #[.agg #[.int .i64 a0_0, .slice A0_1 l0_1.length c0_1], .int .i64 a1] (by rfl) rfl rfl TM ?_
   with_reducible refine (r5f.calls a0_0 _ _ l0_1 a1 true _ ?side1 ?side2 A4.out).mono ?_
   (case side1 => exact TC HR0_1.out)
   (case side2 => exact HC0_1.out)
   rintro e w12 ⟨rfl, hb⟩
   refine ⟨_, rfl, ?_⟩
   have n0_ := aS (TKb hb BK131.out)
   have n1_ := aS (below_step (TB1 GE131.out) hb)
   clear BK131
   clear HB
   have BK131 := n0_
   have HB := n1_
   clear n0_ n1_
   (try clear hb)
   (try clear hb2)
   (try clear hk)
   (try clear hi)
   refine hK.out _ _ ⟨cz BK131.out 0, cz BK131.out 1⟩ (fun hHeld => ?_)
   clear hK K
   refine norm_ (a' := ?_) ?_ ?_
   rotate_left
   ·show Act.put _ (some 12) _ = _
    simp only [Act.put, lA, lZ, lS, i64_w, i32_w]
    rfl
   refine pT 4 13 (bt 10 31) (k := ?_)
   refine pT 5 14 (bt 10 63) (k := ?_)
   refine one_ (i := 6) (N := some 15) (bt 10 127) rfl rfl (one_of HT_.out (by kernel_rfl)) (by decide) (fun K hK => ?_)
   refine goes_ Tryd.func40 (by kernel_rfl) rfl #[.int .i64 a2, .int .i64 0, .int .i64 100000] (by rfl) rfl rfl TM ?_
   with_reducible refine (saronref00_Sits.calls a2 0 100000 t133 _ A6.out).mono ?_
   rintro e w' ⟨rfl, ⟨nd, rfl⟩⟩
   refine ⟨_, rfl, ?_⟩
   refine hK.out _ _ ⟨cz BK131.out 0, cz BK131.out 1⟩ (fun hHeld => ?_)
   clear hK K
   refine norm_ (a' := ?_) ?_ ?_
   rotate_left
   ·show Act.put _ (some 15) _ = _
    simp only [Act.put, lA, lZ, lS, i64_w, i32_w]
    rfl
   refine pT 7 16 (bt 10 255) (k := ?_)
   refine one_ (i := 8) (N := some 17) (bt 10 511) rfl rfl (one_of HT_.out (by kernel_rfl)) (by decide) (fun K hK => ?_)
   refine goes_ Tryd.func107 (by kernel_rfl) rfl #[.agg #[.int .i64 a0_0, .slice A0_1 l0_1.length c0_1], .bool t133] (by rfl) rfl rfl TM ?_
   with_reducible refine (r5a.calls k a0_0 _ _ l0_1 t133 t134 _ ?side1 ?side2 A7.out).mono ?_
   (case side1 => exact TD HR0_1.out (TB1 GE131.out))
   (case side2 => exact HC0_1.out)
   rintro e w13 ⟨rfl, hb⟩
   refine ⟨_, rfl, ?_⟩
   have n0_ := aS (TKb hb BK131.out)
   have n1_ := aS (below_step (TB1 GE131.out) hb)
   clear BK131
   clear HB
   have BK131 := n0_
   have HB := n1_
   clear n0_ n1_
   (try clear hb)
   (try clear hb2)
   (try clear hk)
   (try clear hi)
   refine hK.out _ _ ⟨cz BK131.out 0, cz BK131.out 1⟩ (fun hHeld => ?_)
   clear hK K
   refine norm_ (a' := ?_) ?_ ?_
   rotate_left
   ·show Act.put _ (some 17) _ = _
    simp only [Act.put, lA, lZ, lS, i64_w, i32_w]
    rfl
   refine pT 9 8 (bt 10 1023) (k := ?_)
   refine done_ (done_of HT_.out (by kernel_rfl)) ?_
   have hcz14_0 := cz BK131.out 0
   have hcz14_1 := cz BK131.out 1
   have hfz14_0 := fz BK131.out 0
   have hfz14_1 := fz BK131.out 1
   try go_wp2_with (first | ((with_reducible refine gate_callee (f := 109) rfl ?_); refine goesL_ (some 24) rfl rfl Tryd.func109 (by kernel_rfl) rfl #[.agg #[.int .i64 a0_0, .slice A0_1 l0_1.length c0_1], .int .i64 a1, .int .i64 a2] rfl TM ?_; (with_reducible refine (r5s.calls k a0_0 _ _ l0_1 a1 a2 t135 _ ?side1 ?side2 A9.out).mono ?_); (case side1 => exact TC HR0_1.out); (case side2 => exact HC0_1.out); rintro e w15 ⟨v136, rfl, ho0, hb⟩; refine ⟨_, rfl, ?_⟩; have HO137 := aS (Kd.R_lower ho0 (below_size (TB1 GE131.out))); replace BK131 := aS (TKb hb BK131.out); replace HB := aS (below_step (TB1 GE131.out) hb); (try clear hb); (try clear hb2); (try clear hk); (try clear hi); (try clear ho0)))
   go_ret2
   exact ⟨_, TR, by (with_reducible repeat (first | apply Kd.R_alloc | apply Kd.R_drewN | apply Kd.R_drew)); exact HO137.out, TB1 GE131.out⟩
  ·rw [if_neg c8] at H
   have c8b0 : (t134 == 0) = false := beq_eq_false_iff_ne.mpr c8
   have c8b1 : (t134 != 0) = true := bne_iff_ne.mpr c8
   simp only [Option.some.injEq, Prod.mk.injEq] at H
   obtain ⟨rfl, rfl⟩ := H
   go_enter Tryd.func105, Tryd.ntmps105
   try go_wp2_with (first | ((with_reducible refine gate_dst (N := 3) rfl ?_); refine box_event ?hg (N := 3) ?hd (cs := #[.int .i64 a0_0, .slice A0_1 l0_1.length c0_1]) (t := 24) ?hr ?_; (case hd => rfl); (case hg => rfl); (case hr => exact TS); intro gb131 hg w16 hbox hb; have BK131 := aS (hbox); have GW131 := aS ((TG : w.heap.size ≤ gb131)); have GE131 := aS ((TG : w.heap.size ≤ gb131)); replace HB := aS (below_step TB hb); clear hb hbox hg))
   have n0_ := aS (blk_drew BK131.out)
   have n1_ := aS (below_drew1 HB.out)
   clear BK131
   clear HB
   have BK131 := n0_
   have HB := n1_
   clear n0_ n1_
   refine start_ (n := 10) (S := fun w' => w'.cell? ⟨gb131, 0, none⟩ = some (.int .i64 a0_0) ∧ w'.cell? ⟨gb131, 1, none⟩ = some (.slice A0_1 l0_1.length c0_1)) (ds := []) (.replicate 10 false) (by kernel_rfl) rfl rfl ⟨cz BK131.out 0, cz BK131.out 1⟩ (fun hHeld => ?_); refine with_tabW r5S.tab1 r5S.bits1 (fun HT_ HW_ => ?_)
   generalize w16.drew = w17 at BK131 HB hHeld ⊢
   refine pT 2 11 (bt 10 4) (k := ?_)
   refine tT2 0 9 (bt 10 5) hHeld (k := ?_)
   refine tT2 1 10 (bt 10 7) hHeld (k := ?_)
   refine one_ (i := 3) (N := some 12) (bt 10 15) rfl rfl (one_of HT_.out (by kernel_rfl)) (by decide) (fun K hK => ?_)
   refine goes_ Tryd.func108 (by kernel_rfl) rfl #[.agg #[.int .i64 a0_0, .slice A0_1 l0_1.length c0_1], .int .i64 a1] (by rfl) rfl rfl TM ?_
   with_reducible refine (r5f.calls a0_0 _ _ l0_1 a1 true _ ?side1 ?side2 A4.out).mono ?_
   (case side1 => exact TC HR0_1.out)
   (case side2 => exact HC0_1.out)
   rintro e w18 ⟨rfl, hb⟩
   refine ⟨_, rfl, ?_⟩
   have n0_ := aS (TKb hb BK131.out)
   have n1_ := aS (below_step (TB1 GE131.out) hb)
   clear BK131
   clear HB
   have BK131 := n0_
   have HB := n1_
   clear n0_ n1_
   (try clear hb)
   (try clear hb2)
   (try clear hk)
   (try clear hi)
   refine hK.out _ _ ⟨cz BK131.out 0, cz BK131.out 1⟩ (fun hHeld => ?_)
   clear hK K
   refine norm_ (a' := ?_) ?_ ?_
   rotate_left
   ·show Act.put _ (some 12) _ = _
    simp only [Act.put, lA, lZ, lS, i64_w, i32_w]
    rfl
   refine pT 4 13 (bt 10 31) (k := ?_)
   refine pT 5 14 (bt 10 63) (k := ?_)
   refine one_ (i := 6) (N := some 15) (bt 10 127) rfl rfl (one_of HT_.out (by kernel_rfl)) (by decide) (fun K hK => ?_)
   refine goes_ Tryd.func40 (by kernel_rfl) rfl #[.int .i64 a2, .int .i64 0, .int .i64 100000] (by rfl) rfl rfl TM ?_
   with_reducible refine (saronref00_Sits.calls a2 0 100000 t133 _ A6.out).mono ?_
   rintro e w' ⟨rfl, ⟨nd, rfl⟩⟩
   refine ⟨_, rfl, ?_⟩
   refine hK.out _ _ ⟨cz BK131.out 0, cz BK131.out 1⟩ (fun hHeld => ?_)
   clear hK K
   refine norm_ (a' := ?_) ?_ ?_
   rotate_left
   ·show Act.put _ (some 15) _ = _
    simp only [Act.put, lA, lZ, lS, i64_w, i32_w]
    rfl
   refine pT 7 16 (bt 10 255) (k := ?_)
   refine one_ (i := 8) (N := some 17) (bt 10 511) rfl rfl (one_of HT_.out (by kernel_rfl)) (by decide) (fun K hK => ?_)
   refine goes_ Tryd.func107 (by kernel_rfl) rfl #[.agg #[.int .i64 a0_0, .slice A0_1 l0_1.length c0_1], .bool t133] (by rfl) rfl rfl TM ?_
   with_reducible refine (r5a.calls k a0_0 _ _ l0_1 t133 t134 _ ?side1 ?side2 A7.out).mono ?_
   (case side1 => exact TD HR0_1.out (TB1 GE131.out))
   (case side2 => exact HC0_1.out)
   rintro e w19 ⟨rfl, hb⟩
   refine ⟨_, rfl, ?_⟩
   have n0_ := aS (TKb hb BK131.out)
   have n1_ := aS (below_step (TB1 GE131.out) hb)
   clear BK131
   clear HB
   have BK131 := n0_
   have HB := n1_
   clear n0_ n1_
   (try clear hb)
   (try clear hb2)
   (try clear hk)
   (try clear hi)
   refine hK.out _ _ ⟨cz BK131.out 0, cz BK131.out 1⟩ (fun hHeld => ?_)
   clear hK K
   refine norm_ (a' := ?_) ?_ ?_
   rotate_left
   ·show Act.put _ (some 17) _ = _
    simp only [Act.put, lA, lZ, lS, i64_w, i32_w]
    rfl
   refine pT 9 8 (bt 10 1023) (k := ?_)
   refine done_ (done_of HT_.out (by kernel_rfl)) ?_
   try go_wp2
   go_ret2
   exact ⟨_, TR, by first | exact Kd.R_nil _ _ _ _ _ | exact Kd.N_nil _ _ _ _ _ | exact Kd.V_nil _ _ _ _ _ | exact Kd.Q_nil _ _ _ _ _ | exact Kd.S_nil _ _ _ _ _, TB1 GE131.out⟩
 ·replace c5 := Bool.eq_false_iff.mpr c5
  subst c5
  have H1 : ((r5a.f k a0_0 l0_1 false).bind fun t138 => (if t138 = 0 then ((r5s.f k a0_0 l0_1 a1 a2).bind fun t139 => (some (t139, 0))) else (some (([] : List Int), t138)))) = some (r1, r2) := by rw [if_neg (show ¬ (false = true) by decide)] at H; exact H
  clear H
  have H := H1
  clear H1
  replace H := Option.bind_eq_some_iff.mp H
  obtain ⟨t138, A200, H⟩ := H
  replace H : (if t138 = 0 then ((r5s.f k a0_0 l0_1 a1 a2).bind fun t139 => (some (t139, 0))) else (some (([] : List Int), t138))) = some (r1, r2) := H
  have A20 := aS A200
  clear A200
  by_cases c21 : t138 = 0
  ·rw [if_pos c21] at H
   have c21b0 : (t138 == 0) = true := beq_iff_eq.mpr c21
   have c21b1 : (t138 != 0) = false := bne_eq_false_iff_eq.mpr c21
   clear c21
   replace H := Option.bind_eq_some_iff.mp H
   obtain ⟨t139, A220, H⟩ := H
   replace H : (some (t139, 0)) = some (r1, r2) := H
   have A22 := aS A220
   clear A220
   simp only [Option.some.injEq, Prod.mk.injEq] at H
   obtain ⟨rfl, rfl⟩ := H
   go_enter Tryd.func105, Tryd.ntmps105
   try go_wp2_with (first | ((with_reducible refine gate_dst (N := 3) rfl ?_); refine box_event ?hg (N := 3) ?hd (cs := #[.int .i64 a0_0, .slice A0_1 l0_1.length c0_1]) (t := 24) ?hr ?_; (case hd => rfl); (case hg => rfl); (case hr => exact TS); intro gb131 hg w23 hbox hb; have BK131 := aS (hbox); have GW131 := aS ((TG : w.heap.size ≤ gb131)); have GE131 := aS ((TG : w.heap.size ≤ gb131)); replace HB := aS (below_step TB hb); clear hb hbox hg))
   have n0_ := aS (blk_drew BK131.out)
   have n1_ := aS (below_drew1 HB.out)
   clear BK131
   clear HB
   have BK131 := n0_
   have HB := n1_
   clear n0_ n1_
   refine start_ (n := 10) (S := fun w' => w'.cell? ⟨gb131, 0, none⟩ = some (.int .i64 a0_0) ∧ w'.cell? ⟨gb131, 1, none⟩ = some (.slice A0_1 l0_1.length c0_1)) (ds := []) (.replicate 10 false) (by kernel_rfl) rfl rfl ⟨cz BK131.out 0, cz BK131.out 1⟩ (fun hHeld => ?_); refine with_tabW r5S.tab1 r5S.bits1 (fun HT_ HW_ => ?_)
   generalize w23.drew = w24 at BK131 HB hHeld ⊢
   refine pT 2 11 (bt 10 4) (k := ?_)
   refine tT2 0 9 (bt 10 5) hHeld (k := ?_)
   refine tT2 1 10 (bt 10 7) hHeld (k := ?_)
   refine one_ (i := 3) (N := some 12) (bt 10 15) rfl rfl (one_of HT_.out (by kernel_rfl)) (by decide) (fun K hK => ?_)
   refine goes_ Tryd.func108 (by kernel_rfl) rfl #[.agg #[.int .i64 a0_0, .slice A0_1 l0_1.length c0_1], .int .i64 a1] (by rfl) rfl rfl TM ?_
   with_reducible refine (r5f.calls a0_0 _ _ l0_1 a1 false _ ?side1 ?side2 A4.out).mono ?_
   (case side1 => exact TC HR0_1.out)
   (case side2 => exact HC0_1.out)
   rintro e w25 ⟨rfl, hb⟩
   refine ⟨_, rfl, ?_⟩
   have n0_ := aS (TKb hb BK131.out)
   have n1_ := aS (below_step (TB1 GE131.out) hb)
   clear BK131
   clear HB
   have BK131 := n0_
   have HB := n1_
   clear n0_ n1_
   (try clear hb)
   (try clear hb2)
   (try clear hk)
   (try clear hi)
   refine hK.out _ _ ⟨cz BK131.out 0, cz BK131.out 1⟩ (fun hHeld => ?_)
   clear hK K
   refine norm_ (a' := ?_) ?_ ?_
   rotate_left
   ·show Act.put _ (some 12) _ = _
    simp only [Act.put, lA, lZ, lS, i64_w, i32_w]
    rfl
   refine pT 4 13 (bt 10 31) (k := ?_)
   refine pU 5 14 (bt 10 63) (k := ?_)
   refine pU 6 15 (bt 10 127) (k := ?_)
   refine pT 7 16 (bt 10 255) (k := ?_)
   refine one_ (i := 8) (N := some 17) (bt 10 511) rfl rfl (one_of HT_.out (by kernel_rfl)) (by decide) (fun K hK => ?_)
   refine goes_ Tryd.func107 (by kernel_rfl) rfl #[.agg #[.int .i64 a0_0, .slice A0_1 l0_1.length c0_1], .bool false] (by rfl) rfl rfl TM ?_
   with_reducible refine (r5a.calls k a0_0 _ _ l0_1 false t138 _ ?side1 ?side2 A20.out).mono ?_
   (case side1 => exact TC HR0_1.out)
   (case side2 => exact HC0_1.out)
   rintro e w26 ⟨rfl, hb⟩
   refine ⟨_, rfl, ?_⟩
   have n0_ := aS (TKb hb BK131.out)
   have n1_ := aS (below_step (TB1 GE131.out) hb)
   clear BK131
   clear HB
   have BK131 := n0_
   have HB := n1_
   clear n0_ n1_
   (try clear hb)
   (try clear hb2)
   (try clear hk)
   (try clear hi)
   refine hK.out _ _ ⟨cz BK131.out 0, cz BK131.out 1⟩ (fun hHeld => ?_)
   clear hK K
   refine norm_ (a' := ?_) ?_ ?_
   rotate_left
   ·show Act.put _ (some 17) _ = _
    simp only [Act.put, lA, lZ, lS, i64_w, i32_w]
    rfl
   refine pT 9 8 (bt 10 1023) (k := ?_)
   refine done_ (done_of HT_.out (by kernel_rfl)) ?_
   have hcz27_0 := cz BK131.out 0
   have hcz27_1 := cz BK131.out 1
   have hfz27_0 := fz BK131.out 0
   have hfz27_1 := fz BK131.out 1
   try go_wp2_with (first | ((with_reducible refine gate_callee (f := 109) rfl ?_); refine goesL_ (some 24) rfl rfl Tryd.func109 (by kernel_rfl) rfl #[.agg #[.int .i64 a0_0, .slice A0_1 l0_1.length c0_1], .int .i64 a1, .int .i64 a2] rfl TM ?_; (with_reducible refine (r5s.calls k a0_0 _ _ l0_1 a1 a2 t139 _ ?side1 ?side2 A22.out).mono ?_); (case side1 => exact TC HR0_1.out); (case side2 => exact HC0_1.out); rintro e w28 ⟨v140, rfl, ho0, hb⟩; refine ⟨_, rfl, ?_⟩; have HO141 := aS (Kd.R_lower ho0 (below_size (TB1 GE131.out))); replace BK131 := aS (TKb hb BK131.out); replace HB := aS (below_step (TB1 GE131.out) hb); (try clear hb); (try clear hb2); (try clear hk); (try clear hi); (try clear ho0)))
   go_ret2
   exact ⟨_, TR, by (with_reducible repeat (first | apply Kd.R_alloc | apply Kd.R_drewN | apply Kd.R_drew)); exact HO141.out, TB1 GE131.out⟩
  ·rw [if_neg c21] at H
   have c21b0 : (t138 == 0) = false := beq_eq_false_iff_ne.mpr c21
   have c21b1 : (t138 != 0) = true := bne_iff_ne.mpr c21
   simp only [Option.some.injEq, Prod.mk.injEq] at H
   obtain ⟨rfl, rfl⟩ := H
   go_enter Tryd.func105, Tryd.ntmps105
   try go_wp2_with (first | ((with_reducible refine gate_dst (N := 3) rfl ?_); refine box_event ?hg (N := 3) ?hd (cs := #[.int .i64 a0_0, .slice A0_1 l0_1.length c0_1]) (t := 24) ?hr ?_; (case hd => rfl); (case hg => rfl); (case hr => exact TS); intro gb131 hg w29 hbox hb; have BK131 := aS (hbox); have GW131 := aS ((TG : w.heap.size ≤ gb131)); have GE131 := aS ((TG : w.heap.size ≤ gb131)); replace HB := aS (below_step TB hb); clear hb hbox hg))
   have n0_ := aS (blk_drew BK131.out)
   have n1_ := aS (below_drew1 HB.out)
   clear BK131
   clear HB
   have BK131 := n0_
   have HB := n1_
   clear n0_ n1_
   refine start_ (n := 10) (S := fun w' => w'.cell? ⟨gb131, 0, none⟩ = some (.int .i64 a0_0) ∧ w'.cell? ⟨gb131, 1, none⟩ = some (.slice A0_1 l0_1.length c0_1)) (ds := []) (.replicate 10 false) (by kernel_rfl) rfl rfl ⟨cz BK131.out 0, cz BK131.out 1⟩ (fun hHeld => ?_); refine with_tabW r5S.tab1 r5S.bits1 (fun HT_ HW_ => ?_)
   generalize w29.drew = w30 at BK131 HB hHeld ⊢
   refine pT 2 11 (bt 10 4) (k := ?_)
   refine tT2 0 9 (bt 10 5) hHeld (k := ?_)
   refine tT2 1 10 (bt 10 7) hHeld (k := ?_)
   refine one_ (i := 3) (N := some 12) (bt 10 15) rfl rfl (one_of HT_.out (by kernel_rfl)) (by decide) (fun K hK => ?_)
   refine goes_ Tryd.func108 (by kernel_rfl) rfl #[.agg #[.int .i64 a0_0, .slice A0_1 l0_1.length c0_1], .int .i64 a1] (by rfl) rfl rfl TM ?_
   with_reducible refine (r5f.calls a0_0 _ _ l0_1 a1 false _ ?side1 ?side2 A4.out).mono ?_
   (case side1 => exact TC HR0_1.out)
   (case side2 => exact HC0_1.out)
   rintro e w31 ⟨rfl, hb⟩
   refine ⟨_, rfl, ?_⟩
   have n0_ := aS (TKb hb BK131.out)
   have n1_ := aS (below_step (TB1 GE131.out) hb)
   clear BK131
   clear HB
   have BK131 := n0_
   have HB := n1_
   clear n0_ n1_
   (try clear hb)
   (try clear hb2)
   (try clear hk)
   (try clear hi)
   refine hK.out _ _ ⟨cz BK131.out 0, cz BK131.out 1⟩ (fun hHeld => ?_)
   clear hK K
   refine norm_ (a' := ?_) ?_ ?_
   rotate_left
   ·show Act.put _ (some 12) _ = _
    simp only [Act.put, lA, lZ, lS, i64_w, i32_w]
    rfl
   refine pT 4 13 (bt 10 31) (k := ?_)
   refine pU 5 14 (bt 10 63) (k := ?_)
   refine pU 6 15 (bt 10 127) (k := ?_)
   refine pT 7 16 (bt 10 255) (k := ?_)
   refine one_ (i := 8) (N := some 17) (bt 10 511) rfl rfl (one_of HT_.out (by kernel_rfl)) (by decide) (fun K hK => ?_)
   refine goes_ Tryd.func107 (by kernel_rfl) rfl #[.agg #[.int .i64 a0_0, .slice A0_1 l0_1.length c0_1], .bool false] (by rfl) rfl rfl TM ?_
   with_reducible refine (r5a.calls k a0_0 _ _ l0_1 false t138 _ ?side1 ?side2 A20.out).mono ?_
   (case side1 => exact TC HR0_1.out)
   (case side2 => exact HC0_1.out)
   rintro e w32 ⟨rfl, hb⟩
   refine ⟨_, rfl, ?_⟩
   have n0_ := aS (TKb hb BK131.out)
   have n1_ := aS (below_step (TB1 GE131.out) hb)
   clear BK131
   clear HB
   have BK131 := n0_
   have HB := n1_
   clear n0_ n1_
   (try clear hb)
   (try clear hb2)
   (try clear hk)
   (try clear hi)
   refine hK.out _ _ ⟨cz BK131.out 0, cz BK131.out 1⟩ (fun hHeld => ?_)
   clear hK K
   refine norm_ (a' := ?_) ?_ ?_
   rotate_left
   ·show Act.put _ (some 17) _ = _
    simp only [Act.put, lA, lZ, lS, i64_w, i32_w]
    rfl
   refine pT 9 8 (bt 10 1023) (k := ?_)
   refine done_ (done_of HT_.out (by kernel_rfl)) ?_
   try go_wp2
   go_ret2
   exact ⟨_, TR, by first | exact Kd.R_nil _ _ _ _ _ | exact Kd.N_nil _ _ _ _ _ | exact Kd.V_nil _ _ _ _ _ | exact Kd.Q_nil _ _ _ _ _ | exact Kd.S_nil _ _ _ _ _, TB1 GE131.out⟩
def rN.f (k : Nat) (l0_0 : List Int) (l0_1 : List Int) (a0_2 : Int) (a0_3 : Int) : Option (Bool) := (saronref09_areTones.f k l0_0 1 24).bind fun t146 => (if t146 = true then ((saronref00_Grows.f k l0_1 (l0_0.length : Int)).bind fun t147 => (if t147 = true then ((saronref00_Sits.f a0_2 0 6).bind fun t148 => (if t148 = true then ((saronref00_Sits.f a0_3 0 6).bind fun t149 => (some t149)) else (some false))) else (some false))) else (some false))
theorem rN.mono : ∀ a0 a1 a2 a3 k, LeO (rN.f k a0 a1 a2 a3) (rN.f (k + 1) a0 a1 a2 a3) := by
 intro a0 a1 a2 a3 k
 unfold rN.f
 repeat' first
   | (with_reducible exact saronref00_Grows.mono _ _ _)
   | (with_reducible exact saronref09_areTones.mono _ _ _ _)
   | (with_reducible exact LeO.refl _)
   | (with_reducible exact LeO.none _)
   | (with_reducible refine LeO.ite ?_ ?_)
   | (with_reducible refine LeO.bind ?_ (fun _ => ?_))
   | exact saronref00_Grows.mono _ _ _
   | exact saronref09_areTones.mono _ _ _ _
   | exact LeO.none _
   | refine LeO.ite ?_ ?_
   | refine LeO.bind ?_ (fun _ => ?_)
set_option maxHeartbeats 8000000 in
set_option maxRecDepth 100000 in
theorem rN.calls (k : Nat) (A0_0 : Option Addr) (c0_0 : Nat) (l0_0 : List Int) (A0_1 : Option Addr) (c0_1 : Nat) (l0_1 : List Int) (a0_2 : Int) (a0_3 : Int) (r : Bool) (w : World) (hr0_0 : Kd.C (Kd.int .i64) w A0_0 l0_0.length l0_0) (hc0_0 : l0_0.length ≤ c0_0) (hr0_1 : Kd.C (Kd.int .i64) w A0_1 l0_1.length l0_1) (hc0_1 : l0_1.length ≤ c0_1) (h : rN.f k l0_0 l0_1 a0_2 a0_3 = some r) :
  Calls Tryd.prog 56 #[.agg #[.slice A0_0 l0_0.length c0_0, .slice A0_1 l0_1.length c0_1, .int .i64 a0_2, .int .i64 a0_3]] w fun e w' => e = .returned (.bool r) ∧ Below w.heap.size w w' := by
 have hu30 := Tryd.underlying30
 have HR0_0 := aS hr0_0
 have HC0_0 := aS hc0_0
 clear hr0_0 hc0_0
 have HR0_1 := aS hr0_1
 have HC0_1 := aS hc0_1
 clear hr0_1 hc0_1
 have HB := aS (Below.refl w.heap.size w)
 have H : ((saronref09_areTones.f k l0_0 1 24).bind fun t146 => (if t146 = true then ((saronref00_Grows.f k l0_1 (l0_0.length : Int)).bind fun t147 => (if t147 = true then ((saronref00_Sits.f a0_2 0 6).bind fun t148 => (if t148 = true then ((saronref00_Sits.f a0_3 0 6).bind fun t149 => (some t149)) else (some false))) else (some false))) else (some false))) = some r := h
 clear h
 replace H := Option.bind_eq_some_iff.mp H
 obtain ⟨t146, A20, H⟩ := H
 replace H : (if t146 = true then ((saronref00_Grows.f k l0_1 (l0_0.length : Int)).bind fun t147 => (if t147 = true then ((saronref00_Sits.f a0_2 0 6).bind fun t148 => (if t148 = true then ((saronref00_Sits.f a0_3 0 6).bind fun t149 => (some t149)) else (some false))) else (some false))) else (some false)) = some r := H
 have A2 := aS A20
 clear A20
 by_cases c3 : t146 = true
 ·subst c3
  have H1 : ((saronref00_Grows.f k l0_1 (l0_0.length : Int)).bind fun t147 => (if t147 = true then ((saronref00_Sits.f a0_2 0 6).bind fun t148 => (if t148 = true then ((saronref00_Sits.f a0_3 0 6).bind fun t149 => (some t149)) else (some false))) else (some false))) = some r := by rw [if_pos rfl] at H; exact H
  clear H
  have H := H1
  clear H1
  replace H := Option.bind_eq_some_iff.mp H
  obtain ⟨t147, A40, H⟩ := H
  replace H : (if t147 = true then ((saronref00_Sits.f a0_2 0 6).bind fun t148 => (if t148 = true then ((saronref00_Sits.f a0_3 0 6).bind fun t149 => (some t149)) else (some false))) else (some false)) = some r := H
  have A4 := aS A40
  clear A40
  by_cases c5 : t147 = true
  ·subst c5
   have H1 : ((saronref00_Sits.f a0_2 0 6).bind fun t148 => (if t148 = true then ((saronref00_Sits.f a0_3 0 6).bind fun t149 => (some t149)) else (some false))) = some r := by rw [if_pos rfl] at H; exact H
   clear H
   have H := H1
   clear H1
   replace H := Option.bind_eq_some_iff.mp H
   obtain ⟨t148, A60, H⟩ := H
   replace H : (if t148 = true then ((saronref00_Sits.f a0_3 0 6).bind fun t149 => (some t149)) else (some false)) = some r := H
   have A6 := aS A60
   clear A60
   by_cases c7 : t148 = true
   ·subst c7
    have H1 : ((saronref00_Sits.f a0_3 0 6).bind fun t149 => (some t149)) = some r := by rw [if_pos rfl] at H; exact H
    clear H
    have H := H1
    clear H1
    replace H := Option.bind_eq_some_iff.mp H
    obtain ⟨t149, A80, H⟩ := H
    replace H : (some t149) = some r := H
    have A8 := aS A80
    clear A80
    obtain rfl := Option.some.inj H
    go_enter Tryd.func56, Tryd.ntmps56
    go_wp2_with (first | ((with_reducible refine gate_dst (N := 1) rfl ?_); (try (refine gate_guard (by rfl) ?_; dsimp only)); refine box_event ?hg (N := 1) ?hd (cs := #[.slice A0_0 l0_0.length c0_0, .slice A0_1 l0_1.length c0_1, .int .i64 a0_2, .int .i64 a0_3]) (t := 30) ?hr ?_; (case hd => rfl); (case hg => rfl); (case hr => exact TS); intro gb145 hg w9 hbox hb; have BK145 := aS (hbox); have GW145 := aS ((TG : w.heap.size ≤ gb145)); have GE145 := aS ((TG : w.heap.size ≤ gb145)); replace HB := aS (below_step TB hb); clear hb hbox hg; have hcz10_0 := cz BK145.out 0; have hcz10_1 := cz BK145.out 1; have hcz10_2 := cz BK145.out 2; have hcz10_3 := cz BK145.out 3; have hfz10_0 := fz BK145.out 0; have hfz10_1 := fz BK145.out 1; have hfz10_2 := fz BK145.out 2; have hfz10_3 := fz BK145.out 3) | ((with_reducible refine gate_callee (f := 62) rfl ?_); refine goesL_ (some 5) rfl rfl Tryd.func62 (by kernel_rfl) rfl #[.slice A0_0 l0_0.length c0_0, .int .i64 1, .int .i64 24] rfl TM ?_; (with_reducible refine (saronref09_areTones.calls k _ _ l0_0 1 24 true _ ?side1 ?side2 A2.out).mono ?_); (case side1 => exact TC HR0_0.out); (case side2 => exact HC0_0.out); rintro e w' ⟨rfl, ⟨nd, rfl⟩⟩; refine ⟨_, rfl, ?_⟩) | (go_at_call 42; (with_reducible refine (saronref00_Grows.calls k _ _ l0_1 (l0_0.length : Int) true _ ?side1 ?side2 A4.out).mono ?_); (case side1 => exact TD HR0_1.out (TB1 GE145.out)); (case side2 => exact HC0_1.out); rintro e w' ⟨rfl, ⟨nd, rfl⟩⟩) | (go_at_call 40; (with_reducible refine (saronref00_Sits.calls a0_2 0 6 true _ A6.out).mono ?_); rintro e w' ⟨rfl, ⟨nd, rfl⟩⟩) | (go_at_call 40; (with_reducible refine (saronref00_Sits.calls a0_3 0 6 t149 _ A8.out).mono ?_); rintro e w' ⟨rfl, ⟨nd, rfl⟩⟩))
    go_ret
    exact ⟨TR, TB1 GE145.out⟩
   ·replace c7 := Bool.eq_false_iff.mpr c7
    subst c7
    have H1 : (some false) = some r := by rw [if_neg (show ¬ (false = true) by decide)] at H; exact H
    clear H
    have H := H1
    clear H1
    obtain rfl := Option.some.inj H
    go_enter Tryd.func56, Tryd.ntmps56
    go_wp2_with (first | ((with_reducible refine gate_dst (N := 1) rfl ?_); (try (refine gate_guard (by rfl) ?_; dsimp only)); refine box_event ?hg (N := 1) ?hd (cs := #[.slice A0_0 l0_0.length c0_0, .slice A0_1 l0_1.length c0_1, .int .i64 a0_2, .int .i64 a0_3]) (t := 30) ?hr ?_; (case hd => rfl); (case hg => rfl); (case hr => exact TS); intro gb145 hg w11 hbox hb; have BK145 := aS (hbox); have GW145 := aS ((TG : w.heap.size ≤ gb145)); have GE145 := aS ((TG : w.heap.size ≤ gb145)); replace HB := aS (below_step TB hb); clear hb hbox hg; have hcz12_0 := cz BK145.out 0; have hcz12_1 := cz BK145.out 1; have hcz12_2 := cz BK145.out 2; have hcz12_3 := cz BK145.out 3; have hfz12_0 := fz BK145.out 0; have hfz12_1 := fz BK145.out 1; have hfz12_2 := fz BK145.out 2; have hfz12_3 := fz BK145.out 3) | ((with_reducible refine gate_callee (f := 62) rfl ?_); refine goesL_ (some 5) rfl rfl Tryd.func62 (by kernel_rfl) rfl #[.slice A0_0 l0_0.length c0_0, .int .i64 1, .int .i64 24] rfl TM ?_; (with_reducible refine (saronref09_areTones.calls k _ _ l0_0 1 24 true _ ?side1 ?side2 A2.out).mono ?_); (case side1 => exact TC HR0_0.out); (case side2 => exact HC0_0.out); rintro e w' ⟨rfl, ⟨nd, rfl⟩⟩; refine ⟨_, rfl, ?_⟩) | (go_at_call 42; (with_reducible refine (saronref00_Grows.calls k _ _ l0_1 (l0_0.length : Int) true _ ?side1 ?side2 A4.out).mono ?_); (case side1 => exact TD HR0_1.out (TB1 GE145.out)); (case side2 => exact HC0_1.out); rintro e w' ⟨rfl, ⟨nd, rfl⟩⟩) | (go_at_call 40; (with_reducible refine (saronref00_Sits.calls a0_2 0 6 false _ A6.out).mono ?_); rintro e w' ⟨rfl, ⟨nd, rfl⟩⟩))
    go_ret
    exact ⟨TR, TB1 GE145.out⟩
  ·replace c5 := Bool.eq_false_iff.mpr c5
   subst c5
   have H1 : (some false) = some r := by rw [if_neg (show ¬ (false = true) by decide)] at H; exact H
   clear H
   have H := H1
   clear H1
   obtain rfl := Option.some.inj H
   go_enter Tryd.func56, Tryd.ntmps56
   go_wp2_with (first | ((with_reducible refine gate_dst (N := 1) rfl ?_); (try (refine gate_guard (by rfl) ?_; dsimp only)); refine box_event ?hg (N := 1) ?hd (cs := #[.slice A0_0 l0_0.length c0_0, .slice A0_1 l0_1.length c0_1, .int .i64 a0_2, .int .i64 a0_3]) (t := 30) ?hr ?_; (case hd => rfl); (case hg => rfl); (case hr => exact TS); intro gb145 hg w13 hbox hb; have BK145 := aS (hbox); have GW145 := aS ((TG : w.heap.size ≤ gb145)); have GE145 := aS ((TG : w.heap.size ≤ gb145)); replace HB := aS (below_step TB hb); clear hb hbox hg; have hcz14_0 := cz BK145.out 0; have hcz14_1 := cz BK145.out 1; have hcz14_2 := cz BK145.out 2; have hcz14_3 := cz BK145.out 3; have hfz14_0 := fz BK145.out 0; have hfz14_1 := fz BK145.out 1; have hfz14_2 := fz BK145.out 2; have hfz14_3 := fz BK145.out 3) | ((with_reducible refine gate_callee (f := 62) rfl ?_); refine goesL_ (some 5) rfl rfl Tryd.func62 (by kernel_rfl) rfl #[.slice A0_0 l0_0.length c0_0, .int .i64 1, .int .i64 24] rfl TM ?_; (with_reducible refine (saronref09_areTones.calls k _ _ l0_0 1 24 true _ ?side1 ?side2 A2.out).mono ?_); (case side1 => exact TC HR0_0.out); (case side2 => exact HC0_0.out); rintro e w' ⟨rfl, ⟨nd, rfl⟩⟩; refine ⟨_, rfl, ?_⟩) | (go_at_call 42; (with_reducible refine (saronref00_Grows.calls k _ _ l0_1 (l0_0.length : Int) false _ ?side1 ?side2 A4.out).mono ?_); (case side1 => exact TD HR0_1.out (TB1 GE145.out)); (case side2 => exact HC0_1.out); rintro e w' ⟨rfl, ⟨nd, rfl⟩⟩))
   go_ret
   exact ⟨TR, TB1 GE145.out⟩
 ·replace c3 := Bool.eq_false_iff.mpr c3
  subst c3
  have H1 : (some false) = some r := by rw [if_neg (show ¬ (false = true) by decide)] at H; exact H
  clear H
  have H := H1
  clear H1
  obtain rfl := Option.some.inj H
  go_enter Tryd.func56, Tryd.ntmps56
  go_wp2_with (first | ((with_reducible refine gate_dst (N := 1) rfl ?_); (try (refine gate_guard (by rfl) ?_; dsimp only)); refine box_event ?hg (N := 1) ?hd (cs := #[.slice A0_0 l0_0.length c0_0, .slice A0_1 l0_1.length c0_1, .int .i64 a0_2, .int .i64 a0_3]) (t := 30) ?hr ?_; (case hd => rfl); (case hg => rfl); (case hr => exact TS); intro gb145 hg w15 hbox hb; have BK145 := aS (hbox); have GW145 := aS ((TG : w.heap.size ≤ gb145)); have GE145 := aS ((TG : w.heap.size ≤ gb145)); replace HB := aS (below_step TB hb); clear hb hbox hg; have hcz16_0 := cz BK145.out 0; have hcz16_1 := cz BK145.out 1; have hcz16_2 := cz BK145.out 2; have hcz16_3 := cz BK145.out 3; have hfz16_0 := fz BK145.out 0; have hfz16_1 := fz BK145.out 1; have hfz16_2 := fz BK145.out 2; have hfz16_3 := fz BK145.out 3) | ((with_reducible refine gate_callee (f := 62) rfl ?_); refine goesL_ (some 5) rfl rfl Tryd.func62 (by kernel_rfl) rfl #[.slice A0_0 l0_0.length c0_0, .int .i64 1, .int .i64 24] rfl TM ?_; (with_reducible refine (saronref09_areTones.calls k _ _ l0_0 1 24 false _ ?side1 ?side2 A2.out).mono ?_); (case side1 => exact TC HR0_0.out); (case side2 => exact HC0_0.out); rintro e w' ⟨rfl, ⟨nd, rfl⟩⟩; refine ⟨_, rfl, ?_⟩))
  go_ret
  exact ⟨TR, TB1 GE145.out⟩
end Go.Proofs.YtfdenclnneigfaaDoor.PRaspKeys
