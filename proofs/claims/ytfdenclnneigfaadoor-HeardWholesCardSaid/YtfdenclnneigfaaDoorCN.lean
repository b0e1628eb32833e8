import Derived.Test.YtfdenclnneigfaaDoorC1
import Derived.Test.YtfdenclnneigfaaDoorC3
import Derived.Test.YtfdenclnneigfaaDoorM0
import Derived.Test.YtfdenclnneigfaaDoorProg
import Derived.Below
import Derived.Deep.Draws
import Derived.Deep.AppendLies
import Derived.Maps.AppendAt
import Derived.OwnWalk
import Derived.Laws.BytesArg
import Derived.Laws.MakeOwn
import Derived.Laws.OwnMore
import Derived.Deep.OwnRows
import Derived.Tactics
import Derived.Lib.ConvBytes
import Derived.Laws.Slices
import Derived.WalkKit
import Derived.KernelRfl
import Derived.RowKit3
import Derived.Deep.LoopGhost
import Derived.Deep.QuietTactic
import Derived.BigQuiet
import Derived.WideLaws
import Derived.Deep.DeepCutAuto
import Derived.Deep.CutBlock
import Derived.Deep.RegionHeld3
import Derived.Laws.Rows
import Derived.Lib.AppendStr
import Derived.ArgAppend
import Derived.Laws.IdiomCopy
import Derived.OrdersHeld
import Derived.Laws.BitsLemmas
import Derived.RowKit
set_option linter.unusedVariables false
set_option linter.unusedSimpArgs false
namespace Go.Proofs.YtfdenclnneigfaaDoor.PRaspKeys
open Go.RowKit Go.Proofs.YtfdenclnneigfaaDoorW.PrintWords Go.Proofs.YtfdenclnneigfaaDoorW.PrintLast Go.Proofs.YtfdenclnneigfaaDoorW.PrintMore Go.Proofs.YtfdenclnneigfaaDoor.M
attribute [local go_sem] max2_int min2_int max_two min_two max_three min_three max_four min_four   -- for this text's walks alone
/-! #### struct type 114 -/
/-! #### struct type 62 -/
end Go.Proofs.YtfdenclnneigfaaDoor.PRaspKeys
namespace Go.Proofs.YtfdenclnneigfaaDoor.PRaspKeys
open Go.RowKit Go.Proofs.YtfdenclnneigfaaDoorW.PrintWords Go.Proofs.YtfdenclnneigfaaDoorW.PrintLast Go.Proofs.YtfdenclnneigfaaDoorW.PrintMore Go.Proofs.YtfdenclnneigfaaDoor.M
attribute [local go_sem] max2_int min2_int max_two min_two max_three min_three max_four min_four   -- for this text's walks alone
/-! ### saronref09_Known: function 35 -/
mutual
def saronref09_Known.l0 : Nat → Int → Int → Int → List (S114) → List (S62) → Option (Int × Int)
 | 0, _, _, _, _, _ => none
 | k + 1, x5, x6, x144000, x144001, x144002 => if x6 < (x144002.length : Int) then (saronref09_Known.l1 k x5 x6 (wrap64 (x6 + 1)) x144000 x144001 x144002) else (some (x5, 0))
def saronref09_Known.l1 : Nat → Int → Int → Int → Int → List (S114) → List (S62) → Option (Int × Int)
 | 0, _, _, _, _, _, _ => none
 | k + 1, x5, x6, x7, x144000, x144001, x144002 => if x7 < (x144002.length : Int) then (if 0 ≤ x6 then (if x6 < (x144002.length : Int) then (if 0 ≤ x7 then ((saronref09_share.f k ((rd_T62 x144002 x6).f1) ((rd_T62 x144002 x7).f1)).bind fun t148 => (if (wrap64 ((mx (((rd_T62 x144002 x6).f1).length : Int) (((rd_T62 x144002 x7).f1).length : Int)) - t148)) = 0 then (some (0, 4)) else (if x6 = 0 then (if x7 = 1 then (saronref09_Known.l1 k (wrap64 ((wrap64 ((mx (((rd_T62 x144002 x6).f1).length : Int) (((rd_T62 x144002 x7).f1).length : Int)) - t148)) - 1)) x6 (wrap64 (x7 + 1)) x144000 x144001 x144002) else (if (wrap64 ((wrap64 ((mx (((rd_T62 x144002 x6).f1).length : Int) (((rd_T62 x144002 x7).f1).length : Int)) - t148)) - 1)) < x5 then (saronref09_Known.l1 k (wrap64 ((wrap64 ((mx (((rd_T62 x144002 x6).f1).length : Int) (((rd_T62 x144002 x7).f1).length : Int)) - t148)) - 1)) x6 (wrap64 (x7 + 1)) x144000 x144001 x144002) else (saronref09_Known.l1 k x5 x6 (wrap64 (x7 + 1)) x144000 x144001 x144002))) else (if (wrap64 ((wrap64 ((mx (((rd_T62 x144002 x6).f1).length : Int) (((rd_T62 x144002 x7).f1).length : Int)) - t148)) - 1)) < x5 then (saronref09_Known.l1 k (wrap64 ((wrap64 ((mx (((rd_T62 x144002 x6).f1).length : Int) (((rd_T62 x144002 x7).f1).length : Int)) - t148)) - 1)) x6 (wrap64 (x7 + 1)) x144000 x144001 x144002) else (saronref09_Known.l1 k x5 x6 (wrap64 (x7 + 1)) x144000 x144001 x144002))))) else (none)) else (none)) else (none)) else (saronref09_Known.l0 k x5 (wrap64 (x6 + 1)) x144000 x144001 x144002)
end
def saronref09_Known.f (k : Nat) (a0_0 : Int) (l0_1 : List (S114)) (l0_2 : List (S62)) : Option (Int × Int) := (saronref09_Check.f k a0_0 l0_1 l0_2).bind fun t144 => (if t144 = 0 then (if 0 < (l0_2.length : Int) then (saronref09_Known.l0 k (((rd_T62 l0_2 0).f1).length : Int) 0 a0_0 l0_1 l0_2) else (none)) else (some (0, t144)))
theorem saronref09_Known.mono_l : ∀ k, (∀ y0 y1 y2 y3 y4, LeO (saronref09_Known.l0 k y0 y1 y2 y3 y4) (saronref09_Known.l0 (k + 1) y0 y1 y2 y3 y4)) ∧ (∀ y0 y1 y2 y3 y4 y5, LeO (saronref09_Known.l1 k y0 y1 y2 y3 y4 y5) (saronref09_Known.l1 (k + 1) y0 y1 y2 y3 y4 y5))
 | 0 => ⟨fun _ _ _ _ _ r h => by simp [saronref09_Known.l0] at h, fun _ _ _ _ _ _ r h => by simp [saronref09_Known.l1] at h⟩
 | k + 1 => by
  obtain ⟨ih0, ih1⟩ := saronref09_Known.mono_l k
  refine ⟨?_, ?_⟩
  ·intro y0 y1 y2 y3 y4
   unfold saronref09_Known.l0
   repeat' first
   | (with_reducible exact ih0 _ _ _ _ _)
   | (with_reducible exact ih1 _ _ _ _ _ _)
   | (with_reducible exact saronref09_Check.mono _ _ _ _)
   | (with_reducible exact saronref09_share.mono _ _ _)
   | (with_reducible exact LeO.refl _)
   | (with_reducible exact LeO.none _)
   | (with_reducible refine LeO.ite ?_ ?_)
   | (with_reducible refine LeO.bind ?_ (fun _ => ?_))
   | exact ih0 _ _ _ _ _
   | exact ih1 _ _ _ _ _ _
   | exact saronref09_Check.mono _ _ _ _
   | exact saronref09_share.mono _ _ _
   | exact LeO.none _
   | refine LeO.ite ?_ ?_
   | refine LeO.bind ?_ (fun _ => ?_)
  ·intro y0 y1 y2 y3 y4 y5
   unfold saronref09_Known.l1
   repeat' first
   | (with_reducible exact ih0 _ _ _ _ _)
   | (with_reducible exact ih1 _ _ _ _ _ _)
   | (with_reducible exact saronref09_Check.mono _ _ _ _)
   | (with_reducible exact saronref09_share.mono _ _ _)
   | (with_reducible exact LeO.refl _)
   | (with_reducible exact LeO.none _)
   | (with_reducible refine LeO.ite ?_ ?_)
   | (with_reducible refine LeO.bind ?_ (fun _ => ?_))
   | exact ih0 _ _ _ _ _
   | exact ih1 _ _ _ _ _ _
   | exact saronref09_Check.mono _ _ _ _
   | exact saronref09_share.mono _ _ _
   | exact LeO.none _
   | refine LeO.ite ?_ ?_
   | refine LeO.bind ?_ (fun _ => ?_)
theorem saronref09_Known.mono : ∀ a0 a1 a2 k, LeO (saronref09_Known.f k a0 a1 a2) (saronref09_Known.f (k + 1) a0 a1 a2) := by
 intro a0 a1 a2 k
 obtain ⟨ih0, ih1⟩ := saronref09_Known.mono_l k
 unfold saronref09_Known.f
 repeat' first
   | (with_reducible exact ih0 _ _ _ _ _)
   | (with_reducible exact ih1 _ _ _ _ _ _)
   | (with_reducible exact saronref09_Check.mono _ _ _ _)
   | (with_reducible exact saronref09_share.mono _ _ _)
   | (with_reducible exact LeO.refl _)
   | (with_reducible exact LeO.none _)
   | (with_reducible refine LeO.ite ?_ ?_)
   | (with_reducible refine LeO.bind ?_ (fun _ => ?_))
   | exact ih0 _ _ _ _ _
   | exact ih1 _ _ _ _ _ _
   | exact saronref09_Check.mono _ _ _ _
   | exact saronref09_share.mono _ _ _
   | exact LeO.none _
   | refine LeO.ite ?_ ?_
   | refine LeO.bind ?_ (fun _ => ?_)
set_option maxHeartbeats 8000000 in
set_option maxRecDepth 100000 in
theorem saronref09_Known.calls (k : Nat) (a0_0 : Int) (A0_1 : Option Addr) (c0_1 : Nat) (l0_1 : List (S114)) (A0_2 : Option Addr) (c0_2 : Nat) (l0_2 : List (S62)) (r1 : Int) (r2 : Int) (w : World) (hr0_1 : Kd.C k114 w A0_1 l0_1.length l0_1) (hc0_1 : l0_1.length ≤ c0_1) (hr0_2 : Kd.C k62 w A0_2 l0_2.length l0_2) (hc0_2 : l0_2.length ≤ c0_2) (h : saronref09_Known.f k a0_0 l0_1 l0_2 = some (r1, r2)) :
  Calls Tryd.prog 35 #[.agg #[.int .i64 a0_0, .slice A0_1 l0_1.length c0_1, .slice A0_2 l0_2.length c0_2]] w fun e w' => e = .returned (.tuple #[.int .i64 r1, .int .i64 r2]) ∧ Below w.heap.size w w' := by
 have hu27 := Tryd.underlying27
 have HR0_1 := Aside0.mk hr0_1
 have HC0_1 := Aside0.mk hc0_1
 clear hr0_1 hc0_1
 have HR0_2 := Aside0.mk hr0_2
 have HC0_2 := Aside0.mk hc0_2
 clear hr0_2 hc0_2
 have HB := Aside0.mk (Below.refl w.heap.size w)
 have H : ((saronref09_Check.f k a0_0 l0_1 l0_2).bind fun t144 => (if t144 = 0 then (if 0 < (l0_2.length : Int) then (saronref09_Known.l0 k (((rd_T62 l0_2 0).f1).length : Int) 0 a0_0 l0_1 l0_2) else (none)) else (some (0, t144)))) = some (r1, r2) := h
 clear h
 replace H := Option.bind_eq_some_iff.mp H
 obtain ⟨t144, A20, H⟩ := H
 replace H : (if t144 = 0 then (if 0 < (l0_2.length : Int) then (saronref09_Known.l0 k (((rd_T62 l0_2 0).f1).length : Int) 0 a0_0 l0_1 l0_2) else (none)) else (some (0, t144))) = some (r1, r2) := H
 have A2 := Aside0.mk A20
 clear A20
 by_cases c3 : t144 = 0
 ·rw [if_pos c3] at H
  have c3b0 : (t144 == 0) = true := beq_iff_eq.mpr c3
  have c3b1 : (t144 != 0) = false := bne_eq_false_iff_eq.mpr c3
  clear c3
  by_cases c4 : 0 < (l0_2.length : Int)
  ·rw [if_pos c4] at H
   have c4b0 : decide (0 < (l0_2.length : Int)) = true := decide_eq_true c4
   have c4b1 : decide (0 < l0_2.length) = true := decide_eq_true (by omega)
   clear c4
   have H' := Aside0.mk H
   clear H
   go_enter Tryd.func35, Tryd.ntmps35
   go_wp2_with (first | ((with_reducible refine gate_dst (N := 1) rfl ?_); refine box_event ?hg (N := 1) ?hd (cs := #[.int .i64 a0_0, .slice A0_1 l0_1.length c0_1, .slice A0_2 l0_2.length c0_2]) (t := 27) ?hr ?_; (case hd => rfl); (case hg => rfl); (case hr => exact TS); intro gb143 hg w5 hbox hb; have BK143 := Aside0.mk (hbox); have GW143 := Aside0.mk ((TG : w.heap.size ≤ gb143)); have GE143 := Aside0.mk ((TG : w.heap.size ≤ gb143)); replace HB := Aside0.mk (below_step TB hb); clear hb hbox hg; have hcz6_0 := cz BK143.out 0; have hcz6_1 := cz BK143.out 1; have hcz6_2 := cz BK143.out 2; have hfz6_0 := fz BK143.out 0; have hfz6_1 := fz BK143.out 1; have hfz6_2 := fz BK143.out 2) | (go_at_call 17; (with_reducible refine (saronref09_Check.calls k a0_0 _ _ l0_1 _ _ l0_2 t144 _ ?side1 ?side2 ?side3 ?side4 A2.out).mono ?_); (case side1 => exact TC HR0_1.out); (case side2 => exact HC0_1.out); (case side3 => exact TC HR0_2.out); (case side4 => exact HC0_2.out); rintro e w7 ⟨rfl, hb⟩; replace BK143 := Aside0.mk (TKb hb BK143.out); replace HB := Aside0.mk (below_step (TB1 GE143.out) hb); (try clear hb); (try clear hb2); (try clear hk); (try clear hi); have hcz8_0 := cz BK143.out 0; have hcz8_1 := cz BK143.out 1; have hcz8_2 := cz BK143.out 2; have hfz8_0 := fz BK143.out 0; have hfz8_1 := fz BK143.out 1; have hfz8_2 := fz BK143.out 2; have p145 : 0 ≤ (0 : Int) := (by omega); have q145 : 0 < (l0_2.length : Int) := of_decide_eq_true TA; obtain ⟨ad145, A145_1, c145_1, e145, hx145_0, hx145_1, hl145_1, hi145_1⟩ := at_T62 HR0_2.out 0 p145 q145; cases e145; have qi145 : (0 < l0_2.length) = True := eq_true (by omega); (try rw [show ((0 : Int)).toNat = 0 from rfl] at hx145_0); (try rw [show 0 * 2 = 0 from rfl] at hx145_0); (try rw [Addr.add_zero'] at hx145_0); (try rw [show ((0 : Int)).toNat = 0 from rfl] at hx145_1); (try rw [show 0 * 2 = 0 from rfl] at hx145_1); (try rw [Addr.add_zero'] at hx145_1); replace hx145_0 := hx HB.out hx145_0; replace hx145_1 := hx HB.out hx145_1; have HR145_1 := Aside0.mk hi145_1; have HC145_1 := Aside0.mk hl145_1; clear hi145_1 hl145_1; replace p145 := eq_true p145; replace q145 := eq_true q145))
   repeat (go_quiet (first | ((with_reducible refine gate_dst (N := 1) rfl ?_); refine box_event ?hg (N := 1) ?hd (cs := #[.int .i64 a0_0, .slice A0_1 l0_1.length c0_1, .slice A0_2 l0_2.length c0_2]) (t := 27) ?hr ?_; (case hd => rfl); (case hg => rfl); (case hr => exact TS); intro gb143 hg w5 hbox hb; have BK143 := Aside0.mk (hbox); have GW143 := Aside0.mk ((TG : w.heap.size ≤ gb143)); have GE143 := Aside0.mk ((TG : w.heap.size ≤ gb143)); replace HB := Aside0.mk (below_step TB hb); clear hb hbox hg; have hcz6_0 := cz BK143.out 0; have hcz6_1 := cz BK143.out 1; have hcz6_2 := cz BK143.out 2; have hfz6_0 := fz BK143.out 0; have hfz6_1 := fz BK143.out 1; have hfz6_2 := fz BK143.out 2) | (go_at_call 17; (with_reducible refine (saronref09_Check.calls k a0_0 _ _ l0_1 _ _ l0_2 t144 _ ?side1 ?side2 ?side3 ?side4 A2.out).mono ?_); (case side1 => exact TC HR0_1.out); (case side2 => exact HC0_1.out); (case side3 => exact TC HR0_2.out); (case side4 => exact HC0_2.out); rintro e w7 ⟨rfl, hb⟩; replace BK143 := Aside0.mk (TKb hb BK143.out); replace HB := Aside0.mk (below_step (TB1 GE143.out) hb); (try clear hb); (try clear hb2); (try clear hk); (try clear hi); have hcz8_0 := cz BK143.out 0; have hcz8_1 := cz BK143.out 1; have hcz8_2 := cz BK143.out 2; have hfz8_0 := fz BK143.out 0; have hfz8_1 := fz BK143.out 1; have hfz8_2 := fz BK143.out 2; have p145 : 0 ≤ (0 : Int) := (by omega); have q145 : 0 < (l0_2.length : Int) := of_decide_eq_true TA; obtain ⟨ad145, A145_1, c145_1, e145, hx145_0, hx145_1, hl145_1, hi145_1⟩ := at_T62 HR0_2.out 0 p145 q145; cases e145; have qi145 : (0 < l0_2.length) = True := eq_true (by omega); (try rw [show ((0 : Int)).toNat = 0 from rfl] at hx145_0); (try rw [show 0 * 2 = 0 from rfl] at hx145_0); (try rw [Addr.add_zero'] at hx145_0); (try rw [show ((0 : Int)).toNat = 0 from rfl] at hx145_1); (try rw [show 0 * 2 = 0 from rfl] at hx145_1); (try rw [Addr.add_zero'] at hx145_1); replace hx145_0 := hx HB.out hx145_0; replace hx145_1 := hx HB.out hx145_1; have HR145_1 := Aside0.mk hi145_1; have HC145_1 := Aside0.mk hl145_1; clear hi145_1 hl145_1; replace p145 := eq_true p145; replace q145 := eq_true q145)); try go_wp2_with (first | ((with_reducible refine gate_dst (N := 1) rfl ?_); refine box_event ?hg (N := 1) ?hd (cs := #[.int .i64 a0_0, .slice A0_1 l0_1.length c0_1, .slice A0_2 l0_2.length c0_2]) (t := 27) ?hr ?_; (case hd => rfl); (case hg => rfl); (case hr => exact TS); intro gb143 hg w5 hbox hb; have BK143 := Aside0.mk (hbox); have GW143 := Aside0.mk ((TG : w.heap.size ≤ gb143)); have GE143 := Aside0.mk ((TG : w.heap.size ≤ gb143)); replace HB := Aside0.mk (below_step TB hb); clear hb hbox hg; have hcz6_0 := cz BK143.out 0; have hcz6_1 := cz BK143.out 1; have hcz6_2 := cz BK143.out 2; have hfz6_0 := fz BK143.out 0; have hfz6_1 := fz BK143.out 1; have hfz6_2 := fz BK143.out 2) | (go_at_call 17; (with_reducible refine (saronref09_Check.calls k a0_0 _ _ l0_1 _ _ l0_2 t144 _ ?side1 ?side2 ?side3 ?side4 A2.out).mono ?_); (case side1 => exact TC HR0_1.out); (case side2 => exact HC0_1.out); (case side3 => exact TC HR0_2.out); (case side4 => exact HC0_2.out); rintro e w7 ⟨rfl, hb⟩; replace BK143 := Aside0.mk (TKb hb BK143.out); replace HB := Aside0.mk (below_step (TB1 GE143.out) hb); (try clear hb); (try clear hb2); (try clear hk); (try clear hi); have hcz8_0 := cz BK143.out 0; have hcz8_1 := cz BK143.out 1; have hcz8_2 := cz BK143.out 2; have hfz8_0 := fz BK143.out 0; have hfz8_1 := fz BK143.out 1; have hfz8_2 := fz BK143.out 2; have p145 : 0 ≤ (0 : Int) := (by omega); have q145 : 0 < (l0_2.length : Int) := of_decide_eq_true TA; obtain ⟨ad145, A145_1, c145_1, e145, hx145_0, hx145_1, hl145_1, hi145_1⟩ := at_T62 HR0_2.out 0 p145 q145; cases e145; have qi145 : (0 < l0_2.length) = True := eq_true (by omega); (try rw [show ((0 : Int)).toNat = 0 from rfl] at hx145_0); (try rw [show 0 * 2 = 0 from rfl] at hx145_0); (try rw [Addr.add_zero'] at hx145_0); (try rw [show ((0 : Int)).toNat = 0 from rfl] at hx145_1); (try rw [show 0 * 2 = 0 from rfl] at hx145_1); (try rw [Addr.add_zero'] at hx145_1); replace hx145_0 := hx HB.out hx145_0; replace hx145_1 := hx HB.out hx145_1; have HR145_1 := Aside0.mk hi145_1; have HC145_1 := Aside0.mk hl145_1; clear hi145_1 hl145_1; replace p145 := eq_true p145; replace q145 := eq_true q145)))
   go_loopg [5, 6] k (fun kq v5 v6 w' => ∃ (x5_1 : Int) (x6_1 : Int), v5 = .int .i64 x5_1 ∧ v6 = .int .i64 x6_1 ∧ Aside0 (saronref09_Known.l0 kq x5_1 x6_1 a0_0 l0_1 l0_2 = some (r1, r2)) ∧ Aside0 (kq ≤ k) ∧ Aside0 (w'.heap[gb143]? = some (.cells #[.int .i64 a0_0, (.slice A0_1 l0_1.length c0_1), (.slice (some ad145) l0_2.length c0_2)] 27 (0, 0))) ∧ Aside0 (Below w.heap.size w w'))
   case atStart => exact ⟨((((rd_T62 l0_2 0).f1).length : Int)), (0), TT, TT, H', ⟨Nat.le_refl _⟩, ⟨TK BK143.out⟩, ⟨TB1 GE143.out⟩⟩
   case round => as_aux_lemma =>
    clear H'
    try clear c1
    try clear p1
    try clear q1
    try clear hx1
    try clear qi1
    try clear p2
    try clear c3
    try clear c3b0
    try clear c3b1
    try clear c4
    try clear c4b0
    try clear c4b1
    try clear hcz6_0 hcz6_1 hcz6_2
    try clear hcz8_0 hcz8_1 hcz8_2
    try clear hfz6_0 hfz6_1 hfz6_2
    try clear hfz8_0 hfz8_1 hfz8_2
    try clear hx145_0
    try clear hx145_1
    try clear p145
    try clear q145
    obtain ⟨x5_1, x6_1, rfl, rfl, HA, HK1, BK143, HB⟩ := hrel
    cases gk with
    | zero => exact absurd HA.out (by simp [saronref09_Known.l0])
    | succ k1 =>
     have H := HA.out
     clear HA
     simp only [saronref09_Known.l0] at H
     by_cases c9 : x6_1 < (l0_2.length : Int)
     ·rw [if_pos c9] at H
      have c9b0 : decide (x6_1 < (l0_2.length : Int)) = true := decide_eq_true c9
      clear c9
      have H' := Aside0.mk H
      clear H
      have hcz10_0 := cz BK143.out 0
      have hcz10_1 := cz BK143.out 1
      have hcz10_2 := cz BK143.out 2
      have hfz10_0 := fz BK143.out 0
      have hfz10_1 := fz BK143.out 1
      have hfz10_2 := fz BK143.out 2
      go_wp2
      repeat (go_quiet (fail); try go_wp2)
      go_loopg [5, 7] k1 (fun kq v5 v7 w' => ∃ (x5_2 : Int) (x7_2 : Int), v5 = .int .i64 x5_2 ∧ v7 = .int .i64 x7_2 ∧ Aside0 (saronref09_Known.l1 kq x5_2 x6_1 x7_2 a0_0 l0_1 l0_2 = some (r1, r2)) ∧ Aside0 (kq ≤ k1) ∧ Aside0 (w'.heap[gb143]? = some (.cells #[.int .i64 a0_0, (.slice A0_1 l0_1.length c0_1), (.slice (some ad145) l0_2.length c0_2)] 27 (0, 0))) ∧ Aside0 (Below w.heap.size w w'))
      case atStart => exact ⟨(x5_1), (wrap64 (x6_1 + 1)), TT, TT, H', ⟨Nat.le_refl _⟩, ⟨TK BK143.out⟩, ⟨TB1 GE143.out⟩⟩
      case round => as_aux_lemma =>
       clear H'
       try clear c1
       try clear p1
       try clear q1
       try clear hx1
       try clear qi1
       try clear p2
       try clear c3
       try clear c3b0
       try clear c3b1
       try clear c4
       try clear c4b0
       try clear c4b1
       try clear p6
       try clear c9
       try clear c9b0
       try clear hcz10_0 hcz10_1 hcz10_2
       try clear hcz6_0 hcz6_1 hcz6_2
       try clear hcz8_0 hcz8_1 hcz8_2
       try clear hfz10_0 hfz10_1 hfz10_2
       try clear hfz6_0 hfz6_1 hfz6_2
       try clear hfz8_0 hfz8_1 hfz8_2
       try clear hx145_0
       try clear hx145_1
       try clear p1
       try clear p145
       try clear p2
       try clear q1
       try clear q145
       obtain ⟨x5_2, x7_2, rfl, rfl, HA, HK2, BK143, HB⟩ := hrel
       cases gk with
       | zero => exact absurd HA.out (by simp [saronref09_Known.l1])
       | succ k2 =>
        have H := HA.out
        clear HA
        simp only [saronref09_Known.l1] at H
        by_cases c11 : x7_2 < (l0_2.length : Int)
        ·rw [if_pos c11] at H
         have c11b0 : decide (x7_2 < (l0_2.length : Int)) = true := decide_eq_true c11
         clear c11
         by_cases c12 : 0 ≤ x6_1
         ·rw [if_pos c12] at H
          have c12b0 : decide (0 ≤ x6_1) = true := decide_eq_true c12
          clear c12
          by_cases c13 : x6_1 < (l0_2.length : Int)
          ·rw [if_pos c13] at H
           have c13b0 : decide (x6_1 < (l0_2.length : Int)) = true := decide_eq_true c13
           clear c13
           by_cases c14 : 0 ≤ x7_2
           ·rw [if_pos c14] at H
            have c14b0 : decide (0 ≤ x7_2) = true := decide_eq_true c14
            clear c14
            obtain ⟨ji15, hji15⟩ : ∃ j_ : Int, (mx (((rd_T62 l0_2 x6_1).f1).length : Int) (((rd_T62 l0_2 x7_2).f1).length : Int)) = j_ := ⟨_, rfl⟩
            replace H : ((saronref09_share.f k2 ((rd_T62 l0_2 x6_1).f1) ((rd_T62 l0_2 x7_2).f1)).bind fun t148 => (if (wrap64 ((ji15) - t148)) = 0 then (some (0, 4)) else (if x6_1 = 0 then (if x7_2 = 1 then (saronref09_Known.l1 k2 (wrap64 ((wrap64 ((ji15) - t148)) - 1)) x6_1 (wrap64 (x7_2 + 1)) a0_0 l0_1 l0_2) else (if (wrap64 ((wrap64 ((ji15) - t148)) - 1)) < x5_2 then (saronref09_Known.l1 k2 (wrap64 ((wrap64 ((ji15) - t148)) - 1)) x6_1 (wrap64 (x7_2 + 1)) a0_0 l0_1 l0_2) else (saronref09_Known.l1 k2 x5_2 x6_1 (wrap64 (x7_2 + 1)) a0_0 l0_1 l0_2))) else (if (wrap64 ((wrap64 ((ji15) - t148)) - 1)) < x5_2 then (saronref09_Known.l1 k2 (wrap64 ((wrap64 ((ji15) - t148)) - 1)) x6_1 (wrap64 (x7_2 + 1)) a0_0 l0_1 l0_2) else (saronref09_Known.l1 k2 x5_2 x6_1 (wrap64 (x7_2 + 1)) a0_0 l0_1 l0_2))))) = some (r1, r2) := by first | (rw [hji15] at H; exact H) | (simp only [hji15] at H ⊢; exact H)
            have hji15_ : (if (((rd_T62 l0_2 x6_1).f1).length : Int) < (((rd_T62 l0_2 x7_2).f1).length : Int) then (((rd_T62 l0_2 x7_2).f1).length : Int) else (((rd_T62 l0_2 x6_1).f1).length : Int)) = ji15 := hji15
            (try (have hji15n := hji15_; simp only [Int.ofNat_lt] at hji15n))
            replace H := Option.bind_eq_some_iff.mp H
            obtain ⟨t148, A160, H⟩ := H
            replace H : (if (wrap64 ((ji15) - t148)) = 0 then (some (0, 4)) else (if x6_1 = 0 then (if x7_2 = 1 then (saronref09_Known.l1 k2 (wrap64 ((wrap64 ((ji15) - t148)) - 1)) x6_1 (wrap64 (x7_2 + 1)) a0_0 l0_1 l0_2) else (if (wrap64 ((wrap64 ((ji15) - t148)) - 1)) < x5_2 then (saronref09_Known.l1 k2 (wrap64 ((wrap64 ((ji15) - t148)) - 1)) x6_1 (wrap64 (x7_2 + 1)) a0_0 l0_1 l0_2) else (saronref09_Known.l1 k2 x5_2 x6_1 (wrap64 (x7_2 + 1)) a0_0 l0_1 l0_2))) else (if (wrap64 ((wrap64 ((ji15) - t148)) - 1)) < x5_2 then (saronref09_Known.l1 k2 (wrap64 ((wrap64 ((ji15) - t148)) - 1)) x6_1 (wrap64 (x7_2 + 1)) a0_0 l0_1 l0_2) else (saronref09_Known.l1 k2 x5_2 x6_1 (wrap64 (x7_2 + 1)) a0_0 l0_1 l0_2)))) = some (r1, r2) := H
            have A16 := Aside0.mk A160
            clear A160
            by_cases c17 : (wrap64 ((ji15) - t148)) = 0
            ·rw [if_pos c17] at H
             have c17b0 : ((wrap64 ((ji15) - t148)) == 0) = true := beq_iff_eq.mpr c17
             have c17b1 : ((wrap64 ((ji15) - t148)) != 0) = false := bne_eq_false_iff_eq.mpr c17
             clear c17
             simp only [Option.some.injEq, Prod.mk.injEq] at H
             obtain ⟨rfl, rfl⟩ := H
             have hcz18_0 := cz BK143.out 0
             have hcz18_1 := cz BK143.out 1
             have hcz18_2 := cz BK143.out 2
             have hfz18_0 := fz BK143.out 0
             have hfz18_1 := fz BK143.out 1
             have hfz18_2 := fz BK143.out 2
             have p146 : 0 ≤ (x6_1 : Int) := of_decide_eq_true TA
             have q146 : x6_1 < (l0_2.length : Int) := of_decide_eq_true TA
             obtain ⟨ad146, A146_1, c146_1, e146, hx146_0, hx146_1, hl146_1, hi146_1⟩ := at_T62 HR0_2.out x6_1 p146 q146
             obtain rfl : ad145 = ad146 := (by injection e146)
             replace hx146_0 := hx HB.out hx146_0
             replace hx146_1 := hx HB.out hx146_1
             have HR146_1 := Aside0.mk hi146_1
             have HC146_1 := Aside0.mk hl146_1
             clear hi146_1 hl146_1
             replace p146 := eq_true p146
             replace q146 := eq_true q146
             have p147 : 0 ≤ (x7_2 : Int) := of_decide_eq_true TA
             have q147 : x7_2 < (l0_2.length : Int) := of_decide_eq_true TA
             obtain ⟨ad147, A147_1, c147_1, e147, hx147_0, hx147_1, hl147_1, hi147_1⟩ := at_T62 HR0_2.out x7_2 p147 q147
             obtain rfl : ad145 = ad147 := (by injection e147)
             replace hx147_0 := hx HB.out hx147_0
             replace hx147_1 := hx HB.out hx147_1
             have HR147_1 := Aside0.mk hi147_1
             have HC147_1 := Aside0.mk hl147_1
             clear hi147_1 hl147_1
             replace p147 := eq_true p147
             replace q147 := eq_true q147
             go_wp2_with (first | (go_at_call 73; (with_reducible refine (saronref09_share.calls k2 _ _ ((rd_T62 l0_2 x6_1).f1) _ _ ((rd_T62 l0_2 x7_2).f1) t148 _ ?side1 ?side2 ?side3 ?side4 A16.out).mono ?_); (case side1 => exact TC HR146_1.out); (case side2 => exact HC146_1.out); (case side3 => exact TC HR147_1.out); (case side4 => exact HC147_1.out); rintro e w19 ⟨rfl, hb⟩; replace BK143 := Aside0.mk (TKb hb BK143.out); replace HB := Aside0.mk (below_step (TB1 GE143.out) hb); (try clear hb); (try clear hb2); (try clear hk); (try clear hi)))
             repeat (go_quiet (first | (go_at_call 73; (with_reducible refine (saronref09_share.calls k2 _ _ ((rd_T62 l0_2 x6_1).f1) _ _ ((rd_T62 l0_2 x7_2).f1) t148 _ ?side1 ?side2 ?side3 ?side4 A16.out).mono ?_); (case side1 => exact TC HR146_1.out); (case side2 => exact HC146_1.out); (case side3 => exact TC HR147_1.out); (case side4 => exact HC147_1.out); rintro e w19 ⟨rfl, hb⟩; replace BK143 := Aside0.mk (TKb hb BK143.out); replace HB := Aside0.mk (below_step (TB1 GE143.out) hb); (try clear hb); (try clear hb2); (try clear hk); (try clear hi))); try go_wp2_with (first | (go_at_call 73; (with_reducible refine (saronref09_share.calls k2 _ _ ((rd_T62 l0_2 x6_1).f1) _ _ ((rd_T62 l0_2 x7_2).f1) t148 _ ?side1 ?side2 ?side3 ?side4 A16.out).mono ?_); (case side1 => exact TC HR146_1.out); (case side2 => exact HC146_1.out); (case side3 => exact TC HR147_1.out); (case side4 => exact HC147_1.out); rintro e w19 ⟨rfl, hb⟩; replace BK143 := Aside0.mk (TKb hb BK143.out); replace HB := Aside0.mk (below_step (TB1 GE143.out) hb); (try clear hb); (try clear hb2); (try clear hk); (try clear hi))))
             go_ret2
             exact ⟨by first | rfl | (simp [errW_none, errW_some] <;> rfl) | (simp only [← hji15]; first | rfl | (simp [errW_none, errW_some] <;> rfl)) | (simp [*, errW_none, errW_some] <;> rfl), TB1 GE143.out⟩
            ·rw [if_neg c17] at H
             have c17b0 : ((wrap64 ((ji15) - t148)) == 0) = false := beq_eq_false_iff_ne.mpr c17
             have c17b1 : ((wrap64 ((ji15) - t148)) != 0) = true := bne_iff_ne.mpr c17
             by_cases c20 : x6_1 = 0
             ·rw [if_pos c20] at H
              have c20b0 : (x6_1 == 0) = true := beq_iff_eq.mpr c20
              have c20b1 : (x6_1 != 0) = false := bne_eq_false_iff_eq.mpr c20
              clear c20
              by_cases c21 : x7_2 = 1
              ·rw [if_pos c21] at H
               have c21b0 : (x7_2 == 1) = true := beq_iff_eq.mpr c21
               have c21b1 : (x7_2 != 1) = false := bne_eq_false_iff_eq.mpr c21
               clear c21
               have H' := Aside0.mk H
               clear H
               have hcz22_0 := cz BK143.out 0
               have hcz22_1 := cz BK143.out 1
               have hcz22_2 := cz BK143.out 2
               have hfz22_0 := fz BK143.out 0
               have hfz22_1 := fz BK143.out 1
               have hfz22_2 := fz BK143.out 2
               have p146 : 0 ≤ (x6_1 : Int) := of_decide_eq_true TA
               have q146 : x6_1 < (l0_2.length : Int) := of_decide_eq_true TA
               obtain ⟨ad146, A146_1, c146_1, e146, hx146_0, hx146_1, hl146_1, hi146_1⟩ := at_T62 HR0_2.out x6_1 p146 q146
               obtain rfl : ad145 = ad146 := (by injection e146)
               replace hx146_0 := hx HB.out hx146_0
               replace hx146_1 := hx HB.out hx146_1
               have HR146_1 := Aside0.mk hi146_1
               have HC146_1 := Aside0.mk hl146_1
               clear hi146_1 hl146_1
               replace p146 := eq_true p146
               replace q146 := eq_true q146
               have p147 : 0 ≤ (x7_2 : Int) := of_decide_eq_true TA
               have q147 : x7_2 < (l0_2.length : Int) := of_decide_eq_true TA
               obtain ⟨ad147, A147_1, c147_1, e147, hx147_0, hx147_1, hl147_1, hi147_1⟩ := at_T62 HR0_2.out x7_2 p147 q147
               obtain rfl : ad145 = ad147 := (by injection e147)
               replace hx147_0 := hx HB.out hx147_0
               replace hx147_1 := hx HB.out hx147_1
               have HR147_1 := Aside0.mk hi147_1
               have HC147_1 := Aside0.mk hl147_1
               clear hi147_1 hl147_1
               replace p147 := eq_true p147
               replace q147 := eq_true q147
               go_wp2_with (first | (go_at_call 73; (with_reducible refine (saronref09_share.calls k2 _ _ ((rd_T62 l0_2 x6_1).f1) _ _ ((rd_T62 l0_2 x7_2).f1) t148 _ ?side1 ?side2 ?side3 ?side4 A16.out).mono ?_); (case side1 => exact TC HR146_1.out); (case side2 => exact HC146_1.out); (case side3 => exact TC HR147_1.out); (case side4 => exact HC147_1.out); rintro e w23 ⟨rfl, hb⟩; replace BK143 := Aside0.mk (TKb hb BK143.out); replace HB := Aside0.mk (below_step (TB1 GE143.out) hb); (try clear hb); (try clear hb2); (try clear hk); (try clear hi)))
               repeat (go_quiet (first | (go_at_call 73; (with_reducible refine (saronref09_share.calls k2 _ _ ((rd_T62 l0_2 x6_1).f1) _ _ ((rd_T62 l0_2 x7_2).f1) t148 _ ?side1 ?side2 ?side3 ?side4 A16.out).mono ?_); (case side1 => exact TC HR146_1.out); (case side2 => exact HC146_1.out); (case side3 => exact TC HR147_1.out); (case side4 => exact HC147_1.out); rintro e w23 ⟨rfl, hb⟩; replace BK143 := Aside0.mk (TKb hb BK143.out); replace HB := Aside0.mk (below_step (TB1 GE143.out) hb); (try clear hb); (try clear hb2); (try clear hk); (try clear hi))); try go_wp2_with (first | (go_at_call 73; (with_reducible refine (saronref09_share.calls k2 _ _ ((rd_T62 l0_2 x6_1).f1) _ _ ((rd_T62 l0_2 x7_2).f1) t148 _ ?side1 ?side2 ?side3 ?side4 A16.out).mono ?_); (case side1 => exact TC HR146_1.out); (case side2 => exact HC146_1.out); (case side3 => exact TC HR147_1.out); (case side4 => exact HC147_1.out); rintro e w23 ⟨rfl, hb⟩; replace BK143 := Aside0.mk (TKb hb BK143.out); replace HB := Aside0.mk (below_step (TB1 GE143.out) hb); (try clear hb); (try clear hb2); (try clear hk); (try clear hi))))
               go_roundg k2
               case measure => have := HK1.out; have := HK2.out; omega
               case rel => exact ⟨(wrap64 ((wrap64 ((ji15) - t148)) - 1)), (wrap64 (x7_2 + 1)), (by first | rfl | (simp; done) | (simp only [← hji15] <;> (first | rfl | simp)) | (simp [*]; done)), TT, H', ⟨by have := HK1.out; have := HK2.out; omega⟩, ⟨TK BK143.out⟩, ⟨TB1 GE143.out⟩⟩
              ·rw [if_neg c21] at H
               have c21b0 : (x7_2 == 1) = false := beq_eq_false_iff_ne.mpr c21
               have c21b1 : (x7_2 != 1) = true := bne_iff_ne.mpr c21
               by_cases c24 : (wrap64 ((wrap64 ((ji15) - t148)) - 1)) < x5_2
               ·rw [if_pos c24] at H
                have c24b0 : decide ((wrap64 ((wrap64 ((ji15) - t148)) - 1)) < x5_2) = true := decide_eq_true c24
                clear c24
                have H' := Aside0.mk H
                clear H
                have hcz25_0 := cz BK143.out 0
                have hcz25_1 := cz BK143.out 1
                have hcz25_2 := cz BK143.out 2
                have hfz25_0 := fz BK143.out 0
                have hfz25_1 := fz BK143.out 1
                have hfz25_2 := fz BK143.out 2
                have p146 : 0 ≤ (x6_1 : Int) := of_decide_eq_true TA
                have q146 : x6_1 < (l0_2.length : Int) := of_decide_eq_true TA
                obtain ⟨ad146, A146_1, c146_1, e146, hx146_0, hx146_1, hl146_1, hi146_1⟩ := at_T62 HR0_2.out x6_1 p146 q146
                obtain rfl : ad145 = ad146 := (by injection e146)
                replace hx146_0 := hx HB.out hx146_0
                replace hx146_1 := hx HB.out hx146_1
                have HR146_1 := Aside0.mk hi146_1
                have HC146_1 := Aside0.mk hl146_1
                clear hi146_1 hl146_1
                replace p146 := eq_true p146
                replace q146 := eq_true q146
                have p147 : 0 ≤ (x7_2 : Int) := of_decide_eq_true TA
                have q147 : x7_2 < (l0_2.length : Int) := of_decide_eq_true TA
                obtain ⟨ad147, A147_1, c147_1, e147, hx147_0, hx147_1, hl147_1, hi147_1⟩ := at_T62 HR0_2.out x7_2 p147 q147
                obtain rfl : ad145 = ad147 := (by injection e147)
                replace hx147_0 := hx HB.out hx147_0
                replace hx147_1 := hx HB.out hx147_1
                have HR147_1 := Aside0.mk hi147_1
                have HC147_1 := Aside0.mk hl147_1
                clear hi147_1 hl147_1
                replace p147 := eq_true p147
                replace q147 := eq_true q147
                go_wp2_with (first | (go_at_call 73; (with_reducible refine (saronref09_share.calls k2 _ _ ((rd_T62 l0_2 x6_1).f1) _ _ ((rd_T62 l0_2 x7_2).f1) t148 _ ?side1 ?side2 ?side3 ?side4 A16.out).mono ?_); (case side1 => exact TC HR146_1.out); (case side2 => exact HC146_1.out); (case side3 => exact TC HR147_1.out); (case side4 => exact HC147_1.out); rintro e w26 ⟨rfl, hb⟩; replace BK143 := Aside0.mk (TKb hb BK143.out); replace HB := Aside0.mk (below_step (TB1 GE143.out) hb); (try clear hb); (try clear hb2); (try clear hk); (try clear hi)))
                repeat (go_quiet (first | (go_at_call 73; (with_reducible refine (saronref09_share.calls k2 _ _ ((rd_T62 l0_2 x6_1).f1) _ _ ((rd_T62 l0_2 x7_2).f1) t148 _ ?side1 ?side2 ?side3 ?side4 A16.out).mono ?_); (case side1 => exact TC HR146_1.out); (case side2 => exact HC146_1.out); (case side3 => exact TC HR147_1.out); (case side4 => exact HC147_1.out); rintro e w26 ⟨rfl, hb⟩; replace BK143 := Aside0.mk (TKb hb BK143.out); replace HB := Aside0.mk (below_step (TB1 GE143.out) hb); (try clear hb); (try clear hb2); (try clear hk); (try clear hi))); try go_wp2_with (first | (go_at_call 73; (with_reducible refine (saronref09_share.calls k2 _ _ ((rd_T62 l0_2 x6_1).f1) _ _ ((rd_T62 l0_2 x7_2).f1) t148 _ ?side1 ?side2 ?side3 ?side4 A16.out).mono ?_); (case side1 => exact TC HR146_1.out); (case side2 => exact HC146_1.out); (case side3 => exact TC HR147_1.out); (case side4 => exact HC147_1.out); rintro e w26 ⟨rfl, hb⟩; replace BK143 := Aside0.mk (TKb hb BK143.out); replace HB := Aside0.mk (below_step (TB1 GE143.out) hb); (try clear hb); (try clear hb2); (try clear hk); (try clear hi))))
                go_roundg k2
                case measure => have := HK1.out; have := HK2.out; omega
                case rel => exact ⟨(wrap64 ((wrap64 ((ji15) - t148)) - 1)), (wrap64 (x7_2 + 1)), (by first | rfl | (simp; done) | (simp only [← hji15] <;> (first | rfl | simp)) | (simp [*]; done)), TT, H', ⟨by have := HK1.out; have := HK2.out; omega⟩, ⟨TK BK143.out⟩, ⟨TB1 GE143.out⟩⟩
               ·rw [if_neg c24] at H
                have c24b0 : decide ((wrap64 ((wrap64 ((ji15) - t148)) - 1)) < x5_2) = false := decide_eq_false c24
                clear c24
                have H' := Aside0.mk H
                clear H
                have hcz27_0 := cz BK143.out 0
                have hcz27_1 := cz BK143.out 1
                have hcz27_2 := cz BK143.out 2
                have hfz27_0 := fz BK143.out 0
                have hfz27_1 := fz BK143.out 1
                have hfz27_2 := fz BK143.out 2
                have p146 : 0 ≤ (x6_1 : Int) := of_decide_eq_true TA
                have q146 : x6_1 < (l0_2.length : Int) := of_decide_eq_true TA
                obtain ⟨ad146, A146_1, c146_1, e146, hx146_0, hx146_1, hl146_1, hi146_1⟩ := at_T62 HR0_2.out x6_1 p146 q146
                obtain rfl : ad145 = ad146 := (by injection e146)
                replace hx146_0 := hx HB.out hx146_0
                replace hx146_1 := hx HB.out hx146_1
                have HR146_1 := Aside0.mk hi146_1
                have HC146_1 := Aside0.mk hl146_1
                clear hi146_1 hl146_1
                replace p146 := eq_true p146
                replace q146 := eq_true q146
                have p147 : 0 ≤ (x7_2 : Int) := of_decide_eq_true TA
                have q147 : x7_2 < (l0_2.length : Int) := of_decide_eq_true TA
                obtain ⟨ad147, A147_1, c147_1, e147, hx147_0, hx147_1, hl147_1, hi147_1⟩ := at_T62 HR0_2.out x7_2 p147 q147
                obtain rfl : ad145 = ad147 := (by injection e147)
                replace hx147_0 := hx HB.out hx147_0
                replace hx147_1 := hx HB.out hx147_1
                have HR147_1 := Aside0.mk hi147_1
                have HC147_1 := Aside0.mk hl147_1
                clear hi147_1 hl147_1
                replace p147 := eq_true p147
                replace q147 := eq_true q147
                go_wp2_with (first | (go_at_call 73; (with_reducible refine (saronref09_share.calls k2 _ _ ((rd_T62 l0_2 x6_1).f1) _ _ ((rd_T62 l0_2 x7_2).f1) t148 _ ?side1 ?side2 ?side3 ?side4 A16.out).mono ?_); (case side1 => exact TC HR146_1.out); (case side2 => exact HC146_1.out); (case side3 => exact TC HR147_1.out); (case side4 => exact HC147_1.out); rintro e w28 ⟨rfl, hb⟩; replace BK143 := Aside0.mk (TKb hb BK143.out); replace HB := Aside0.mk (below_step (TB1 GE143.out) hb); (try clear hb); (try clear hb2); (try clear hk); (try clear hi)))
                repeat (go_quiet (first | (go_at_call 73; (with_reducible refine (saronref09_share.calls k2 _ _ ((rd_T62 l0_2 x6_1).f1) _ _ ((rd_T62 l0_2 x7_2).f1) t148 _ ?side1 ?side2 ?side3 ?side4 A16.out).mono ?_); (case side1 => exact TC HR146_1.out); (case side2 => exact HC146_1.out); (case side3 => exact TC HR147_1.out); (case side4 => exact HC147_1.out); rintro e w28 ⟨rfl, hb⟩; replace BK143 := Aside0.mk (TKb hb BK143.out); replace HB := Aside0.mk (below_step (TB1 GE143.out) hb); (try clear hb); (try clear hb2); (try clear hk); (try clear hi))); try go_wp2_with (first | (go_at_call 73; (with_reducible refine (saronref09_share.calls k2 _ _ ((rd_T62 l0_2 x6_1).f1) _ _ ((rd_T62 l0_2 x7_2).f1) t148 _ ?side1 ?side2 ?side3 ?side4 A16.out).mono ?_); (case side1 => exact TC HR146_1.out); (case side2 => exact HC146_1.out); (case side3 => exact TC HR147_1.out); (case side4 => exact HC147_1.out); rintro e w28 ⟨rfl, hb⟩; replace BK143 := Aside0.mk (TKb hb BK143.out); replace HB := Aside0.mk (below_step (TB1 GE143.out) hb); (try clear hb); (try clear hb2); (try clear hk); (try clear hi))))
                go_roundg k2
                case measure => have := HK1.out; have := HK2.out; omega
                case rel => exact ⟨(x5_2), (wrap64 (x7_2 + 1)), TT, TT, H', ⟨by have := HK1.out; have := HK2.out; omega⟩, ⟨TK BK143.out⟩, ⟨TB1 GE143.out⟩⟩
             ·rw [if_neg c20] at H
              have c20b0 : (x6_1 == 0) = false := beq_eq_false_iff_ne.mpr c20
              have c20b1 : (x6_1 != 0) = true := bne_iff_ne.mpr c20
              by_cases c29 : (wrap64 ((wrap64 ((ji15) - t148)) - 1)) < x5_2
              ·rw [if_pos c29] at H
               have c29b0 : decide ((wrap64 ((wrap64 ((ji15) - t148)) - 1)) < x5_2) = true := decide_eq_true c29
               clear c29
               have H' := Aside0.mk H
               clear H
               have hcz30_0 := cz BK143.out 0
               have hcz30_1 := cz BK143.out 1
               have hcz30_2 := cz BK143.out 2
               have hfz30_0 := fz BK143.out 0
               have hfz30_1 := fz BK143.out 1
               have hfz30_2 := fz BK143.out 2
               have p146 : 0 ≤ (x6_1 : Int) := of_decide_eq_true TA
               have q146 : x6_1 < (l0_2.length : Int) := of_decide_eq_true TA
               obtain ⟨ad146, A146_1, c146_1, e146, hx146_0, hx146_1, hl146_1, hi146_1⟩ := at_T62 HR0_2.out x6_1 p146 q146
               obtain rfl : ad145 = ad146 := (by injection e146)
               replace hx146_0 := hx HB.out hx146_0
               replace hx146_1 := hx HB.out hx146_1
               have HR146_1 := Aside0.mk hi146_1
               have HC146_1 := Aside0.mk hl146_1
               clear hi146_1 hl146_1
               replace p146 := eq_true p146
               replace q146 := eq_true q146
               have p147 : 0 ≤ (x7_2 : Int) := of_decide_eq_true TA
               have q147 : x7_2 < (l0_2.length : Int) := of_decide_eq_true TA
               obtain ⟨ad147, A147_1, c147_1, e147, hx147_0, hx147_1, hl147_1, hi147_1⟩ := at_T62 HR0_2.out x7_2 p147 q147
               obtain rfl : ad145 = ad147 := (by injection e147)
               replace hx147_0 := hx HB.out hx147_0
               replace hx147_1 := hx HB.out hx147_1
               have HR147_1 := Aside0.mk hi147_1
               have HC147_1 := Aside0.mk hl147_1
               clear hi147_1 hl147_1
               replace p147 := eq_true p147
               replace q147 := eq_true q147
               go_wp2_with (first | (go_at_call 73; (with_reducible refine (saronref09_share.calls k2 _ _ ((rd_T62 l0_2 x6_1).f1) _ _ ((rd_T62 l0_2 x7_2).f1) t148 _ ?side1 ?side2 ?side3 ?side4 A16.out).mono ?_); (case side1 => exact TC HR146_1.out); (case side2 => exact HC146_1.out); (case side3 => exact TC HR147_1.out); (case side4 => exact HC147_1.out); rintro e w31 ⟨rfl, hb⟩; replace BK143 := Aside0.mk (TKb hb BK143.out); replace HB := Aside0.mk (below_step (TB1 GE143.out) hb); (try clear hb); (try clear hb2); (try clear hk); (try clear hi)))
               repeat (go_quiet (first | (go_at_call 73; (with_reducible refine (saronref09_share.calls k2 _ _ ((rd_T62 l0_2 x6_1).f1) _ _ ((rd_T62 l0_2 x7_2).f1) t148 _ ?side1 ?side2 ?side3 ?side4 A16.out).mono ?_); (case side1 => exact TC HR146_1.out); (case side2 => exact HC146_1.out); (case side3 => exact TC HR147_1.out); (case side4 => exact HC147_1.out); rintro e w31 ⟨rfl, hb⟩; replace BK143 := Aside0.mk (TKb hb BK143.out); replace HB := Aside0.mk (below_step (TB1 GE143.out) hb); (try clear hb); (try clear hb2); (try clear hk); (try clear hi))); try go_wp2_with (first | (go_at_call 73; (with_reducible refine (saronref09_share.calls k2 _ _ ((rd_T62 l0_2 x6_1).f1) _ _ ((rd_T62 l0_2 x7_2).f1) t148 _ ?side1 ?side2 ?side3 ?side4 A16.out).mono ?_); (case side1 => exact TC HR146_1.out); (case side2 => exact HC146_1.out); (case side3 => exact TC HR147_1.out); (case side4 => exact HC147_1.out); rintro e w31 ⟨rfl, hb⟩; replace BK143 := Aside0.mk (TKb hb BK143.out); replace HB := Aside0.mk (below_step (TB1 GE143.out) hb); (try clear hb); (try clear hb2); (try clear hk); (try clear hi))))
               go_roundg k2
               case measure => have := HK1.out; have := HK2.out; omega
               case rel => exact ⟨(wrap64 ((wrap64 ((ji15) - t148)) - 1)), (wrap64 (x7_2 + 1)), (by first | rfl | (simp; done) | (simp only [← hji15] <;> (first | rfl | simp)) | (simp [*]; done)), TT, H', ⟨by have := HK1.out; have := HK2.out; omega⟩, ⟨TK BK143.out⟩, ⟨TB1 GE143.out⟩⟩
              ·rw [if_neg c29] at H
               have c29b0 : decide ((wrap64 ((wrap64 ((ji15) - t148)) - 1)) < x5_2) = false := decide_eq_false c29
               clear c29
               have H' := Aside0.mk H
               clear H
               have hcz32_0 := cz BK143.out 0
               have hcz32_1 := cz BK143.out 1
               have hcz32_2 := cz BK143.out 2
               have hfz32_0 := fz BK143.out 0
               have hfz32_1 := fz BK143.out 1
               have hfz32_2 := fz BK143.out 2
               have p146 : 0 ≤ (x6_1 : Int) := of_decide_eq_true TA
               have q146 : x6_1 < (l0_2.length : Int) := of_decide_eq_true TA
               obtain ⟨ad146, A146_1, c146_1, e146, hx146_0, hx146_1, hl146_1, hi146_1⟩ := at_T62 HR0_2.out x6_1 p146 q146
               obtain rfl : ad145 = ad146 := (by injection e146)
               replace hx146_0 := hx HB.out hx146_0
               replace hx146_1 := hx HB.out hx146_1
               have HR146_1 := Aside0.mk hi146_1
               have HC146_1 := Aside0.mk hl146_1
               clear hi146_1 hl146_1
               replace p146 := eq_true p146
               replace q146 := eq_true q146
               have p147 : 0 ≤ (x7_2 : Int) := of_decide_eq_true TA
               have q147 : x7_2 < (l0_2.length : Int) := of_decide_eq_true TA
               obtain ⟨ad147, A147_1, c147_1, e147, hx147_0, hx147_1, hl147_1, hi147_1⟩ := at_T62 HR0_2.out x7_2 p147 q147
               obtain rfl : ad145 = ad147 := (by injection e147)
               replace hx147_0 := hx HB.out hx147_0
               replace hx147_1 := hx HB.out hx147_1
               have HR147_1 := Aside0.mk hi147_1
               have HC147_1 := Aside0.mk hl147_1
               clear hi147_1 hl147_1
               replace p147 := eq_true p147
               replace q147 := eq_true q147
               go_wp2_with (first | (go_at_call 73; (with_reducible refine (saronref09_share.calls k2 _ _ ((rd_T62 l0_2 x6_1).f1) _ _ ((rd_T62 l0_2 x7_2).f1) t148 _ ?side1 ?side2 ?side3 ?side4 A16.out).mono ?_); (case side1 => exact TC HR146_1.out); (case side2 => exact HC146_1.out); (case side3 => exact TC HR147_1.out); (case side4 => exact HC147_1.out); rintro e w33 ⟨rfl, hb⟩; replace BK143 := Aside0.mk (TKb hb BK143.out); replace HB := Aside0.mk (below_step (TB1 GE143.out) hb); (try clear hb); (try clear hb2); (try clear hk); (try clear hi)))
               repeat (go_quiet (first | (go_at_call 73; (with_reducible refine (saronref09_share.calls k2 _ _ ((rd_T62 l0_2 x6_1).f1) _ _ ((rd_T62 l0_2 x7_2).f1) t148 _ ?side1 ?side2 ?side3 ?side4 A16.out).mono ?_); (case side1 => exact TC HR146_1.out); (case side2 => exact HC146_1.out); (case side3 => exact TC HR147_1.out); (case side4 => exact HC147_1.out); rintro e w33 ⟨rfl, hb⟩; replace BK143 := Aside0.mk (TKb hb BK143.out); replace HB := Aside0.mk (below_step (TB1 GE143.out) hb); (try clear hb); (try clear hb2); (try clear hk); (try clear hi))); try go_wp2_with (first | (go_at_call 73; (with_reducible refine (saronref09_share.calls k2 _ _ ((rd_T62 l0_2 x6_1).f1) _ _ ((rd_T62 l0_2 x7_2).f1) t148 _ ?side1 ?side2 ?side3 ?side4 A16.out).mono ?_); (case side1 => exact TC HR146_1.out); (case side2 => exact HC146_1.out); (case side3 => exact TC HR147_1.out); (case side4 => exact HC147_1.out); rintro e w33 ⟨rfl, hb⟩; replace BK143 := Aside0.mk (TKb hb BK143.out); replace HB := Aside0.mk (below_step (TB1 GE143.out) hb); (try clear hb); (try clear hb2); (try clear hk); (try clear hi))))
               go_roundg k2
               case measure => have := HK1.out; have := HK2.out; omega
               case rel => exact ⟨(x5_2), (wrap64 (x7_2 + 1)), TT, TT, H', ⟨by have := HK1.out; have := HK2.out; omega⟩, ⟨TK BK143.out⟩, ⟨TB1 GE143.out⟩⟩
           ·rw [if_neg c14] at H
            exact absurd H (by simp)
          ·rw [if_neg c13] at H
           exact absurd H (by simp)
         ·rw [if_neg c12] at H
          exact absurd H (by simp)
        ·rw [if_neg c11] at H
         have c11b0 : decide (x7_2 < (l0_2.length : Int)) = false := decide_eq_false c11
         clear c11
         have H' := Aside0.mk H
         clear H
         have hcz34_0 := cz BK143.out 0
         have hcz34_1 := cz BK143.out 1
         have hcz34_2 := cz BK143.out 2
         have hfz34_0 := fz BK143.out 0
         have hfz34_1 := fz BK143.out 1
         have hfz34_2 := fz BK143.out 2
         go_wp2
         repeat (go_quiet (fail); try go_wp2)
         go_roundg k2
         case measure => have := HK1.out; have := HK2.out; omega
         case rel => exact ⟨(x5_2), (wrap64 (x6_1 + 1)), TT, TT, H', ⟨by have := HK1.out; have := HK2.out; omega⟩, ⟨TK BK143.out⟩, ⟨TB1 GE143.out⟩⟩
     ·rw [if_neg c9] at H
      have c9b0 : decide (x6_1 < (l0_2.length : Int)) = false := decide_eq_false c9
      clear c9
      simp only [Option.some.injEq, Prod.mk.injEq] at H
      obtain ⟨rfl, rfl⟩ := H
      have hcz35_0 := cz BK143.out 0
      have hcz35_1 := cz BK143.out 1
      have hcz35_2 := cz BK143.out 2
      have hfz35_0 := fz BK143.out 0
      have hfz35_1 := fz BK143.out 1
      have hfz35_2 := fz BK143.out 2
      go_wp2
      repeat (go_quiet (fail); try go_wp2)
      go_ret2
      exact ⟨TR, TB1 GE143.out⟩
  ·rw [if_neg c4] at H
   exact absurd H (by simp)
 ·rw [if_neg c3] at H
  have c3b0 : (t144 == 0) = false := beq_eq_false_iff_ne.mpr c3
  have c3b1 : (t144 != 0) = true := bne_iff_ne.mpr c3
  simp only [Option.some.injEq, Prod.mk.injEq] at H
  obtain ⟨rfl, rfl⟩ := H
  go_enter Tryd.func35, Tryd.ntmps35
  go_wp2_with (first | ((with_reducible refine gate_dst (N := 1) rfl ?_); refine box_event ?hg (N := 1) ?hd (cs := #[.int .i64 a0_0, .slice A0_1 l0_1.length c0_1, .slice A0_2 l0_2.length c0_2]) (t := 27) ?hr ?_; (case hd => rfl); (case hg => rfl); (case hr => exact TS); intro gb143 hg w36 hbox hb; have BK143 := Aside0.mk (hbox); have GW143 := Aside0.mk ((TG : w.heap.size ≤ gb143)); have GE143 := Aside0.mk ((TG : w.heap.size ≤ gb143)); replace HB := Aside0.mk (below_step TB hb); clear hb hbox hg; have hcz37_0 := cz BK143.out 0; have hcz37_1 := cz BK143.out 1; have hcz37_2 := cz BK143.out 2; have hfz37_0 := fz BK143.out 0; have hfz37_1 := fz BK143.out 1; have hfz37_2 := fz BK143.out 2) | (go_at_call 17; (with_reducible refine (saronref09_Check.calls k a0_0 _ _ l0_1 _ _ l0_2 t144 _ ?side1 ?side2 ?side3 ?side4 A2.out).mono ?_); (case side1 => exact TC HR0_1.out); (case side2 => exact HC0_1.out); (case side3 => exact TC HR0_2.out); (case side4 => exact HC0_2.out); rintro e w38 ⟨rfl, hb⟩; replace BK143 := Aside0.mk (TKb hb BK143.out); replace HB := Aside0.mk (below_step (TB1 GE143.out) hb); (try clear hb); (try clear hb2); (try clear hk); (try clear hi)))
  repeat (go_quiet (first | ((with_reducible refine gate_dst (N := 1) rfl ?_); refine box_event ?hg (N := 1) ?hd (cs := #[.int .i64 a0_0, .slice A0_1 l0_1.length c0_1, .slice A0_2 l0_2.length c0_2]) (t := 27) ?hr ?_; (case hd => rfl); (case hg => rfl); (case hr => exact TS); intro gb143 hg w36 hbox hb; have BK143 := Aside0.mk (hbox); have GW143 := Aside0.mk ((TG : w.heap.size ≤ gb143)); have GE143 := Aside0.mk ((TG : w.heap.size ≤ gb143)); replace HB := Aside0.mk (below_step TB hb); clear hb hbox hg; have hcz37_0 := cz BK143.out 0; have hcz37_1 := cz BK143.out 1; have hcz37_2 := cz BK143.out 2; have hfz37_0 := fz BK143.out 0; have hfz37_1 := fz BK143.out 1; have hfz37_2 := fz BK143.out 2) | (go_at_call 17; (with_reducible refine (saronref09_Check.calls k a0_0 _ _ l0_1 _ _ l0_2 t144 _ ?side1 ?side2 ?side3 ?side4 A2.out).mono ?_); (case side1 => exact TC HR0_1.out); (case side2 => exact HC0_1.out); (case side3 => exact TC HR0_2.out); (case side4 => exact HC0_2.out); rintro e w38 ⟨rfl, hb⟩; replace BK143 := Aside0.mk (TKb hb BK143.out); replace HB := Aside0.mk (below_step (TB1 GE143.out) hb); (try clear hb); (try clear hb2); (try clear hk); (try clear hi))); try go_wp2_with (first | ((with_reducible refine gate_dst (N := 1) rfl ?_); refine box_event ?hg (N := 1) ?hd (cs := #[.int .i64 a0_0, .slice A0_1 l0_1.length c0_1, .slice A0_2 l0_2.length c0_2]) (t := 27) ?hr ?_; (case hd => rfl); (case hg => rfl); (case hr => exact TS); intro gb143 hg w36 hbox hb; have BK143 := Aside0.mk (hbox); have GW143 := Aside0.mk ((TG : w.heap.size ≤ gb143)); have GE143 := Aside0.mk ((TG : w.heap.size ≤ gb143)); replace HB := Aside0.mk (below_step TB hb); clear hb hbox hg; have hcz37_0 := cz BK143.out 0; have hcz37_1 := cz BK143.out 1; have hcz37_2 := cz BK143.out 2; have hfz37_0 := fz BK143.out 0; have hfz37_1 := fz BK143.out 1; have hfz37_2 := fz BK143.out 2) | (go_at_call 17; (with_reducible refine (saronref09_Check.calls k a0_0 _ _ l0_1 _ _ l0_2 t144 _ ?side1 ?side2 ?side3 ?side4 A2.out).mono ?_); (case side1 => exact TC HR0_1.out); (case side2 => exact HC0_1.out); (case side3 => exact TC HR0_2.out); (case side4 => exact HC0_2.out); rintro e w38 ⟨rfl, hb⟩; replace BK143 := Aside0.mk (TKb hb BK143.out); replace HB := Aside0.mk (below_step (TB1 GE143.out) hb); (try clear hb); (try clear hb2); (try clear hk); (try clear hi))))
  go_ret2
  exact ⟨TR, TB1 GE143.out⟩
end Go.Proofs.YtfdenclnneigfaaDoor.PRaspKeys
