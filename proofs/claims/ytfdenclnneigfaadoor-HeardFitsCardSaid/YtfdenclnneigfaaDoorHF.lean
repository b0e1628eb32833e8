import Derived.Test.YtfdenclnneigfaaDoorGC
import Derived.Test.YtfdenclnneigfaaDoorM0
import Derived.Test.YtfdenclnneigfaaDoorProg
import Derived.Below
import Derived.Deep.Draws
import Derived.Deep.AppendLies
import Derived.Maps.AppendAt
import Derived.OwnWalk
import Derived.Laws.BytesArg
import Derived.Laws.MakeOwn
import Derived.Laws.OwnMore
import Derived.Deep.OwnRows
import Derived.Tactics
import Derived.Lib.ConvBytes
import Derived.Laws.Slices
import Derived.WalkKit
import Derived.KernelRfl
import Derived.RowKit3
import Derived.Deep.LoopGhost
import Derived.Deep.QuietTactic
import Derived.BigQuiet
import Derived.WideLaws
import Derived.Deep.DeepCutAuto
import Derived.Deep.CutBlock
import Derived.Deep.RegionHeld3
import Derived.Laws.Rows
import Derived.Lib.AppendStr
import Derived.ArgAppend
import Derived.Laws.IdiomCopy
import Derived.OrdersHeld
import Derived.Laws.BitsLemmas
import Derived.RowKit
set_option linter.unusedVariables false
set_option linter.unusedSimpArgs false
namespace Go.Proofs.YtfdenclnneigfaaDoor.PRaspKeys
open Go.RowKit Go.Proofs.YtfdenclnneigfaaDoorW.PrintWords Go.Proofs.YtfdenclnneigfaaDoorW.PrintLast Go.Proofs.YtfdenclnneigfaaDoorW.PrintMore Go.Proofs.YtfdenclnneigfaaDoor.M
attribute [local go_sem] max2_int min2_int max_two min_two max_three min_three max_four min_four   -- for this text's walks alone
/-! #### struct type 114 -/
/-! #### struct type 62 -/
end Go.Proofs.YtfdenclnneigfaaDoor.PRaspKeys
namespace Go.Proofs.YtfdenclnneigfaaDoor.PRaspKeys
open Go.RowKit Go.Proofs.YtfdenclnneigfaaDoorW.PrintWords Go.Proofs.YtfdenclnneigfaaDoorW.PrintLast Go.Proofs.YtfdenclnneigfaaDoorW.PrintMore Go.Proofs.YtfdenclnneigfaaDoor.M
attribute [local go_sem] max2_int min2_int max_two min_two max_three min_three max_four min_four   -- for this text's walks alone
/-! ### heard_Common: function 30 -/
def heard_Common.f (a0_0 : Int) (l0_1 : List (S114)) (l0_2 : List (S62)) (a1 : Int) (a2 : Int) : Option (Int × Int) := (heard_Check.f a0_0 l0_1 l0_2).bind fun t118 => (if t118 = 0 then ((heard_lies.f a1 0 (wrap64 ((l0_2.length : Int) - 1))).bind fun t119 => (if t119 = true then ((heard_lies.f a2 0 (wrap64 ((l0_2.length : Int) - 1))).bind fun t120 => (if t120 = true then (if 0 ≤ a1 then (if a1 < (l0_2.length : Int) then (if 0 ≤ a2 then (if a2 < (l0_2.length : Int) then ((heard_common.f ((rd_T62 l0_2 a1).f1) ((rd_T62 l0_2 a2).f1)).bind fun t123 => (some (t123, 0))) else (none)) else (none)) else (none)) else (none)) else (some (0, 91)))) else (some (0, 91)))) else (some (0, t118)))
def heard_Common.T6 : Bool × List (List Nat × List Nat) := (true, [([], []), ([0], [0]), ([], []), ([1, 2], [1, 2]), ([3], [3]), ([4], [4]), ([], []), ([6], [6]), ([], []), ([7, 8], [7, 8]), ([9], [9]), ([10], [10]), ([5, 11], [5, 11]), ([12, 12, 0, 1, 2, 3, 4, 5, 6, 7, 8, 9, 10, 11, 12], [12]), ([13, 0, 1, 2, 3, 4, 5, 6, 7, 8, 9, 10, 11, 12, 13], [])])
def heard_Common.B6 : List Nat := [0, 1, 0, 7, 15, 31, 0, 64, 0, 448, 960, 1984, 4095, 8191, 16383]
theorem heard_Common.tab6 : rtab .any (opsOf Tryd.f30 6) = heard_Common.T6 := by kernel_rfl
theorem heard_Common.bits6 : waitsOk heard_Common.T6.2 heard_Common.B6 = true := by kernel_rfl
set_option maxHeartbeats 8000000 in
set_option maxRecDepth 100000 in
theorem heard_Common.calls (a0_0 : Int) (A0_1 : Option Addr) (c0_1 : Nat) (l0_1 : List (S114)) (A0_2 : Option Addr) (c0_2 : Nat) (l0_2 : List (S62)) (a1 : Int) (a2 : Int) (r1 : Int) (r2 : Int) (w : World) (hr0_1 : Kd.C k114 w A0_1 l0_1.length l0_1) (hc0_1 : l0_1.length ≤ c0_1) (hr0_2 : Kd.C k62 w A0_2 l0_2.length l0_2) (hc0_2 : l0_2.length ≤ c0_2) (hG : Glob w) (h : heard_Common.f a0_0 l0_1 l0_2 a1 a2 = some (r1, r2)) :
  Calls Tryd.prog 30 #[.agg #[.int .i64 a0_0, .slice A0_1 l0_1.length c0_1, .slice A0_2 l0_2.length c0_2], .int .i64 a1, .int .i64 a2] w fun e w' => e = .returned (.tuple #[.int .i64 r1, .int .i64 r2]) ∧ Below w.heap.size w w' := by
 have hu27 := Tryd.underlying27
 have HR0_1 := Aside0.mk hr0_1
 have HC0_1 := Aside0.mk hc0_1
 clear hr0_1 hc0_1
 have HR0_2 := Aside0.mk hr0_2
 have HC0_2 := Aside0.mk hc0_2
 clear hr0_2 hc0_2
 have HB := Aside0.mk (Below.refl w.heap.size w)
 have HG := Aside0.mk hG
 clear hG
 have H : ((heard_Check.f a0_0 l0_1 l0_2).bind fun t118 => (if t118 = 0 then ((heard_lies.f a1 0 (wrap64 ((l0_2.length : Int) - 1))).bind fun t119 => (if t119 = true then ((heard_lies.f a2 0 (wrap64 ((l0_2.length : Int) - 1))).bind fun t120 => (if t120 = true then (if 0 ≤ a1 then (if a1 < (l0_2.length : Int) then (if 0 ≤ a2 then (if a2 < (l0_2.length : Int) then ((heard_common.f ((rd_T62 l0_2 a1).f1) ((rd_T62 l0_2 a2).f1)).bind fun t123 => (some (t123, 0))) else (none)) else (none)) else (none)) else (none)) else (some (0, 91)))) else (some (0, 91)))) else (some (0, t118)))) = some (r1, r2) := h
 clear h
 replace H := Option.bind_eq_some_iff.mp H
 obtain ⟨t118, A40, H⟩ := H
 replace H : (if t118 = 0 then ((heard_lies.f a1 0 (wrap64 ((l0_2.length : Int) - 1))).bind fun t119 => (if t119 = true then ((heard_lies.f a2 0 (wrap64 ((l0_2.length : Int) - 1))).bind fun t120 => (if t120 = true then (if 0 ≤ a1 then (if a1 < (l0_2.length : Int) then (if 0 ≤ a2 then (if a2 < (l0_2.length : Int) then ((heard_common.f ((rd_T62 l0_2 a1).f1) ((rd_T62 l0_2 a2).f1)).bind fun t123 => (some (t123, 0))) else (none)) else (none)) else (none)) else (none)) else (some (0, 91)))) else (some (0, 91)))) else (some (0, t118))) = some (r1, r2) := H
 have A4 := Aside0.mk A40
 clear A40
 by_cases c5 : t118 = 0
 ·rw [if_pos c5] at H
  have c5b0 : (t118 == 0) = true := beq_iff_eq.mpr c5
  have c5b1 : (t118 != 0) = false := bne_eq_false_iff_eq.mpr c5
  clear c5
  replace H := Option.bind_eq_some_iff.mp H
  obtain ⟨t119, A60, H⟩ := H
  replace H : (if t119 = true then ((heard_lies.f a2 0 (wrap64 ((l0_2.length : Int) - 1))).bind fun t120 => (if t120 = true then (if 0 ≤ a1 then (if a1 < (l0_2.length : Int) then (if 0 ≤ a2 then (if a2 < (l0_2.length : Int) then ((heard_common.f ((rd_T62 l0_2 a1).f1) ((rd_T62 l0_2 a2).f1)).bind fun t123 => (some (t123, 0))) else (none)) else (none)) else (none)) else (none)) else (some (0, 91)))) else (some (0, 91))) = some (r1, r2) := H
  have A6 := Aside0.mk A60
  clear A60
  by_cases c7 : t119 = true
  ·subst c7
   have H1 : ((heard_lies.f a2 0 (wrap64 ((l0_2.length : Int) - 1))).bind fun t120 => (if t120 = true then (if 0 ≤ a1 then (if a1 < (l0_2.length : Int) then (if 0 ≤ a2 then (if a2 < (l0_2.length : Int) then ((heard_common.f ((rd_T62 l0_2 a1).f1) ((rd_T62 l0_2 a2).f1)).bind fun t123 => (some (t123, 0))) else (none)) else (none)) else (none)) else (none)) else (some (0, 91)))) = some (r1, r2) := by rw [if_pos rfl] at H; exact H
   clear H
   have H := H1
   clear H1
   replace H := Option.bind_eq_some_iff.mp H
   obtain ⟨t120, A80, H⟩ := H
   replace H : (if t120 = true then (if 0 ≤ a1 then (if a1 < (l0_2.length : Int) then (if 0 ≤ a2 then (if a2 < (l0_2.length : Int) then ((heard_common.f ((rd_T62 l0_2 a1).f1) ((rd_T62 l0_2 a2).f1)).bind fun t123 => (some (t123, 0))) else (none)) else (none)) else (none)) else (none)) else (some (0, 91))) = some (r1, r2) := H
   have A8 := Aside0.mk A80
   clear A80
   by_cases c9 : t120 = true
   ·subst c9
    have H1 : (if 0 ≤ a1 then (if a1 < (l0_2.length : Int) then (if 0 ≤ a2 then (if a2 < (l0_2.length : Int) then ((heard_common.f ((rd_T62 l0_2 a1).f1) ((rd_T62 l0_2 a2).f1)).bind fun t123 => (some (t123, 0))) else (none)) else (none)) else (none)) else (none)) = some (r1, r2) := by rw [if_pos rfl] at H; exact H
    clear H
    have H := H1
    clear H1
    by_cases c10 : 0 ≤ a1
    ·rw [if_pos c10] at H
     have c10b0 : decide (0 ≤ a1) = true := decide_eq_true c10
     clear c10
     by_cases c11 : a1 < (l0_2.length : Int)
     ·rw [if_pos c11] at H
      have c11b0 : decide (a1 < (l0_2.length : Int)) = true := decide_eq_true c11
      clear c11
      by_cases c12 : 0 ≤ a2
      ·rw [if_pos c12] at H
       have c12b0 : decide (0 ≤ a2) = true := decide_eq_true c12
       clear c12
       by_cases c13 : a2 < (l0_2.length : Int)
       ·rw [if_pos c13] at H
        have c13b0 : decide (a2 < (l0_2.length : Int)) = true := decide_eq_true c13
        clear c13
        replace H := Option.bind_eq_some_iff.mp H
        obtain ⟨t123, A140, H⟩ := H
        replace H : (some (t123, 0)) = some (r1, r2) := H
        have A14 := Aside0.mk A140
        clear A140
        simp only [Option.some.injEq, Prod.mk.injEq] at H
        obtain ⟨rfl, rfl⟩ := H
        go_enter Tryd.func30, Tryd.ntmps30
        try go_wp2_with (first | ((with_reducible refine gate_dst (N := 3) rfl ?_); (try (refine gate_guard (by rfl) ?_; dsimp only)); refine box_event ?hg (N := 3) ?hd (cs := #[.int .i64 a0_0, .slice A0_1 l0_1.length c0_1, .slice A0_2 l0_2.length c0_2]) (t := 27) ?hr ?_; (case hd => rfl); (case hg => rfl); (case hr => exact TS); intro gb117 hg w15 hbox hb; have BK117 := Aside0.mk (hbox); have GW117 := Aside0.mk ((TG : w.heap.size ≤ gb117)); have GE117 := Aside0.mk ((TG : w.heap.size ≤ gb117)); replace HB := Aside0.mk (below_step TB hb); clear hb hbox hg; have hcz16_0 := cz BK117.out 0; have hcz16_1 := cz BK117.out 1; have hcz16_2 := cz BK117.out 2; have hfz16_0 := fz BK117.out 0; have hfz16_1 := fz BK117.out 1; have hfz16_2 := fz BK117.out 2) | ((with_reducible refine gate_callee (f := 16) rfl ?_); refine goesL_ (some 10) rfl rfl Tryd.func16 (by kernel_rfl) rfl #[.agg #[.int .i64 a0_0, .slice A0_1 l0_1.length c0_1, .slice A0_2 l0_2.length c0_2]] rfl TM ?_; (with_reducible refine (heard_Check.calls a0_0 _ _ l0_1 _ _ l0_2 t118 _ ?side1 ?side2 ?side3 ?side4 ?side5 A4.out).mono ?_); (case side1 => exact TC HR0_1.out); (case side2 => exact HC0_1.out); (case side3 => exact TC HR0_2.out); (case side4 => exact HC0_2.out); (case side5 => exact Glob.fr HG.out (Fr.of_below (TB1 GE117.out))); rintro e w17 ⟨rfl, hb⟩; refine ⟨_, rfl, ?_⟩; replace BK117 := Aside0.mk (TKb hb BK117.out); replace HB := Aside0.mk (below_step (TB1 GE117.out) hb); (try clear hb); (try clear hb2); (try clear hk); (try clear hi); have hcz18_0 := cz BK117.out 0; have hcz18_1 := cz BK117.out 1; have hcz18_2 := cz BK117.out 2; have hfz18_0 := fz BK117.out 0; have hfz18_1 := fz BK117.out 1; have hfz18_2 := fz BK117.out 2) | ((with_reducible refine gate_callee (f := 59) rfl ?_); refine goesL_ (some 19) rfl rfl Tryd.func59 (by kernel_rfl) rfl #[.int .i64 a1, .int .i64 0, .int .i64 (wrap64 ((l0_2.length : Int) - 1))] rfl TM ?_; (with_reducible refine (heard_lies.calls a1 0 (wrap64 ((l0_2.length : Int) - 1)) true _ ?side1 A6.out).mono ?_); (case side1 => exact Glob.fr HG.out (Fr.of_below (TB1 GE117.out))); rintro e w19 ⟨rfl, hb⟩; refine ⟨_, rfl, ?_⟩; replace BK117 := Aside0.mk (TKb hb BK117.out); replace HB := Aside0.mk (below_step (TB1 GE117.out) hb); (try clear hb); (try clear hb2); (try clear hk); (try clear hi); have hcz20_0 := cz BK117.out 0; have hcz20_1 := cz BK117.out 1; have hcz20_2 := cz BK117.out 2; have hfz20_0 := fz BK117.out 0; have hfz20_1 := fz BK117.out 1; have hfz20_2 := fz BK117.out 2) | (go_at_call 59; (with_reducible refine (heard_lies.calls a2 0 (wrap64 ((l0_2.length : Int) - 1)) true _ ?side1 A8.out).mono ?_); (case side1 => exact Glob.fr HG.out (Fr.of_below (TB1 GE117.out))); rintro e w21 ⟨rfl, hb⟩; replace BK117 := Aside0.mk (TKb hb BK117.out); replace HB := Aside0.mk (below_step (TB1 GE117.out) hb); (try clear hb); (try clear hb2); (try clear hk); (try clear hi)))
        have n0_ := Aside0.mk (blk_drew BK117.out)
        have n1_ := Aside0.mk (below_drew1 HB.out)
        clear BK117
        clear HB
        have BK117 := n0_
        have HB := n1_
        clear n0_ n1_
        have p121 : 0 ≤ (a1 : Int) := of_decide_eq_true TA
        have q121 : a1 < (l0_2.length : Int) := of_decide_eq_true TA
        obtain ⟨ad121, A121_1, c121_1, e121, hx121_0, hx121_1, hl121_1, hi121_1⟩ := at_T62 HR0_2.out a1 p121 q121
        have hw121_1 := hx121_1
        have hw121_0 := hx121_0
        cases e121
        replace hx121_0 := hx HB.out hx121_0
        replace hx121_1 := hx HB.out hx121_1
        have HR121_1 := Aside0.mk hi121_1
        have HC121_1 := Aside0.mk hl121_1
        clear hi121_1 hl121_1
        replace p121 := eq_true p121
        replace q121 := eq_true q121
        have p122 : 0 ≤ (a2 : Int) := of_decide_eq_true TA
        have q122 : a2 < (l0_2.length : Int) := of_decide_eq_true TA
        obtain ⟨ad122, A122_1, c122_1, e122, hx122_0, hx122_1, hl122_1, hi122_1⟩ := at_T62 HR0_2.out a2 p122 q122
        have hw122_1 := hx122_1
        have hw122_0 := hx122_0
        obtain rfl : ad121 = ad122 := (by injection e122)
        replace hx122_0 := hx HB.out hx122_0
        replace hx122_1 := hx HB.out hx122_1
        have HR122_1 := Aside0.mk hi122_1
        have HC122_1 := Aside0.mk hl122_1
        clear hi122_1 hl122_1
        replace p122 := eq_true p122
        replace q122 := eq_true q122
        refine start_ (n := 15) (S := fun w' => w'.cell? ⟨gb117, 0, none⟩ = some (.int .i64 a0_0) ∧ w'.cell? ⟨gb117, 1, none⟩ = some (.slice A0_1 l0_1.length c0_1) ∧ w'.cell? ⟨gb117, 2, none⟩ = some (.slice (some ad121) l0_2.length c0_2) ∧ w'.cell? (ad121.add ((a1).toNat * 2)) = some (.int .i64 ((rd_T62 l0_2 a1).f0)) ∧ w'.cell? ⟨(ad121.add ((a1).toNat * 2)).block, (ad121.add ((a1).toNat * 2)).off + 1, none⟩ = some (.slice A121_1 ((rd_T62 l0_2 a1).f1).length c121_1) ∧ w'.cell? (ad121.add ((a2).toNat * 2)) = some (.int .i64 ((rd_T62 l0_2 a2).f0)) ∧ w'.cell? ⟨(ad121.add ((a2).toNat * 2)).block, (ad121.add ((a2).toNat * 2)).off + 1, none⟩ = some (.slice A122_1 ((rd_T62 l0_2 a2).f1).length c122_1)) (ds := []) (.replicate 15 false) (by kernel_rfl) rfl rfl ⟨cz BK117.out 0, cz BK117.out 1, cz BK117.out 2, (hx HB.out hw121_0), (hx HB.out hw121_1), (hx HB.out hw122_0), (hx HB.out hw122_1)⟩ (fun hHeld => ?_); refine with_tabW heard_Common.tab6 heard_Common.bits6 (fun HT_ HW_ => ?_)
        generalize w21.drew = w22 at BK117 HB HR121_1 HR122_1 hx121_0 hx121_1 hx122_0 hx122_1 hHeld ⊢
        refine pT 0 30 (bt 15 1) (k := ?_)
        refine pT 2 32 (bt 15 5) (k := ?_)
        refine pT 6 36 (bt 15 69) (k := ?_)
        refine pT 8 38 (bt 15 325) (k := ?_)
        refine tT7 1 31 (bt 15 327) hHeld (k := ?_)
        refine pT 3 33 (bt 15 335) (k := ?_)
        refine pT 4 34 (bt 15 351) (k := ?_)
        refine tT7 5 35 (bt 15 383) hHeld (k := ?_)
        refine tT7 7 37 (bt 15 511) hHeld (k := ?_)
        refine pT 9 39 (bt 15 1023) (k := ?_)
        refine pT 10 40 (bt 15 2047) (k := ?_)
        refine tT7 11 41 (bt 15 4095) hHeld (k := ?_)
        refine one_ (i := 12) (N := some 42) (bt 15 8191) rfl rfl (one_of HT_.out (by kernel_rfl)) (by decide) (fun K hK => ?_)
        refine goes_ Tryd.func72 (by kernel_rfl) rfl #[.slice A121_1 ((rd_T62 l0_2 a1).f1).length c121_1, .slice A122_1 ((rd_T62 l0_2 a2).f1).length c122_1] (by rfl) rfl rfl TM ?_
        with_reducible refine (heard_common.calls _ _ ((rd_T62 l0_2 a1).f1) _ _ ((rd_T62 l0_2 a2).f1) t123 _ ?side1 ?side2 ?side3 ?side4 ?side5 A14.out).mono ?_
        (case side1 => exact TC HR121_1.out)
        (case side2 => exact HC121_1.out)
        (case side3 => exact TC HR122_1.out)
        (case side4 => exact HC122_1.out)
        (case side5 => exact Glob.fr HG.out (Fr.of_below (TB1 GE117.out)))
        rintro e w23 ⟨rfl, hb⟩
        refine ⟨_, rfl, ?_⟩
        have n0_ := Aside0.mk (TKb hb BK117.out)
        have n1_ := Aside0.mk (below_step (TB1 GE117.out) hb)
        clear BK117
        clear HB
        have BK117 := n0_
        have HB := n1_
        clear n0_ n1_
        (try clear hb)
        (try clear hb2)
        (try clear hk)
        (try clear hi)
        refine hK.out _ _ ⟨cz BK117.out 0, cz BK117.out 1, cz BK117.out 2, (hx HB.out hw121_0), (hx HB.out hw121_1), (hx HB.out hw122_0), (hx HB.out hw122_1)⟩ (fun hHeld => ?_)
        clear hK K
        refine norm_ (a' := ?_) ?_ ?_
        rotate_left
        ·show Act.put _ (some 42) _ = _
         simp only [Act.put, lA, lZ, lS, i64_w, i32_w]
         rfl
        refine pT 13 6 (bt 15 16383) (k := ?_)
        refine pT 14 7 (bt 15 32767) (k := ?_)
        refine done_ (done_of HT_.out (by kernel_rfl)) ?_
        try go_wp2
        go_ret2
        exact ⟨TR, TB1 GE117.out⟩
       ·rw [if_neg c13] at H
        exact absurd H (by simp)
      ·rw [if_neg c12] at H
       exact absurd H (by simp)
     ·rw [if_neg c11] at H
      exact absurd H (by simp)
    ·rw [if_neg c10] at H
     exact absurd H (by simp)
   ·replace c9 := Bool.eq_false_iff.mpr c9
    subst c9
    have H1 : (some (0, 91)) = some (r1, r2) := by rw [if_neg (show ¬ (false = true) by decide)] at H; exact H
    clear H
    have H := H1
    clear H1
    simp only [Option.some.injEq, Prod.mk.injEq] at H
    obtain ⟨rfl, rfl⟩ := H
    go_enter Tryd.func30, Tryd.ntmps30
    go_wp2_with (first | ((with_reducible refine gate_dst (N := 3) rfl ?_); (try (refine gate_guard (by rfl) ?_; dsimp only)); refine box_event ?hg (N := 3) ?hd (cs := #[.int .i64 a0_0, .slice A0_1 l0_1.length c0_1, .slice A0_2 l0_2.length c0_2]) (t := 27) ?hr ?_; (case hd => rfl); (case hg => rfl); (case hr => exact TS); intro gb117 hg w24 hbox hb; have BK117 := Aside0.mk (hbox); have GW117 := Aside0.mk ((TG : w.heap.size ≤ gb117)); have GE117 := Aside0.mk ((TG : w.heap.size ≤ gb117)); replace HB := Aside0.mk (below_step TB hb); clear hb hbox hg; have hcz25_0 := cz BK117.out 0; have hcz25_1 := cz BK117.out 1; have hcz25_2 := cz BK117.out 2; have hfz25_0 := fz BK117.out 0; have hfz25_1 := fz BK117.out 1; have hfz25_2 := fz BK117.out 2) | ((with_reducible refine gate_callee (f := 16) rfl ?_); refine goesL_ (some 10) rfl rfl Tryd.func16 (by kernel_rfl) rfl #[.agg #[.int .i64 a0_0, .slice A0_1 l0_1.length c0_1, .slice A0_2 l0_2.length c0_2]] rfl TM ?_; (with_reducible refine (heard_Check.calls a0_0 _ _ l0_1 _ _ l0_2 t118 _ ?side1 ?side2 ?side3 ?side4 ?side5 A4.out).mono ?_); (case side1 => exact TC HR0_1.out); (case side2 => exact HC0_1.out); (case side3 => exact TC HR0_2.out); (case side4 => exact HC0_2.out); (case side5 => exact Glob.fr HG.out (Fr.of_below (TB1 GE117.out))); rintro e w26 ⟨rfl, hb⟩; refine ⟨_, rfl, ?_⟩; replace BK117 := Aside0.mk (TKb hb BK117.out); replace HB := Aside0.mk (below_step (TB1 GE117.out) hb); (try clear hb); (try clear hb2); (try clear hk); (try clear hi); have hcz27_0 := cz BK117.out 0; have hcz27_1 := cz BK117.out 1; have hcz27_2 := cz BK117.out 2; have hfz27_0 := fz BK117.out 0; have hfz27_1 := fz BK117.out 1; have hfz27_2 := fz BK117.out 2) | ((with_reducible refine gate_callee (f := 59) rfl ?_); refine goesL_ (some 19) rfl rfl Tryd.func59 (by kernel_rfl) rfl #[.int .i64 a1, .int .i64 0, .int .i64 (wrap64 ((l0_2.length : Int) - 1))] rfl TM ?_; (with_reducible refine (heard_lies.calls a1 0 (wrap64 ((l0_2.length : Int) - 1)) true _ ?side1 A6.out).mono ?_); (case side1 => exact Glob.fr HG.out (Fr.of_below (TB1 GE117.out))); rintro e w28 ⟨rfl, hb⟩; refine ⟨_, rfl, ?_⟩; replace BK117 := Aside0.mk (TKb hb BK117.out); replace HB := Aside0.mk (below_step (TB1 GE117.out) hb); (try clear hb); (try clear hb2); (try clear hk); (try clear hi); have hcz29_0 := cz BK117.out 0; have hcz29_1 := cz BK117.out 1; have hcz29_2 := cz BK117.out 2; have hfz29_0 := fz BK117.out 0; have hfz29_1 := fz BK117.out 1; have hfz29_2 := fz BK117.out 2) | (go_at_call 59; (with_reducible refine (heard_lies.calls a2 0 (wrap64 ((l0_2.length : Int) - 1)) false _ ?side1 A8.out).mono ?_); (case side1 => exact Glob.fr HG.out (Fr.of_below (TB1 GE117.out))); rintro e w30 ⟨rfl, hb⟩; replace BK117 := Aside0.mk (TKb hb BK117.out); replace HB := Aside0.mk (below_step (TB1 GE117.out) hb); (try clear hb); (try clear hb2); (try clear hk); (try clear hi)))
    go_ret2
    exact ⟨TR, TB1 GE117.out⟩
  ·replace c7 := Bool.eq_false_iff.mpr c7
   subst c7
   have H1 : (some (0, 91)) = some (r1, r2) := by rw [if_neg (show ¬ (false = true) by decide)] at H; exact H
   clear H
   have H := H1
   clear H1
   simp only [Option.some.injEq, Prod.mk.injEq] at H
   obtain ⟨rfl, rfl⟩ := H
   go_enter Tryd.func30, Tryd.ntmps30
   go_wp2_with (first | ((with_reducible refine gate_dst (N := 3) rfl ?_); (try (refine gate_guard (by rfl) ?_; dsimp only)); refine box_event ?hg (N := 3) ?hd (cs := #[.int .i64 a0_0, .slice A0_1 l0_1.length c0_1, .slice A0_2 l0_2.length c0_2]) (t := 27) ?hr ?_; (case hd => rfl); (case hg => rfl); (case hr => exact TS); intro gb117 hg w31 hbox hb; have BK117 := Aside0.mk (hbox); have GW117 := Aside0.mk ((TG : w.heap.size ≤ gb117)); have GE117 := Aside0.mk ((TG : w.heap.size ≤ gb117)); replace HB := Aside0.mk (below_step TB hb); clear hb hbox hg; have hcz32_0 := cz BK117.out 0; have hcz32_1 := cz BK117.out 1; have hcz32_2 := cz BK117.out 2; have hfz32_0 := fz BK117.out 0; have hfz32_1 := fz BK117.out 1; have hfz32_2 := fz BK117.out 2) | ((with_reducible refine gate_callee (f := 16) rfl ?_); refine goesL_ (some 10) rfl rfl Tryd.func16 (by kernel_rfl) rfl #[.agg #[.int .i64 a0_0, .slice A0_1 l0_1.length c0_1, .slice A0_2 l0_2.length c0_2]] rfl TM ?_; (with_reducible refine (heard_Check.calls a0_0 _ _ l0_1 _ _ l0_2 t118 _ ?side1 ?side2 ?side3 ?side4 ?side5 A4.out).mono ?_); (case side1 => exact TC HR0_1.out); (case side2 => exact HC0_1.out); (case side3 => exact TC HR0_2.out); (case side4 => exact HC0_2.out); (case side5 => exact Glob.fr HG.out (Fr.of_below (TB1 GE117.out))); rintro e w33 ⟨rfl, hb⟩; refine ⟨_, rfl, ?_⟩; replace BK117 := Aside0.mk (TKb hb BK117.out); replace HB := Aside0.mk (below_step (TB1 GE117.out) hb); (try clear hb); (try clear hb2); (try clear hk); (try clear hi); have hcz34_0 := cz BK117.out 0; have hcz34_1 := cz BK117.out 1; have hcz34_2 := cz BK117.out 2; have hfz34_0 := fz BK117.out 0; have hfz34_1 := fz BK117.out 1; have hfz34_2 := fz BK117.out 2) | ((with_reducible refine gate_callee (f := 59) rfl ?_); refine goesL_ (some 19) rfl rfl Tryd.func59 (by kernel_rfl) rfl #[.int .i64 a1, .int .i64 0, .int .i64 (wrap64 ((l0_2.length : Int) - 1))] rfl TM ?_; (with_reducible refine (heard_lies.calls a1 0 (wrap64 ((l0_2.length : Int) - 1)) false _ ?side1 A6.out).mono ?_); (case side1 => exact Glob.fr HG.out (Fr.of_below (TB1 GE117.out))); rintro e w35 ⟨rfl, hb⟩; refine ⟨_, rfl, ?_⟩; replace BK117 := Aside0.mk (TKb hb BK117.out); replace HB := Aside0.mk (below_step (TB1 GE117.out) hb); (try clear hb); (try clear hb2); (try clear hk); (try clear hi)))
   go_ret2
   exact ⟨TR, TB1 GE117.out⟩
 ·rw [if_neg c5] at H
  have c5b0 : (t118 == 0) = false := beq_eq_false_iff_ne.mpr c5
  have c5b1 : (t118 != 0) = true := bne_iff_ne.mpr c5
  simp only [Option.some.injEq, Prod.mk.injEq] at H
  obtain ⟨rfl, rfl⟩ := H
  go_enter Tryd.func30, Tryd.ntmps30
  go_wp2_with (first | ((with_reducible refine gate_dst (N := 3) rfl ?_); (try (refine gate_guard (by rfl) ?_; dsimp only)); refine box_event ?hg (N := 3) ?hd (cs := #[.int .i64 a0_0, .slice A0_1 l0_1.length c0_1, .slice A0_2 l0_2.length c0_2]) (t := 27) ?hr ?_; (case hd => rfl); (case hg => rfl); (case hr => exact TS); intro gb117 hg w36 hbox hb; have BK117 := Aside0.mk (hbox); have GW117 := Aside0.mk ((TG : w.heap.size ≤ gb117)); have GE117 := Aside0.mk ((TG : w.heap.size ≤ gb117)); replace HB := Aside0.mk (below_step TB hb); clear hb hbox hg; have hcz37_0 := cz BK117.out 0; have hcz37_1 := cz BK117.out 1; have hcz37_2 := cz BK117.out 2; have hfz37_0 := fz BK117.out 0; have hfz37_1 := fz BK117.out 1; have hfz37_2 := fz BK117.out 2) | ((with_reducible refine gate_callee (f := 16) rfl ?_); refine goesL_ (some 10) rfl rfl Tryd.func16 (by kernel_rfl) rfl #[.agg #[.int .i64 a0_0, .slice A0_1 l0_1.length c0_1, .slice A0_2 l0_2.length c0_2]] rfl TM ?_; (with_reducible refine (heard_Check.calls a0_0 _ _ l0_1 _ _ l0_2 t118 _ ?side1 ?side2 ?side3 ?side4 ?side5 A4.out).mono ?_); (case side1 => exact TC HR0_1.out); (case side2 => exact HC0_1.out); (case side3 => exact TC HR0_2.out); (case side4 => exact HC0_2.out); (case side5 => exact Glob.fr HG.out (Fr.of_below (TB1 GE117.out))); rintro e w38 ⟨rfl, hb⟩; refine ⟨_, rfl, ?_⟩; replace BK117 := Aside0.mk (TKb hb BK117.out); replace HB := Aside0.mk (below_step (TB1 GE117.out) hb); (try clear hb); (try clear hb2); (try clear hk); (try clear hi)))
  go_ret2
  exact ⟨TR, TB1 GE117.out⟩
/-! ### heard_Whole: function 32 -/
mutual
def heard_Whole.j0 : Nat → List Int → Int → Bool → Int → List (S114) → List (S62) → Option (List Int × Int)
 | 0, _, _, _, _, _, _ => none
 | k + 1, x1, x2, x24, x125000, x125001, x125002 => if x24 = true then (some (([] : List Int), 91)) else (heard_Whole.l0 k x1 x2 ([] : List Int) x125002 (x125002.length : Int) 0)
def heard_Whole.l0 : Nat → List Int → Int → List Int → List (S62) → Int → Int → Option (List Int × Int)
 | 0, _, _, _, _, _, _ => none
 | k + 1, x1, x2, x9, x26, x27, x28 => if x28 < x27 then (if 0 ≤ x28 then (if x28 < (x26.length : Int) then ((heard_common.f ((rd_T62 x26 x28).f1) x1).bind fun t130 => (if t130 = (x1.length : Int) then (if (wrap64 ((((rd_T62 x26 x28).f1).length : Int) - (x1.length : Int))) ≤ x2 then (if x9.length < 17592186044416 then (heard_Whole.l0 k x1 x2 (x9 ++ [x28]) x26 x27 (wrap64 (x28 + 1))) else (none)) else (heard_Whole.l0 k x1 x2 x9 x26 x27 (wrap64 (x28 + 1)))) else (heard_Whole.l0 k x1 x2 x9 x26 x27 (wrap64 (x28 + 1))))) else (none)) else (none)) else (some (x9, 0))
end
def heard_Whole.f (k : Nat) (a0_0 : Int) (l0_1 : List (S114)) (l0_2 : List (S62)) (l1 : List Int) (a2 : Int) : Option (List Int × Int) := (heard_Check.f a0_0 l0_1 l0_2).bind fun t125 => (if t125 = 0 then ((heard_areTones.f l1 0).bind fun t126 => (if t126 = true then ((heard_lies.f a2 0 6).bind fun t127 => (heard_Whole.j0 k l1 a2 (!t127) a0_0 l0_1 l0_2)) else (heard_Whole.j0 k l1 a2 true a0_0 l0_1 l0_2))) else (some (([] : List Int), t125)))
theorem heard_Whole.mono_l : ∀ k, (∀ y0 y1 y2 y3 y4 y5, LeO (heard_Whole.j0 k y0 y1 y2 y3 y4 y5) (heard_Whole.j0 (k + 1) y0 y1 y2 y3 y4 y5)) ∧ (∀ y0 y1 y2 y3 y4 y5, LeO (heard_Whole.l0 k y0 y1 y2 y3 y4 y5) (heard_Whole.l0 (k + 1) y0 y1 y2 y3 y4 y5))
 | 0 => ⟨fun _ _ _ _ _ _ r h => by simp [heard_Whole.j0] at h, fun _ _ _ _ _ _ r h => by simp [heard_Whole.l0] at h⟩
 | k + 1 => by
  obtain ⟨ih0, ih1⟩ := heard_Whole.mono_l k
  refine ⟨?_, ?_⟩
  ·intro y0 y1 y2 y3 y4 y5
   unfold heard_Whole.j0
   repeat' first
   | (with_reducible exact ih0 _ _ _ _ _ _)
   | (with_reducible exact ih1 _ _ _ _ _ _)
   | (with_reducible exact LeO.refl _)
   | (with_reducible exact LeO.none _)
   | (with_reducible refine LeO.ite ?_ ?_)
   | (with_reducible refine LeO.bind ?_ (fun _ => ?_))
   | exact ih0 _ _ _ _ _ _
   | exact ih1 _ _ _ _ _ _
   | exact LeO.none _
   | refine LeO.ite ?_ ?_
   | refine LeO.bind ?_ (fun _ => ?_)
  ·intro y0 y1 y2 y3 y4 y5
   unfold heard_Whole.l0
   repeat' first
   | (with_reducible exact ih0 _ _ _ _ _ _)
   | (with_reducible exact ih1 _ _ _ _ _ _)
   | (with_reducible exact LeO.refl _)
   | (with_reducible exact LeO.none _)
   | (with_reducible refine LeO.ite ?_ ?_)
   | (with_reducible refine LeO.bind ?_ (fun _ => ?_))
   | exact ih0 _ _ _ _ _ _
   | exact ih1 _ _ _ _ _ _
   | exact LeO.none _
   | refine LeO.ite ?_ ?_
   | refine LeO.bind ?_ (fun _ => ?_)
theorem heard_Whole.mono : ∀ a0 a1 a2 a3 a4 k, LeO (heard_Whole.f k a0 a1 a2 a3 a4) (heard_Whole.f (k + 1) a0 a1 a2 a3 a4) := by
 intro a0 a1 a2 a3 a4 k
 obtain ⟨ih0, ih1⟩ := heard_Whole.mono_l k
 unfold heard_Whole.f
 repeat' first
   | (with_reducible exact ih0 _ _ _ _ _ _)
   | (with_reducible exact ih1 _ _ _ _ _ _)
   | (with_reducible exact LeO.refl _)
   | (with_reducible exact LeO.none _)
   | (with_reducible refine LeO.ite ?_ ?_)
   | (with_reducible refine LeO.bind ?_ (fun _ => ?_))
   | exact ih0 _ _ _ _ _ _
   | exact ih1 _ _ _ _ _ _
   | exact LeO.none _
   | refine LeO.ite ?_ ?_
   | refine LeO.bind ?_ (fun _ => ?_)
set_option maxHeartbeats 8000000 in
set_option maxRecDepth 100000 in
theorem heard_Whole.calls (k : Nat) (a0_0 : Int) (A0_1 : Option Addr) (c0_1 : Nat) (l0_1 : List (S114)) (A0_2 : Option Addr) (c0_2 : Nat) (l0_2 : List (S62)) (A1 : Option Addr) (c1 : Nat) (l1 : List Int) (a2 : Int) (r1 : List Int) (r2 : Int) (w : World) (hr0_1 : Kd.C k114 w A0_1 l0_1.length l0_1) (hc0_1 : l0_1.length ≤ c0_1) (hr0_2 : Kd.C k62 w A0_2 l0_2.length l0_2) (hc0_2 : l0_2.length ≤ c0_2) (hr1 : Kd.C (Kd.int .i64) w A1 l1.length l1) (hc1 : l1.length ≤ c1) (hG : Glob w) (h : heard_Whole.f k a0_0 l0_1 l0_2 l1 a2 = some (r1, r2)) :
  Calls Tryd.prog 32 #[.agg #[.int .i64 a0_0, .slice A0_1 l0_1.length c0_1, .slice A0_2 l0_2.length c0_2], .slice A1 l1.length c1, .int .i64 a2] w fun e w' => ∃ v0_ : Value, e = .returned (.tuple #[v0_, .int .i64 r2]) ∧ Kd.V (Kd.int .i64) 3 w' w.heap.size (fun k_ => (w.heap.size ≤ k_)) v0_ r1 ∧ Below w.heap.size w w' := by
 have hu27 := Tryd.underlying27
 have hu62 := Tryd.underlying62
 have HR0_1 := Aside0.mk hr0_1
 have HC0_1 := Aside0.mk hc0_1
 clear hr0_1 hc0_1
 have HR0_2 := Aside0.mk hr0_2
 have HC0_2 := Aside0.mk hc0_2
 clear hr0_2 hc0_2
 have HR1 := Aside0.mk hr1
 have HC1 := Aside0.mk hc1
 clear hr1 hc1
 have HB := Aside0.mk (Below.refl w.heap.size w)
 have HG := Aside0.mk hG
 clear hG
 have H : ((heard_Check.f a0_0 l0_1 l0_2).bind fun t125 => (if t125 = 0 then ((heard_areTones.f l1 0).bind fun t126 => (if t126 = true then ((heard_lies.f a2 0 6).bind fun t127 => (heard_Whole.j0 k l1 a2 (!t127) a0_0 l0_1 l0_2)) else (heard_Whole.j0 k l1 a2 true a0_0 l0_1 l0_2))) else (some (([] : List Int), t125)))) = some (r1, r2) := h
 clear h
 replace H := Option.bind_eq_some_iff.mp H
 obtain ⟨t125, A40, H⟩ := H
 replace H : (if t125 = 0 then ((heard_areTones.f l1 0).bind fun t126 => (if t126 = true then ((heard_lies.f a2 0 6).bind fun t127 => (heard_Whole.j0 k l1 a2 (!t127) a0_0 l0_1 l0_2)) else (heard_Whole.j0 k l1 a2 true a0_0 l0_1 l0_2))) else (some (([] : List Int), t125))) = some (r1, r2) := H
 have A4 := Aside0.mk A40
 clear A40
 by_cases c5 : t125 = 0
 ·rw [if_pos c5] at H
  have c5b0 : (t125 == 0) = true := beq_iff_eq.mpr c5
  have c5b1 : (t125 != 0) = false := bne_eq_false_iff_eq.mpr c5
  clear c5
  have HC6 := Aside0.mk H
  clear H
  go_enter Tryd.func32, Tryd.ntmps32
  go_upto_region 4 with (first | ((with_reducible refine gate_dst (N := 3) rfl ?_); (try (refine gate_guard (by rfl) ?_; dsimp only)); refine box_event ?hg (N := 3) ?hd (cs := #[.int .i64 a0_0, .slice A0_1 l0_1.length c0_1, .slice A0_2 l0_2.length c0_2]) (t := 27) ?hr ?_; (case hd => rfl); (case hg => rfl); (case hr => exact TS); intro gb124 hg w7 hbox hb; have BK124 := Aside0.mk (hbox); have GW124 := Aside0.mk ((TG : w.heap.size ≤ gb124)); have GE124 := Aside0.mk ((TG : w.heap.size ≤ gb124)); replace HB := Aside0.mk (below_step TB hb); clear hb hbox hg; have hcz8_0 := cz BK124.out 0; have hcz8_1 := cz BK124.out 1; have hcz8_2 := cz BK124.out 2; have hfz8_0 := fz BK124.out 0; have hfz8_1 := fz BK124.out 1; have hfz8_2 := fz BK124.out 2) | ((with_reducible refine gate_callee (f := 16) rfl ?_); refine goesL_ (some 13) rfl rfl Tryd.func16 (by kernel_rfl) rfl #[.agg #[.int .i64 a0_0, .slice A0_1 l0_1.length c0_1, .slice A0_2 l0_2.length c0_2]] rfl TM ?_; (with_reducible refine (heard_Check.calls a0_0 _ _ l0_1 _ _ l0_2 t125 _ ?side1 ?side2 ?side3 ?side4 ?side5 A4.out).mono ?_); (case side1 => exact TC HR0_1.out); (case side2 => exact HC0_1.out); (case side3 => exact TC HR0_2.out); (case side4 => exact HC0_2.out); (case side5 => exact Glob.fr HG.out (Fr.of_below (TB1 GE124.out))); rintro e w9 ⟨rfl, hb⟩; refine ⟨_, rfl, ?_⟩; replace BK124 := Aside0.mk (TKb hb BK124.out); replace HB := Aside0.mk (below_step (TB1 GE124.out) hb); (try clear hb); (try clear hb2); (try clear hk); (try clear hi)))
  (try simp only [Act.put, lA, lZ, lS])
  go_cut [24] (fun v24 wc => ∃ (kq : Nat) (x24_5 : Bool), v24 = .bool x24_5 ∧ Aside0 (heard_Whole.j0 kq l1 a2 x24_5 a0_0 l0_1 l0_2 = some (r1, r2)) ∧ Aside0 (kq ≤ k) ∧ Aside0 (wc.heap[gb124]? = some (.cells #[.int .i64 a0_0, (.slice A0_1 l0_1.length c0_1), (.slice A0_2 l0_2.length c0_2)] 27 (0, 0))) ∧ Aside0 (Below w.heap.size w wc))
  case first => as_aux_lemma =>
   have H := HC6.out
   clear HC6
   replace H := Option.bind_eq_some_iff.mp H
   obtain ⟨t126, A100, H⟩ := H
   replace H : (if t126 = true then ((heard_lies.f a2 0 6).bind fun t127 => (heard_Whole.j0 k l1 a2 (!t127) a0_0 l0_1 l0_2)) else (heard_Whole.j0 k l1 a2 true a0_0 l0_1 l0_2)) = some (r1, r2) := H
   have A10 := Aside0.mk A100
   clear A100
   by_cases c11 : t126 = true
   ·subst c11
    have H1 : ((heard_lies.f a2 0 6).bind fun t127 => (heard_Whole.j0 k l1 a2 (!t127) a0_0 l0_1 l0_2)) = some (r1, r2) := by rw [if_pos rfl] at H; exact H
    clear H
    have H := H1
    clear H1
    replace H := Option.bind_eq_some_iff.mp H
    obtain ⟨t127, A120, H⟩ := H
    replace H : (heard_Whole.j0 k l1 a2 (!t127) a0_0 l0_1 l0_2) = some (r1, r2) := H
    have A12 := Aside0.mk A120
    clear A120
    have H' := Aside0.mk H
    clear H
    go_wp2_with (first | ((with_reducible refine gate_callee (f := 60) rfl ?_); refine goesL_ (some 18) rfl rfl Tryd.func60 (by kernel_rfl) rfl #[.slice A1 l1.length c1, .int .i64 0] rfl TM ?_; (with_reducible refine (heard_areTones.calls _ _ l1 0 true _ ?side1 ?side2 ?side3 A10.out).mono ?_); (case side1 => exact TC HR1.out); (case side2 => exact HC1.out); (case side3 => exact Glob.fr HG.out (Fr.of_below (TB1 GE124.out))); rintro e w13 ⟨rfl, hb⟩; refine ⟨_, rfl, ?_⟩; replace BK124 := Aside0.mk (TKb hb BK124.out); replace HB := Aside0.mk (below_step (TB1 GE124.out) hb); (try clear hb); (try clear hb2); (try clear hk); (try clear hi)) | (go_at_call 59; (with_reducible refine (heard_lies.calls a2 0 6 t127 _ ?side1 A12.out).mono ?_); (case side1 => exact Glob.fr HG.out (Fr.of_below (TB1 GE124.out))); rintro e w14 ⟨rfl, hb⟩; replace BK124 := Aside0.mk (TKb hb BK124.out); replace HB := Aside0.mk (below_step (TB1 GE124.out) hb); (try clear hb); (try clear hb2); (try clear hk); (try clear hi)))
    go_meet
    case rel => exact ⟨_, (!t127), TT, H', ⟨by first | omega | exact Nat.le_refl _⟩, ⟨TK BK124.out⟩, ⟨TB1 GE124.out⟩⟩
   ·replace c11 := Bool.eq_false_iff.mpr c11
    subst c11
    have H1 : (heard_Whole.j0 k l1 a2 true a0_0 l0_1 l0_2) = some (r1, r2) := by rw [if_neg (show ¬ (false = true) by decide)] at H; exact H
    clear H
    have H := H1
    clear H1
    have H' := Aside0.mk H
    clear H
    go_wp2_with (first | ((with_reducible refine gate_callee (f := 60) rfl ?_); refine goesL_ (some 18) rfl rfl Tryd.func60 (by kernel_rfl) rfl #[.slice A1 l1.length c1, .int .i64 0] rfl TM ?_; (with_reducible refine (heard_areTones.calls _ _ l1 0 false _ ?side1 ?side2 ?side3 A10.out).mono ?_); (case side1 => exact TC HR1.out); (case side2 => exact HC1.out); (case side3 => exact Glob.fr HG.out (Fr.of_below (TB1 GE124.out))); rintro e w15 ⟨rfl, hb⟩; refine ⟨_, rfl, ?_⟩; replace BK124 := Aside0.mk (TKb hb BK124.out); replace HB := Aside0.mk (below_step (TB1 GE124.out) hb); (try clear hb); (try clear hb2); (try clear hk); (try clear hi)))
    go_meet
    case rel => exact ⟨_, (true), TT, H', ⟨by first | omega | exact Nat.le_refl _⟩, ⟨TK BK124.out⟩, ⟨TB1 GE124.out⟩⟩
  case rest => as_aux_lemma =>
   clear HC6
   try clear c1
   try clear p2
   try clear c3
   try clear c5
   try clear c5b0
   try clear c5b1
   try clear c6
   try clear c11
   try clear hcz8_0 hcz8_1 hcz8_2 hfz8_0 hfz8_1 hfz8_2
   obtain ⟨kq, x24_5, rfl, HA, HJ5, BK124, HB⟩ := hcut
   cases kq with
   | zero => exact absurd HA.out (by simp [heard_Whole.j0])
   | succ kj5 =>
    have H := HA.out
    clear HA
    simp only [heard_Whole.j0] at H
    by_cases c16 : x24_5 = true
    ·subst c16
     have H1 : (some (([] : List Int), 91)) = some (r1, r2) := by rw [if_pos rfl] at H; exact H
     clear H
     have H := H1
     clear H1
     simp only [Option.some.injEq, Prod.mk.injEq] at H
     obtain ⟨rfl, rfl⟩ := H
     go_wp2
     go_ret2
     exact ⟨_, TR, Kd.V_nil _ _ _ _ _, TB1 GE124.out⟩
    ·replace c16 := Bool.eq_false_iff.mpr c16
     subst c16
     have H1 : (heard_Whole.l0 kj5 l1 a2 ([] : List Int) l0_2 (l0_2.length : Int) 0) = some (r1, r2) := by rw [if_neg (show ¬ (false = true) by decide)] at H; exact H
     clear H
     have H := H1
     clear H1
     have H' := Aside0.mk H
     clear H
     have hcz17_0 := cz BK124.out 0
     have hcz17_1 := cz BK124.out 1
     have hcz17_2 := cz BK124.out 2
     have hfz17_0 := fz BK124.out 0
     have hfz17_1 := fz BK124.out 1
     have hfz17_2 := fz BK124.out 2
     go_wp2
     go_loopg [9, 28] kj5 (fun kq v9 v28 w' => ∃ (x9_2 : List Int) (x28_2 : Int), v28 = .int .i64 x28_2 ∧ Aside0 (heard_Whole.l0 kq l1 a2 x9_2 l0_2 (l0_2.length : Int) x28_2 = some (r1, r2)) ∧ Aside0 (kq ≤ kj5) ∧ Aside0 (Kd.R (Kd.int .i64) 3 w' w.heap.size (fun k_ => (w.heap.size ≤ k_)) v9 x9_2) ∧ Aside0 (w'.heap[gb124]? = some (.cells #[.int .i64 a0_0, (.slice A0_1 l0_1.length c0_1), (.slice A0_2 l0_2.length c0_2)] 27 (0, 0))) ∧ Aside0 (Below w.heap.size w w'))
     case atStart => exact ⟨(([] : List Int)), (0), TT, H', ⟨Nat.le_refl _⟩, ⟨by first | exact Kd.R_nil _ _ _ _ _ | exact Kd.N_nil _ _ _ _ _ | exact Kd.V_nil _ _ _ _ _ | exact Kd.Q_nil _ _ _ _ _ | exact Kd.S_nil _ _ _ _ _⟩, ⟨TK BK124.out⟩, ⟨TB1 GE124.out⟩⟩
     case round => as_aux_lemma =>
      clear H'
      try clear c1
      try clear p2
      try clear c3
      try clear c5
      try clear c5b0
      try clear c5b1
      try clear c6
      try clear c11
      try clear c16
      try clear hcz17_0 hcz17_1 hcz17_2
      try clear hcz8_0 hcz8_1 hcz8_2
      try clear hfz17_0 hfz17_1 hfz17_2
      try clear hfz8_0 hfz8_1 hfz8_2
      try clear p2
      obtain ⟨x9_2, x28_2, rfl, HA, HK2, HO_9, BK124, HB⟩ := hrel
      cases gk with
      | zero => exact absurd HA.out (by simp [heard_Whole.l0])
      | succ k2 =>
       have H := HA.out
       clear HA
       simp only [heard_Whole.l0] at H
       by_cases c18 : x28_2 < (l0_2.length : Int)
       ·rw [if_pos c18] at H
        have c18b0 : decide (x28_2 < (l0_2.length : Int)) = true := decide_eq_true c18
        clear c18
        by_cases c19 : 0 ≤ x28_2
        ·rw [if_pos c19] at H
         have c19b0 : decide (0 ≤ x28_2) = true := decide_eq_true c19
         clear c19
         by_cases c20 : x28_2 < (l0_2.length : Int)
         ·rw [if_pos c20] at H
          have c20b0 : decide (x28_2 < (l0_2.length : Int)) = true := decide_eq_true c20
          clear c20
          replace H := Option.bind_eq_some_iff.mp H
          obtain ⟨t130, A210, H⟩ := H
          replace H : (if t130 = (l1.length : Int) then (if (wrap64 ((((rd_T62 l0_2 x28_2).f1).length : Int) - (l1.length : Int))) ≤ a2 then (if x9_2.length < 17592186044416 then (heard_Whole.l0 k2 l1 a2 (x9_2 ++ [x28_2]) l0_2 (l0_2.length : Int) (wrap64 (x28_2 + 1))) else (none)) else (heard_Whole.l0 k2 l1 a2 x9_2 l0_2 (l0_2.length : Int) (wrap64 (x28_2 + 1)))) else (heard_Whole.l0 k2 l1 a2 x9_2 l0_2 (l0_2.length : Int) (wrap64 (x28_2 + 1)))) = some (r1, r2) := H
          have A21 := Aside0.mk A210
          clear A210
          by_cases c22 : t130 = (l1.length : Int)
          ·rw [if_pos c22] at H
           have c22b0 : (t130 == (l1.length : Int)) = true := beq_iff_eq.mpr c22
           have c22b1 : (t130 != (l1.length : Int)) = false := bne_eq_false_iff_eq.mpr c22
           clear c22
           by_cases c23 : (wrap64 ((((rd_T62 l0_2 x28_2).f1).length : Int) - (l1.length : Int))) ≤ a2
           ·rw [if_pos c23] at H
            have c23b0 : decide ((wrap64 ((((rd_T62 l0_2 x28_2).f1).length : Int) - (l1.length : Int))) ≤ a2) = true := decide_eq_true c23
            clear c23
            by_cases c24 : x9_2.length < 17592186044416
            ·rw [if_pos c24] at H
             have LMc24 := Aside0.mk c24
             clear c24
             obtain ⟨y131, hy131⟩ : ∃ y_ : List Int, y_ = (x9_2 ++ [x28_2]) := ⟨_, rfl⟩
             replace H : (heard_Whole.l0 k2 l1 a2 y131 l0_2 (l0_2.length : Int) (wrap64 (x28_2 + 1))) = some (r1, r2) := by first | (rw [hy131]; with_reducible exact H) | (have H2_ := (Option.bind_some _ _).symm.trans H; rw [hy131]; with_reducible exact H2_) | (have H2_ := (Option.bind_some _ _).symm.trans H; with_reducible exact H2_) | with_reducible exact H | (rw [hy131]; exact H) | exact H
             have Ny131 := Aside0.mk hy131
             clear hy131
             have H' := Aside0.mk H
             clear H
             have p128 : 0 ≤ (x28_2 : Int) := of_decide_eq_true TA
             have q128 : x28_2 < (l0_2.length : Int) := of_decide_eq_true TA
             obtain ⟨ad128, A128_1, c128_1, e128, hx128_0, hx128_1, hl128_1, hi128_1⟩ := at_T62 HR0_2.out x28_2 p128 q128
             cases e128
             replace hx128_0 := hx HB.out hx128_0
             replace hx128_1 := hx HB.out hx128_1
             have HR128_1 := Aside0.mk hi128_1
             have HC128_1 := Aside0.mk hl128_1
             clear hi128_1 hl128_1
             replace p128 := eq_true p128
             replace q128 := eq_true q128
             go_wp2_with (first | ((with_reducible refine gate_dst (N := 11) rfl ?_); (try (refine gate_guard (by rfl) ?_; dsimp only)); refine box_event ?hg (N := 11) ?hd (cs := #[.int .i64 0, .slice none 0 0]) (t := 62) ?hr ?_; (case hd => rfl); (case hg => rfl); (case hr => exact TS); intro gb129 hg w25 hbox hb; have BK129 := Aside0.mk (hbox); have GW129 := Aside0.mk ((TG1 GE124.out : w.heap.size ≤ gb129)); have GE129 := Aside0.mk ((TG1 GE124.out : w.heap.size ≤ gb129)); have NB124_129 := Aside0.mk ((by rw [hg]; exact Nat.ne_of_lt (blk_lt (g := gb124) (o := .cells #[.int .i64 a0_0, .slice A0_1 l0_1.length c0_1, .slice (some ad128) l0_2.length c0_2] 27 (0, 0)) (TK BK124.out)) : gb124 ≠ gb129)); have NB129_124 := Aside0.mk ((by rw [hg]; exact Nat.ne_of_gt (blk_lt (g := gb124) (o := .cells #[.int .i64 a0_0, .slice A0_1 l0_1.length c0_1, .slice (some ad128) l0_2.length c0_2] 27 (0, 0)) (TK BK124.out)) : gb129 ≠ gb124)); replace HO_9 := Aside0.mk (Kd.R_below (TRo HO_9.out) hb); replace BK124 := Aside0.mk (TKb hb BK124.out); replace HB := Aside0.mk (below_step (TB1 GE124.out) hb); clear hb hbox hg; have hnb26 := NB129_124.out; have hnc26 := NB124_129.out; have hcz27_0 := cz BK129.out 0; have hcz27_1 := cz BK129.out 1; have hfz27_0 := fz BK129.out 0; have hfz27_1 := fz BK129.out 1) | ((with_reducible refine gate_callee (f := 72) rfl ?_); refine goesL_ (some 36) rfl rfl Tryd.func72 (by kernel_rfl) rfl #[.slice A128_1 ((rd_T62 l0_2 x28_2).f1).length c128_1, .slice A1 l1.length c1] rfl TM ?_; (with_reducible refine (heard_common.calls _ _ ((rd_T62 l0_2 x28_2).f1) _ _ l1 t130 _ ?side1 ?side2 ?side3 ?side4 ?side5 A21.out).mono ?_); (case side1 => exact Kd.C_below HR128_1.out (TB2 GE124.out GE129.out)); (case side2 => exact HC128_1.out); (case side3 => exact Kd.C_below HR1.out (TB2 GE124.out GE129.out)); (case side4 => exact HC1.out); (case side5 => exact Glob.fr HG.out (Fr.of_below (TB2 GE124.out GE129.out))); rintro e w28 ⟨rfl, hb⟩; refine ⟨_, rfl, ?_⟩; replace HO_9 := Aside0.mk (Kd.R_below (by (with_reducible repeat (first | apply Kd.R_alloc | apply Kd.R_drewN | apply Kd.R_drew)); exact (Kd.R_mono (Kd.R_far (p := ⟨gb129, 1, none⟩) (Kd.R_far (p := ⟨gb129, 0, none⟩) (Kd.R_types HO_9.out BK129.out (by decide)) (fun _ hk => hk.2) (.int .i64 ((rd_T62 l0_2 x28_2).f0))) (fun _ hk => hk.2) (.slice A128_1 ((rd_T62 l0_2 x28_2).f1).length c128_1)) (fun _ h_ => h_.1))) hb); replace BK124 := Aside0.mk (blk_below (g := gb124) (o := .cells #[.int .i64 a0_0, .slice A0_1 l0_1.length c0_1, .slice (some ad128) l0_2.length c0_2] 27 (0, 0)) (by (with_reducible repeat (first | refine blk_drewN ?_ _ | refine blk_drew ?_ | refine blk_alloc ?_ _)); refine blk_far ?_ NB124_129.out _; (with_reducible repeat (first | refine blk_drewN ?_ _ | refine blk_drew ?_ | refine blk_alloc ?_ _)); refine blk_far ?_ NB124_129.out _; (with_reducible repeat (first | refine blk_drewN ?_ _ | refine blk_drew ?_ | refine blk_alloc ?_ _)); exact BK124.out) hb); replace BK129 := Aside0.mk (blk_below (g := gb129) (o := .cells #[.int .i64 ((rd_T62 l0_2 x28_2).f0), .slice A128_1 ((rd_T62 l0_2 x28_2).f1).length c128_1] 62 (0, 0)) (by (with_reducible repeat (first | refine blk_drewN ?_ _ | refine blk_drew ?_ | refine blk_alloc ?_ _)); refine blk_put (cs := #[.int .i64 ((rd_T62 l0_2 x28_2).f0), .slice none 0 0]) ?_ 1 _ rfl; (with_reducible repeat (first | refine blk_drewN ?_ _ | refine blk_drew ?_ | refine blk_alloc ?_ _)); refine blk_put (cs := #[.int .i64 0, .slice none 0 0]) ?_ 0 _ rfl; (with_reducible repeat (first | refine blk_drewN ?_ _ | refine blk_drew ?_ | refine blk_alloc ?_ _)); exact BK129.out) hb); replace HB := Aside0.mk (below_step (TB2 GE124.out GE129.out) hb); (try clear hb); (try clear hb2); (try clear hk); (try clear hi); have hcz29_0 := cz BK129.out 0; have hcz29_1 := cz BK129.out 1; have hfz29_0 := fz BK129.out 0; have hfz29_1 := fz BK129.out 1) | ((with_reducible refine gate_builtin (b := .append) (xs := #[.tmp 50, .tmp 52]) rfl ?_); (try (refine gate_guard (by rfl) ?_; dsimp only)); at_builtin; refine Kd.R_append (Kd.int .i64) (w0 := w) w.heap.size rfl (.tmp 50) (.tmp 52) 28 3 (.int .i64 0) 8 rfl Tryd.underlying28 info3 rfl (by decide) (by omega) u9 x9_2 x28_2 [.int .i64 x28_2] (fun k_ => (w.heap.size ≤ k_)) (fun _ => False) rfl rfl ?aP (fun _ hk => hk.elim) ?aF ?aO ?aB ?aS ?aL ?_; (case aP => exact rfl); (case aB => exact (TB2 GE124.out GE129.out)); (case aF => exact (fun k_ hk => (Nat.le_trans (below_size (TB2 GE124.out GE129.out)) hk))); (case aO => exact (TRo HO_9.out)); (case aS => exact (below_size (TB2 GE124.out GE129.out))); (case aL => have := LMc24.out; omega); intro v132 w30 ho hb hg hat; rw [← Ny131.out] at ho; have HO133 := Aside0.mk (ho); replace BK124 := Aside0.mk (blk_grown (g := gb124) (o := .cells #[.int .i64 a0_0, .slice A0_1 l0_1.length c0_1, .slice (some ad128) l0_2.length c0_2] 27 (0, 0)) (TK BK124.out) hg (Kd.R_ne HO_9.out BK124.out (by decide))); replace BK129 := Aside0.mk (blk_grown (g := gb129) (o := .cells #[.int .i64 ((rd_T62 l0_2 x28_2).f0), .slice A128_1 ((rd_T62 l0_2 x28_2).f1).length c128_1] 62 (0, 0)) (TK BK129.out) hg (Kd.R_ne HO_9.out BK129.out (by decide))); replace HB := Aside0.mk (hb); clear HO_9; clear ho hb hg hat))
             go_roundg k2
             case measure => have := HJ5.out; have := HK2.out; omega
             case rel => exact ⟨(y131), (wrap64 (x28_2 + 1)), TT, H', ⟨by have := HJ5.out; have := HK2.out; omega⟩, ⟨by (with_reducible repeat (first | apply Kd.R_alloc | apply Kd.R_drewN | apply Kd.R_drew)); exact HO133.out⟩, ⟨TK BK124.out⟩, ⟨TB2 GE124.out GE129.out⟩⟩
            ·rw [if_neg c24] at H
             exact absurd H (by simp)
           ·rw [if_neg c23] at H
            have c23b0 : decide ((wrap64 ((((rd_T62 l0_2 x28_2).f1).length : Int) - (l1.length : Int))) ≤ a2) = false := decide_eq_false c23
            clear c23
            have H' := Aside0.mk H
            clear H
            have p128 : 0 ≤ (x28_2 : Int) := of_decide_eq_true TA
            have q128 : x28_2 < (l0_2.length : Int) := of_decide_eq_true TA
            obtain ⟨ad128, A128_1, c128_1, e128, hx128_0, hx128_1, hl128_1, hi128_1⟩ := at_T62 HR0_2.out x28_2 p128 q128
            cases e128
            replace hx128_0 := hx HB.out hx128_0
            replace hx128_1 := hx HB.out hx128_1
            have HR128_1 := Aside0.mk hi128_1
            have HC128_1 := Aside0.mk hl128_1
            clear hi128_1 hl128_1
            replace p128 := eq_true p128
            replace q128 := eq_true q128
            go_wp2_with (first | ((with_reducible refine gate_dst (N := 11) rfl ?_); (try (refine gate_guard (by rfl) ?_; dsimp only)); refine box_event ?hg (N := 11) ?hd (cs := #[.int .i64 0, .slice none 0 0]) (t := 62) ?hr ?_; (case hd => rfl); (case hg => rfl); (case hr => exact TS); intro gb129 hg w31 hbox hb; have BK129 := Aside0.mk (hbox); have GW129 := Aside0.mk ((TG1 GE124.out : w.heap.size ≤ gb129)); have GE129 := Aside0.mk ((TG1 GE124.out : w.heap.size ≤ gb129)); have NB124_129 := Aside0.mk ((by rw [hg]; exact Nat.ne_of_lt (blk_lt (g := gb124) (o := .cells #[.int .i64 a0_0, .slice A0_1 l0_1.length c0_1, .slice (some ad128) l0_2.length c0_2] 27 (0, 0)) (TK BK124.out)) : gb124 ≠ gb129)); have NB129_124 := Aside0.mk ((by rw [hg]; exact Nat.ne_of_gt (blk_lt (g := gb124) (o := .cells #[.int .i64 a0_0, .slice A0_1 l0_1.length c0_1, .slice (some ad128) l0_2.length c0_2] 27 (0, 0)) (TK BK124.out)) : gb129 ≠ gb124)); replace HO_9 := Aside0.mk (Kd.R_below (TRo HO_9.out) hb); replace BK124 := Aside0.mk (TKb hb BK124.out); replace HB := Aside0.mk (below_step (TB1 GE124.out) hb); clear hb hbox hg; have hnb32 := NB129_124.out; have hnc32 := NB124_129.out; have hcz33_0 := cz BK129.out 0; have hcz33_1 := cz BK129.out 1; have hfz33_0 := fz BK129.out 0; have hfz33_1 := fz BK129.out 1) | ((with_reducible refine gate_callee (f := 72) rfl ?_); refine goesL_ (some 36) rfl rfl Tryd.func72 (by kernel_rfl) rfl #[.slice A128_1 ((rd_T62 l0_2 x28_2).f1).length c128_1, .slice A1 l1.length c1] rfl TM ?_; (with_reducible refine (heard_common.calls _ _ ((rd_T62 l0_2 x28_2).f1) _ _ l1 t130 _ ?side1 ?side2 ?side3 ?side4 ?side5 A21.out).mono ?_); (case side1 => exact Kd.C_below HR128_1.out (TB2 GE124.out GE129.out)); (case side2 => exact HC128_1.out); (case side3 => exact Kd.C_below HR1.out (TB2 GE124.out GE129.out)); (case side4 => exact HC1.out); (case side5 => exact Glob.fr HG.out (Fr.of_below (TB2 GE124.out GE129.out))); rintro e w34 ⟨rfl, hb⟩; refine ⟨_, rfl, ?_⟩; replace HO_9 := Aside0.mk (Kd.R_below (by (with_reducible repeat (first | apply Kd.R_alloc | apply Kd.R_drewN | apply Kd.R_drew)); exact (Kd.R_mono (Kd.R_far (p := ⟨gb129, 1, none⟩) (Kd.R_far (p := ⟨gb129, 0, none⟩) (Kd.R_types HO_9.out BK129.out (by decide)) (fun _ hk => hk.2) (.int .i64 ((rd_T62 l0_2 x28_2).f0))) (fun _ hk => hk.2) (.slice A128_1 ((rd_T62 l0_2 x28_2).f1).length c128_1)) (fun _ h_ => h_.1))) hb); replace BK124 := Aside0.mk (blk_below (g := gb124) (o := .cells #[.int .i64 a0_0, .slice A0_1 l0_1.length c0_1, .slice (some ad128) l0_2.length c0_2] 27 (0, 0)) (by (with_reducible repeat (first | refine blk_drewN ?_ _ | refine blk_drew ?_ | refine blk_alloc ?_ _)); refine blk_far ?_ NB124_129.out _; (with_reducible repeat (first | refine blk_drewN ?_ _ | refine blk_drew ?_ | refine blk_alloc ?_ _)); refine blk_far ?_ NB124_129.out _; (with_reducible repeat (first | refine blk_drewN ?_ _ | refine blk_drew ?_ | refine blk_alloc ?_ _)); exact BK124.out) hb); replace BK129 := Aside0.mk (blk_below (g := gb129) (o := .cells #[.int .i64 ((rd_T62 l0_2 x28_2).f0), .slice A128_1 ((rd_T62 l0_2 x28_2).f1).length c128_1] 62 (0, 0)) (by (with_reducible repeat (first | refine blk_drewN ?_ _ | refine blk_drew ?_ | refine blk_alloc ?_ _)); refine blk_put (cs := #[.int .i64 ((rd_T62 l0_2 x28_2).f0), .slice none 0 0]) ?_ 1 _ rfl; (with_reducible repeat (first | refine blk_drewN ?_ _ | refine blk_drew ?_ | refine blk_alloc ?_ _)); refine blk_put (cs := #[.int .i64 0, .slice none 0 0]) ?_ 0 _ rfl; (with_reducible repeat (first | refine blk_drewN ?_ _ | refine blk_drew ?_ | refine blk_alloc ?_ _)); exact BK129.out) hb); replace HB := Aside0.mk (below_step (TB2 GE124.out GE129.out) hb); (try clear hb); (try clear hb2); (try clear hk); (try clear hi); have hcz35_0 := cz BK129.out 0; have hcz35_1 := cz BK129.out 1; have hfz35_0 := fz BK129.out 0; have hfz35_1 := fz BK129.out 1))
            go_roundg k2
            case measure => have := HJ5.out; have := HK2.out; omega
            case rel => exact ⟨(x9_2), (wrap64 (x28_2 + 1)), TT, H', ⟨by have := HJ5.out; have := HK2.out; omega⟩, ⟨by (with_reducible repeat (first | apply Kd.R_alloc | apply Kd.R_drewN | apply Kd.R_drew)); exact HO_9.out⟩, ⟨TK BK124.out⟩, ⟨TB2 GE124.out GE129.out⟩⟩
          ·rw [if_neg c22] at H
           have c22b0 : (t130 == (l1.length : Int)) = false := beq_eq_false_iff_ne.mpr c22
           have c22b1 : (t130 != (l1.length : Int)) = true := bne_iff_ne.mpr c22
           have H' := Aside0.mk H
           clear H
           have p128 : 0 ≤ (x28_2 : Int) := of_decide_eq_true TA
           have q128 : x28_2 < (l0_2.length : Int) := of_decide_eq_true TA
           obtain ⟨ad128, A128_1, c128_1, e128, hx128_0, hx128_1, hl128_1, hi128_1⟩ := at_T62 HR0_2.out x28_2 p128 q128
           cases e128
           replace hx128_0 := hx HB.out hx128_0
           replace hx128_1 := hx HB.out hx128_1
           have HR128_1 := Aside0.mk hi128_1
           have HC128_1 := Aside0.mk hl128_1
           clear hi128_1 hl128_1
           replace p128 := eq_true p128
           replace q128 := eq_true q128
           go_wp2_with (first | ((with_reducible refine gate_dst (N := 11) rfl ?_); (try (refine gate_guard (by rfl) ?_; dsimp only)); refine box_event ?hg (N := 11) ?hd (cs := #[.int .i64 0, .slice none 0 0]) (t := 62) ?hr ?_; (case hd => rfl); (case hg => rfl); (case hr => exact TS); intro gb129 hg w36 hbox hb; have BK129 := Aside0.mk (hbox); have GW129 := Aside0.mk ((TG1 GE124.out : w.heap.size ≤ gb129)); have GE129 := Aside0.mk ((TG1 GE124.out : w.heap.size ≤ gb129)); have NB124_129 := Aside0.mk ((by rw [hg]; exact Nat.ne_of_lt (blk_lt (g := gb124) (o := .cells #[.int .i64 a0_0, .slice A0_1 l0_1.length c0_1, .slice (some ad128) l0_2.length c0_2] 27 (0, 0)) (TK BK124.out)) : gb124 ≠ gb129)); have NB129_124 := Aside0.mk ((by rw [hg]; exact Nat.ne_of_gt (blk_lt (g := gb124) (o := .cells #[.int .i64 a0_0, .slice A0_1 l0_1.length c0_1, .slice (some ad128) l0_2.length c0_2] 27 (0, 0)) (TK BK124.out)) : gb129 ≠ gb124)); replace HO_9 := Aside0.mk (Kd.R_below (TRo HO_9.out) hb); replace BK124 := Aside0.mk (TKb hb BK124.out); replace HB := Aside0.mk (below_step (TB1 GE124.out) hb); clear hb hbox hg; have hnb37 := NB129_124.out; have hnc37 := NB124_129.out; have hcz38_0 := cz BK129.out 0; have hcz38_1 := cz BK129.out 1; have hfz38_0 := fz BK129.out 0; have hfz38_1 := fz BK129.out 1) | ((with_reducible refine gate_callee (f := 72) rfl ?_); refine goesL_ (some 36) rfl rfl Tryd.func72 (by kernel_rfl) rfl #[.slice A128_1 ((rd_T62 l0_2 x28_2).f1).length c128_1, .slice A1 l1.length c1] rfl TM ?_; (with_reducible refine (heard_common.calls _ _ ((rd_T62 l0_2 x28_2).f1) _ _ l1 t130 _ ?side1 ?side2 ?side3 ?side4 ?side5 A21.out).mono ?_); (case side1 => exact Kd.C_below HR128_1.out (TB2 GE124.out GE129.out)); (case side2 => exact HC128_1.out); (case side3 => exact Kd.C_below HR1.out (TB2 GE124.out GE129.out)); (case side4 => exact HC1.out); (case side5 => exact Glob.fr HG.out (Fr.of_below (TB2 GE124.out GE129.out))); rintro e w39 ⟨rfl, hb⟩; refine ⟨_, rfl, ?_⟩; replace HO_9 := Aside0.mk (Kd.R_below (by (with_reducible repeat (first | apply Kd.R_alloc | apply Kd.R_drewN | apply Kd.R_drew)); exact (Kd.R_mono (Kd.R_far (p := ⟨gb129, 1, none⟩) (Kd.R_far (p := ⟨gb129, 0, none⟩) (Kd.R_types HO_9.out BK129.out (by decide)) (fun _ hk => hk.2) (.int .i64 ((rd_T62 l0_2 x28_2).f0))) (fun _ hk => hk.2) (.slice A128_1 ((rd_T62 l0_2 x28_2).f1).length c128_1)) (fun _ h_ => h_.1))) hb); replace BK124 := Aside0.mk (blk_below (g := gb124) (o := .cells #[.int .i64 a0_0, .slice A0_1 l0_1.length c0_1, .slice (some ad128) l0_2.length c0_2] 27 (0, 0)) (by (with_reducible repeat (first | refine blk_drewN ?_ _ | refine blk_drew ?_ | refine blk_alloc ?_ _)); refine blk_far ?_ NB124_129.out _; (with_reducible repeat (first | refine blk_drewN ?_ _ | refine blk_drew ?_ | refine blk_alloc ?_ _)); refine blk_far ?_ NB124_129.out _; (with_reducible repeat (first | refine blk_drewN ?_ _ | refine blk_drew ?_ | refine blk_alloc ?_ _)); exact BK124.out) hb); replace BK129 := Aside0.mk (blk_below (g := gb129) (o := .cells #[.int .i64 ((rd_T62 l0_2 x28_2).f0), .slice A128_1 ((rd_T62 l0_2 x28_2).f1).length c128_1] 62 (0, 0)) (by (with_reducible repeat (first | refine blk_drewN ?_ _ | refine blk_drew ?_ | refine blk_alloc ?_ _)); refine blk_put (cs := #[.int .i64 ((rd_T62 l0_2 x28_2).f0), .slice none 0 0]) ?_ 1 _ rfl; (with_reducible repeat (first | refine blk_drewN ?_ _ | refine blk_drew ?_ | refine blk_alloc ?_ _)); refine blk_put (cs := #[.int .i64 0, .slice none 0 0]) ?_ 0 _ rfl; (with_reducible repeat (first | refine blk_drewN ?_ _ | refine blk_drew ?_ | refine blk_alloc ?_ _)); exact BK129.out) hb); replace HB := Aside0.mk (below_step (TB2 GE124.out GE129.out) hb); (try clear hb); (try clear hb2); (try clear hk); (try clear hi)))
           go_roundg k2
           case measure => have := HJ5.out; have := HK2.out; omega
           case rel => exact ⟨(x9_2), (wrap64 (x28_2 + 1)), TT, H', ⟨by have := HJ5.out; have := HK2.out; omega⟩, ⟨by (with_reducible repeat (first | apply Kd.R_alloc | apply Kd.R_drewN | apply Kd.R_drew)); exact HO_9.out⟩, ⟨TK BK124.out⟩, ⟨TB2 GE124.out GE129.out⟩⟩
         ·rw [if_neg c20] at H
          exact absurd H (by simp)
        ·rw [if_neg c19] at H
         exact absurd H (by simp)
       ·rw [if_neg c18] at H
        have c18b0 : decide (x28_2 < (l0_2.length : Int)) = false := decide_eq_false c18
        clear c18
        simp only [Option.some.injEq, Prod.mk.injEq] at H
        obtain ⟨rfl, rfl⟩ := H
        obtain ⟨Ao40, co40, eo40⟩ := Kd.R_slice HO_9.out
        subst eo40
        obtain ⟨i041, hi041, _, hsz41, _⟩ := info_parts info3
        have hcut41 := cut_max (P := Tryd.prog) 28 3 Tryd.underlying28 hi041 Ao40 x9_2.length co40 (V_cap (Kd.R_V (base' := w.heap.size) (Kd.R_types (HO_9.out) BK124.out (by decide))))
        have hr41 := (V_cut' (Kd.R_V (base' := w.heap.size) (Kd.R_types (HO_9.out) BK124.out (by decide))))
        clear hi041 hsz41 HO_9
        have HO135 := Aside0.mk hr41
        clear hr41
        go_wp2
        go_ret2
        exact ⟨_, TR, by (with_reducible repeat (first | apply Kd.V_alloc | apply Kd.V_drewN | apply Kd.V_drew)); exact Kd.V_mono HO135.out (fun _ hk => hk.1), TB1 GE124.out⟩
 ·rw [if_neg c5] at H
  have c5b0 : (t125 == 0) = false := beq_eq_false_iff_ne.mpr c5
  have c5b1 : (t125 != 0) = true := bne_iff_ne.mpr c5
  simp only [Option.some.injEq, Prod.mk.injEq] at H
  obtain ⟨rfl, rfl⟩ := H
  go_enter Tryd.func32, Tryd.ntmps32
  go_wp2_with (first | ((with_reducible refine gate_dst (N := 3) rfl ?_); (try (refine gate_guard (by rfl) ?_; dsimp only)); refine box_event ?hg (N := 3) ?hd (cs := #[.int .i64 a0_0, .slice A0_1 l0_1.length c0_1, .slice A0_2 l0_2.length c0_2]) (t := 27) ?hr ?_; (case hd => rfl); (case hg => rfl); (case hr => exact TS); intro gb124 hg w42 hbox hb; have BK124 := Aside0.mk (hbox); have GW124 := Aside0.mk ((TG : w.heap.size ≤ gb124)); have GE124 := Aside0.mk ((TG : w.heap.size ≤ gb124)); replace HB := Aside0.mk (below_step TB hb); clear hb hbox hg; have hcz43_0 := cz BK124.out 0; have hcz43_1 := cz BK124.out 1; have hcz43_2 := cz BK124.out 2; have hfz43_0 := fz BK124.out 0; have hfz43_1 := fz BK124.out 1; have hfz43_2 := fz BK124.out 2) | ((with_reducible refine gate_callee (f := 16) rfl ?_); refine goesL_ (some 13) rfl rfl Tryd.func16 (by kernel_rfl) rfl #[.agg #[.int .i64 a0_0, .slice A0_1 l0_1.length c0_1, .slice A0_2 l0_2.length c0_2]] rfl TM ?_; (with_reducible refine (heard_Check.calls a0_0 _ _ l0_1 _ _ l0_2 t125 _ ?side1 ?side2 ?side3 ?side4 ?side5 A4.out).mono ?_); (case side1 => exact TC HR0_1.out); (case side2 => exact HC0_1.out); (case side3 => exact TC HR0_2.out); (case side4 => exact HC0_2.out); (case side5 => exact Glob.fr HG.out (Fr.of_below (TB1 GE124.out))); rintro e w44 ⟨rfl, hb⟩; refine ⟨_, rfl, ?_⟩; replace BK124 := Aside0.mk (TKb hb BK124.out); replace HB := Aside0.mk (below_step (TB1 GE124.out) hb); (try clear hb); (try clear hb2); (try clear hk); (try clear hi)))
  go_ret2
  exact ⟨_, TR, Kd.V_nil _ _ _ _ _, TB1 GE124.out⟩
end Go.Proofs.YtfdenclnneigfaaDoor.PRaspKeys
namespace Go.Proofs.YtfdenclnneigfaaDoor.PRaspKeys
open Go.RowKit Go.Proofs.YtfdenclnneigfaaDoorW.PrintWords Go.Proofs.YtfdenclnneigfaaDoorW.PrintLast Go.Proofs.YtfdenclnneigfaaDoorW.PrintMore Go.Proofs.YtfdenclnneigfaaDoor.M
attribute [local go_sem] max2_int min2_int max_two min_two max_three min_three max_four min_four   -- for this text's walks alone
/-! ### heard_Known: function 34 -/
mutual
def heard_Known.l0 : Nat → Int → List (S62) → Int → Int → Int → List (S114) → List (S62) → Option (Int × Int)
 | 0, _, _, _, _, _, _, _ => none
 | k + 1, x5, x26, x27, x28, x146000, x146001, x146002 => if x28 < x27 then (if 0 ≤ x28 then (if x28 < (x26.length : Int) then (if x28 ≤ (x146002.length : Int) then ((some (x146002.take (x28 : Int).toNat : List (S62))).bind fun y150 => (heard_Known.l1 k x5 x26 x27 x28 y150 (y150.length : Int) 0 x146000 x146001 x146002 ((rd_T62 x26 x28).f0) ((rd_T62 x26 x28).f1))) else (none)) else (none)) else (none)) else (if x5 = 0 then (some (0, 4)) else (some (wrap64 (x5 - 1), 0)))
def heard_Known.l1 : Nat → Int → List (S62) → Int → Int → List (S62) → Int → Int → Int → List (S114) → List (S62) → Int → List Int → Option (Int × Int)
 | 0, _, _, _, _, _, _, _, _, _, _, _, _ => none
 | k + 1, x5, x26, x27, x28, x36, x37, x38, x146000, x146001, x146002, x150000, x150001 => if x38 < x37 then (if 0 ≤ x38 then (if x38 < (x36.length : Int) then ((heard_greatest_int.f k (x150001.length : Int) (([(((rd_T62 x36 x38).f1).length : Int)] : List Int))).bind fun t159 => ((heard_common.f x150001 ((rd_T62 x36 x38).f1)).bind fun t160 => ((heard_least_int.f k x5 (([wrap64 (t159 - t160)] : List Int))).bind fun t164 => (heard_Known.l1 k t164 x26 x27 x28 x36 x37 (wrap64 (x38 + 1)) x146000 x146001 x146002 x150000 x150001)))) else (none)) else (none)) else (heard_Known.l0 k x5 x26 x27 (wrap64 (x28 + 1)) x146000 x146001 x146002)
end
def heard_Known.f (k : Nat) (a0_0 : Int) (l0_1 : List (S114)) (l0_2 : List (S62)) : Option (Int × Int) := (heard_Check.f a0_0 l0_1 l0_2).bind fun t146 => (if t146 = 0 then (if (l0_2.length : Int) = 1 then (if 0 < (l0_2.length : Int) then (some ((((rd_T62 l0_2 0).f1).length : Int), 0)) else (none)) else (heard_Known.l0 k 1000 l0_2 (l0_2.length : Int) 0 a0_0 l0_1 l0_2)) else (some (0, t146)))
theorem heard_Known.mono_l : ∀ k, (∀ y0 y1 y2 y3 y4 y5 y6, LeO (heard_Known.l0 k y0 y1 y2 y3 y4 y5 y6) (heard_Known.l0 (k + 1) y0 y1 y2 y3 y4 y5 y6)) ∧ (∀ y0 y1 y2 y3 y4 y5 y6 y7 y8 y9 y10 y11, LeO (heard_Known.l1 k y0 y1 y2 y3 y4 y5 y6 y7 y8 y9 y10 y11) (heard_Known.l1 (k + 1) y0 y1 y2 y3 y4 y5 y6 y7 y8 y9 y10 y11))
 | 0 => ⟨fun _ _ _ _ _ _ _ r h => by simp [heard_Known.l0] at h, fun _ _ _ _ _ _ _ _ _ _ _ _ r h => by simp [heard_Known.l1] at h⟩
 | k + 1 => by
  obtain ⟨ih0, ih1⟩ := heard_Known.mono_l k
  refine ⟨?_, ?_⟩
  ·intro y0 y1 y2 y3 y4 y5 y6
   unfold heard_Known.l0
   repeat' first
   | (with_reducible exact ih0 _ _ _ _ _ _ _)
   | (with_reducible exact ih1 _ _ _ _ _ _ _ _ _ _ _ _)
   | (with_reducible exact heard_greatest_int.mono _ _ _)
   | (with_reducible exact heard_least_int.mono _ _ _)
   | (with_reducible exact LeO.refl _)
   | (with_reducible exact LeO.none _)
   | (with_reducible refine LeO.ite ?_ ?_)
   | (with_reducible refine LeO.bind ?_ (fun _ => ?_))
   | exact ih0 _ _ _ _ _ _ _
   | exact ih1 _ _ _ _ _ _ _ _ _ _ _ _
   | exact heard_greatest_int.mono _ _ _
   | exact heard_least_int.mono _ _ _
   | exact LeO.none _
   | refine LeO.ite ?_ ?_
   | refine LeO.bind ?_ (fun _ => ?_)
  ·intro y0 y1 y2 y3 y4 y5 y6 y7 y8 y9 y10 y11
   unfold heard_Known.l1
   repeat' first
   | (with_reducible exact ih0 _ _ _ _ _ _ _)
   | (with_reducible exact ih1 _ _ _ _ _ _ _ _ _ _ _ _)
   | (with_reducible exact heard_greatest_int.mono _ _ _)
   | (with_reducible exact heard_least_int.mono _ _ _)
   | (with_reducible exact LeO.refl _)
   | (with_reducible exact LeO.none _)
   | (with_reducible refine LeO.ite ?_ ?_)
   | (with_reducible refine LeO.bind ?_ (fun _ => ?_))
   | exact ih0 _ _ _ _ _ _ _
   | exact ih1 _ _ _ _ _ _ _ _ _ _ _ _
   | exact heard_greatest_int.mono _ _ _
   | exact heard_least_int.mono _ _ _
   | exact LeO.none _
   | refine LeO.ite ?_ ?_
   | refine LeO.bind ?_ (fun _ => ?_)
theorem heard_Known.mono : ∀ a0 a1 a2 k, LeO (heard_Known.f k a0 a1 a2) (heard_Known.f (k + 1) a0 a1 a2) := by
 intro a0 a1 a2 k
 obtain ⟨ih0, ih1⟩ := heard_Known.mono_l k
 unfold heard_Known.f
 repeat' first
   | (with_reducible exact ih0 _ _ _ _ _ _ _)
   | (with_reducible exact ih1 _ _ _ _ _ _ _ _ _ _ _ _)
   | (with_reducible exact heard_greatest_int.mono _ _ _)
   | (with_reducible exact heard_least_int.mono _ _ _)
   | (with_reducible exact LeO.refl _)
   | (with_reducible exact LeO.none _)
   | (with_reducible refine LeO.ite ?_ ?_)
   | (with_reducible refine LeO.bind ?_ (fun _ => ?_))
   | exact ih0 _ _ _ _ _ _ _
   | exact ih1 _ _ _ _ _ _ _ _ _ _ _ _
   | exact heard_greatest_int.mono _ _ _
   | exact heard_least_int.mono _ _ _
   | exact LeO.none _
   | refine LeO.ite ?_ ?_
   | refine LeO.bind ?_ (fun _ => ?_)
def heard_Known.T13 : Bool × List (List Nat × List Nat) := (true, [([], []), ([], []), ([1], [1]), ([2], [2]), ([], []), ([4], [4]), ([5], [5]), ([6], [6]), ([3, 7], [3, 7]), ([], []), ([9], [9]), ([], []), ([11], [11]), ([10, 12, 8], [10, 12]), ([8, 13], [8, 13]), ([14], [14]), ([0, 15, 13], [0, 15]), ([16, 16, 0, 1, 2, 3, 4, 5, 6, 7, 8, 9, 10, 11, 12, 13, 14, 15, 16], [0, 16])])
def heard_Known.B13 : List Nat := [0, 0, 2, 6, 0, 16, 48, 112, 254, 0, 512, 0, 2048, 8190, 16382, 32766, 65535, 131071]
theorem heard_Known.tab13 : rtab .any (opsOf Tryd.f34 13) = heard_Known.T13 := by kernel_rfl
theorem heard_Known.bits13 : waitsOk heard_Known.T13.2 heard_Known.B13 = true := by kernel_rfl
set_option maxHeartbeats 8000000 in
set_option maxRecDepth 100000 in
theorem heard_Known.calls (k : Nat) (a0_0 : Int) (A0_1 : Option Addr) (c0_1 : Nat) (l0_1 : List (S114)) (A0_2 : Option Addr) (c0_2 : Nat) (l0_2 : List (S62)) (r1 : Int) (r2 : Int) (w : World) (hr0_1 : Kd.C k114 w A0_1 l0_1.length l0_1) (hc0_1 : l0_1.length ≤ c0_1) (hr0_2 : Kd.C k62 w A0_2 l0_2.length l0_2) (hc0_2 : l0_2.length ≤ c0_2) (hG : Glob w) (h : heard_Known.f k a0_0 l0_1 l0_2 = some (r1, r2)) :
  Calls Tryd.prog 34 #[.agg #[.int .i64 a0_0, .slice A0_1 l0_1.length c0_1, .slice A0_2 l0_2.length c0_2]] w fun e w' => e = .returned (.tuple #[.int .i64 r1, .int .i64 r2]) ∧ Below w.heap.size w w' := by
 have hu27 := Tryd.underlying27
 have hu62 := Tryd.underlying62
 have HR0_1 := Aside0.mk hr0_1
 have HC0_1 := Aside0.mk hc0_1
 clear hr0_1 hc0_1
 have HR0_2 := Aside0.mk hr0_2
 have HC0_2 := Aside0.mk hc0_2
 clear hr0_2 hc0_2
 have HB := Aside0.mk (Below.refl w.heap.size w)
 have HG := Aside0.mk hG
 clear hG
 have H : ((heard_Check.f a0_0 l0_1 l0_2).bind fun t146 => (if t146 = 0 then (if (l0_2.length : Int) = 1 then (if 0 < (l0_2.length : Int) then (some ((((rd_T62 l0_2 0).f1).length : Int), 0)) else (none)) else (heard_Known.l0 k 1000 l0_2 (l0_2.length : Int) 0 a0_0 l0_1 l0_2)) else (some (0, t146)))) = some (r1, r2) := h
 clear h
 replace H := Option.bind_eq_some_iff.mp H
 obtain ⟨t146, A20, H⟩ := H
 replace H : (if t146 = 0 then (if (l0_2.length : Int) = 1 then (if 0 < (l0_2.length : Int) then (some ((((rd_T62 l0_2 0).f1).length : Int), 0)) else (none)) else (heard_Known.l0 k 1000 l0_2 (l0_2.length : Int) 0 a0_0 l0_1 l0_2)) else (some (0, t146))) = some (r1, r2) := H
 have A2 := Aside0.mk A20
 clear A20
 by_cases c3 : t146 = 0
 ·rw [if_pos c3] at H
  have c3b0 : (t146 == 0) = true := beq_iff_eq.mpr c3
  have c3b1 : (t146 != 0) = false := bne_eq_false_iff_eq.mpr c3
  clear c3
  by_cases c4 : (l0_2.length : Int) = 1
  ·rw [if_pos c4] at H
   have c4b0 : ((l0_2.length : Int) == 1) = true := beq_iff_eq.mpr c4
   have c4b1 : ((l0_2.length : Int) != 1) = false := bne_eq_false_iff_eq.mpr c4
   clear c4
   by_cases c5 : 0 < (l0_2.length : Int)
   ·rw [if_pos c5] at H
    have c5b0 : decide (0 < (l0_2.length : Int)) = true := decide_eq_true c5
    have c5b1 : decide (0 < l0_2.length) = true := decide_eq_true (by omega)
    clear c5
    simp only [Option.some.injEq, Prod.mk.injEq] at H
    obtain ⟨rfl, rfl⟩ := H
    go_enter Tryd.func34, Tryd.ntmps34
    go_wp2_with (first | ((with_reducible refine gate_dst (N := 1) rfl ?_); refine box_event ?hg (N := 1) ?hd (cs := #[.int .i64 a0_0, .slice A0_1 l0_1.length c0_1, .slice A0_2 l0_2.length c0_2]) (t := 27) ?hr ?_; (case hd => rfl); (case hg => rfl); (case hr => exact TS); intro gb145 hg w6 hbox hb; have BK145 := Aside0.mk (hbox); have GW145 := Aside0.mk ((TG : w.heap.size ≤ gb145)); have GE145 := Aside0.mk ((TG : w.heap.size ≤ gb145)); replace HB := Aside0.mk (below_step TB hb); clear hb hbox hg; have hcz7_0 := cz BK145.out 0; have hcz7_1 := cz BK145.out 1; have hcz7_2 := cz BK145.out 2; have hfz7_0 := fz BK145.out 0; have hfz7_1 := fz BK145.out 1; have hfz7_2 := fz BK145.out 2) | ((with_reducible refine gate_callee (f := 16) rfl ?_); refine goesL_ (some 11) rfl rfl Tryd.func16 (by kernel_rfl) rfl #[.agg #[.int .i64 a0_0, .slice A0_1 l0_1.length c0_1, .slice A0_2 l0_2.length c0_2]] rfl TM ?_; (with_reducible refine (heard_Check.calls a0_0 _ _ l0_1 _ _ l0_2 t146 _ ?side1 ?side2 ?side3 ?side4 ?side5 A2.out).mono ?_); (case side1 => exact TC HR0_1.out); (case side2 => exact HC0_1.out); (case side3 => exact TC HR0_2.out); (case side4 => exact HC0_2.out); (case side5 => exact Glob.fr HG.out (Fr.of_below (TB1 GE145.out))); rintro e w8 ⟨rfl, hb⟩; refine ⟨_, rfl, ?_⟩; replace BK145 := Aside0.mk (TKb hb BK145.out); replace HB := Aside0.mk (below_step (TB1 GE145.out) hb); (try clear hb); (try clear hb2); (try clear hk); (try clear hi); have hcz9_0 := cz BK145.out 0; have hcz9_1 := cz BK145.out 1; have hcz9_2 := cz BK145.out 2; have hfz9_0 := fz BK145.out 0; have hfz9_1 := fz BK145.out 1; have hfz9_2 := fz BK145.out 2; have p147 : 0 ≤ (0 : Int) := (by omega); have q147 : 0 < (l0_2.length : Int) := of_decide_eq_true TA; obtain ⟨ad147, A147_1, c147_1, e147, hx147_0, hx147_1, hl147_1, hi147_1⟩ := at_T62 HR0_2.out 0 p147 q147; cases e147; have qi147 : (0 < l0_2.length) = True := eq_true (by omega); (try rw [show ((0 : Int)).toNat = 0 from rfl] at hx147_0); (try rw [show 0 * 2 = 0 from rfl] at hx147_0); (try rw [Addr.add_zero'] at hx147_0); (try rw [show ((0 : Int)).toNat = 0 from rfl] at hx147_1); (try rw [show 0 * 2 = 0 from rfl] at hx147_1); (try rw [Addr.add_zero'] at hx147_1); replace hx147_0 := hx HB.out hx147_0; replace hx147_1 := hx HB.out hx147_1; have HR147_1 := Aside0.mk hi147_1; have HC147_1 := Aside0.mk hl147_1; clear hi147_1 hl147_1; replace p147 := eq_true p147; replace q147 := eq_true q147))
    go_ret2
    exact ⟨TR, TB1 GE145.out⟩
   ·rw [if_neg c5] at H
    exact absurd H (by simp)
  ·rw [if_neg c4] at H
   have c4b0 : ((l0_2.length : Int) == 1) = false := beq_eq_false_iff_ne.mpr c4
   have c4b1 : ((l0_2.length : Int) != 1) = true := bne_iff_ne.mpr c4
   have H' := Aside0.mk H
   clear H
   go_enter Tryd.func34, Tryd.ntmps34
   go_wp2_with (first | ((with_reducible refine gate_dst (N := 1) rfl ?_); refine box_event ?hg (N := 1) ?hd (cs := #[.int .i64 a0_0, .slice A0_1 l0_1.length c0_1, .slice A0_2 l0_2.length c0_2]) (t := 27) ?hr ?_; (case hd => rfl); (case hg => rfl); (case hr => exact TS); intro gb145 hg w10 hbox hb; have BK145 := Aside0.mk (hbox); have GW145 := Aside0.mk ((TG : w.heap.size ≤ gb145)); have GE145 := Aside0.mk ((TG : w.heap.size ≤ gb145)); replace HB := Aside0.mk (below_step TB hb); clear hb hbox hg; have hcz11_0 := cz BK145.out 0; have hcz11_1 := cz BK145.out 1; have hcz11_2 := cz BK145.out 2; have hfz11_0 := fz BK145.out 0; have hfz11_1 := fz BK145.out 1; have hfz11_2 := fz BK145.out 2) | ((with_reducible refine gate_callee (f := 16) rfl ?_); refine goesL_ (some 11) rfl rfl Tryd.func16 (by kernel_rfl) rfl #[.agg #[.int .i64 a0_0, .slice A0_1 l0_1.length c0_1, .slice A0_2 l0_2.length c0_2]] rfl TM ?_; (with_reducible refine (heard_Check.calls a0_0 _ _ l0_1 _ _ l0_2 t146 _ ?side1 ?side2 ?side3 ?side4 ?side5 A2.out).mono ?_); (case side1 => exact TC HR0_1.out); (case side2 => exact HC0_1.out); (case side3 => exact TC HR0_2.out); (case side4 => exact HC0_2.out); (case side5 => exact Glob.fr HG.out (Fr.of_below (TB1 GE145.out))); rintro e w12 ⟨rfl, hb⟩; refine ⟨_, rfl, ?_⟩; replace BK145 := Aside0.mk (TKb hb BK145.out); replace HB := Aside0.mk (below_step (TB1 GE145.out) hb); (try clear hb); (try clear hb2); (try clear hk); (try clear hi); have hcz13_0 := cz BK145.out 0; have hcz13_1 := cz BK145.out 1; have hcz13_2 := cz BK145.out 2; have hfz13_0 := fz BK145.out 0; have hfz13_1 := fz BK145.out 1; have hfz13_2 := fz BK145.out 2))
   go_loopg [5, 28] k (fun kq v5 v28 w' => ∃ (x5_1 : Int) (x28_1 : Int), v5 = .int .i64 x5_1 ∧ v28 = .int .i64 x28_1 ∧ Aside0 (heard_Known.l0 kq x5_1 l0_2 (l0_2.length : Int) x28_1 a0_0 l0_1 l0_2 = some (r1, r2)) ∧ Aside0 (kq ≤ k) ∧ Aside0 (w'.heap[gb145]? = some (.cells #[.int .i64 a0_0, (.slice A0_1 l0_1.length c0_1), (.slice A0_2 l0_2.length c0_2)] 27 (0, 0))) ∧ Aside0 (Below w.heap.size w w'))
   case atStart => exact ⟨(1000), (0), TT, TT, H', ⟨Nat.le_refl _⟩, ⟨TK BK145.out⟩, ⟨TB1 GE145.out⟩⟩
   case round => as_aux_lemma =>
    clear H'
    try clear c1
    try clear p1
    try clear q1
    try clear hx1
    try clear qi1
    try clear p2
    try clear c3
    try clear c3b0
    try clear c3b1
    try clear c4
    try clear c4b0
    try clear c4b1
    try clear c5
    try clear c5b0
    try clear c5b1
    try clear hcz11_0 hcz11_1 hcz11_2
    try clear hcz13_0 hcz13_1 hcz13_2
    try clear hcz7_0 hcz7_1 hcz7_2
    try clear hcz9_0 hcz9_1 hcz9_2
    try clear hfz11_0 hfz11_1 hfz11_2
    try clear hfz13_0 hfz13_1 hfz13_2
    try clear hfz7_0 hfz7_1 hfz7_2
    try clear hfz9_0 hfz9_1 hfz9_2
    try clear hx147_0
    try clear hx147_1
    try clear p147
    try clear q147
    obtain ⟨x5_1, x28_1, rfl, rfl, HA, HK1, BK145, HB⟩ := hrel
    cases gk with
    | zero => exact absurd HA.out (by simp [heard_Known.l0])
    | succ k1 =>
     have H := HA.out
     clear HA
     simp only [heard_Known.l0] at H
     by_cases c14 : x28_1 < (l0_2.length : Int)
     ·rw [if_pos c14] at H
      have c14b0 : decide (x28_1 < (l0_2.length : Int)) = true := decide_eq_true c14
      clear c14
      by_cases c15 : 0 ≤ x28_1
      ·rw [if_pos c15] at H
       have c15b0 : decide (0 ≤ x28_1) = true := decide_eq_true c15
       clear c15
       by_cases c16 : x28_1 < (l0_2.length : Int)
       ·rw [if_pos c16] at H
        have c16b0 : decide (x28_1 < (l0_2.length : Int)) = true := decide_eq_true c16
        clear c16
        have c17b0 := eq_true (of_decide_eq_true TA : 0 ≤ x28_1)
        by_cases c18 : x28_1 ≤ (l0_2.length : Int)
        ·rw [if_pos c18] at H
         have c18b0 := eq_true c18
         have c18b1 : decide (x28_1 ≤ (l0_2.length : Int)) = true := decide_eq_true c18
         clear c18
         obtain ⟨y150, hy150⟩ : ∃ y_ : List (S62), y_ = (l0_2.take (x28_1 : Int).toNat) := ⟨_, rfl⟩
         replace H : (heard_Known.l1 k1 x5_1 l0_2 (l0_2.length : Int) x28_1 y150 (y150.length : Int) 0 a0_0 l0_1 l0_2 ((rd_T62 l0_2 x28_1).f0) ((rd_T62 l0_2 x28_1).f1)) = some (r1, r2) := by first | (rw [hy150]; with_reducible exact H) | (have H2_ := (Option.bind_some _ _).symm.trans H; rw [hy150]; with_reducible exact H2_) | (have H2_ := (Option.bind_some _ _).symm.trans H; with_reducible exact H2_) | with_reducible exact H | (rw [hy150]; exact H) | exact H
         have Ny150 := Aside0.mk hy150
         clear hy150
         have H' := Aside0.mk H
         clear H
         have p148 : 0 ≤ (x28_1 : Int) := of_decide_eq_true TA
         have q148 : x28_1 < (l0_2.length : Int) := of_decide_eq_true TA
         obtain ⟨ad148, A148_1, c148_1, e148, hx148_0, hx148_1, hl148_1, hi148_1⟩ := at_T62 HR0_2.out x28_1 p148 q148
         cases e148
         replace hx148_0 := hx HB.out hx148_0
         replace hx148_1 := hx HB.out hx148_1
         have HR148_1 := Aside0.mk hi148_1
         have HC148_1 := Aside0.mk hl148_1
         clear hi148_1 hl148_1
         replace p148 := eq_true p148
         replace q148 := eq_true q148
         go_wp2_with (first | ((with_reducible refine gate_dst (N := 7) rfl ?_); refine box_event ?hg (N := 7) ?hd (cs := #[.int .i64 0, .slice none 0 0]) (t := 62) ?hr ?_; (case hd => rfl); (case hg => rfl); (case hr => exact TS); intro gb149 hg w19 hbox hb; have BK149 := Aside0.mk (hbox); have GW149 := Aside0.mk ((TG1 GE145.out : w.heap.size ≤ gb149)); have GE149 := Aside0.mk ((TG1 GE145.out : w.heap.size ≤ gb149)); have NB145_149 := Aside0.mk ((by rw [hg]; exact Nat.ne_of_lt (blk_lt (g := gb145) (o := .cells #[.int .i64 a0_0, .slice A0_1 l0_1.length c0_1, .slice (some ad148) l0_2.length c0_2] 27 (0, 0)) (TK BK145.out)) : gb145 ≠ gb149)); have NB149_145 := Aside0.mk ((by rw [hg]; exact Nat.ne_of_gt (blk_lt (g := gb145) (o := .cells #[.int .i64 a0_0, .slice A0_1 l0_1.length c0_1, .slice (some ad148) l0_2.length c0_2] 27 (0, 0)) (TK BK145.out)) : gb149 ≠ gb145)); replace BK145 := Aside0.mk (TKb hb BK145.out); replace HB := Aside0.mk (below_step (TB1 GE145.out) hb); clear hb hbox hg; have hnb20 := NB149_145.out; have hnc20 := NB145_149.out; have hcz21_0 := cz BK149.out 0; have hcz21_1 := cz BK149.out 1; have hfz21_0 := fz BK149.out 0; have hfz21_1 := fz BK149.out 1) | ((with_reducible refine gate_store (t := 62) (p := 7) rfl ?_); refine store_event (t := 62) (p := 7) (v := ?vo_w22) (w1 := ((w19.setCell ⟨gb149, 0, none⟩ (.int .i64 ((rd_T62 l0_2 x28_1).f0))).setCell ⟨gb149, 1, none⟩ (.slice A148_1 ((rd_T62 l0_2 x28_1).f1).length c148_1))) ?hg ?ho ?hn ?hr ?_; (case ho => rfl); (case hg => rfl); (case hn => rfl); (case hr => exact TS); intro w22 hw; have n0_ : Aside0 (w22.heap[gb145]? = some (.cells #[.int .i64 a0_0, .slice A0_1 l0_1.length c0_1, .slice (some ad148) l0_2.length c0_2] 27 (0, 0))) := ⟨(by rw [hw]; exact (by (with_reducible repeat (first | refine blk_drewN ?_ _ | refine blk_drew ?_ | refine blk_alloc ?_ _)); refine blk_far ?_ NB145_149.out _; (with_reducible repeat (first | refine blk_drewN ?_ _ | refine blk_drew ?_ | refine blk_alloc ?_ _)); refine blk_far ?_ NB145_149.out _; (with_reducible repeat (first | refine blk_drewN ?_ _ | refine blk_drew ?_ | refine blk_alloc ?_ _)); exact BK145.out))⟩; have n1_ : Aside0 (w22.heap[gb149]? = some (.cells #[.int .i64 ((rd_T62 l0_2 x28_1).f0), .slice A148_1 ((rd_T62 l0_2 x28_1).f1).length c148_1] 62 (0, 0))) := ⟨(by rw [hw]; exact (by (with_reducible repeat (first | refine blk_drewN ?_ _ | refine blk_drew ?_ | refine blk_alloc ?_ _)); refine blk_put (cs := #[.int .i64 ((rd_T62 l0_2 x28_1).f0), .slice none 0 0]) ?_ 1 _ rfl; (with_reducible repeat (first | refine blk_drewN ?_ _ | refine blk_drew ?_ | refine blk_alloc ?_ _)); refine blk_put (cs := #[.int .i64 0, .slice none 0 0]) ?_ 0 _ rfl; (with_reducible repeat (first | refine blk_drewN ?_ _ | refine blk_drew ?_ | refine blk_alloc ?_ _)); exact BK149.out))⟩; have n2_ : Aside0 (Below w.heap.size w w22) := ⟨(by rw [hw]; exact (TB2 GE145.out GE149.out))⟩; clear hw; clear BK145; clear BK149; clear HB; have BK145 := n0_; have BK149 := n1_; have HB := n2_; clear n0_ n1_ n2_; have hcz23_0 := cz BK145.out 0; have hcz23_1 := cz BK145.out 1; have hcz23_2 := cz BK145.out 2; have hfz23_0 := fz BK145.out 0; have hfz23_1 := fz BK145.out 1; have hfz23_2 := fz BK145.out 2; have q24 : (x28_1 : Int) ≤ ((l0_2.length : Int) : Int) := of_decide_eq_true TA; obtain ⟨i024, hi024, _, hsz24, _⟩ := info_parts info62; have hroom24 : l0_2.length ≤ c0_2 := HC0_2.out; have hC24 : Kd.C k62 _ (some ad148) l0_2.length l0_2 := HR0_2.out; have hcut24 := cut_to (P := Tryd.prog) 25 62 .i64 Tryd.underlying25 hi024 (some ad148) l0_2.length c0_2 x28_1 (of_decide_eq_true TA) q24 hroom24; have hr24 := Kd.C_take (m := (x28_1 : Int).toNat) hC24 (by omega); have hy24 : y150.length = (x28_1 : Int).toNat := (by rw [Ny150.out, List.length_take]; omega); rw [← Ny150.out] at hr24; rw [← hy24] at hcut24; have HR153 := Aside0.mk hr24; have HC153 := Aside0.mk (show y150.length ≤ c0_2 from by omega); clear hr24 hC24 hroom24 hi024 hsz24; have KY24 := Aside0.mk hy24; clear hy24; replace q24 := eq_true q24))
         go_loopg [5, 38] k1 (fun kq v5 v38 w' => ∃ (x5_2 : Int) (x38_2 : Int), v5 = .int .i64 x5_2 ∧ v38 = .int .i64 x38_2 ∧ Aside0 (heard_Known.l1 kq x5_2 l0_2 (l0_2.length : Int) x28_1 y150 (y150.length : Int) x38_2 a0_0 l0_1 l0_2 ((rd_T62 l0_2 x28_1).f0) ((rd_T62 l0_2 x28_1).f1) = some (r1, r2)) ∧ Aside0 (kq ≤ k1) ∧ Aside0 (w'.heap[gb145]? = some (.cells #[.int .i64 a0_0, (.slice A0_1 l0_1.length c0_1), (.slice (some ad148) l0_2.length c0_2)] 27 (0, 0))) ∧ Aside0 (w'.heap[gb149]? = some (.cells #[.int .i64 ((rd_T62 l0_2 x28_1).f0), (.slice A148_1 ((rd_T62 l0_2 x28_1).f1).length c148_1)] 62 (0, 0))) ∧ Aside0 (Below w.heap.size w w'))
         case atStart => exact ⟨(x5_1), (0), TT, TT, H', ⟨Nat.le_refl _⟩, ⟨TK BK145.out⟩, ⟨TK BK149.out⟩, ⟨TB2 GE145.out GE149.out⟩⟩
         case round => as_aux_lemma =>
          clear H'
          try clear c1
          try clear p1
          try clear q1
          try clear hx1
          try clear qi1
          try clear c2
          try clear p2
          try clear q2
          try clear c3
          try clear c3b0
          try clear c3b1
          try clear c4
          try clear c4b0
          try clear c4b1
          try clear c5
          try clear c5b0
          try clear c5b1
          try clear c14
          try clear c14b0
          try clear p14
          try clear q14
          try clear hx14
          try clear qi14
          try clear c15
          try clear c15b0
          try clear c16
          try clear c16b0
          try clear c17
          try clear c17b0
          try clear c18
          try clear c18b0
          try clear c18b1
          try clear c20
          try clear q24
          try clear hcz11_0 hcz11_1 hcz11_2
          try clear hcz13_0 hcz13_1 hcz13_2
          try clear hcz21_0 hcz21_1
          try clear hcz23_0 hcz23_1 hcz23_2
          try clear hcz7_0 hcz7_1 hcz7_2
          try clear hcz9_0 hcz9_1 hcz9_2
          try clear hfz11_0 hfz11_1 hfz11_2
          try clear hfz13_0 hfz13_1 hfz13_2
          try clear hfz21_0 hfz21_1
          try clear hfz23_0 hfz23_1 hfz23_2
          try clear hfz7_0 hfz7_1 hfz7_2
          try clear hfz9_0 hfz9_1 hfz9_2
          try clear hx147_0
          try clear hx147_1
          try clear hx148_0
          try clear hx148_1
          try clear p1
          try clear p147
          try clear p148
          try clear p2
          try clear q1
          try clear q147
          try clear q148
          try clear q24
          obtain ⟨x5_2, x38_2, rfl, rfl, HA, HK2, BK145, BK149, HB⟩ := hrel
          cases gk with
          | zero => exact absurd HA.out (by simp [heard_Known.l1])
          | succ k2 =>
           have H := HA.out
           clear HA
           simp only [heard_Known.l1] at H
           by_cases c25 : x38_2 < (y150.length : Int)
           ·rw [if_pos c25] at H
            have c25b0 : decide (x38_2 < (y150.length : Int)) = true := decide_eq_true c25
            clear c25
            by_cases c26 : 0 ≤ x38_2
            ·rw [if_pos c26] at H
             have c26b0 : decide (0 ≤ x38_2) = true := decide_eq_true c26
             clear c26
             by_cases c27 : x38_2 < (y150.length : Int)
             ·rw [if_pos c27] at H
              have c27b0 : decide (x38_2 < (y150.length : Int)) = true := decide_eq_true c27
              clear c27
              obtain ⟨y156, hy156⟩ : ∃ y_ : List Int, y_ = (([(((rd_T62 y150 x38_2).f1).length : Int)] : List Int)) := ⟨_, rfl⟩
              replace H : ((heard_greatest_int.f k2 (((rd_T62 l0_2 x28_1).f1).length : Int) y156).bind fun t159 => ((heard_common.f ((rd_T62 l0_2 x28_1).f1) ((rd_T62 y150 x38_2).f1)).bind fun t160 => ((heard_least_int.f k2 x5_2 (([wrap64 (t159 - t160)] : List Int))).bind fun t164 => (heard_Known.l1 k2 t164 l0_2 (l0_2.length : Int) x28_1 y150 (y150.length : Int) (wrap64 (x38_2 + 1)) a0_0 l0_1 l0_2 ((rd_T62 l0_2 x28_1).f0) ((rd_T62 l0_2 x28_1).f1))))) = some (r1, r2) := by first | (rw [hy156]; with_reducible exact H) | (have H2_ := (Option.bind_some _ _).symm.trans H; rw [hy156]; with_reducible exact H2_) | (have H2_ := (Option.bind_some _ _).symm.trans H; with_reducible exact H2_) | with_reducible exact H | (rw [hy156]; exact H) | exact H
              have Ny156 := Aside0.mk hy156
              clear hy156
              replace H := Option.bind_eq_some_iff.mp H
              obtain ⟨t159, A280, H⟩ := H
              replace H : ((heard_common.f ((rd_T62 l0_2 x28_1).f1) ((rd_T62 y150 x38_2).f1)).bind fun t160 => ((heard_least_int.f k2 x5_2 (([wrap64 (t159 - t160)] : List Int))).bind fun t164 => (heard_Known.l1 k2 t164 l0_2 (l0_2.length : Int) x28_1 y150 (y150.length : Int) (wrap64 (x38_2 + 1)) a0_0 l0_1 l0_2 ((rd_T62 l0_2 x28_1).f0) ((rd_T62 l0_2 x28_1).f1)))) = some (r1, r2) := H
              have A28 := Aside0.mk A280
              clear A280
              replace H := Option.bind_eq_some_iff.mp H
              obtain ⟨t160, A290, H⟩ := H
              replace H : ((heard_least_int.f k2 x5_2 (([wrap64 (t159 - t160)] : List Int))).bind fun t164 => (heard_Known.l1 k2 t164 l0_2 (l0_2.length : Int) x28_1 y150 (y150.length : Int) (wrap64 (x38_2 + 1)) a0_0 l0_1 l0_2 ((rd_T62 l0_2 x28_1).f0) ((rd_T62 l0_2 x28_1).f1))) = some (r1, r2) := H
              have A29 := Aside0.mk A290
              clear A290
              obtain ⟨y161, hy161⟩ : ∃ y_ : List Int, y_ = (([wrap64 (t159 - t160)] : List Int)) := ⟨_, rfl⟩
              replace H : ((heard_least_int.f k2 x5_2 y161).bind fun t164 => (heard_Known.l1 k2 t164 l0_2 (l0_2.length : Int) x28_1 y150 (y150.length : Int) (wrap64 (x38_2 + 1)) a0_0 l0_1 l0_2 ((rd_T62 l0_2 x28_1).f0) ((rd_T62 l0_2 x28_1).f1))) = some (r1, r2) := by first | (rw [hy161]; with_reducible exact H) | (have H2_ := (Option.bind_some _ _).symm.trans H; rw [hy161]; with_reducible exact H2_) | (have H2_ := (Option.bind_some _ _).symm.trans H; with_reducible exact H2_) | with_reducible exact H | (rw [hy161]; exact H) | exact H
              have Ny161 := Aside0.mk hy161
              clear hy161
              replace H := Option.bind_eq_some_iff.mp H
              obtain ⟨t164, A300, H⟩ := H
              replace H : (heard_Known.l1 k2 t164 l0_2 (l0_2.length : Int) x28_1 y150 (y150.length : Int) (wrap64 (x38_2 + 1)) a0_0 l0_1 l0_2 ((rd_T62 l0_2 x28_1).f0) ((rd_T62 l0_2 x28_1).f1)) = some (r1, r2) := H
              have A30 := Aside0.mk A300
              clear A300
              have H' := Aside0.mk H
              clear H
              have p154 : 0 ≤ (x38_2 : Int) := of_decide_eq_true TA
              have q154 : x38_2 < (y150.length : Int) := of_decide_eq_true TA
              obtain ⟨ad154, A154_1, c154_1, e154, hx154_0, hx154_1, hl154_1, hi154_1⟩ := at_T62 HR153.out x38_2 p154 q154
              obtain rfl : ad148 = ad154 := (by injection e154)
              replace hx154_0 := hx HB.out hx154_0
              replace hx154_1 := hx HB.out hx154_1
              have HR154_1 := Aside0.mk hi154_1
              have HC154_1 := Aside0.mk hl154_1
              clear hi154_1 hl154_1
              replace p154 := eq_true p154
              replace q154 := eq_true q154
              try go_wp2_with (first | ((with_reducible refine gate_dst (N := 9) rfl ?_); refine box_event ?hg (N := 9) ?hd (cs := #[.int .i64 0, .slice none 0 0]) (t := 62) ?hr ?_; (case hd => rfl); (case hg => rfl); (case hr => exact TS); intro gb155 hg w31 hbox hb; have BK155 := Aside0.mk (hbox); have GW155 := Aside0.mk ((TG2 GE145.out GE149.out : w.heap.size ≤ gb155)); have GE155 := Aside0.mk ((TG2 GE145.out GE149.out : w.heap.size ≤ gb155)); have NB145_155 := Aside0.mk ((by rw [hg]; exact Nat.ne_of_lt (blk_lt (g := gb145) (o := .cells #[.int .i64 a0_0, .slice A0_1 l0_1.length c0_1, .slice (some ad148) l0_2.length c0_2] 27 (0, 0)) (TK BK145.out)) : gb145 ≠ gb155)); have NB155_145 := Aside0.mk ((by rw [hg]; exact Nat.ne_of_gt (blk_lt (g := gb145) (o := .cells #[.int .i64 a0_0, .slice A0_1 l0_1.length c0_1, .slice (some ad148) l0_2.length c0_2] 27 (0, 0)) (TK BK145.out)) : gb155 ≠ gb145)); have NB149_155 := Aside0.mk ((by rw [hg]; exact Nat.ne_of_lt (blk_lt (g := gb149) (o := .cells #[.int .i64 ((rd_T62 l0_2 x28_1).f0), .slice A148_1 ((rd_T62 l0_2 x28_1).f1).length c148_1] 62 (0, 0)) (TK BK149.out)) : gb149 ≠ gb155)); have NB155_149 := Aside0.mk ((by rw [hg]; exact Nat.ne_of_gt (blk_lt (g := gb149) (o := .cells #[.int .i64 ((rd_T62 l0_2 x28_1).f0), .slice A148_1 ((rd_T62 l0_2 x28_1).f1).length c148_1] 62 (0, 0)) (TK BK149.out)) : gb155 ≠ gb149)); replace BK145 := Aside0.mk (TKb hb BK145.out); replace BK149 := Aside0.mk (TKb hb BK149.out); replace HB := Aside0.mk (below_step (TB2 GE145.out GE149.out) hb); clear hb hbox hg; have hnb32 := NB155_145.out; have hnc32 := NB145_155.out; have hnb33 := NB155_149.out; have hnc33 := NB149_155.out; have hcz34_0 := cz BK155.out 0; have hcz34_1 := cz BK155.out 1; have hfz34_0 := fz BK155.out 0; have hfz34_1 := fz BK155.out 1))
              have n0_ : Aside0 (((w31.setCell ⟨gb155, 0, none⟩ (.int .i64 ((rd_T62 y150 x38_2).f0))).setCell ⟨gb155, 1, none⟩ (.slice A154_1 ((rd_T62 y150 x38_2).f1).length c154_1)).heap[gb145]? = some (.cells #[.int .i64 a0_0, .slice A0_1 l0_1.length c0_1, .slice (some ad148) l0_2.length c0_2] 27 (0, 0))) := ⟨by (with_reducible repeat (first | refine blk_drewN ?_ _ | refine blk_drew ?_ | refine blk_alloc ?_ _)); refine blk_far ?_ NB145_155.out _; (with_reducible repeat (first | refine blk_drewN ?_ _ | refine blk_drew ?_ | refine blk_alloc ?_ _)); refine blk_far ?_ NB145_155.out _; (with_reducible repeat (first | refine blk_drewN ?_ _ | refine blk_drew ?_ | refine blk_alloc ?_ _)); exact BK145.out⟩
              have n1_ : Aside0 (((w31.setCell ⟨gb155, 0, none⟩ (.int .i64 ((rd_T62 y150 x38_2).f0))).setCell ⟨gb155, 1, none⟩ (.slice A154_1 ((rd_T62 y150 x38_2).f1).length c154_1)).heap[gb149]? = some (.cells #[.int .i64 ((rd_T62 l0_2 x28_1).f0), .slice A148_1 ((rd_T62 l0_2 x28_1).f1).length c148_1] 62 (0, 0))) := ⟨by (with_reducible repeat (first | refine blk_drewN ?_ _ | refine blk_drew ?_ | refine blk_alloc ?_ _)); refine blk_far ?_ NB149_155.out _; (with_reducible repeat (first | refine blk_drewN ?_ _ | refine blk_drew ?_ | refine blk_alloc ?_ _)); refine blk_far ?_ NB149_155.out _; (with_reducible repeat (first | refine blk_drewN ?_ _ | refine blk_drew ?_ | refine blk_alloc ?_ _)); exact BK149.out⟩
              have n2_ : Aside0 (((w31.setCell ⟨gb155, 0, none⟩ (.int .i64 ((rd_T62 y150 x38_2).f0))).setCell ⟨gb155, 1, none⟩ (.slice A154_1 ((rd_T62 y150 x38_2).f1).length c154_1)).heap[gb155]? = some (.cells #[.int .i64 ((rd_T62 y150 x38_2).f0), .slice A154_1 ((rd_T62 y150 x38_2).f1).length c154_1] 62 (0, 0))) := ⟨by (with_reducible repeat (first | refine blk_drewN ?_ _ | refine blk_drew ?_ | refine blk_alloc ?_ _)); refine blk_put (cs := #[.int .i64 ((rd_T62 y150 x38_2).f0), .slice none 0 0]) ?_ 1 _ rfl; (with_reducible repeat (first | refine blk_drewN ?_ _ | refine blk_drew ?_ | refine blk_alloc ?_ _)); refine blk_put (cs := #[.int .i64 0, .slice none 0 0]) ?_ 0 _ rfl; (with_reducible repeat (first | refine blk_drewN ?_ _ | refine blk_drew ?_ | refine blk_alloc ?_ _)); exact BK155.out⟩
              have n3_ : Aside0 (Below w.heap.size w ((w31.setCell ⟨gb155, 0, none⟩ (.int .i64 ((rd_T62 y150 x38_2).f0))).setCell ⟨gb155, 1, none⟩ (.slice A154_1 ((rd_T62 y150 x38_2).f1).length c154_1))) := ⟨TB3 GE145.out GE149.out GE155.out⟩
              (try clear BK145)
              (try clear BK149)
              (try clear BK155)
              (try clear HB)
              generalize ((w31.setCell ⟨gb155, 0, none⟩ (.int .i64 ((rd_T62 y150 x38_2).f0))).setCell ⟨gb155, 1, none⟩ (.slice A154_1 ((rd_T62 y150 x38_2).f1).length c154_1)) = w35 at n0_ n1_ n2_ n3_ ⊢
              have BK145 := n0_
              have BK149 := n1_
              have BK155 := n2_
              have HB := n3_
              clear n0_ n1_ n2_ n3_
              have n0_ := Aside0.mk (blk_drew BK145.out)
              have n1_ := Aside0.mk (blk_drew BK149.out)
              have n2_ := Aside0.mk (blk_drew BK155.out)
              have n3_ := Aside0.mk (below_drew1 HB.out)
              clear BK145
              clear BK149
              clear BK155
              clear HB
              have BK145 := n0_
              have BK149 := n1_
              have BK155 := n2_
              have HB := n3_
              clear n0_ n1_ n2_ n3_
              refine start_ (n := 18) (S := fun w' => w'.cell? ⟨gb149, 0, none⟩ = some (.int .i64 ((rd_T62 l0_2 x28_1).f0)) ∧ w'.cell? ⟨gb149, 1, none⟩ = some (.slice A148_1 ((rd_T62 l0_2 x28_1).f1).length c148_1) ∧ w'.cell? ⟨gb155, 0, none⟩ = some (.int .i64 ((rd_T62 y150 x38_2).f0)) ∧ w'.cell? ⟨gb155, 1, none⟩ = some (.slice A154_1 ((rd_T62 y150 x38_2).f1).length c154_1)) (ds := []) (.replicate 18 false) (by kernel_rfl) rfl rfl ⟨cz BK149.out 0, cz BK149.out 1, cz BK155.out 0, cz BK155.out 1⟩ (fun hHeld => ?_); refine with_tabW heard_Known.tab13 heard_Known.bits13 (fun HT_ HW_ => ?_)
              generalize w35.drew = w36 at BK145 BK149 BK155 HB hHeld ⊢
              refine pT 0 42 (bt 18 1) (k := ?_)
              refine pT 1 43 (bt 18 3) (k := ?_)
              refine pT 4 46 (bt 18 19) (k := ?_)
              refine pT 9 51 (bt 18 531) (k := ?_)
              refine pT 11 53 (bt 18 2579) (k := ?_)
              refine tT4 2 44 (bt 18 2583) hHeld (k := ?_)
              refine pT 3 45 (bt 18 2591) (k := ?_)
              refine tT4 5 47 (bt 18 2623) hHeld (k := ?_)
              refine pT 6 48 (bt 18 2687) (k := ?_)
              refine tT4 10 52 (bt 18 3711) hHeld (k := ?_)
              refine tT4 12 54 (bt 18 7807) hHeld (k := ?_)
              refine one_ (i := 7) (N := some 49) (bt 18 7935) rfl rfl (one_of HT_.out (by kernel_rfl)) (by decide) (fun K hK => ?_)
              refine Kd.R_lit_step (Kd.int .i64) _ 3 ?hg (N := 49) ?hd (xs := ([(((rd_T62 y150 x38_2).f1).length : Int)] : List Int)) (inner := [.int .i64 (((rd_T62 y150 x38_2).f1).length : Int)]) (ok := fun _ => True) (okp := fun _ => True) ?hr ?hp (fun _ hk => hk) trivial (Below.refl _ _) (Nat.le_refl _) (by simp) ?_; (case hd => rfl); (case hg => rfl); (case hr => exact TS); (case hp => exact (Reps.one (show Kd.M (Kd.int .i64) _ _ _ (((rd_T62 y150 x38_2).f1).length : Int) [.int .i64 (((rd_T62 y150 x38_2).f1).length : Int)] from rfl) (Reps.none _ _)))
              intro v157 w37 ho38 hb hg_ hnew_
              clear hg_ hnew_
              (first | rw [← Ny156.out] at ho38 | (simp only [Int.reduceToNat] at ho38; rw [← Ny156.out] at ho38))
              have n0_ := Aside0.mk (Kd.R_lower ho38 (below_size (TB3 GE145.out GE149.out GE155.out)))
              have n1_ := Aside0.mk (TKb hb BK145.out)
              have n2_ := Aside0.mk (TKb hb BK149.out)
              have n3_ := Aside0.mk (TKb hb BK155.out)
              have n4_ := Aside0.mk (below_step (TB3 GE145.out GE149.out GE155.out) hb)
              clear BK145
              clear BK149
              clear BK155
              clear HB
              have HO158 := n0_
              have BK145 := n1_
              have BK149 := n2_
              have BK155 := n3_
              have HB := n4_
              clear n0_ n1_ n2_ n3_ n4_
              clear hb ho38
              obtain ⟨Ao39, co39, eo39⟩ := Kd.R_slice HO158.out
              (first | subst eo39 | (injection eo39 with f1_ f2_ f3_; have f4_ := f1_.symm; have f5_ := f3_.symm; clear f1_ f2_ f3_; subst f4_; subst f5_))
              refine hK.out _ _ ⟨cz BK149.out 0, cz BK149.out 1, cz BK155.out 0, cz BK155.out 1⟩ (fun hHeld => ?_)
              clear hK K
              refine norm_ (a' := ?_) ?_ ?_
              rotate_left
              ·show Act.put _ (some 49) _ = _
               simp only [Act.put, lA, lZ, lS, i64_w, i32_w]
               rfl
              refine one_ (i := 8) (N := some 50) (bt 18 8191) rfl rfl (one_of HT_.out (by kernel_rfl)) (by decide) (fun K hK => ?_)
              refine goes_ Tryd.func75 (by kernel_rfl) rfl #[.int .i64 (((rd_T62 l0_2 x28_1).f1).length : Int), .slice Ao39 y156.length co39] (by rfl) rfl rfl TM ?_
              with_reducible refine (heard_greatest_int.calls k2 (((rd_T62 l0_2 x28_1).f1).length : Int) _ _ y156 t159 _ ?side1 ?side2 A28.out).mono ?_
              (case side1 => repeat (first | exact (Kd.R_reads' HO158.out).2.2 | (with_reducible refine Kd.C_alloc ?_ _) | (with_reducible refine Kd.C_drewN ?_ _) | (with_reducible refine Kd.C_drew ?_)))
              (case side2 => exact (Kd.R_reads' HO158.out).2.1)
              rintro e w40 ⟨rfl, hb⟩
              refine ⟨_, rfl, ?_⟩
              have n0_ := Aside0.mk (Kd.R_below (TRo HO158.out) hb)
              have n1_ := Aside0.mk (TKb hb BK145.out)
              have n2_ := Aside0.mk (TKb hb BK149.out)
              have n3_ := Aside0.mk (TKb hb BK155.out)
              have n4_ := Aside0.mk (below_step (TB3 GE145.out GE149.out GE155.out) hb)
              clear HO158
              clear BK145
              clear BK149
              clear BK155
              clear HB
              have HO158 := n0_
              have BK145 := n1_
              have BK149 := n2_
              have BK155 := n3_
              have HB := n4_
              clear n0_ n1_ n2_ n3_ n4_
              (try clear hb)
              (try clear hb2)
              (try clear hk)
              (try clear hi)
              refine hK.out _ _ ⟨cz BK149.out 0, cz BK149.out 1, cz BK155.out 0, cz BK155.out 1⟩ (fun hHeld => ?_)
              clear hK K
              refine norm_ (a' := ?_) ?_ ?_
              rotate_left
              ·show Act.put _ (some 50) _ = _
               simp only [Act.put, lA, lZ, lS, i64_w, i32_w]
               rfl
              refine one_ (i := 13) (N := some 55) (bt 18 16383) rfl rfl (one_of HT_.out (by kernel_rfl)) (by decide) (fun K hK => ?_)
              refine goes_ Tryd.func72 (by kernel_rfl) rfl #[.slice A148_1 ((rd_T62 l0_2 x28_1).f1).length c148_1, .slice A154_1 ((rd_T62 y150 x38_2).f1).length c154_1] (by rfl) rfl rfl TM ?_
              with_reducible refine (heard_common.calls _ _ ((rd_T62 l0_2 x28_1).f1) _ _ ((rd_T62 y150 x38_2).f1) t160 _ ?side1 ?side2 ?side3 ?side4 ?side5 A29.out).mono ?_
              (case side1 => exact TC HR148_1.out)
              (case side2 => exact HC148_1.out)
              (case side3 => exact TC HR154_1.out)
              (case side4 => exact HC154_1.out)
              (case side5 => exact Glob.fr HG.out (Fr.of_below (TB3 GE145.out GE149.out GE155.out)))
              rintro e w41 ⟨rfl, hb⟩
              refine ⟨_, rfl, ?_⟩
              have n0_ := Aside0.mk (Kd.R_below (TRo HO158.out) hb)
              have n1_ := Aside0.mk (TKb hb BK145.out)
              have n2_ := Aside0.mk (TKb hb BK149.out)
              have n3_ := Aside0.mk (TKb hb BK155.out)
              have n4_ := Aside0.mk (below_step (TB3 GE145.out GE149.out GE155.out) hb)
              clear HO158
              clear BK145
              clear BK149
              clear BK155
              clear HB
              have HO158 := n0_
              have BK145 := n1_
              have BK149 := n2_
              have BK155 := n3_
              have HB := n4_
              clear n0_ n1_ n2_ n3_ n4_
              (try clear hb)
              (try clear hb2)
              (try clear hk)
              (try clear hi)
              refine hK.out _ _ ⟨cz BK149.out 0, cz BK149.out 1, cz BK155.out 0, cz BK155.out 1⟩ (fun hHeld => ?_)
              clear hK K
              refine norm_ (a' := ?_) ?_ ?_
              rotate_left
              ·show Act.put _ (some 55) _ = _
               simp only [Act.put, lA, lZ, lS, i64_w, i32_w]
               rfl
              refine pT 14 56 (bt 18 32767) (k := ?_)
              refine one_ (i := 15) (N := some 57) (bt 18 65535) rfl rfl (one_of HT_.out (by kernel_rfl)) (by decide) (fun K hK => ?_)
              refine Kd.R_lit_step (Kd.int .i64) _ 3 ?hg (N := 57) ?hd (xs := ([wrap64 (t159 - t160)] : List Int)) (inner := [.int .i64 (wrap64 (t159 - t160))]) (ok := fun _ => True) (okp := fun _ => True) ?hr ?hp (fun _ hk => hk) trivial (Below.refl _ _) (Nat.le_refl _) (by simp) ?_; (case hd => rfl); (case hg => rfl); (case hr => exact TS); (case hp => exact (Reps.one (show Kd.M (Kd.int .i64) _ _ _ (wrap64 (t159 - t160)) [.int .i64 (wrap64 (t159 - t160))] from rfl) (Reps.none _ _)))
              intro v162 w42 ho43 hb hg_ hnew_
              clear hg_ hnew_
              (first | rw [← Ny161.out] at ho43 | (simp only [Int.reduceToNat] at ho43; rw [← Ny161.out] at ho43))
              have n0_ := Aside0.mk (Kd.R_elder' (TRo HO158.out) (Kd.R_base ho43) hb)
              have n1_ := Aside0.mk (Kd.R_lower (Kd.R_new' ho43 (Kd.R_lt (TRo HO158.out))) (below_size (TB3 GE145.out GE149.out GE155.out)))
              have n2_ := Aside0.mk (TKb hb BK145.out)
              have n3_ := Aside0.mk (TKb hb BK149.out)
              have n4_ := Aside0.mk (TKb hb BK155.out)
              have n5_ := Aside0.mk (below_step (TB3 GE145.out GE149.out GE155.out) hb)
              clear HO158
              clear BK145
              clear BK149
              clear BK155
              clear HB
              have HO158 := n0_
              have HO163 := n1_
              have BK145 := n2_
              have BK149 := n3_
              have BK155 := n4_
              have HB := n5_
              clear n0_ n1_ n2_ n3_ n4_ n5_
              clear hb ho43
              obtain ⟨Ao44, co44, eo44⟩ := Kd.R_slice HO163.out
              (first | subst eo44 | (injection eo44 with f1_ f2_ f3_; have f4_ := f1_.symm; have f5_ := f3_.symm; clear f1_ f2_ f3_; subst f4_; subst f5_))
              refine hK.out _ _ ⟨cz BK149.out 0, cz BK149.out 1, cz BK155.out 0, cz BK155.out 1⟩ (fun hHeld => ?_)
              clear hK K
              refine norm_ (a' := ?_) ?_ ?_
              rotate_left
              ·show Act.put _ (some 57) _ = _
               simp only [Act.put, lA, lZ, lS, i64_w, i32_w]
               rfl
              refine one_ (i := 16) (N := some 58) (bt 18 131071) rfl rfl (one_of HT_.out (by kernel_rfl)) (by decide) (fun K hK => ?_)
              refine goes_ Tryd.func74 (by kernel_rfl) rfl #[.int .i64 x5_2, .slice Ao44 y161.length co44] (by rfl) rfl rfl TM ?_
              with_reducible refine (heard_least_int.calls k2 x5_2 _ _ y161 t164 _ ?side1 ?side2 A30.out).mono ?_
              (case side1 => repeat (first | exact (Kd.R_reads' HO163.out).2.2 | (with_reducible refine Kd.C_alloc ?_ _) | (with_reducible refine Kd.C_drewN ?_ _) | (with_reducible refine Kd.C_drew ?_)))
              (case side2 => exact (Kd.R_reads' HO163.out).2.1)
              rintro e w45 ⟨rfl, hb⟩
              refine ⟨_, rfl, ?_⟩
              have n0_ := Aside0.mk (Kd.R_below (TRo HO158.out) hb)
              have n1_ := Aside0.mk (Kd.R_below (TRo HO163.out) hb)
              have n2_ := Aside0.mk (TKb hb BK145.out)
              have n3_ := Aside0.mk (TKb hb BK149.out)
              have n4_ := Aside0.mk (TKb hb BK155.out)
              have n5_ := Aside0.mk (below_step (TB3 GE145.out GE149.out GE155.out) hb)
              clear HO158
              clear HO163
              clear BK145
              clear BK149
              clear BK155
              clear HB
              have HO158 := n0_
              have HO163 := n1_
              have BK145 := n2_
              have BK149 := n3_
              have BK155 := n4_
              have HB := n5_
              clear n0_ n1_ n2_ n3_ n4_ n5_
              (try clear hb)
              (try clear hb2)
              (try clear hk)
              (try clear hi)
              refine hK.out _ _ ⟨cz BK149.out 0, cz BK149.out 1, cz BK155.out 0, cz BK155.out 1⟩ (fun hHeld => ?_)
              clear hK K
              refine norm_ (a' := ?_) ?_ ?_
              rotate_left
              ·show Act.put _ (some 58) _ = _
               simp only [Act.put, lA, lZ, lS, i64_w, i32_w]
               rfl
              refine pT 17 5 (bt 18 262143) (k := ?_)
              refine done_ (done_of HT_.out (by kernel_rfl)) ?_
              try go_wp2
              go_roundg k2
              case measure => have := HK1.out; have := HK2.out; omega
              case rel => exact ⟨(t164), (wrap64 (x38_2 + 1)), TT, TT, H', ⟨by have := HK1.out; have := HK2.out; omega⟩, ⟨TK BK145.out⟩, ⟨TK BK149.out⟩, ⟨TB3 GE145.out GE149.out GE155.out⟩⟩
             ·rw [if_neg c27] at H
              exact absurd H (by simp)
            ·rw [if_neg c26] at H
             exact absurd H (by simp)
           ·rw [if_neg c25] at H
            have c25b0 : decide (x38_2 < (y150.length : Int)) = false := decide_eq_false c25
            clear c25
            have H' := Aside0.mk H
            clear H
            go_wp2
            go_roundg k2
            case measure => have := HK1.out; have := HK2.out; omega
            case rel => exact ⟨(x5_2), (wrap64 (x28_1 + 1)), TT, TT, H', ⟨by have := HK1.out; have := HK2.out; omega⟩, ⟨TK BK145.out⟩, ⟨TB2 GE145.out GE149.out⟩⟩
        ·rw [if_neg c18] at H
         exact absurd H (by simp)
       ·rw [if_neg c16] at H
        exact absurd H (by simp)
      ·rw [if_neg c15] at H
       exact absurd H (by simp)
     ·rw [if_neg c14] at H
      have c14b0 : decide (x28_1 < (l0_2.length : Int)) = false := decide_eq_false c14
      clear c14
      by_cases c46 : x5_1 = 0
      ·rw [if_pos c46] at H
       have c46b0 : (x5_1 == 0) = true := beq_iff_eq.mpr c46
       have c46b1 : (x5_1 != 0) = false := bne_eq_false_iff_eq.mpr c46
       clear c46
       simp only [Option.some.injEq, Prod.mk.injEq] at H
       obtain ⟨rfl, rfl⟩ := H
       go_wp2
       go_ret2
       exact ⟨TR, TB1 GE145.out⟩
      ·rw [if_neg c46] at H
       have c46b0 : (x5_1 == 0) = false := beq_eq_false_iff_ne.mpr c46
       have c46b1 : (x5_1 != 0) = true := bne_iff_ne.mpr c46
       simp only [Option.some.injEq, Prod.mk.injEq] at H
       obtain ⟨rfl, rfl⟩ := H
       go_wp2
       go_ret2
       exact ⟨TR, TB1 GE145.out⟩
 ·rw [if_neg c3] at H
  have c3b0 : (t146 == 0) = false := beq_eq_false_iff_ne.mpr c3
  have c3b1 : (t146 != 0) = true := bne_iff_ne.mpr c3
  simp only [Option.some.injEq, Prod.mk.injEq] at H
  obtain ⟨rfl, rfl⟩ := H
  go_enter Tryd.func34, Tryd.ntmps34
  go_wp2_with (first | ((with_reducible refine gate_dst (N := 1) rfl ?_); refine box_event ?hg (N := 1) ?hd (cs := #[.int .i64 a0_0, .slice A0_1 l0_1.length c0_1, .slice A0_2 l0_2.length c0_2]) (t := 27) ?hr ?_; (case hd => rfl); (case hg => rfl); (case hr => exact TS); intro gb145 hg w47 hbox hb; have BK145 := Aside0.mk (hbox); have GW145 := Aside0.mk ((TG : w.heap.size ≤ gb145)); have GE145 := Aside0.mk ((TG : w.heap.size ≤ gb145)); replace HB := Aside0.mk (below_step TB hb); clear hb hbox hg; have hcz48_0 := cz BK145.out 0; have hcz48_1 := cz BK145.out 1; have hcz48_2 := cz BK145.out 2; have hfz48_0 := fz BK145.out 0; have hfz48_1 := fz BK145.out 1; have hfz48_2 := fz BK145.out 2) | ((with_reducible refine gate_callee (f := 16) rfl ?_); refine goesL_ (some 11) rfl rfl Tryd.func16 (by kernel_rfl) rfl #[.agg #[.int .i64 a0_0, .slice A0_1 l0_1.length c0_1, .slice A0_2 l0_2.length c0_2]] rfl TM ?_; (with_reducible refine (heard_Check.calls a0_0 _ _ l0_1 _ _ l0_2 t146 _ ?side1 ?side2 ?side3 ?side4 ?side5 A2.out).mono ?_); (case side1 => exact TC HR0_1.out); (case side2 => exact HC0_1.out); (case side3 => exact TC HR0_2.out); (case side4 => exact HC0_2.out); (case side5 => exact Glob.fr HG.out (Fr.of_below (TB1 GE145.out))); rintro e w49 ⟨rfl, hb⟩; refine ⟨_, rfl, ?_⟩; replace BK145 := Aside0.mk (TKb hb BK145.out); replace HB := Aside0.mk (below_step (TB1 GE145.out) hb); (try clear hb); (try clear hb2); (try clear hk); (try clear hi)))
  go_ret2
  exact ⟨TR, TB1 GE145.out⟩
end Go.Proofs.YtfdenclnneigfaaDoor.PRaspKeys
