import Derived.Test.YtfdenclnneigfaaDoorC1
import Derived.Test.YtfdenclnneigfaaDoorC2
import Derived.Test.YtfdenclnneigfaaDoorM0
import Derived.Test.YtfdenclnneigfaaDoorProg
import Derived.Below
import Derived.Deep.Draws
import Derived.Deep.AppendLies
import Derived.Maps.AppendAt
import Derived.OwnWalk
import Derived.Laws.BytesArg
import Derived.Laws.MakeOwn
import Derived.Laws.OwnMore
import Derived.Deep.OwnRows
import Derived.Tactics
import Derived.Lib.ConvBytes
import Derived.Laws.Slices
import Derived.WalkKit
import Derived.KernelRfl
import Derived.RowKit3
import Derived.Deep.LoopGhost
import Derived.Deep.QuietTactic
import Derived.BigQuiet
import Derived.WideLaws
import Derived.Deep.DeepCutAuto
import Derived.Deep.CutBlock
import Derived.Deep.RegionHeld3
import Derived.Laws.Rows
import Derived.Lib.AppendStr
import Derived.ArgAppend
import Derived.Laws.IdiomCopy
import Derived.OrdersHeld
import Derived.Laws.BitsLemmas
import Derived.RowKit
set_option linter.unusedVariables false
set_option linter.unusedSimpArgs false
namespace Go.Proofs.YtfdenclnneigfaaDoor.PRaspKeys
open Go.RowKit Go.Proofs.YtfdenclnneigfaaDoorW.PrintWords Go.Proofs.YtfdenclnneigfaaDoorW.PrintLast Go.Proofs.YtfdenclnneigfaaDoorW.PrintMore Go.Proofs.YtfdenclnneigfaaDoor.M
attribute [local go_sem] max2_int min2_int max_two min_two max_three min_three max_four min_four   -- for this text's walks alone
/-! #### struct type 114 -/
/-! #### struct type 62 -/
end Go.Proofs.YtfdenclnneigfaaDoor.PRaspKeys
namespace Go.Proofs.YtfdenclnneigfaaDoor.PRaspKeys
open Go.RowKit Go.Proofs.YtfdenclnneigfaaDoorW.PrintWords Go.Proofs.YtfdenclnneigfaaDoorW.PrintLast Go.Proofs.YtfdenclnneigfaaDoorW.PrintMore Go.Proofs.YtfdenclnneigfaaDoor.M
attribute [local go_sem] max2_int min2_int max_two min_two max_three min_three max_four min_four   -- for this text's walks alone
def rG.f (k : Nat) (a0_0 : Int) (l0_1 : List (S114)) (l0_2 : List (S62)) (a1 : Int) (a2 : Int) : Option (Bool) := if 0 ≤ a1 then (if a1 < (l0_2.length : Int) then ((r5S.f k a0_0 l0_1 ((rd_T62 l0_2 a1).f0) a2).bind fun bt144 => ((saronref00_Where.f k bt144.1 0).bind fun t148 => (some (decide (t148 ≥ 0))))) else (none)) else (none)
theorem rG.mono : ∀ a0 a1 a2 a3 a4 k, LeO (rG.f k a0 a1 a2 a3 a4) (rG.f (k + 1) a0 a1 a2 a3 a4) := by
 intro a0 a1 a2 a3 a4 k
 unfold rG.f
 repeat' first
   | (with_reducible exact saronref00_Where.mono _ _ _)
   | (with_reducible exact r5S.mono _ _ _ _ _)
   | (with_reducible exact LeO.refl _)
   | (with_reducible exact LeO.none _)
   | (with_reducible refine LeO.ite ?_ ?_)
   | (with_reducible refine LeO.bind ?_ (fun _ => ?_))
   | exact saronref00_Where.mono _ _ _
   | exact r5S.mono _ _ _ _ _
   | exact LeO.none _
   | refine LeO.ite ?_ ?_
   | refine LeO.bind ?_ (fun _ => ?_)
def rG.T1 : Bool × List (List Nat × List Nat) := (true, [([], []), ([0], [0]), ([], []), ([2], [2]), ([], []), ([3, 4], [3, 4]), ([5], [5]), ([6], [6]), ([], []), ([1, 7, 8], [1, 7, 8]), ([9], [9]), ([10], [10]), ([10], [10]), ([11, 9, 0, 1, 2, 3, 4, 5, 6, 7, 8, 9, 10, 11], [11]), ([12, 13, 0, 1, 2, 3, 4, 5, 6, 7, 8, 9, 10, 11, 12, 13], [12])])
def rG.B1 : List Nat := [0, 1, 0, 4, 0, 28, 60, 124, 0, 511, 1023, 2047, 2047, 4095, 16383]
theorem rG.tab1 : rtab .any (opsOf Tryd.f101 1) = rG.T1 := by kernel_rfl
theorem rG.bits1 : waitsOk rG.T1.2 rG.B1 = true := by kernel_rfl
set_option maxHeartbeats 8000000 in
set_option maxRecDepth 100000 in
theorem rG.calls (k : Nat) (a0_0 : Int) (A0_1 : Option Addr) (c0_1 : Nat) (l0_1 : List (S114)) (A0_2 : Option Addr) (c0_2 : Nat) (l0_2 : List (S62)) (a1 : Int) (a2 : Int) (r : Bool) (w : World) (hr0_1 : Kd.C k114 w A0_1 l0_1.length l0_1) (hc0_1 : l0_1.length ≤ c0_1) (hr0_2 : Kd.C k62 w A0_2 l0_2.length l0_2) (hc0_2 : l0_2.length ≤ c0_2) (h : rG.f k a0_0 l0_1 l0_2 a1 a2 = some r) :
  Calls Tryd.prog 101 #[.agg #[.int .i64 a0_0, .slice A0_1 l0_1.length c0_1, .slice A0_2 l0_2.length c0_2], .int .i64 a1, .int .i64 a2] w fun e w' => e = .returned (.bool r) ∧ Below w.heap.size w w' := by
 have hu27 := Tryd.underlying27
 have hu24 := Tryd.underlying24
 have HR0_1 := aS hr0_1
 have HC0_1 := aS hc0_1
 clear hr0_1 hc0_1
 have HR0_2 := aS hr0_2
 have HC0_2 := aS hc0_2
 clear hr0_2 hc0_2
 have HB := aS (Below.refl w.heap.size w)
 have H : (if 0 ≤ a1 then (if a1 < (l0_2.length : Int) then ((r5S.f k a0_0 l0_1 ((rd_T62 l0_2 a1).f0) a2).bind fun bt144 => ((saronref00_Where.f k bt144.1 0).bind fun t148 => (some (decide (t148 ≥ 0))))) else (none)) else (none)) = some r := h
 clear h
 by_cases c4 : 0 ≤ a1
 rotate_left
 ·rw [if_neg c4] at H
  exact absurd H (by simp)
 rw [if_pos c4] at H
 have c4b0 : decide (0 ≤ a1) = true := decide_eq_true c4
 clear c4
 by_cases c5 : a1 < (l0_2.length : Int)
 rotate_left
 ·rw [if_neg c5] at H
  exact absurd H (by simp)
 rw [if_pos c5] at H
 have c5b0 : decide (a1 < (l0_2.length : Int)) = true := decide_eq_true c5
 clear c5
 replace H := Option.bind_eq_some_iff.mp H
 obtain ⟨⟨t144, t147⟩, A60, H⟩ := H
 replace H : ((saronref00_Where.f k t144 0).bind fun t148 => (some (decide (t148 ≥ 0)))) = some r := H
 have A6 := aS A60
 clear A60
 replace H := Option.bind_eq_some_iff.mp H
 obtain ⟨t148, A70, H⟩ := H
 replace H : (some (decide (t148 ≥ 0))) = some r := H
 have A7 := aS A70
 clear A70
 obtain rfl := Option.some.inj H
 go_enter Tryd.func101, Tryd.ntmps101
 try go_wp2_with (first | ((with_reducible refine gate_dst (N := 3) rfl ?_); refine box_event ?hg (N := 3) ?hd (cs := #[.int .i64 a0_0, .slice A0_1 l0_1.length c0_1, .slice A0_2 l0_2.length c0_2]) (t := 27) ?hr ?_; (case hd => rfl); (case hg => rfl); (case hr => exact TS); intro gb142 hg w8 hbox hb; have BK142 := aS (hbox); have GW142 := aS ((TG : w.heap.size ≤ gb142)); have GE142 := aS ((TG : w.heap.size ≤ gb142)); replace HB := aS (below_step TB hb); clear hb hbox hg))
 have n0_ := aS (blk_drew BK142.out)
 have n1_ := aS (below_drew1 HB.out)
 clear BK142
 clear HB
 have BK142 := n0_
 have HB := n1_
 clear n0_ n1_
 have p143 : 0 ≤ (a1 : Int) := of_decide_eq_true TA
 have q143 : a1 < (l0_2.length : Int) := of_decide_eq_true TA
 obtain ⟨ad143, A143_1, c143_1, e143, hx143_0, hx143_1, hl143_1, hi143_1⟩ := at_T62 HR0_2.out a1 p143 q143
 have hw143_1 := hx143_1
 have hw143_0 := hx143_0
 cases e143
 replace hx143_0 := hx HB.out hx143_0
 replace hx143_1 := hx HB.out hx143_1
 have HR143_1 := aS hi143_1
 have HC143_1 := aS hl143_1
 clear hi143_1 hl143_1
 replace p143 := eq_true p143
 replace q143 := eq_true q143
 refine start_ (n := 15) (S := fun w' => w'.cell? ⟨gb142, 0, none⟩ = some (.int .i64 a0_0) ∧ w'.cell? ⟨gb142, 1, none⟩ = some (.slice A0_1 l0_1.length c0_1) ∧ w'.cell? ⟨gb142, 2, none⟩ = some (.slice (some ad143) l0_2.length c0_2) ∧ w'.cell? (ad143.add ((a1).toNat * 2)) = some (.int .i64 ((rd_T62 l0_2 a1).f0)) ∧ w'.cell? ⟨(ad143.add ((a1).toNat * 2)).block, (ad143.add ((a1).toNat * 2)).off + 1, none⟩ = some (.slice A143_1 ((rd_T62 l0_2 a1).f1).length c143_1)) (ds := []) (.replicate 15 false) (by kernel_rfl) rfl rfl ⟨cz BK142.out 0, cz BK142.out 1, cz BK142.out 2, (hx HB.out hw143_0), (hx HB.out hw143_1)⟩ (fun hHeld => ?_); refine with_tabW rG.tab1 rG.bits1 (fun HT_ HW_ => ?_)
 generalize w8.drew = w9 at BK142 HB HR143_1 hx143_0 hx143_1 hHeld ⊢
 refine pT 0 10 (bt 15 1) (k := ?_)
 refine pT 2 12 (bt 15 5) (k := ?_)
 refine pT 4 14 (bt 15 21) (k := ?_)
 refine pT 8 18 (bt 15 277) (k := ?_)
 refine tT5 1 11 (bt 15 279) hHeld (k := ?_)
 refine tT5 3 13 (bt 15 287) hHeld (k := ?_)
 refine pT 5 15 (bt 15 319) (k := ?_)
 refine pT 6 16 (bt 15 383) (k := ?_)
 refine tT5 7 17 (bt 15 511) hHeld (k := ?_)
 refine one_ (i := 9) (N := some 19) (bt 15 1023) rfl rfl (one_of HT_.out (by kernel_rfl)) (by decide) (fun K hK => ?_)
 refine goes_ Tryd.func105 (by kernel_rfl) rfl #[.agg #[.int .i64 a0_0, .slice A0_1 l0_1.length c0_1], .int .i64 ((rd_T62 l0_2 a1).f0), .int .i64 a2] (by rfl) rfl rfl TM ?_
 with_reducible refine (r5S.calls k a0_0 _ _ l0_1 ((rd_T62 l0_2 a1).f0) a2 t144 t147 _ ?side1 ?side2 A6.out).mono ?_
 (case side1 => exact TC HR0_1.out)
 (case side2 => exact HC0_1.out)
 rintro e w10 ⟨v145, rfl, ho0, hb⟩
 refine ⟨_, rfl, ?_⟩
 have n0_ := aS (Kd.R_lower ho0 (below_size (TB1 GE142.out)))
 have n1_ := aS (TKb hb BK142.out)
 have n2_ := aS (below_step (TB1 GE142.out) hb)
 clear BK142
 clear HB
 have HO146 := n0_
 have BK142 := n1_
 have HB := n2_
 clear n0_ n1_ n2_
 (try clear hb)
 (try clear hb2)
 (try clear hk)
 (try clear hi)
 (try clear ho0)
 refine hK.out _ _ ⟨cz BK142.out 0, cz BK142.out 1, cz BK142.out 2, (hx HB.out hw143_0), (hx HB.out hw143_1)⟩ (fun hHeld => ?_)
 clear hK K
 refine norm_ (a' := ?_) ?_ ?_
 rotate_left
 ·show Act.put _ (some 19) _ = _
  simp only [Act.put, lA, lZ, lS, i64_w, i32_w]
  rfl
 refine pT 10 9 (bt 15 2047) (k := ?_)
 refine pT 11 20 (bt 15 4095) (k := ?_)
 refine pT 12 21 (bt 15 8191) (k := ?_)
 refine pT 13 7 (bt 15 16383) (k := ?_)
 refine pT 14 8 (bt 15 32767) (k := ?_)
 refine done_ (done_of HT_.out (by kernel_rfl)) ?_
 obtain ⟨Ao11, co11, eo11⟩ := Kd.R_slice HO146.out
 subst eo11
 try go_wp2_with (first | ((with_reducible refine gate_callee (f := 39) rfl ?_); refine goesL_ (some 23) rfl rfl Tryd.func39 (by kernel_rfl) rfl #[.slice Ao11 t144.length co11, .int .i64 0] rfl TM ?_; (with_reducible refine (saronref00_Where.calls k _ _ t144 0 t148 _ ?side1 ?side2 A7.out).mono ?_); (case side1 => repeat (first | exact (Kd.R_reads' HO146.out).2.2 | (with_reducible refine Kd.C_alloc ?_ _) | (with_reducible refine Kd.C_drewN ?_ _) | (with_reducible refine Kd.C_drew ?_))); (case side2 => exact (Kd.R_reads' HO146.out).2.1); rintro e w' ⟨rfl, ⟨nd, rfl⟩⟩; refine ⟨_, rfl, ?_⟩))
 go_ret
 exact ⟨TR, TB1 GE142.out⟩
def rC.f (k : Nat) (a0_0 : Int) (l0_1 : List (S114)) (l0_2 : List (S62)) (a1 : Int) (l2_0 : List Int) (l2_1 : List Int) (a2_2 : Int) (a2_3 : Int) (a3 : Int) (a4 : Int) : Option (Bool × Int) := if 0 ≤ a3 then (if a3 < (l2_0.length : Int) then (if 0 ≤ a1 then (if a1 < (l0_2.length : Int) then (if 0 ≤ a4 then (if a4 < (((rd_T62 l0_2 a1).f1).length : Int) then ((saronref00_Plain.f (wrap64 ((rd l2_0 a3) - (rd ((rd_T62 l0_2 a1).f1) a4)))).bind fun t154 => (if t154 > 1 then (some (false, 0)) else ((saronref00_Where.f k l2_1 a3).bind fun t155 => (if t155 ≥ 0 then ((rG.f k a0_0 l0_1 l0_2 a1 a4).bind fun t156 => (if t156 = true then (some (true, t154)) else (some (false, 0)))) else (some (true, t154)))))) else (none)) else (none)) else (none)) else (none)) else (none)) else (none)
theorem rC.mono : ∀ a0 a1 a2 a3 a4 a5 a6 a7 a8 a9 k, LeO (rC.f k a0 a1 a2 a3 a4 a5 a6 a7 a8 a9) (rC.f (k + 1) a0 a1 a2 a3 a4 a5 a6 a7 a8 a9) := by
 intro a0 a1 a2 a3 a4 a5 a6 a7 a8 a9 k
 unfold rC.f
 repeat' first
   | (with_reducible exact saronref00_Where.mono _ _ _)
   | (with_reducible exact rG.mono _ _ _ _ _ _)
   | (with_reducible exact LeO.refl _)
   | (with_reducible exact LeO.none _)
   | (with_reducible refine LeO.ite ?_ ?_)
   | (with_reducible refine LeO.bind ?_ (fun _ => ?_))
   | exact saronref00_Where.mono _ _ _
   | exact rG.mono _ _ _ _ _ _
   | exact LeO.none _
   | refine LeO.ite ?_ ?_
   | refine LeO.bind ?_ (fun _ => ?_)
set_option maxHeartbeats 8000000 in
set_option maxRecDepth 100000 in
theorem rC.calls (k : Nat) (a0_0 : Int) (A0_1 : Option Addr) (c0_1 : Nat) (l0_1 : List (S114)) (A0_2 : Option Addr) (c0_2 : Nat) (l0_2 : List (S62)) (a1 : Int) (A2_0 : Option Addr) (c2_0 : Nat) (l2_0 : List Int) (A2_1 : Option Addr) (c2_1 : Nat) (l2_1 : List Int) (a2_2 : Int) (a2_3 : Int) (a3 : Int) (a4 : Int) (r1 : Bool) (r2 : Int) (w : World) (hr0_1 : Kd.C k114 w A0_1 l0_1.length l0_1) (hc0_1 : l0_1.length ≤ c0_1) (hr0_2 : Kd.C k62 w A0_2 l0_2.length l0_2) (hc0_2 : l0_2.length ≤ c0_2) (hr2_0 : Kd.C (Kd.int .i64) w A2_0 l2_0.length l2_0) (hc2_0 : l2_0.length ≤ c2_0) (hr2_1 : Kd.C (Kd.int .i64) w A2_1 l2_1.length l2_1) (hc2_1 : l2_1.length ≤ c2_1) (h : rC.f k a0_0 l0_1 l0_2 a1 l2_0 l2_1 a2_2 a2_3 a3 a4 = some (r1, r2)) :
  Calls Tryd.prog 92 #[.agg #[.int .i64 a0_0, .slice A0_1 l0_1.length c0_1, .slice A0_2 l0_2.length c0_2], .int .i64 a1, .agg #[.slice A2_0 l2_0.length c2_0, .slice A2_1 l2_1.length c2_1, .int .i64 a2_2, .int .i64 a2_3], .int .i64 a3, .int .i64 a4] w fun e w' => e = .returned (.tuple #[.bool r1, .int .i64 r2]) ∧ Below w.heap.size w w' := by
 have hu27 := Tryd.underlying27
 have hu30 := Tryd.underlying30
 have HR0_1 := aS hr0_1
 have HC0_1 := aS hc0_1
 clear hr0_1 hc0_1
 have HR0_2 := aS hr0_2
 have HC0_2 := aS hc0_2
 clear hr0_2 hc0_2
 have HR2_0 := aS hr2_0
 have HC2_0 := aS hc2_0
 clear hr2_0 hc2_0
 have HR2_1 := aS hr2_1
 have HC2_1 := aS hc2_1
 clear hr2_1 hc2_1
 have HB := aS (Below.refl w.heap.size w)
 have H : (if 0 ≤ a3 then (if a3 < (l2_0.length : Int) then (if 0 ≤ a1 then (if a1 < (l0_2.length : Int) then (if 0 ≤ a4 then (if a4 < (((rd_T62 l0_2 a1).f1).length : Int) then ((saronref00_Plain.f (wrap64 ((rd l2_0 a3) - (rd ((rd_T62 l0_2 a1).f1) a4)))).bind fun t154 => (if t154 > 1 then (some (false, 0)) else ((saronref00_Where.f k l2_1 a3).bind fun t155 => (if t155 ≥ 0 then ((rG.f k a0_0 l0_1 l0_2 a1 a4).bind fun t156 => (if t156 = true then (some (true, t154)) else (some (false, 0)))) else (some (true, t154)))))) else (none)) else (none)) else (none)) else (none)) else (none)) else (none)) = some (r1, r2) := h
 clear h
 by_cases c6 : 0 ≤ a3
 rotate_left
 ·rw [if_neg c6] at H
  exact absurd H (by simp)
 rw [if_pos c6] at H
 have c6b0 : decide (0 ≤ a3) = true := decide_eq_true c6
 clear c6
 by_cases c7 : a3 < (l2_0.length : Int)
 rotate_left
 ·rw [if_neg c7] at H
  exact absurd H (by simp)
 rw [if_pos c7] at H
 have c7b0 : decide (a3 < (l2_0.length : Int)) = true := decide_eq_true c7
 clear c7
 by_cases c8 : 0 ≤ a1
 rotate_left
 ·rw [if_neg c8] at H
  exact absurd H (by simp)
 rw [if_pos c8] at H
 have c8b0 : decide (0 ≤ a1) = true := decide_eq_true c8
 clear c8
 by_cases c9 : a1 < (l0_2.length : Int)
 rotate_left
 ·rw [if_neg c9] at H
  exact absurd H (by simp)
 rw [if_pos c9] at H
 have c9b0 : decide (a1 < (l0_2.length : Int)) = true := decide_eq_true c9
 clear c9
 by_cases c10 : 0 ≤ a4
 rotate_left
 ·rw [if_neg c10] at H
  exact absurd H (by simp)
 rw [if_pos c10] at H
 have c10b0 : decide (0 ≤ a4) = true := decide_eq_true c10
 clear c10
 by_cases c11 : a4 < (((rd_T62 l0_2 a1).f1).length : Int)
 rotate_left
 ·rw [if_neg c11] at H
  exact absurd H (by simp)
 rw [if_pos c11] at H
 have c11b0 : decide (a4 < (((rd_T62 l0_2 a1).f1).length : Int)) = true := decide_eq_true c11
 clear c11
 replace H := Option.bind_eq_some_iff.mp H
 obtain ⟨t154, A120, H⟩ := H
 replace H : (if t154 > 1 then (some (false, 0)) else ((saronref00_Where.f k l2_1 a3).bind fun t155 => (if t155 ≥ 0 then ((rG.f k a0_0 l0_1 l0_2 a1 a4).bind fun t156 => (if t156 = true then (some (true, t154)) else (some (false, 0)))) else (some (true, t154))))) = some (r1, r2) := H
 have A12 := aS A120
 clear A120
 by_cases c13 : t154 > 1
 ·rw [if_pos c13] at H
  have c13b0 : decide (1 < t154) = true := decide_eq_true c13
  clear c13
  simp only [Option.some.injEq, Prod.mk.injEq] at H
  obtain ⟨rfl, rfl⟩ := H
  go_enter Tryd.func92, Tryd.ntmps92
  go_wp2_with (first | ((with_reducible refine gate_dst (N := 5) rfl ?_); refine box_event ?hg (N := 5) ?hd (cs := #[.int .i64 a0_0, .slice A0_1 l0_1.length c0_1, .slice A0_2 l0_2.length c0_2]) (t := 27) ?hr ?_; (case hd => rfl); (case hg => rfl); (case hr => exact TS); intro gb149 hg w14 hbox hb; have BK149 := aS (hbox); have GW149 := aS ((TG : w.heap.size ≤ gb149)); have GE149 := aS ((TG : w.heap.size ≤ gb149)); replace HB := aS (below_step TB hb); clear hb hbox hg) | ((with_reducible refine gate_dst (N := 7) rfl ?_); refine box_event ?hg (N := 7) ?hd (cs := #[.slice A2_0 l2_0.length c2_0, .slice A2_1 l2_1.length c2_1, .int .i64 a2_2, .int .i64 a2_3]) (t := 30) ?hr ?_; (case hd => rfl); (case hg => rfl); (case hr => exact TS); intro gb150 hg w15 hbox hb; have BK150 := aS (hbox); have GW150 := aS ((TG1 GE149.out : w.heap.size ≤ gb150)); have GE150 := aS ((TG1 GE149.out : w.heap.size ≤ gb150)); have NB149_150 := aS ((by rw [hg]; exact Nat.ne_of_lt (blk_lt (g := gb149) (o := .cells #[.int .i64 a0_0, .slice A0_1 l0_1.length c0_1, .slice A0_2 l0_2.length c0_2] 27 (0, 0)) (TK BK149.out)) : gb149 ≠ gb150)); have NB150_149 := aS ((by rw [hg]; exact Nat.ne_of_gt (blk_lt (g := gb149) (o := .cells #[.int .i64 a0_0, .slice A0_1 l0_1.length c0_1, .slice A0_2 l0_2.length c0_2] 27 (0, 0)) (TK BK149.out)) : gb150 ≠ gb149)); replace BK149 := aS (TKb hb BK149.out); replace HB := aS (below_step (TB1 GE149.out) hb); clear hb hbox hg; have hnb16 := NB150_149.out; have hnc16 := NB149_150.out; have hcz17_0 := cz BK150.out 0; have hcz17_1 := cz BK150.out 1; have hcz17_2 := cz BK150.out 2; have hcz17_3 := cz BK150.out 3; have hfz17_0 := fz BK150.out 0; have hfz17_1 := fz BK150.out 1; have hfz17_2 := fz BK150.out 2; have hfz17_3 := fz BK150.out 3; have p151 : 0 ≤ (a3 : Int) := of_decide_eq_true TA; have q151 : a3 < (l2_0.length : Int) := of_decide_eq_true TA; obtain ⟨ad151, e151, hx151_0⟩ := Kd.at_int HR2_0.out a3 p151 q151; cases e151; replace hx151_0 := hx HB.out hx151_0; replace p151 := eq_true p151; replace q151 := eq_true q151; have hcz18_0 := cz BK149.out 0; have hcz18_1 := cz BK149.out 1; have hcz18_2 := cz BK149.out 2; have hfz18_0 := fz BK149.out 0; have hfz18_1 := fz BK149.out 1; have hfz18_2 := fz BK149.out 2; have p152 : 0 ≤ (a1 : Int) := of_decide_eq_true TA; have q152 : a1 < (l0_2.length : Int) := of_decide_eq_true TA; obtain ⟨ad152, A152_1, c152_1, e152, hx152_0, hx152_1, hl152_1, hi152_1⟩ := at_T62 HR0_2.out a1 p152 q152; cases e152; replace hx152_0 := hx HB.out hx152_0; replace hx152_1 := hx HB.out hx152_1; have HR152_1 := aS hi152_1; have HC152_1 := aS hl152_1; clear hi152_1 hl152_1; replace p152 := eq_true p152; replace q152 := eq_true q152; have p153 : 0 ≤ (a4 : Int) := of_decide_eq_true TA; have q153 : a4 < (((rd_T62 l0_2 a1).f1).length : Int) := of_decide_eq_true TA; obtain ⟨ad153, e153, hx153_0⟩ := Kd.at_int HR152_1.out a4 p153 q153; cases e153; replace hx153_0 := hx HB.out hx153_0; replace p153 := eq_true p153; replace q153 := eq_true q153) | (go_at_call 44; (with_reducible refine (saronref00_Plain.calls (wrap64 ((rd l2_0 a3) - (rd ((rd_T62 l0_2 a1).f1) a4))) t154 _ A12.out).mono ?_); rintro e w' ⟨rfl, ⟨nd, rfl⟩⟩; (try first | exact ⟨rfl, _, World.drewN_drewN _ _ _⟩ | exact ⟨rfl, _, Eq.trans (World.drewN_drewN _ _ _) (congrArg (World.drewN _) (Nat.add_assoc _ _ _))⟩)))
  repeat (go_quiet (first | ((with_reducible refine gate_dst (N := 5) rfl ?_); refine box_event ?hg (N := 5) ?hd (cs := #[.int .i64 a0_0, .slice A0_1 l0_1.length c0_1, .slice A0_2 l0_2.length c0_2]) (t := 27) ?hr ?_; (case hd => rfl); (case hg => rfl); (case hr => exact TS); intro gb149 hg w14 hbox hb; have BK149 := aS (hbox); have GW149 := aS ((TG : w.heap.size ≤ gb149)); have GE149 := aS ((TG : w.heap.size ≤ gb149)); replace HB := aS (below_step TB hb); clear hb hbox hg) | ((with_reducible refine gate_dst (N := 7) rfl ?_); refine box_event ?hg (N := 7) ?hd (cs := #[.slice A2_0 l2_0.length c2_0, .slice A2_1 l2_1.length c2_1, .int .i64 a2_2, .int .i64 a2_3]) (t := 30) ?hr ?_; (case hd => rfl); (case hg => rfl); (case hr => exact TS); intro gb150 hg w15 hbox hb; have BK150 := aS (hbox); have GW150 := aS ((TG1 GE149.out : w.heap.size ≤ gb150)); have GE150 := aS ((TG1 GE149.out : w.heap.size ≤ gb150)); have NB149_150 := aS ((by rw [hg]; exact Nat.ne_of_lt (blk_lt (g := gb149) (o := .cells #[.int .i64 a0_0, .slice A0_1 l0_1.length c0_1, .slice A0_2 l0_2.length c0_2] 27 (0, 0)) (TK BK149.out)) : gb149 ≠ gb150)); have NB150_149 := aS ((by rw [hg]; exact Nat.ne_of_gt (blk_lt (g := gb149) (o := .cells #[.int .i64 a0_0, .slice A0_1 l0_1.length c0_1, .slice A0_2 l0_2.length c0_2] 27 (0, 0)) (TK BK149.out)) : gb150 ≠ gb149)); replace BK149 := aS (TKb hb BK149.out); replace HB := aS (below_step (TB1 GE149.out) hb); clear hb hbox hg; have hnb16 := NB150_149.out; have hnc16 := NB149_150.out; have hcz17_0 := cz BK150.out 0; have hcz17_1 := cz BK150.out 1; have hcz17_2 := cz BK150.out 2; have hcz17_3 := cz BK150.out 3; have hfz17_0 := fz BK150.out 0; have hfz17_1 := fz BK150.out 1; have hfz17_2 := fz BK150.out 2; have hfz17_3 := fz BK150.out 3; have p151 : 0 ≤ (a3 : Int) := of_decide_eq_true TA; have q151 : a3 < (l2_0.length : Int) := of_decide_eq_true TA; obtain ⟨ad151, e151, hx151_0⟩ := Kd.at_int HR2_0.out a3 p151 q151; cases e151; replace hx151_0 := hx HB.out hx151_0; replace p151 := eq_true p151; replace q151 := eq_true q151; have hcz18_0 := cz BK149.out 0; have hcz18_1 := cz BK149.out 1; have hcz18_2 := cz BK149.out 2; have hfz18_0 := fz BK149.out 0; have hfz18_1 := fz BK149.out 1; have hfz18_2 := fz BK149.out 2; have p152 : 0 ≤ (a1 : Int) := of_decide_eq_true TA; have q152 : a1 < (l0_2.length : Int) := of_decide_eq_true TA; obtain ⟨ad152, A152_1, c152_1, e152, hx152_0, hx152_1, hl152_1, hi152_1⟩ := at_T62 HR0_2.out a1 p152 q152; cases e152; replace hx152_0 := hx HB.out hx152_0; replace hx152_1 := hx HB.out hx152_1; have HR152_1 := aS hi152_1; have HC152_1 := aS hl152_1; clear hi152_1 hl152_1; replace p152 := eq_true p152; replace q152 := eq_true q152; have p153 : 0 ≤ (a4 : Int) := of_decide_eq_true TA; have q153 : a4 < (((rd_T62 l0_2 a1).f1).length : Int) := of_decide_eq_true TA; obtain ⟨ad153, e153, hx153_0⟩ := Kd.at_int HR152_1.out a4 p153 q153; cases e153; replace hx153_0 := hx HB.out hx153_0; replace p153 := eq_true p153; replace q153 := eq_true q153) | (go_at_call 44; (with_reducible refine (saronref00_Plain.calls (wrap64 ((rd l2_0 a3) - (rd ((rd_T62 l0_2 a1).f1) a4))) t154 _ A12.out).mono ?_); rintro e w' ⟨rfl, ⟨nd, rfl⟩⟩; (try first | exact ⟨rfl, _, World.drewN_drewN _ _ _⟩ | exact ⟨rfl, _, Eq.trans (World.drewN_drewN _ _ _) (congrArg (World.drewN _) (Nat.add_assoc _ _ _))⟩))); try go_wp2_with (first | ((with_reducible refine gate_dst (N := 5) rfl ?_); refine box_event ?hg (N := 5) ?hd (cs := #[.int .i64 a0_0, .slice A0_1 l0_1.length c0_1, .slice A0_2 l0_2.length c0_2]) (t := 27) ?hr ?_; (case hd => rfl); (case hg => rfl); (case hr => exact TS); intro gb149 hg w14 hbox hb; have BK149 := aS (hbox); have GW149 := aS ((TG : w.heap.size ≤ gb149)); have GE149 := aS ((TG : w.heap.size ≤ gb149)); replace HB := aS (below_step TB hb); clear hb hbox hg) | ((with_reducible refine gate_dst (N := 7) rfl ?_); refine box_event ?hg (N := 7) ?hd (cs := #[.slice A2_0 l2_0.length c2_0, .slice A2_1 l2_1.length c2_1, .int .i64 a2_2, .int .i64 a2_3]) (t := 30) ?hr ?_; (case hd => rfl); (case hg => rfl); (case hr => exact TS); intro gb150 hg w15 hbox hb; have BK150 := aS (hbox); have GW150 := aS ((TG1 GE149.out : w.heap.size ≤ gb150)); have GE150 := aS ((TG1 GE149.out : w.heap.size ≤ gb150)); have NB149_150 := aS ((by rw [hg]; exact Nat.ne_of_lt (blk_lt (g := gb149) (o := .cells #[.int .i64 a0_0, .slice A0_1 l0_1.length c0_1, .slice A0_2 l0_2.length c0_2] 27 (0, 0)) (TK BK149.out)) : gb149 ≠ gb150)); have NB150_149 := aS ((by rw [hg]; exact Nat.ne_of_gt (blk_lt (g := gb149) (o := .cells #[.int .i64 a0_0, .slice A0_1 l0_1.length c0_1, .slice A0_2 l0_2.length c0_2] 27 (0, 0)) (TK BK149.out)) : gb150 ≠ gb149)); replace BK149 := aS (TKb hb BK149.out); replace HB := aS (below_step (TB1 GE149.out) hb); clear hb hbox hg; have hnb16 := NB150_149.out; have hnc16 := NB149_150.out; have hcz17_0 := cz BK150.out 0; have hcz17_1 := cz BK150.out 1; have hcz17_2 := cz BK150.out 2; have hcz17_3 := cz BK150.out 3; have hfz17_0 := fz BK150.out 0; have hfz17_1 := fz BK150.out 1; have hfz17_2 := fz BK150.out 2; have hfz17_3 := fz BK150.out 3; have p151 : 0 ≤ (a3 : Int) := of_decide_eq_true TA; have q151 : a3 < (l2_0.length : Int) := of_decide_eq_true TA; obtain ⟨ad151, e151, hx151_0⟩ := Kd.at_int HR2_0.out a3 p151 q151; cases e151; replace hx151_0 := hx HB.out hx151_0; replace p151 := eq_true p151; replace q151 := eq_true q151; have hcz18_0 := cz BK149.out 0; have hcz18_1 := cz BK149.out 1; have hcz18_2 := cz BK149.out 2; have hfz18_0 := fz BK149.out 0; have hfz18_1 := fz BK149.out 1; have hfz18_2 := fz BK149.out 2; have p152 : 0 ≤ (a1 : Int) := of_decide_eq_true TA; have q152 : a1 < (l0_2.length : Int) := of_decide_eq_true TA; obtain ⟨ad152, A152_1, c152_1, e152, hx152_0, hx152_1, hl152_1, hi152_1⟩ := at_T62 HR0_2.out a1 p152 q152; cases e152; replace hx152_0 := hx HB.out hx152_0; replace hx152_1 := hx HB.out hx152_1; have HR152_1 := aS hi152_1; have HC152_1 := aS hl152_1; clear hi152_1 hl152_1; replace p152 := eq_true p152; replace q152 := eq_true q152; have p153 : 0 ≤ (a4 : Int) := of_decide_eq_true TA; have q153 : a4 < (((rd_T62 l0_2 a1).f1).length : Int) := of_decide_eq_true TA; obtain ⟨ad153, e153, hx153_0⟩ := Kd.at_int HR152_1.out a4 p153 q153; cases e153; replace hx153_0 := hx HB.out hx153_0; replace p153 := eq_true p153; replace q153 := eq_true q153) | (go_at_call 44; (with_reducible refine (saronref00_Plain.calls (wrap64 ((rd l2_0 a3) - (rd ((rd_T62 l0_2 a1).f1) a4))) t154 _ A12.out).mono ?_); rintro e w' ⟨rfl, ⟨nd, rfl⟩⟩; (try first | exact ⟨rfl, _, World.drewN_drewN _ _ _⟩ | exact ⟨rfl, _, Eq.trans (World.drewN_drewN _ _ _) (congrArg (World.drewN _) (Nat.add_assoc _ _ _))⟩))))
  go_ret2
  exact ⟨TR, TB2 GE149.out GE150.out⟩
 rw [if_neg c13] at H
 have c13b0 : decide (1 < t154) = false := decide_eq_false c13
 clear c13
 replace H := Option.bind_eq_some_iff.mp H
 obtain ⟨t155, A190, H⟩ := H
 replace H : (if t155 ≥ 0 then ((rG.f k a0_0 l0_1 l0_2 a1 a4).bind fun t156 => (if t156 = true then (some (true, t154)) else (some (false, 0)))) else (some (true, t154))) = some (r1, r2) := H
 have A19 := aS A190
 clear A190
 by_cases c20 : t155 ≥ 0
 rotate_left
 ·rw [if_neg c20] at H
  have c20b0 : decide (0 ≤ t155) = false := decide_eq_false c20
  clear c20
  simp only [Option.some.injEq, Prod.mk.injEq] at H
  obtain ⟨rfl, rfl⟩ := H
  go_enter Tryd.func92, Tryd.ntmps92
  go_wp2_with (first | ((with_reducible refine gate_dst (N := 5) rfl ?_); refine box_event ?hg (N := 5) ?hd (cs := #[.int .i64 a0_0, .slice A0_1 l0_1.length c0_1, .slice A0_2 l0_2.length c0_2]) (t := 27) ?hr ?_; (case hd => rfl); (case hg => rfl); (case hr => exact TS); intro gb149 hg w35 hbox hb; have BK149 := aS (hbox); have GW149 := aS ((TG : w.heap.size ≤ gb149)); have GE149 := aS ((TG : w.heap.size ≤ gb149)); replace HB := aS (below_step TB hb); clear hb hbox hg) | ((with_reducible refine gate_dst (N := 7) rfl ?_); refine box_event ?hg (N := 7) ?hd (cs := #[.slice A2_0 l2_0.length c2_0, .slice A2_1 l2_1.length c2_1, .int .i64 a2_2, .int .i64 a2_3]) (t := 30) ?hr ?_; (case hd => rfl); (case hg => rfl); (case hr => exact TS); intro gb150 hg w36 hbox hb; have BK150 := aS (hbox); have GW150 := aS ((TG1 GE149.out : w.heap.size ≤ gb150)); have GE150 := aS ((TG1 GE149.out : w.heap.size ≤ gb150)); have NB149_150 := aS ((by rw [hg]; exact Nat.ne_of_lt (blk_lt (g := gb149) (o := .cells #[.int .i64 a0_0, .slice A0_1 l0_1.length c0_1, .slice A0_2 l0_2.length c0_2] 27 (0, 0)) (TK BK149.out)) : gb149 ≠ gb150)); have NB150_149 := aS ((by rw [hg]; exact Nat.ne_of_gt (blk_lt (g := gb149) (o := .cells #[.int .i64 a0_0, .slice A0_1 l0_1.length c0_1, .slice A0_2 l0_2.length c0_2] 27 (0, 0)) (TK BK149.out)) : gb150 ≠ gb149)); replace BK149 := aS (TKb hb BK149.out); replace HB := aS (below_step (TB1 GE149.out) hb); clear hb hbox hg; have hnb37 := NB150_149.out; have hnc37 := NB149_150.out; have hcz38_0 := cz BK150.out 0; have hcz38_1 := cz BK150.out 1; have hcz38_2 := cz BK150.out 2; have hcz38_3 := cz BK150.out 3; have hfz38_0 := fz BK150.out 0; have hfz38_1 := fz BK150.out 1; have hfz38_2 := fz BK150.out 2; have hfz38_3 := fz BK150.out 3; have p151 : 0 ≤ (a3 : Int) := of_decide_eq_true TA; have q151 : a3 < (l2_0.length : Int) := of_decide_eq_true TA; obtain ⟨ad151, e151, hx151_0⟩ := Kd.at_int HR2_0.out a3 p151 q151; cases e151; replace hx151_0 := hx HB.out hx151_0; replace p151 := eq_true p151; replace q151 := eq_true q151; have hcz39_0 := cz BK149.out 0; have hcz39_1 := cz BK149.out 1; have hcz39_2 := cz BK149.out 2; have hfz39_0 := fz BK149.out 0; have hfz39_1 := fz BK149.out 1; have hfz39_2 := fz BK149.out 2; have p152 : 0 ≤ (a1 : Int) := of_decide_eq_true TA; have q152 : a1 < (l0_2.length : Int) := of_decide_eq_true TA; obtain ⟨ad152, A152_1, c152_1, e152, hx152_0, hx152_1, hl152_1, hi152_1⟩ := at_T62 HR0_2.out a1 p152 q152; cases e152; replace hx152_0 := hx HB.out hx152_0; replace hx152_1 := hx HB.out hx152_1; have HR152_1 := aS hi152_1; have HC152_1 := aS hl152_1; clear hi152_1 hl152_1; replace p152 := eq_true p152; replace q152 := eq_true q152; have p153 : 0 ≤ (a4 : Int) := of_decide_eq_true TA; have q153 : a4 < (((rd_T62 l0_2 a1).f1).length : Int) := of_decide_eq_true TA; obtain ⟨ad153, e153, hx153_0⟩ := Kd.at_int HR152_1.out a4 p153 q153; cases e153; replace hx153_0 := hx HB.out hx153_0; replace p153 := eq_true p153; replace q153 := eq_true q153) | (go_at_call 44; (with_reducible refine (saronref00_Plain.calls (wrap64 ((rd l2_0 a3) - (rd ((rd_T62 l0_2 a1).f1) a4))) t154 _ A12.out).mono ?_); rintro e w' ⟨rfl, ⟨nd, rfl⟩⟩; (try first | exact ⟨rfl, _, World.drewN_drewN _ _ _⟩ | exact ⟨rfl, _, Eq.trans (World.drewN_drewN _ _ _) (congrArg (World.drewN _) (Nat.add_assoc _ _ _))⟩)) | (go_at_call 39; (with_reducible refine (saronref00_Where.calls k _ _ l2_1 a3 t155 _ ?side1 ?side2 A19.out).mono ?_); (case side1 => exact TD HR2_1.out (TB2 GE149.out GE150.out)); (case side2 => exact HC2_1.out); rintro e w' ⟨rfl, ⟨nd, rfl⟩⟩; (try first | exact ⟨rfl, _, World.drewN_drewN _ _ _⟩ | exact ⟨rfl, _, Eq.trans (World.drewN_drewN _ _ _) (congrArg (World.drewN _) (Nat.add_assoc _ _ _))⟩)))
  repeat (go_quiet (first | ((with_reducible refine gate_dst (N := 5) rfl ?_); refine box_event ?hg (N := 5) ?hd (cs := #[.int .i64 a0_0, .slice A0_1 l0_1.length c0_1, .slice A0_2 l0_2.length c0_2]) (t := 27) ?hr ?_; (case hd => rfl); (case hg => rfl); (case hr => exact TS); intro gb149 hg w35 hbox hb; have BK149 := aS (hbox); have GW149 := aS ((TG : w.heap.size ≤ gb149)); have GE149 := aS ((TG : w.heap.size ≤ gb149)); replace HB := aS (below_step TB hb); clear hb hbox hg) | ((with_reducible refine gate_dst (N := 7) rfl ?_); refine box_event ?hg (N := 7) ?hd (cs := #[.slice A2_0 l2_0.length c2_0, .slice A2_1 l2_1.length c2_1, .int .i64 a2_2, .int .i64 a2_3]) (t := 30) ?hr ?_; (case hd => rfl); (case hg => rfl); (case hr => exact TS); intro gb150 hg w36 hbox hb; have BK150 := aS (hbox); have GW150 := aS ((TG1 GE149.out : w.heap.size ≤ gb150)); have GE150 := aS ((TG1 GE149.out : w.heap.size ≤ gb150)); have NB149_150 := aS ((by rw [hg]; exact Nat.ne_of_lt (blk_lt (g := gb149) (o := .cells #[.int .i64 a0_0, .slice A0_1 l0_1.length c0_1, .slice A0_2 l0_2.length c0_2] 27 (0, 0)) (TK BK149.out)) : gb149 ≠ gb150)); have NB150_149 := aS ((by rw [hg]; exact Nat.ne_of_gt (blk_lt (g := gb149) (o := .cells #[.int .i64 a0_0, .slice A0_1 l0_1.length c0_1, .slice A0_2 l0_2.length c0_2] 27 (0, 0)) (TK BK149.out)) : gb150 ≠ gb149)); replace BK149 := aS (TKb hb BK149.out); replace HB := aS (below_step (TB1 GE149.out) hb); clear hb hbox hg; have hnb37 := NB150_149.out; have hnc37 := NB149_150.out; have hcz38_0 := cz BK150.out 0; have hcz38_1 := cz BK150.out 1; have hcz38_2 := cz BK150.out 2; have hcz38_3 := cz BK150.out 3; have hfz38_0 := fz BK150.out 0; have hfz38_1 := fz BK150.out 1; have hfz38_2 := fz BK150.out 2; have hfz38_3 := fz BK150.out 3; have p151 : 0 ≤ (a3 : Int) := of_decide_eq_true TA; have q151 : a3 < (l2_0.length : Int) := of_decide_eq_true TA; obtain ⟨ad151, e151, hx151_0⟩ := Kd.at_int HR2_0.out a3 p151 q151; cases e151; replace hx151_0 := hx HB.out hx151_0; replace p151 := eq_true p151; replace q151 := eq_true q151; have hcz39_0 := cz BK149.out 0; have hcz39_1 := cz BK149.out 1; have hcz39_2 := cz BK149.out 2; have hfz39_0 := fz BK149.out 0; have hfz39_1 := fz BK149.out 1; have hfz39_2 := fz BK149.out 2; have p152 : 0 ≤ (a1 : Int) := of_decide_eq_true TA; have q152 : a1 < (l0_2.length : Int) := of_decide_eq_true TA; obtain ⟨ad152, A152_1, c152_1, e152, hx152_0, hx152_1, hl152_1, hi152_1⟩ := at_T62 HR0_2.out a1 p152 q152; cases e152; replace hx152_0 := hx HB.out hx152_0; replace hx152_1 := hx HB.out hx152_1; have HR152_1 := aS hi152_1; have HC152_1 := aS hl152_1; clear hi152_1 hl152_1; replace p152 := eq_true p152; replace q152 := eq_true q152; have p153 : 0 ≤ (a4 : Int) := of_decide_eq_true TA; have q153 : a4 < (((rd_T62 l0_2 a1).f1).length : Int) := of_decide_eq_true TA; obtain ⟨ad153, e153, hx153_0⟩ := Kd.at_int HR152_1.out a4 p153 q153; cases e153; replace hx153_0 := hx HB.out hx153_0; replace p153 := eq_true p153; replace q153 := eq_true q153) | (go_at_call 44; (with_reducible refine (saronref00_Plain.calls (wrap64 ((rd l2_0 a3) - (rd ((rd_T62 l0_2 a1).f1) a4))) t154 _ A12.out).mono ?_); rintro e w' ⟨rfl, ⟨nd, rfl⟩⟩; (try first | exact ⟨rfl, _, World.drewN_drewN _ _ _⟩ | exact ⟨rfl, _, Eq.trans (World.drewN_drewN _ _ _) (congrArg (World.drewN _) (Nat.add_assoc _ _ _))⟩)) | (go_at_call 39; (with_reducible refine (saronref00_Where.calls k _ _ l2_1 a3 t155 _ ?side1 ?side2 A19.out).mono ?_); (case side1 => exact TD HR2_1.out (TB2 GE149.out GE150.out)); (case side2 => exact HC2_1.out); rintro e w' ⟨rfl, ⟨nd, rfl⟩⟩; (try first | exact ⟨rfl, _, World.drewN_drewN _ _ _⟩ | exact ⟨rfl, _, Eq.trans (World.drewN_drewN _ _ _) (congrArg (World.drewN _) (Nat.add_assoc _ _ _))⟩))); try go_wp2_with (first | ((with_reducible refine gate_dst (N := 5) rfl ?_); refine box_event ?hg (N := 5) ?hd (cs := #[.int .i64 a0_0, .slice A0_1 l0_1.length c0_1, .slice A0_2 l0_2.length c0_2]) (t := 27) ?hr ?_; (case hd => rfl); (case hg => rfl); (case hr => exact TS); intro gb149 hg w35 hbox hb; have BK149 := aS (hbox); have GW149 := aS ((TG : w.heap.size ≤ gb149)); have GE149 := aS ((TG : w.heap.size ≤ gb149)); replace HB := aS (below_step TB hb); clear hb hbox hg) | ((with_reducible refine gate_dst (N := 7) rfl ?_); refine box_event ?hg (N := 7) ?hd (cs := #[.slice A2_0 l2_0.length c2_0, .slice A2_1 l2_1.length c2_1, .int .i64 a2_2, .int .i64 a2_3]) (t := 30) ?hr ?_; (case hd => rfl); (case hg => rfl); (case hr => exact TS); intro gb150 hg w36 hbox hb; have BK150 := aS (hbox); have GW150 := aS ((TG1 GE149.out : w.heap.size ≤ gb150)); have GE150 := aS ((TG1 GE149.out : w.heap.size ≤ gb150)); have NB149_150 := aS ((by rw [hg]; exact Nat.ne_of_lt (blk_lt (g := gb149) (o := .cells #[.int .i64 a0_0, .slice A0_1 l0_1.length c0_1, .slice A0_2 l0_2.length c0_2] 27 (0, 0)) (TK BK149.out)) : gb149 ≠ gb150)); have NB150_149 := aS ((by rw [hg]; exact Nat.ne_of_gt (blk_lt (g := gb149) (o := .cells #[.int .i64 a0_0, .slice A0_1 l0_1.length c0_1, .slice A0_2 l0_2.length c0_2] 27 (0, 0)) (TK BK149.out)) : gb150 ≠ gb149)); replace BK149 := aS (TKb hb BK149.out); replace HB := aS (below_step (TB1 GE149.out) hb); clear hb hbox hg; have hnb37 := NB150_149.out; have hnc37 := NB149_150.out; have hcz38_0 := cz BK150.out 0; have hcz38_1 := cz BK150.out 1; have hcz38_2 := cz BK150.out 2; have hcz38_3 := cz BK150.out 3; have hfz38_0 := fz BK150.out 0; have hfz38_1 := fz BK150.out 1; have hfz38_2 := fz BK150.out 2; have hfz38_3 := fz BK150.out 3; have p151 : 0 ≤ (a3 : Int) := of_decide_eq_true TA; have q151 : a3 < (l2_0.length : Int) := of_decide_eq_true TA; obtain ⟨ad151, e151, hx151_0⟩ := Kd.at_int HR2_0.out a3 p151 q151; cases e151; replace hx151_0 := hx HB.out hx151_0; replace p151 := eq_true p151; replace q151 := eq_true q151; have hcz39_0 := cz BK149.out 0; have hcz39_1 := cz BK149.out 1; have hcz39_2 := cz BK149.out 2; have hfz39_0 := fz BK149.out 0; have hfz39_1 := fz BK149.out 1; have hfz39_2 := fz BK149.out 2; have p152 : 0 ≤ (a1 : Int) := of_decide_eq_true TA; have q152 : a1 < (l0_2.length : Int) := of_decide_eq_true TA; obtain ⟨ad152, A152_1, c152_1, e152, hx152_0, hx152_1, hl152_1, hi152_1⟩ := at_T62 HR0_2.out a1 p152 q152; cases e152; replace hx152_0 := hx HB.out hx152_0; replace hx152_1 := hx HB.out hx152_1; have HR152_1 := aS hi152_1; have HC152_1 := aS hl152_1; clear hi152_1 hl152_1; replace p152 := eq_true p152; replace q152 := eq_true q152; have p153 : 0 ≤ (a4 : Int) := of_decide_eq_true TA; have q153 : a4 < (((rd_T62 l0_2 a1).f1).length : Int) := of_decide_eq_true TA; obtain ⟨ad153, e153, hx153_0⟩ := Kd.at_int HR152_1.out a4 p153 q153; cases e153; replace hx153_0 := hx HB.out hx153_0; replace p153 := eq_true p153; replace q153 := eq_true q153) | (go_at_call 44; (with_reducible refine (saronref00_Plain.calls (wrap64 ((rd l2_0 a3) - (rd ((rd_T62 l0_2 a1).f1) a4))) t154 _ A12.out).mono ?_); rintro e w' ⟨rfl, ⟨nd, rfl⟩⟩; (try first | exact ⟨rfl, _, World.drewN_drewN _ _ _⟩ | exact ⟨rfl, _, Eq.trans (World.drewN_drewN _ _ _) (congrArg (World.drewN _) (Nat.add_assoc _ _ _))⟩)) | (go_at_call 39; (with_reducible refine (saronref00_Where.calls k _ _ l2_1 a3 t155 _ ?side1 ?side2 A19.out).mono ?_); (case side1 => exact TD HR2_1.out (TB2 GE149.out GE150.out)); (case side2 => exact HC2_1.out); rintro e w' ⟨rfl, ⟨nd, rfl⟩⟩; (try first | exact ⟨rfl, _, World.drewN_drewN _ _ _⟩ | exact ⟨rfl, _, Eq.trans (World.drewN_drewN _ _ _) (congrArg (World.drewN _) (Nat.add_assoc _ _ _))⟩))))
  go_ret2
  exact ⟨TR, TB2 GE149.out GE150.out⟩
 rw [if_pos c20] at H
 have c20b0 : decide (0 ≤ t155) = true := decide_eq_true c20
 clear c20
 replace H := Option.bind_eq_some_iff.mp H
 obtain ⟨t156, A210, H⟩ := H
 replace H : (if t156 = true then (some (true, t154)) else (some (false, 0))) = some (r1, r2) := H
 have A21 := aS A210
 clear A210
 by_cases c22 : t156 = true
 ·subst c22
  have H1 : (some (true, t154)) = some (r1, r2) := by rw [if_pos rfl] at H; exact H
  clear H
  have H := H1
  clear H1
  simp only [Option.some.injEq, Prod.mk.injEq] at H
  obtain ⟨rfl, rfl⟩ := H
  go_enter Tryd.func92, Tryd.ntmps92
  go_wp2_with (first | ((with_reducible refine gate_dst (N := 5) rfl ?_); refine box_event ?hg (N := 5) ?hd (cs := #[.int .i64 a0_0, .slice A0_1 l0_1.length c0_1, .slice A0_2 l0_2.length c0_2]) (t := 27) ?hr ?_; (case hd => rfl); (case hg => rfl); (case hr => exact TS); intro gb149 hg w23 hbox hb; have BK149 := aS (hbox); have GW149 := aS ((TG : w.heap.size ≤ gb149)); have GE149 := aS ((TG : w.heap.size ≤ gb149)); replace HB := aS (below_step TB hb); clear hb hbox hg) | ((with_reducible refine gate_dst (N := 7) rfl ?_); refine box_event ?hg (N := 7) ?hd (cs := #[.slice A2_0 l2_0.length c2_0, .slice A2_1 l2_1.length c2_1, .int .i64 a2_2, .int .i64 a2_3]) (t := 30) ?hr ?_; (case hd => rfl); (case hg => rfl); (case hr => exact TS); intro gb150 hg w24 hbox hb; have BK150 := aS (hbox); have GW150 := aS ((TG1 GE149.out : w.heap.size ≤ gb150)); have GE150 := aS ((TG1 GE149.out : w.heap.size ≤ gb150)); have NB149_150 := aS ((by rw [hg]; exact Nat.ne_of_lt (blk_lt (g := gb149) (o := .cells #[.int .i64 a0_0, .slice A0_1 l0_1.length c0_1, .slice A0_2 l0_2.length c0_2] 27 (0, 0)) (TK BK149.out)) : gb149 ≠ gb150)); have NB150_149 := aS ((by rw [hg]; exact Nat.ne_of_gt (blk_lt (g := gb149) (o := .cells #[.int .i64 a0_0, .slice A0_1 l0_1.length c0_1, .slice A0_2 l0_2.length c0_2] 27 (0, 0)) (TK BK149.out)) : gb150 ≠ gb149)); replace BK149 := aS (TKb hb BK149.out); replace HB := aS (below_step (TB1 GE149.out) hb); clear hb hbox hg; have hnb25 := NB150_149.out; have hnc25 := NB149_150.out; have hcz26_0 := cz BK150.out 0; have hcz26_1 := cz BK150.out 1; have hcz26_2 := cz BK150.out 2; have hcz26_3 := cz BK150.out 3; have hfz26_0 := fz BK150.out 0; have hfz26_1 := fz BK150.out 1; have hfz26_2 := fz BK150.out 2; have hfz26_3 := fz BK150.out 3; have p151 : 0 ≤ (a3 : Int) := of_decide_eq_true TA; have q151 : a3 < (l2_0.length : Int) := of_decide_eq_true TA; obtain ⟨ad151, e151, hx151_0⟩ := Kd.at_int HR2_0.out a3 p151 q151; cases e151; replace hx151_0 := hx HB.out hx151_0; replace p151 := eq_true p151; replace q151 := eq_true q151; have hcz27_0 := cz BK149.out 0; have hcz27_1 := cz BK149.out 1; have hcz27_2 := cz BK149.out 2; have hfz27_0 := fz BK149.out 0; have hfz27_1 := fz BK149.out 1; have hfz27_2 := fz BK149.out 2; have p152 : 0 ≤ (a1 : Int) := of_decide_eq_true TA; have q152 : a1 < (l0_2.length : Int) := of_decide_eq_true TA; obtain ⟨ad152, A152_1, c152_1, e152, hx152_0, hx152_1, hl152_1, hi152_1⟩ := at_T62 HR0_2.out a1 p152 q152; cases e152; replace hx152_0 := hx HB.out hx152_0; replace hx152_1 := hx HB.out hx152_1; have HR152_1 := aS hi152_1; have HC152_1 := aS hl152_1; clear hi152_1 hl152_1; replace p152 := eq_true p152; replace q152 := eq_true q152; have p153 : 0 ≤ (a4 : Int) := of_decide_eq_true TA; have q153 : a4 < (((rd_T62 l0_2 a1).f1).length : Int) := of_decide_eq_true TA; obtain ⟨ad153, e153, hx153_0⟩ := Kd.at_int HR152_1.out a4 p153 q153; cases e153; replace hx153_0 := hx HB.out hx153_0; replace p153 := eq_true p153; replace q153 := eq_true q153) | (go_at_call 44; (with_reducible refine (saronref00_Plain.calls (wrap64 ((rd l2_0 a3) - (rd ((rd_T62 l0_2 a1).f1) a4))) t154 _ A12.out).mono ?_); rintro e w' ⟨rfl, ⟨nd, rfl⟩⟩; (try first | exact ⟨rfl, _, World.drewN_drewN _ _ _⟩ | exact ⟨rfl, _, Eq.trans (World.drewN_drewN _ _ _) (congrArg (World.drewN _) (Nat.add_assoc _ _ _))⟩)) | (go_at_call 39; (with_reducible refine (saronref00_Where.calls k _ _ l2_1 a3 t155 _ ?side1 ?side2 A19.out).mono ?_); (case side1 => exact TD HR2_1.out (TB2 GE149.out GE150.out)); (case side2 => exact HC2_1.out); rintro e w' ⟨rfl, ⟨nd, rfl⟩⟩; (try first | exact ⟨rfl, _, World.drewN_drewN _ _ _⟩ | exact ⟨rfl, _, Eq.trans (World.drewN_drewN _ _ _) (congrArg (World.drewN _) (Nat.add_assoc _ _ _))⟩)) | (go_at_call 101; (with_reducible refine (rG.calls k a0_0 _ _ l0_1 _ _ l0_2 a1 a4 true _ ?side1 ?side2 ?side3 ?side4 A21.out).mono ?_); (case side1 => exact TD HR0_1.out (TB2 GE149.out GE150.out)); (case side2 => exact HC0_1.out); (case side3 => exact TD HR0_2.out (TB2 GE149.out GE150.out)); (case side4 => exact HC0_2.out); rintro e w28 ⟨rfl, hb⟩; replace BK149 := aS (TKb hb BK149.out); replace BK150 := aS (TKb hb BK150.out); replace HB := aS (below_step (TB2 GE149.out GE150.out) hb); (try clear hb); (try clear hb2); (try clear hk); (try clear hi)))
  repeat (go_quiet (first | ((with_reducible refine gate_dst (N := 5) rfl ?_); refine box_event ?hg (N := 5) ?hd (cs := #[.int .i64 a0_0, .slice A0_1 l0_1.length c0_1, .slice A0_2 l0_2.length c0_2]) (t := 27) ?hr ?_; (case hd => rfl); (case hg => rfl); (case hr => exact TS); intro gb149 hg w23 hbox hb; have BK149 := aS (hbox); have GW149 := aS ((TG : w.heap.size ≤ gb149)); have GE149 := aS ((TG : w.heap.size ≤ gb149)); replace HB := aS (below_step TB hb); clear hb hbox hg) | ((with_reducible refine gate_dst (N := 7) rfl ?_); refine box_event ?hg (N := 7) ?hd (cs := #[.slice A2_0 l2_0.length c2_0, .slice A2_1 l2_1.length c2_1, .int .i64 a2_2, .int .i64 a2_3]) (t := 30) ?hr ?_; (case hd => rfl); (case hg => rfl); (case hr => exact TS); intro gb150 hg w24 hbox hb; have BK150 := aS (hbox); have GW150 := aS ((TG1 GE149.out : w.heap.size ≤ gb150)); have GE150 := aS ((TG1 GE149.out : w.heap.size ≤ gb150)); have NB149_150 := aS ((by rw [hg]; exact Nat.ne_of_lt (blk_lt (g := gb149) (o := .cells #[.int .i64 a0_0, .slice A0_1 l0_1.length c0_1, .slice A0_2 l0_2.length c0_2] 27 (0, 0)) (TK BK149.out)) : gb149 ≠ gb150)); have NB150_149 := aS ((by rw [hg]; exact Nat.ne_of_gt (blk_lt (g := gb149) (o := .cells #[.int .i64 a0_0, .slice A0_1 l0_1.length c0_1, .slice A0_2 l0_2.length c0_2] 27 (0, 0)) (TK BK149.out)) : gb150 ≠ gb149)); replace BK149 := aS (TKb hb BK149.out); replace HB := aS (below_step (TB1 GE149.out) hb); clear hb hbox hg; have hnb25 := NB150_149.out; have hnc25 := NB149_150.out; have hcz26_0 := cz BK150.out 0; have hcz26_1 := cz BK150.out 1; have hcz26_2 := cz BK150.out 2; have hcz26_3 := cz BK150.out 3; have hfz26_0 := fz BK150.out 0; have hfz26_1 := fz BK150.out 1; have hfz26_2 := fz BK150.out 2; have hfz26_3 := fz BK150.out 3; have p151 : 0 ≤ (a3 : Int) := of_decide_eq_true TA; have q151 : a3 < (l2_0.length : Int) := of_decide_eq_true TA; obtain ⟨ad151, e151, hx151_0⟩ := Kd.at_int HR2_0.out a3 p151 q151; cases e151; replace hx151_0 := hx HB.out hx151_0; replace p151 := eq_true p151; replace q151 := eq_true q151; have hcz27_0 := cz BK149.out 0; have hcz27_1 := cz BK149.out 1; have hcz27_2 := cz BK149.out 2; have hfz27_0 := fz BK149.out 0; have hfz27_1 := fz BK149.out 1; have hfz27_2 := fz BK149.out 2; have p152 : 0 ≤ (a1 : Int) := of_decide_eq_true TA; have q152 : a1 < (l0_2.length : Int) := of_decide_eq_true TA; obtain ⟨ad152, A152_1, c152_1, e152, hx152_0, hx152_1, hl152_1, hi152_1⟩ := at_T62 HR0_2.out a1 p152 q152; cases e152; replace hx152_0 := hx HB.out hx152_0; replace hx152_1 := hx HB.out hx152_1; have HR152_1 := aS hi152_1; have HC152_1 := aS hl152_1; clear hi152_1 hl152_1; replace p152 := eq_true p152; replace q152 := eq_true q152; have p153 : 0 ≤ (a4 : Int) := of_decide_eq_true TA; have q153 : a4 < (((rd_T62 l0_2 a1).f1).length : Int) := of_decide_eq_true TA; obtain ⟨ad153, e153, hx153_0⟩ := Kd.at_int HR152_1.out a4 p153 q153; cases e153; replace hx153_0 := hx HB.out hx153_0; replace p153 := eq_true p153; replace q153 := eq_true q153) | (go_at_call 44; (with_reducible refine (saronref00_Plain.calls (wrap64 ((rd l2_0 a3) - (rd ((rd_T62 l0_2 a1).f1) a4))) t154 _ A12.out).mono ?_); rintro e w' ⟨rfl, ⟨nd, rfl⟩⟩; (try first | exact ⟨rfl, _, World.drewN_drewN _ _ _⟩ | exact ⟨rfl, _, Eq.trans (World.drewN_drewN _ _ _) (congrArg (World.drewN _) (Nat.add_assoc _ _ _))⟩)) | (go_at_call 39; (with_reducible refine (saronref00_Where.calls k _ _ l2_1 a3 t155 _ ?side1 ?side2 A19.out).mono ?_); (case side1 => exact TD HR2_1.out (TB2 GE149.out GE150.out)); (case side2 => exact HC2_1.out); rintro e w' ⟨rfl, ⟨nd, rfl⟩⟩; (try first | exact ⟨rfl, _, World.drewN_drewN _ _ _⟩ | exact ⟨rfl, _, Eq.trans (World.drewN_drewN _ _ _) (congrArg (World.drewN _) (Nat.add_assoc _ _ _))⟩)) | (go_at_call 101; (with_reducible refine (rG.calls k a0_0 _ _ l0_1 _ _ l0_2 a1 a4 true _ ?side1 ?side2 ?side3 ?side4 A21.out).mono ?_); (case side1 => exact TD HR0_1.out (TB2 GE149.out GE150.out)); (case side2 => exact HC0_1.out); (case side3 => exact TD HR0_2.out (TB2 GE149.out GE150.out)); (case side4 => exact HC0_2.out); rintro e w28 ⟨rfl, hb⟩; replace BK149 := aS (TKb hb BK149.out); replace BK150 := aS (TKb hb BK150.out); replace HB := aS (below_step (TB2 GE149.out GE150.out) hb); (try clear hb); (try clear hb2); (try clear hk); (try clear hi))); try go_wp2_with (first | ((with_reducible refine gate_dst (N := 5) rfl ?_); refine box_event ?hg (N := 5) ?hd (cs := #[.int .i64 a0_0, .slice A0_1 l0_1.length c0_1, .slice A0_2 l0_2.length c0_2]) (t := 27) ?hr ?_; (case hd => rfl); (case hg => rfl); (case hr => exact TS); intro gb149 hg w23 hbox hb; have BK149 := aS (hbox); have GW149 := aS ((TG : w.heap.size ≤ gb149)); have GE149 := aS ((TG : w.heap.size ≤ gb149)); replace HB := aS (below_step TB hb); clear hb hbox hg) | ((with_reducible refine gate_dst (N := 7) rfl ?_); refine box_event ?hg (N := 7) ?hd (cs := #[.slice A2_0 l2_0.length c2_0, .slice A2_1 l2_1.length c2_1, .int .i64 a2_2, .int .i64 a2_3]) (t := 30) ?hr ?_; (case hd => rfl); (case hg => rfl); (case hr => exact TS); intro gb150 hg w24 hbox hb; have BK150 := aS (hbox); have GW150 := aS ((TG1 GE149.out : w.heap.size ≤ gb150)); have GE150 := aS ((TG1 GE149.out : w.heap.size ≤ gb150)); have NB149_150 := aS ((by rw [hg]; exact Nat.ne_of_lt (blk_lt (g := gb149) (o := .cells #[.int .i64 a0_0, .slice A0_1 l0_1.length c0_1, .slice A0_2 l0_2.length c0_2] 27 (0, 0)) (TK BK149.out)) : gb149 ≠ gb150)); have NB150_149 := aS ((by rw [hg]; exact Nat.ne_of_gt (blk_lt (g := gb149) (o := .cells #[.int .i64 a0_0, .slice A0_1 l0_1.length c0_1, .slice A0_2 l0_2.length c0_2] 27 (0, 0)) (TK BK149.out)) : gb150 ≠ gb149)); replace BK149 := aS (TKb hb BK149.out); replace HB := aS (below_step (TB1 GE149.out) hb); clear hb hbox hg; have hnb25 := NB150_149.out; have hnc25 := NB149_150.out; have hcz26_0 := cz BK150.out 0; have hcz26_1 := cz BK150.out 1; have hcz26_2 := cz BK150.out 2; have hcz26_3 := cz BK150.out 3; have hfz26_0 := fz BK150.out 0; have hfz26_1 := fz BK150.out 1; have hfz26_2 := fz BK150.out 2; have hfz26_3 := fz BK150.out 3; have p151 : 0 ≤ (a3 : Int) := of_decide_eq_true TA; have q151 : a3 < (l2_0.length : Int) := of_decide_eq_true TA; obtain ⟨ad151, e151, hx151_0⟩ := Kd.at_int HR2_0.out a3 p151 q151; cases e151; replace hx151_0 := hx HB.out hx151_0; replace p151 := eq_true p151; replace q151 := eq_true q151; have hcz27_0 := cz BK149.out 0; have hcz27_1 := cz BK149.out 1; have hcz27_2 := cz BK149.out 2; have hfz27_0 := fz BK149.out 0; have hfz27_1 := fz BK149.out 1; have hfz27_2 := fz BK149.out 2; have p152 : 0 ≤ (a1 : Int) := of_decide_eq_true TA; have q152 : a1 < (l0_2.length : Int) := of_decide_eq_true TA; obtain ⟨ad152, A152_1, c152_1, e152, hx152_0, hx152_1, hl152_1, hi152_1⟩ := at_T62 HR0_2.out a1 p152 q152; cases e152; replace hx152_0 := hx HB.out hx152_0; replace hx152_1 := hx HB.out hx152_1; have HR152_1 := aS hi152_1; have HC152_1 := aS hl152_1; clear hi152_1 hl152_1; replace p152 := eq_true p152; replace q152 := eq_true q152; have p153 : 0 ≤ (a4 : Int) := of_decide_eq_true TA; have q153 : a4 < (((rd_T62 l0_2 a1).f1).length : Int) := of_decide_eq_true TA; obtain ⟨ad153, e153, hx153_0⟩ := Kd.at_int HR152_1.out a4 p153 q153; cases e153; replace hx153_0 := hx HB.out hx153_0; replace p153 := eq_true p153; replace q153 := eq_true q153) | (go_at_call 44; (with_reducible refine (saronref00_Plain.calls (wrap64 ((rd l2_0 a3) - (rd ((rd_T62 l0_2 a1).f1) a4))) t154 _ A12.out).mono ?_); rintro e w' ⟨rfl, ⟨nd, rfl⟩⟩; (try first | exact ⟨rfl, _, World.drewN_drewN _ _ _⟩ | exact ⟨rfl, _, Eq.trans (World.drewN_drewN _ _ _) (congrArg (World.drewN _) (Nat.add_assoc _ _ _))⟩)) | (go_at_call 39; (with_reducible refine (saronref00_Where.calls k _ _ l2_1 a3 t155 _ ?side1 ?side2 A19.out).mono ?_); (case side1 => exact TD HR2_1.out (TB2 GE149.out GE150.out)); (case side2 => exact HC2_1.out); rintro e w' ⟨rfl, ⟨nd, rfl⟩⟩; (try first | exact ⟨rfl, _, World.drewN_drewN _ _ _⟩ | exact ⟨rfl, _, Eq.trans (World.drewN_drewN _ _ _) (congrArg (World.drewN _) (Nat.add_assoc _ _ _))⟩)) | (go_at_call 101; (with_reducible refine (rG.calls k a0_0 _ _ l0_1 _ _ l0_2 a1 a4 true _ ?side1 ?side2 ?side3 ?side4 A21.out).mono ?_); (case side1 => exact TD HR0_1.out (TB2 GE149.out GE150.out)); (case side2 => exact HC0_1.out); (case side3 => exact TD HR0_2.out (TB2 GE149.out GE150.out)); (case side4 => exact HC0_2.out); rintro e w28 ⟨rfl, hb⟩; replace BK149 := aS (TKb hb BK149.out); replace BK150 := aS (TKb hb BK150.out); replace HB := aS (below_step (TB2 GE149.out GE150.out) hb); (try clear hb); (try clear hb2); (try clear hk); (try clear hi))))
  go_ret2
  exact ⟨TR, TB2 GE149.out GE150.out⟩
 replace c22 := Bool.eq_false_iff.mpr c22
 subst c22
 have H1 : (some (false, 0)) = some (r1, r2) := by rw [if_neg (show ¬ (false = true) by decide)] at H; exact H
 clear H
 have H := H1
 clear H1
 simp only [Option.some.injEq, Prod.mk.injEq] at H
 obtain ⟨rfl, rfl⟩ := H
 go_enter Tryd.func92, Tryd.ntmps92
 go_wp2_with (first | ((with_reducible refine gate_dst (N := 5) rfl ?_); refine box_event ?hg (N := 5) ?hd (cs := #[.int .i64 a0_0, .slice A0_1 l0_1.length c0_1, .slice A0_2 l0_2.length c0_2]) (t := 27) ?hr ?_; (case hd => rfl); (case hg => rfl); (case hr => exact TS); intro gb149 hg w29 hbox hb; have BK149 := aS (hbox); have GW149 := aS ((TG : w.heap.size ≤ gb149)); have GE149 := aS ((TG : w.heap.size ≤ gb149)); replace HB := aS (below_step TB hb); clear hb hbox hg) | ((with_reducible refine gate_dst (N := 7) rfl ?_); refine box_event ?hg (N := 7) ?hd (cs := #[.slice A2_0 l2_0.length c2_0, .slice A2_1 l2_1.length c2_1, .int .i64 a2_2, .int .i64 a2_3]) (t := 30) ?hr ?_; (case hd => rfl); (case hg => rfl); (case hr => exact TS); intro gb150 hg w30 hbox hb; have BK150 := aS (hbox); have GW150 := aS ((TG1 GE149.out : w.heap.size ≤ gb150)); have GE150 := aS ((TG1 GE149.out : w.heap.size ≤ gb150)); have NB149_150 := aS ((by rw [hg]; exact Nat.ne_of_lt (blk_lt (g := gb149) (o := .cells #[.int .i64 a0_0, .slice A0_1 l0_1.length c0_1, .slice A0_2 l0_2.length c0_2] 27 (0, 0)) (TK BK149.out)) : gb149 ≠ gb150)); have NB150_149 := aS ((by rw [hg]; exact Nat.ne_of_gt (blk_lt (g := gb149) (o := .cells #[.int .i64 a0_0, .slice A0_1 l0_1.length c0_1, .slice A0_2 l0_2.length c0_2] 27 (0, 0)) (TK BK149.out)) : gb150 ≠ gb149)); replace BK149 := aS (TKb hb BK149.out); replace HB := aS (below_step (TB1 GE149.out) hb); clear hb hbox hg; have hnb31 := NB150_149.out; have hnc31 := NB149_150.out; have hcz32_0 := cz BK150.out 0; have hcz32_1 := cz BK150.out 1; have hcz32_2 := cz BK150.out 2; have hcz32_3 := cz BK150.out 3; have hfz32_0 := fz BK150.out 0; have hfz32_1 := fz BK150.out 1; have hfz32_2 := fz BK150.out 2; have hfz32_3 := fz BK150.out 3; have p151 : 0 ≤ (a3 : Int) := of_decide_eq_true TA; have q151 : a3 < (l2_0.length : Int) := of_decide_eq_true TA; obtain ⟨ad151, e151, hx151_0⟩ := Kd.at_int HR2_0.out a3 p151 q151; cases e151; replace hx151_0 := hx HB.out hx151_0; replace p151 := eq_true p151; replace q151 := eq_true q151; have hcz33_0 := cz BK149.out 0; have hcz33_1 := cz BK149.out 1; have hcz33_2 := cz BK149.out 2; have hfz33_0 := fz BK149.out 0; have hfz33_1 := fz BK149.out 1; have hfz33_2 := fz BK149.out 2; have p152 : 0 ≤ (a1 : Int) := of_decide_eq_true TA; have q152 : a1 < (l0_2.length : Int) := of_decide_eq_true TA; obtain ⟨ad152, A152_1, c152_1, e152, hx152_0, hx152_1, hl152_1, hi152_1⟩ := at_T62 HR0_2.out a1 p152 q152; cases e152; replace hx152_0 := hx HB.out hx152_0; replace hx152_1 := hx HB.out hx152_1; have HR152_1 := aS hi152_1; have HC152_1 := aS hl152_1; clear hi152_1 hl152_1; replace p152 := eq_true p152; replace q152 := eq_true q152; have p153 : 0 ≤ (a4 : Int) := of_decide_eq_true TA; have q153 : a4 < (((rd_T62 l0_2 a1).f1).length : Int) := of_decide_eq_true TA; obtain ⟨ad153, e153, hx153_0⟩ := Kd.at_int HR152_1.out a4 p153 q153; cases e153; replace hx153_0 := hx HB.out hx153_0; replace p153 := eq_true p153; replace q153 := eq_true q153) | (go_at_call 44; (with_reducible refine (saronref00_Plain.calls (wrap64 ((rd l2_0 a3) - (rd ((rd_T62 l0_2 a1).f1) a4))) t154 _ A12.out).mono ?_); rintro e w' ⟨rfl, ⟨nd, rfl⟩⟩; (try first | exact ⟨rfl, _, World.drewN_drewN _ _ _⟩ | exact ⟨rfl, _, Eq.trans (World.drewN_drewN _ _ _) (congrArg (World.drewN _) (Nat.add_assoc _ _ _))⟩)) | (go_at_call 39; (with_reducible refine (saronref00_Where.calls k _ _ l2_1 a3 t155 _ ?side1 ?side2 A19.out).mono ?_); (case side1 => exact TD HR2_1.out (TB2 GE149.out GE150.out)); (case side2 => exact HC2_1.out); rintro e w' ⟨rfl, ⟨nd, rfl⟩⟩; (try first | exact ⟨rfl, _, World.drewN_drewN _ _ _⟩ | exact ⟨rfl, _, Eq.trans (World.drewN_drewN _ _ _) (congrArg (World.drewN _) (Nat.add_assoc _ _ _))⟩)) | (go_at_call 101; (with_reducible refine (rG.calls k a0_0 _ _ l0_1 _ _ l0_2 a1 a4 false _ ?side1 ?side2 ?side3 ?side4 A21.out).mono ?_); (case side1 => exact TD HR0_1.out (TB2 GE149.out GE150.out)); (case side2 => exact HC0_1.out); (case side3 => exact TD HR0_2.out (TB2 GE149.out GE150.out)); (case side4 => exact HC0_2.out); rintro e w34 ⟨rfl, hb⟩; replace BK149 := aS (TKb hb BK149.out); replace BK150 := aS (TKb hb BK150.out); replace HB := aS (below_step (TB2 GE149.out GE150.out) hb); (try clear hb); (try clear hb2); (try clear hk); (try clear hi)))
 repeat (go_quiet (first | ((with_reducible refine gate_dst (N := 5) rfl ?_); refine box_event ?hg (N := 5) ?hd (cs := #[.int .i64 a0_0, .slice A0_1 l0_1.length c0_1, .slice A0_2 l0_2.length c0_2]) (t := 27) ?hr ?_; (case hd => rfl); (case hg => rfl); (case hr => exact TS); intro gb149 hg w29 hbox hb; have BK149 := aS (hbox); have GW149 := aS ((TG : w.heap.size ≤ gb149)); have GE149 := aS ((TG : w.heap.size ≤ gb149)); replace HB := aS (below_step TB hb); clear hb hbox hg) | ((with_reducible refine gate_dst (N := 7) rfl ?_); refine box_event ?hg (N := 7) ?hd (cs := #[.slice A2_0 l2_0.length c2_0, .slice A2_1 l2_1.length c2_1, .int .i64 a2_2, .int .i64 a2_3]) (t := 30) ?hr ?_; (case hd => rfl); (case hg => rfl); (case hr => exact TS); intro gb150 hg w30 hbox hb; have BK150 := aS (hbox); have GW150 := aS ((TG1 GE149.out : w.heap.size ≤ gb150)); have GE150 := aS ((TG1 GE149.out : w.heap.size ≤ gb150)); have NB149_150 := aS ((by rw [hg]; exact Nat.ne_of_lt (blk_lt (g := gb149) (o := .cells #[.int .i64 a0_0, .slice A0_1 l0_1.length c0_1, .slice A0_2 l0_2.length c0_2] 27 (0, 0)) (TK BK149.out)) : gb149 ≠ gb150)); have NB150_149 := aS ((by rw [hg]; exact Nat.ne_of_gt (blk_lt (g := gb149) (o := .cells #[.int .i64 a0_0, .slice A0_1 l0_1.length c0_1, .slice A0_2 l0_2.length c0_2] 27 (0, 0)) (TK BK149.out)) : gb150 ≠ gb149)); replace BK149 := aS (TKb hb BK149.out); replace HB := aS (below_step (TB1 GE149.out) hb); clear hb hbox hg; have hnb31 := NB150_149.out; have hnc31 := NB149_150.out; have hcz32_0 := cz BK150.out 0; have hcz32_1 := cz BK150.out 1; have hcz32_2 := cz BK150.out 2; have hcz32_3 := cz BK150.out 3; have hfz32_0 := fz BK150.out 0; have hfz32_1 := fz BK150.out 1; have hfz32_2 := fz BK150.out 2; have hfz32_3 := fz BK150.out 3; have p151 : 0 ≤ (a3 : Int) := of_decide_eq_true TA; have q151 : a3 < (l2_0.length : Int) := of_decide_eq_true TA; obtain ⟨ad151, e151, hx151_0⟩ := Kd.at_int HR2_0.out a3 p151 q151; cases e151; replace hx151_0 := hx HB.out hx151_0; replace p151 := eq_true p151; replace q151 := eq_true q151; have hcz33_0 := cz BK149.out 0; have hcz33_1 := cz BK149.out 1; have hcz33_2 := cz BK149.out 2; have hfz33_0 := fz BK149.out 0; have hfz33_1 := fz BK149.out 1; have hfz33_2 := fz BK149.out 2; have p152 : 0 ≤ (a1 : Int) := of_decide_eq_true TA; have q152 : a1 < (l0_2.length : Int) := of_decide_eq_true TA; obtain ⟨ad152, A152_1, c152_1, e152, hx152_0, hx152_1, hl152_1, hi152_1⟩ := at_T62 HR0_2.out a1 p152 q152; cases e152; replace hx152_0 := hx HB.out hx152_0; replace hx152_1 := hx HB.out hx152_1; have HR152_1 := aS hi152_1; have HC152_1 := aS hl152_1; clear hi152_1 hl152_1; replace p152 := eq_true p152; replace q152 := eq_true q152; have p153 : 0 ≤ (a4 : Int) := of_decide_eq_true TA; have q153 : a4 < (((rd_T62 l0_2 a1).f1).length : Int) := of_decide_eq_true TA; obtain ⟨ad153, e153, hx153_0⟩ := Kd.at_int HR152_1.out a4 p153 q153; cases e153; replace hx153_0 := hx HB.out hx153_0; replace p153 := eq_true p153; replace q153 := eq_true q153) | (go_at_call 44; (with_reducible refine (saronref00_Plain.calls (wrap64 ((rd l2_0 a3) - (rd ((rd_T62 l0_2 a1).f1) a4))) t154 _ A12.out).mono ?_); rintro e w' ⟨rfl, ⟨nd, rfl⟩⟩; (try first | exact ⟨rfl, _, World.drewN_drewN _ _ _⟩ | exact ⟨rfl, _, Eq.trans (World.drewN_drewN _ _ _) (congrArg (World.drewN _) (Nat.add_assoc _ _ _))⟩)) | (go_at_call 39; (with_reducible refine (saronref00_Where.calls k _ _ l2_1 a3 t155 _ ?side1 ?side2 A19.out).mono ?_); (case side1 => exact TD HR2_1.out (TB2 GE149.out GE150.out)); (case side2 => exact HC2_1.out); rintro e w' ⟨rfl, ⟨nd, rfl⟩⟩; (try first | exact ⟨rfl, _, World.drewN_drewN _ _ _⟩ | exact ⟨rfl, _, Eq.trans (World.drewN_drewN _ _ _) (congrArg (World.drewN _) (Nat.add_assoc _ _ _))⟩)) | (go_at_call 101; (with_reducible refine (rG.calls k a0_0 _ _ l0_1 _ _ l0_2 a1 a4 false _ ?side1 ?side2 ?side3 ?side4 A21.out).mono ?_); (case side1 => exact TD HR0_1.out (TB2 GE149.out GE150.out)); (case side2 => exact HC0_1.out); (case side3 => exact TD HR0_2.out (TB2 GE149.out GE150.out)); (case side4 => exact HC0_2.out); rintro e w34 ⟨rfl, hb⟩; replace BK149 := aS (TKb hb BK149.out); replace BK150 := aS (TKb hb BK150.out); replace HB := aS (below_step (TB2 GE149.out GE150.out) hb); (try clear hb); (try clear hb2); (try clear hk); (try clear hi))); try go_wp2_with (first | ((with_reducible refine gate_dst (N := 5) rfl ?_); refine box_event ?hg (N := 5) ?hd (cs := #[.int .i64 a0_0, .slice A0_1 l0_1.length c0_1, .slice A0_2 l0_2.length c0_2]) (t := 27) ?hr ?_; (case hd => rfl); (case hg => rfl); (case hr => exact TS); intro gb149 hg w29 hbox hb; have BK149 := aS (hbox); have GW149 := aS ((TG : w.heap.size ≤ gb149)); have GE149 := aS ((TG : w.heap.size ≤ gb149)); replace HB := aS (below_step TB hb); clear hb hbox hg) | ((with_reducible refine gate_dst (N := 7) rfl ?_); refine box_event ?hg (N := 7) ?hd (cs := #[.slice A2_0 l2_0.length c2_0, .slice A2_1 l2_1.length c2_1, .int .i64 a2_2, .int .i64 a2_3]) (t := 30) ?hr ?_; (case hd => rfl); (case hg => rfl); (case hr => exact TS); intro gb150 hg w30 hbox hb; have BK150 := aS (hbox); have GW150 := aS ((TG1 GE149.out : w.heap.size ≤ gb150)); have GE150 := aS ((TG1 GE149.out : w.heap.size ≤ gb150)); have NB149_150 := aS ((by rw [hg]; exact Nat.ne_of_lt (blk_lt (g := gb149) (o := .cells #[.int .i64 a0_0, .slice A0_1 l0_1.length c0_1, .slice A0_2 l0_2.length c0_2] 27 (0, 0)) (TK BK149.out)) : gb149 ≠ gb150)); have NB150_149 := aS ((by rw [hg]; exact Nat.ne_of_gt (blk_lt (g := gb149) (o := .cells #[.int .i64 a0_0, .slice A0_1 l0_1.length c0_1, .slice A0_2 l0_2.length c0_2] 27 (0, 0)) (TK BK149.out)) : gb150 ≠ gb149)); replace BK149 := aS (TKb hb BK149.out); replace HB := aS (below_step (TB1 GE149.out) hb); clear hb hbox hg; have hnb31 := NB150_149.out; have hnc31 := NB149_150.out; have hcz32_0 := cz BK150.out 0; have hcz32_1 := cz BK150.out 1; have hcz32_2 := cz BK150.out 2; have hcz32_3 := cz BK150.out 3; have hfz32_0 := fz BK150.out 0; have hfz32_1 := fz BK150.out 1; have hfz32_2 := fz BK150.out 2; have hfz32_3 := fz BK150.out 3; have p151 : 0 ≤ (a3 : Int) := of_decide_eq_true TA; have q151 : a3 < (l2_0.length : Int) := of_decide_eq_true TA; obtain ⟨ad151, e151, hx151_0⟩ := Kd.at_int HR2_0.out a3 p151 q151; cases e151; replace hx151_0 := hx HB.out hx151_0; replace p151 := eq_true p151; replace q151 := eq_true q151; have hcz33_0 := cz BK149.out 0; have hcz33_1 := cz BK149.out 1; have hcz33_2 := cz BK149.out 2; have hfz33_0 := fz BK149.out 0; have hfz33_1 := fz BK149.out 1; have hfz33_2 := fz BK149.out 2; have p152 : 0 ≤ (a1 : Int) := of_decide_eq_true TA; have q152 : a1 < (l0_2.length : Int) := of_decide_eq_true TA; obtain ⟨ad152, A152_1, c152_1, e152, hx152_0, hx152_1, hl152_1, hi152_1⟩ := at_T62 HR0_2.out a1 p152 q152; cases e152; replace hx152_0 := hx HB.out hx152_0; replace hx152_1 := hx HB.out hx152_1; have HR152_1 := aS hi152_1; have HC152_1 := aS hl152_1; clear hi152_1 hl152_1; replace p152 := eq_true p152; replace q152 := eq_true q152; have p153 : 0 ≤ (a4 : Int) := of_decide_eq_true TA; have q153 : a4 < (((rd_T62 l0_2 a1).f1).length : Int) := of_decide_eq_true TA; obtain ⟨ad153, e153, hx153_0⟩ := Kd.at_int HR152_1.out a4 p153 q153; cases e153; replace hx153_0 := hx HB.out hx153_0; replace p153 := eq_true p153; replace q153 := eq_true q153) | (go_at_call 44; (with_reducible refine (saronref00_Plain.calls (wrap64 ((rd l2_0 a3) - (rd ((rd_T62 l0_2 a1).f1) a4))) t154 _ A12.out).mono ?_); rintro e w' ⟨rfl, ⟨nd, rfl⟩⟩; (try first | exact ⟨rfl, _, World.drewN_drewN _ _ _⟩ | exact ⟨rfl, _, Eq.trans (World.drewN_drewN _ _ _) (congrArg (World.drewN _) (Nat.add_assoc _ _ _))⟩)) | (go_at_call 39; (with_reducible refine (saronref00_Where.calls k _ _ l2_1 a3 t155 _ ?side1 ?side2 A19.out).mono ?_); (case side1 => exact TD HR2_1.out (TB2 GE149.out GE150.out)); (case side2 => exact HC2_1.out); rintro e w' ⟨rfl, ⟨nd, rfl⟩⟩; (try first | exact ⟨rfl, _, World.drewN_drewN _ _ _⟩ | exact ⟨rfl, _, Eq.trans (World.drewN_drewN _ _ _) (congrArg (World.drewN _) (Nat.add_assoc _ _ _))⟩)) | (go_at_call 101; (with_reducible refine (rG.calls k a0_0 _ _ l0_1 _ _ l0_2 a1 a4 false _ ?side1 ?side2 ?side3 ?side4 A21.out).mono ?_); (case side1 => exact TD HR0_1.out (TB2 GE149.out GE150.out)); (case side2 => exact HC0_1.out); (case side3 => exact TD HR0_2.out (TB2 GE149.out GE150.out)); (case side4 => exact HC0_2.out); rintro e w34 ⟨rfl, hb⟩; replace BK149 := aS (TKb hb BK149.out); replace BK150 := aS (TKb hb BK150.out); replace HB := aS (below_step (TB2 GE149.out GE150.out) hb); (try clear hb); (try clear hb2); (try clear hk); (try clear hi))))
 go_ret2
 exact ⟨TR, TB2 GE149.out GE150.out⟩
end Go.Proofs.YtfdenclnneigfaaDoor.PRaspKeys
namespace Go.Proofs.YtfdenclnneigfaaDoor.PRaspKeys
open Go.RowKit Go.Proofs.YtfdenclnneigfaaDoorW.PrintWords Go.Proofs.YtfdenclnneigfaaDoorW.PrintLast Go.Proofs.YtfdenclnneigfaaDoorW.PrintMore Go.Proofs.YtfdenclnneigfaaDoor.M
attribute [local go_sem] max2_int min2_int max_two min_two max_three min_three max_four min_four   -- for this text's walks alone
mutual
def rT.l0 : Nat → Int → Int → Int → List (List Int) → Int → Int → List (S114) → List (S62) → List Int → List Int → Int → Int → Option ((List (List Int)))
 | 0, _, _, _, _, _, _, _, _, _, _, _, _ => none
 | k + 1, x1, x3, x9, x10, x11, x158000, x158001, x158002, x159000, x159001, x159002, x159003 => if x11 < (x159000.length : Int) then (rT.l1 k x1 x3 x9 x10 x11 ([] : List Int) 0 x158000 x158001 x158002 x159000 x159001 x159002 x159003) else (some x10)
def rT.l1 : Nat → Int → Int → Int → List (List Int) → Int → List Int → Int → Int → List (S114) → List (S62) → List Int → List Int → Int → Int → Option ((List (List Int)))
 | 0, _, _, _, _, _, _, _, _, _, _, _, _, _, _ => none
 | k + 1, x1, x3, x9, x10, x11, x12, x13, x158000, x158001, x158002, x159000, x159001, x159002, x159003 => if x13 < x9 then ((rC.f k x158000 x158001 x158002 x1 x159000 x159001 x159002 x159003 x11 x13).bind fun bt163 => (if bt163.1 = true then (if x11 = 0 then (rT.j2 k x1 x3 x9 x10 x11 x12 x13 bt163.2 100 (x13 == x3) x158000 x158001 x158002 x159000 x159001 x159002 x159003) else (rT.j2 k x1 x3 x9 x10 x11 x12 x13 bt163.2 100 false x158000 x158001 x158002 x159000 x159001 x159002 x159003)) else (if x12.length < 17592186044416 then (rT.l1 k x1 x3 x9 x10 x11 (x12 ++ [100]) (wrap64 (x13 + 1)) x158000 x158001 x158002 x159000 x159001 x159002 x159003) else (none)))) else (if x10.length < 5864062014805 then (rT.l0 k x1 x3 x9 (x10 ++ [x12]) (wrap64 (x11 + 1)) x158000 x158001 x158002 x159000 x159001 x159002 x159003) else (none))
def rT.j2 : Nat → Int → Int → Int → List (List Int) → Int → List Int → Int → Int → Int → Bool → Int → List (S114) → List (S62) → List Int → List Int → Int → Int → Option ((List (List Int)))
 | 0, _, _, _, _, _, _, _, _, _, _, _, _, _, _, _, _, _ => none
 | k + 1, x1, x3, x9, x10, x11, x12, x13, x15, x16, x49, x158000, x158001, x158002, x159000, x159001, x159002, x159003 => if x49 = true then (if x12.length < 17592186044416 then (rT.l1 k x1 x3 x9 x10 x11 (x12 ++ [x15]) (wrap64 (x13 + 1)) x158000 x158001 x158002 x159000 x159001 x159002 x159003) else (none)) else (if x11 > 0 then (rT.l2 k x1 x3 x9 x10 x11 x12 x13 x15 x16 0 x158000 x158001 x158002 x159000 x159001 x159002 x159003) else (if x12.length < 17592186044416 then (rT.l1 k x1 x3 x9 x10 x11 (x12 ++ [x16]) (wrap64 (x13 + 1)) x158000 x158001 x158002 x159000 x159001 x159002 x159003) else (none)))
def rT.l2 : Nat → Int → Int → Int → List (List Int) → Int → List Int → Int → Int → Int → Int → Int → List (S114) → List (S62) → List Int → List Int → Int → Int → Option ((List (List Int)))
 | 0, _, _, _, _, _, _, _, _, _, _, _, _, _, _, _, _, _ => none
 | k + 1, x1, x3, x9, x10, x11, x12, x13, x15, x16, x17, x158000, x158001, x158002, x159000, x159001, x159002, x159003 => if x17 < x13 then (if 0 ≤ (wrap64 (x11 - 1)) then (if (wrap64 (x11 - 1)) < (x10.length : Int) then (if 0 ≤ x17 then (if x17 < ((rd_L1 x10 (wrap64 (x11 - 1))).length : Int) then (rT.l2 k x1 x3 x9 x10 x11 x12 x13 x15 (mn x16 (wrap64 ((rd (rd_L1 x10 (wrap64 (x11 - 1))) x17) + x15))) (wrap64 (x17 + 1)) x158000 x158001 x158002 x159000 x159001 x159002 x159003) else (none)) else (none)) else (none)) else (none)) else (if x12.length < 17592186044416 then (rT.l1 k x1 x3 x9 x10 x11 (x12 ++ [x16]) (wrap64 (x13 + 1)) x158000 x158001 x158002 x159000 x159001 x159002 x159003) else (none))
end
def rT.f (k : Nat) (a0_0 : Int) (l0_1 : List (S114)) (l0_2 : List (S62)) (a1 : Int) (l2_0 : List Int) (l2_1 : List Int) (a2_2 : Int) (a2_3 : Int) (a3 : Int) : Option ((List (List Int))) := if 0 ≤ a1 then (if a1 < (l0_2.length : Int) then (rT.l0 k a1 a3 (((rd_T62 l0_2 a1).f1).length : Int) ([] : List (List Int)) 0 a0_0 l0_1 l0_2 l2_0 l2_1 a2_2 a2_3) else (none)) else (none)
theorem rT.mono_l : ∀ k, (∀ y0 y1 y2 y3 y4 y5 y6 y7 y8 y9 y10 y11, LeO (rT.l0 k y0 y1 y2 y3 y4 y5 y6 y7 y8 y9 y10 y11) (rT.l0 (k + 1) y0 y1 y2 y3 y4 y5 y6 y7 y8 y9 y10 y11)) ∧ (∀ y0 y1 y2 y3 y4 y5 y6 y7 y8 y9 y10 y11 y12 y13, LeO (rT.l1 k y0 y1 y2 y3 y4 y5 y6 y7 y8 y9 y10 y11 y12 y13) (rT.l1 (k + 1) y0 y1 y2 y3 y4 y5 y6 y7 y8 y9 y10 y11 y12 y13)) ∧ (∀ y0 y1 y2 y3 y4 y5 y6 y7 y8 y9 y10 y11 y12 y13 y14 y15 y16, LeO (rT.j2 k y0 y1 y2 y3 y4 y5 y6 y7 y8 y9 y10 y11 y12 y13 y14 y15 y16) (rT.j2 (k + 1) y0 y1 y2 y3 y4 y5 y6 y7 y8 y9 y10 y11 y12 y13 y14 y15 y16)) ∧ (∀ y0 y1 y2 y3 y4 y5 y6 y7 y8 y9 y10 y11 y12 y13 y14 y15 y16, LeO (rT.l2 k y0 y1 y2 y3 y4 y5 y6 y7 y8 y9 y10 y11 y12 y13 y14 y15 y16) (rT.l2 (k + 1) y0 y1 y2 y3 y4 y5 y6 y7 y8 y9 y10 y11 y12 y13 y14 y15 y16))
 | 0 => ⟨fun _ _ _ _ _ _ _ _ _ _ _ _ r h => by simp [rT.l0] at h, fun _ _ _ _ _ _ _ _ _ _ _ _ _ _ r h => by simp [rT.l1] at h, fun _ _ _ _ _ _ _ _ _ _ _ _ _ _ _ _ _ r h => by simp [rT.j2] at h, fun _ _ _ _ _ _ _ _ _ _ _ _ _ _ _ _ _ r h => by simp [rT.l2] at h⟩
 | k + 1 => by
  obtain ⟨ih0, ih1, ih2, ih3⟩ := rT.mono_l k
  refine ⟨?_, ?_, ?_, ?_⟩
  ·intro y0 y1 y2 y3 y4 y5 y6 y7 y8 y9 y10 y11
   unfold rT.l0
   repeat' first
   | (with_reducible exact ih0 _ _ _ _ _ _ _ _ _ _ _ _)
   | (with_reducible exact ih1 _ _ _ _ _ _ _ _ _ _ _ _ _ _)
   | (with_reducible exact ih2 _ _ _ _ _ _ _ _ _ _ _ _ _ _ _ _ _)
   | (with_reducible exact ih3 _ _ _ _ _ _ _ _ _ _ _ _ _ _ _ _ _)
   | (with_reducible exact rC.mono _ _ _ _ _ _ _ _ _ _ _)
   | (with_reducible exact LeO.refl _)
   | (with_reducible exact LeO.none _)
   | (with_reducible refine LeO.ite ?_ ?_)
   | (with_reducible refine LeO.bind ?_ (fun _ => ?_))
   | exact ih0 _ _ _ _ _ _ _ _ _ _ _ _
   | exact ih1 _ _ _ _ _ _ _ _ _ _ _ _ _ _
   | exact ih2 _ _ _ _ _ _ _ _ _ _ _ _ _ _ _ _ _
   | exact ih3 _ _ _ _ _ _ _ _ _ _ _ _ _ _ _ _ _
   | exact rC.mono _ _ _ _ _ _ _ _ _ _ _
   | exact LeO.none _
   | refine LeO.ite ?_ ?_
   | refine LeO.bind ?_ (fun _ => ?_)
  ·intro y0 y1 y2 y3 y4 y5 y6 y7 y8 y9 y10 y11 y12 y13
   unfold rT.l1
   repeat' first
   | (with_reducible exact ih0 _ _ _ _ _ _ _ _ _ _ _ _)
   | (with_reducible exact ih1 _ _ _ _ _ _ _ _ _ _ _ _ _ _)
   | (with_reducible exact ih2 _ _ _ _ _ _ _ _ _ _ _ _ _ _ _ _ _)
   | (with_reducible exact ih3 _ _ _ _ _ _ _ _ _ _ _ _ _ _ _ _ _)
   | (with_reducible exact rC.mono _ _ _ _ _ _ _ _ _ _ _)
   | (with_reducible exact LeO.refl _)
   | (with_reducible exact LeO.none _)
   | (with_reducible refine LeO.ite ?_ ?_)
   | (with_reducible refine LeO.bind ?_ (fun _ => ?_))
   | exact ih0 _ _ _ _ _ _ _ _ _ _ _ _
   | exact ih1 _ _ _ _ _ _ _ _ _ _ _ _ _ _
   | exact ih2 _ _ _ _ _ _ _ _ _ _ _ _ _ _ _ _ _
   | exact ih3 _ _ _ _ _ _ _ _ _ _ _ _ _ _ _ _ _
   | exact rC.mono _ _ _ _ _ _ _ _ _ _ _
   | exact LeO.none _
   | refine LeO.ite ?_ ?_
   | refine LeO.bind ?_ (fun _ => ?_)
  ·intro y0 y1 y2 y3 y4 y5 y6 y7 y8 y9 y10 y11 y12 y13 y14 y15 y16
   unfold rT.j2
   repeat' first
   | (with_reducible exact ih0 _ _ _ _ _ _ _ _ _ _ _ _)
   | (with_reducible exact ih1 _ _ _ _ _ _ _ _ _ _ _ _ _ _)
   | (with_reducible exact ih2 _ _ _ _ _ _ _ _ _ _ _ _ _ _ _ _ _)
   | (with_reducible exact ih3 _ _ _ _ _ _ _ _ _ _ _ _ _ _ _ _ _)
   | (with_reducible exact rC.mono _ _ _ _ _ _ _ _ _ _ _)
   | (with_reducible exact LeO.refl _)
   | (with_reducible exact LeO.none _)
   | (with_reducible refine LeO.ite ?_ ?_)
   | (with_reducible refine LeO.bind ?_ (fun _ => ?_))
   | exact ih0 _ _ _ _ _ _ _ _ _ _ _ _
   | exact ih1 _ _ _ _ _ _ _ _ _ _ _ _ _ _
   | exact ih2 _ _ _ _ _ _ _ _ _ _ _ _ _ _ _ _ _
   | exact ih3 _ _ _ _ _ _ _ _ _ _ _ _ _ _ _ _ _
   | exact rC.mono _ _ _ _ _ _ _ _ _ _ _
   | exact LeO.none _
   | refine LeO.ite ?_ ?_
   | refine LeO.bind ?_ (fun _ => ?_)
  intro y0 y1 y2 y3 y4 y5 y6 y7 y8 y9 y10 y11 y12 y13 y14 y15 y16
  unfold rT.l2
  repeat' first
  | (with_reducible exact ih0 _ _ _ _ _ _ _ _ _ _ _ _)
  | (with_reducible exact ih1 _ _ _ _ _ _ _ _ _ _ _ _ _ _)
  | (with_reducible exact ih2 _ _ _ _ _ _ _ _ _ _ _ _ _ _ _ _ _)
  | (with_reducible exact ih3 _ _ _ _ _ _ _ _ _ _ _ _ _ _ _ _ _)
  | (with_reducible exact rC.mono _ _ _ _ _ _ _ _ _ _ _)
  | (with_reducible exact LeO.refl _)
  | (with_reducible exact LeO.none _)
  | (with_reducible refine LeO.ite ?_ ?_)
  | (with_reducible refine LeO.bind ?_ (fun _ => ?_))
  | exact ih0 _ _ _ _ _ _ _ _ _ _ _ _
  | exact ih1 _ _ _ _ _ _ _ _ _ _ _ _ _ _
  | exact ih2 _ _ _ _ _ _ _ _ _ _ _ _ _ _ _ _ _
  | exact ih3 _ _ _ _ _ _ _ _ _ _ _ _ _ _ _ _ _
  | exact rC.mono _ _ _ _ _ _ _ _ _ _ _
  | exact LeO.none _
  | refine LeO.ite ?_ ?_
  | refine LeO.bind ?_ (fun _ => ?_)
theorem rT.mono : ∀ a0 a1 a2 a3 a4 a5 a6 a7 a8 k, LeO (rT.f k a0 a1 a2 a3 a4 a5 a6 a7 a8) (rT.f (k + 1) a0 a1 a2 a3 a4 a5 a6 a7 a8) := by
 intro a0 a1 a2 a3 a4 a5 a6 a7 a8 k
 obtain ⟨ih0, ih1, ih2, ih3⟩ := rT.mono_l k
 unfold rT.f
 repeat' first
   | (with_reducible exact ih0 _ _ _ _ _ _ _ _ _ _ _ _)
   | (with_reducible exact ih1 _ _ _ _ _ _ _ _ _ _ _ _ _ _)
   | (with_reducible exact ih2 _ _ _ _ _ _ _ _ _ _ _ _ _ _ _ _ _)
   | (with_reducible exact ih3 _ _ _ _ _ _ _ _ _ _ _ _ _ _ _ _ _)
   | (with_reducible exact rC.mono _ _ _ _ _ _ _ _ _ _ _)
   | (with_reducible exact LeO.refl _)
   | (with_reducible exact LeO.none _)
   | (with_reducible refine LeO.ite ?_ ?_)
   | (with_reducible refine LeO.bind ?_ (fun _ => ?_))
   | exact ih0 _ _ _ _ _ _ _ _ _ _ _ _
   | exact ih1 _ _ _ _ _ _ _ _ _ _ _ _ _ _
   | exact ih2 _ _ _ _ _ _ _ _ _ _ _ _ _ _ _ _ _
   | exact ih3 _ _ _ _ _ _ _ _ _ _ _ _ _ _ _ _ _
   | exact rC.mono _ _ _ _ _ _ _ _ _ _ _
   | exact LeO.none _
   | refine LeO.ite ?_ ?_
   | refine LeO.bind ?_ (fun _ => ?_)
set_option maxHeartbeats 8000000 in
set_option maxRecDepth 100000 in
theorem rT.calls (k : Nat) (a0_0 : Int) (A0_1 : Option Addr) (c0_1 : Nat) (l0_1 : List (S114)) (A0_2 : Option Addr) (c0_2 : Nat) (l0_2 : List (S62)) (a1 : Int) (A2_0 : Option Addr) (c2_0 : Nat) (l2_0 : List Int) (A2_1 : Option Addr) (c2_1 : Nat) (l2_1 : List Int) (a2_2 : Int) (a2_3 : Int) (a3 : Int) (r : List (List Int)) (w : World) (hr0_1 : Kd.C k114 w A0_1 l0_1.length l0_1) (hc0_1 : l0_1.length ≤ c0_1) (hr0_2 : Kd.C k62 w A0_2 l0_2.length l0_2) (hc0_2 : l0_2.length ≤ c0_2) (hr2_0 : Kd.C (Kd.int .i64) w A2_0 l2_0.length l2_0) (hc2_0 : l2_0.length ≤ c2_0) (hr2_1 : Kd.C (Kd.int .i64) w A2_1 l2_1.length l2_1) (hc2_1 : l2_1.length ≤ c2_1) (h : rT.f k a0_0 l0_1 l0_2 a1 l2_0 l2_1 a2_2 a2_3 a3 = some r) :
  Calls Tryd.prog 91 #[.agg #[.int .i64 a0_0, .slice A0_1 l0_1.length c0_1, .slice A0_2 l0_2.length c0_2], .int .i64 a1, .agg #[.slice A2_0 l2_0.length c2_0, .slice A2_1 l2_1.length c2_1, .int .i64 a2_2, .int .i64 a2_3], .int .i64 a3] w fun e w' => ∃ v0_ : Value, e = .returned (v0_) ∧ Kd.S (Kd.slice 3 (Kd.int .i64)) 28 w' w.heap.size (fun _ => True) v0_ r ∧ Below w.heap.size w w' := by
 have hu27 := Tryd.underlying27
 have hu30 := Tryd.underlying30
 have HR0_1 := aS hr0_1
 have HC0_1 := aS hc0_1
 clear hr0_1 hc0_1
 have HR0_2 := aS hr0_2
 have HC0_2 := aS hc0_2
 clear hr0_2 hc0_2
 have HR2_0 := aS hr2_0
 have HC2_0 := aS hc2_0
 clear hr2_0 hc2_0
 have HR2_1 := aS hr2_1
 have HC2_1 := aS hc2_1
 clear hr2_1 hc2_1
 have HB := aS (Below.refl w.heap.size w)
 have H : (if 0 ≤ a1 then (if a1 < (l0_2.length : Int) then (rT.l0 k a1 a3 (((rd_T62 l0_2 a1).f1).length : Int) ([] : List (List Int)) 0 a0_0 l0_1 l0_2 l2_0 l2_1 a2_2 a2_3) else (none)) else (none)) = some r := h
 clear h
 by_cases c5 : 0 ≤ a1
 rotate_left
 ·rw [if_neg c5] at H
  exact absurd H (by simp)
 rw [if_pos c5] at H
 have c5b0 : decide (0 ≤ a1) = true := decide_eq_true c5
 clear c5
 by_cases c6 : a1 < (l0_2.length : Int)
 rotate_left
 ·rw [if_neg c6] at H
  exact absurd H (by simp)
 rw [if_pos c6] at H
 have c6b0 : decide (a1 < (l0_2.length : Int)) = true := decide_eq_true c6
 clear c6
 have H' := aS H
 clear H
 go_enter Tryd.func91, Tryd.ntmps91
 go_wp2_with (first | ((with_reducible refine gate_dst (N := 4) rfl ?_); refine box_event ?hg (N := 4) ?hd (cs := #[.int .i64 a0_0, .slice A0_1 l0_1.length c0_1, .slice A0_2 l0_2.length c0_2]) (t := 27) ?hr ?_; (case hd => rfl); (case hg => rfl); (case hr => exact TS); intro gb157 hg w7 hbox hb; have BK157 := aS (hbox); have GW157 := aS ((TG : w.heap.size ≤ gb157)); have GE157 := aS ((TG : w.heap.size ≤ gb157)); replace HB := aS (below_step TB hb); clear hb hbox hg) | ((with_reducible refine gate_dst (N := 6) rfl ?_); refine box_event ?hg (N := 6) ?hd (cs := #[.slice A2_0 l2_0.length c2_0, .slice A2_1 l2_1.length c2_1, .int .i64 a2_2, .int .i64 a2_3]) (t := 30) ?hr ?_; (case hd => rfl); (case hg => rfl); (case hr => exact TS); intro gb158 hg w8 hbox hb; have BK158 := aS (hbox); have GW158 := aS ((TG1 GE157.out : w.heap.size ≤ gb158)); have GE158 := aS ((TG1 GE157.out : w.heap.size ≤ gb158)); have NB157_158 := aS ((by rw [hg]; exact Nat.ne_of_lt (blk_lt (g := gb157) (o := .cells #[.int .i64 a0_0, .slice A0_1 l0_1.length c0_1, .slice A0_2 l0_2.length c0_2] 27 (0, 0)) (TK BK157.out)) : gb157 ≠ gb158)); have NB158_157 := aS ((by rw [hg]; exact Nat.ne_of_gt (blk_lt (g := gb157) (o := .cells #[.int .i64 a0_0, .slice A0_1 l0_1.length c0_1, .slice A0_2 l0_2.length c0_2] 27 (0, 0)) (TK BK157.out)) : gb158 ≠ gb157)); replace BK157 := aS (TKb hb BK157.out); replace HB := aS (below_step (TB1 GE157.out) hb); clear hb hbox hg; have hnb9 := NB157_158.out; have hnc9 := NB158_157.out; have hcz10_0 := cz BK157.out 0; have hcz10_1 := cz BK157.out 1; have hcz10_2 := cz BK157.out 2; have hfz10_0 := fz BK157.out 0; have hfz10_1 := fz BK157.out 1; have hfz10_2 := fz BK157.out 2; have p159 : 0 ≤ (a1 : Int) := of_decide_eq_true TA; have q159 : a1 < (l0_2.length : Int) := of_decide_eq_true TA; obtain ⟨ad159, A159_1, c159_1, e159, hx159_0, hx159_1, hl159_1, hi159_1⟩ := at_T62 HR0_2.out a1 p159 q159; cases e159; replace hx159_0 := hx HB.out hx159_0; replace hx159_1 := hx HB.out hx159_1; have HR159_1 := aS hi159_1; have HC159_1 := aS hl159_1; clear hi159_1 hl159_1; replace p159 := eq_true p159; replace q159 := eq_true q159))
 go_loopg [10, 11] k (fun kq v10 v11 w' => ∃ (x10_1 : List (List Int)) (x11_1 : Int), v11 = .int .i64 x11_1 ∧ Aside0 (rT.l0 kq a1 a3 (((rd_T62 l0_2 a1).f1).length : Int) x10_1 x11_1 a0_0 l0_1 l0_2 l2_0 l2_1 a2_2 a2_3 = some r) ∧ Aside0 (kq ≤ k) ∧ Aside0 (Kd.S (Kd.slice 3 (Kd.int .i64)) 28 w' w.heap.size (fun _ => True) v10 x10_1) ∧ Aside0 (w'.heap[gb157]? = some (.cells #[.int .i64 a0_0, (.slice A0_1 l0_1.length c0_1), (.slice (some ad159) l0_2.length c0_2)] 27 (0, 0))) ∧ Aside0 (w'.heap[gb158]? = some (.cells #[(.slice A2_0 l2_0.length c2_0), (.slice A2_1 l2_1.length c2_1), .int .i64 a2_2, .int .i64 a2_3] 30 (0, 0))) ∧ Aside0 (Below w.heap.size w w'))
 case atStart => exact ⟨(([] : List (List Int))), (0), TT, H', ⟨Nat.le_refl _⟩, ⟨by first | exact Kd.S_nil _ _ _ _ _ | exact Kd.N_nil _ _ _ _ _ | exact Kd.V_nil _ _ _ _ _ | exact Kd.Q_nil _ _ _ _ _ | exact Kd.R_nil _ _ _ _ _⟩, ⟨TK BK157.out⟩, ⟨TK BK158.out⟩, ⟨TB2 GE157.out GE158.out⟩⟩
 case round => as_aux_lemma =>
  clear H'
  try clear c1
  try clear p1
  try clear q1
  try clear hx1
  try clear c2
  try clear p2
  try clear c5
  try clear c5b0
  try clear c6
  try clear c6b0
  try clear c9
  try clear hcz10_0 hcz10_1 hcz10_2 hfz10_0 hfz10_1 hfz10_2
  try clear hx159_0
  try clear hx159_1
  try clear p159
  try clear q159
  obtain ⟨x10_1, x11_1, rfl, HA, HK1, HO_10, BK157, BK158, HB⟩ := hrel
  cases gk with
  | zero => exact absurd HA.out (by simp [rT.l0])
  | succ k1 =>
   have H := HA.out
   clear HA
   simp only [rT.l0] at H
   by_cases c11 : x11_1 < (l2_0.length : Int)
   rotate_left
   ·rw [if_neg c11] at H
    have c11b0 : decide (x11_1 < (l2_0.length : Int)) = false := decide_eq_false c11
    clear c11
    obtain rfl := Option.some.inj H
    have hnb48 := NB158_157.out
    have hnc48 := NB157_158.out
    have hcz49_0 := cz BK158.out 0
    have hcz49_1 := cz BK158.out 1
    have hcz49_2 := cz BK158.out 2
    have hcz49_3 := cz BK158.out 3
    have hfz49_0 := fz BK158.out 0
    have hfz49_1 := fz BK158.out 1
    have hfz49_2 := fz BK158.out 2
    have hfz49_3 := fz BK158.out 3
    go_wp2
    go_ret
    exact ⟨_, TR, by (with_reducible repeat (first | apply Kd.S_alloc | apply Kd.S_drewN | apply Kd.S_drew)); exact HO_10.out, TB2 GE157.out GE158.out⟩
   rw [if_pos c11] at H
   have c11b0 : decide (x11_1 < (l2_0.length : Int)) = true := decide_eq_true c11
   clear c11
   have H' := aS H
   clear H
   have hnb12 := NB158_157.out
   have hnc12 := NB157_158.out
   have hcz13_0 := cz BK158.out 0
   have hcz13_1 := cz BK158.out 1
   have hcz13_2 := cz BK158.out 2
   have hcz13_3 := cz BK158.out 3
   have hfz13_0 := fz BK158.out 0
   have hfz13_1 := fz BK158.out 1
   have hfz13_2 := fz BK158.out 2
   have hfz13_3 := fz BK158.out 3
   go_wp2
   go_loopg [12, 13] k1 (fun kq v12 v13 w' => ∃ (x12_2 : List Int) (x13_2 : Int), v13 = .int .i64 x13_2 ∧ Aside0 (rT.l1 kq a1 a3 (((rd_T62 l0_2 a1).f1).length : Int) x10_1 x11_1 x12_2 x13_2 a0_0 l0_1 l0_2 l2_0 l2_1 a2_2 a2_3 = some r) ∧ Aside0 (kq ≤ k1) ∧ Aside0 (Kd.S (Kd.slice 3 (Kd.int .i64)) 28 w' w.heap.size (fun k_ => some k_ ≠ (v12 : Value).ownBlock) u10 x10_1) ∧ Aside0 (Kd.R (Kd.int .i64) 3 w' w.heap.size (fun _ => True) v12 x12_2) ∧ Aside0 (w'.heap[gb157]? = some (.cells #[.int .i64 a0_0, (.slice A0_1 l0_1.length c0_1), (.slice (some ad159) l0_2.length c0_2)] 27 (0, 0))) ∧ Aside0 (w'.heap[gb158]? = some (.cells #[(.slice A2_0 l2_0.length c2_0), (.slice A2_1 l2_1.length c2_1), .int .i64 a2_2, .int .i64 a2_3] 30 (0, 0))) ∧ Aside0 (Below w.heap.size w w'))
   case atStart => exact ⟨(([] : List Int)), (0), TT, H', ⟨Nat.le_refl _⟩, ⟨by (with_reducible repeat (first | apply Kd.S_alloc | apply Kd.S_drewN | apply Kd.S_drew)); exact Kd.S_mono HO_10.out (fun _ hk => (by simp [Value.ownBlock]))⟩, ⟨by first | exact Kd.R_nil _ _ _ _ _ | exact Kd.N_nil _ _ _ _ _ | exact Kd.V_nil _ _ _ _ _ | exact Kd.Q_nil _ _ _ _ _ | exact Kd.S_nil _ _ _ _ _⟩, ⟨TK BK157.out⟩, ⟨TK BK158.out⟩, ⟨TB2 GE157.out GE158.out⟩⟩
   case round => as_aux_lemma =>
    clear H'
    try clear c1
    try clear p1
    try clear q1
    try clear hx1
    try clear c2
    try clear p2
    try clear c5
    try clear c5b0
    try clear c6
    try clear c6b0
    try clear c9
    try clear c11
    try clear c11b0
    try clear c12
    try clear hcz10_0 hcz10_1 hcz10_2
    try clear hcz13_0 hcz13_1 hcz13_2 hcz13_3
    try clear hfz10_0 hfz10_1 hfz10_2
    try clear hfz13_0 hfz13_1 hfz13_2 hfz13_3
    try clear hx159_0
    try clear hx159_1
    try clear p1
    try clear p159
    try clear p2
    try clear q1
    try clear q159
    obtain ⟨x12_2, x13_2, rfl, HA, HK2, HO_10, HO_12, BK157, BK158, HB⟩ := hrel
    cases gk with
    | zero => exact absurd HA.out (by simp [rT.l1])
    | succ k2 =>
     have H := HA.out
     clear HA
     simp only [rT.l1] at H
     by_cases c14 : x13_2 < (((rd_T62 l0_2 a1).f1).length : Int)
     rotate_left
     ·rw [if_neg c14] at H
      have c14b0 : decide (x13_2 < (((rd_T62 l0_2 a1).f1).length : Int)) = false := decide_eq_false c14
      clear c14
      by_cases c45 : x10_1.length < 5864062014805
      rotate_left
      ·rw [if_neg c45] at H
       exact absurd H (by simp)
      rw [if_pos c45] at H
      have LMc45 := aS c45
      clear c45
      obtain ⟨y160, hy160⟩ : ∃ y_ : List (List Int), y_ = (x10_1 ++ [x12_2]) := ⟨_, rfl⟩
      replace H : (rT.l0 k2 a1 a3 (((rd_T62 l0_2 a1).f1).length : Int) y160 (wrap64 (x11_1 + 1)) a0_0 l0_1 l0_2 l2_0 l2_1 a2_2 a2_3) = some r := by first | (rw [hy160]; with_reducible exact H) | (have H2_ := (Option.bind_some _ _).symm.trans H; rw [hy160]; with_reducible exact H2_) | (have H2_ := (Option.bind_some _ _).symm.trans H; with_reducible exact H2_) | with_reducible exact H | (rw [hy160]; exact H) | exact H
      have Ny160 := aS hy160
      clear hy160
      have H' := aS H
      clear H
      obtain ⟨Ao47, co47, eo47⟩ := Kd.R_slice HO_12.out
      subst eo47
      go_wp2_with (first | ((with_reducible refine gate_builtin (b := .append) (xs := #[.tmp 82, .tmp 84]) rfl ?_); at_builtin; refine Kd.S_append (Kd.slice 3 (Kd.int .i64)) (w0 := w) w.heap.size rfl (.tmp 82) (.tmp 84) 112 28 (.slice none 0 0) 24 rfl Tryd.underlying112 info28 rfl (by decide) (by omega) u10 x10_1 x12_2 [.slice Ao47 x12_2.length co47] (fun _ => True) (fun k_ => some k_ = (.slice Ao47 x12_2.length co47 : Value).ownBlock) rfl rfl ?aP (fun k_ hk_ => ((Kd.R_mono (ok' := fun k_ => ((fun _ => True)) k_ ∧ some k_ ≠ (u10 : Value).ownBlock) (Kd.R_apart' (HO_12.out) (Kd.S_typed HO_10.out) (by decide)) (fun k_ hk => ⟨trivial, hk.2⟩))).1 k_ hk_.symm) ?aF ?aO ?aB ?aS ?aL ?_; (case aP => exact Kd.M_row (Kd.R_mono (Kd.R_tight rfl (Kd.R_mono (ok' := fun k_ => ((fun _ => True)) k_ ∧ some k_ ≠ (u10 : Value).ownBlock) (Kd.R_apart' (HO_12.out) (Kd.S_typed HO_10.out) (by decide)) (fun k_ hk => ⟨trivial, hk.2⟩))) (fun _ h_ => h_))); (case aB => exact (TB2 GE157.out GE158.out)); (case aF => exact (fun _ _ => trivial)); (case aO => exact (by (with_reducible repeat (first | apply Kd.S_alloc | apply Kd.S_drewN | apply Kd.S_drew)); exact Kd.S_mono HO_10.out (fun k_ hk => ⟨trivial, fun e_ => hk e_⟩))); (case aS => exact (below_size (TB2 GE157.out GE158.out))); (case aL => have := LMc45.out; omega); intro v161 w46 ho hb hg hat; rw [← Ny160.out] at ho; have HO162 := aS (ho); replace BK157 := aS (blk_grown (g := gb157) (o := .cells #[.int .i64 a0_0, .slice A0_1 l0_1.length c0_1, .slice (some ad159) l0_2.length c0_2] 27 (0, 0)) (TK BK157.out) hg (Kd.S_ne HO_10.out BK157.out (by decide))); replace BK158 := aS (blk_grown (g := gb158) (o := .cells #[.slice A2_0 l2_0.length c2_0, .slice A2_1 l2_1.length c2_1, .int .i64 a2_2, .int .i64 a2_3] 30 (0, 0)) (TK BK158.out) hg (Kd.S_ne HO_10.out BK158.out (by decide))); replace HB := aS (hb); clear HO_10 HO_12; clear ho hb hg hat))
      go_roundg k2
      case measure => have := HK1.out; have := HK2.out; omega
      case rel => exact ⟨(y160), (wrap64 (x11_1 + 1)), TT, H', ⟨by have := HK1.out; have := HK2.out; omega⟩, ⟨by (with_reducible repeat (first | apply Kd.S_alloc | apply Kd.S_drewN | apply Kd.S_drew)); exact HO162.out⟩, ⟨TK BK157.out⟩, ⟨TK BK158.out⟩, ⟨TB2 GE157.out GE158.out⟩⟩
     rw [if_pos c14] at H
     have c14b0 : decide (x13_2 < (((rd_T62 l0_2 a1).f1).length : Int)) = true := decide_eq_true c14
     clear c14
     replace H := Option.bind_eq_some_iff.mp H
     obtain ⟨⟨t163, t164⟩, A150, H⟩ := H
     replace H : (if t163 = true then (if x11_1 = 0 then (rT.j2 k2 a1 a3 (((rd_T62 l0_2 a1).f1).length : Int) x10_1 x11_1 x12_2 x13_2 t164 100 (x13_2 == a3) a0_0 l0_1 l0_2 l2_0 l2_1 a2_2 a2_3) else (rT.j2 k2 a1 a3 (((rd_T62 l0_2 a1).f1).length : Int) x10_1 x11_1 x12_2 x13_2 t164 100 false a0_0 l0_1 l0_2 l2_0 l2_1 a2_2 a2_3)) else (if x12_2.length < 17592186044416 then (rT.l1 k2 a1 a3 (((rd_T62 l0_2 a1).f1).length : Int) x10_1 x11_1 (x12_2 ++ [100]) (wrap64 (x13_2 + 1)) a0_0 l0_1 l0_2 l2_0 l2_1 a2_2 a2_3) else (none))) = some r := H
     have A15 := aS A150
     clear A150
     by_cases c16 : t163 = true
     rotate_left
     ·replace c16 := Bool.eq_false_iff.mpr c16
      subst c16
      have H1 : (if x12_2.length < 17592186044416 then (rT.l1 k2 a1 a3 (((rd_T62 l0_2 a1).f1).length : Int) x10_1 x11_1 (x12_2 ++ [100]) (wrap64 (x13_2 + 1)) a0_0 l0_1 l0_2 l2_0 l2_1 a2_2 a2_3) else (none)) = some r := by rw [if_neg (show ¬ (false = true) by decide)] at H; exact H
      clear H
      have H := H1
      clear H1
      by_cases c39 : x12_2.length < 17592186044416
      rotate_left
      ·rw [if_neg c39] at H
       exact absurd H (by simp)
      rw [if_pos c39] at H
      have LMc39 := aS c39
      clear c39
      obtain ⟨y176, hy176⟩ : ∃ y_ : List Int, y_ = (x12_2 ++ [100]) := ⟨_, rfl⟩
      replace H : (rT.l1 k2 a1 a3 (((rd_T62 l0_2 a1).f1).length : Int) x10_1 x11_1 y176 (wrap64 (x13_2 + 1)) a0_0 l0_1 l0_2 l2_0 l2_1 a2_2 a2_3) = some r := by first | (rw [hy176]; with_reducible exact H) | (have H2_ := (Option.bind_some _ _).symm.trans H; rw [hy176]; with_reducible exact H2_) | (have H2_ := (Option.bind_some _ _).symm.trans H; with_reducible exact H2_) | with_reducible exact H | (rw [hy176]; exact H) | exact H
      have Ny176 := aS hy176
      clear hy176
      have H' := aS H
      clear H
      have hnb40 := NB157_158.out
      have hnc40 := NB158_157.out
      have hcz41_0 := cz BK157.out 0
      have hcz41_1 := cz BK157.out 1
      have hcz41_2 := cz BK157.out 2
      have hfz41_0 := fz BK157.out 0
      have hfz41_1 := fz BK157.out 1
      have hfz41_2 := fz BK157.out 2
      have hcz42_0 := cz BK158.out 0
      have hcz42_1 := cz BK158.out 1
      have hcz42_2 := cz BK158.out 2
      have hcz42_3 := cz BK158.out 3
      have hfz42_0 := fz BK158.out 0
      have hfz42_1 := fz BK158.out 1
      have hfz42_2 := fz BK158.out 2
      have hfz42_3 := fz BK158.out 3
      go_wp2_with (first | ((with_reducible refine gate_callee (f := 92) rfl ?_); refine goesL_ (some 43) rfl rfl Tryd.func92 (by kernel_rfl) rfl #[.agg #[.int .i64 a0_0, .slice A0_1 l0_1.length c0_1, .slice (some ad159) l0_2.length c0_2], .int .i64 a1, .agg #[.slice A2_0 l2_0.length c2_0, .slice A2_1 l2_1.length c2_1, .int .i64 a2_2, .int .i64 a2_3], .int .i64 x11_1, .int .i64 x13_2] rfl TM ?_; (with_reducible refine (rC.calls k2 a0_0 _ _ l0_1 _ _ l0_2 a1 _ _ l2_0 _ _ l2_1 a2_2 a2_3 x11_1 x13_2 false t164 _ ?side1 ?side2 ?side3 ?side4 ?side5 ?side6 ?side7 ?side8 A15.out).mono ?_); (case side1 => exact TC HR0_1.out); (case side2 => exact HC0_1.out); (case side3 => exact TC HR0_2.out); (case side4 => exact HC0_2.out); (case side5 => exact TC HR2_0.out); (case side6 => exact HC2_0.out); (case side7 => exact TC HR2_1.out); (case side8 => exact HC2_1.out); rintro e w43 ⟨rfl, hb⟩; refine ⟨_, rfl, ?_⟩; replace HO_10 := aS (Kd.S_below (TSo HO_10.out) hb); replace HO_12 := aS (Kd.R_below (TRo HO_12.out) hb); replace BK157 := aS (TKb hb BK157.out); replace BK158 := aS (TKb hb BK158.out); replace HB := aS (below_step (TB2 GE157.out GE158.out) hb); (try clear hb); (try clear hb2); (try clear hk); (try clear hi)) | ((with_reducible refine gate_builtin (b := .append) (xs := #[.tmp 78, .tmp 80]) rfl ?_); at_builtin; refine Kd.R_append (Kd.int .i64) (w0 := w) w.heap.size rfl (.tmp 78) (.tmp 80) 28 3 (.int .i64 0) 8 rfl Tryd.underlying28 info3 rfl (by decide) (by omega) u12 x12_2 100 [.int .i64 100] (fun _ => True) (fun _ => False) rfl rfl ?aP (fun _ hk => hk.elim) ?aF ?aO ?aB ?aS ?aL ?_; (case aP => exact rfl); (case aB => exact (TB2 GE157.out GE158.out)); (case aF => exact (fun _ _ => trivial)); (case aO => exact (TRo HO_12.out)); (case aS => exact (below_size (TB2 GE157.out GE158.out))); (case aL => have := LMc39.out; omega); intro v177 w44 ho hb hg hat; rw [← Ny176.out] at ho; have HO178 := aS (ho); replace HO_10 := aS (Kd.S_after (ok := (fun _ => True)) (by (with_reducible repeat (first | apply Kd.S_alloc | apply Kd.S_drewN | apply Kd.S_drew)); exact Kd.S_mono HO_10.out (fun _ hk => ⟨trivial, hk⟩)) hg hat); replace BK157 := aS (blk_grown (g := gb157) (o := .cells #[.int .i64 a0_0, .slice A0_1 l0_1.length c0_1, .slice (some ad159) l0_2.length c0_2] 27 (0, 0)) (TK BK157.out) hg (Kd.R_ne HO_12.out BK157.out (by decide))); replace BK158 := aS (blk_grown (g := gb158) (o := .cells #[.slice A2_0 l2_0.length c2_0, .slice A2_1 l2_1.length c2_1, .int .i64 a2_2, .int .i64 a2_3] 30 (0, 0)) (TK BK158.out) hg (Kd.R_ne HO_12.out BK158.out (by decide))); replace HB := aS (hb); clear HO_12; clear ho hb hg hat))
      go_roundg k2
      case measure => have := HK1.out; have := HK2.out; omega
      case rel => exact ⟨(y176), (wrap64 (x13_2 + 1)), TT, H', ⟨by have := HK1.out; have := HK2.out; omega⟩, ⟨by (with_reducible repeat (first | apply Kd.S_alloc | apply Kd.S_drewN | apply Kd.S_drew)); exact Kd.S_mono HO_10.out (fun _ hk => hk.2)⟩, ⟨TRo HO178.out⟩, ⟨TK BK157.out⟩, ⟨TK BK158.out⟩, ⟨TB2 GE157.out GE158.out⟩⟩
     subst c16
     have H1 : (if x11_1 = 0 then (rT.j2 k2 a1 a3 (((rd_T62 l0_2 a1).f1).length : Int) x10_1 x11_1 x12_2 x13_2 t164 100 (x13_2 == a3) a0_0 l0_1 l0_2 l2_0 l2_1 a2_2 a2_3) else (rT.j2 k2 a1 a3 (((rd_T62 l0_2 a1).f1).length : Int) x10_1 x11_1 x12_2 x13_2 t164 100 false a0_0 l0_1 l0_2 l2_0 l2_1 a2_2 a2_3)) = some r := by rw [if_pos rfl] at H; exact H
     clear H
     have H := H1
     clear H1
     have HC17 := aS H
     clear H
     have hnb18 := NB157_158.out
     have hnc18 := NB158_157.out
     have hcz19_0 := cz BK157.out 0
     have hcz19_1 := cz BK157.out 1
     have hcz19_2 := cz BK157.out 2
     have hfz19_0 := fz BK157.out 0
     have hfz19_1 := fz BK157.out 1
     have hfz19_2 := fz BK157.out 2
     have hcz20_0 := cz BK158.out 0
     have hcz20_1 := cz BK158.out 1
     have hcz20_2 := cz BK158.out 2
     have hcz20_3 := cz BK158.out 3
     have hfz20_0 := fz BK158.out 0
     have hfz20_1 := fz BK158.out 1
     have hfz20_2 := fz BK158.out 2
     have hfz20_3 := fz BK158.out 3
     go_upto_region 13 with (first | ((with_reducible refine gate_callee (f := 92) rfl ?_); refine goesL_ (some 43) rfl rfl Tryd.func92 (by kernel_rfl) rfl #[.agg #[.int .i64 a0_0, .slice A0_1 l0_1.length c0_1, .slice (some ad159) l0_2.length c0_2], .int .i64 a1, .agg #[.slice A2_0 l2_0.length c2_0, .slice A2_1 l2_1.length c2_1, .int .i64 a2_2, .int .i64 a2_3], .int .i64 x11_1, .int .i64 x13_2] rfl TM ?_; (with_reducible refine (rC.calls k2 a0_0 _ _ l0_1 _ _ l0_2 a1 _ _ l2_0 _ _ l2_1 a2_2 a2_3 x11_1 x13_2 true t164 _ ?side1 ?side2 ?side3 ?side4 ?side5 ?side6 ?side7 ?side8 A15.out).mono ?_); (case side1 => exact TC HR0_1.out); (case side2 => exact HC0_1.out); (case side3 => exact TC HR0_2.out); (case side4 => exact HC0_2.out); (case side5 => exact TC HR2_0.out); (case side6 => exact HC2_0.out); (case side7 => exact TC HR2_1.out); (case side8 => exact HC2_1.out); rintro e w21 ⟨rfl, hb⟩; refine ⟨_, rfl, ?_⟩; replace HO_10 := aS (Kd.S_below (TSo HO_10.out) hb); replace HO_12 := aS (Kd.R_below (TRo HO_12.out) hb); replace BK157 := aS (TKb hb BK157.out); replace BK158 := aS (TKb hb BK158.out); replace HB := aS (below_step (TB2 GE157.out GE158.out) hb); (try clear hb); (try clear hb2); (try clear hk); (try clear hi)))
     (try simp only [Act.put, lA, lZ, lS])
     go_cut [49] (fun v49 wc => ∃ (kq : Nat) (x49_16 : Bool), v49 = .bool x49_16 ∧ Aside0 (rT.j2 kq a1 a3 (((rd_T62 l0_2 a1).f1).length : Int) x10_1 x11_1 x12_2 x13_2 t164 100 x49_16 a0_0 l0_1 l0_2 l2_0 l2_1 a2_2 a2_3 = some r) ∧ Aside0 (kq ≤ k2) ∧ Aside0 (Kd.S (Kd.slice 3 (Kd.int .i64)) 28 wc w.heap.size (fun k_ => some k_ ≠ (u12 : Value).ownBlock) u10 x10_1) ∧ Aside0 (Kd.R (Kd.int .i64) 3 wc w.heap.size (fun _ => True) u12 x12_2) ∧ Aside0 (wc.heap[gb157]? = some (.cells #[.int .i64 a0_0, (.slice A0_1 l0_1.length c0_1), (.slice (some ad159) l0_2.length c0_2)] 27 (0, 0))) ∧ Aside0 (wc.heap[gb158]? = some (.cells #[(.slice A2_0 l2_0.length c2_0), (.slice A2_1 l2_1.length c2_1), .int .i64 a2_2, .int .i64 a2_3] 30 (0, 0))) ∧ Aside0 (Below w.heap.size w wc))
     case first => as_aux_lemma =>
      have H := HC17.out
      clear HC17
      by_cases c22 : x11_1 = 0
      ·rw [if_pos c22] at H
       have c22b0 : (x11_1 == 0) = true := beq_iff_eq.mpr c22
       have c22b1 : (x11_1 != 0) = false := bne_eq_false_iff_eq.mpr c22
       clear c22
       (first | rw [c22b0] | (simp only [i64_w, i32_w]; rw [c22b0]) | skip)
       have H' := aS H
       clear H
       go_wp2
       go_meet
       case rel => exact ⟨_, ((x13_2 == a3)), TT, H', ⟨by have := HK1.out; have := HK2.out; first | omega | exact Nat.le_refl _⟩, ⟨by (with_reducible repeat (first | apply Kd.S_alloc | apply Kd.S_drewN | apply Kd.S_drew)); exact HO_10.out⟩, ⟨TRo HO_12.out⟩, ⟨TK BK157.out⟩, ⟨TK BK158.out⟩, ⟨TB2 GE157.out GE158.out⟩⟩
      rw [if_neg c22] at H
      have c22b0 : (x11_1 == 0) = false := beq_eq_false_iff_ne.mpr c22
      have c22b1 : (x11_1 != 0) = true := bne_iff_ne.mpr c22
      (first | rw [c22b0] | (simp only [i64_w, i32_w]; rw [c22b0]) | skip)
      have H' := aS H
      clear H
      go_wp2
      go_meet
      case rel => exact ⟨_, (false), TT, H', ⟨by have := HK1.out; have := HK2.out; first | omega | exact Nat.le_refl _⟩, ⟨by (with_reducible repeat (first | apply Kd.S_alloc | apply Kd.S_drewN | apply Kd.S_drew)); exact HO_10.out⟩, ⟨TRo HO_12.out⟩, ⟨TK BK157.out⟩, ⟨TK BK158.out⟩, ⟨TB2 GE157.out GE158.out⟩⟩
     case rest => as_aux_lemma =>
      clear HC17
      try clear c1
      try clear p1
      try clear q1
      try clear hx1
      try clear c2
      try clear p2
      try clear c5
      try clear c5b0
      try clear c6
      try clear c6b0
      try clear p6
      try clear c9
      try clear c11
      try clear c11b0
      try clear c12
      try clear c14
      try clear c14b0
      try clear c15
      try clear p15
      try clear q15
      try clear hx15
      try clear c16
      try clear c18
      try clear c22
      try clear c22b0
      try clear c22b1
      try clear hcz10_0 hcz10_1 hcz10_2
      try clear hcz13_0 hcz13_1 hcz13_2 hcz13_3
      try clear hcz19_0 hcz19_1 hcz19_2
      try clear hcz20_0 hcz20_1 hcz20_2 hcz20_3
      try clear hfz10_0 hfz10_1 hfz10_2
      try clear hfz13_0 hfz13_1 hfz13_2 hfz13_3
      try clear hfz19_0 hfz19_1 hfz19_2
      try clear hfz20_0 hfz20_1 hfz20_2 hfz20_3
      try clear hx159_0
      try clear hx159_1
      try clear p1
      try clear p159
      try clear p2
      try clear q1
      try clear q159
      obtain ⟨kq, x49_16, rfl, HA, HJ16, HO_10, HO_12, BK157, BK158, HB⟩ := hcut
      cases kq with
      | zero => exact absurd HA.out (by simp [rT.j2])
      | succ kj16 =>
       have H := HA.out
       clear HA
       simp only [rT.j2] at H
       by_cases c23 : x49_16 = true
       ·subst c23
        have H1 : (if x12_2.length < 17592186044416 then (rT.l1 kj16 a1 a3 (((rd_T62 l0_2 a1).f1).length : Int) x10_1 x11_1 (x12_2 ++ [t164]) (wrap64 (x13_2 + 1)) a0_0 l0_1 l0_2 l2_0 l2_1 a2_2 a2_3) else (none)) = some r := by rw [if_pos rfl] at H; exact H
        clear H
        have H := H1
        clear H1
        by_cases c24 : x12_2.length < 17592186044416
        rotate_left
        ·rw [if_neg c24] at H
         exact absurd H (by simp)
        rw [if_pos c24] at H
        have LMc24 := aS c24
        clear c24
        obtain ⟨y165, hy165⟩ : ∃ y_ : List Int, y_ = (x12_2 ++ [t164]) := ⟨_, rfl⟩
        replace H : (rT.l1 kj16 a1 a3 (((rd_T62 l0_2 a1).f1).length : Int) x10_1 x11_1 y165 (wrap64 (x13_2 + 1)) a0_0 l0_1 l0_2 l2_0 l2_1 a2_2 a2_3) = some r := by first | (rw [hy165]; with_reducible exact H) | (have H2_ := (Option.bind_some _ _).symm.trans H; rw [hy165]; with_reducible exact H2_) | (have H2_ := (Option.bind_some _ _).symm.trans H; with_reducible exact H2_) | with_reducible exact H | (rw [hy165]; exact H) | exact H
        have Ny165 := aS hy165
        clear hy165
        have H' := aS H
        clear H
        go_wp2_with (first | ((with_reducible refine gate_builtin (b := .append) (xs := #[.tmp 78, .tmp 80]) rfl ?_); at_builtin; refine Kd.R_append (Kd.int .i64) (w0 := w) w.heap.size rfl (.tmp 78) (.tmp 80) 28 3 (.int .i64 0) 8 rfl Tryd.underlying28 info3 rfl (by decide) (by omega) u12 x12_2 t164 [.int .i64 t164] (fun _ => True) (fun _ => False) rfl rfl ?aP (fun _ hk => hk.elim) ?aF ?aO ?aB ?aS ?aL ?_; (case aP => exact rfl); (case aB => exact (TB2 GE157.out GE158.out)); (case aF => exact (fun _ _ => trivial)); (case aO => exact (TRo HO_12.out)); (case aS => exact (below_size (TB2 GE157.out GE158.out))); (case aL => have := LMc24.out; omega); intro v166 w25 ho hb hg hat; rw [← Ny165.out] at ho; have HO167 := aS (ho); replace HO_10 := aS (Kd.S_after (ok := (fun _ => True)) (by (with_reducible repeat (first | apply Kd.S_alloc | apply Kd.S_drewN | apply Kd.S_drew)); exact Kd.S_mono HO_10.out (fun _ hk => ⟨trivial, hk⟩)) hg hat); replace BK157 := aS (blk_grown (g := gb157) (o := .cells #[.int .i64 a0_0, .slice A0_1 l0_1.length c0_1, .slice (some ad159) l0_2.length c0_2] 27 (0, 0)) (TK BK157.out) hg (Kd.R_ne HO_12.out BK157.out (by decide))); replace BK158 := aS (blk_grown (g := gb158) (o := .cells #[.slice A2_0 l2_0.length c2_0, .slice A2_1 l2_1.length c2_1, .int .i64 a2_2, .int .i64 a2_3] 30 (0, 0)) (TK BK158.out) hg (Kd.R_ne HO_12.out BK158.out (by decide))); replace HB := aS (hb); clear HO_12; clear ho hb hg hat))
        go_roundg kj16
        case measure => have := HK1.out; have := HK2.out; have := HJ16.out; omega
        case rel => exact ⟨(y165), (wrap64 (x13_2 + 1)), TT, H', ⟨by have := HK1.out; have := HK2.out; have := HJ16.out; omega⟩, ⟨by (with_reducible repeat (first | apply Kd.S_alloc | apply Kd.S_drewN | apply Kd.S_drew)); exact Kd.S_mono HO_10.out (fun _ hk => hk.2)⟩, ⟨TRo HO167.out⟩, ⟨TK BK157.out⟩, ⟨TK BK158.out⟩, ⟨TB2 GE157.out GE158.out⟩⟩
       replace c23 := Bool.eq_false_iff.mpr c23
       subst c23
       have H1 : (if x11_1 > 0 then (rT.l2 kj16 a1 a3 (((rd_T62 l0_2 a1).f1).length : Int) x10_1 x11_1 x12_2 x13_2 t164 100 0 a0_0 l0_1 l0_2 l2_0 l2_1 a2_2 a2_3) else (if x12_2.length < 17592186044416 then (rT.l1 kj16 a1 a3 (((rd_T62 l0_2 a1).f1).length : Int) x10_1 x11_1 (x12_2 ++ [100]) (wrap64 (x13_2 + 1)) a0_0 l0_1 l0_2 l2_0 l2_1 a2_2 a2_3) else (none))) = some r := by rw [if_neg (show ¬ (false = true) by decide)] at H; exact H
       clear H
       have H := H1
       clear H1
       by_cases c26 : x11_1 > 0
       rotate_left
       ·rw [if_neg c26] at H
        have c26b0 : decide (0 < x11_1) = false := decide_eq_false c26
        clear c26
        by_cases c37 : x12_2.length < 17592186044416
        rotate_left
        ·rw [if_neg c37] at H
         exact absurd H (by simp)
        rw [if_pos c37] at H
        have LMc37 := aS c37
        clear c37
        obtain ⟨y173, hy173⟩ : ∃ y_ : List Int, y_ = (x12_2 ++ [100]) := ⟨_, rfl⟩
        replace H : (rT.l1 kj16 a1 a3 (((rd_T62 l0_2 a1).f1).length : Int) x10_1 x11_1 y173 (wrap64 (x13_2 + 1)) a0_0 l0_1 l0_2 l2_0 l2_1 a2_2 a2_3) = some r := by first | (rw [hy173]; with_reducible exact H) | (have H2_ := (Option.bind_some _ _).symm.trans H; rw [hy173]; with_reducible exact H2_) | (have H2_ := (Option.bind_some _ _).symm.trans H; with_reducible exact H2_) | with_reducible exact H | (rw [hy173]; exact H) | exact H
        have Ny173 := aS hy173
        clear hy173
        have H' := aS H
        clear H
        go_wp2_with (first | ((with_reducible refine gate_builtin (b := .append) (xs := #[.tmp 78, .tmp 80]) rfl ?_); at_builtin; refine Kd.R_append (Kd.int .i64) (w0 := w) w.heap.size rfl (.tmp 78) (.tmp 80) 28 3 (.int .i64 0) 8 rfl Tryd.underlying28 info3 rfl (by decide) (by omega) u12 x12_2 100 [.int .i64 100] (fun _ => True) (fun _ => False) rfl rfl ?aP (fun _ hk => hk.elim) ?aF ?aO ?aB ?aS ?aL ?_; (case aP => exact rfl); (case aB => exact (TB2 GE157.out GE158.out)); (case aF => exact (fun _ _ => trivial)); (case aO => exact (TRo HO_12.out)); (case aS => exact (below_size (TB2 GE157.out GE158.out))); (case aL => have := LMc37.out; omega); intro v174 w38 ho hb hg hat; rw [← Ny173.out] at ho; have HO175 := aS (ho); replace HO_10 := aS (Kd.S_after (ok := (fun _ => True)) (by (with_reducible repeat (first | apply Kd.S_alloc | apply Kd.S_drewN | apply Kd.S_drew)); exact Kd.S_mono HO_10.out (fun _ hk => ⟨trivial, hk⟩)) hg hat); replace BK157 := aS (blk_grown (g := gb157) (o := .cells #[.int .i64 a0_0, .slice A0_1 l0_1.length c0_1, .slice (some ad159) l0_2.length c0_2] 27 (0, 0)) (TK BK157.out) hg (Kd.R_ne HO_12.out BK157.out (by decide))); replace BK158 := aS (blk_grown (g := gb158) (o := .cells #[.slice A2_0 l2_0.length c2_0, .slice A2_1 l2_1.length c2_1, .int .i64 a2_2, .int .i64 a2_3] 30 (0, 0)) (TK BK158.out) hg (Kd.R_ne HO_12.out BK158.out (by decide))); replace HB := aS (hb); clear HO_12; clear ho hb hg hat))
        go_roundg kj16
        case measure => have := HK1.out; have := HK2.out; have := HJ16.out; omega
        case rel => exact ⟨(y173), (wrap64 (x13_2 + 1)), TT, H', ⟨by have := HK1.out; have := HK2.out; have := HJ16.out; omega⟩, ⟨by (with_reducible repeat (first | apply Kd.S_alloc | apply Kd.S_drewN | apply Kd.S_drew)); exact Kd.S_mono HO_10.out (fun _ hk => hk.2)⟩, ⟨TRo HO175.out⟩, ⟨TK BK157.out⟩, ⟨TK BK158.out⟩, ⟨TB2 GE157.out GE158.out⟩⟩
       rw [if_pos c26] at H
       have c26b0 : decide (0 < x11_1) = true := decide_eq_true c26
       clear c26
       have H' := aS H
       clear H
       go_wp2
       go_loopg [16, 17] kj16 (fun kq v16 v17 w' => ∃ (x16_4 : Int) (x17_4 : Int), v16 = .int .i64 x16_4 ∧ v17 = .int .i64 x17_4 ∧ Aside0 (rT.l2 kq a1 a3 (((rd_T62 l0_2 a1).f1).length : Int) x10_1 x11_1 x12_2 x13_2 t164 x16_4 x17_4 a0_0 l0_1 l0_2 l2_0 l2_1 a2_2 a2_3 = some r) ∧ Aside0 (kq ≤ kj16) ∧ Aside0 (Kd.S (Kd.slice 3 (Kd.int .i64)) 28 w' w.heap.size (fun k_ => some k_ ≠ (u12 : Value).ownBlock) u10 x10_1) ∧ Aside0 (Kd.R (Kd.int .i64) 3 w' w.heap.size (fun _ => True) u12 x12_2) ∧ Aside0 (w'.heap[gb157]? = some (.cells #[.int .i64 a0_0, (.slice A0_1 l0_1.length c0_1), (.slice (some ad159) l0_2.length c0_2)] 27 (0, 0))) ∧ Aside0 (w'.heap[gb158]? = some (.cells #[(.slice A2_0 l2_0.length c2_0), (.slice A2_1 l2_1.length c2_1), .int .i64 a2_2, .int .i64 a2_3] 30 (0, 0))) ∧ Aside0 (Below w.heap.size w w'))
       case atStart => exact ⟨(100), (0), TT, TT, H', ⟨Nat.le_refl _⟩, ⟨by (with_reducible repeat (first | apply Kd.S_alloc | apply Kd.S_drewN | apply Kd.S_drew)); exact HO_10.out⟩, ⟨TRo HO_12.out⟩, ⟨TK BK157.out⟩, ⟨TK BK158.out⟩, ⟨TB2 GE157.out GE158.out⟩⟩
       case round => as_aux_lemma =>
        clear H'
        try clear c1
        try clear p1
        try clear q1
        try clear hx1
        try clear c2
        try clear p2
        try clear c5
        try clear c5b0
        try clear c6
        try clear c6b0
        try clear p6
        try clear c9
        try clear c11
        try clear c11b0
        try clear c12
        try clear c14
        try clear c14b0
        try clear c15
        try clear p15
        try clear q15
        try clear hx15
        try clear c16
        try clear c18
        try clear c22
        try clear c22b0
        try clear c22b1
        try clear c23
        try clear c24
        try clear c26
        try clear c26b0
        try clear hcz10_0 hcz10_1 hcz10_2
        try clear hcz13_0 hcz13_1 hcz13_2 hcz13_3
        try clear hcz19_0 hcz19_1 hcz19_2
        try clear hcz20_0 hcz20_1 hcz20_2 hcz20_3
        try clear hfz10_0 hfz10_1 hfz10_2
        try clear hfz13_0 hfz13_1 hfz13_2 hfz13_3
        try clear hfz19_0 hfz19_1 hfz19_2
        try clear hfz20_0 hfz20_1 hfz20_2 hfz20_3
        try clear hx159_0
        try clear hx159_1
        try clear p1
        try clear p15
        try clear p159
        try clear p2
        try clear p6
        try clear q1
        try clear q15
        try clear q159
        obtain ⟨x16_4, x17_4, rfl, rfl, HA, HK4, HO_10, HO_12, BK157, BK158, HB⟩ := hrel
        cases gk with
        | zero => exact absurd HA.out (by simp [rT.l2])
        | succ k4 =>
         have H := HA.out
         clear HA
         simp only [rT.l2] at H
         by_cases c27 : x17_4 < x13_2
         rotate_left
         ·rw [if_neg c27] at H
          have c27b0 : decide (x17_4 < x13_2) = false := decide_eq_false c27
          clear c27
          by_cases c35 : x12_2.length < 17592186044416
          rotate_left
          ·rw [if_neg c35] at H
           exact absurd H (by simp)
          rw [if_pos c35] at H
          have LMc35 := aS c35
          clear c35
          obtain ⟨y170, hy170⟩ : ∃ y_ : List Int, y_ = (x12_2 ++ [x16_4]) := ⟨_, rfl⟩
          replace H : (rT.l1 k4 a1 a3 (((rd_T62 l0_2 a1).f1).length : Int) x10_1 x11_1 y170 (wrap64 (x13_2 + 1)) a0_0 l0_1 l0_2 l2_0 l2_1 a2_2 a2_3) = some r := by first | (rw [hy170]; with_reducible exact H) | (have H2_ := (Option.bind_some _ _).symm.trans H; rw [hy170]; with_reducible exact H2_) | (have H2_ := (Option.bind_some _ _).symm.trans H; with_reducible exact H2_) | with_reducible exact H | (rw [hy170]; exact H) | exact H
          have Ny170 := aS hy170
          clear hy170
          have H' := aS H
          clear H
          go_wp2_with (first | ((with_reducible refine gate_builtin (b := .append) (xs := #[.tmp 78, .tmp 80]) rfl ?_); at_builtin; refine Kd.R_append (Kd.int .i64) (w0 := w) w.heap.size rfl (.tmp 78) (.tmp 80) 28 3 (.int .i64 0) 8 rfl Tryd.underlying28 info3 rfl (by decide) (by omega) u12 x12_2 x16_4 [.int .i64 x16_4] (fun _ => True) (fun _ => False) rfl rfl ?aP (fun _ hk => hk.elim) ?aF ?aO ?aB ?aS ?aL ?_; (case aP => exact rfl); (case aB => exact (TB2 GE157.out GE158.out)); (case aF => exact (fun _ _ => trivial)); (case aO => exact (TRo HO_12.out)); (case aS => exact (below_size (TB2 GE157.out GE158.out))); (case aL => have := LMc35.out; omega); intro v171 w36 ho hb hg hat; rw [← Ny170.out] at ho; have HO172 := aS (ho); replace HO_10 := aS (Kd.S_after (ok := (fun _ => True)) (by (with_reducible repeat (first | apply Kd.S_alloc | apply Kd.S_drewN | apply Kd.S_drew)); exact Kd.S_mono HO_10.out (fun _ hk => ⟨trivial, hk⟩)) hg hat); replace BK157 := aS (blk_grown (g := gb157) (o := .cells #[.int .i64 a0_0, .slice A0_1 l0_1.length c0_1, .slice (some ad159) l0_2.length c0_2] 27 (0, 0)) (TK BK157.out) hg (Kd.R_ne HO_12.out BK157.out (by decide))); replace BK158 := aS (blk_grown (g := gb158) (o := .cells #[.slice A2_0 l2_0.length c2_0, .slice A2_1 l2_1.length c2_1, .int .i64 a2_2, .int .i64 a2_3] 30 (0, 0)) (TK BK158.out) hg (Kd.R_ne HO_12.out BK158.out (by decide))); replace HB := aS (hb); clear HO_12; clear ho hb hg hat))
          go_roundg k4
          case measure => have := HK1.out; have := HK2.out; have := HJ16.out; have := HK4.out; omega
          case rel => exact ⟨(y170), (wrap64 (x13_2 + 1)), TT, H', ⟨by have := HK1.out; have := HK2.out; have := HJ16.out; have := HK4.out; omega⟩, ⟨by (with_reducible repeat (first | apply Kd.S_alloc | apply Kd.S_drewN | apply Kd.S_drew)); exact Kd.S_mono HO_10.out (fun _ hk => hk.2)⟩, ⟨TRo HO172.out⟩, ⟨TK BK157.out⟩, ⟨TK BK158.out⟩, ⟨TB2 GE157.out GE158.out⟩⟩
         rw [if_pos c27] at H
         have c27b0 : decide (x17_4 < x13_2) = true := decide_eq_true c27
         clear c27
         obtain ⟨ji28, hji28⟩ : ∃ j_ : Int, (wrap64 (x11_1 - 1)) = j_ := ⟨_, rfl⟩
         replace H : (if 0 ≤ (ji28) then (if (ji28) < (x10_1.length : Int) then (if 0 ≤ x17_4 then (if x17_4 < ((rd_L1 x10_1 (ji28)).length : Int) then (rT.l2 k4 a1 a3 (((rd_T62 l0_2 a1).f1).length : Int) x10_1 x11_1 x12_2 x13_2 t164 (mn x16_4 (wrap64 ((rd (rd_L1 x10_1 (ji28)) x17_4) + t164))) (wrap64 (x17_4 + 1)) a0_0 l0_1 l0_2 l2_0 l2_1 a2_2 a2_3) else (none)) else (none)) else (none)) else (none)) = some r := by first | (rw [hji28] at H; exact H) | (simp only [hji28] at H ⊢; exact H)
         have hji28w : (IntKind.i64.wrap (x11_1 - 1)) = ji28 := (i64_w _).trans hji28
         by_cases c29 : 0 ≤ (ji28)
         rotate_left
         ·rw [if_neg c29] at H
          exact absurd H (by simp)
         rw [if_pos c29] at H
         have c29b0 : decide (0 ≤ (ji28)) = true := decide_eq_true c29
         clear c29
         by_cases c30 : (ji28) < (x10_1.length : Int)
         rotate_left
         ·rw [if_neg c30] at H
          exact absurd H (by simp)
         rw [if_pos c30] at H
         have c30b0 : decide ((ji28) < (x10_1.length : Int)) = true := decide_eq_true c30
         clear c30
         by_cases c31 : 0 ≤ x17_4
         rotate_left
         ·rw [if_neg c31] at H
          exact absurd H (by simp)
         rw [if_pos c31] at H
         have c31b0 : decide (0 ≤ x17_4) = true := decide_eq_true c31
         clear c31
         by_cases c32 : x17_4 < ((rd_L1 x10_1 (ji28)).length : Int)
         rotate_left
         ·rw [if_neg c32] at H
          exact absurd H (by simp)
         rw [if_pos c32] at H
         have c32b0 : decide (x17_4 < ((rd_L1 x10_1 (ji28)).length : Int)) = true := decide_eq_true c32
         clear c32
         obtain ⟨ji33, hji33⟩ : ∃ j_ : Int, (mn x16_4 (wrap64 ((rd (rd_L1 x10_1 (ji28)) x17_4) + t164))) = j_ := ⟨_, rfl⟩
         replace H : (rT.l2 k4 a1 a3 (((rd_T62 l0_2 a1).f1).length : Int) x10_1 x11_1 x12_2 x13_2 t164 ji33 (wrap64 (x17_4 + 1)) a0_0 l0_1 l0_2 l2_0 l2_1 a2_2 a2_3) = some r := by first | (rw [hji33] at H; exact H) | (simp only [hji33] at H ⊢; exact H)
         have hji33_ : (if (wrap64 ((rd (rd_L1 x10_1 (ji28)) x17_4) + t164)) < x16_4 then (wrap64 ((rd (rd_L1 x10_1 (ji28)) x17_4) + t164)) else x16_4) = ji33 := hji33
         have H' := aS H
         clear H
         obtain ⟨Ao34, co34, eo34⟩ := Kd.S_slice HO_10.out
         subst eo34
         have p168 : 0 ≤ ((ji28) : Int) := of_decide_eq_true TA
         have q168 : (ji28) < (x10_1.length : Int) := of_decide_eq_true TA
         obtain ⟨ad168, A168_0, c168_0, e168, hx168_0, hl168_0, hi168_0⟩ := at_L1 (Kd.S_reads' HO_10.out).2.2 (ji28) p168 q168
         cases e168
         obtain ⟨ce168, hce168, hMe168, hcc168⟩ := Kd.S_get HO_10.out [] (ji28) p168 (by first | exact q168 | exact of_decide_eq_true TA | (have e_ := (Kd.S_reads' HO_10.out).1; omega))
         obtain ⟨ve168_0, rfl, ge168_0⟩ := hMe168
         have hv168_0 := hcc168 0 _ rfl
         rw [Nat.add_zero, show ((Kd.slice 3 (Kd.int .i64))).sz = 1 from rfl, Nat.mul_one] at hv168_0
         replace hv168_0 := Option.some.inj (hv168_0.symm.trans hx168_0)
         rw [hv168_0] at ge168_0
         have HL168_0 := aS (show Kd.R (Kd.int .i64) 3 _ _ _ _ (rd_L1 x10_1 (ji28)) from ge168_0)
         clear hv168_0 ge168_0
         clear hcc168 hce168
         have HR168_0 := aS hi168_0
         have HC168_0 := aS hl168_0
         clear hi168_0 hl168_0
         replace p168 := eq_true p168
         replace q168 := eq_true q168
         have p169 : 0 ≤ (x17_4 : Int) := of_decide_eq_true TA
         have q169 : x17_4 < ((rd_L1 x10_1 (ji28)).length : Int) := of_decide_eq_true TA
         obtain ⟨ad169, e169, hx169_0⟩ := Kd.at_int (by repeat (first | (with_reducible exact HR168_0.out) | (with_reducible refine Kd.C_alloc ?_ _) | (with_reducible refine Kd.C_drewN ?_ _) | (with_reducible refine Kd.C_drew ?_) | exact HR168_0.out)) x17_4 p169 q169
         cases e169
         replace p169 := eq_true p169
         replace q169 := eq_true q169
         go_wp2
         go_roundg k4
         case measure => have := HK1.out; have := HK2.out; have := HJ16.out; have := HK4.out; omega
         case rel => exact ⟨(ji33), (wrap64 (x17_4 + 1)), (by first | rfl | (simp; done) | (simp only [← hji33] <;> (first | rfl | simp)) | (simp [*]; done)), TT, H', ⟨by have := HK1.out; have := HK2.out; have := HJ16.out; have := HK4.out; omega⟩, ⟨by (with_reducible repeat (first | apply Kd.S_alloc | apply Kd.S_drewN | apply Kd.S_drew)); exact HO_10.out⟩, ⟨TRo HO_12.out⟩, ⟨TK BK157.out⟩, ⟨TK BK158.out⟩, ⟨TB2 GE157.out GE158.out⟩⟩
end Go.Proofs.YtfdenclnneigfaaDoor.PRaspKeys
namespace Go.Proofs.YtfdenclnneigfaaDoor.PRaspKeys
open Go.RowKit Go.Proofs.YtfdenclnneigfaaDoorW.PrintWords Go.Proofs.YtfdenclnneigfaaDoorW.PrintLast Go.Proofs.YtfdenclnneigfaaDoorW.PrintMore Go.Proofs.YtfdenclnneigfaaDoor.M
attribute [local go_sem] max2_int min2_int max_two min_two max_three min_three max_four min_four   -- for this text's walks alone
def rE.l0 : Nat → Int → Int → List Int → List Int → Int → List Int → List Int → Int → Int → Option (List Int)
 | 0, _, _, _, _, _, _, _, _, _ => none
 | k + 1, x3, x4, x12, x13, x14, x181000, x181001, x181002, x181003 => if x14 < (x12.length : Int) then (if 0 ≤ x14 then (if (rd x12 x14) ≤ x181003 then (if (wrap64 ((wrap64 ((wrap64 (x14 - x3)) + 1)) - (x181000.length : Int))) ≤ x4 then (if x13.length < 17592186044416 then (rE.l0 k x3 x4 x12 (x13 ++ [x14]) (wrap64 (x14 + 1)) x181000 x181001 x181002 x181003) else (none)) else (rE.l0 k x3 x4 x12 x13 (wrap64 (x14 + 1)) x181000 x181001 x181002 x181003)) else (rE.l0 k x3 x4 x12 x13 (wrap64 (x14 + 1)) x181000 x181001 x181002 x181003)) else (none)) else (some x13)
def rE.f (k : Nat) (a0_0 : Int) (l0_1 : List (S114)) (l0_2 : List (S62)) (a1 : Int) (l2_0 : List Int) (l2_1 : List Int) (a2_2 : Int) (a2_3 : Int) (a3 : Int) (a4 : Int) : Option (List Int) := (rT.f k a0_0 l0_1 l0_2 a1 l2_0 l2_1 a2_2 a2_3 a3).bind fun t181 => (if 0 ≤ (wrap64 ((t181.length : Int) - 1)) then (if (wrap64 ((t181.length : Int) - 1)) < (t181.length : Int) then (rE.l0 k a3 a4 (rd_L1 t181 (wrap64 ((t181.length : Int) - 1))) ([] : List Int) a3 l2_0 l2_1 a2_2 a2_3) else (none)) else (none))
theorem rE.mono_l : ∀ k, (∀ y0 y1 y2 y3 y4 y5 y6 y7 y8, LeO (rE.l0 k y0 y1 y2 y3 y4 y5 y6 y7 y8) (rE.l0 (k + 1) y0 y1 y2 y3 y4 y5 y6 y7 y8))
 | 0 => fun _ _ _ _ _ _ _ _ _ r h => by simp [rE.l0] at h
 | k + 1 => by
  have ih0 := rE.mono_l k
  intro y0 y1 y2 y3 y4 y5 y6 y7 y8
  unfold rE.l0
  repeat' first
  | (with_reducible exact ih0 _ _ _ _ _ _ _ _ _)
  | (with_reducible exact rT.mono _ _ _ _ _ _ _ _ _ _)
  | (with_reducible exact LeO.refl _)
  | (with_reducible exact LeO.none _)
  | (with_reducible refine LeO.ite ?_ ?_)
  | (with_reducible refine LeO.bind ?_ (fun _ => ?_))
  | exact ih0 _ _ _ _ _ _ _ _ _
  | exact rT.mono _ _ _ _ _ _ _ _ _ _
  | exact LeO.none _
  | refine LeO.ite ?_ ?_
  | refine LeO.bind ?_ (fun _ => ?_)
theorem rE.mono : ∀ a0 a1 a2 a3 a4 a5 a6 a7 a8 a9 k, LeO (rE.f k a0 a1 a2 a3 a4 a5 a6 a7 a8 a9) (rE.f (k + 1) a0 a1 a2 a3 a4 a5 a6 a7 a8 a9) := by
 intro a0 a1 a2 a3 a4 a5 a6 a7 a8 a9 k
 have ih0 := rE.mono_l k
 unfold rE.f
 repeat' first
   | (with_reducible exact ih0 _ _ _ _ _ _ _ _ _)
   | (with_reducible exact rT.mono _ _ _ _ _ _ _ _ _ _)
   | (with_reducible exact LeO.refl _)
   | (with_reducible exact LeO.none _)
   | (with_reducible refine LeO.ite ?_ ?_)
   | (with_reducible refine LeO.bind ?_ (fun _ => ?_))
   | exact ih0 _ _ _ _ _ _ _ _ _
   | exact rT.mono _ _ _ _ _ _ _ _ _ _
   | exact LeO.none _
   | refine LeO.ite ?_ ?_
   | refine LeO.bind ?_ (fun _ => ?_)
set_option maxHeartbeats 8000000 in
set_option maxRecDepth 100000 in
theorem rE.calls (k : Nat) (a0_0 : Int) (A0_1 : Option Addr) (c0_1 : Nat) (l0_1 : List (S114)) (A0_2 : Option Addr) (c0_2 : Nat) (l0_2 : List (S62)) (a1 : Int) (A2_0 : Option Addr) (c2_0 : Nat) (l2_0 : List Int) (A2_1 : Option Addr) (c2_1 : Nat) (l2_1 : List Int) (a2_2 : Int) (a2_3 : Int) (a3 : Int) (a4 : Int) (r : List Int) (w : World) (hr0_1 : Kd.C k114 w A0_1 l0_1.length l0_1) (hc0_1 : l0_1.length ≤ c0_1) (hr0_2 : Kd.C k62 w A0_2 l0_2.length l0_2) (hc0_2 : l0_2.length ≤ c0_2) (hr2_0 : Kd.C (Kd.int .i64) w A2_0 l2_0.length l2_0) (hc2_0 : l2_0.length ≤ c2_0) (hr2_1 : Kd.C (Kd.int .i64) w A2_1 l2_1.length l2_1) (hc2_1 : l2_1.length ≤ c2_1) (h : rE.f k a0_0 l0_1 l0_2 a1 l2_0 l2_1 a2_2 a2_3 a3 a4 = some r) :
  Calls Tryd.prog 67 #[.agg #[.int .i64 a0_0, .slice A0_1 l0_1.length c0_1, .slice A0_2 l0_2.length c0_2], .int .i64 a1, .agg #[.slice A2_0 l2_0.length c2_0, .slice A2_1 l2_1.length c2_1, .int .i64 a2_2, .int .i64 a2_3], .int .i64 a3, .int .i64 a4] w fun e w' => ∃ v0_ : Value, e = .returned (v0_) ∧ Kd.R (Kd.int .i64) 3 w' w.heap.size (fun _ => True) v0_ r ∧ Below w.heap.size w w' := by
 have hu27 := Tryd.underlying27
 have hu30 := Tryd.underlying30
 have HR0_1 := aS hr0_1
 have HC0_1 := aS hc0_1
 clear hr0_1 hc0_1
 have HR0_2 := aS hr0_2
 have HC0_2 := aS hc0_2
 clear hr0_2 hc0_2
 have HR2_0 := aS hr2_0
 have HC2_0 := aS hc2_0
 clear hr2_0 hc2_0
 have HR2_1 := aS hr2_1
 have HC2_1 := aS hc2_1
 clear hr2_1 hc2_1
 have HB := aS (Below.refl w.heap.size w)
 have H : ((rT.f k a0_0 l0_1 l0_2 a1 l2_0 l2_1 a2_2 a2_3 a3).bind fun t181 => (if 0 ≤ (wrap64 ((t181.length : Int) - 1)) then (if (wrap64 ((t181.length : Int) - 1)) < (t181.length : Int) then (rE.l0 k a3 a4 (rd_L1 t181 (wrap64 ((t181.length : Int) - 1))) ([] : List Int) a3 l2_0 l2_1 a2_2 a2_3) else (none)) else (none))) = some r := h
 clear h
 replace H := Option.bind_eq_some_iff.mp H
 obtain ⟨t181, A60, H⟩ := H
 replace H : (if 0 ≤ (wrap64 ((t181.length : Int) - 1)) then (if (wrap64 ((t181.length : Int) - 1)) < (t181.length : Int) then (rE.l0 k a3 a4 (rd_L1 t181 (wrap64 ((t181.length : Int) - 1))) ([] : List Int) a3 l2_0 l2_1 a2_2 a2_3) else (none)) else (none)) = some r := H
 have A6 := aS A60
 clear A60
 obtain ⟨ji7, hji7⟩ : ∃ j_ : Int, (wrap64 ((t181.length : Int) - 1)) = j_ := ⟨_, rfl⟩
 replace H : (if 0 ≤ (ji7) then (if (ji7) < (t181.length : Int) then (rE.l0 k a3 a4 (rd_L1 t181 (ji7)) ([] : List Int) a3 l2_0 l2_1 a2_2 a2_3) else (none)) else (none)) = some r := by first | (rw [hji7] at H; exact H) | (simp only [hji7] at H ⊢; exact H)
 (try rw [hji7] at A6)
 have hji7w : (IntKind.i64.wrap ((t181.length : Int) - 1)) = ji7 := (i64_w _).trans hji7
 by_cases c8 : 0 ≤ (ji7)
 rotate_left
 ·rw [if_neg c8] at H
  exact absurd H (by simp)
 rw [if_pos c8] at H
 have c8b0 : decide (0 ≤ (ji7)) = true := decide_eq_true c8
 clear c8
 by_cases c9 : (ji7) < (t181.length : Int)
 rotate_left
 ·rw [if_neg c9] at H
  exact absurd H (by simp)
 rw [if_pos c9] at H
 have c9b0 : decide ((ji7) < (t181.length : Int)) = true := decide_eq_true c9
 clear c9
 have H' := aS H
 clear H
 go_enter Tryd.func67, Tryd.ntmps67
 go_wp2_with (first | ((with_reducible refine gate_dst (N := 5) rfl ?_); (try (refine gate_guard (by rfl) ?_; dsimp only)); refine box_event ?hg (N := 5) ?hd (cs := #[.int .i64 a0_0, .slice A0_1 l0_1.length c0_1, .slice A0_2 l0_2.length c0_2]) (t := 27) ?hr ?_; (case hd => rfl); (case hg => rfl); (case hr => exact TS); intro gb179 hg w10 hbox hb; have BK179 := aS (hbox); have GW179 := aS ((TG : w.heap.size ≤ gb179)); have GE179 := aS ((TG : w.heap.size ≤ gb179)); replace HB := aS (below_step TB hb); clear hb hbox hg) | ((with_reducible refine gate_dst (N := 7) rfl ?_); (try (refine gate_guard (by rfl) ?_; dsimp only)); refine box_event ?hg (N := 7) ?hd (cs := #[.slice A2_0 l2_0.length c2_0, .slice A2_1 l2_1.length c2_1, .int .i64 a2_2, .int .i64 a2_3]) (t := 30) ?hr ?_; (case hd => rfl); (case hg => rfl); (case hr => exact TS); intro gb180 hg w11 hbox hb; have BK180 := aS (hbox); have GW180 := aS ((TG1 GE179.out : w.heap.size ≤ gb180)); have GE180 := aS ((TG1 GE179.out : w.heap.size ≤ gb180)); have NB179_180 := aS ((by rw [hg]; exact Nat.ne_of_lt (blk_lt (g := gb179) (o := .cells #[.int .i64 a0_0, .slice A0_1 l0_1.length c0_1, .slice A0_2 l0_2.length c0_2] 27 (0, 0)) (TK BK179.out)) : gb179 ≠ gb180)); have NB180_179 := aS ((by rw [hg]; exact Nat.ne_of_gt (blk_lt (g := gb179) (o := .cells #[.int .i64 a0_0, .slice A0_1 l0_1.length c0_1, .slice A0_2 l0_2.length c0_2] 27 (0, 0)) (TK BK179.out)) : gb180 ≠ gb179)); replace BK179 := aS (TKb hb BK179.out); replace HB := aS (below_step (TB1 GE179.out) hb); clear hb hbox hg; have hnb12 := NB179_180.out; have hnc12 := NB180_179.out; have hcz13_0 := cz BK179.out 0; have hcz13_1 := cz BK179.out 1; have hcz13_2 := cz BK179.out 2; have hfz13_0 := fz BK179.out 0; have hfz13_1 := fz BK179.out 1; have hfz13_2 := fz BK179.out 2; have hcz14_0 := cz BK180.out 0; have hcz14_1 := cz BK180.out 1; have hcz14_2 := cz BK180.out 2; have hcz14_3 := cz BK180.out 3; have hfz14_0 := fz BK180.out 0; have hfz14_1 := fz BK180.out 1; have hfz14_2 := fz BK180.out 2; have hfz14_3 := fz BK180.out 3) | (go_at_call 91; (with_reducible refine (rT.calls k a0_0 _ _ l0_1 _ _ l0_2 a1 _ _ l2_0 _ _ l2_1 a2_2 a2_3 a3 t181 _ ?side1 ?side2 ?side3 ?side4 ?side5 ?side6 ?side7 ?side8 A6.out).mono ?_); (case side1 => exact TC HR0_1.out); (case side2 => exact HC0_1.out); (case side3 => exact TC HR0_2.out); (case side4 => exact HC0_2.out); (case side5 => exact TC HR2_0.out); (case side6 => exact HC2_0.out); (case side7 => exact TC HR2_1.out); (case side8 => exact HC2_1.out); rintro e w15 ⟨v182, rfl, ho0, hb⟩; have HO183 := aS (Kd.S_lower ho0 (below_size (TB2 GE179.out GE180.out))); replace BK179 := aS (TKb hb BK179.out); replace BK180 := aS (TKb hb BK180.out); replace HB := aS (below_step (TB2 GE179.out GE180.out) hb); (try clear hb); (try clear hb2); (try clear hk); (try clear hi); (try clear ho0); obtain ⟨Ao16, co16, eo16⟩ := Kd.S_slice HO183.out; subst eo16; have p184 : 0 ≤ ((ji7) : Int) := of_decide_eq_true TA; have q184 : (ji7) < (t181.length : Int) := of_decide_eq_true TA; obtain ⟨ad184, A184_0, c184_0, e184, hx184_0, hl184_0, hi184_0⟩ := at_L1 (Kd.S_reads' HO183.out).2.2 (ji7) p184 q184; cases e184; obtain ⟨ce184, hce184, hMe184, hcc184⟩ := Kd.S_get HO183.out [] (ji7) p184 (by first | exact q184 | exact of_decide_eq_true TA | (have e_ := (Kd.S_reads' HO183.out).1; omega)); obtain ⟨ve184_0, rfl, ge184_0⟩ := hMe184; have hv184_0 := hcc184 0 _ rfl; rw [Nat.add_zero, show ((Kd.slice 3 (Kd.int .i64))).sz = 1 from rfl, Nat.mul_one] at hv184_0; replace hv184_0 := Option.some.inj (hv184_0.symm.trans hx184_0); rw [hv184_0] at ge184_0; have HL184_0 := aS (show Kd.R (Kd.int .i64) 3 _ _ _ _ (rd_L1 t181 (ji7)) from ge184_0); clear hv184_0 ge184_0; clear hcc184 hce184; have HR184_0 := aS hi184_0; have HC184_0 := aS hl184_0; clear hi184_0 hl184_0; replace p184 := eq_true p184; replace q184 := eq_true q184))
 repeat (go_quiet (first | ((with_reducible refine gate_dst (N := 5) rfl ?_); (try (refine gate_guard (by rfl) ?_; dsimp only)); refine box_event ?hg (N := 5) ?hd (cs := #[.int .i64 a0_0, .slice A0_1 l0_1.length c0_1, .slice A0_2 l0_2.length c0_2]) (t := 27) ?hr ?_; (case hd => rfl); (case hg => rfl); (case hr => exact TS); intro gb179 hg w10 hbox hb; have BK179 := aS (hbox); have GW179 := aS ((TG : w.heap.size ≤ gb179)); have GE179 := aS ((TG : w.heap.size ≤ gb179)); replace HB := aS (below_step TB hb); clear hb hbox hg) | ((with_reducible refine gate_dst (N := 7) rfl ?_); (try (refine gate_guard (by rfl) ?_; dsimp only)); refine box_event ?hg (N := 7) ?hd (cs := #[.slice A2_0 l2_0.length c2_0, .slice A2_1 l2_1.length c2_1, .int .i64 a2_2, .int .i64 a2_3]) (t := 30) ?hr ?_; (case hd => rfl); (case hg => rfl); (case hr => exact TS); intro gb180 hg w11 hbox hb; have BK180 := aS (hbox); have GW180 := aS ((TG1 GE179.out : w.heap.size ≤ gb180)); have GE180 := aS ((TG1 GE179.out : w.heap.size ≤ gb180)); have NB179_180 := aS ((by rw [hg]; exact Nat.ne_of_lt (blk_lt (g := gb179) (o := .cells #[.int .i64 a0_0, .slice A0_1 l0_1.length c0_1, .slice A0_2 l0_2.length c0_2] 27 (0, 0)) (TK BK179.out)) : gb179 ≠ gb180)); have NB180_179 := aS ((by rw [hg]; exact Nat.ne_of_gt (blk_lt (g := gb179) (o := .cells #[.int .i64 a0_0, .slice A0_1 l0_1.length c0_1, .slice A0_2 l0_2.length c0_2] 27 (0, 0)) (TK BK179.out)) : gb180 ≠ gb179)); replace BK179 := aS (TKb hb BK179.out); replace HB := aS (below_step (TB1 GE179.out) hb); clear hb hbox hg; have hnb12 := NB179_180.out; have hnc12 := NB180_179.out; have hcz13_0 := cz BK179.out 0; have hcz13_1 := cz BK179.out 1; have hcz13_2 := cz BK179.out 2; have hfz13_0 := fz BK179.out 0; have hfz13_1 := fz BK179.out 1; have hfz13_2 := fz BK179.out 2; have hcz14_0 := cz BK180.out 0; have hcz14_1 := cz BK180.out 1; have hcz14_2 := cz BK180.out 2; have hcz14_3 := cz BK180.out 3; have hfz14_0 := fz BK180.out 0; have hfz14_1 := fz BK180.out 1; have hfz14_2 := fz BK180.out 2; have hfz14_3 := fz BK180.out 3) | (go_at_call 91; (with_reducible refine (rT.calls k a0_0 _ _ l0_1 _ _ l0_2 a1 _ _ l2_0 _ _ l2_1 a2_2 a2_3 a3 t181 _ ?side1 ?side2 ?side3 ?side4 ?side5 ?side6 ?side7 ?side8 A6.out).mono ?_); (case side1 => exact TC HR0_1.out); (case side2 => exact HC0_1.out); (case side3 => exact TC HR0_2.out); (case side4 => exact HC0_2.out); (case side5 => exact TC HR2_0.out); (case side6 => exact HC2_0.out); (case side7 => exact TC HR2_1.out); (case side8 => exact HC2_1.out); rintro e w15 ⟨v182, rfl, ho0, hb⟩; have HO183 := aS (Kd.S_lower ho0 (below_size (TB2 GE179.out GE180.out))); replace BK179 := aS (TKb hb BK179.out); replace BK180 := aS (TKb hb BK180.out); replace HB := aS (below_step (TB2 GE179.out GE180.out) hb); (try clear hb); (try clear hb2); (try clear hk); (try clear hi); (try clear ho0); obtain ⟨Ao16, co16, eo16⟩ := Kd.S_slice HO183.out; subst eo16; have p184 : 0 ≤ ((ji7) : Int) := of_decide_eq_true TA; have q184 : (ji7) < (t181.length : Int) := of_decide_eq_true TA; obtain ⟨ad184, A184_0, c184_0, e184, hx184_0, hl184_0, hi184_0⟩ := at_L1 (Kd.S_reads' HO183.out).2.2 (ji7) p184 q184; cases e184; obtain ⟨ce184, hce184, hMe184, hcc184⟩ := Kd.S_get HO183.out [] (ji7) p184 (by first | exact q184 | exact of_decide_eq_true TA | (have e_ := (Kd.S_reads' HO183.out).1; omega)); obtain ⟨ve184_0, rfl, ge184_0⟩ := hMe184; have hv184_0 := hcc184 0 _ rfl; rw [Nat.add_zero, show ((Kd.slice 3 (Kd.int .i64))).sz = 1 from rfl, Nat.mul_one] at hv184_0; replace hv184_0 := Option.some.inj (hv184_0.symm.trans hx184_0); rw [hv184_0] at ge184_0; have HL184_0 := aS (show Kd.R (Kd.int .i64) 3 _ _ _ _ (rd_L1 t181 (ji7)) from ge184_0); clear hv184_0 ge184_0; clear hcc184 hce184; have HR184_0 := aS hi184_0; have HC184_0 := aS hl184_0; clear hi184_0 hl184_0; replace p184 := eq_true p184; replace q184 := eq_true q184)); try go_wp2_with (first | ((with_reducible refine gate_dst (N := 5) rfl ?_); (try (refine gate_guard (by rfl) ?_; dsimp only)); refine box_event ?hg (N := 5) ?hd (cs := #[.int .i64 a0_0, .slice A0_1 l0_1.length c0_1, .slice A0_2 l0_2.length c0_2]) (t := 27) ?hr ?_; (case hd => rfl); (case hg => rfl); (case hr => exact TS); intro gb179 hg w10 hbox hb; have BK179 := aS (hbox); have GW179 := aS ((TG : w.heap.size ≤ gb179)); have GE179 := aS ((TG : w.heap.size ≤ gb179)); replace HB := aS (below_step TB hb); clear hb hbox hg) | ((with_reducible refine gate_dst (N := 7) rfl ?_); (try (refine gate_guard (by rfl) ?_; dsimp only)); refine box_event ?hg (N := 7) ?hd (cs := #[.slice A2_0 l2_0.length c2_0, .slice A2_1 l2_1.length c2_1, .int .i64 a2_2, .int .i64 a2_3]) (t := 30) ?hr ?_; (case hd => rfl); (case hg => rfl); (case hr => exact TS); intro gb180 hg w11 hbox hb; have BK180 := aS (hbox); have GW180 := aS ((TG1 GE179.out : w.heap.size ≤ gb180)); have GE180 := aS ((TG1 GE179.out : w.heap.size ≤ gb180)); have NB179_180 := aS ((by rw [hg]; exact Nat.ne_of_lt (blk_lt (g := gb179) (o := .cells #[.int .i64 a0_0, .slice A0_1 l0_1.length c0_1, .slice A0_2 l0_2.length c0_2] 27 (0, 0)) (TK BK179.out)) : gb179 ≠ gb180)); have NB180_179 := aS ((by rw [hg]; exact Nat.ne_of_gt (blk_lt (g := gb179) (o := .cells #[.int .i64 a0_0, .slice A0_1 l0_1.length c0_1, .slice A0_2 l0_2.length c0_2] 27 (0, 0)) (TK BK179.out)) : gb180 ≠ gb179)); replace BK179 := aS (TKb hb BK179.out); replace HB := aS (below_step (TB1 GE179.out) hb); clear hb hbox hg; have hnb12 := NB179_180.out; have hnc12 := NB180_179.out; have hcz13_0 := cz BK179.out 0; have hcz13_1 := cz BK179.out 1; have hcz13_2 := cz BK179.out 2; have hfz13_0 := fz BK179.out 0; have hfz13_1 := fz BK179.out 1; have hfz13_2 := fz BK179.out 2; have hcz14_0 := cz BK180.out 0; have hcz14_1 := cz BK180.out 1; have hcz14_2 := cz BK180.out 2; have hcz14_3 := cz BK180.out 3; have hfz14_0 := fz BK180.out 0; have hfz14_1 := fz BK180.out 1; have hfz14_2 := fz BK180.out 2; have hfz14_3 := fz BK180.out 3) | (go_at_call 91; (with_reducible refine (rT.calls k a0_0 _ _ l0_1 _ _ l0_2 a1 _ _ l2_0 _ _ l2_1 a2_2 a2_3 a3 t181 _ ?side1 ?side2 ?side3 ?side4 ?side5 ?side6 ?side7 ?side8 A6.out).mono ?_); (case side1 => exact TC HR0_1.out); (case side2 => exact HC0_1.out); (case side3 => exact TC HR0_2.out); (case side4 => exact HC0_2.out); (case side5 => exact TC HR2_0.out); (case side6 => exact HC2_0.out); (case side7 => exact TC HR2_1.out); (case side8 => exact HC2_1.out); rintro e w15 ⟨v182, rfl, ho0, hb⟩; have HO183 := aS (Kd.S_lower ho0 (below_size (TB2 GE179.out GE180.out))); replace BK179 := aS (TKb hb BK179.out); replace BK180 := aS (TKb hb BK180.out); replace HB := aS (below_step (TB2 GE179.out GE180.out) hb); (try clear hb); (try clear hb2); (try clear hk); (try clear hi); (try clear ho0); obtain ⟨Ao16, co16, eo16⟩ := Kd.S_slice HO183.out; subst eo16; have p184 : 0 ≤ ((ji7) : Int) := of_decide_eq_true TA; have q184 : (ji7) < (t181.length : Int) := of_decide_eq_true TA; obtain ⟨ad184, A184_0, c184_0, e184, hx184_0, hl184_0, hi184_0⟩ := at_L1 (Kd.S_reads' HO183.out).2.2 (ji7) p184 q184; cases e184; obtain ⟨ce184, hce184, hMe184, hcc184⟩ := Kd.S_get HO183.out [] (ji7) p184 (by first | exact q184 | exact of_decide_eq_true TA | (have e_ := (Kd.S_reads' HO183.out).1; omega)); obtain ⟨ve184_0, rfl, ge184_0⟩ := hMe184; have hv184_0 := hcc184 0 _ rfl; rw [Nat.add_zero, show ((Kd.slice 3 (Kd.int .i64))).sz = 1 from rfl, Nat.mul_one] at hv184_0; replace hv184_0 := Option.some.inj (hv184_0.symm.trans hx184_0); rw [hv184_0] at ge184_0; have HL184_0 := aS (show Kd.R (Kd.int .i64) 3 _ _ _ _ (rd_L1 t181 (ji7)) from ge184_0); clear hv184_0 ge184_0; clear hcc184 hce184; have HR184_0 := aS hi184_0; have HC184_0 := aS hl184_0; clear hi184_0 hl184_0; replace p184 := eq_true p184; replace q184 := eq_true q184)))
 have HB15 := HB
 go_loopg [13, 14] k (fun kq v13 v14 w' => ∃ (x13_1 : List Int) (x14_1 : Int), v14 = .int .i64 x14_1 ∧ Aside0 (rE.l0 kq a3 a4 (rd_L1 t181 (ji7)) x13_1 x14_1 l2_0 l2_1 a2_2 a2_3 = some r) ∧ Aside0 (kq ≤ k) ∧ Aside0 (Kd.R (Kd.int .i64) 3 w' w15.heap.size (fun _ => True) v13 x13_1) ∧ Aside0 (w'.heap[gb179]? = some (.cells #[.int .i64 a0_0, (.slice A0_1 l0_1.length c0_1), (.slice A0_2 l0_2.length c0_2)] 27 (0, 0))) ∧ Aside0 (w'.heap[gb180]? = some (.cells #[(.slice A2_0 l2_0.length c2_0), (.slice A2_1 l2_1.length c2_1), .int .i64 a2_2, .int .i64 a2_3] 30 (0, 0))) ∧ Aside0 (Below w15.heap.size w15 w'))
 case atStart => exact ⟨(([] : List Int)), (a3), TT, H', ⟨Nat.le_refl _⟩, ⟨by first | exact Kd.R_nil _ _ _ _ _ | exact Kd.N_nil _ _ _ _ _ | exact Kd.V_nil _ _ _ _ _ | exact Kd.Q_nil _ _ _ _ _ | exact Kd.S_nil _ _ _ _ _⟩, ⟨TK BK179.out⟩, ⟨TK BK180.out⟩, ⟨by repeat (first | exact Below.refl _ _ | apply below_alloc | apply pw_below_drewN | apply below_drew1)⟩⟩
 case round => as_aux_lemma =>
  clear H'
  try clear c1
  try clear p1
  try clear q1
  try clear hx1
  try clear c2
  try clear p2
  try clear c6
  try clear p6
  try clear c8
  try clear c8b0
  try clear c9
  try clear c9b0
  try clear c12
  try clear hcz13_0 hcz13_1 hcz13_2
  try clear hcz14_0 hcz14_1 hcz14_2 hcz14_3
  try clear hfz13_0 hfz13_1 hfz13_2
  try clear hfz14_0 hfz14_1 hfz14_2 hfz14_3
  try clear hx184_0
  try clear p184
  try clear q184
  clear HB
  obtain ⟨x13_1, x14_1, rfl, HA, HK1, HO_13, BK179, BK180, HBW⟩ := hrel
  have HB := aS (below_step HB15.out HBW.out)
  cases gk with
  | zero => exact absurd HA.out (by simp [rE.l0])
  | succ k1 =>
   have H := HA.out
   clear HA
   simp only [rE.l0] at H
   by_cases c17 : x14_1 < ((rd_L1 t181 (ji7)).length : Int)
   rotate_left
   ·rw [if_neg c17] at H
    have c17b0 : decide (x14_1 < ((rd_L1 t181 (ji7)).length : Int)) = false := decide_eq_false c17
    clear c17
    obtain rfl := Option.some.inj H
    go_wp2
    repeat (go_quiet (fail); try go_wp2)
    go_ret
    exact ⟨_, by first | rfl | (simp [errW_none, errW_some] <;> rfl) | (simp only [← hji7]; first | rfl | (simp [errW_none, errW_some] <;> rfl)) | (simp [*, errW_none, errW_some] <;> rfl), by (with_reducible repeat (first | apply Kd.R_alloc | apply Kd.R_drewN | apply Kd.R_drew)); exact Kd.R_lower HO_13.out (below_size HB15.out), TB2 GE179.out GE180.out⟩
   rw [if_pos c17] at H
   have c17b0 : decide (x14_1 < ((rd_L1 t181 (ji7)).length : Int)) = true := decide_eq_true c17
   clear c17
   by_cases c18 : 0 ≤ x14_1
   rotate_left
   ·rw [if_neg c18] at H
    exact absurd H (by simp)
   rw [if_pos c18] at H
   have c18b0 : decide (0 ≤ x14_1) = true := decide_eq_true c18
   clear c18
   by_cases c19 : (rd (rd_L1 t181 (ji7)) x14_1) ≤ a2_3
   rotate_left
   ·rw [if_neg c19] at H
    have c19b0 : decide ((rd (rd_L1 t181 (ji7)) x14_1) ≤ a2_3) = false := decide_eq_false c19
    clear c19
    have H' := aS H
    clear H
    have p185 : 0 ≤ (x14_1 : Int) := of_decide_eq_true TA
    have q185 : x14_1 < ((rd_L1 t181 (ji7)).length : Int) := of_decide_eq_true TA
    obtain ⟨ad185, e185, hx185_0⟩ := Kd.at_int HR184_0.out x14_1 p185 q185
    cases e185
    replace hx185_0 := hx HBW.out hx185_0
    replace p185 := eq_true p185
    replace q185 := eq_true q185
    have hnb27 := NB180_179.out
    have hnc27 := NB179_180.out
    have hcz28_0 := cz BK180.out 0
    have hcz28_1 := cz BK180.out 1
    have hcz28_2 := cz BK180.out 2
    have hcz28_3 := cz BK180.out 3
    have hfz28_0 := fz BK180.out 0
    have hfz28_1 := fz BK180.out 1
    have hfz28_2 := fz BK180.out 2
    have hfz28_3 := fz BK180.out 3
    go_wp2
    repeat (go_quiet (fail); try go_wp2)
    go_roundg k1
    case measure => have := HK1.out; omega
    case rel => exact ⟨(x13_1), (wrap64 (x14_1 + 1)), TT, H', ⟨by have := HK1.out; omega⟩, ⟨TRo HO_13.out⟩, ⟨TK BK179.out⟩, ⟨TK BK180.out⟩, ⟨by repeat (first | exact HBW.out | apply below_alloc | apply pw_below_drewN | apply below_drew1)⟩⟩
   rw [if_pos c19] at H
   have c19b0 : decide ((rd (rd_L1 t181 (ji7)) x14_1) ≤ a2_3) = true := decide_eq_true c19
   clear c19
   by_cases c20 : (wrap64 ((wrap64 ((wrap64 (x14_1 - a3)) + 1)) - (l2_0.length : Int))) ≤ a4
   rotate_left
   ·rw [if_neg c20] at H
    have c20b0 : decide ((wrap64 ((wrap64 ((wrap64 (x14_1 - a3)) + 1)) - (l2_0.length : Int))) ≤ a4) = false := decide_eq_false c20
    clear c20
    have H' := aS H
    clear H
    have p185 : 0 ≤ (x14_1 : Int) := of_decide_eq_true TA
    have q185 : x14_1 < ((rd_L1 t181 (ji7)).length : Int) := of_decide_eq_true TA
    obtain ⟨ad185, e185, hx185_0⟩ := Kd.at_int HR184_0.out x14_1 p185 q185
    cases e185
    replace hx185_0 := hx HBW.out hx185_0
    replace p185 := eq_true p185
    replace q185 := eq_true q185
    have hnb25 := NB180_179.out
    have hnc25 := NB179_180.out
    have hcz26_0 := cz BK180.out 0
    have hcz26_1 := cz BK180.out 1
    have hcz26_2 := cz BK180.out 2
    have hcz26_3 := cz BK180.out 3
    have hfz26_0 := fz BK180.out 0
    have hfz26_1 := fz BK180.out 1
    have hfz26_2 := fz BK180.out 2
    have hfz26_3 := fz BK180.out 3
    go_wp2
    repeat (go_quiet (fail); try go_wp2)
    go_roundg k1
    case measure => have := HK1.out; omega
    case rel => exact ⟨(x13_1), (wrap64 (x14_1 + 1)), TT, H', ⟨by have := HK1.out; omega⟩, ⟨TRo HO_13.out⟩, ⟨TK BK179.out⟩, ⟨TK BK180.out⟩, ⟨by repeat (first | exact HBW.out | apply below_alloc | apply pw_below_drewN | apply below_drew1)⟩⟩
   rw [if_pos c20] at H
   have c20b0 : decide ((wrap64 ((wrap64 ((wrap64 (x14_1 - a3)) + 1)) - (l2_0.length : Int))) ≤ a4) = true := decide_eq_true c20
   clear c20
   by_cases c21 : x13_1.length < 17592186044416
   rotate_left
   ·rw [if_neg c21] at H
    exact absurd H (by simp)
   rw [if_pos c21] at H
   have LMc21 := aS c21
   clear c21
   obtain ⟨y186, hy186⟩ : ∃ y_ : List Int, y_ = (x13_1 ++ [x14_1]) := ⟨_, rfl⟩
   replace H : (rE.l0 k1 a3 a4 (rd_L1 t181 (ji7)) y186 (wrap64 (x14_1 + 1)) l2_0 l2_1 a2_2 a2_3) = some r := by first | (rw [hy186]; with_reducible exact H) | (have H2_ := (Option.bind_some _ _).symm.trans H; rw [hy186]; with_reducible exact H2_) | (have H2_ := (Option.bind_some _ _).symm.trans H; with_reducible exact H2_) | with_reducible exact H | (rw [hy186]; exact H) | exact H
   have Ny186 := aS hy186
   clear hy186
   have H' := aS H
   clear H
   have p185 : 0 ≤ (x14_1 : Int) := of_decide_eq_true TA
   have q185 : x14_1 < ((rd_L1 t181 (ji7)).length : Int) := of_decide_eq_true TA
   obtain ⟨ad185, e185, hx185_0⟩ := Kd.at_int HR184_0.out x14_1 p185 q185
   cases e185
   replace hx185_0 := hx HBW.out hx185_0
   replace p185 := eq_true p185
   replace q185 := eq_true q185
   have hnb22 := NB180_179.out
   have hnc22 := NB179_180.out
   have hcz23_0 := cz BK180.out 0
   have hcz23_1 := cz BK180.out 1
   have hcz23_2 := cz BK180.out 2
   have hcz23_3 := cz BK180.out 3
   have hfz23_0 := fz BK180.out 0
   have hfz23_1 := fz BK180.out 1
   have hfz23_2 := fz BK180.out 2
   have hfz23_3 := fz BK180.out 3
   go_wp2_with (first | ((with_reducible refine gate_builtin (b := .append) (xs := #[.tmp 52, .tmp 54]) rfl ?_); (try (refine gate_guard (by rfl) ?_; dsimp only)); at_builtin; refine Kd.R_append (Kd.int .i64) (w0 := w15) w15.heap.size rfl (.tmp 52) (.tmp 54) 28 3 (.int .i64 0) 8 rfl Tryd.underlying28 info3 rfl (by decide) (by omega) u13 x13_1 x14_1 [.int .i64 x14_1] (fun _ => True) (fun _ => False) rfl rfl ?aP (fun _ hk => hk.elim) ?aF ?aO ?aB ?aS ?aL ?_; (case aP => exact rfl); (case aB => exact (by repeat (first | exact HBW.out | apply below_alloc | apply pw_below_drewN | apply below_drew1))); (case aF => exact (fun _ _ => trivial)); (case aO => exact (TRo HO_13.out)); (case aS => exact (below_size (by repeat (first | exact HBW.out | apply below_alloc | apply pw_below_drewN | apply below_drew1)))); (case aL => have := LMc21.out; omega); intro v187 w24 ho hb hg hat; rw [← Ny186.out] at ho; have HO188 := aS (ho); replace BK179 := aS (blk_grown (g := gb179) (o := .cells #[.int .i64 a0_0, .slice A0_1 l0_1.length c0_1, .slice A0_2 l0_2.length c0_2] 27 (0, 0)) (TK BK179.out) hg (Kd.R_ne HO_13.out BK179.out (by decide))); replace BK180 := aS (blk_grown (g := gb180) (o := .cells #[.slice A2_0 l2_0.length c2_0, .slice A2_1 l2_1.length c2_1, .int .i64 a2_2, .int .i64 a2_3] 30 (0, 0)) (TK BK180.out) hg (Kd.R_ne HO_13.out BK180.out (by decide))); replace HBW := aS (hb); clear HO_13; clear ho hb hg hat))
   repeat (go_quiet (first | ((with_reducible refine gate_builtin (b := .append) (xs := #[.tmp 52, .tmp 54]) rfl ?_); (try (refine gate_guard (by rfl) ?_; dsimp only)); at_builtin; refine Kd.R_append (Kd.int .i64) (w0 := w15) w15.heap.size rfl (.tmp 52) (.tmp 54) 28 3 (.int .i64 0) 8 rfl Tryd.underlying28 info3 rfl (by decide) (by omega) u13 x13_1 x14_1 [.int .i64 x14_1] (fun _ => True) (fun _ => False) rfl rfl ?aP (fun _ hk => hk.elim) ?aF ?aO ?aB ?aS ?aL ?_; (case aP => exact rfl); (case aB => exact (by repeat (first | exact HBW.out | apply below_alloc | apply pw_below_drewN | apply below_drew1))); (case aF => exact (fun _ _ => trivial)); (case aO => exact (TRo HO_13.out)); (case aS => exact (below_size (by repeat (first | exact HBW.out | apply below_alloc | apply pw_below_drewN | apply below_drew1)))); (case aL => have := LMc21.out; omega); intro v187 w24 ho hb hg hat; rw [← Ny186.out] at ho; have HO188 := aS (ho); replace BK179 := aS (blk_grown (g := gb179) (o := .cells #[.int .i64 a0_0, .slice A0_1 l0_1.length c0_1, .slice A0_2 l0_2.length c0_2] 27 (0, 0)) (TK BK179.out) hg (Kd.R_ne HO_13.out BK179.out (by decide))); replace BK180 := aS (blk_grown (g := gb180) (o := .cells #[.slice A2_0 l2_0.length c2_0, .slice A2_1 l2_1.length c2_1, .int .i64 a2_2, .int .i64 a2_3] 30 (0, 0)) (TK BK180.out) hg (Kd.R_ne HO_13.out BK180.out (by decide))); replace HBW := aS (hb); clear HO_13; clear ho hb hg hat)); try go_wp2_with (first | ((with_reducible refine gate_builtin (b := .append) (xs := #[.tmp 52, .tmp 54]) rfl ?_); (try (refine gate_guard (by rfl) ?_; dsimp only)); at_builtin; refine Kd.R_append (Kd.int .i64) (w0 := w15) w15.heap.size rfl (.tmp 52) (.tmp 54) 28 3 (.int .i64 0) 8 rfl Tryd.underlying28 info3 rfl (by decide) (by omega) u13 x13_1 x14_1 [.int .i64 x14_1] (fun _ => True) (fun _ => False) rfl rfl ?aP (fun _ hk => hk.elim) ?aF ?aO ?aB ?aS ?aL ?_; (case aP => exact rfl); (case aB => exact (by repeat (first | exact HBW.out | apply below_alloc | apply pw_below_drewN | apply below_drew1))); (case aF => exact (fun _ _ => trivial)); (case aO => exact (TRo HO_13.out)); (case aS => exact (below_size (by repeat (first | exact HBW.out | apply below_alloc | apply pw_below_drewN | apply below_drew1)))); (case aL => have := LMc21.out; omega); intro v187 w24 ho hb hg hat; rw [← Ny186.out] at ho; have HO188 := aS (ho); replace BK179 := aS (blk_grown (g := gb179) (o := .cells #[.int .i64 a0_0, .slice A0_1 l0_1.length c0_1, .slice A0_2 l0_2.length c0_2] 27 (0, 0)) (TK BK179.out) hg (Kd.R_ne HO_13.out BK179.out (by decide))); replace BK180 := aS (blk_grown (g := gb180) (o := .cells #[.slice A2_0 l2_0.length c2_0, .slice A2_1 l2_1.length c2_1, .int .i64 a2_2, .int .i64 a2_3] 30 (0, 0)) (TK BK180.out) hg (Kd.R_ne HO_13.out BK180.out (by decide))); replace HBW := aS (hb); clear HO_13; clear ho hb hg hat)))
   go_roundg k1
   case measure => have := HK1.out; omega
   case rel => exact ⟨(y186), (wrap64 (x14_1 + 1)), TT, H', ⟨by have := HK1.out; omega⟩, ⟨TRo HO188.out⟩, ⟨TK BK179.out⟩, ⟨TK BK180.out⟩, ⟨by repeat (first | exact HBW.out | apply below_alloc | apply pw_below_drewN | apply below_drew1)⟩⟩
def rB.l0 : Nat → Int → Int → List Int → Int → Int → List (S114) → List (S62) → List Int → List Int → Int → Int → Option (List Int)
 | 0, _, _, _, _, _, _, _, _, _, _, _ => none
 | k + 1, x1, x3, x9, x10, x190000, x190001, x190002, x191000, x191001, x191002, x191003 => if 0 ≤ x1 then (if x1 < (x190002.length : Int) then (if x10 < (((rd_T62 x190002 x1).f1).length : Int) then ((rE.f k x190000 x190001 x190002 x1 x191000 x191001 x191002 x191003 x10 x3).bind fun t192 => (if (t192.length : Int) > 0 then (if x9.length < 17592186044416 then (rB.l0 k x1 x3 (x9 ++ [x10]) (wrap64 (x10 + 1)) x190000 x190001 x190002 x191000 x191001 x191002 x191003) else (none)) else (rB.l0 k x1 x3 x9 (wrap64 (x10 + 1)) x190000 x190001 x190002 x191000 x191001 x191002 x191003))) else (some x9)) else (none)) else (none)
def rB.f (k : Nat) (a0_0 : Int) (l0_1 : List (S114)) (l0_2 : List (S62)) (a1 : Int) (l2_0 : List Int) (l2_1 : List Int) (a2_2 : Int) (a2_3 : Int) (a3 : Int) : Option (List Int) := rB.l0 k a1 a3 ([] : List Int) 0 a0_0 l0_1 l0_2 l2_0 l2_1 a2_2 a2_3
theorem rB.mono_l : ∀ k, (∀ y0 y1 y2 y3 y4 y5 y6 y7 y8 y9 y10, LeO (rB.l0 k y0 y1 y2 y3 y4 y5 y6 y7 y8 y9 y10) (rB.l0 (k + 1) y0 y1 y2 y3 y4 y5 y6 y7 y8 y9 y10))
 | 0 => fun _ _ _ _ _ _ _ _ _ _ _ r h => by simp [rB.l0] at h
 | k + 1 => by
  have ih0 := rB.mono_l k
  intro y0 y1 y2 y3 y4 y5 y6 y7 y8 y9 y10
  unfold rB.l0
  repeat' first
  | (with_reducible exact ih0 _ _ _ _ _ _ _ _ _ _ _)
  | (with_reducible exact rE.mono _ _ _ _ _ _ _ _ _ _ _)
  | (with_reducible exact LeO.refl _)
  | (with_reducible exact LeO.none _)
  | (with_reducible refine LeO.ite ?_ ?_)
  | (with_reducible refine LeO.bind ?_ (fun _ => ?_))
  | exact ih0 _ _ _ _ _ _ _ _ _ _ _
  | exact rE.mono _ _ _ _ _ _ _ _ _ _ _
  | exact LeO.none _
  | refine LeO.ite ?_ ?_
  | refine LeO.bind ?_ (fun _ => ?_)
theorem rB.mono : ∀ a0 a1 a2 a3 a4 a5 a6 a7 a8 k, LeO (rB.f k a0 a1 a2 a3 a4 a5 a6 a7 a8) (rB.f (k + 1) a0 a1 a2 a3 a4 a5 a6 a7 a8) := by
 intro a0 a1 a2 a3 a4 a5 a6 a7 a8 k
 have ih0 := rB.mono_l k
 unfold rB.f
 repeat' first
   | (with_reducible exact ih0 _ _ _ _ _ _ _ _ _ _ _)
   | (with_reducible exact rE.mono _ _ _ _ _ _ _ _ _ _ _)
   | (with_reducible exact LeO.refl _)
   | (with_reducible exact LeO.none _)
   | (with_reducible refine LeO.ite ?_ ?_)
   | (with_reducible refine LeO.bind ?_ (fun _ => ?_))
   | exact ih0 _ _ _ _ _ _ _ _ _ _ _
   | exact rE.mono _ _ _ _ _ _ _ _ _ _ _
   | exact LeO.none _
   | refine LeO.ite ?_ ?_
   | refine LeO.bind ?_ (fun _ => ?_)
set_option maxHeartbeats 8000000 in
set_option maxRecDepth 100000 in
theorem rB.calls (k : Nat) (a0_0 : Int) (A0_1 : Option Addr) (c0_1 : Nat) (l0_1 : List (S114)) (A0_2 : Option Addr) (c0_2 : Nat) (l0_2 : List (S62)) (a1 : Int) (A2_0 : Option Addr) (c2_0 : Nat) (l2_0 : List Int) (A2_1 : Option Addr) (c2_1 : Nat) (l2_1 : List Int) (a2_2 : Int) (a2_3 : Int) (a3 : Int) (r : List Int) (w : World) (hr0_1 : Kd.C k114 w A0_1 l0_1.length l0_1) (hc0_1 : l0_1.length ≤ c0_1) (hr0_2 : Kd.C k62 w A0_2 l0_2.length l0_2) (hc0_2 : l0_2.length ≤ c0_2) (hr2_0 : Kd.C (Kd.int .i64) w A2_0 l2_0.length l2_0) (hc2_0 : l2_0.length ≤ c2_0) (hr2_1 : Kd.C (Kd.int .i64) w A2_1 l2_1.length l2_1) (hc2_1 : l2_1.length ≤ c2_1) (h : rB.f k a0_0 l0_1 l0_2 a1 l2_0 l2_1 a2_2 a2_3 a3 = some r) :
  Calls Tryd.prog 57 #[.agg #[.int .i64 a0_0, .slice A0_1 l0_1.length c0_1, .slice A0_2 l0_2.length c0_2], .int .i64 a1, .agg #[.slice A2_0 l2_0.length c2_0, .slice A2_1 l2_1.length c2_1, .int .i64 a2_2, .int .i64 a2_3], .int .i64 a3] w fun e w' => ∃ v0_ : Value, e = .returned (v0_) ∧ Kd.R (Kd.int .i64) 3 w' w.heap.size (fun _ => True) v0_ r ∧ Below w.heap.size w w' := by
 have hu27 := Tryd.underlying27
 have hu30 := Tryd.underlying30
 have HR0_1 := aS hr0_1
 have HC0_1 := aS hc0_1
 clear hr0_1 hc0_1
 have HR0_2 := aS hr0_2
 have HC0_2 := aS hc0_2
 clear hr0_2 hc0_2
 have HR2_0 := aS hr2_0
 have HC2_0 := aS hc2_0
 clear hr2_0 hc2_0
 have HR2_1 := aS hr2_1
 have HC2_1 := aS hc2_1
 clear hr2_1 hc2_1
 have HB := aS (Below.refl w.heap.size w)
 have H : (rB.l0 k a1 a3 ([] : List Int) 0 a0_0 l0_1 l0_2 l2_0 l2_1 a2_2 a2_3) = some r := h
 clear h
 have H' := aS H
 clear H
 go_enter Tryd.func57, Tryd.ntmps57
 go_wp2_with (first | ((with_reducible refine gate_dst (N := 4) rfl ?_); refine box_event ?hg (N := 4) ?hd (cs := #[.int .i64 a0_0, .slice A0_1 l0_1.length c0_1, .slice A0_2 l0_2.length c0_2]) (t := 27) ?hr ?_; (case hd => rfl); (case hg => rfl); (case hr => exact TS); intro gb189 hg w5 hbox hb; have BK189 := aS (hbox); have GW189 := aS ((TG : w.heap.size ≤ gb189)); have GE189 := aS ((TG : w.heap.size ≤ gb189)); replace HB := aS (below_step TB hb); clear hb hbox hg) | ((with_reducible refine gate_dst (N := 6) rfl ?_); refine box_event ?hg (N := 6) ?hd (cs := #[.slice A2_0 l2_0.length c2_0, .slice A2_1 l2_1.length c2_1, .int .i64 a2_2, .int .i64 a2_3]) (t := 30) ?hr ?_; (case hd => rfl); (case hg => rfl); (case hr => exact TS); intro gb190 hg w6 hbox hb; have BK190 := aS (hbox); have GW190 := aS ((TG1 GE189.out : w.heap.size ≤ gb190)); have GE190 := aS ((TG1 GE189.out : w.heap.size ≤ gb190)); have NB189_190 := aS ((by rw [hg]; exact Nat.ne_of_lt (blk_lt (g := gb189) (o := .cells #[.int .i64 a0_0, .slice A0_1 l0_1.length c0_1, .slice A0_2 l0_2.length c0_2] 27 (0, 0)) (TK BK189.out)) : gb189 ≠ gb190)); have NB190_189 := aS ((by rw [hg]; exact Nat.ne_of_gt (blk_lt (g := gb189) (o := .cells #[.int .i64 a0_0, .slice A0_1 l0_1.length c0_1, .slice A0_2 l0_2.length c0_2] 27 (0, 0)) (TK BK189.out)) : gb190 ≠ gb189)); replace BK189 := aS (TKb hb BK189.out); replace HB := aS (below_step (TB1 GE189.out) hb); clear hb hbox hg))
 go_loopg [9, 10] k (fun kq v9 v10 w' => ∃ (x9_1 : List Int) (x10_1 : Int), v10 = .int .i64 x10_1 ∧ Aside0 (rB.l0 kq a1 a3 x9_1 x10_1 a0_0 l0_1 l0_2 l2_0 l2_1 a2_2 a2_3 = some r) ∧ Aside0 (kq ≤ k) ∧ Aside0 (Kd.R (Kd.int .i64) 3 w' w.heap.size (fun _ => True) v9 x9_1) ∧ Aside0 (w'.heap[gb189]? = some (.cells #[.int .i64 a0_0, (.slice A0_1 l0_1.length c0_1), (.slice A0_2 l0_2.length c0_2)] 27 (0, 0))) ∧ Aside0 (w'.heap[gb190]? = some (.cells #[(.slice A2_0 l2_0.length c2_0), (.slice A2_1 l2_1.length c2_1), .int .i64 a2_2, .int .i64 a2_3] 30 (0, 0))) ∧ Aside0 (Below w.heap.size w w'))
 case atStart => exact ⟨(([] : List Int)), (0), TT, H', ⟨Nat.le_refl _⟩, ⟨by first | exact Kd.R_nil _ _ _ _ _ | exact Kd.N_nil _ _ _ _ _ | exact Kd.V_nil _ _ _ _ _ | exact Kd.Q_nil _ _ _ _ _ | exact Kd.S_nil _ _ _ _ _⟩, ⟨TK BK189.out⟩, ⟨TK BK190.out⟩, ⟨TB2 GE189.out GE190.out⟩⟩
 case round => as_aux_lemma =>
  clear H'
  try clear c2
  try clear p2
  try clear c5
  obtain ⟨x9_1, x10_1, rfl, HA, HK1, HO_9, BK189, BK190, HB⟩ := hrel
  cases gk with
  | zero => exact absurd HA.out (by simp [rB.l0])
  | succ k1 =>
   have H := HA.out
   clear HA
   simp only [rB.l0] at H
   by_cases c7 : 0 ≤ a1
   rotate_left
   ·rw [if_neg c7] at H
    exact absurd H (by simp)
   rw [if_pos c7] at H
   have c7b0 : decide (0 ≤ a1) = true := decide_eq_true c7
   clear c7
   by_cases c8 : a1 < (l0_2.length : Int)
   rotate_left
   ·rw [if_neg c8] at H
    exact absurd H (by simp)
   rw [if_pos c8] at H
   have c8b0 : decide (a1 < (l0_2.length : Int)) = true := decide_eq_true c8
   clear c8
   by_cases c9 : x10_1 < (((rd_T62 l0_2 a1).f1).length : Int)
   rotate_left
   ·rw [if_neg c9] at H
    have c9b0 : decide (x10_1 < (((rd_T62 l0_2 a1).f1).length : Int)) = false := decide_eq_false c9
    clear c9
    obtain rfl := Option.some.inj H
    have hnb24 := NB189_190.out
    have hnc24 := NB190_189.out
    have hcz25_0 := cz BK189.out 0
    have hcz25_1 := cz BK189.out 1
    have hcz25_2 := cz BK189.out 2
    have hfz25_0 := fz BK189.out 0
    have hfz25_1 := fz BK189.out 1
    have hfz25_2 := fz BK189.out 2
    have p191 : 0 ≤ (a1 : Int) := of_decide_eq_true TA
    have q191 : a1 < (l0_2.length : Int) := of_decide_eq_true TA
    obtain ⟨ad191, A191_1, c191_1, e191, hx191_0, hx191_1, hl191_1, hi191_1⟩ := at_T62 HR0_2.out a1 p191 q191
    cases e191
    replace hx191_0 := hx HB.out hx191_0
    replace hx191_1 := hx HB.out hx191_1
    have HR191_1 := aS hi191_1
    have HC191_1 := aS hl191_1
    clear hi191_1 hl191_1
    replace p191 := eq_true p191
    replace q191 := eq_true q191
    go_wp2
    go_ret
    exact ⟨_, TR, by (with_reducible repeat (first | apply Kd.R_alloc | apply Kd.R_drewN | apply Kd.R_drew)); exact HO_9.out, TB2 GE189.out GE190.out⟩
   rw [if_pos c9] at H
   have c9b0 : decide (x10_1 < (((rd_T62 l0_2 a1).f1).length : Int)) = true := decide_eq_true c9
   clear c9
   replace H := Option.bind_eq_some_iff.mp H
   obtain ⟨t192, A100, H⟩ := H
   replace H : (if (t192.length : Int) > 0 then (if x9_1.length < 17592186044416 then (rB.l0 k1 a1 a3 (x9_1 ++ [x10_1]) (wrap64 (x10_1 + 1)) a0_0 l0_1 l0_2 l2_0 l2_1 a2_2 a2_3) else (none)) else (rB.l0 k1 a1 a3 x9_1 (wrap64 (x10_1 + 1)) a0_0 l0_1 l0_2 l2_0 l2_1 a2_2 a2_3)) = some r := H
   have A10 := aS A100
   clear A100
   by_cases c11 : (t192.length : Int) > 0
   rotate_left
   ·rw [if_neg c11] at H
    have c11b0 : decide (0 < (t192.length : Int)) = false := decide_eq_false c11
    have c11b1 : decide (0 < t192.length) = false := decide_eq_false (by omega)
    clear c11
    have H' := aS H
    clear H
    have hnb19 := NB189_190.out
    have hnc19 := NB190_189.out
    have hcz20_0 := cz BK189.out 0
    have hcz20_1 := cz BK189.out 1
    have hcz20_2 := cz BK189.out 2
    have hfz20_0 := fz BK189.out 0
    have hfz20_1 := fz BK189.out 1
    have hfz20_2 := fz BK189.out 2
    have p191 : 0 ≤ (a1 : Int) := of_decide_eq_true TA
    have q191 : a1 < (l0_2.length : Int) := of_decide_eq_true TA
    obtain ⟨ad191, A191_1, c191_1, e191, hx191_0, hx191_1, hl191_1, hi191_1⟩ := at_T62 HR0_2.out a1 p191 q191
    cases e191
    replace hx191_0 := hx HB.out hx191_0
    replace hx191_1 := hx HB.out hx191_1
    have HR191_1 := aS hi191_1
    have HC191_1 := aS hl191_1
    clear hi191_1 hl191_1
    replace p191 := eq_true p191
    replace q191 := eq_true q191
    have hcz21_0 := cz BK190.out 0
    have hcz21_1 := cz BK190.out 1
    have hcz21_2 := cz BK190.out 2
    have hcz21_3 := cz BK190.out 3
    have hfz21_0 := fz BK190.out 0
    have hfz21_1 := fz BK190.out 1
    have hfz21_2 := fz BK190.out 2
    have hfz21_3 := fz BK190.out 3
    go_wp2_with (first | ((with_reducible refine gate_callee (f := 67) rfl ?_); refine goesL_ (some 27) rfl rfl Tryd.func67 (by kernel_rfl) rfl #[.agg #[.int .i64 a0_0, .slice A0_1 l0_1.length c0_1, .slice (some ad191) l0_2.length c0_2], .int .i64 a1, .agg #[.slice A2_0 l2_0.length c2_0, .slice A2_1 l2_1.length c2_1, .int .i64 a2_2, .int .i64 a2_3], .int .i64 x10_1, .int .i64 a3] rfl TM ?_; (with_reducible refine (rE.calls k1 a0_0 _ _ l0_1 _ _ l0_2 a1 _ _ l2_0 _ _ l2_1 a2_2 a2_3 x10_1 a3 t192 _ ?side1 ?side2 ?side3 ?side4 ?side5 ?side6 ?side7 ?side8 A10.out).mono ?_); (case side1 => exact TC HR0_1.out); (case side2 => exact HC0_1.out); (case side3 => exact TC HR0_2.out); (case side4 => exact HC0_2.out); (case side5 => exact TC HR2_0.out); (case side6 => exact HC2_0.out); (case side7 => exact TC HR2_1.out); (case side8 => exact HC2_1.out); rintro e w22 ⟨v193, rfl, ho0, hb⟩; refine ⟨_, rfl, ?_⟩; have HO194 := aS (Kd.R_lower (Kd.R_new' ho0 (Kd.R_lt (TRo HO_9.out))) (below_size (TB2 GE189.out GE190.out))); replace HO_9 := aS (Kd.R_elder' (TRo HO_9.out) (Kd.R_base ho0) hb); replace BK189 := aS (TKb hb BK189.out); replace BK190 := aS (TKb hb BK190.out); replace HB := aS (below_step (TB2 GE189.out GE190.out) hb); (try clear hb); (try clear hb2); (try clear hk); (try clear hi); (try clear ho0); obtain ⟨Ao23, co23, eo23⟩ := Kd.R_slice HO194.out; subst eo23))
    go_roundg k1
    case measure => have := HK1.out; omega
    case rel => exact ⟨(x9_1), (wrap64 (x10_1 + 1)), TT, H', ⟨by have := HK1.out; omega⟩, ⟨by (with_reducible repeat (first | apply Kd.R_alloc | apply Kd.R_drewN | apply Kd.R_drew)); exact Kd.R_mono HO_9.out (fun _ hk => trivial)⟩, ⟨TK BK189.out⟩, ⟨TK BK190.out⟩, ⟨TB2 GE189.out GE190.out⟩⟩
   rw [if_pos c11] at H
   have c11b0 : decide (0 < (t192.length : Int)) = true := decide_eq_true c11
   have c11b1 : decide (0 < t192.length) = true := decide_eq_true (by omega)
   clear c11
   by_cases c12 : x9_1.length < 17592186044416
   rotate_left
   ·rw [if_neg c12] at H
    exact absurd H (by simp)
   rw [if_pos c12] at H
   have LMc12 := aS c12
   clear c12
   obtain ⟨y195, hy195⟩ : ∃ y_ : List Int, y_ = (x9_1 ++ [x10_1]) := ⟨_, rfl⟩
   replace H : (rB.l0 k1 a1 a3 y195 (wrap64 (x10_1 + 1)) a0_0 l0_1 l0_2 l2_0 l2_1 a2_2 a2_3) = some r := by first | (rw [hy195]; with_reducible exact H) | (have H2_ := (Option.bind_some _ _).symm.trans H; rw [hy195]; with_reducible exact H2_) | (have H2_ := (Option.bind_some _ _).symm.trans H; with_reducible exact H2_) | with_reducible exact H | (rw [hy195]; exact H) | exact H
   have Ny195 := aS hy195
   clear hy195
   have H' := aS H
   clear H
   have hnb13 := NB189_190.out
   have hnc13 := NB190_189.out
   have hcz14_0 := cz BK189.out 0
   have hcz14_1 := cz BK189.out 1
   have hcz14_2 := cz BK189.out 2
   have hfz14_0 := fz BK189.out 0
   have hfz14_1 := fz BK189.out 1
   have hfz14_2 := fz BK189.out 2
   have p191 : 0 ≤ (a1 : Int) := of_decide_eq_true TA
   have q191 : a1 < (l0_2.length : Int) := of_decide_eq_true TA
   obtain ⟨ad191, A191_1, c191_1, e191, hx191_0, hx191_1, hl191_1, hi191_1⟩ := at_T62 HR0_2.out a1 p191 q191
   cases e191
   replace hx191_0 := hx HB.out hx191_0
   replace hx191_1 := hx HB.out hx191_1
   have HR191_1 := aS hi191_1
   have HC191_1 := aS hl191_1
   clear hi191_1 hl191_1
   replace p191 := eq_true p191
   replace q191 := eq_true q191
   have hcz15_0 := cz BK190.out 0
   have hcz15_1 := cz BK190.out 1
   have hcz15_2 := cz BK190.out 2
   have hcz15_3 := cz BK190.out 3
   have hfz15_0 := fz BK190.out 0
   have hfz15_1 := fz BK190.out 1
   have hfz15_2 := fz BK190.out 2
   have hfz15_3 := fz BK190.out 3
   go_wp2_with (first | ((with_reducible refine gate_callee (f := 67) rfl ?_); refine goesL_ (some 27) rfl rfl Tryd.func67 (by kernel_rfl) rfl #[.agg #[.int .i64 a0_0, .slice A0_1 l0_1.length c0_1, .slice (some ad191) l0_2.length c0_2], .int .i64 a1, .agg #[.slice A2_0 l2_0.length c2_0, .slice A2_1 l2_1.length c2_1, .int .i64 a2_2, .int .i64 a2_3], .int .i64 x10_1, .int .i64 a3] rfl TM ?_; (with_reducible refine (rE.calls k1 a0_0 _ _ l0_1 _ _ l0_2 a1 _ _ l2_0 _ _ l2_1 a2_2 a2_3 x10_1 a3 t192 _ ?side1 ?side2 ?side3 ?side4 ?side5 ?side6 ?side7 ?side8 A10.out).mono ?_); (case side1 => exact TC HR0_1.out); (case side2 => exact HC0_1.out); (case side3 => exact TC HR0_2.out); (case side4 => exact HC0_2.out); (case side5 => exact TC HR2_0.out); (case side6 => exact HC2_0.out); (case side7 => exact TC HR2_1.out); (case side8 => exact HC2_1.out); rintro e w16 ⟨v193, rfl, ho0, hb⟩; refine ⟨_, rfl, ?_⟩; have HO194 := aS (Kd.R_lower (Kd.R_new' ho0 (Kd.R_lt (TRo HO_9.out))) (below_size (TB2 GE189.out GE190.out))); replace HO_9 := aS (Kd.R_elder' (TRo HO_9.out) (Kd.R_base ho0) hb); replace BK189 := aS (TKb hb BK189.out); replace BK190 := aS (TKb hb BK190.out); replace HB := aS (below_step (TB2 GE189.out GE190.out) hb); (try clear hb); (try clear hb2); (try clear hk); (try clear hi); (try clear ho0); obtain ⟨Ao17, co17, eo17⟩ := Kd.R_slice HO194.out; subst eo17) | ((with_reducible refine gate_builtin (b := .append) (xs := #[.tmp 30, .tmp 32]) rfl ?_); at_builtin; refine Kd.R_append (Kd.int .i64) (w0 := w) w.heap.size rfl (.tmp 30) (.tmp 32) 28 3 (.int .i64 0) 8 rfl Tryd.underlying28 info3 rfl (by decide) (by omega) u9 x9_1 x10_1 [.int .i64 x10_1] (fun k_ => some k_ ≠ (.slice Ao17 t192.length co17 : Value).ownBlock) (fun _ => False) rfl rfl ?aP (fun _ hk => hk.elim) ?aF ?aO ?aB ?aS ?aL ?_; (case aP => exact rfl); (case aB => exact (TB2 GE189.out GE190.out)); (case aF => exact (fun k_ hk => Kd.fresh' (Kd.R_lt (TRo HO194.out)) k_ hk)); (case aO => exact (by (with_reducible repeat (first | apply Kd.R_alloc | apply Kd.R_drewN | apply Kd.R_drew)); exact Kd.R_mono HO_9.out (fun _ hk => hk.2))); (case aS => exact (below_size (TB2 GE189.out GE190.out))); (case aL => have := LMc12.out; omega); intro v196 w18 ho hb hg hat; rw [← Ny195.out] at ho; have HO197 := aS (ho); replace BK189 := aS (blk_grown (g := gb189) (o := .cells #[.int .i64 a0_0, .slice A0_1 l0_1.length c0_1, .slice (some ad191) l0_2.length c0_2] 27 (0, 0)) (TK BK189.out) hg (Kd.R_ne HO_9.out BK189.out (by decide))); replace BK190 := aS (blk_grown (g := gb190) (o := .cells #[.slice A2_0 l2_0.length c2_0, .slice A2_1 l2_1.length c2_1, .int .i64 a2_2, .int .i64 a2_3] 30 (0, 0)) (TK BK190.out) hg (Kd.R_ne HO_9.out BK190.out (by decide))); replace HO194 := aS (Kd.R_after (ok := (fun _ => True)) (TRo HO194.out) hg hat); replace HB := aS (hb); clear HO_9; clear ho hb hg hat))
   go_roundg k1
   case measure => have := HK1.out; omega
   case rel => exact ⟨(y195), (wrap64 (x10_1 + 1)), TT, H', ⟨by have := HK1.out; omega⟩, ⟨by (with_reducible repeat (first | apply Kd.R_alloc | apply Kd.R_drewN | apply Kd.R_drew)); exact Kd.R_mono HO197.out (fun _ hk => trivial)⟩, ⟨TK BK189.out⟩, ⟨TK BK190.out⟩, ⟨TB2 GE189.out GE190.out⟩⟩
end Go.Proofs.YtfdenclnneigfaaDoor.PRaspKeys
