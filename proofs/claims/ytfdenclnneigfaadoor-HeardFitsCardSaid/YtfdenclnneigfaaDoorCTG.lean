import Derived.Test.YtfdenclnneigfaaDoorC1
import Derived.Test.YtfdenclnneigfaaDoorC2
import Derived.Test.YtfdenclnneigfaaDoorM0
import Derived.Test.YtfdenclnneigfaaDoorProg
import Derived.Below
import Derived.Deep.Draws
import Derived.Deep.AppendLies
import Derived.Maps.AppendAt
import Derived.OwnWalk
import Derived.Laws.BytesArg
import Derived.Laws.MakeOwn
import Derived.Laws.OwnMore
import Derived.Deep.OwnRows
import Derived.Tactics
import Derived.Lib.ConvBytes
import Derived.Laws.Slices
import Derived.WalkKit
import Derived.KernelRfl
import Derived.RowKit3
import Derived.Deep.LoopGhost
import Derived.Deep.QuietTactic
import Derived.BigQuiet
import Derived.WideLaws
import Derived.Deep.DeepCutAuto
import Derived.Deep.CutBlock
import Derived.Deep.RegionHeld3
import Derived.Laws.Rows
import Derived.Lib.AppendStr
import Derived.ArgAppend
import Derived.Laws.IdiomCopy
import Derived.OrdersHeld
import Derived.Laws.BitsLemmas
import Derived.RowKit
set_option linter.unusedVariables false
set_option linter.unusedSimpArgs false
namespace Go.Proofs.YtfdenclnneigfaaDoor.PRaspKeys
open Go.RowKit Go.Proofs.YtfdenclnneigfaaDoorW.PrintWords Go.Proofs.YtfdenclnneigfaaDoorW.PrintLast Go.Proofs.YtfdenclnneigfaaDoorW.PrintMore Go.Proofs.YtfdenclnneigfaaDoor.M
attribute [local go_sem] max2_int min2_int max_two min_two max_three min_three max_four min_four   -- for this text's walks alone
/-! #### struct type 114 -/
/-! #### struct type 62 -/
end Go.Proofs.YtfdenclnneigfaaDoor.PRaspKeys
namespace Go.Proofs.YtfdenclnneigfaaDoor.PRaspKeys
open Go.RowKit Go.Proofs.YtfdenclnneigfaaDoorW.PrintWords Go.Proofs.YtfdenclnneigfaaDoorW.PrintLast Go.Proofs.YtfdenclnneigfaaDoorW.PrintMore Go.Proofs.YtfdenclnneigfaaDoor.M
attribute [local go_sem] max2_int min2_int max_two min_two max_three min_three max_four min_four   -- for this text's walks alone
def rG.f (k : Nat) (a0_0 : Int) (l0_1 : List (S114)) (l0_2 : List (S62)) (a1 : Int) (a2 : Int) : Option (Bool) := if 0 ≤ a1 then (if a1 < (l0_2.length : Int) then ((r5S.f k a0_0 l0_1 ((rd_T62 l0_2 a1).f0) a2).bind fun bt144 => ((saronref00_Where.f k bt144.1 0).bind fun t148 => (some (decide (t148 ≥ 0))))) else (none)) else (none)
theorem rG.mono : ∀ a0 a1 a2 a3 a4 k, LeO (rG.f k a0 a1 a2 a3 a4) (rG.f (k + 1) a0 a1 a2 a3 a4) := by
 intro a0 a1 a2 a3 a4 k
 unfold rG.f
 repeat' first
   | (with_reducible exact saronref00_Where.mono _ _ _)
   | (with_reducible exact r5S.mono _ _ _ _ _)
   | (with_reducible exact LeO.refl _)
   | (with_reducible exact LeO.none _)
   | (with_reducible refine LeO.ite ?_ ?_)
   | (with_reducible refine LeO.bind ?_ (fun _ => ?_))
   | exact saronref00_Where.mono _ _ _
   | exact r5S.mono _ _ _ _ _
   | exact LeO.none _
   | refine LeO.ite ?_ ?_
   | refine LeO.bind ?_ (fun _ => ?_)
def rG.T1 : Bool × List (List Nat × List Nat) := (true, [([], []), ([0], [0]), ([], []), ([2], [2]), ([], []), ([3, 4], [3, 4]), ([5], [5]), ([6], [6]), ([], []), ([1, 7, 8], [1, 7, 8]), ([9], [9]), ([10], [10]), ([10], [10]), ([11, 9, 0, 1, 2, 3, 4, 5, 6, 7, 8, 9, 10, 11], [11]), ([12, 13, 0, 1, 2, 3, 4, 5, 6, 7, 8, 9, 10, 11, 12, 13], [12])])
def rG.B1 : List Nat := [0, 1, 0, 4, 0, 28, 60, 124, 0, 511, 1023, 2047, 2047, 4095, 16383]
theorem rG.tab1 : rtab .any (opsOf Tryd.f101 1) = rG.T1 := by kernel_rfl
theorem rG.bits1 : waitsOk rG.T1.2 rG.B1 = true := by kernel_rfl
set_option maxHeartbeats 8000000 in
set_option maxRecDepth 100000 in
theorem rG.calls (k : Nat) (a0_0 : Int) (A0_1 : Option Addr) (c0_1 : Nat) (l0_1 : List (S114)) (A0_2 : Option Addr) (c0_2 : Nat) (l0_2 : List (S62)) (a1 : Int) (a2 : Int) (r : Bool) (w : World) (hr0_1 : Kd.C k114 w A0_1 l0_1.length l0_1) (hc0_1 : l0_1.length ≤ c0_1) (hr0_2 : Kd.C k62 w A0_2 l0_2.length l0_2) (hc0_2 : l0_2.length ≤ c0_2) (h : rG.f k a0_0 l0_1 l0_2 a1 a2 = some r) :
  Calls Tryd.prog 101 #[.agg #[.int .i64 a0_0, .slice A0_1 l0_1.length c0_1, .slice A0_2 l0_2.length c0_2], .int .i64 a1, .int .i64 a2] w fun e w' => e = .returned (.bool r) ∧ Below w.heap.size w w' := by
 have hu27 := Tryd.underlying27
 have hu24 := Tryd.underlying24
 have HR0_1 := aS hr0_1
 have HC0_1 := aS hc0_1
 clear hr0_1 hc0_1
 have HR0_2 := aS hr0_2
 have HC0_2 := aS hc0_2
 clear hr0_2 hc0_2
 have HB := aS (Below.refl w.heap.size w)
 have H : (if 0 ≤ a1 then (if a1 < (l0_2.length : Int) then ((r5S.f k a0_0 l0_1 ((rd_T62 l0_2 a1).f0) a2).bind fun bt144 => ((saronref00_Where.f k bt144.1 0).bind fun t148 => (some (decide (t148 ≥ 0))))) else (none)) else (none)) = some r := h
 clear h
 by_cases c4 : 0 ≤ a1
 rotate_left
 ·rw [if_neg c4] at H
  exact absurd H (by simp)
 rw [if_pos c4] at H
 have c4b0 : decide (0 ≤ a1) = true := decide_eq_true c4
 clear c4
 by_cases c5 : a1 < (l0_2.length : Int)
 rotate_left
 ·rw [if_neg c5] at H
  exact absurd H (by simp)
 rw [if_pos c5] at H
 have c5b0 : decide (a1 < (l0_2.length : Int)) = true := decide_eq_true c5
 clear c5
 replace H := Option.bind_eq_some_iff.mp H
 obtain ⟨⟨t144, t147⟩, A60, H⟩ := H
 replace H : ((saronref00_Where.f k t144 0).bind fun t148 => (some (decide (t148 ≥ 0)))) = some r := H
 have A6 := aS A60
 clear A60
 replace H := Option.bind_eq_some_iff.mp H
 obtain ⟨t148, A70, H⟩ := H
 replace H : (some (decide (t148 ≥ 0))) = some r := H
 have A7 := aS A70
 clear A70
 obtain rfl := Option.some.inj H
 go_enter Tryd.func101, Tryd.ntmps101
 try go_wp2_with (first | ((with_reducible refine gate_dst (N := 3) rfl ?_); refine box_event ?hg (N := 3) ?hd (cs := #[.int .i64 a0_0, .slice A0_1 l0_1.length c0_1, .slice A0_2 l0_2.length c0_2]) (t := 27) ?hr ?_; (case hd => rfl); (case hg => rfl); (case hr => exact TS); intro gb142 hg w8 hbox hb; have BK142 := aS (hbox); have GW142 := aS ((TG : w.heap.size ≤ gb142)); have GE142 := aS ((TG : w.heap.size ≤ gb142)); replace HB := aS (below_step TB hb); clear hb hbox hg))
 have n0_ := aS (blk_drew BK142.out)
 have n1_ := aS (below_drew1 HB.out)
 clear BK142
 clear HB
 have BK142 := n0_
 have HB := n1_
 clear n0_ n1_
 have p143 : 0 ≤ (a1 : Int) := of_decide_eq_true TA
 have q143 : a1 < (l0_2.length : Int) := of_decide_eq_true TA
 obtain ⟨ad143, A143_1, c143_1, e143, hx143_0, hx143_1, hl143_1, hi143_1⟩ := at_T62 HR0_2.out a1 p143 q143
 have hw143_1 := hx143_1
 have hw143_0 := hx143_0
 cases e143
 replace hx143_0 := hx HB.out hx143_0
 replace hx143_1 := hx HB.out hx143_1
 have HR143_1 := aS hi143_1
 have HC143_1 := aS hl143_1
 clear hi143_1 hl143_1
 replace p143 := eq_true p143
 replace q143 := eq_true q143
 refine start_ (n := 15) (S := fun w' => w'.cell? ⟨gb142, 0, none⟩ = some (.int .i64 a0_0) ∧ w'.cell? ⟨gb142, 1, none⟩ = some (.slice A0_1 l0_1.length c0_1) ∧ w'.cell? ⟨gb142, 2, none⟩ = some (.slice (some ad143) l0_2.length c0_2) ∧ w'.cell? (ad143.add ((a1).toNat * 2)) = some (.int .i64 ((rd_T62 l0_2 a1).f0)) ∧ w'.cell? ⟨(ad143.add ((a1).toNat * 2)).block, (ad143.add ((a1).toNat * 2)).off + 1, none⟩ = some (.slice A143_1 ((rd_T62 l0_2 a1).f1).length c143_1)) (ds := []) (.replicate 15 false) (by kernel_rfl) rfl rfl ⟨cz BK142.out 0, cz BK142.out 1, cz BK142.out 2, (hx HB.out hw143_0), (hx HB.out hw143_1)⟩ (fun hHeld => ?_); refine with_tabW rG.tab1 rG.bits1 (fun HT_ HW_ => ?_)
 generalize w8.drew = w9 at BK142 HB HR143_1 hx143_0 hx143_1 hHeld ⊢
 refine pT 0 10 (bt 15 1) (k := ?_)
 refine pT 2 12 (bt 15 5) (k := ?_)
 refine pT 4 14 (bt 15 21) (k := ?_)
 refine pT 8 18 (bt 15 277) (k := ?_)
 refine tT5 1 11 (bt 15 279) hHeld (k := ?_)
 refine tT5 3 13 (bt 15 287) hHeld (k := ?_)
 refine pT 5 15 (bt 15 319) (k := ?_)
 refine pT 6 16 (bt 15 383) (k := ?_)
 refine tT5 7 17 (bt 15 511) hHeld (k := ?_)
 refine one_ (i := 9) (N := some 19) (bt 15 1023) rfl rfl (one_of HT_.out (by kernel_rfl)) (by decide) (fun K hK => ?_)
 refine goes_ Tryd.func105 (by kernel_rfl) rfl #[.agg #[.int .i64 a0_0, .slice A0_1 l0_1.length c0_1], .int .i64 ((rd_T62 l0_2 a1).f0), .int .i64 a2] (by rfl) rfl rfl TM ?_
 with_reducible refine (r5S.calls k a0_0 _ _ l0_1 ((rd_T62 l0_2 a1).f0) a2 t144 t147 _ ?side1 ?side2 A6.out).mono ?_
 (case side1 => exact TC HR0_1.out)
 (case side2 => exact HC0_1.out)
 rintro e w10 ⟨v145, rfl, ho0, hb⟩
 refine ⟨_, rfl, ?_⟩
 have n0_ := aS (Kd.R_lower ho0 (below_size (TB1 GE142.out)))
 have n1_ := aS (TKb hb BK142.out)
 have n2_ := aS (below_step (TB1 GE142.out) hb)
 clear BK142
 clear HB
 have HO146 := n0_
 have BK142 := n1_
 have HB := n2_
 clear n0_ n1_ n2_
 (try clear hb)
 (try clear hb2)
 (try clear hk)
 (try clear hi)
 (try clear ho0)
 refine hK.out _ _ ⟨cz BK142.out 0, cz BK142.out 1, cz BK142.out 2, (hx HB.out hw143_0), (hx HB.out hw143_1)⟩ (fun hHeld => ?_)
 clear hK K
 refine norm_ (a' := ?_) ?_ ?_
 rotate_left
 ·show Act.put _ (some 19) _ = _
  simp only [Act.put, lA, lZ, lS, i64_w, i32_w]
  rfl
 refine pT 10 9 (bt 15 2047) (k := ?_)
 refine pT 11 20 (bt 15 4095) (k := ?_)
 refine pT 12 21 (bt 15 8191) (k := ?_)
 refine pT 13 7 (bt 15 16383) (k := ?_)
 refine pT 14 8 (bt 15 32767) (k := ?_)
 refine done_ (done_of HT_.out (by kernel_rfl)) ?_
 obtain ⟨Ao11, co11, eo11⟩ := Kd.R_slice HO146.out
 subst eo11
 try go_wp2_with (first | ((with_reducible refine gate_callee (f := 39) rfl ?_); refine goesL_ (some 23) rfl rfl Tryd.func39 (by kernel_rfl) rfl #[.slice Ao11 t144.length co11, .int .i64 0] rfl TM ?_; (with_reducible refine (saronref00_Where.calls k _ _ t144 0 t148 _ ?side1 ?side2 A7.out).mono ?_); (case side1 => repeat (first | exact (Kd.R_reads' HO146.out).2.2 | (with_reducible refine Kd.C_alloc ?_ _) | (with_reducible refine Kd.C_drewN ?_ _) | (with_reducible refine Kd.C_drew ?_))); (case side2 => exact (Kd.R_reads' HO146.out).2.1); rintro e w' ⟨rfl, ⟨nd, rfl⟩⟩; refine ⟨_, rfl, ?_⟩))
 go_ret
 exact ⟨TR, TB1 GE142.out⟩
end Go.Proofs.YtfdenclnneigfaaDoor.PRaspKeys
