import Derived.Test.YtfdenclnneigfaaDoorC1
import Derived.Test.YtfdenclnneigfaaDoorM0
import Derived.Test.YtfdenclnneigfaaDoorProg
import Derived.Below
import Derived.Deep.Draws
import Derived.Deep.AppendLies
import Derived.Maps.AppendAt
import Derived.OwnWalk
import Derived.Laws.BytesArg
import Derived.Laws.MakeOwn
import Derived.Laws.OwnMore
import Derived.Deep.OwnRows
import Derived.Tactics
import Derived.Lib.ConvBytes
import Derived.Laws.Slices
import Derived.WalkKit
import Derived.KernelRfl
import Derived.RowKit3
import Derived.Deep.LoopGhost
import Derived.Deep.QuietTactic
import Derived.BigQuiet
import Derived.WideLaws
import Derived.Deep.DeepCutAuto
import Derived.Deep.CutBlock
import Derived.Deep.RegionHeld3
import Derived.Laws.Rows
import Derived.Lib.AppendStr
import Derived.ArgAppend
import Derived.Laws.IdiomCopy
import Derived.OrdersHeld
import Derived.Laws.BitsLemmas
import Derived.RowKit
set_option linter.unusedVariables false
set_option linter.unusedSimpArgs false
namespace Go.Proofs.YtfdenclnneigfaaDoor.PRaspKeys
open Go.RowKit Go.Proofs.YtfdenclnneigfaaDoorW.PrintWords Go.Proofs.YtfdenclnneigfaaDoorW.PrintLast Go.Proofs.YtfdenclnneigfaaDoorW.PrintMore Go.Proofs.YtfdenclnneigfaaDoor.M
attribute [local go_sem] max2_int min2_int max_two min_two max_three min_three max_four min_four   -- for this text's walks alone
end Go.Proofs.YtfdenclnneigfaaDoor.PRaspKeys
namespace Go.Proofs.YtfdenclnneigfaaDoor.PRaspKeys
open Go.RowKit Go.Proofs.YtfdenclnneigfaaDoorW.PrintWords Go.Proofs.YtfdenclnneigfaaDoorW.PrintLast Go.Proofs.YtfdenclnneigfaaDoorW.PrintMore Go.Proofs.YtfdenclnneigfaaDoor.M
attribute [local go_sem] max2_int min2_int max_two min_two max_three min_three max_four min_four   -- for this text's walks alone
/-! ### saronref09_share: function 73 -/
mutual
def saronref09_share.l0 : Nat → List Int → List Int → List Int → Int → Option (Int)
 | 0, _, _, _, _ => none
 | k + 1, x0, x1, x5, x6 => if x6 < (x0.length : Int) then (if 0 ≤ (wrap64 ((x1.length : Int) + 1)) then (if (wrap64 ((x1.length : Int) + 1) : Int).toNat ≤ 35184372088832 then (saronref09_share.l1 k x0 x1 x5 x6 (List.replicate (wrap64 ((x1.length : Int) + 1) : Int).toNat 0) 0) else (none)) else (none)) else (if 0 ≤ (x1.length : Int) then (if (x1.length : Int) < (x5.length : Int) then (some (rd x5 (x1.length : Int))) else (none)) else (none))
def saronref09_share.l1 : Nat → List Int → List Int → List Int → Int → List Int → Int → Option (Int)
 | 0, _, _, _, _, _, _ => none
 | k + 1, x0, x1, x5, x6, x7, x8 => if x8 < (x1.length : Int) then (if 0 ≤ x8 then (if x8 < (x7.length : Int) then (if 0 ≤ (wrap64 (x8 + 1)) then (if (wrap64 (x8 + 1)) < (x5.length : Int) then (if (wrap64 (x8 + 1)) < (x7.length : Int) then ((some (x7.set ((wrap64 (x8 + 1)) : Int).toNat (mx (rd x7 x8) (rd x5 (wrap64 (x8 + 1)))) : List Int)).bind fun y110 => (if 0 ≤ x6 then (if x6 < (x0.length : Int) then (if (rd x0 x6) = (rd x1 x8) then (if x8 < (x5.length : Int) then (saronref09_share.l1 k x0 x1 x5 x6 (y110.set ((wrap64 (x8 + 1)) : Int).toNat (mx (rd y110 (wrap64 (x8 + 1))) (wrap64 ((rd x5 x8) + 1)))) (wrap64 (x8 + 1))) else (none)) else (saronref09_share.l1 k x0 x1 x5 x6 y110 (wrap64 (x8 + 1)))) else (none)) else (none))) else (none)) else (none)) else (none)) else (none)) else (none)) else (saronref09_share.l0 k x0 x1 x7 (wrap64 (x6 + 1)))
end
def saronref09_share.f (k : Nat) (l0 : List Int) (l1 : List Int) : Option (Int) := if 0 ≤ (wrap64 ((l1.length : Int) + 1)) then (if (wrap64 ((l1.length : Int) + 1) : Int).toNat ≤ 35184372088832 then (saronref09_share.l0 k l0 l1 (List.replicate (wrap64 ((l1.length : Int) + 1) : Int).toNat 0) 0) else (none)) else (none)
theorem saronref09_share.mono_l : ∀ k, (∀ y0 y1 y2 y3, LeO (saronref09_share.l0 k y0 y1 y2 y3) (saronref09_share.l0 (k + 1) y0 y1 y2 y3)) ∧ (∀ y0 y1 y2 y3 y4 y5, LeO (saronref09_share.l1 k y0 y1 y2 y3 y4 y5) (saronref09_share.l1 (k + 1) y0 y1 y2 y3 y4 y5))
 | 0 => ⟨fun _ _ _ _ r h => by simp [saronref09_share.l0] at h, fun _ _ _ _ _ _ r h => by simp [saronref09_share.l1] at h⟩
 | k + 1 => by
  obtain ⟨ih0, ih1⟩ := saronref09_share.mono_l k
  refine ⟨?_, ?_⟩
  ·intro y0 y1 y2 y3
   unfold saronref09_share.l0
   repeat' first
   | (with_reducible exact ih0 _ _ _ _)
   | (with_reducible exact ih1 _ _ _ _ _ _)
   | (with_reducible exact LeO.refl _)
   | (with_reducible exact LeO.none _)
   | (with_reducible refine LeO.ite ?_ ?_)
   | (with_reducible refine LeO.bind ?_ (fun _ => ?_))
   | exact ih0 _ _ _ _
   | exact ih1 _ _ _ _ _ _
   | exact LeO.none _
   | refine LeO.ite ?_ ?_
   | refine LeO.bind ?_ (fun _ => ?_)
  ·intro y0 y1 y2 y3 y4 y5
   unfold saronref09_share.l1
   repeat' first
   | (with_reducible exact ih0 _ _ _ _)
   | (with_reducible exact ih1 _ _ _ _ _ _)
   | (with_reducible exact LeO.refl _)
   | (with_reducible exact LeO.none _)
   | (with_reducible refine LeO.ite ?_ ?_)
   | (with_reducible refine LeO.bind ?_ (fun _ => ?_))
   | exact ih0 _ _ _ _
   | exact ih1 _ _ _ _ _ _
   | exact LeO.none _
   | refine LeO.ite ?_ ?_
   | refine LeO.bind ?_ (fun _ => ?_)
theorem saronref09_share.mono : ∀ a0 a1 k, LeO (saronref09_share.f k a0 a1) (saronref09_share.f (k + 1) a0 a1) := by
 intro a0 a1 k
 obtain ⟨ih0, ih1⟩ := saronref09_share.mono_l k
 unfold saronref09_share.f
 repeat' first
   | (with_reducible exact ih0 _ _ _ _)
   | (with_reducible exact ih1 _ _ _ _ _ _)
   | (with_reducible exact LeO.refl _)
   | (with_reducible exact LeO.none _)
   | (with_reducible refine LeO.ite ?_ ?_)
   | (with_reducible refine LeO.bind ?_ (fun _ => ?_))
   | exact ih0 _ _ _ _
   | exact ih1 _ _ _ _ _ _
   | exact LeO.none _
   | refine LeO.ite ?_ ?_
   | refine LeO.bind ?_ (fun _ => ?_)
def saronref09_share.T9 : Bool × List (List Nat × List Nat) := (true, [([], []), ([], []), ([1], [1]), ([], []), ([], []), ([3, 4], [3, 4]), ([5], [5]), ([], []), ([], []), ([8], [8]), ([7, 9], [7, 9]), ([10], [10]), ([6, 11], [6, 11]), ([0, 2, 0, 1, 2, 3, 4, 5, 6, 7, 8, 9, 10, 11, 12], [0, 2]), ([13, 12, 0, 1, 2, 3, 4, 5, 6, 7, 8, 9, 10, 11, 12], [12, 13])])
def saronref09_share.B9 : List Nat := [0, 0, 2, 0, 0, 24, 56, 0, 0, 256, 896, 1920, 4088, 8191, 16383]
theorem saronref09_share.tab9 : rtab .any (opsOf Tryd.f73 9) = saronref09_share.T9 := by kernel_rfl
theorem saronref09_share.bits9 : waitsOk saronref09_share.T9.2 saronref09_share.B9 = true := by kernel_rfl
def saronref09_share.T10 : Bool × List (List Nat × List Nat) := (true, [([], []), ([], []), ([0, 1], [0, 1]), ([2], [2]), ([], []), ([], []), ([4, 5], [4, 5]), ([6], [6]), ([3, 7], [3, 7])])
def saronref09_share.B10 : List Nat := [0, 0, 3, 7, 0, 0, 48, 112, 255]
theorem saronref09_share.tab10 : rtab .any (opsOf Tryd.f73 10) = saronref09_share.T10 := by kernel_rfl
theorem saronref09_share.bits10 : waitsOk saronref09_share.T10.2 saronref09_share.B10 = true := by kernel_rfl
def saronref09_share.T11 : Bool × List (List Nat × List Nat) := (true, [([], []), ([], []), ([1], [1]), ([], []), ([], []), ([4], [4]), ([3, 5], [3, 5]), ([6], [6]), ([], []), ([], []), ([8, 9], [8, 9]), ([10], [10]), ([11], [11]), ([7, 12], [7, 12]), ([0, 2, 0, 1, 2, 3, 4, 5, 6, 7, 8, 9, 10, 11, 12, 13], [0, 2]), ([14, 13, 0, 1, 2, 3, 4, 5, 6, 7, 8, 9, 10, 11, 12, 13], [13, 14])])
def saronref09_share.B11 : List Nat := [0, 0, 2, 0, 0, 16, 56, 120, 0, 0, 768, 1792, 3840, 8184, 16383, 32767]
theorem saronref09_share.tab11 : rtab .any (opsOf Tryd.f73 11) = saronref09_share.T11 := by kernel_rfl
theorem saronref09_share.bits11 : waitsOk saronref09_share.T11.2 saronref09_share.B11 = true := by kernel_rfl
set_option maxHeartbeats 8000000 in
set_option maxRecDepth 100000 in
theorem saronref09_share.calls (k : Nat) (A0 : Option Addr) (c0 : Nat) (l0 : List Int) (A1 : Option Addr) (c1 : Nat) (l1 : List Int) (r : Int) (w : World) (hr0 : Kd.C (Kd.int .i64) w A0 l0.length l0) (hc0 : l0.length ≤ c0) (hr1 : Kd.C (Kd.int .i64) w A1 l1.length l1) (hc1 : l1.length ≤ c1) (h : saronref09_share.f k l0 l1 = some r) :
  Calls Tryd.prog 73 #[.slice A0 l0.length c0, .slice A1 l1.length c1] w fun e w' => e = .returned (.int .i64 r) ∧ Below w.heap.size w w' := by
 have HR0 := Aside0.mk hr0
 have HC0 := Aside0.mk hc0
 clear hr0 hc0
 have HR1 := Aside0.mk hr1
 have HC1 := Aside0.mk hc1
 clear hr1 hc1
 have HB := Aside0.mk (Below.refl w.heap.size w)
 have H : (if 0 ≤ (wrap64 ((l1.length : Int) + 1)) then (if (wrap64 ((l1.length : Int) + 1) : Int).toNat ≤ 35184372088832 then (saronref09_share.l0 k l0 l1 (List.replicate (wrap64 ((l1.length : Int) + 1) : Int).toNat 0) 0) else (none)) else (none)) = some r := h
 clear h
 obtain ⟨ji3, hji3⟩ : ∃ j_ : Int, (wrap64 ((l1.length : Int) + 1)) = j_ := ⟨_, rfl⟩
 replace H : (if 0 ≤ (ji3) then (if (ji3 : Int).toNat ≤ 35184372088832 then (saronref09_share.l0 k l0 l1 (List.replicate (ji3 : Int).toNat 0) 0) else (none)) else (none)) = some r := by first | (rw [hji3] at H; exact H) | (simp only [hji3] at H ⊢; exact H)
 have hji3w : (IntKind.i64.wrap ((l1.length : Int) + 1)) = ji3 := (i64_w _).trans hji3
 by_cases c4 : 0 ≤ (ji3)
 ·rw [if_pos c4] at H
  have c4b0 := eq_true c4
  have c4b1 : decide (0 ≤ (ji3)) = true := decide_eq_true c4
  clear c4
  by_cases c5 : (ji3 : Int).toNat ≤ 35184372088832
  ·rw [if_pos c5] at H
   have c5b0 := eq_true c5
   have c5b1 : decide ((ji3 : Int).toNat ≤ 35184372088832) = true := decide_eq_true c5
   clear c5
   obtain ⟨y101, hy101⟩ : ∃ y_ : List Int, y_ = (List.replicate (ji3 : Int).toNat 0) := ⟨_, rfl⟩
   replace H : (saronref09_share.l0 k l0 l1 y101 0) = some r := by first | (rw [hy101]; with_reducible exact H) | (have H2_ := (Option.bind_some _ _).symm.trans H; rw [hy101]; with_reducible exact H2_) | (have H2_ := (Option.bind_some _ _).symm.trans H; with_reducible exact H2_) | with_reducible exact H | (rw [hy101]; exact H) | exact H
   have Ny101 := Aside0.mk hy101
   clear hy101
   have H' := Aside0.mk H
   clear H
   go_enter Tryd.func73, Tryd.ntmps73
   go_wp2_with (first | ((with_reducible refine gate_dst (N := 12) rfl ?_); refine Kd.R_make (Kd.int .i64) _ 3 rfl (N := 12) rfl 28 _ _ rfl ji3 rfl rfl Tryd.underlying28 (.int .i64 0) 8 info3 rfl (by decide) (by omega) 0 (ok := fun _ => True) (okp := fun _ => True) rfl (fun _ hk => hk) trivial (of_decide_eq_true TA) (Nat.le_trans (Nat.mul_le_mul_right _ (of_decide_eq_true TA : ji3.toNat ≤ 35184372088832)) (by omega)) (Below.refl _ _) (Nat.le_refl _) ?_; intro v102 w6 ho7 hb hg_ hnew_; clear hg_ hnew_; (first | rw [← Ny101.out] at ho7 | (simp only [Int.reduceToNat] at ho7; rw [← Ny101.out] at ho7)); have HO103 := Aside0.mk (Kd.R_lower ho7 (below_size TB)); replace HB := Aside0.mk (below_step TB hb); clear hb ho7))
   go_loopg [5, 6] k (fun kq v5 v6 w' => ∃ (x5_1 : List Int) (x6_1 : Int), v6 = .int .i64 x6_1 ∧ Aside0 (saronref09_share.l0 kq l0 l1 x5_1 x6_1 = some r) ∧ Aside0 (kq ≤ k) ∧ Aside0 (Kd.R (Kd.int .i64) 3 w' w.heap.size (fun _ => True) v5 x5_1) ∧ Aside0 (Below w.heap.size w w'))
   case atStart => exact ⟨(y101), (0), TT, H', ⟨Nat.le_refl _⟩, ⟨by (with_reducible repeat (first | apply Kd.R_alloc | apply Kd.R_drewN | apply Kd.R_drew)); exact HO103.out⟩, ⟨TB⟩⟩
   case round => as_aux_lemma =>
    clear H'
    try clear c1
    try clear p2
    try clear c4
    try clear c4b0
    try clear c4b1
    try clear c5
    try clear c5b0
    try clear c5b1
    try clear p6
    try clear c7
    obtain ⟨x5_1, x6_1, rfl, HA, HK1, HO_5, HB⟩ := hrel
    cases gk with
    | zero => exact absurd HA.out (by simp [saronref09_share.l0])
    | succ k1 =>
     have H := HA.out
     clear HA
     simp only [saronref09_share.l0] at H
     by_cases c8 : x6_1 < (l0.length : Int)
     ·rw [if_pos c8] at H
      have c8b0 : decide (x6_1 < (l0.length : Int)) = true := decide_eq_true c8
      clear c8
      (try clear hji3w)
      (try clear hji3)
      obtain ⟨ji9, hji9⟩ : ∃ j_ : Int, (wrap64 ((l1.length : Int) + 1)) = j_ := ⟨_, rfl⟩
      replace H : (if 0 ≤ (ji9) then (if (ji9 : Int).toNat ≤ 35184372088832 then (saronref09_share.l1 k1 l0 l1 x5_1 x6_1 (List.replicate (ji9 : Int).toNat 0) 0) else (none)) else (none)) = some r := by first | (rw [hji9] at H; exact H) | (simp only [hji9] at H ⊢; exact H)
      have hji9w : (IntKind.i64.wrap ((l1.length : Int) + 1)) = ji9 := (i64_w _).trans hji9
      by_cases c10 : 0 ≤ (ji9)
      ·rw [if_pos c10] at H
       have c10b0 := eq_true c10
       have c10b1 : decide (0 ≤ (ji9)) = true := decide_eq_true c10
       clear c10
       by_cases c11 : (ji9 : Int).toNat ≤ 35184372088832
       ·rw [if_pos c11] at H
        have c11b0 := eq_true c11
        have c11b1 : decide ((ji9 : Int).toNat ≤ 35184372088832) = true := decide_eq_true c11
        clear c11
        obtain ⟨y105, hy105⟩ : ∃ y_ : List Int, y_ = (List.replicate (ji9 : Int).toNat 0) := ⟨_, rfl⟩
        replace H : (saronref09_share.l1 k1 l0 l1 x5_1 x6_1 y105 0) = some r := by first | (rw [hy105]; with_reducible exact H) | (have H2_ := (Option.bind_some _ _).symm.trans H; rw [hy105]; with_reducible exact H2_) | (have H2_ := (Option.bind_some _ _).symm.trans H; with_reducible exact H2_) | with_reducible exact H | (rw [hy105]; exact H) | exact H
        have Ny105 := Aside0.mk hy105
        clear hy105
        have H' := Aside0.mk H
        clear H
        go_wp2_with (first | ((with_reducible refine gate_dst (N := 22) rfl ?_); refine Kd.R_make (Kd.int .i64) _ 3 rfl (N := 22) rfl 28 _ _ rfl ji9 rfl rfl Tryd.underlying28 (.int .i64 0) 8 info3 rfl (by decide) (by omega) 0 (ok := fun _ => True) (okp := fun _ => True) rfl (fun _ hk => hk) trivial (of_decide_eq_true TA) (Nat.le_trans (Nat.mul_le_mul_right _ (of_decide_eq_true TA : ji9.toNat ≤ 35184372088832)) (by omega)) (Below.refl _ _) (Nat.le_refl _) ?_; intro v106 w12 ho13 hb hg_ hnew_; clear hg_ hnew_; (first | rw [← Ny105.out] at ho13 | (simp only [Int.reduceToNat] at ho13; rw [← Ny105.out] at ho13)); have HO107 := Aside0.mk (Kd.R_lower (Kd.R_new' ho13 (Kd.R_lt (TRo HO_5.out))) (below_size TB)); replace HO_5 := Aside0.mk (Kd.R_elder' (TRo HO_5.out) (Kd.R_base ho13) hb); replace HB := Aside0.mk (below_step TB hb); clear hb ho13))
        go_loopg [8] k1 (fun kq v8 w' => ∃ (x7_2 : List Int) (x8_2 : Int), v8 = .int .i64 x8_2 ∧ Aside0 (saronref09_share.l1 kq l0 l1 x5_1 x6_1 x7_2 x8_2 = some r) ∧ Aside0 (kq ≤ k1) ∧ Aside0 (Kd.R (Kd.int .i64) 3 w' w.heap.size (fun k_ => some k_ ≠ (v106 : Value).ownBlock) u5 x5_1) ∧ Aside0 (Kd.R (Kd.int .i64) 3 w' w.heap.size (fun k_ => some k_ ≠ (u5 : Value).ownBlock) v106 x7_2) ∧ Aside0 (Below w.heap.size w w'))
        case atStart => exact ⟨(y105), (0), TT, H', ⟨Nat.le_refl _⟩, ⟨by (with_reducible repeat (first | apply Kd.R_alloc | apply Kd.R_drewN | apply Kd.R_drew)); exact Kd.R_mono HO_5.out (fun _ hk => hk.2)⟩, ⟨by (with_reducible repeat (first | apply Kd.R_alloc | apply Kd.R_drewN | apply Kd.R_drew)); exact Kd.R_mono HO107.out (fun _ hk => hk.2)⟩, ⟨TB⟩⟩
        case round => as_aux_lemma =>
         clear H'
         try clear c1
         try clear p2
         try clear c4
         try clear c4b0
         try clear c4b1
         try clear c5
         try clear c5b0
         try clear c5b1
         try clear p6
         try clear c7
         try clear c8
         try clear c8b0
         try clear c10
         try clear c10b0
         try clear c10b1
         try clear c11
         try clear c11b0
         try clear c11b1
         try clear p2
         try clear p6
         obtain ⟨x7_2, x8_2, rfl, HA, HK2, HO_5, HO_7, HB⟩ := hrel
         cases gk with
         | zero => exact absurd HA.out (by simp [saronref09_share.l1])
         | succ k2 =>
          have H := HA.out
          clear HA
          simp only [saronref09_share.l1] at H
          by_cases c14 : x8_2 < (l1.length : Int)
          ·rw [if_pos c14] at H
           have c14b0 : decide (x8_2 < (l1.length : Int)) = true := decide_eq_true c14
           clear c14
           by_cases c15 : 0 ≤ x8_2
           ·rw [if_pos c15] at H
            have c15b0 : decide (0 ≤ x8_2) = true := decide_eq_true c15
            clear c15
            by_cases c16 : x8_2 < (x7_2.length : Int)
            ·rw [if_pos c16] at H
             have c16b0 : decide (x8_2 < (x7_2.length : Int)) = true := decide_eq_true c16
             clear c16
             obtain ⟨ji17, hji17⟩ : ∃ j_ : Int, (wrap64 (x8_2 + 1)) = j_ := ⟨_, rfl⟩
             replace H : (if 0 ≤ (ji17) then (if (ji17) < (x5_1.length : Int) then (if (ji17) < (x7_2.length : Int) then ((some (x7_2.set ((ji17) : Int).toNat (mx (rd x7_2 x8_2) (rd x5_1 (ji17))) : List Int)).bind fun y110 => (if 0 ≤ x6_1 then (if x6_1 < (l0.length : Int) then (if (rd l0 x6_1) = (rd l1 x8_2) then (if x8_2 < (x5_1.length : Int) then (saronref09_share.l1 k2 l0 l1 x5_1 x6_1 (y110.set ((ji17) : Int).toNat (mx (rd y110 (ji17)) (wrap64 ((rd x5_1 x8_2) + 1)))) ji17) else (none)) else (saronref09_share.l1 k2 l0 l1 x5_1 x6_1 y110 ji17)) else (none)) else (none))) else (none)) else (none)) else (none)) = some r := by first | (rw [hji17] at H; exact H) | (simp only [hji17] at H ⊢; exact H)
             have hji17w : (IntKind.i64.wrap (x8_2 + 1)) = ji17 := (i64_w _).trans hji17
             by_cases c18 : 0 ≤ (ji17)
             ·rw [if_pos c18] at H
              have c18b0 : decide (0 ≤ (ji17)) = true := decide_eq_true c18
              clear c18
              by_cases c19 : (ji17) < (x5_1.length : Int)
              ·rw [if_pos c19] at H
               have c19b0 : decide ((ji17) < (x5_1.length : Int)) = true := decide_eq_true c19
               clear c19
               obtain ⟨ji20, hji20⟩ : ∃ j_ : Int, (mx (rd x7_2 x8_2) (rd x5_1 (ji17))) = j_ := ⟨_, rfl⟩
               replace H : (if (ji17) < (x7_2.length : Int) then ((some (x7_2.set ((ji17) : Int).toNat (ji20) : List Int)).bind fun y110 => (if 0 ≤ x6_1 then (if x6_1 < (l0.length : Int) then (if (rd l0 x6_1) = (rd l1 x8_2) then (if x8_2 < (x5_1.length : Int) then (saronref09_share.l1 k2 l0 l1 x5_1 x6_1 (y110.set ((ji17) : Int).toNat (mx (rd y110 (ji17)) (wrap64 ((rd x5_1 x8_2) + 1)))) ji17) else (none)) else (saronref09_share.l1 k2 l0 l1 x5_1 x6_1 y110 ji17)) else (none)) else (none))) else (none)) = some r := by first | (rw [hji20] at H; exact H) | (simp only [hji20] at H ⊢; exact H)
               have hji20_ : (if (rd x7_2 x8_2) < (rd x5_1 (ji17)) then (rd x5_1 (ji17)) else (rd x7_2 x8_2)) = ji20 := hji20
               by_cases c21 : (ji17) < (x7_2.length : Int)
               ·rw [if_pos c21] at H
                have c21b0 : decide ((ji17) < (x7_2.length : Int)) = true := decide_eq_true c21
                clear c21
                obtain ⟨y110, hy110⟩ : ∃ y_ : List Int, y_ = (x7_2.set ((ji17) : Int).toNat (ji20)) := ⟨_, rfl⟩
                replace H : (if 0 ≤ x6_1 then (if x6_1 < (l0.length : Int) then (if (rd l0 x6_1) = (rd l1 x8_2) then (if x8_2 < (x5_1.length : Int) then (saronref09_share.l1 k2 l0 l1 x5_1 x6_1 (y110.set ((ji17) : Int).toNat (mx (rd y110 (ji17)) (wrap64 ((rd x5_1 x8_2) + 1)))) ji17) else (none)) else (saronref09_share.l1 k2 l0 l1 x5_1 x6_1 y110 ji17)) else (none)) else (none)) = some r := by first | (rw [hy110]; with_reducible exact H) | (have H2_ := (Option.bind_some _ _).symm.trans H; rw [hy110]; with_reducible exact H2_) | (have H2_ := (Option.bind_some _ _).symm.trans H; with_reducible exact H2_) | with_reducible exact H | (rw [hy110]; exact H) | exact H
                have Ny110 := Aside0.mk hy110
                clear hy110
                by_cases c23 : 0 ≤ x6_1
                ·rw [if_pos c23] at H
                 have c23b0 : decide (0 ≤ x6_1) = true := decide_eq_true c23
                 clear c23
                 by_cases c24 : x6_1 < (l0.length : Int)
                 ·rw [if_pos c24] at H
                  have c24b0 : decide (x6_1 < (l0.length : Int)) = true := decide_eq_true c24
                  clear c24
                  by_cases c25 : (rd l0 x6_1) = (rd l1 x8_2)
                  ·rw [if_pos c25] at H
                   have c25b0 : ((rd l0 x6_1) == (rd l1 x8_2)) = true := beq_iff_eq.mpr c25
                   have c25b1 : ((rd l0 x6_1) != (rd l1 x8_2)) = false := bne_eq_false_iff_eq.mpr c25
                   clear c25
                   by_cases c26 : x8_2 < (x5_1.length : Int)
                   ·rw [if_pos c26] at H
                    have c26b0 : decide (x8_2 < (x5_1.length : Int)) = true := decide_eq_true c26
                    clear c26
                    obtain ⟨ji27, hji27⟩ : ∃ j_ : Int, (mx (rd y110 (ji17)) (wrap64 ((rd x5_1 x8_2) + 1))) = j_ := ⟨_, rfl⟩
                    replace H : (saronref09_share.l1 k2 l0 l1 x5_1 x6_1 (y110.set ((ji17) : Int).toNat (ji27)) ji17) = some r := by first | (rw [hji27] at H; exact H) | (simp only [hji27] at H ⊢; exact H)
                    have hji27_ : (if (rd y110 (ji17)) < (wrap64 ((rd x5_1 x8_2) + 1)) then (wrap64 ((rd x5_1 x8_2) + 1)) else (rd y110 (ji17))) = ji27 := hji27
                    obtain ⟨y115, hy115⟩ : ∃ y_ : List Int, y_ = (y110.set ((ji17) : Int).toNat (ji27)) := ⟨_, rfl⟩
                    replace H : (saronref09_share.l1 k2 l0 l1 x5_1 x6_1 y115 ji17) = some r := by first | (rw [hy115]; with_reducible exact H) | (have H2_ := (Option.bind_some _ _).symm.trans H; rw [hy115]; with_reducible exact H2_) | (have H2_ := (Option.bind_some _ _).symm.trans H; with_reducible exact H2_) | with_reducible exact H | (rw [hy115]; exact H) | exact H
                    have Ny115 := Aside0.mk hy115
                    clear hy115
                    have H' := Aside0.mk H
                    clear H
                    try go_wp2
                    have n0_ := Aside0.mk (Kd.R_drew HO_5.out)
                    have n1_ := Aside0.mk (Kd.R_drew HO_7.out)
                    have n2_ := Aside0.mk (below_drew1 HB.out)
                    clear HO_5
                    clear HO_7
                    clear HB
                    have HO_5 := n0_
                    have HO_7 := n1_
                    have HB := n2_
                    clear n0_ n1_ n2_
                    obtain ⟨Ao30, co30, eo30⟩ := Kd.R_slice HO_7.out
                    (first | subst eo30 | (injection eo30 with f1_ f2_ f3_; have f4_ := f1_.symm; have f5_ := f3_.symm; clear f1_ f2_ f3_; subst f4_; subst f5_))
                    have p108 : 0 ≤ (x8_2 : Int) := of_decide_eq_true TA
                    have q108 : x8_2 < (x7_2.length : Int) := of_decide_eq_true TA
                    obtain ⟨ad108, e108, hx108_0⟩ := Kd.at_int (Kd.R_reads' HO_7.out).2.2 x8_2 p108 q108
                    cases e108
                    replace p108 := eq_true p108
                    replace q108 := eq_true q108
                    obtain ⟨Ao31, co31, eo31⟩ := Kd.R_slice HO_5.out
                    (first | subst eo31 | (injection eo31 with f1_ f2_ f3_; have f4_ := f1_.symm; have f5_ := f3_.symm; clear f1_ f2_ f3_; subst f4_; subst f5_))
                    have p109 : 0 ≤ ((ji17) : Int) := of_decide_eq_true TA
                    have q109 : (ji17) < (x5_1.length : Int) := of_decide_eq_true TA
                    obtain ⟨ad109, e109, hx109_0⟩ := Kd.at_int (Kd.R_reads' HO_5.out).2.2 (ji17) p109 q109
                    cases e109
                    replace p109 := eq_true p109
                    replace q109 := eq_true q109
                    have p22 : 0 ≤ ((ji17) : Int) := of_decide_eq_true TA
                    have q22 : ((ji17) : Int) < ((x7_2.length : Int) : Int) := of_decide_eq_true TA
                    obtain ⟨go22, co22, eo22, gb22, gl22, cl22, HG22⟩ := Kd.R_form HO_7.out (by omega)
                    (first | cases eo22 | (injection eo22 with ea_ en_ ec_; (first | subst ea_ | (injection ea_ with ea_; subst ea_)); subst ec_; clear en_))
                    have GB22 := Aside0.mk gb22
                    have GG22 := Aside0.mk HG22
                    clear gb22 gl22 HG22
                    (first | simp only [add_plain] at hx108_0 | skip)
                    obtain ⟨hx22_0, hf22_0⟩ := Kd.R_celln 0 HO_7.out ((ji17) : Int) p22 q22
                    replace p22 := eq_true p22
                    replace q22 := eq_true q22
                    have HP32 := Kd.R_putn HO_7.out ((ji17) : Int) ji20
                    rw [← Ny110.out] at HP32
                    have HQ32 := Aside0.mk HP32
                    clear HP32
                    refine start_ (n := 15) (S := fun w' => w'.cell? ⟨go22, (x8_2).toNat, none⟩ = some (.int .i64 (rd x7_2 x8_2)) ∧ w'.cell? (ad109.add ((ji17)).toNat) = some (.int .i64 (rd x5_1 (ji17)))) (ds := [14]) (.replicate 15 false) (by kernel_rfl) rfl rfl ⟨hx108_0, hx109_0⟩ (fun hHeld => ?_); refine with_tabW saronref09_share.tab9 saronref09_share.bits9 (fun HT_ HW_ => ?_)
                    generalize wr.drew = w29 at HO_5 HO_7 HB GG22 HQ32 hf22_0 hx108_0 hx109_0 hx22_0 hHeld ⊢
                    refine pT 0 29 (bt 15 1) (k := ?_)
                    refine pT 1 30 (bt 15 3) (k := ?_)
                    refine pT 2 31 (bt 15 7) (k := ?_)
                    refine pT 3 32 (bt 15 15) (k := ?_)
                    refine pT 4 33 (bt 15 31) (k := ?_)
                    refine pT 5 34 (bt 15 63) (k := ?_)
                    refine pT 7 36 (bt 15 191) (k := ?_)
                    refine pT 8 37 (bt 15 447) (k := ?_)
                    refine pT 9 38 (bt 15 959) (k := ?_)
                    refine pT 10 39 (bt 15 1983) (k := ?_)
                    refine tT2 6 35 (bt 15 2047) hHeld (k := ?_)
                    refine tT2 11 40 (bt 15 4095) hHeld (k := ?_)
                    refine pT 12 41 (bt 15 8191) (k := ?_)
                    refine pT 13 42 (bt 15 16383) (k := ?_)
                    refine last_ (i := 14) (N := none) (bt 15 32767) rfl rfl (one_of HT_.out (by kernel_rfl)) (by decide) (fun K hK => ?_)
                    refine skip_ (w1 := ?_) (by rfl) rfl ?_ ?_
                    rotate_left
                    ·go_simp
                     rfl
                    refine hK.out _ _ ?_
                    clear hK K
                    refine done_ (done_of HT_.out (by kernel_rfl)) ?_
                    try go_wp2
                    have n0_ : Aside0 (Kd.R (Kd.int .i64) 3 (w29.setCell ⟨go22, ((ji17) : Int).toNat, none⟩ (.int .i64 ji20)) w.heap.size (fun k_ => some k_ ≠ (.slice (some ⟨go22, 0, none⟩) x7_2.length co30 : Value).ownBlock) (.slice (some ad109) x5_1.length co31) x5_1) := ⟨by (with_reducible repeat (first | apply Kd.R_alloc | apply Kd.R_drewN | apply Kd.R_drew)); exact Kd.R_mono (Kd.R_far (p := ⟨go22, ((ji17) : Int).toNat, none⟩) (Kd.R_mono HO_5.out (fun k_ hk => (⟨hk, fun e_ => hk (by rw [e_]; rfl)⟩ : _ ∧ k_ ≠ go22))) (fun _ hk => hk.2) (.int .i64 ji20)) (fun _ hk => hk.1)⟩
                    have n1_ : Aside0 (Kd.R (Kd.int .i64) 3 (w29.setCell ⟨go22, ((ji17) : Int).toNat, none⟩ (.int .i64 ji20)) w.heap.size (fun k_ => some k_ ≠ (.slice (some ad109) x5_1.length co31 : Value).ownBlock) (.slice (some ⟨go22, 0, none⟩) x7_2.length co30) y110) := ⟨by (with_reducible repeat (first | apply Kd.R_alloc | apply Kd.R_drewN | apply Kd.R_drew)); exact HQ32.out⟩
                    have n2_ : Aside0 (Below w.heap.size w (w29.setCell ⟨go22, ((ji17) : Int).toNat, none⟩ (.int .i64 ji20))) := ⟨TB1 GB22.out⟩
                    (try clear HO_5)
                    (try clear HO_7)
                    (try clear HB)
                    generalize (w29.setCell ⟨go22, ((ji17) : Int).toNat, none⟩ (.int .i64 ji20)) = w33 at n0_ n1_ n2_ ⊢
                    have HO_5 := n0_
                    have HO_7 := n1_
                    have HB := n2_
                    clear n0_ n1_ n2_
                    have n0_ := Aside0.mk (Kd.R_drew HO_5.out)
                    have n1_ := Aside0.mk (Kd.R_drew HO_7.out)
                    have n2_ := Aside0.mk (below_drew1 HB.out)
                    clear HO_5
                    clear HO_7
                    clear HB
                    have HO_5 := n0_
                    have HO_7 := n1_
                    have HB := n2_
                    clear n0_ n1_ n2_
                    have p111 : 0 ≤ (x6_1 : Int) := of_decide_eq_true TA
                    have q111 : x6_1 < (l0.length : Int) := of_decide_eq_true TA
                    obtain ⟨ad111, e111, hx111_0⟩ := Kd.at_int HR0.out x6_1 p111 q111
                    have hw111_0 := hx111_0
                    cases e111
                    replace hx111_0 := hx HB.out hx111_0
                    replace p111 := eq_true p111
                    replace q111 := eq_true q111
                    have p112 : 0 ≤ (x8_2 : Int) := of_decide_eq_true TA
                    have q112 : x8_2 < (l1.length : Int) := of_decide_eq_true TA
                    obtain ⟨ad112, e112, hx112_0⟩ := Kd.at_int HR1.out x8_2 p112 q112
                    have hw112_0 := hx112_0
                    cases e112
                    replace hx112_0 := hx HB.out hx112_0
                    replace p112 := eq_true p112
                    replace q112 := eq_true q112
                    refine start_ (n := 9) (S := fun w' => w'.cell? (ad111.add (x6_1).toNat) = some (.int .i64 (rd l0 x6_1)) ∧ w'.cell? (ad112.add (x8_2).toNat) = some (.int .i64 (rd l1 x8_2))) (ds := []) (.replicate 9 false) (by kernel_rfl) rfl rfl ⟨(hx HB.out hw111_0), (hx HB.out hw112_0)⟩ (fun hHeld => ?_); refine with_tabW saronref09_share.tab10 saronref09_share.bits10 (fun HT_ HW_ => ?_)
                    generalize w33.drew = w34 at HO_5 HO_7 HB HQ32 hx111_0 hx112_0 hHeld ⊢
                    refine pT 0 43 (bt 9 1) (k := ?_)
                    refine pT 1 44 (bt 9 3) (k := ?_)
                    refine pT 2 45 (bt 9 7) (k := ?_)
                    refine pT 4 47 (bt 9 23) (k := ?_)
                    refine pT 5 48 (bt 9 55) (k := ?_)
                    refine pT 6 49 (bt 9 119) (k := ?_)
                    refine tT2 3 46 (bt 9 127) hHeld (k := ?_)
                    refine tT2 7 50 (bt 9 255) hHeld (k := ?_)
                    refine pT 8 51 (bt 9 511) (k := ?_)
                    refine done_ (done_of HT_.out (by kernel_rfl)) ?_
                    try go_wp2
                    have n0_ := Aside0.mk (Kd.R_drew HO_5.out)
                    have n1_ := Aside0.mk (Kd.R_drew HO_7.out)
                    have n2_ := Aside0.mk (below_drew1 HB.out)
                    clear HO_5
                    clear HO_7
                    clear HB
                    have HO_5 := n0_
                    have HO_7 := n1_
                    have HB := n2_
                    clear n0_ n1_ n2_
                    have p113 : 0 ≤ ((ji17) : Int) := of_decide_eq_true TA
                    have q113 : (ji17) < (y110.length : Int) := (by have h_ : ((ji17) : Int) < ((x7_2.length : Int) : Int) := of_decide_eq_true TA; first | (have e_ := (Kd.R_reads' HO_7.out).1; omega) | simpa only [Ny110.out, List.length_set] using h_)
                    have ql113 : (((ji17) : Int) < ((x7_2.length : Int) : Int)) = True := eq_true (of_decide_eq_true TA)
                    obtain ⟨ad113, e113, hx113_0⟩ := Kd.at_int (Kd.R_reads' HO_7.out).2.2 (ji17) p113 q113
                    obtain rfl : (⟨go22, 0, none⟩ : Addr) = ad113 := (by injection e113)
                    (first | simp only [add_plain] at hx113_0 | simp only [add_at] at hx113_0 | simp only [Addr.add, Nat.zero_add] at hx113_0 | skip)
                    replace p113 := eq_true p113
                    replace q113 := eq_true q113
                    have p114 : 0 ≤ (x8_2 : Int) := of_decide_eq_true TA
                    have q114 : x8_2 < (x5_1.length : Int) := of_decide_eq_true TA
                    obtain ⟨ad114, e114, hx114_0⟩ := Kd.at_int (Kd.R_reads' HO_5.out).2.2 x8_2 p114 q114
                    obtain rfl : ad109 = ad114 := (by injection e114)
                    replace p114 := eq_true p114
                    replace q114 := eq_true q114
                    have p28 : 0 ≤ ((ji17) : Int) := of_decide_eq_true TA
                    have q28 : ((ji17) : Int) < ((x7_2.length : Int) : Int) := of_decide_eq_true TA
                    obtain ⟨hx28_0, hf28_0⟩ := Kd.R_celln 0 HO_7.out ((ji17) : Int) p28 q28
                    replace p28 := eq_true p28
                    replace q28 := eq_true q28
                    have HP36 := Kd.R_putn HO_7.out ((ji17) : Int) ji27
                    rw [← Ny115.out] at HP36
                    have HQ36 := Aside0.mk HP36
                    clear HP36
                    refine start_ (n := 16) (S := fun w' => w'.cell? ⟨go22, ((ji17)).toNat, none⟩ = some (.int .i64 (rd y110 (ji17))) ∧ w'.cell? (ad109.add (x8_2).toNat) = some (.int .i64 (rd x5_1 x8_2))) (ds := [15]) (.replicate 16 false) (by kernel_rfl) rfl rfl ⟨hx113_0, hx114_0⟩ (fun hHeld => ?_); refine with_tabW saronref09_share.tab11 saronref09_share.bits11 (fun HT_ HW_ => ?_)
                    generalize w34.drew = w35 at HO_5 HO_7 HB HQ36 hf28_0 hx113_0 hx114_0 hx28_0 hHeld ⊢
                    refine pT 0 52 (bt 16 1) (k := ?_)
                    refine pT 1 53 (bt 16 3) (k := ?_)
                    refine pT 2 54 (bt 16 7) (k := ?_)
                    refine pT 3 55 (bt 16 15) (k := ?_)
                    refine pT 4 56 (bt 16 31) (k := ?_)
                    refine pT 5 57 (bt 16 63) (k := ?_)
                    refine pT 6 58 (bt 16 127) (k := ?_)
                    refine pT 8 60 (bt 16 383) (k := ?_)
                    refine pT 9 61 (bt 16 895) (k := ?_)
                    refine pT 10 62 (bt 16 1919) (k := ?_)
                    refine tT2 7 59 (bt 16 2047) hHeld (k := ?_)
                    refine tT2 11 63 (bt 16 4095) hHeld (k := ?_)
                    refine pT 12 64 (bt 16 8191) (k := ?_)
                    refine pT 13 65 (bt 16 16383) (k := ?_)
                    refine pT 14 66 (bt 16 32767) (k := ?_)
                    refine last_ (i := 15) (N := none) (bt 16 65535) rfl rfl (one_of HT_.out (by kernel_rfl)) (by decide) (fun K hK => ?_)
                    refine skip_ (w1 := ?_) (by rfl) rfl ?_ ?_
                    rotate_left
                    ·go_simp
                     rfl
                    refine hK.out _ _ ?_
                    clear hK K
                    refine done_ (done_of HT_.out (by kernel_rfl)) ?_
                    try go_wp2
                    go_roundg k2
                    case measure => have := HK1.out; have := HK2.out; omega
                    case rel => exact ⟨(y115), (ji17), (by first | rfl | (simp; done) | (simp only [← hji17] <;> (first | rfl | simp)) | (simp [*]; done)), H', ⟨by have := HK1.out; have := HK2.out; omega⟩, ⟨by (with_reducible repeat (first | apply Kd.R_alloc | apply Kd.R_drewN | apply Kd.R_drew)); exact Kd.R_mono (Kd.R_far (p := ⟨go22, ((ji17) : Int).toNat, none⟩) (Kd.R_mono HO_5.out (fun k_ hk => (⟨hk, fun e_ => hk (by rw [e_]; rfl)⟩ : _ ∧ k_ ≠ go22))) (fun _ hk => hk.2) (.int .i64 ji27)) (fun _ hk => hk.1)⟩, ⟨by (with_reducible repeat (first | apply Kd.R_alloc | apply Kd.R_drewN | apply Kd.R_drew)); exact HQ36.out⟩, ⟨TB1 GB22.out⟩⟩
                   ·rw [if_neg c26] at H
                    exact absurd H (by simp)
                  ·rw [if_neg c25] at H
                   have c25b0 : ((rd l0 x6_1) == (rd l1 x8_2)) = false := beq_eq_false_iff_ne.mpr c25
                   have c25b1 : ((rd l0 x6_1) != (rd l1 x8_2)) = true := bne_iff_ne.mpr c25
                   have H' := Aside0.mk H
                   clear H
                   try go_wp2
                   have n0_ := Aside0.mk (Kd.R_drew HO_5.out)
                   have n1_ := Aside0.mk (Kd.R_drew HO_7.out)
                   have n2_ := Aside0.mk (below_drew1 HB.out)
                   clear HO_5
                   clear HO_7
                   clear HB
                   have HO_5 := n0_
                   have HO_7 := n1_
                   have HB := n2_
                   clear n0_ n1_ n2_
                   obtain ⟨Ao38, co38, eo38⟩ := Kd.R_slice HO_7.out
                   (first | subst eo38 | (injection eo38 with f1_ f2_ f3_; have f4_ := f1_.symm; have f5_ := f3_.symm; clear f1_ f2_ f3_; subst f4_; subst f5_))
                   have p108 : 0 ≤ (x8_2 : Int) := of_decide_eq_true TA
                   have q108 : x8_2 < (x7_2.length : Int) := of_decide_eq_true TA
                   obtain ⟨ad108, e108, hx108_0⟩ := Kd.at_int (Kd.R_reads' HO_7.out).2.2 x8_2 p108 q108
                   cases e108
                   replace p108 := eq_true p108
                   replace q108 := eq_true q108
                   obtain ⟨Ao39, co39, eo39⟩ := Kd.R_slice HO_5.out
                   (first | subst eo39 | (injection eo39 with f1_ f2_ f3_; have f4_ := f1_.symm; have f5_ := f3_.symm; clear f1_ f2_ f3_; subst f4_; subst f5_))
                   have p109 : 0 ≤ ((ji17) : Int) := of_decide_eq_true TA
                   have q109 : (ji17) < (x5_1.length : Int) := of_decide_eq_true TA
                   obtain ⟨ad109, e109, hx109_0⟩ := Kd.at_int (Kd.R_reads' HO_5.out).2.2 (ji17) p109 q109
                   cases e109
                   replace p109 := eq_true p109
                   replace q109 := eq_true q109
                   have p22 : 0 ≤ ((ji17) : Int) := of_decide_eq_true TA
                   have q22 : ((ji17) : Int) < ((x7_2.length : Int) : Int) := of_decide_eq_true TA
                   obtain ⟨go22, co22, eo22, gb22, gl22, cl22, HG22⟩ := Kd.R_form HO_7.out (by omega)
                   (first | cases eo22 | (injection eo22 with ea_ en_ ec_; (first | subst ea_ | (injection ea_ with ea_; subst ea_)); subst ec_; clear en_))
                   have GB22 := Aside0.mk gb22
                   have GG22 := Aside0.mk HG22
                   clear gb22 gl22 HG22
                   (first | simp only [add_plain] at hx108_0 | skip)
                   obtain ⟨hx22_0, hf22_0⟩ := Kd.R_celln 0 HO_7.out ((ji17) : Int) p22 q22
                   replace p22 := eq_true p22
                   replace q22 := eq_true q22
                   have HP40 := Kd.R_putn HO_7.out ((ji17) : Int) ji20
                   rw [← Ny110.out] at HP40
                   have HQ40 := Aside0.mk HP40
                   clear HP40
                   refine start_ (n := 15) (S := fun w' => w'.cell? ⟨go22, (x8_2).toNat, none⟩ = some (.int .i64 (rd x7_2 x8_2)) ∧ w'.cell? (ad109.add ((ji17)).toNat) = some (.int .i64 (rd x5_1 (ji17)))) (ds := [14]) (.replicate 15 false) (by kernel_rfl) rfl rfl ⟨hx108_0, hx109_0⟩ (fun hHeld => ?_); refine with_tabW saronref09_share.tab9 saronref09_share.bits9 (fun HT_ HW_ => ?_)
                   generalize wr.drew = w37 at HO_5 HO_7 HB GG22 HQ40 hf22_0 hx108_0 hx109_0 hx22_0 hHeld ⊢
                   refine pT 0 29 (bt 15 1) (k := ?_)
                   refine pT 1 30 (bt 15 3) (k := ?_)
                   refine pT 2 31 (bt 15 7) (k := ?_)
                   refine pT 3 32 (bt 15 15) (k := ?_)
                   refine pT 4 33 (bt 15 31) (k := ?_)
                   refine pT 5 34 (bt 15 63) (k := ?_)
                   refine pT 7 36 (bt 15 191) (k := ?_)
                   refine pT 8 37 (bt 15 447) (k := ?_)
                   refine pT 9 38 (bt 15 959) (k := ?_)
                   refine pT 10 39 (bt 15 1983) (k := ?_)
                   refine tT2 6 35 (bt 15 2047) hHeld (k := ?_)
                   refine tT2 11 40 (bt 15 4095) hHeld (k := ?_)
                   refine pT 12 41 (bt 15 8191) (k := ?_)
                   refine pT 13 42 (bt 15 16383) (k := ?_)
                   refine last_ (i := 14) (N := none) (bt 15 32767) rfl rfl (one_of HT_.out (by kernel_rfl)) (by decide) (fun K hK => ?_)
                   refine skip_ (w1 := ?_) (by rfl) rfl ?_ ?_
                   rotate_left
                   ·go_simp
                    rfl
                   refine hK.out _ _ ?_
                   clear hK K
                   refine done_ (done_of HT_.out (by kernel_rfl)) ?_
                   try go_wp2
                   have n0_ : Aside0 (Kd.R (Kd.int .i64) 3 (w37.setCell ⟨go22, ((ji17) : Int).toNat, none⟩ (.int .i64 ji20)) w.heap.size (fun k_ => some k_ ≠ (.slice (some ⟨go22, 0, none⟩) x7_2.length co38 : Value).ownBlock) (.slice (some ad109) x5_1.length co39) x5_1) := ⟨by (with_reducible repeat (first | apply Kd.R_alloc | apply Kd.R_drewN | apply Kd.R_drew)); exact Kd.R_mono (Kd.R_far (p := ⟨go22, ((ji17) : Int).toNat, none⟩) (Kd.R_mono HO_5.out (fun k_ hk => (⟨hk, fun e_ => hk (by rw [e_]; rfl)⟩ : _ ∧ k_ ≠ go22))) (fun _ hk => hk.2) (.int .i64 ji20)) (fun _ hk => hk.1)⟩
                   have n1_ : Aside0 (Kd.R (Kd.int .i64) 3 (w37.setCell ⟨go22, ((ji17) : Int).toNat, none⟩ (.int .i64 ji20)) w.heap.size (fun k_ => some k_ ≠ (.slice (some ad109) x5_1.length co39 : Value).ownBlock) (.slice (some ⟨go22, 0, none⟩) x7_2.length co38) y110) := ⟨by (with_reducible repeat (first | apply Kd.R_alloc | apply Kd.R_drewN | apply Kd.R_drew)); exact HQ40.out⟩
                   have n2_ : Aside0 (Below w.heap.size w (w37.setCell ⟨go22, ((ji17) : Int).toNat, none⟩ (.int .i64 ji20))) := ⟨TB1 GB22.out⟩
                   (try clear HO_5)
                   (try clear HO_7)
                   (try clear HB)
                   generalize (w37.setCell ⟨go22, ((ji17) : Int).toNat, none⟩ (.int .i64 ji20)) = w41 at n0_ n1_ n2_ ⊢
                   have HO_5 := n0_
                   have HO_7 := n1_
                   have HB := n2_
                   clear n0_ n1_ n2_
                   have n0_ := Aside0.mk (Kd.R_drew HO_5.out)
                   have n1_ := Aside0.mk (Kd.R_drew HO_7.out)
                   have n2_ := Aside0.mk (below_drew1 HB.out)
                   clear HO_5
                   clear HO_7
                   clear HB
                   have HO_5 := n0_
                   have HO_7 := n1_
                   have HB := n2_
                   clear n0_ n1_ n2_
                   have p111 : 0 ≤ (x6_1 : Int) := of_decide_eq_true TA
                   have q111 : x6_1 < (l0.length : Int) := of_decide_eq_true TA
                   obtain ⟨ad111, e111, hx111_0⟩ := Kd.at_int HR0.out x6_1 p111 q111
                   have hw111_0 := hx111_0
                   cases e111
                   replace hx111_0 := hx HB.out hx111_0
                   replace p111 := eq_true p111
                   replace q111 := eq_true q111
                   have p112 : 0 ≤ (x8_2 : Int) := of_decide_eq_true TA
                   have q112 : x8_2 < (l1.length : Int) := of_decide_eq_true TA
                   obtain ⟨ad112, e112, hx112_0⟩ := Kd.at_int HR1.out x8_2 p112 q112
                   have hw112_0 := hx112_0
                   cases e112
                   replace hx112_0 := hx HB.out hx112_0
                   replace p112 := eq_true p112
                   replace q112 := eq_true q112
                   refine start_ (n := 9) (S := fun w' => w'.cell? (ad111.add (x6_1).toNat) = some (.int .i64 (rd l0 x6_1)) ∧ w'.cell? (ad112.add (x8_2).toNat) = some (.int .i64 (rd l1 x8_2))) (ds := []) (.replicate 9 false) (by kernel_rfl) rfl rfl ⟨(hx HB.out hw111_0), (hx HB.out hw112_0)⟩ (fun hHeld => ?_); refine with_tabW saronref09_share.tab10 saronref09_share.bits10 (fun HT_ HW_ => ?_)
                   generalize w41.drew = w42 at HO_5 HO_7 HB HQ40 hx111_0 hx112_0 hHeld ⊢
                   refine pT 0 43 (bt 9 1) (k := ?_)
                   refine pT 1 44 (bt 9 3) (k := ?_)
                   refine pT 2 45 (bt 9 7) (k := ?_)
                   refine pT 4 47 (bt 9 23) (k := ?_)
                   refine pT 5 48 (bt 9 55) (k := ?_)
                   refine pT 6 49 (bt 9 119) (k := ?_)
                   refine tT2 3 46 (bt 9 127) hHeld (k := ?_)
                   refine tT2 7 50 (bt 9 255) hHeld (k := ?_)
                   refine pT 8 51 (bt 9 511) (k := ?_)
                   refine done_ (done_of HT_.out (by kernel_rfl)) ?_
                   try go_wp2
                   go_roundg k2
                   case measure => have := HK1.out; have := HK2.out; omega
                   case rel => exact ⟨(y110), (ji17), (by first | rfl | (simp; done) | (simp only [← hji17] <;> (first | rfl | simp)) | (simp [*]; done)), H', ⟨by have := HK1.out; have := HK2.out; omega⟩, ⟨by (with_reducible repeat (first | apply Kd.R_alloc | apply Kd.R_drewN | apply Kd.R_drew)); exact HO_5.out⟩, ⟨by (with_reducible repeat (first | apply Kd.R_alloc | apply Kd.R_drewN | apply Kd.R_drew)); exact HO_7.out⟩, ⟨TB⟩⟩
                 ·rw [if_neg c24] at H
                  exact absurd H (by simp)
                ·rw [if_neg c23] at H
                 exact absurd H (by simp)
               ·rw [if_neg c21] at H
                exact absurd H (by simp)
              ·rw [if_neg c19] at H
               exact absurd H (by simp)
             ·rw [if_neg c18] at H
              exact absurd H (by simp)
            ·rw [if_neg c16] at H
             exact absurd H (by simp)
           ·rw [if_neg c15] at H
            exact absurd H (by simp)
          ·rw [if_neg c14] at H
           have c14b0 : decide (x8_2 < (l1.length : Int)) = false := decide_eq_false c14
           clear c14
           have H' := Aside0.mk H
           clear H
           go_wp2
           go_roundg k2
           case measure => have := HK1.out; have := HK2.out; omega
           case rel => exact ⟨(x7_2), (wrap64 (x6_1 + 1)), TT, H', ⟨by have := HK1.out; have := HK2.out; omega⟩, ⟨by (with_reducible repeat (first | apply Kd.R_alloc | apply Kd.R_drewN | apply Kd.R_drew)); exact Kd.R_mono HO_7.out (fun _ hk => trivial)⟩, ⟨TB⟩⟩
       ·rw [if_neg c11] at H
        exact absurd H (by simp)
      ·rw [if_neg c10] at H
       exact absurd H (by simp)
     ·rw [if_neg c8] at H
      have c8b0 : decide (x6_1 < (l0.length : Int)) = false := decide_eq_false c8
      clear c8
      by_cases c43 : 0 ≤ (l1.length : Int)
      ·rw [if_pos c43] at H
       have c43b0 : decide (0 ≤ (l1.length : Int)) = true := decide_eq_true c43
       have c43b1 : decide (0 ≤ l1.length) = true := decide_eq_true (by omega)
       clear c43
       by_cases c44 : (l1.length : Int) < (x5_1.length : Int)
       ·rw [if_pos c44] at H
        have c44b0 : decide ((l1.length : Int) < (x5_1.length : Int)) = true := decide_eq_true c44
        have c44b1 : decide (l1.length < x5_1.length) = true := decide_eq_true (Int.ofNat_lt.mp c44)
        clear c44
        obtain rfl := Option.some.inj H
        obtain ⟨Ao45, co45, eo45⟩ := Kd.R_slice HO_5.out
        subst eo45
        have p104 : 0 ≤ ((l1.length : Int) : Int) := of_decide_eq_true TA
        have q104 : (l1.length : Int) < (x5_1.length : Int) := of_decide_eq_true TA
        obtain ⟨ad104, e104, hx104_0⟩ := Kd.at_int (Kd.R_reads' HO_5.out).2.2 (l1.length : Int) p104 q104
        cases e104
        (try simp only [Go.IntWalk.toNatUp] at hx104_0)
        replace p104 := eq_true p104
        replace q104 := eq_true q104
        go_wp2
        go_ret
        exact ⟨by first | rfl | (simp [errW_none, errW_some] <;> rfl) | (simp only [← hji3]; first | rfl | (simp [errW_none, errW_some] <;> rfl)) | (simp [*, errW_none, errW_some] <;> rfl), TB⟩
       ·rw [if_neg c44] at H
        exact absurd H (by simp)
      ·rw [if_neg c43] at H
       exact absurd H (by simp)
  ·rw [if_neg c5] at H
   exact absurd H (by simp)
 ·rw [if_neg c4] at H
  exact absurd H (by simp)
end Go.Proofs.YtfdenclnneigfaaDoor.PRaspKeys
