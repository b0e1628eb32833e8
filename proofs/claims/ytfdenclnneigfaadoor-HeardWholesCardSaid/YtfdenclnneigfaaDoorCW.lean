import Derived.Test.YtfdenclnneigfaaDoorC1
import Derived.Test.YtfdenclnneigfaaDoorC3
import Derived.Test.YtfdenclnneigfaaDoorM0
import Derived.Test.YtfdenclnneigfaaDoorProg
import Derived.Below
import Derived.Deep.Draws
import Derived.Deep.AppendLies
import Derived.Maps.AppendAt
import Derived.OwnWalk
import Derived.Laws.BytesArg
import Derived.Laws.MakeOwn
import Derived.Laws.OwnMore
import Derived.Deep.OwnRows
import Derived.Tactics
import Derived.Lib.ConvBytes
import Derived.Laws.Slices
import Derived.WalkKit
import Derived.KernelRfl
import Derived.RowKit3
import Derived.Deep.LoopGhost
import Derived.Deep.QuietTactic
import Derived.BigQuiet
import Derived.WideLaws
import Derived.Deep.DeepCutAuto
import Derived.Deep.CutBlock
import Derived.Deep.RegionHeld3
import Derived.Laws.Rows
import Derived.Lib.AppendStr
import Derived.ArgAppend
import Derived.Laws.IdiomCopy
import Derived.OrdersHeld
import Derived.Laws.BitsLemmas
import Derived.RowKit
set_option linter.unusedVariables false
set_option linter.unusedSimpArgs false
namespace Go.Proofs.YtfdenclnneigfaaDoor.PRaspKeys
open Go.RowKit Go.Proofs.YtfdenclnneigfaaDoorW.PrintWords Go.Proofs.YtfdenclnneigfaaDoorW.PrintLast Go.Proofs.YtfdenclnneigfaaDoorW.PrintMore Go.Proofs.YtfdenclnneigfaaDoor.M
attribute [local go_sem] max2_int min2_int max_two min_two max_three min_three max_four min_four   -- for this text's walks alone
/-! #### struct type 114 -/
/-! #### struct type 62 -/
end Go.Proofs.YtfdenclnneigfaaDoor.PRaspKeys
namespace Go.Proofs.YtfdenclnneigfaaDoor.PRaspKeys
open Go.RowKit Go.Proofs.YtfdenclnneigfaaDoorW.PrintWords Go.Proofs.YtfdenclnneigfaaDoorW.PrintLast Go.Proofs.YtfdenclnneigfaaDoorW.PrintMore Go.Proofs.YtfdenclnneigfaaDoor.M
attribute [local go_sem] max2_int min2_int max_two min_two max_three min_three max_four min_four   -- for this text's walks alone
/-! ### saronref09_Common: function 31 -/
def saronref09_Common.f (k : Nat) (a0_0 : Int) (l0_1 : List (S114)) (l0_2 : List (S62)) (a1 : Int) (a2 : Int) : Option (Int × Int) := (saronref09_isPiece.f a0_0 l0_1 l0_2 a1).bind fun t148 => (if t148 = true then ((saronref09_isPiece.f a0_0 l0_1 l0_2 a2).bind fun t149 => ((saronref09_asked.f k a0_0 l0_1 l0_2 t149).bind fun t150 => (if t150 = 0 then (if 0 ≤ a1 then (if a1 < (l0_2.length : Int) then (if 0 ≤ a2 then (if a2 < (l0_2.length : Int) then ((saronref09_share.f k ((rd_T62 l0_2 a1).f1) ((rd_T62 l0_2 a2).f1)).bind fun t153 => (some (t153, 0))) else (none)) else (none)) else (none)) else (none)) else (some (0, t150))))) else ((saronref09_asked.f k a0_0 l0_1 l0_2 false).bind fun t154 => (if t154 = 0 then (if 0 ≤ a1 then (if a1 < (l0_2.length : Int) then (if 0 ≤ a2 then (if a2 < (l0_2.length : Int) then ((saronref09_share.f k ((rd_T62 l0_2 a1).f1) ((rd_T62 l0_2 a2).f1)).bind fun t157 => (some (t157, 0))) else (none)) else (none)) else (none)) else (none)) else (some (0, t154)))))
theorem saronref09_Common.mono : ∀ a0 a1 a2 a3 a4 k, LeO (saronref09_Common.f k a0 a1 a2 a3 a4) (saronref09_Common.f (k + 1) a0 a1 a2 a3 a4) := by
 intro a0 a1 a2 a3 a4 k
 unfold saronref09_Common.f
 repeat' first
   | (with_reducible exact saronref09_asked.mono _ _ _ _ _)
   | (with_reducible exact saronref09_share.mono _ _ _)
   | (with_reducible exact LeO.refl _)
   | (with_reducible exact LeO.none _)
   | (with_reducible refine LeO.ite ?_ ?_)
   | (with_reducible refine LeO.bind ?_ (fun _ => ?_))
   | exact saronref09_asked.mono _ _ _ _ _
   | exact saronref09_share.mono _ _ _
   | exact LeO.none _
   | refine LeO.ite ?_ ?_
   | refine LeO.bind ?_ (fun _ => ?_)
def saronref09_Common.T1 : Bool × List (List Nat × List Nat) := (true, [([], []), ([], []), ([], []), ([1, 2], [1, 2]), ([3, 3], [3]), ([4], [4]), ([4], [4]), ([5, 6, 4, 4], [4, 5, 6]), ([4, 7], [4, 7]), ([0, 8, 7], [0, 8]), ([9, 9, 0, 1, 2, 3, 4, 5, 6, 7, 8, 9], [9])])
def saronref09_Common.B1 : List Nat := [0, 0, 0, 6, 14, 30, 30, 126, 254, 511, 1023]
theorem saronref09_Common.tab1 : rtab .any (opsOf Tryd.f31 1) = saronref09_Common.T1 := by kernel_rfl
theorem saronref09_Common.bits1 : waitsOk saronref09_Common.T1.2 saronref09_Common.B1 = true := by kernel_rfl
def saronref09_Common.T4 : Bool × List (List Nat × List Nat) := (true, [([], []), ([0], [0]), ([], []), ([1, 2], [1, 2]), ([3], [3]), ([4], [4]), ([], []), ([6], [6]), ([], []), ([7, 8], [7, 8]), ([9], [9]), ([10], [10]), ([5, 11], [5, 11]), ([12, 12, 0, 1, 2, 3, 4, 5, 6, 7, 8, 9, 10, 11, 12], [12]), ([13, 0, 1, 2, 3, 4, 5, 6, 7, 8, 9, 10, 11, 12, 13], [])])
def saronref09_Common.B4 : List Nat := [0, 1, 0, 7, 15, 31, 0, 64, 0, 448, 960, 1984, 4095, 8191, 16383]
theorem saronref09_Common.tab4 : rtab .any (opsOf Tryd.f31 4) = saronref09_Common.T4 := by kernel_rfl
theorem saronref09_Common.bits4 : waitsOk saronref09_Common.T4.2 saronref09_Common.B4 = true := by kernel_rfl
set_option maxHeartbeats 8000000 in
set_option maxRecDepth 100000 in
theorem saronref09_Common.calls (k : Nat) (a0_0 : Int) (A0_1 : Option Addr) (c0_1 : Nat) (l0_1 : List (S114)) (A0_2 : Option Addr) (c0_2 : Nat) (l0_2 : List (S62)) (a1 : Int) (a2 : Int) (r1 : Int) (r2 : Int) (w : World) (hr0_1 : Kd.C k114 w A0_1 l0_1.length l0_1) (hc0_1 : l0_1.length ≤ c0_1) (hr0_2 : Kd.C k62 w A0_2 l0_2.length l0_2) (hc0_2 : l0_2.length ≤ c0_2) (h : saronref09_Common.f k a0_0 l0_1 l0_2 a1 a2 = some (r1, r2)) :
  Calls Tryd.prog 31 #[.agg #[.int .i64 a0_0, .slice A0_1 l0_1.length c0_1, .slice A0_2 l0_2.length c0_2], .int .i64 a1, .int .i64 a2] w fun e w' => e = .returned (.tuple #[.int .i64 r1, .int .i64 r2]) ∧ Below w.heap.size w w' := by
 have hu27 := Tryd.underlying27
 have HR0_1 := Aside0.mk hr0_1
 have HC0_1 := Aside0.mk hc0_1
 clear hr0_1 hc0_1
 have HR0_2 := Aside0.mk hr0_2
 have HC0_2 := Aside0.mk hc0_2
 clear hr0_2 hc0_2
 have HB := Aside0.mk (Below.refl w.heap.size w)
 have H : ((saronref09_isPiece.f a0_0 l0_1 l0_2 a1).bind fun t148 => (if t148 = true then ((saronref09_isPiece.f a0_0 l0_1 l0_2 a2).bind fun t149 => ((saronref09_asked.f k a0_0 l0_1 l0_2 t149).bind fun t150 => (if t150 = 0 then (if 0 ≤ a1 then (if a1 < (l0_2.length : Int) then (if 0 ≤ a2 then (if a2 < (l0_2.length : Int) then ((saronref09_share.f k ((rd_T62 l0_2 a1).f1) ((rd_T62 l0_2 a2).f1)).bind fun t153 => (some (t153, 0))) else (none)) else (none)) else (none)) else (none)) else (some (0, t150))))) else ((saronref09_asked.f k a0_0 l0_1 l0_2 false).bind fun t154 => (if t154 = 0 then (if 0 ≤ a1 then (if a1 < (l0_2.length : Int) then (if 0 ≤ a2 then (if a2 < (l0_2.length : Int) then ((saronref09_share.f k ((rd_T62 l0_2 a1).f1) ((rd_T62 l0_2 a2).f1)).bind fun t157 => (some (t157, 0))) else (none)) else (none)) else (none)) else (none)) else (some (0, t154)))))) = some (r1, r2) := h
 clear h
 replace H := Option.bind_eq_some_iff.mp H
 obtain ⟨t148, A40, H⟩ := H
 replace H : (if t148 = true then ((saronref09_isPiece.f a0_0 l0_1 l0_2 a2).bind fun t149 => ((saronref09_asked.f k a0_0 l0_1 l0_2 t149).bind fun t150 => (if t150 = 0 then (if 0 ≤ a1 then (if a1 < (l0_2.length : Int) then (if 0 ≤ a2 then (if a2 < (l0_2.length : Int) then ((saronref09_share.f k ((rd_T62 l0_2 a1).f1) ((rd_T62 l0_2 a2).f1)).bind fun t153 => (some (t153, 0))) else (none)) else (none)) else (none)) else (none)) else (some (0, t150))))) else ((saronref09_asked.f k a0_0 l0_1 l0_2 false).bind fun t154 => (if t154 = 0 then (if 0 ≤ a1 then (if a1 < (l0_2.length : Int) then (if 0 ≤ a2 then (if a2 < (l0_2.length : Int) then ((saronref09_share.f k ((rd_T62 l0_2 a1).f1) ((rd_T62 l0_2 a2).f1)).bind fun t157 => (some (t157, 0))) else (none)) else (none)) else (none)) else (none)) else (some (0, t154))))) = some (r1, r2) := H
 have A4 := Aside0.mk A40
 clear A40
 by_cases c5 : t148 = true
 ·subst c5
  have H1 : ((saronref09_isPiece.f a0_0 l0_1 l0_2 a2).bind fun t149 => ((saronref09_asked.f k a0_0 l0_1 l0_2 t149).bind fun t150 => (if t150 = 0 then (if 0 ≤ a1 then (if a1 < (l0_2.length : Int) then (if 0 ≤ a2 then (if a2 < (l0_2.length : Int) then ((saronref09_share.f k ((rd_T62 l0_2 a1).f1) ((rd_T62 l0_2 a2).f1)).bind fun t153 => (some (t153, 0))) else (none)) else (none)) else (none)) else (none)) else (some (0, t150))))) = some (r1, r2) := by rw [if_pos rfl] at H; exact H
  clear H
  have H := H1
  clear H1
  replace H := Option.bind_eq_some_iff.mp H
  obtain ⟨t149, A60, H⟩ := H
  replace H : ((saronref09_asked.f k a0_0 l0_1 l0_2 t149).bind fun t150 => (if t150 = 0 then (if 0 ≤ a1 then (if a1 < (l0_2.length : Int) then (if 0 ≤ a2 then (if a2 < (l0_2.length : Int) then ((saronref09_share.f k ((rd_T62 l0_2 a1).f1) ((rd_T62 l0_2 a2).f1)).bind fun t153 => (some (t153, 0))) else (none)) else (none)) else (none)) else (none)) else (some (0, t150)))) = some (r1, r2) := H
  have A6 := Aside0.mk A60
  clear A60
  replace H := Option.bind_eq_some_iff.mp H
  obtain ⟨t150, A70, H⟩ := H
  replace H : (if t150 = 0 then (if 0 ≤ a1 then (if a1 < (l0_2.length : Int) then (if 0 ≤ a2 then (if a2 < (l0_2.length : Int) then ((saronref09_share.f k ((rd_T62 l0_2 a1).f1) ((rd_T62 l0_2 a2).f1)).bind fun t153 => (some (t153, 0))) else (none)) else (none)) else (none)) else (none)) else (some (0, t150))) = some (r1, r2) := H
  have A7 := Aside0.mk A70
  clear A70
  by_cases c8 : t150 = 0
  ·rw [if_pos c8] at H
   have c8b0 : (t150 == 0) = true := beq_iff_eq.mpr c8
   have c8b1 : (t150 != 0) = false := bne_eq_false_iff_eq.mpr c8
   clear c8
   by_cases c9 : 0 ≤ a1
   ·rw [if_pos c9] at H
    have c9b0 : decide (0 ≤ a1) = true := decide_eq_true c9
    clear c9
    by_cases c10 : a1 < (l0_2.length : Int)
    ·rw [if_pos c10] at H
     have c10b0 : decide (a1 < (l0_2.length : Int)) = true := decide_eq_true c10
     clear c10
     by_cases c11 : 0 ≤ a2
     ·rw [if_pos c11] at H
      have c11b0 : decide (0 ≤ a2) = true := decide_eq_true c11
      clear c11
      by_cases c12 : a2 < (l0_2.length : Int)
      ·rw [if_pos c12] at H
       have c12b0 : decide (a2 < (l0_2.length : Int)) = true := decide_eq_true c12
       clear c12
       replace H := Option.bind_eq_some_iff.mp H
       obtain ⟨t153, A130, H⟩ := H
       replace H : (some (t153, 0)) = some (r1, r2) := H
       have A13 := Aside0.mk A130
       clear A130
       simp only [Option.some.injEq, Prod.mk.injEq] at H
       obtain ⟨rfl, rfl⟩ := H
       go_enter Tryd.func31, Tryd.ntmps31
       try go_wp2_with (first | ((with_reducible refine gate_dst (N := 3) rfl ?_); refine box_event ?hg (N := 3) ?hd (cs := #[.int .i64 a0_0, .slice A0_1 l0_1.length c0_1, .slice A0_2 l0_2.length c0_2]) (t := 27) ?hr ?_; (case hd => rfl); (case hg => rfl); (case hr => exact TS); intro gb147 hg w14 hbox hb; have BK147 := Aside0.mk (hbox); have GW147 := Aside0.mk ((TG : w.heap.size ≤ gb147)); have GE147 := Aside0.mk ((TG : w.heap.size ≤ gb147)); replace HB := Aside0.mk (below_step TB hb); clear hb hbox hg))
       have n0_ := Aside0.mk (blk_drew BK147.out)
       have n1_ := Aside0.mk (below_drew1 HB.out)
       clear BK147
       clear HB
       have BK147 := n0_
       have HB := n1_
       clear n0_ n1_
       refine start_ (n := 11) (S := fun w' => w'.cell? ⟨gb147, 0, none⟩ = some (.int .i64 a0_0) ∧ w'.cell? ⟨gb147, 1, none⟩ = some (.slice A0_1 l0_1.length c0_1) ∧ w'.cell? ⟨gb147, 2, none⟩ = some (.slice A0_2 l0_2.length c0_2)) (ds := []) (.replicate 11 false) (by kernel_rfl) rfl rfl ⟨cz BK147.out 0, cz BK147.out 1, cz BK147.out 2⟩ (fun hHeld => ?_); refine with_tabW saronref09_Common.tab1 saronref09_Common.bits1 (fun HT_ HW_ => ?_)
       generalize w14.drew = w15 at BK147 HB hHeld ⊢
       refine pT 2 11 (bt 11 4) (k := ?_)
       refine tT3 0 9 (bt 11 5) hHeld (k := ?_)
       refine tT3 1 10 (bt 11 7) hHeld (k := ?_)
       refine one_ (i := 3) (N := some 12) (bt 11 15) rfl rfl (one_of HT_.out (by kernel_rfl)) (by decide) (fun K hK => ?_)
       refine goes_ Tryd.func55 (by kernel_rfl) rfl #[.agg #[.int .i64 a0_0, .slice A0_1 l0_1.length c0_1, .slice A0_2 l0_2.length c0_2], .int .i64 a1] (by rfl) rfl rfl TM ?_
       with_reducible refine (saronref09_isPiece.calls a0_0 _ _ l0_1 _ _ l0_2 a1 true _ ?side1 ?side2 ?side3 ?side4 A4.out).mono ?_
       (case side1 => exact TC HR0_1.out)
       (case side2 => exact HC0_1.out)
       (case side3 => exact TC HR0_2.out)
       (case side4 => exact HC0_2.out)
       rintro e w16 ⟨rfl, hb⟩
       refine ⟨_, rfl, ?_⟩
       have n0_ := Aside0.mk (TKb hb BK147.out)
       have n1_ := Aside0.mk (below_step (TB1 GE147.out) hb)
       clear BK147
       clear HB
       have BK147 := n0_
       have HB := n1_
       clear n0_ n1_
       (try clear hb)
       (try clear hb2)
       (try clear hk)
       (try clear hi)
       refine hK.out _ _ ⟨cz BK147.out 0, cz BK147.out 1, cz BK147.out 2⟩ (fun hHeld => ?_)
       clear hK K
       refine norm_ (a' := ?_) ?_ ?_
       rotate_left
       ·show Act.put _ (some 12) _ = _
        simp only [Act.put, lA, lZ, lS, i64_w, i32_w]
        rfl
       refine pT 4 13 (bt 11 31) (k := ?_)
       refine pT 6 15 (bt 11 95) (k := ?_)
       refine tT3 5 14 (bt 11 127) hHeld (k := ?_)
       refine one_ (i := 7) (N := some 16) (bt 11 255) rfl rfl (one_of HT_.out (by kernel_rfl)) (by decide) (fun K hK => ?_)
       refine goes_ Tryd.func55 (by kernel_rfl) rfl #[.agg #[.int .i64 a0_0, .slice A0_1 l0_1.length c0_1, .slice A0_2 l0_2.length c0_2], .int .i64 a2] (by rfl) rfl rfl TM ?_
       with_reducible refine (saronref09_isPiece.calls a0_0 _ _ l0_1 _ _ l0_2 a2 t149 _ ?side1 ?side2 ?side3 ?side4 A6.out).mono ?_
       (case side1 => exact TC HR0_1.out)
       (case side2 => exact HC0_1.out)
       (case side3 => exact TC HR0_2.out)
       (case side4 => exact HC0_2.out)
       rintro e w17 ⟨rfl, hb⟩
       refine ⟨_, rfl, ?_⟩
       have n0_ := Aside0.mk (TKb hb BK147.out)
       have n1_ := Aside0.mk (below_step (TB1 GE147.out) hb)
       clear BK147
       clear HB
       have BK147 := n0_
       have HB := n1_
       clear n0_ n1_
       (try clear hb)
       (try clear hb2)
       (try clear hk)
       (try clear hi)
       refine hK.out _ _ ⟨cz BK147.out 0, cz BK147.out 1, cz BK147.out 2⟩ (fun hHeld => ?_)
       clear hK K
       refine norm_ (a' := ?_) ?_ ?_
       rotate_left
       ·show Act.put _ (some 16) _ = _
        simp only [Act.put, lA, lZ, lS, i64_w, i32_w]
        rfl
       refine pT 8 17 (bt 11 511) (k := ?_)
       refine one_ (i := 9) (N := some 18) (bt 11 1023) rfl rfl (one_of HT_.out (by kernel_rfl)) (by decide) (fun K hK => ?_)
       refine goes_ Tryd.func54 (by kernel_rfl) rfl #[.agg #[.int .i64 a0_0, .slice A0_1 l0_1.length c0_1, .slice A0_2 l0_2.length c0_2], .bool t149] (by rfl) rfl rfl TM ?_
       with_reducible refine (saronref09_asked.calls k a0_0 _ _ l0_1 _ _ l0_2 t149 t150 _ ?side1 ?side2 ?side3 ?side4 A7.out).mono ?_
       (case side1 => exact TC HR0_1.out)
       (case side2 => exact HC0_1.out)
       (case side3 => exact TC HR0_2.out)
       (case side4 => exact HC0_2.out)
       rintro e w18 ⟨rfl, hb⟩
       refine ⟨_, rfl, ?_⟩
       have n0_ := Aside0.mk (TKb hb BK147.out)
       have n1_ := Aside0.mk (below_step (TB1 GE147.out) hb)
       clear BK147
       clear HB
       have BK147 := n0_
       have HB := n1_
       clear n0_ n1_
       (try clear hb)
       (try clear hb2)
       (try clear hk)
       (try clear hi)
       refine hK.out _ _ ⟨cz BK147.out 0, cz BK147.out 1, cz BK147.out 2⟩ (fun hHeld => ?_)
       clear hK K
       refine norm_ (a' := ?_) ?_ ?_
       rotate_left
       ·show Act.put _ (some 18) _ = _
        simp only [Act.put, lA, lZ, lS, i64_w, i32_w]
        rfl
       refine pT 10 8 (bt 11 2047) (k := ?_)
       refine done_ (done_of HT_.out (by kernel_rfl)) ?_
       try go_wp2
       have n0_ := Aside0.mk (blk_drew BK147.out)
       have n1_ := Aside0.mk (below_drew1 HB.out)
       clear BK147
       clear HB
       have BK147 := n0_
       have HB := n1_
       clear n0_ n1_
       have p151 : 0 ≤ (a1 : Int) := of_decide_eq_true TA
       have q151 : a1 < (l0_2.length : Int) := of_decide_eq_true TA
       obtain ⟨ad151, A151_1, c151_1, e151, hx151_0, hx151_1, hl151_1, hi151_1⟩ := at_T62 HR0_2.out a1 p151 q151
       have hw151_1 := hx151_1
       have hw151_0 := hx151_0
       cases e151
       replace hx151_0 := hx HB.out hx151_0
       replace hx151_1 := hx HB.out hx151_1
       have HR151_1 := Aside0.mk hi151_1
       have HC151_1 := Aside0.mk hl151_1
       clear hi151_1 hl151_1
       replace p151 := eq_true p151
       replace q151 := eq_true q151
       have p152 : 0 ≤ (a2 : Int) := of_decide_eq_true TA
       have q152 : a2 < (l0_2.length : Int) := of_decide_eq_true TA
       obtain ⟨ad152, A152_1, c152_1, e152, hx152_0, hx152_1, hl152_1, hi152_1⟩ := at_T62 HR0_2.out a2 p152 q152
       have hw152_1 := hx152_1
       have hw152_0 := hx152_0
       obtain rfl : ad151 = ad152 := (by injection e152)
       replace hx152_0 := hx HB.out hx152_0
       replace hx152_1 := hx HB.out hx152_1
       have HR152_1 := Aside0.mk hi152_1
       have HC152_1 := Aside0.mk hl152_1
       clear hi152_1 hl152_1
       replace p152 := eq_true p152
       replace q152 := eq_true q152
       refine start_ (n := 15) (S := fun w' => w'.cell? ⟨gb147, 0, none⟩ = some (.int .i64 a0_0) ∧ w'.cell? ⟨gb147, 1, none⟩ = some (.slice A0_1 l0_1.length c0_1) ∧ w'.cell? ⟨gb147, 2, none⟩ = some (.slice (some ad151) l0_2.length c0_2) ∧ w'.cell? (ad151.add ((a1).toNat * 2)) = some (.int .i64 ((rd_T62 l0_2 a1).f0)) ∧ w'.cell? ⟨(ad151.add ((a1).toNat * 2)).block, (ad151.add ((a1).toNat * 2)).off + 1, none⟩ = some (.slice A151_1 ((rd_T62 l0_2 a1).f1).length c151_1) ∧ w'.cell? (ad151.add ((a2).toNat * 2)) = some (.int .i64 ((rd_T62 l0_2 a2).f0)) ∧ w'.cell? ⟨(ad151.add ((a2).toNat * 2)).block, (ad151.add ((a2).toNat * 2)).off + 1, none⟩ = some (.slice A152_1 ((rd_T62 l0_2 a2).f1).length c152_1)) (ds := []) (.replicate 15 false) (by kernel_rfl) rfl rfl ⟨cz BK147.out 0, cz BK147.out 1, cz BK147.out 2, (hx HB.out hw151_0), (hx HB.out hw151_1), (hx HB.out hw152_0), (hx HB.out hw152_1)⟩ (fun hHeld => ?_); refine with_tabW saronref09_Common.tab4 saronref09_Common.bits4 (fun HT_ HW_ => ?_)
       generalize w18.drew = w19 at BK147 HB HR151_1 HR152_1 hx151_0 hx151_1 hx152_0 hx152_1 hHeld ⊢
       refine pT 0 22 (bt 15 1) (k := ?_)
       refine pT 2 24 (bt 15 5) (k := ?_)
       refine pT 6 28 (bt 15 69) (k := ?_)
       refine pT 8 30 (bt 15 325) (k := ?_)
       refine tT7 1 23 (bt 15 327) hHeld (k := ?_)
       refine pT 3 25 (bt 15 335) (k := ?_)
       refine pT 4 26 (bt 15 351) (k := ?_)
       refine tT7 5 27 (bt 15 383) hHeld (k := ?_)
       refine tT7 7 29 (bt 15 511) hHeld (k := ?_)
       refine pT 9 31 (bt 15 1023) (k := ?_)
       refine pT 10 32 (bt 15 2047) (k := ?_)
       refine tT7 11 33 (bt 15 4095) hHeld (k := ?_)
       refine one_ (i := 12) (N := some 34) (bt 15 8191) rfl rfl (one_of HT_.out (by kernel_rfl)) (by decide) (fun K hK => ?_)
       refine goes_ Tryd.func73 (by kernel_rfl) rfl #[.slice A151_1 ((rd_T62 l0_2 a1).f1).length c151_1, .slice A152_1 ((rd_T62 l0_2 a2).f1).length c152_1] (by rfl) rfl rfl TM ?_
       with_reducible refine (saronref09_share.calls k _ _ ((rd_T62 l0_2 a1).f1) _ _ ((rd_T62 l0_2 a2).f1) t153 _ ?side1 ?side2 ?side3 ?side4 A13.out).mono ?_
       (case side1 => exact TC HR151_1.out)
       (case side2 => exact HC151_1.out)
       (case side3 => exact TC HR152_1.out)
       (case side4 => exact HC152_1.out)
       rintro e w20 ⟨rfl, hb⟩
       refine ⟨_, rfl, ?_⟩
       have n0_ := Aside0.mk (TKb hb BK147.out)
       have n1_ := Aside0.mk (below_step (TB1 GE147.out) hb)
       clear BK147
       clear HB
       have BK147 := n0_
       have HB := n1_
       clear n0_ n1_
       (try clear hb)
       (try clear hb2)
       (try clear hk)
       (try clear hi)
       refine hK.out _ _ ⟨cz BK147.out 0, cz BK147.out 1, cz BK147.out 2, (hx HB.out hw151_0), (hx HB.out hw151_1), (hx HB.out hw152_0), (hx HB.out hw152_1)⟩ (fun hHeld => ?_)
       clear hK K
       refine norm_ (a' := ?_) ?_ ?_
       rotate_left
       ·show Act.put _ (some 34) _ = _
        simp only [Act.put, lA, lZ, lS, i64_w, i32_w]
        rfl
       refine pT 13 6 (bt 15 16383) (k := ?_)
       refine pT 14 7 (bt 15 32767) (k := ?_)
       refine done_ (done_of HT_.out (by kernel_rfl)) ?_
       try go_wp2
       go_ret2
       exact ⟨TR, TB1 GE147.out⟩
      ·rw [if_neg c12] at H
       exact absurd H (by simp)
     ·rw [if_neg c11] at H
      exact absurd H (by simp)
    ·rw [if_neg c10] at H
     exact absurd H (by simp)
   ·rw [if_neg c9] at H
    exact absurd H (by simp)
  ·rw [if_neg c8] at H
   have c8b0 : (t150 == 0) = false := beq_eq_false_iff_ne.mpr c8
   have c8b1 : (t150 != 0) = true := bne_iff_ne.mpr c8
   simp only [Option.some.injEq, Prod.mk.injEq] at H
   obtain ⟨rfl, rfl⟩ := H
   go_enter Tryd.func31, Tryd.ntmps31
   try go_wp2_with (first | ((with_reducible refine gate_dst (N := 3) rfl ?_); refine box_event ?hg (N := 3) ?hd (cs := #[.int .i64 a0_0, .slice A0_1 l0_1.length c0_1, .slice A0_2 l0_2.length c0_2]) (t := 27) ?hr ?_; (case hd => rfl); (case hg => rfl); (case hr => exact TS); intro gb147 hg w21 hbox hb; have BK147 := Aside0.mk (hbox); have GW147 := Aside0.mk ((TG : w.heap.size ≤ gb147)); have GE147 := Aside0.mk ((TG : w.heap.size ≤ gb147)); replace HB := Aside0.mk (below_step TB hb); clear hb hbox hg))
   have n0_ := Aside0.mk (blk_drew BK147.out)
   have n1_ := Aside0.mk (below_drew1 HB.out)
   clear BK147
   clear HB
   have BK147 := n0_
   have HB := n1_
   clear n0_ n1_
   refine start_ (n := 11) (S := fun w' => w'.cell? ⟨gb147, 0, none⟩ = some (.int .i64 a0_0) ∧ w'.cell? ⟨gb147, 1, none⟩ = some (.slice A0_1 l0_1.length c0_1) ∧ w'.cell? ⟨gb147, 2, none⟩ = some (.slice A0_2 l0_2.length c0_2)) (ds := []) (.replicate 11 false) (by kernel_rfl) rfl rfl ⟨cz BK147.out 0, cz BK147.out 1, cz BK147.out 2⟩ (fun hHeld => ?_); refine with_tabW saronref09_Common.tab1 saronref09_Common.bits1 (fun HT_ HW_ => ?_)
   generalize w21.drew = w22 at BK147 HB hHeld ⊢
   refine pT 2 11 (bt 11 4) (k := ?_)
   refine tT3 0 9 (bt 11 5) hHeld (k := ?_)
   refine tT3 1 10 (bt 11 7) hHeld (k := ?_)
   refine one_ (i := 3) (N := some 12) (bt 11 15) rfl rfl (one_of HT_.out (by kernel_rfl)) (by decide) (fun K hK => ?_)
   refine goes_ Tryd.func55 (by kernel_rfl) rfl #[.agg #[.int .i64 a0_0, .slice A0_1 l0_1.length c0_1, .slice A0_2 l0_2.length c0_2], .int .i64 a1] (by rfl) rfl rfl TM ?_
   with_reducible refine (saronref09_isPiece.calls a0_0 _ _ l0_1 _ _ l0_2 a1 true _ ?side1 ?side2 ?side3 ?side4 A4.out).mono ?_
   (case side1 => exact TC HR0_1.out)
   (case side2 => exact HC0_1.out)
   (case side3 => exact TC HR0_2.out)
   (case side4 => exact HC0_2.out)
   rintro e w23 ⟨rfl, hb⟩
   refine ⟨_, rfl, ?_⟩
   have n0_ := Aside0.mk (TKb hb BK147.out)
   have n1_ := Aside0.mk (below_step (TB1 GE147.out) hb)
   clear BK147
   clear HB
   have BK147 := n0_
   have HB := n1_
   clear n0_ n1_
   (try clear hb)
   (try clear hb2)
   (try clear hk)
   (try clear hi)
   refine hK.out _ _ ⟨cz BK147.out 0, cz BK147.out 1, cz BK147.out 2⟩ (fun hHeld => ?_)
   clear hK K
   refine norm_ (a' := ?_) ?_ ?_
   rotate_left
   ·show Act.put _ (some 12) _ = _
    simp only [Act.put, lA, lZ, lS, i64_w, i32_w]
    rfl
   refine pT 4 13 (bt 11 31) (k := ?_)
   refine pT 6 15 (bt 11 95) (k := ?_)
   refine tT3 5 14 (bt 11 127) hHeld (k := ?_)
   refine one_ (i := 7) (N := some 16) (bt 11 255) rfl rfl (one_of HT_.out (by kernel_rfl)) (by decide) (fun K hK => ?_)
   refine goes_ Tryd.func55 (by kernel_rfl) rfl #[.agg #[.int .i64 a0_0, .slice A0_1 l0_1.length c0_1, .slice A0_2 l0_2.length c0_2], .int .i64 a2] (by rfl) rfl rfl TM ?_
   with_reducible refine (saronref09_isPiece.calls a0_0 _ _ l0_1 _ _ l0_2 a2 t149 _ ?side1 ?side2 ?side3 ?side4 A6.out).mono ?_
   (case side1 => exact TC HR0_1.out)
   (case side2 => exact HC0_1.out)
   (case side3 => exact TC HR0_2.out)
   (case side4 => exact HC0_2.out)
   rintro e w24 ⟨rfl, hb⟩
   refine ⟨_, rfl, ?_⟩
   have n0_ := Aside0.mk (TKb hb BK147.out)
   have n1_ := Aside0.mk (below_step (TB1 GE147.out) hb)
   clear BK147
   clear HB
   have BK147 := n0_
   have HB := n1_
   clear n0_ n1_
   (try clear hb)
   (try clear hb2)
   (try clear hk)
   (try clear hi)
   refine hK.out _ _ ⟨cz BK147.out 0, cz BK147.out 1, cz BK147.out 2⟩ (fun hHeld => ?_)
   clear hK K
   refine norm_ (a' := ?_) ?_ ?_
   rotate_left
   ·show Act.put _ (some 16) _ = _
    simp only [Act.put, lA, lZ, lS, i64_w, i32_w]
    rfl
   refine pT 8 17 (bt 11 511) (k := ?_)
   refine one_ (i := 9) (N := some 18) (bt 11 1023) rfl rfl (one_of HT_.out (by kernel_rfl)) (by decide) (fun K hK => ?_)
   refine goes_ Tryd.func54 (by kernel_rfl) rfl #[.agg #[.int .i64 a0_0, .slice A0_1 l0_1.length c0_1, .slice A0_2 l0_2.length c0_2], .bool t149] (by rfl) rfl rfl TM ?_
   with_reducible refine (saronref09_asked.calls k a0_0 _ _ l0_1 _ _ l0_2 t149 t150 _ ?side1 ?side2 ?side3 ?side4 A7.out).mono ?_
   (case side1 => exact TC HR0_1.out)
   (case side2 => exact HC0_1.out)
   (case side3 => exact TC HR0_2.out)
   (case side4 => exact HC0_2.out)
   rintro e w25 ⟨rfl, hb⟩
   refine ⟨_, rfl, ?_⟩
   have n0_ := Aside0.mk (TKb hb BK147.out)
   have n1_ := Aside0.mk (below_step (TB1 GE147.out) hb)
   clear BK147
   clear HB
   have BK147 := n0_
   have HB := n1_
   clear n0_ n1_
   (try clear hb)
   (try clear hb2)
   (try clear hk)
   (try clear hi)
   refine hK.out _ _ ⟨cz BK147.out 0, cz BK147.out 1, cz BK147.out 2⟩ (fun hHeld => ?_)
   clear hK K
   refine norm_ (a' := ?_) ?_ ?_
   rotate_left
   ·show Act.put _ (some 18) _ = _
    simp only [Act.put, lA, lZ, lS, i64_w, i32_w]
    rfl
   refine pT 10 8 (bt 11 2047) (k := ?_)
   refine done_ (done_of HT_.out (by kernel_rfl)) ?_
   try go_wp2
   go_ret2
   exact ⟨TR, TB1 GE147.out⟩
 ·replace c5 := Bool.eq_false_iff.mpr c5
  subst c5
  have H1 : ((saronref09_asked.f k a0_0 l0_1 l0_2 false).bind fun t154 => (if t154 = 0 then (if 0 ≤ a1 then (if a1 < (l0_2.length : Int) then (if 0 ≤ a2 then (if a2 < (l0_2.length : Int) then ((saronref09_share.f k ((rd_T62 l0_2 a1).f1) ((rd_T62 l0_2 a2).f1)).bind fun t157 => (some (t157, 0))) else (none)) else (none)) else (none)) else (none)) else (some (0, t154)))) = some (r1, r2) := by rw [if_neg (show ¬ (false = true) by decide)] at H; exact H
  clear H
  have H := H1
  clear H1
  replace H := Option.bind_eq_some_iff.mp H
  obtain ⟨t154, A260, H⟩ := H
  replace H : (if t154 = 0 then (if 0 ≤ a1 then (if a1 < (l0_2.length : Int) then (if 0 ≤ a2 then (if a2 < (l0_2.length : Int) then ((saronref09_share.f k ((rd_T62 l0_2 a1).f1) ((rd_T62 l0_2 a2).f1)).bind fun t157 => (some (t157, 0))) else (none)) else (none)) else (none)) else (none)) else (some (0, t154))) = some (r1, r2) := H
  have A26 := Aside0.mk A260
  clear A260
  by_cases c27 : t154 = 0
  ·rw [if_pos c27] at H
   have c27b0 : (t154 == 0) = true := beq_iff_eq.mpr c27
   have c27b1 : (t154 != 0) = false := bne_eq_false_iff_eq.mpr c27
   clear c27
   by_cases c28 : 0 ≤ a1
   ·rw [if_pos c28] at H
    have c28b0 : decide (0 ≤ a1) = true := decide_eq_true c28
    clear c28
    by_cases c29 : a1 < (l0_2.length : Int)
    ·rw [if_pos c29] at H
     have c29b0 : decide (a1 < (l0_2.length : Int)) = true := decide_eq_true c29
     clear c29
     by_cases c30 : 0 ≤ a2
     ·rw [if_pos c30] at H
      have c30b0 : decide (0 ≤ a2) = true := decide_eq_true c30
      clear c30
      by_cases c31 : a2 < (l0_2.length : Int)
      ·rw [if_pos c31] at H
       have c31b0 : decide (a2 < (l0_2.length : Int)) = true := decide_eq_true c31
       clear c31
       replace H := Option.bind_eq_some_iff.mp H
       obtain ⟨t157, A320, H⟩ := H
       replace H : (some (t157, 0)) = some (r1, r2) := H
       have A32 := Aside0.mk A320
       clear A320
       simp only [Option.some.injEq, Prod.mk.injEq] at H
       obtain ⟨rfl, rfl⟩ := H
       go_enter Tryd.func31, Tryd.ntmps31
       try go_wp2_with (first | ((with_reducible refine gate_dst (N := 3) rfl ?_); refine box_event ?hg (N := 3) ?hd (cs := #[.int .i64 a0_0, .slice A0_1 l0_1.length c0_1, .slice A0_2 l0_2.length c0_2]) (t := 27) ?hr ?_; (case hd => rfl); (case hg => rfl); (case hr => exact TS); intro gb147 hg w33 hbox hb; have BK147 := Aside0.mk (hbox); have GW147 := Aside0.mk ((TG : w.heap.size ≤ gb147)); have GE147 := Aside0.mk ((TG : w.heap.size ≤ gb147)); replace HB := Aside0.mk (below_step TB hb); clear hb hbox hg))
       have n0_ := Aside0.mk (blk_drew BK147.out)
       have n1_ := Aside0.mk (below_drew1 HB.out)
       clear BK147
       clear HB
       have BK147 := n0_
       have HB := n1_
       clear n0_ n1_
       refine start_ (n := 11) (S := fun w' => w'.cell? ⟨gb147, 0, none⟩ = some (.int .i64 a0_0) ∧ w'.cell? ⟨gb147, 1, none⟩ = some (.slice A0_1 l0_1.length c0_1) ∧ w'.cell? ⟨gb147, 2, none⟩ = some (.slice A0_2 l0_2.length c0_2)) (ds := []) (.replicate 11 false) (by kernel_rfl) rfl rfl ⟨cz BK147.out 0, cz BK147.out 1, cz BK147.out 2⟩ (fun hHeld => ?_); refine with_tabW saronref09_Common.tab1 saronref09_Common.bits1 (fun HT_ HW_ => ?_)
       generalize w33.drew = w34 at BK147 HB hHeld ⊢
       refine pT 2 11 (bt 11 4) (k := ?_)
       refine tT3 0 9 (bt 11 5) hHeld (k := ?_)
       refine tT3 1 10 (bt 11 7) hHeld (k := ?_)
       refine one_ (i := 3) (N := some 12) (bt 11 15) rfl rfl (one_of HT_.out (by kernel_rfl)) (by decide) (fun K hK => ?_)
       refine goes_ Tryd.func55 (by kernel_rfl) rfl #[.agg #[.int .i64 a0_0, .slice A0_1 l0_1.length c0_1, .slice A0_2 l0_2.length c0_2], .int .i64 a1] (by rfl) rfl rfl TM ?_
       with_reducible refine (saronref09_isPiece.calls a0_0 _ _ l0_1 _ _ l0_2 a1 false _ ?side1 ?side2 ?side3 ?side4 A4.out).mono ?_
       (case side1 => exact TC HR0_1.out)
       (case side2 => exact HC0_1.out)
       (case side3 => exact TC HR0_2.out)
       (case side4 => exact HC0_2.out)
       rintro e w35 ⟨rfl, hb⟩
       refine ⟨_, rfl, ?_⟩
       have n0_ := Aside0.mk (TKb hb BK147.out)
       have n1_ := Aside0.mk (below_step (TB1 GE147.out) hb)
       clear BK147
       clear HB
       have BK147 := n0_
       have HB := n1_
       clear n0_ n1_
       (try clear hb)
       (try clear hb2)
       (try clear hk)
       (try clear hi)
       refine hK.out _ _ ⟨cz BK147.out 0, cz BK147.out 1, cz BK147.out 2⟩ (fun hHeld => ?_)
       clear hK K
       refine norm_ (a' := ?_) ?_ ?_
       rotate_left
       ·show Act.put _ (some 12) _ = _
        simp only [Act.put, lA, lZ, lS, i64_w, i32_w]
        rfl
       refine pT 4 13 (bt 11 31) (k := ?_)
       refine pU 5 14 (bt 11 63) (k := ?_)
       refine pU 6 15 (bt 11 127) (k := ?_)
       refine pU 7 16 (bt 11 255) (k := ?_)
       refine pT 8 17 (bt 11 511) (k := ?_)
       refine one_ (i := 9) (N := some 18) (bt 11 1023) rfl rfl (one_of HT_.out (by kernel_rfl)) (by decide) (fun K hK => ?_)
       refine goes_ Tryd.func54 (by kernel_rfl) rfl #[.agg #[.int .i64 a0_0, .slice A0_1 l0_1.length c0_1, .slice A0_2 l0_2.length c0_2], .bool false] (by rfl) rfl rfl TM ?_
       with_reducible refine (saronref09_asked.calls k a0_0 _ _ l0_1 _ _ l0_2 false t154 _ ?side1 ?side2 ?side3 ?side4 A26.out).mono ?_
       (case side1 => exact TC HR0_1.out)
       (case side2 => exact HC0_1.out)
       (case side3 => exact TC HR0_2.out)
       (case side4 => exact HC0_2.out)
       rintro e w36 ⟨rfl, hb⟩
       refine ⟨_, rfl, ?_⟩
       have n0_ := Aside0.mk (TKb hb BK147.out)
       have n1_ := Aside0.mk (below_step (TB1 GE147.out) hb)
       clear BK147
       clear HB
       have BK147 := n0_
       have HB := n1_
       clear n0_ n1_
       (try clear hb)
       (try clear hb2)
       (try clear hk)
       (try clear hi)
       refine hK.out _ _ ⟨cz BK147.out 0, cz BK147.out 1, cz BK147.out 2⟩ (fun hHeld => ?_)
       clear hK K
       refine norm_ (a' := ?_) ?_ ?_
       rotate_left
       ·show Act.put _ (some 18) _ = _
        simp only [Act.put, lA, lZ, lS, i64_w, i32_w]
        rfl
       refine pT 10 8 (bt 11 2047) (k := ?_)
       refine done_ (done_of HT_.out (by kernel_rfl)) ?_
       try go_wp2
       have n0_ := Aside0.mk (blk_drew BK147.out)
       have n1_ := Aside0.mk (below_drew1 HB.out)
       clear BK147
       clear HB
       have BK147 := n0_
       have HB := n1_
       clear n0_ n1_
       have p155 : 0 ≤ (a1 : Int) := of_decide_eq_true TA
       have q155 : a1 < (l0_2.length : Int) := of_decide_eq_true TA
       obtain ⟨ad155, A155_1, c155_1, e155, hx155_0, hx155_1, hl155_1, hi155_1⟩ := at_T62 HR0_2.out a1 p155 q155
       have hw155_1 := hx155_1
       have hw155_0 := hx155_0
       cases e155
       replace hx155_0 := hx HB.out hx155_0
       replace hx155_1 := hx HB.out hx155_1
       have HR155_1 := Aside0.mk hi155_1
       have HC155_1 := Aside0.mk hl155_1
       clear hi155_1 hl155_1
       replace p155 := eq_true p155
       replace q155 := eq_true q155
       have p156 : 0 ≤ (a2 : Int) := of_decide_eq_true TA
       have q156 : a2 < (l0_2.length : Int) := of_decide_eq_true TA
       obtain ⟨ad156, A156_1, c156_1, e156, hx156_0, hx156_1, hl156_1, hi156_1⟩ := at_T62 HR0_2.out a2 p156 q156
       have hw156_1 := hx156_1
       have hw156_0 := hx156_0
       obtain rfl : ad155 = ad156 := (by injection e156)
       replace hx156_0 := hx HB.out hx156_0
       replace hx156_1 := hx HB.out hx156_1
       have HR156_1 := Aside0.mk hi156_1
       have HC156_1 := Aside0.mk hl156_1
       clear hi156_1 hl156_1
       replace p156 := eq_true p156
       replace q156 := eq_true q156
       refine start_ (n := 15) (S := fun w' => w'.cell? ⟨gb147, 0, none⟩ = some (.int .i64 a0_0) ∧ w'.cell? ⟨gb147, 1, none⟩ = some (.slice A0_1 l0_1.length c0_1) ∧ w'.cell? ⟨gb147, 2, none⟩ = some (.slice (some ad155) l0_2.length c0_2) ∧ w'.cell? (ad155.add ((a1).toNat * 2)) = some (.int .i64 ((rd_T62 l0_2 a1).f0)) ∧ w'.cell? ⟨(ad155.add ((a1).toNat * 2)).block, (ad155.add ((a1).toNat * 2)).off + 1, none⟩ = some (.slice A155_1 ((rd_T62 l0_2 a1).f1).length c155_1) ∧ w'.cell? (ad155.add ((a2).toNat * 2)) = some (.int .i64 ((rd_T62 l0_2 a2).f0)) ∧ w'.cell? ⟨(ad155.add ((a2).toNat * 2)).block, (ad155.add ((a2).toNat * 2)).off + 1, none⟩ = some (.slice A156_1 ((rd_T62 l0_2 a2).f1).length c156_1)) (ds := []) (.replicate 15 false) (by kernel_rfl) rfl rfl ⟨cz BK147.out 0, cz BK147.out 1, cz BK147.out 2, (hx HB.out hw155_0), (hx HB.out hw155_1), (hx HB.out hw156_0), (hx HB.out hw156_1)⟩ (fun hHeld => ?_); refine with_tabW saronref09_Common.tab4 saronref09_Common.bits4 (fun HT_ HW_ => ?_)
       generalize w36.drew = w37 at BK147 HB HR155_1 HR156_1 hx155_0 hx155_1 hx156_0 hx156_1 hHeld ⊢
       refine pT 0 22 (bt 15 1) (k := ?_)
       refine pT 2 24 (bt 15 5) (k := ?_)
       refine pT 6 28 (bt 15 69) (k := ?_)
       refine pT 8 30 (bt 15 325) (k := ?_)
       refine tT7 1 23 (bt 15 327) hHeld (k := ?_)
       refine pT 3 25 (bt 15 335) (k := ?_)
       refine pT 4 26 (bt 15 351) (k := ?_)
       refine tT7 5 27 (bt 15 383) hHeld (k := ?_)
       refine tT7 7 29 (bt 15 511) hHeld (k := ?_)
       refine pT 9 31 (bt 15 1023) (k := ?_)
       refine pT 10 32 (bt 15 2047) (k := ?_)
       refine tT7 11 33 (bt 15 4095) hHeld (k := ?_)
       refine one_ (i := 12) (N := some 34) (bt 15 8191) rfl rfl (one_of HT_.out (by kernel_rfl)) (by decide) (fun K hK => ?_)
       refine goes_ Tryd.func73 (by kernel_rfl) rfl #[.slice A155_1 ((rd_T62 l0_2 a1).f1).length c155_1, .slice A156_1 ((rd_T62 l0_2 a2).f1).length c156_1] (by rfl) rfl rfl TM ?_
       with_reducible refine (saronref09_share.calls k _ _ ((rd_T62 l0_2 a1).f1) _ _ ((rd_T62 l0_2 a2).f1) t157 _ ?side1 ?side2 ?side3 ?side4 A32.out).mono ?_
       (case side1 => exact TC HR155_1.out)
       (case side2 => exact HC155_1.out)
       (case side3 => exact TC HR156_1.out)
       (case side4 => exact HC156_1.out)
       rintro e w38 ⟨rfl, hb⟩
       refine ⟨_, rfl, ?_⟩
       have n0_ := Aside0.mk (TKb hb BK147.out)
       have n1_ := Aside0.mk (below_step (TB1 GE147.out) hb)
       clear BK147
       clear HB
       have BK147 := n0_
       have HB := n1_
       clear n0_ n1_
       (try clear hb)
       (try clear hb2)
       (try clear hk)
       (try clear hi)
       refine hK.out _ _ ⟨cz BK147.out 0, cz BK147.out 1, cz BK147.out 2, (hx HB.out hw155_0), (hx HB.out hw155_1), (hx HB.out hw156_0), (hx HB.out hw156_1)⟩ (fun hHeld => ?_)
       clear hK K
       refine norm_ (a' := ?_) ?_ ?_
       rotate_left
       ·show Act.put _ (some 34) _ = _
        simp only [Act.put, lA, lZ, lS, i64_w, i32_w]
        rfl
       refine pT 13 6 (bt 15 16383) (k := ?_)
       refine pT 14 7 (bt 15 32767) (k := ?_)
       refine done_ (done_of HT_.out (by kernel_rfl)) ?_
       try go_wp2
       go_ret2
       exact ⟨TR, TB1 GE147.out⟩
      ·rw [if_neg c31] at H
       exact absurd H (by simp)
     ·rw [if_neg c30] at H
      exact absurd H (by simp)
    ·rw [if_neg c29] at H
     exact absurd H (by simp)
   ·rw [if_neg c28] at H
    exact absurd H (by simp)
  ·rw [if_neg c27] at H
   have c27b0 : (t154 == 0) = false := beq_eq_false_iff_ne.mpr c27
   have c27b1 : (t154 != 0) = true := bne_iff_ne.mpr c27
   simp only [Option.some.injEq, Prod.mk.injEq] at H
   obtain ⟨rfl, rfl⟩ := H
   go_enter Tryd.func31, Tryd.ntmps31
   try go_wp2_with (first | ((with_reducible refine gate_dst (N := 3) rfl ?_); refine box_event ?hg (N := 3) ?hd (cs := #[.int .i64 a0_0, .slice A0_1 l0_1.length c0_1, .slice A0_2 l0_2.length c0_2]) (t := 27) ?hr ?_; (case hd => rfl); (case hg => rfl); (case hr => exact TS); intro gb147 hg w39 hbox hb; have BK147 := Aside0.mk (hbox); have GW147 := Aside0.mk ((TG : w.heap.size ≤ gb147)); have GE147 := Aside0.mk ((TG : w.heap.size ≤ gb147)); replace HB := Aside0.mk (below_step TB hb); clear hb hbox hg))
   have n0_ := Aside0.mk (blk_drew BK147.out)
   have n1_ := Aside0.mk (below_drew1 HB.out)
   clear BK147
   clear HB
   have BK147 := n0_
   have HB := n1_
   clear n0_ n1_
   refine start_ (n := 11) (S := fun w' => w'.cell? ⟨gb147, 0, none⟩ = some (.int .i64 a0_0) ∧ w'.cell? ⟨gb147, 1, none⟩ = some (.slice A0_1 l0_1.length c0_1) ∧ w'.cell? ⟨gb147, 2, none⟩ = some (.slice A0_2 l0_2.length c0_2)) (ds := []) (.replicate 11 false) (by kernel_rfl) rfl rfl ⟨cz BK147.out 0, cz BK147.out 1, cz BK147.out 2⟩ (fun hHeld => ?_); refine with_tabW saronref09_Common.tab1 saronref09_Common.bits1 (fun HT_ HW_ => ?_)
   generalize w39.drew = w40 at BK147 HB hHeld ⊢
   refine pT 2 11 (bt 11 4) (k := ?_)
   refine tT3 0 9 (bt 11 5) hHeld (k := ?_)
   refine tT3 1 10 (bt 11 7) hHeld (k := ?_)
   refine one_ (i := 3) (N := some 12) (bt 11 15) rfl rfl (one_of HT_.out (by kernel_rfl)) (by decide) (fun K hK => ?_)
   refine goes_ Tryd.func55 (by kernel_rfl) rfl #[.agg #[.int .i64 a0_0, .slice A0_1 l0_1.length c0_1, .slice A0_2 l0_2.length c0_2], .int .i64 a1] (by rfl) rfl rfl TM ?_
   with_reducible refine (saronref09_isPiece.calls a0_0 _ _ l0_1 _ _ l0_2 a1 false _ ?side1 ?side2 ?side3 ?side4 A4.out).mono ?_
   (case side1 => exact TC HR0_1.out)
   (case side2 => exact HC0_1.out)
   (case side3 => exact TC HR0_2.out)
   (case side4 => exact HC0_2.out)
   rintro e w41 ⟨rfl, hb⟩
   refine ⟨_, rfl, ?_⟩
   have n0_ := Aside0.mk (TKb hb BK147.out)
   have n1_ := Aside0.mk (below_step (TB1 GE147.out) hb)
   clear BK147
   clear HB
   have BK147 := n0_
   have HB := n1_
   clear n0_ n1_
   (try clear hb)
   (try clear hb2)
   (try clear hk)
   (try clear hi)
   refine hK.out _ _ ⟨cz BK147.out 0, cz BK147.out 1, cz BK147.out 2⟩ (fun hHeld => ?_)
   clear hK K
   refine norm_ (a' := ?_) ?_ ?_
   rotate_left
   ·show Act.put _ (some 12) _ = _
    simp only [Act.put, lA, lZ, lS, i64_w, i32_w]
    rfl
   refine pT 4 13 (bt 11 31) (k := ?_)
   refine pU 5 14 (bt 11 63) (k := ?_)
   refine pU 6 15 (bt 11 127) (k := ?_)
   refine pU 7 16 (bt 11 255) (k := ?_)
   refine pT 8 17 (bt 11 511) (k := ?_)
   refine one_ (i := 9) (N := some 18) (bt 11 1023) rfl rfl (one_of HT_.out (by kernel_rfl)) (by decide) (fun K hK => ?_)
   refine goes_ Tryd.func54 (by kernel_rfl) rfl #[.agg #[.int .i64 a0_0, .slice A0_1 l0_1.length c0_1, .slice A0_2 l0_2.length c0_2], .bool false] (by rfl) rfl rfl TM ?_
   with_reducible refine (saronref09_asked.calls k a0_0 _ _ l0_1 _ _ l0_2 false t154 _ ?side1 ?side2 ?side3 ?side4 A26.out).mono ?_
   (case side1 => exact TC HR0_1.out)
   (case side2 => exact HC0_1.out)
   (case side3 => exact TC HR0_2.out)
   (case side4 => exact HC0_2.out)
   rintro e w42 ⟨rfl, hb⟩
   refine ⟨_, rfl, ?_⟩
   have n0_ := Aside0.mk (TKb hb BK147.out)
   have n1_ := Aside0.mk (below_step (TB1 GE147.out) hb)
   clear BK147
   clear HB
   have BK147 := n0_
   have HB := n1_
   clear n0_ n1_
   (try clear hb)
   (try clear hb2)
   (try clear hk)
   (try clear hi)
   refine hK.out _ _ ⟨cz BK147.out 0, cz BK147.out 1, cz BK147.out 2⟩ (fun hHeld => ?_)
   clear hK K
   refine norm_ (a' := ?_) ?_ ?_
   rotate_left
   ·show Act.put _ (some 18) _ = _
    simp only [Act.put, lA, lZ, lS, i64_w, i32_w]
    rfl
   refine pT 10 8 (bt 11 2047) (k := ?_)
   refine done_ (done_of HT_.out (by kernel_rfl)) ?_
   try go_wp2
   go_ret2
   exact ⟨TR, TB1 GE147.out⟩
end Go.Proofs.YtfdenclnneigfaaDoor.PRaspKeys
namespace Go.Proofs.YtfdenclnneigfaaDoor.PRaspKeys
open Go.RowKit Go.Proofs.YtfdenclnneigfaaDoorW.PrintWords Go.Proofs.YtfdenclnneigfaaDoorW.PrintLast Go.Proofs.YtfdenclnneigfaaDoorW.PrintMore Go.Proofs.YtfdenclnneigfaaDoor.M
attribute [local go_sem] max2_int min2_int max_two min_two max_three min_three max_four min_four   -- for this text's walks alone
/-! ### saronref09_Whole: function 33 -/
mutual
def saronref09_Whole.j0 : Nat → List Int → Int → Int → Int → List (S114) → List (S62) → Option (List Int × Int)
 | 0, _, _, _, _, _, _ => none
 | k + 1, x1, x2, x8, x159000, x159001, x159002 => if x8 = 0 then (saronref09_Whole.l0 k x1 x2 ([] : List Int) 0 x159000 x159001 x159002) else (some (([] : List Int), x8))
def saronref09_Whole.l0 : Nat → List Int → Int → List Int → Int → Int → List (S114) → List (S62) → Option (List Int × Int)
 | 0, _, _, _, _, _, _, _ => none
 | k + 1, x1, x2, x9, x10, x159000, x159001, x159002 => if x10 < (x159002.length : Int) then (if 0 ≤ x10 then ((saronref09_share.f k ((rd_T62 x159002 x10).f1) x1).bind fun t164 => (if t164 = (x1.length : Int) then (if (wrap64 ((((rd_T62 x159002 x10).f1).length : Int) - (x1.length : Int))) ≤ x2 then (if x9.length < 17592186044416 then (saronref09_Whole.l0 k x1 x2 (x9 ++ [x10]) (wrap64 (x10 + 1)) x159000 x159001 x159002) else (none)) else (saronref09_Whole.l0 k x1 x2 x9 (wrap64 (x10 + 1)) x159000 x159001 x159002)) else (saronref09_Whole.l0 k x1 x2 x9 (wrap64 (x10 + 1)) x159000 x159001 x159002))) else (none)) else (some (x9, 0))
end
def saronref09_Whole.f (k : Nat) (a0_0 : Int) (l0_1 : List (S114)) (l0_2 : List (S62)) (l1 : List Int) (a2 : Int) : Option (List Int × Int) := (saronref09_areTones.f k l1 0 24).bind fun t159 => (if t159 = true then ((saronref00_Sits.f a2 0 6).bind fun t160 => ((saronref09_asked.f k a0_0 l0_1 l0_2 t160).bind fun t161 => (saronref09_Whole.j0 k l1 a2 t161 a0_0 l0_1 l0_2))) else ((saronref09_asked.f k a0_0 l0_1 l0_2 false).bind fun t162 => (saronref09_Whole.j0 k l1 a2 t162 a0_0 l0_1 l0_2)))
theorem saronref09_Whole.mono_l : ∀ k, (∀ y0 y1 y2 y3 y4 y5, LeO (saronref09_Whole.j0 k y0 y1 y2 y3 y4 y5) (saronref09_Whole.j0 (k + 1) y0 y1 y2 y3 y4 y5)) ∧ (∀ y0 y1 y2 y3 y4 y5 y6, LeO (saronref09_Whole.l0 k y0 y1 y2 y3 y4 y5 y6) (saronref09_Whole.l0 (k + 1) y0 y1 y2 y3 y4 y5 y6))
 | 0 => ⟨fun _ _ _ _ _ _ r h => by simp [saronref09_Whole.j0] at h, fun _ _ _ _ _ _ _ r h => by simp [saronref09_Whole.l0] at h⟩
 | k + 1 => by
  obtain ⟨ih0, ih1⟩ := saronref09_Whole.mono_l k
  refine ⟨?_, ?_⟩
  ·intro y0 y1 y2 y3 y4 y5
   unfold saronref09_Whole.j0
   repeat' first
   | (with_reducible exact ih0 _ _ _ _ _ _)
   | (with_reducible exact ih1 _ _ _ _ _ _ _)
   | (with_reducible exact saronref09_areTones.mono _ _ _ _)
   | (with_reducible exact saronref09_asked.mono _ _ _ _ _)
   | (with_reducible exact saronref09_share.mono _ _ _)
   | (with_reducible exact LeO.refl _)
   | (with_reducible exact LeO.none _)
   | (with_reducible refine LeO.ite ?_ ?_)
   | (with_reducible refine LeO.bind ?_ (fun _ => ?_))
   | exact ih0 _ _ _ _ _ _
   | exact ih1 _ _ _ _ _ _ _
   | exact saronref09_areTones.mono _ _ _ _
   | exact saronref09_asked.mono _ _ _ _ _
   | exact saronref09_share.mono _ _ _
   | exact LeO.none _
   | refine LeO.ite ?_ ?_
   | refine LeO.bind ?_ (fun _ => ?_)
  ·intro y0 y1 y2 y3 y4 y5 y6
   unfold saronref09_Whole.l0
   repeat' first
   | (with_reducible exact ih0 _ _ _ _ _ _)
   | (with_reducible exact ih1 _ _ _ _ _ _ _)
   | (with_reducible exact saronref09_areTones.mono _ _ _ _)
   | (with_reducible exact saronref09_asked.mono _ _ _ _ _)
   | (with_reducible exact saronref09_share.mono _ _ _)
   | (with_reducible exact LeO.refl _)
   | (with_reducible exact LeO.none _)
   | (with_reducible refine LeO.ite ?_ ?_)
   | (with_reducible refine LeO.bind ?_ (fun _ => ?_))
   | exact ih0 _ _ _ _ _ _
   | exact ih1 _ _ _ _ _ _ _
   | exact saronref09_areTones.mono _ _ _ _
   | exact saronref09_asked.mono _ _ _ _ _
   | exact saronref09_share.mono _ _ _
   | exact LeO.none _
   | refine LeO.ite ?_ ?_
   | refine LeO.bind ?_ (fun _ => ?_)
theorem saronref09_Whole.mono : ∀ a0 a1 a2 a3 a4 k, LeO (saronref09_Whole.f k a0 a1 a2 a3 a4) (saronref09_Whole.f (k + 1) a0 a1 a2 a3 a4) := by
 intro a0 a1 a2 a3 a4 k
 obtain ⟨ih0, ih1⟩ := saronref09_Whole.mono_l k
 unfold saronref09_Whole.f
 repeat' first
   | (with_reducible exact ih0 _ _ _ _ _ _)
   | (with_reducible exact ih1 _ _ _ _ _ _ _)
   | (with_reducible exact saronref09_areTones.mono _ _ _ _)
   | (with_reducible exact saronref09_asked.mono _ _ _ _ _)
   | (with_reducible exact saronref09_share.mono _ _ _)
   | (with_reducible exact LeO.refl _)
   | (with_reducible exact LeO.none _)
   | (with_reducible refine LeO.ite ?_ ?_)
   | (with_reducible refine LeO.bind ?_ (fun _ => ?_))
   | exact ih0 _ _ _ _ _ _
   | exact ih1 _ _ _ _ _ _ _
   | exact saronref09_areTones.mono _ _ _ _
   | exact saronref09_asked.mono _ _ _ _ _
   | exact saronref09_share.mono _ _ _
   | exact LeO.none _
   | refine LeO.ite ?_ ?_
   | refine LeO.bind ?_ (fun _ => ?_)
def saronref09_Whole.T1 : Bool × List (List Nat × List Nat) := (true, [([], []), ([], []), ([1], [1]), ([2, 2], [2]), ([3], [3]), ([4, 3, 3], [3, 4]), ([3, 5], [3, 5]), ([0, 6, 5], [0, 6]), ([7, 7, 0, 1, 2, 3, 4, 5, 6, 7], [7])])
def saronref09_Whole.B1 : List Nat := [0, 0, 2, 6, 14, 30, 62, 127, 255]
theorem saronref09_Whole.tab1 : rtab .any (opsOf Tryd.f33 1) = saronref09_Whole.T1 := by kernel_rfl
theorem saronref09_Whole.bits1 : waitsOk saronref09_Whole.T1.2 saronref09_Whole.B1 = true := by kernel_rfl
set_option maxHeartbeats 8000000 in
set_option maxRecDepth 100000 in
theorem saronref09_Whole.calls (k : Nat) (a0_0 : Int) (A0_1 : Option Addr) (c0_1 : Nat) (l0_1 : List (S114)) (A0_2 : Option Addr) (c0_2 : Nat) (l0_2 : List (S62)) (A1 : Option Addr) (c1 : Nat) (l1 : List Int) (a2 : Int) (r1 : List Int) (r2 : Int) (w : World) (hr0_1 : Kd.C k114 w A0_1 l0_1.length l0_1) (hc0_1 : l0_1.length ≤ c0_1) (hr0_2 : Kd.C k62 w A0_2 l0_2.length l0_2) (hc0_2 : l0_2.length ≤ c0_2) (hr1 : Kd.C (Kd.int .i64) w A1 l1.length l1) (hc1 : l1.length ≤ c1) (h : saronref09_Whole.f k a0_0 l0_1 l0_2 l1 a2 = some (r1, r2)) :
  Calls Tryd.prog 33 #[.agg #[.int .i64 a0_0, .slice A0_1 l0_1.length c0_1, .slice A0_2 l0_2.length c0_2], .slice A1 l1.length c1, .int .i64 a2] w fun e w' => ∃ v0_ : Value, e = .returned (.tuple #[v0_, .int .i64 r2]) ∧ Kd.R (Kd.int .i64) 3 w' w.heap.size (fun _ => True) v0_ r1 ∧ Below w.heap.size w w' := by
 have hu27 := Tryd.underlying27
 have HR0_1 := Aside0.mk hr0_1
 have HC0_1 := Aside0.mk hc0_1
 clear hr0_1 hc0_1
 have HR0_2 := Aside0.mk hr0_2
 have HC0_2 := Aside0.mk hc0_2
 clear hr0_2 hc0_2
 have HR1 := Aside0.mk hr1
 have HC1 := Aside0.mk hc1
 clear hr1 hc1
 have HB := Aside0.mk (Below.refl w.heap.size w)
 have H : ((saronref09_areTones.f k l1 0 24).bind fun t159 => (if t159 = true then ((saronref00_Sits.f a2 0 6).bind fun t160 => ((saronref09_asked.f k a0_0 l0_1 l0_2 t160).bind fun t161 => (saronref09_Whole.j0 k l1 a2 t161 a0_0 l0_1 l0_2))) else ((saronref09_asked.f k a0_0 l0_1 l0_2 false).bind fun t162 => (saronref09_Whole.j0 k l1 a2 t162 a0_0 l0_1 l0_2)))) = some (r1, r2) := h
 clear h
 have HC4 := Aside0.mk H
 clear H
 go_enter Tryd.func33, Tryd.ntmps33
 go_upto_region 1 with (first | ((with_reducible refine gate_dst (N := 3) rfl ?_); (try (refine gate_guard (by rfl) ?_; dsimp only)); refine box_event ?hg (N := 3) ?hd (cs := #[.int .i64 a0_0, .slice A0_1 l0_1.length c0_1, .slice A0_2 l0_2.length c0_2]) (t := 27) ?hr ?_; (case hd => rfl); (case hg => rfl); (case hr => exact TS); intro gb158 hg w5 hbox hb; have BK158 := Aside0.mk (hbox); have GW158 := Aside0.mk ((TG : w.heap.size ≤ gb158)); have GE158 := Aside0.mk ((TG : w.heap.size ≤ gb158)); replace HB := Aside0.mk (below_step TB hb); clear hb hbox hg))
 (try simp only [Act.put, lA, lZ, lS])
 go_cut [8] (fun v8 wc => ∃ (kq : Nat) (x8_3 : Int), v8 = .int .i64 x8_3 ∧ Aside0 (saronref09_Whole.j0 kq l1 a2 x8_3 a0_0 l0_1 l0_2 = some (r1, r2)) ∧ Aside0 (kq ≤ k) ∧ Aside0 (wc.heap[gb158]? = some (.cells #[.int .i64 a0_0, (.slice A0_1 l0_1.length c0_1), (.slice A0_2 l0_2.length c0_2)] 27 (0, 0))) ∧ Aside0 (Below w.heap.size w wc))
 case first => as_aux_lemma =>
  have H := HC4.out
  clear HC4
  replace H := Option.bind_eq_some_iff.mp H
  obtain ⟨t159, A60, H⟩ := H
  replace H : (if t159 = true then ((saronref00_Sits.f a2 0 6).bind fun t160 => ((saronref09_asked.f k a0_0 l0_1 l0_2 t160).bind fun t161 => (saronref09_Whole.j0 k l1 a2 t161 a0_0 l0_1 l0_2))) else ((saronref09_asked.f k a0_0 l0_1 l0_2 false).bind fun t162 => (saronref09_Whole.j0 k l1 a2 t162 a0_0 l0_1 l0_2))) = some (r1, r2) := H
  have A6 := Aside0.mk A60
  clear A60
  by_cases c7 : t159 = true
  ·subst c7
   have H1 : ((saronref00_Sits.f a2 0 6).bind fun t160 => ((saronref09_asked.f k a0_0 l0_1 l0_2 t160).bind fun t161 => (saronref09_Whole.j0 k l1 a2 t161 a0_0 l0_1 l0_2))) = some (r1, r2) := by rw [if_pos rfl] at H; exact H
   clear H
   have H := H1
   clear H1
   replace H := Option.bind_eq_some_iff.mp H
   obtain ⟨t160, A80, H⟩ := H
   replace H : ((saronref09_asked.f k a0_0 l0_1 l0_2 t160).bind fun t161 => (saronref09_Whole.j0 k l1 a2 t161 a0_0 l0_1 l0_2)) = some (r1, r2) := H
   have A8 := Aside0.mk A80
   clear A80
   replace H := Option.bind_eq_some_iff.mp H
   obtain ⟨t161, A90, H⟩ := H
   replace H : (saronref09_Whole.j0 k l1 a2 t161 a0_0 l0_1 l0_2) = some (r1, r2) := H
   have A9 := Aside0.mk A90
   clear A90
   have H' := Aside0.mk H
   clear H
   try go_wp2
   have n0_ := Aside0.mk (blk_drew BK158.out)
   have n1_ := Aside0.mk (below_drew1 HB.out)
   clear BK158
   clear HB
   have BK158 := n0_
   have HB := n1_
   clear n0_ n1_
   refine start_ (n := 9) (S := fun w' => w'.cell? ⟨gb158, 0, none⟩ = some (.int .i64 a0_0) ∧ w'.cell? ⟨gb158, 1, none⟩ = some (.slice A0_1 l0_1.length c0_1) ∧ w'.cell? ⟨gb158, 2, none⟩ = some (.slice A0_2 l0_2.length c0_2)) (ds := []) (.replicate 9 false) (by kernel_rfl) rfl rfl ⟨cz BK158.out 0, cz BK158.out 1, cz BK158.out 2⟩ (fun hHeld => ?_); refine with_tabW saronref09_Whole.tab1 saronref09_Whole.bits1 (fun HT_ HW_ => ?_)
   generalize w5.drew = w10 at BK158 HB hHeld ⊢
   refine pT 1 13 (bt 9 2) (k := ?_)
   refine tT3 0 12 (bt 9 3) hHeld (k := ?_)
   refine one_ (i := 2) (N := some 14) (bt 9 7) rfl rfl (one_of HT_.out (by kernel_rfl)) (by decide) (fun K hK => ?_)
   refine goes_ Tryd.func62 (by kernel_rfl) rfl #[.slice A1 l1.length c1, .int .i64 0, .int .i64 24] (by rfl) rfl rfl TM ?_
   with_reducible refine (saronref09_areTones.calls k _ _ l1 0 24 true _ ?side1 ?side2 A6.out).mono ?_
   (case side1 => exact TC HR1.out)
   (case side2 => exact HC1.out)
   rintro e w' ⟨rfl, ⟨nd, rfl⟩⟩
   refine ⟨_, rfl, ?_⟩
   refine hK.out _ _ ⟨cz BK158.out 0, cz BK158.out 1, cz BK158.out 2⟩ (fun hHeld => ?_)
   clear hK K
   refine norm_ (a' := ?_) ?_ ?_
   rotate_left
   ·show Act.put _ (some 14) _ = _
    simp only [Act.put, lA, lZ, lS, i64_w, i32_w]
    rfl
   refine pT 3 15 (bt 9 15) (k := ?_)
   refine pT 4 16 (bt 9 31) (k := ?_)
   refine one_ (i := 5) (N := some 17) (bt 9 63) rfl rfl (one_of HT_.out (by kernel_rfl)) (by decide) (fun K hK => ?_)
   refine goes_ Tryd.func40 (by kernel_rfl) rfl #[.int .i64 a2, .int .i64 0, .int .i64 6] (by rfl) rfl rfl TM ?_
   with_reducible refine (saronref00_Sits.calls a2 0 6 t160 _ A8.out).mono ?_
   rintro e w' ⟨rfl, ⟨nd, rfl⟩⟩
   refine ⟨_, rfl, ?_⟩
   refine hK.out _ _ ⟨cz BK158.out 0, cz BK158.out 1, cz BK158.out 2⟩ (fun hHeld => ?_)
   clear hK K
   refine norm_ (a' := ?_) ?_ ?_
   rotate_left
   ·show Act.put _ (some 17) _ = _
    simp only [Act.put, lA, lZ, lS, i64_w, i32_w]
    rfl
   refine pT 6 18 (bt 9 127) (k := ?_)
   refine one_ (i := 7) (N := some 19) (bt 9 255) rfl rfl (one_of HT_.out (by kernel_rfl)) (by decide) (fun K hK => ?_)
   refine goes_ Tryd.func54 (by kernel_rfl) rfl #[.agg #[.int .i64 a0_0, .slice A0_1 l0_1.length c0_1, .slice A0_2 l0_2.length c0_2], .bool t160] (by rfl) rfl rfl TM ?_
   with_reducible refine (saronref09_asked.calls k a0_0 _ _ l0_1 _ _ l0_2 t160 t161 _ ?side1 ?side2 ?side3 ?side4 A9.out).mono ?_
   (case side1 => exact TD HR0_1.out (TB1 GE158.out))
   (case side2 => exact HC0_1.out)
   (case side3 => exact TD HR0_2.out (TB1 GE158.out))
   (case side4 => exact HC0_2.out)
   rintro e w11 ⟨rfl, hb⟩
   refine ⟨_, rfl, ?_⟩
   have n0_ := Aside0.mk (TKb hb BK158.out)
   have n1_ := Aside0.mk (below_step (TB1 GE158.out) hb)
   clear BK158
   clear HB
   have BK158 := n0_
   have HB := n1_
   clear n0_ n1_
   (try clear hb)
   (try clear hb2)
   (try clear hk)
   (try clear hi)
   refine hK.out _ _ ⟨cz BK158.out 0, cz BK158.out 1, cz BK158.out 2⟩ (fun hHeld => ?_)
   clear hK K
   refine norm_ (a' := ?_) ?_ ?_
   rotate_left
   ·show Act.put _ (some 19) _ = _
    simp only [Act.put, lA, lZ, lS, i64_w, i32_w]
    rfl
   refine pT 8 8 (bt 9 511) (k := ?_)
   refine done_ (done_of HT_.out (by kernel_rfl)) ?_
   try go_wp2
   go_meet
   case rel => exact ⟨_, (t161), TT, H', ⟨by first | omega | exact Nat.le_refl _⟩, ⟨TK BK158.out⟩, ⟨TB1 GE158.out⟩⟩
  ·replace c7 := Bool.eq_false_iff.mpr c7
   subst c7
   have H1 : ((saronref09_asked.f k a0_0 l0_1 l0_2 false).bind fun t162 => (saronref09_Whole.j0 k l1 a2 t162 a0_0 l0_1 l0_2)) = some (r1, r2) := by rw [if_neg (show ¬ (false = true) by decide)] at H; exact H
   clear H
   have H := H1
   clear H1
   replace H := Option.bind_eq_some_iff.mp H
   obtain ⟨t162, A120, H⟩ := H
   replace H : (saronref09_Whole.j0 k l1 a2 t162 a0_0 l0_1 l0_2) = some (r1, r2) := H
   have A12 := Aside0.mk A120
   clear A120
   have H' := Aside0.mk H
   clear H
   try go_wp2
   have n0_ := Aside0.mk (blk_drew BK158.out)
   have n1_ := Aside0.mk (below_drew1 HB.out)
   clear BK158
   clear HB
   have BK158 := n0_
   have HB := n1_
   clear n0_ n1_
   refine start_ (n := 9) (S := fun w' => w'.cell? ⟨gb158, 0, none⟩ = some (.int .i64 a0_0) ∧ w'.cell? ⟨gb158, 1, none⟩ = some (.slice A0_1 l0_1.length c0_1) ∧ w'.cell? ⟨gb158, 2, none⟩ = some (.slice A0_2 l0_2.length c0_2)) (ds := []) (.replicate 9 false) (by kernel_rfl) rfl rfl ⟨cz BK158.out 0, cz BK158.out 1, cz BK158.out 2⟩ (fun hHeld => ?_); refine with_tabW saronref09_Whole.tab1 saronref09_Whole.bits1 (fun HT_ HW_ => ?_)
   generalize w5.drew = w13 at BK158 HB hHeld ⊢
   refine pT 1 13 (bt 9 2) (k := ?_)
   refine tT3 0 12 (bt 9 3) hHeld (k := ?_)
   refine one_ (i := 2) (N := some 14) (bt 9 7) rfl rfl (one_of HT_.out (by kernel_rfl)) (by decide) (fun K hK => ?_)
   refine goes_ Tryd.func62 (by kernel_rfl) rfl #[.slice A1 l1.length c1, .int .i64 0, .int .i64 24] (by rfl) rfl rfl TM ?_
   with_reducible refine (saronref09_areTones.calls k _ _ l1 0 24 false _ ?side1 ?side2 A6.out).mono ?_
   (case side1 => exact TC HR1.out)
   (case side2 => exact HC1.out)
   rintro e w' ⟨rfl, ⟨nd, rfl⟩⟩
   refine ⟨_, rfl, ?_⟩
   refine hK.out _ _ ⟨cz BK158.out 0, cz BK158.out 1, cz BK158.out 2⟩ (fun hHeld => ?_)
   clear hK K
   refine norm_ (a' := ?_) ?_ ?_
   rotate_left
   ·show Act.put _ (some 14) _ = _
    simp only [Act.put, lA, lZ, lS, i64_w, i32_w]
    rfl
   refine pT 3 15 (bt 9 15) (k := ?_)
   refine pU 4 16 (bt 9 31) (k := ?_)
   refine pU 5 17 (bt 9 63) (k := ?_)
   refine pT 6 18 (bt 9 127) (k := ?_)
   refine one_ (i := 7) (N := some 19) (bt 9 255) rfl rfl (one_of HT_.out (by kernel_rfl)) (by decide) (fun K hK => ?_)
   refine goes_ Tryd.func54 (by kernel_rfl) rfl #[.agg #[.int .i64 a0_0, .slice A0_1 l0_1.length c0_1, .slice A0_2 l0_2.length c0_2], .bool false] (by rfl) rfl rfl TM ?_
   with_reducible refine (saronref09_asked.calls k a0_0 _ _ l0_1 _ _ l0_2 false t162 _ ?side1 ?side2 ?side3 ?side4 A12.out).mono ?_
   (case side1 => exact TD HR0_1.out (TB1 GE158.out))
   (case side2 => exact HC0_1.out)
   (case side3 => exact TD HR0_2.out (TB1 GE158.out))
   (case side4 => exact HC0_2.out)
   rintro e w14 ⟨rfl, hb⟩
   refine ⟨_, rfl, ?_⟩
   have n0_ := Aside0.mk (TKb hb BK158.out)
   have n1_ := Aside0.mk (below_step (TB1 GE158.out) hb)
   clear BK158
   clear HB
   have BK158 := n0_
   have HB := n1_
   clear n0_ n1_
   (try clear hb)
   (try clear hb2)
   (try clear hk)
   (try clear hi)
   refine hK.out _ _ ⟨cz BK158.out 0, cz BK158.out 1, cz BK158.out 2⟩ (fun hHeld => ?_)
   clear hK K
   refine norm_ (a' := ?_) ?_ ?_
   rotate_left
   ·show Act.put _ (some 19) _ = _
    simp only [Act.put, lA, lZ, lS, i64_w, i32_w]
    rfl
   refine pT 8 8 (bt 9 511) (k := ?_)
   refine done_ (done_of HT_.out (by kernel_rfl)) ?_
   try go_wp2
   go_meet
   case rel => exact ⟨_, (t162), TT, H', ⟨by first | omega | exact Nat.le_refl _⟩, ⟨TK BK158.out⟩, ⟨TB1 GE158.out⟩⟩
 case rest => as_aux_lemma =>
  clear HC4
  try clear c1
  try clear p2
  try clear c3
  try clear c4
  try clear c5
  try clear c6
  try clear c7
  obtain ⟨kq, x8_3, rfl, HA, HJ3, BK158, HB⟩ := hcut
  cases kq with
  | zero => exact absurd HA.out (by simp [saronref09_Whole.j0])
  | succ kj3 =>
   have H := HA.out
   clear HA
   simp only [saronref09_Whole.j0] at H
   by_cases c15 : x8_3 = 0
   ·rw [if_pos c15] at H
    have c15b0 : (x8_3 == 0) = true := beq_iff_eq.mpr c15
    have c15b1 : (x8_3 != 0) = false := bne_eq_false_iff_eq.mpr c15
    clear c15
    have H' := Aside0.mk H
    clear H
    go_wp2
    go_loopg [9, 10] kj3 (fun kq v9 v10 w' => ∃ (x9_2 : List Int) (x10_2 : Int), v10 = .int .i64 x10_2 ∧ Aside0 (saronref09_Whole.l0 kq l1 a2 x9_2 x10_2 a0_0 l0_1 l0_2 = some (r1, r2)) ∧ Aside0 (kq ≤ kj3) ∧ Aside0 (Kd.R (Kd.int .i64) 3 w' w.heap.size (fun _ => True) v9 x9_2) ∧ Aside0 (w'.heap[gb158]? = some (.cells #[.int .i64 a0_0, (.slice A0_1 l0_1.length c0_1), (.slice A0_2 l0_2.length c0_2)] 27 (0, 0))) ∧ Aside0 (Below w.heap.size w w'))
    case atStart => exact ⟨(([] : List Int)), (0), TT, H', ⟨Nat.le_refl _⟩, ⟨by first | exact Kd.R_nil _ _ _ _ _ | exact Kd.N_nil _ _ _ _ _ | exact Kd.V_nil _ _ _ _ _ | exact Kd.Q_nil _ _ _ _ _ | exact Kd.S_nil _ _ _ _ _⟩, ⟨TK BK158.out⟩, ⟨TB1 GE158.out⟩⟩
    case round => as_aux_lemma =>
     clear H'
     try clear c1
     try clear p2
     try clear c3
     try clear c4
     try clear c5
     try clear c6
     try clear c7
     try clear c15
     try clear c15b0
     try clear c15b1
     try clear p2
     obtain ⟨x9_2, x10_2, rfl, HA, HK2, HO_9, BK158, HB⟩ := hrel
     cases gk with
     | zero => exact absurd HA.out (by simp [saronref09_Whole.l0])
     | succ k2 =>
      have H := HA.out
      clear HA
      simp only [saronref09_Whole.l0] at H
      by_cases c16 : x10_2 < (l0_2.length : Int)
      ·rw [if_pos c16] at H
       have c16b0 : decide (x10_2 < (l0_2.length : Int)) = true := decide_eq_true c16
       clear c16
       by_cases c17 : 0 ≤ x10_2
       ·rw [if_pos c17] at H
        have c17b0 : decide (0 ≤ x10_2) = true := decide_eq_true c17
        clear c17
        replace H := Option.bind_eq_some_iff.mp H
        obtain ⟨t164, A180, H⟩ := H
        replace H : (if t164 = (l1.length : Int) then (if (wrap64 ((((rd_T62 l0_2 x10_2).f1).length : Int) - (l1.length : Int))) ≤ a2 then (if x9_2.length < 17592186044416 then (saronref09_Whole.l0 k2 l1 a2 (x9_2 ++ [x10_2]) (wrap64 (x10_2 + 1)) a0_0 l0_1 l0_2) else (none)) else (saronref09_Whole.l0 k2 l1 a2 x9_2 (wrap64 (x10_2 + 1)) a0_0 l0_1 l0_2)) else (saronref09_Whole.l0 k2 l1 a2 x9_2 (wrap64 (x10_2 + 1)) a0_0 l0_1 l0_2)) = some (r1, r2) := H
        have A18 := Aside0.mk A180
        clear A180
        by_cases c19 : t164 = (l1.length : Int)
        ·rw [if_pos c19] at H
         have c19b0 : (t164 == (l1.length : Int)) = true := beq_iff_eq.mpr c19
         have c19b1 : (t164 != (l1.length : Int)) = false := bne_eq_false_iff_eq.mpr c19
         clear c19
         by_cases c20 : (wrap64 ((((rd_T62 l0_2 x10_2).f1).length : Int) - (l1.length : Int))) ≤ a2
         ·rw [if_pos c20] at H
          have c20b0 : decide ((wrap64 ((((rd_T62 l0_2 x10_2).f1).length : Int) - (l1.length : Int))) ≤ a2) = true := decide_eq_true c20
          clear c20
          by_cases c21 : x9_2.length < 17592186044416
          ·rw [if_pos c21] at H
           have LMc21 := Aside0.mk c21
           clear c21
           obtain ⟨y165, hy165⟩ : ∃ y_ : List Int, y_ = (x9_2 ++ [x10_2]) := ⟨_, rfl⟩
           replace H : (saronref09_Whole.l0 k2 l1 a2 y165 (wrap64 (x10_2 + 1)) a0_0 l0_1 l0_2) = some (r1, r2) := by first | (rw [hy165]; with_reducible exact H) | (have H2_ := (Option.bind_some _ _).symm.trans H; rw [hy165]; with_reducible exact H2_) | (have H2_ := (Option.bind_some _ _).symm.trans H; with_reducible exact H2_) | with_reducible exact H | (rw [hy165]; exact H) | exact H
           have Ny165 := Aside0.mk hy165
           clear hy165
           have H' := Aside0.mk H
           clear H
           have hcz22_0 := cz BK158.out 0
           have hcz22_1 := cz BK158.out 1
           have hcz22_2 := cz BK158.out 2
           have hfz22_0 := fz BK158.out 0
           have hfz22_1 := fz BK158.out 1
           have hfz22_2 := fz BK158.out 2
           have p163 : 0 ≤ (x10_2 : Int) := of_decide_eq_true TA
           have q163 : x10_2 < (l0_2.length : Int) := of_decide_eq_true TA
           obtain ⟨ad163, A163_1, c163_1, e163, hx163_0, hx163_1, hl163_1, hi163_1⟩ := at_T62 HR0_2.out x10_2 p163 q163
           cases e163
           replace hx163_0 := hx HB.out hx163_0
           replace hx163_1 := hx HB.out hx163_1
           have HR163_1 := Aside0.mk hi163_1
           have HC163_1 := Aside0.mk hl163_1
           clear hi163_1 hl163_1
           replace p163 := eq_true p163
           replace q163 := eq_true q163
           go_wp2_with (first | ((with_reducible refine gate_callee (f := 73) rfl ?_); refine goesL_ (some 38) rfl rfl Tryd.func73 (by kernel_rfl) rfl #[.slice A163_1 ((rd_T62 l0_2 x10_2).f1).length c163_1, .slice A1 l1.length c1] rfl TM ?_; (with_reducible refine (saronref09_share.calls k2 _ _ ((rd_T62 l0_2 x10_2).f1) _ _ l1 t164 _ ?side1 ?side2 ?side3 ?side4 A18.out).mono ?_); (case side1 => exact TC HR163_1.out); (case side2 => exact HC163_1.out); (case side3 => exact TC HR1.out); (case side4 => exact HC1.out); rintro e w23 ⟨rfl, hb⟩; refine ⟨_, rfl, ?_⟩; replace HO_9 := Aside0.mk (Kd.R_below (TRo HO_9.out) hb); replace BK158 := Aside0.mk (TKb hb BK158.out); replace HB := Aside0.mk (below_step (TB1 GE158.out) hb); (try clear hb); (try clear hb2); (try clear hk); (try clear hi)) | ((with_reducible refine gate_builtin (b := .append) (xs := #[.tmp 51, .tmp 53]) rfl ?_); (try (refine gate_guard (by rfl) ?_; dsimp only)); at_builtin; refine Kd.R_append (Kd.int .i64) (w0 := w) w.heap.size rfl (.tmp 51) (.tmp 53) 28 3 (.int .i64 0) 8 rfl Tryd.underlying28 info3 rfl (by decide) (by omega) u9 x9_2 x10_2 [.int .i64 x10_2] (fun _ => True) (fun _ => False) rfl rfl ?aP (fun _ hk => hk.elim) ?aF ?aO ?aB ?aS ?aL ?_; (case aP => exact rfl); (case aB => exact (TB1 GE158.out)); (case aF => exact (fun _ _ => trivial)); (case aO => exact (TRo HO_9.out)); (case aS => exact (below_size (TB1 GE158.out))); (case aL => have := LMc21.out; omega); intro v166 w24 ho hb hg hat; rw [← Ny165.out] at ho; have HO167 := Aside0.mk (ho); replace BK158 := Aside0.mk (blk_grown (g := gb158) (o := .cells #[.int .i64 a0_0, .slice A0_1 l0_1.length c0_1, .slice (some ad163) l0_2.length c0_2] 27 (0, 0)) (TK BK158.out) hg (Kd.R_ne HO_9.out BK158.out (by decide))); replace HB := Aside0.mk (hb); clear HO_9; clear ho hb hg hat))
           go_roundg k2
           case measure => have := HJ3.out; have := HK2.out; omega
           case rel => exact ⟨(y165), (wrap64 (x10_2 + 1)), TT, H', ⟨by have := HJ3.out; have := HK2.out; omega⟩, ⟨by (with_reducible repeat (first | apply Kd.R_alloc | apply Kd.R_drewN | apply Kd.R_drew)); exact HO167.out⟩, ⟨TK BK158.out⟩, ⟨TB1 GE158.out⟩⟩
          ·rw [if_neg c21] at H
           exact absurd H (by simp)
         ·rw [if_neg c20] at H
          have c20b0 : decide ((wrap64 ((((rd_T62 l0_2 x10_2).f1).length : Int) - (l1.length : Int))) ≤ a2) = false := decide_eq_false c20
          clear c20
          have H' := Aside0.mk H
          clear H
          have hcz25_0 := cz BK158.out 0
          have hcz25_1 := cz BK158.out 1
          have hcz25_2 := cz BK158.out 2
          have hfz25_0 := fz BK158.out 0
          have hfz25_1 := fz BK158.out 1
          have hfz25_2 := fz BK158.out 2
          have p163 : 0 ≤ (x10_2 : Int) := of_decide_eq_true TA
          have q163 : x10_2 < (l0_2.length : Int) := of_decide_eq_true TA
          obtain ⟨ad163, A163_1, c163_1, e163, hx163_0, hx163_1, hl163_1, hi163_1⟩ := at_T62 HR0_2.out x10_2 p163 q163
          cases e163
          replace hx163_0 := hx HB.out hx163_0
          replace hx163_1 := hx HB.out hx163_1
          have HR163_1 := Aside0.mk hi163_1
          have HC163_1 := Aside0.mk hl163_1
          clear hi163_1 hl163_1
          replace p163 := eq_true p163
          replace q163 := eq_true q163
          go_wp2_with (first | ((with_reducible refine gate_callee (f := 73) rfl ?_); refine goesL_ (some 38) rfl rfl Tryd.func73 (by kernel_rfl) rfl #[.slice A163_1 ((rd_T62 l0_2 x10_2).f1).length c163_1, .slice A1 l1.length c1] rfl TM ?_; (with_reducible refine (saronref09_share.calls k2 _ _ ((rd_T62 l0_2 x10_2).f1) _ _ l1 t164 _ ?side1 ?side2 ?side3 ?side4 A18.out).mono ?_); (case side1 => exact TC HR163_1.out); (case side2 => exact HC163_1.out); (case side3 => exact TC HR1.out); (case side4 => exact HC1.out); rintro e w26 ⟨rfl, hb⟩; refine ⟨_, rfl, ?_⟩; replace HO_9 := Aside0.mk (Kd.R_below (TRo HO_9.out) hb); replace BK158 := Aside0.mk (TKb hb BK158.out); replace HB := Aside0.mk (below_step (TB1 GE158.out) hb); (try clear hb); (try clear hb2); (try clear hk); (try clear hi)))
          go_roundg k2
          case measure => have := HJ3.out; have := HK2.out; omega
          case rel => exact ⟨(x9_2), (wrap64 (x10_2 + 1)), TT, H', ⟨by have := HJ3.out; have := HK2.out; omega⟩, ⟨by (with_reducible repeat (first | apply Kd.R_alloc | apply Kd.R_drewN | apply Kd.R_drew)); exact HO_9.out⟩, ⟨TK BK158.out⟩, ⟨TB1 GE158.out⟩⟩
        ·rw [if_neg c19] at H
         have c19b0 : (t164 == (l1.length : Int)) = false := beq_eq_false_iff_ne.mpr c19
         have c19b1 : (t164 != (l1.length : Int)) = true := bne_iff_ne.mpr c19
         have H' := Aside0.mk H
         clear H
         have hcz27_0 := cz BK158.out 0
         have hcz27_1 := cz BK158.out 1
         have hcz27_2 := cz BK158.out 2
         have hfz27_0 := fz BK158.out 0
         have hfz27_1 := fz BK158.out 1
         have hfz27_2 := fz BK158.out 2
         have p163 : 0 ≤ (x10_2 : Int) := of_decide_eq_true TA
         have q163 : x10_2 < (l0_2.length : Int) := of_decide_eq_true TA
         obtain ⟨ad163, A163_1, c163_1, e163, hx163_0, hx163_1, hl163_1, hi163_1⟩ := at_T62 HR0_2.out x10_2 p163 q163
         cases e163
         replace hx163_0 := hx HB.out hx163_0
         replace hx163_1 := hx HB.out hx163_1
         have HR163_1 := Aside0.mk hi163_1
         have HC163_1 := Aside0.mk hl163_1
         clear hi163_1 hl163_1
         replace p163 := eq_true p163
         replace q163 := eq_true q163
         go_wp2_with (first | ((with_reducible refine gate_callee (f := 73) rfl ?_); refine goesL_ (some 38) rfl rfl Tryd.func73 (by kernel_rfl) rfl #[.slice A163_1 ((rd_T62 l0_2 x10_2).f1).length c163_1, .slice A1 l1.length c1] rfl TM ?_; (with_reducible refine (saronref09_share.calls k2 _ _ ((rd_T62 l0_2 x10_2).f1) _ _ l1 t164 _ ?side1 ?side2 ?side3 ?side4 A18.out).mono ?_); (case side1 => exact TC HR163_1.out); (case side2 => exact HC163_1.out); (case side3 => exact TC HR1.out); (case side4 => exact HC1.out); rintro e w28 ⟨rfl, hb⟩; refine ⟨_, rfl, ?_⟩; replace HO_9 := Aside0.mk (Kd.R_below (TRo HO_9.out) hb); replace BK158 := Aside0.mk (TKb hb BK158.out); replace HB := Aside0.mk (below_step (TB1 GE158.out) hb); (try clear hb); (try clear hb2); (try clear hk); (try clear hi)))
         go_roundg k2
         case measure => have := HJ3.out; have := HK2.out; omega
         case rel => exact ⟨(x9_2), (wrap64 (x10_2 + 1)), TT, H', ⟨by have := HJ3.out; have := HK2.out; omega⟩, ⟨by (with_reducible repeat (first | apply Kd.R_alloc | apply Kd.R_drewN | apply Kd.R_drew)); exact HO_9.out⟩, ⟨TK BK158.out⟩, ⟨TB1 GE158.out⟩⟩
       ·rw [if_neg c17] at H
        exact absurd H (by simp)
      ·rw [if_neg c16] at H
       have c16b0 : decide (x10_2 < (l0_2.length : Int)) = false := decide_eq_false c16
       clear c16
       simp only [Option.some.injEq, Prod.mk.injEq] at H
       obtain ⟨rfl, rfl⟩ := H
       have hcz29_0 := cz BK158.out 0
       have hcz29_1 := cz BK158.out 1
       have hcz29_2 := cz BK158.out 2
       have hfz29_0 := fz BK158.out 0
       have hfz29_1 := fz BK158.out 1
       have hfz29_2 := fz BK158.out 2
       go_wp2
       go_ret2
       exact ⟨_, TR, by (with_reducible repeat (first | apply Kd.R_alloc | apply Kd.R_drewN | apply Kd.R_drew)); exact HO_9.out, TB1 GE158.out⟩
   ·rw [if_neg c15] at H
    have c15b0 : (x8_3 == 0) = false := beq_eq_false_iff_ne.mpr c15
    have c15b1 : (x8_3 != 0) = true := bne_iff_ne.mpr c15
    simp only [Option.some.injEq, Prod.mk.injEq] at H
    obtain ⟨rfl, rfl⟩ := H
    go_wp2
    go_ret2
    exact ⟨_, TR, by first | exact Kd.R_nil _ _ _ _ _ | exact Kd.N_nil _ _ _ _ _ | exact Kd.V_nil _ _ _ _ _ | exact Kd.Q_nil _ _ _ _ _ | exact Kd.S_nil _ _ _ _ _, TB1 GE158.out⟩
end Go.Proofs.YtfdenclnneigfaaDoor.PRaspKeys
