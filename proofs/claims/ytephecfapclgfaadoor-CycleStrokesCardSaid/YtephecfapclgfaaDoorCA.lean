import Derived.Test.YtephecfapclgfaaDoorC0
import Derived.Test.YtephecfapclgfaaDoorM0
import Derived.Test.YtephecfapclgfaaDoorProg
import Derived.Below
import Derived.Deep.Draws
import Derived.Deep.AppendLies
import Derived.Maps.AppendAt
import Derived.OwnWalk
import Derived.Laws.BytesArg
import Derived.Laws.MakeOwn
import Derived.Laws.OwnMore
import Derived.Deep.OwnRows
import Derived.Tactics
import Derived.Lib.ConvBytes
import Derived.Laws.Slices
import Derived.WalkKit
import Derived.KernelRfl
import Derived.RowKit3
import Derived.Deep.LoopGhost
import Derived.Deep.QuietTactic
import Derived.BigQuiet
import Derived.WideLaws
import Derived.Deep.DeepCutAuto
import Derived.Deep.CutBlock
import Derived.Deep.RegionHeld3
import Derived.Laws.Rows
import Derived.Lib.AppendStr
import Derived.ArgAppend
import Derived.Laws.IdiomCopy
import Derived.OrdersHeld
import Derived.Laws.BitsLemmas
import Derived.RowKit
set_option linter.unusedVariables false
set_option linter.unusedSimpArgs false
namespace Go.Proofs.YtephecfapclgfaaDoor.PRaspKeys
open Go.RowKit Go.Proofs.YtephecfapclgfaaDoorW.PrintWords Go.Proofs.YtephecfapclgfaaDoorW.PrintLast Go.Proofs.YtephecfapclgfaaDoorW.PrintMore Go.Proofs.YtephecfapclgfaaDoor.M
attribute [local go_sem] max2_int min2_int max_two min_two max_three min_three max_four min_four   -- for this text's walks alone
/-! #### struct type 63 -/
end Go.Proofs.YtephecfapclgfaaDoor.PRaspKeys
namespace Go.Proofs.YtephecfapclgfaaDoor.PRaspKeys
open Go.RowKit Go.Proofs.YtephecfapclgfaaDoorW.PrintWords Go.Proofs.YtephecfapclgfaaDoorW.PrintLast Go.Proofs.YtephecfapclgfaaDoorW.PrintMore Go.Proofs.YtephecfapclgfaaDoor.M
attribute [local go_sem] max2_int min2_int max_two min_two max_three min_three max_four min_four   -- for this text's walks alone
/-! ### saronref05_Struck: function 15 -/
def saronref05_Struck.f (k : Nat) (a0_0 : Int) (l0_1 : List (S63)) (a1 : Int) (a2 : Int) : Option (List Int × Int) := (saronref05_isForm.f a0_0 l0_1 a1).bind fun t132 => (if t132 = true then ((saronref00_Sits.f a2 0 100000).bind fun t133 => ((saronref05_asked.f k a0_0 l0_1 t133).bind fun t134 => (if t134 = 0 then ((saronref05_struck.f k a0_0 l0_1 a1 a2).bind fun t135 => (some (t135, 0))) else (some (([] : List Int), t134))))) else ((saronref05_asked.f k a0_0 l0_1 false).bind fun t138 => (if t138 = 0 then ((saronref05_struck.f k a0_0 l0_1 a1 a2).bind fun t139 => (some (t139, 0))) else (some (([] : List Int), t138)))))
theorem saronref05_Struck.mono : ∀ a0 a1 a2 a3 k, LeO (saronref05_Struck.f k a0 a1 a2 a3) (saronref05_Struck.f (k + 1) a0 a1 a2 a3) := by
 intro a0 a1 a2 a3 k
 unfold saronref05_Struck.f
 repeat' first
   | (with_reducible exact saronref05_asked.mono _ _ _ _)
   | (with_reducible exact saronref05_struck.mono _ _ _ _ _)
   | (with_reducible exact LeO.refl _)
   | (with_reducible exact LeO.none _)
   | (with_reducible refine LeO.ite ?_ ?_)
   | (with_reducible refine LeO.bind ?_ (fun _ => ?_))
   | exact saronref05_asked.mono _ _ _ _
   | exact saronref05_struck.mono _ _ _ _ _
   | exact LeO.none _
   | refine LeO.ite ?_ ?_
   | refine LeO.bind ?_ (fun _ => ?_)
def saronref05_Struck.T1 : Bool × List (List Nat × List Nat) := (true, [([], []), ([], []), ([], []), ([1, 2], [1, 2]), ([3, 3], [3]), ([4], [4]), ([5, 4, 4], [4, 5]), ([4, 6], [4, 6]), ([0, 7, 6], [0, 7]), ([8, 8, 0, 1, 2, 3, 4, 5, 6, 7, 8], [8])])
def saronref05_Struck.B1 : List Nat := [0, 0, 0, 6, 14, 30, 62, 126, 255, 511]
theorem saronref05_Struck.tab1 : rtab .any (opsOf Tryd.f15 1) = saronref05_Struck.T1 := by kernel_rfl
theorem saronref05_Struck.bits1 : waitsOk saronref05_Struck.T1.2 saronref05_Struck.B1 = true := by kernel_rfl
set_option maxHeartbeats 8000000 in
set_option maxRecDepth 100000 in
theorem saronref05_Struck.calls (k : Nat) (a0_0 : Int) (A0_1 : Option Addr) (c0_1 : Nat) (l0_1 : List (S63)) (a1 : Int) (a2 : Int) (r1 : List Int) (r2 : Int) (w : World) (hr0_1 : Kd.C k63 w A0_1 l0_1.length l0_1) (hc0_1 : l0_1.length ≤ c0_1) (h : saronref05_Struck.f k a0_0 l0_1 a1 a2 = some (r1, r2)) :
  Calls Tryd.prog 15 #[.agg #[.int .i64 a0_0, .slice A0_1 l0_1.length c0_1], .int .i64 a1, .int .i64 a2] w fun e w' => ∃ v0_ : Value, e = .returned (.tuple #[v0_, .int .i64 r2]) ∧ Kd.R (Kd.int .i64) 3 w' w.heap.size (fun _ => True) v0_ r1 ∧ Below w.heap.size w w' := by
 have hu24 := Tryd.underlying24
 have HR0_1 := Aside0.mk hr0_1
 have HC0_1 := Aside0.mk hc0_1
 clear hr0_1 hc0_1
 have HB := Aside0.mk (Below.refl w.heap.size w)
 have H : ((saronref05_isForm.f a0_0 l0_1 a1).bind fun t132 => (if t132 = true then ((saronref00_Sits.f a2 0 100000).bind fun t133 => ((saronref05_asked.f k a0_0 l0_1 t133).bind fun t134 => (if t134 = 0 then ((saronref05_struck.f k a0_0 l0_1 a1 a2).bind fun t135 => (some (t135, 0))) else (some (([] : List Int), t134))))) else ((saronref05_asked.f k a0_0 l0_1 false).bind fun t138 => (if t138 = 0 then ((saronref05_struck.f k a0_0 l0_1 a1 a2).bind fun t139 => (some (t139, 0))) else (some (([] : List Int), t138)))))) = some (r1, r2) := h
 clear h
 replace H := Option.bind_eq_some_iff.mp H
 obtain ⟨t132, A40, H⟩ := H
 replace H : (if t132 = true then ((saronref00_Sits.f a2 0 100000).bind fun t133 => ((saronref05_asked.f k a0_0 l0_1 t133).bind fun t134 => (if t134 = 0 then ((saronref05_struck.f k a0_0 l0_1 a1 a2).bind fun t135 => (some (t135, 0))) else (some (([] : List Int), t134))))) else ((saronref05_asked.f k a0_0 l0_1 false).bind fun t138 => (if t138 = 0 then ((saronref05_struck.f k a0_0 l0_1 a1 a2).bind fun t139 => (some (t139, 0))) else (some (([] : List Int), t138))))) = some (r1, r2) := H
 have A4 := Aside0.mk A40
 clear A40
 by_cases c5 : t132 = true
 ·subst c5
  have H1 : ((saronref00_Sits.f a2 0 100000).bind fun t133 => ((saronref05_asked.f k a0_0 l0_1 t133).bind fun t134 => (if t134 = 0 then ((saronref05_struck.f k a0_0 l0_1 a1 a2).bind fun t135 => (some (t135, 0))) else (some (([] : List Int), t134))))) = some (r1, r2) := by rw [if_pos rfl] at H; exact H
  clear H
  have H := H1
  clear H1
  replace H := Option.bind_eq_some_iff.mp H
  obtain ⟨t133, A60, H⟩ := H
  replace H : ((saronref05_asked.f k a0_0 l0_1 t133).bind fun t134 => (if t134 = 0 then ((saronref05_struck.f k a0_0 l0_1 a1 a2).bind fun t135 => (some (t135, 0))) else (some (([] : List Int), t134)))) = some (r1, r2) := H
  have A6 := Aside0.mk A60
  clear A60
  replace H := Option.bind_eq_some_iff.mp H
  obtain ⟨t134, A70, H⟩ := H
  replace H : (if t134 = 0 then ((saronref05_struck.f k a0_0 l0_1 a1 a2).bind fun t135 => (some (t135, 0))) else (some (([] : List Int), t134))) = some (r1, r2) := H
  have A7 := Aside0.mk A70
  clear A70
  by_cases c8 : t134 = 0
  ·rw [if_pos c8] at H
   have c8b0 : (t134 == 0) = true := beq_iff_eq.mpr c8
   have c8b1 : (t134 != 0) = false := bne_eq_false_iff_eq.mpr c8
   clear c8
   replace H := Option.bind_eq_some_iff.mp H
   obtain ⟨t135, A90, H⟩ := H
   replace H : (some (t135, 0)) = some (r1, r2) := H
   have A9 := Aside0.mk A90
   clear A90
   simp only [Option.some.injEq, Prod.mk.injEq] at H
   obtain ⟨rfl, rfl⟩ := H
   go_enter Tryd.func15, Tryd.ntmps15
   try go_wp2_with (first | ((with_reducible refine gate_dst (N := 3) rfl ?_); refine box_event ?hg (N := 3) ?hd (cs := #[.int .i64 a0_0, .slice A0_1 l0_1.length c0_1]) (t := 24) ?hr ?_; (case hd => rfl); (case hg => rfl); (case hr => exact TS); intro gb131 hg w10 hbox hb; have BK131 := Aside0.mk (hbox); have GW131 := Aside0.mk ((TG : w.heap.size ≤ gb131)); have GE131 := Aside0.mk ((TG : w.heap.size ≤ gb131)); replace HB := Aside0.mk (below_step TB hb); clear hb hbox hg))
   have n0_ := Aside0.mk (blk_drew BK131.out)
   have n1_ := Aside0.mk (below_drew1 HB.out)
   clear BK131
   clear HB
   have BK131 := n0_
   have HB := n1_
   clear n0_ n1_
   refine start_ (n := 10) (S := fun w' => w'.cell? ⟨gb131, 0, none⟩ = some (.int .i64 a0_0) ∧ w'.cell? ⟨gb131, 1, none⟩ = some (.slice A0_1 l0_1.length c0_1)) (ds := []) (.replicate 10 false) (by kernel_rfl) rfl rfl ⟨cz BK131.out 0, cz BK131.out 1⟩ (fun hHeld => ?_); refine with_tabW saronref05_Struck.tab1 saronref05_Struck.bits1 (fun HT_ HW_ => ?_)
   generalize w10.drew = w11 at BK131 HB hHeld ⊢
   refine pT 2 11 (bt 10 4) (k := ?_)
   refine tT2 0 9 (bt 10 5) hHeld (k := ?_)
   refine tT2 1 10 (bt 10 7) hHeld (k := ?_)
   refine one_ (i := 3) (N := some 12) (bt 10 15) rfl rfl (one_of HT_.out (by kernel_rfl)) (by decide) (fun K hK => ?_)
   refine goes_ Tryd.func59 (by kernel_rfl) rfl #[.agg #[.int .i64 a0_0, .slice A0_1 l0_1.length c0_1], .int .i64 a1] (by rfl) rfl rfl TM ?_
   with_reducible refine (saronref05_isForm.calls a0_0 _ _ l0_1 a1 true _ ?side1 ?side2 A4.out).mono ?_
   (case side1 => exact TC HR0_1.out)
   (case side2 => exact HC0_1.out)
   rintro e w12 ⟨rfl, hb⟩
   refine ⟨_, rfl, ?_⟩
   have n0_ := Aside0.mk (TKb hb BK131.out)
   have n1_ := Aside0.mk (below_step (TB1 GE131.out) hb)
   clear BK131
   clear HB
   have BK131 := n0_
   have HB := n1_
   clear n0_ n1_
   (try clear hb)
   (try clear hb2)
   (try clear hk)
   (try clear hi)
   refine hK.out _ _ ⟨cz BK131.out 0, cz BK131.out 1⟩ (fun hHeld => ?_)
   clear hK K
   refine norm_ (a' := ?_) ?_ ?_
   rotate_left
   ·show Act.put _ (some 12) _ = _
    simp only [Act.put, lA, lZ, lS, i64_w, i32_w]
    rfl
   refine pT 4 13 (bt 10 31) (k := ?_)
   refine pT 5 14 (bt 10 63) (k := ?_)
   refine one_ (i := 6) (N := some 15) (bt 10 127) rfl rfl (one_of HT_.out (by kernel_rfl)) (by decide) (fun K hK => ?_)
   refine goes_ Tryd.func43 (by kernel_rfl) rfl #[.int .i64 a2, .int .i64 0, .int .i64 100000] (by rfl) rfl rfl TM ?_
   with_reducible refine (saronref00_Sits.calls a2 0 100000 t133 _ A6.out).mono ?_
   rintro e w' ⟨rfl, ⟨nd, rfl⟩⟩
   refine ⟨_, rfl, ?_⟩
   refine hK.out _ _ ⟨cz BK131.out 0, cz BK131.out 1⟩ (fun hHeld => ?_)
   clear hK K
   refine norm_ (a' := ?_) ?_ ?_
   rotate_left
   ·show Act.put _ (some 15) _ = _
    simp only [Act.put, lA, lZ, lS, i64_w, i32_w]
    rfl
   refine pT 7 16 (bt 10 255) (k := ?_)
   refine one_ (i := 8) (N := some 17) (bt 10 511) rfl rfl (one_of HT_.out (by kernel_rfl)) (by decide) (fun K hK => ?_)
   refine goes_ Tryd.func58 (by kernel_rfl) rfl #[.agg #[.int .i64 a0_0, .slice A0_1 l0_1.length c0_1], .bool t133] (by rfl) rfl rfl TM ?_
   with_reducible refine (saronref05_asked.calls k a0_0 _ _ l0_1 t133 t134 _ ?side1 ?side2 A7.out).mono ?_
   (case side1 => exact TD HR0_1.out (TB1 GE131.out))
   (case side2 => exact HC0_1.out)
   rintro e w13 ⟨rfl, hb⟩
   refine ⟨_, rfl, ?_⟩
   have n0_ := Aside0.mk (TKb hb BK131.out)
   have n1_ := Aside0.mk (below_step (TB1 GE131.out) hb)
   clear BK131
   clear HB
   have BK131 := n0_
   have HB := n1_
   clear n0_ n1_
   (try clear hb)
   (try clear hb2)
   (try clear hk)
   (try clear hi)
   refine hK.out _ _ ⟨cz BK131.out 0, cz BK131.out 1⟩ (fun hHeld => ?_)
   clear hK K
   refine norm_ (a' := ?_) ?_ ?_
   rotate_left
   ·show Act.put _ (some 17) _ = _
    simp only [Act.put, lA, lZ, lS, i64_w, i32_w]
    rfl
   refine pT 9 8 (bt 10 1023) (k := ?_)
   refine done_ (done_of HT_.out (by kernel_rfl)) ?_
   have hcz14_0 := cz BK131.out 0
   have hcz14_1 := cz BK131.out 1
   have hfz14_0 := fz BK131.out 0
   have hfz14_1 := fz BK131.out 1
   try go_wp2_with (first | ((with_reducible refine gate_callee (f := 60) rfl ?_); refine goesL_ (some 24) rfl rfl Tryd.func60 (by kernel_rfl) rfl #[.agg #[.int .i64 a0_0, .slice A0_1 l0_1.length c0_1], .int .i64 a1, .int .i64 a2] rfl TM ?_; (with_reducible refine (saronref05_struck.calls k a0_0 _ _ l0_1 a1 a2 t135 _ ?side1 ?side2 A9.out).mono ?_); (case side1 => exact TC HR0_1.out); (case side2 => exact HC0_1.out); rintro e w15 ⟨v136, rfl, ho0, hb⟩; refine ⟨_, rfl, ?_⟩; have HO137 := Aside0.mk (Kd.R_lower ho0 (below_size (TB1 GE131.out))); replace BK131 := Aside0.mk (TKb hb BK131.out); replace HB := Aside0.mk (below_step (TB1 GE131.out) hb); (try clear hb); (try clear hb2); (try clear hk); (try clear hi); (try clear ho0)))
   go_ret2
   exact ⟨_, TR, by (with_reducible repeat (first | apply Kd.R_alloc | apply Kd.R_drewN | apply Kd.R_drew)); exact HO137.out, TB1 GE131.out⟩
  ·rw [if_neg c8] at H
   have c8b0 : (t134 == 0) = false := beq_eq_false_iff_ne.mpr c8
   have c8b1 : (t134 != 0) = true := bne_iff_ne.mpr c8
   simp only [Option.some.injEq, Prod.mk.injEq] at H
   obtain ⟨rfl, rfl⟩ := H
   go_enter Tryd.func15, Tryd.ntmps15
   try go_wp2_with (first | ((with_reducible refine gate_dst (N := 3) rfl ?_); refine box_event ?hg (N := 3) ?hd (cs := #[.int .i64 a0_0, .slice A0_1 l0_1.length c0_1]) (t := 24) ?hr ?_; (case hd => rfl); (case hg => rfl); (case hr => exact TS); intro gb131 hg w16 hbox hb; have BK131 := Aside0.mk (hbox); have GW131 := Aside0.mk ((TG : w.heap.size ≤ gb131)); have GE131 := Aside0.mk ((TG : w.heap.size ≤ gb131)); replace HB := Aside0.mk (below_step TB hb); clear hb hbox hg))
   have n0_ := Aside0.mk (blk_drew BK131.out)
   have n1_ := Aside0.mk (below_drew1 HB.out)
   clear BK131
   clear HB
   have BK131 := n0_
   have HB := n1_
   clear n0_ n1_
   refine start_ (n := 10) (S := fun w' => w'.cell? ⟨gb131, 0, none⟩ = some (.int .i64 a0_0) ∧ w'.cell? ⟨gb131, 1, none⟩ = some (.slice A0_1 l0_1.length c0_1)) (ds := []) (.replicate 10 false) (by kernel_rfl) rfl rfl ⟨cz BK131.out 0, cz BK131.out 1⟩ (fun hHeld => ?_); refine with_tabW saronref05_Struck.tab1 saronref05_Struck.bits1 (fun HT_ HW_ => ?_)
   generalize w16.drew = w17 at BK131 HB hHeld ⊢
   refine pT 2 11 (bt 10 4) (k := ?_)
   refine tT2 0 9 (bt 10 5) hHeld (k := ?_)
   refine tT2 1 10 (bt 10 7) hHeld (k := ?_)
   refine one_ (i := 3) (N := some 12) (bt 10 15) rfl rfl (one_of HT_.out (by kernel_rfl)) (by decide) (fun K hK => ?_)
   refine goes_ Tryd.func59 (by kernel_rfl) rfl #[.agg #[.int .i64 a0_0, .slice A0_1 l0_1.length c0_1], .int .i64 a1] (by rfl) rfl rfl TM ?_
   with_reducible refine (saronref05_isForm.calls a0_0 _ _ l0_1 a1 true _ ?side1 ?side2 A4.out).mono ?_
   (case side1 => exact TC HR0_1.out)
   (case side2 => exact HC0_1.out)
   rintro e w18 ⟨rfl, hb⟩
   refine ⟨_, rfl, ?_⟩
   have n0_ := Aside0.mk (TKb hb BK131.out)
   have n1_ := Aside0.mk (below_step (TB1 GE131.out) hb)
   clear BK131
   clear HB
   have BK131 := n0_
   have HB := n1_
   clear n0_ n1_
   (try clear hb)
   (try clear hb2)
   (try clear hk)
   (try clear hi)
   refine hK.out _ _ ⟨cz BK131.out 0, cz BK131.out 1⟩ (fun hHeld => ?_)
   clear hK K
   refine norm_ (a' := ?_) ?_ ?_
   rotate_left
   ·show Act.put _ (some 12) _ = _
    simp only [Act.put, lA, lZ, lS, i64_w, i32_w]
    rfl
   refine pT 4 13 (bt 10 31) (k := ?_)
   refine pT 5 14 (bt 10 63) (k := ?_)
   refine one_ (i := 6) (N := some 15) (bt 10 127) rfl rfl (one_of HT_.out (by kernel_rfl)) (by decide) (fun K hK => ?_)
   refine goes_ Tryd.func43 (by kernel_rfl) rfl #[.int .i64 a2, .int .i64 0, .int .i64 100000] (by rfl) rfl rfl TM ?_
   with_reducible refine (saronref00_Sits.calls a2 0 100000 t133 _ A6.out).mono ?_
   rintro e w' ⟨rfl, ⟨nd, rfl⟩⟩
   refine ⟨_, rfl, ?_⟩
   refine hK.out _ _ ⟨cz BK131.out 0, cz BK131.out 1⟩ (fun hHeld => ?_)
   clear hK K
   refine norm_ (a' := ?_) ?_ ?_
   rotate_left
   ·show Act.put _ (some 15) _ = _
    simp only [Act.put, lA, lZ, lS, i64_w, i32_w]
    rfl
   refine pT 7 16 (bt 10 255) (k := ?_)
   refine one_ (i := 8) (N := some 17) (bt 10 511) rfl rfl (one_of HT_.out (by kernel_rfl)) (by decide) (fun K hK => ?_)
   refine goes_ Tryd.func58 (by kernel_rfl) rfl #[.agg #[.int .i64 a0_0, .slice A0_1 l0_1.length c0_1], .bool t133] (by rfl) rfl rfl TM ?_
   with_reducible refine (saronref05_asked.calls k a0_0 _ _ l0_1 t133 t134 _ ?side1 ?side2 A7.out).mono ?_
   (case side1 => exact TD HR0_1.out (TB1 GE131.out))
   (case side2 => exact HC0_1.out)
   rintro e w19 ⟨rfl, hb⟩
   refine ⟨_, rfl, ?_⟩
   have n0_ := Aside0.mk (TKb hb BK131.out)
   have n1_ := Aside0.mk (below_step (TB1 GE131.out) hb)
   clear BK131
   clear HB
   have BK131 := n0_
   have HB := n1_
   clear n0_ n1_
   (try clear hb)
   (try clear hb2)
   (try clear hk)
   (try clear hi)
   refine hK.out _ _ ⟨cz BK131.out 0, cz BK131.out 1⟩ (fun hHeld => ?_)
   clear hK K
   refine norm_ (a' := ?_) ?_ ?_
   rotate_left
   ·show Act.put _ (some 17) _ = _
    simp only [Act.put, lA, lZ, lS, i64_w, i32_w]
    rfl
   refine pT 9 8 (bt 10 1023) (k := ?_)
   refine done_ (done_of HT_.out (by kernel_rfl)) ?_
   try go_wp2
   go_ret2
   exact ⟨_, TR, by first | exact Kd.R_nil _ _ _ _ _ | exact Kd.N_nil _ _ _ _ _ | exact Kd.V_nil _ _ _ _ _ | exact Kd.Q_nil _ _ _ _ _ | exact Kd.S_nil _ _ _ _ _, TB1 GE131.out⟩
 ·replace c5 := Bool.eq_false_iff.mpr c5
  subst c5
  have H1 : ((saronref05_asked.f k a0_0 l0_1 false).bind fun t138 => (if t138 = 0 then ((saronref05_struck.f k a0_0 l0_1 a1 a2).bind fun t139 => (some (t139, 0))) else (some (([] : List Int), t138)))) = some (r1, r2) := by rw [if_neg (show ¬ (false = true) by decide)] at H; exact H
  clear H
  have H := H1
  clear H1
  replace H := Option.bind_eq_some_iff.mp H
  obtain ⟨t138, A200, H⟩ := H
  replace H : (if t138 = 0 then ((saronref05_struck.f k a0_0 l0_1 a1 a2).bind fun t139 => (some (t139, 0))) else (some (([] : List Int), t138))) = some (r1, r2) := H
  have A20 := Aside0.mk A200
  clear A200
  by_cases c21 : t138 = 0
  ·rw [if_pos c21] at H
   have c21b0 : (t138 == 0) = true := beq_iff_eq.mpr c21
   have c21b1 : (t138 != 0) = false := bne_eq_false_iff_eq.mpr c21
   clear c21
   replace H := Option.bind_eq_some_iff.mp H
   obtain ⟨t139, A220, H⟩ := H
   replace H : (some (t139, 0)) = some (r1, r2) := H
   have A22 := Aside0.mk A220
   clear A220
   simp only [Option.some.injEq, Prod.mk.injEq] at H
   obtain ⟨rfl, rfl⟩ := H
   go_enter Tryd.func15, Tryd.ntmps15
   try go_wp2_with (first | ((with_reducible refine gate_dst (N := 3) rfl ?_); refine box_event ?hg (N := 3) ?hd (cs := #[.int .i64 a0_0, .slice A0_1 l0_1.length c0_1]) (t := 24) ?hr ?_; (case hd => rfl); (case hg => rfl); (case hr => exact TS); intro gb131 hg w23 hbox hb; have BK131 := Aside0.mk (hbox); have GW131 := Aside0.mk ((TG : w.heap.size ≤ gb131)); have GE131 := Aside0.mk ((TG : w.heap.size ≤ gb131)); replace HB := Aside0.mk (below_step TB hb); clear hb hbox hg))
   have n0_ := Aside0.mk (blk_drew BK131.out)
   have n1_ := Aside0.mk (below_drew1 HB.out)
   clear BK131
   clear HB
   have BK131 := n0_
   have HB := n1_
   clear n0_ n1_
   refine start_ (n := 10) (S := fun w' => w'.cell? ⟨gb131, 0, none⟩ = some (.int .i64 a0_0) ∧ w'.cell? ⟨gb131, 1, none⟩ = some (.slice A0_1 l0_1.length c0_1)) (ds := []) (.replicate 10 false) (by kernel_rfl) rfl rfl ⟨cz BK131.out 0, cz BK131.out 1⟩ (fun hHeld => ?_); refine with_tabW saronref05_Struck.tab1 saronref05_Struck.bits1 (fun HT_ HW_ => ?_)
   generalize w23.drew = w24 at BK131 HB hHeld ⊢
   refine pT 2 11 (bt 10 4) (k := ?_)
   refine tT2 0 9 (bt 10 5) hHeld (k := ?_)
   refine tT2 1 10 (bt 10 7) hHeld (k := ?_)
   refine one_ (i := 3) (N := some 12) (bt 10 15) rfl rfl (one_of HT_.out (by kernel_rfl)) (by decide) (fun K hK => ?_)
   refine goes_ Tryd.func59 (by kernel_rfl) rfl #[.agg #[.int .i64 a0_0, .slice A0_1 l0_1.length c0_1], .int .i64 a1] (by rfl) rfl rfl TM ?_
   with_reducible refine (saronref05_isForm.calls a0_0 _ _ l0_1 a1 false _ ?side1 ?side2 A4.out).mono ?_
   (case side1 => exact TC HR0_1.out)
   (case side2 => exact HC0_1.out)
   rintro e w25 ⟨rfl, hb⟩
   refine ⟨_, rfl, ?_⟩
   have n0_ := Aside0.mk (TKb hb BK131.out)
   have n1_ := Aside0.mk (below_step (TB1 GE131.out) hb)
   clear BK131
   clear HB
   have BK131 := n0_
   have HB := n1_
   clear n0_ n1_
   (try clear hb)
   (try clear hb2)
   (try clear hk)
   (try clear hi)
   refine hK.out _ _ ⟨cz BK131.out 0, cz BK131.out 1⟩ (fun hHeld => ?_)
   clear hK K
   refine norm_ (a' := ?_) ?_ ?_
   rotate_left
   ·show Act.put _ (some 12) _ = _
    simp only [Act.put, lA, lZ, lS, i64_w, i32_w]
    rfl
   refine pT 4 13 (bt 10 31) (k := ?_)
   refine pU 5 14 (bt 10 63) (k := ?_)
   refine pU 6 15 (bt 10 127) (k := ?_)
   refine pT 7 16 (bt 10 255) (k := ?_)
   refine one_ (i := 8) (N := some 17) (bt 10 511) rfl rfl (one_of HT_.out (by kernel_rfl)) (by decide) (fun K hK => ?_)
   refine goes_ Tryd.func58 (by kernel_rfl) rfl #[.agg #[.int .i64 a0_0, .slice A0_1 l0_1.length c0_1], .bool false] (by rfl) rfl rfl TM ?_
   with_reducible refine (saronref05_asked.calls k a0_0 _ _ l0_1 false t138 _ ?side1 ?side2 A20.out).mono ?_
   (case side1 => exact TC HR0_1.out)
   (case side2 => exact HC0_1.out)
   rintro e w26 ⟨rfl, hb⟩
   refine ⟨_, rfl, ?_⟩
   have n0_ := Aside0.mk (TKb hb BK131.out)
   have n1_ := Aside0.mk (below_step (TB1 GE131.out) hb)
   clear BK131
   clear HB
   have BK131 := n0_
   have HB := n1_
   clear n0_ n1_
   (try clear hb)
   (try clear hb2)
   (try clear hk)
   (try clear hi)
   refine hK.out _ _ ⟨cz BK131.out 0, cz BK131.out 1⟩ (fun hHeld => ?_)
   clear hK K
   refine norm_ (a' := ?_) ?_ ?_
   rotate_left
   ·show Act.put _ (some 17) _ = _
    simp only [Act.put, lA, lZ, lS, i64_w, i32_w]
    rfl
   refine pT 9 8 (bt 10 1023) (k := ?_)
   refine done_ (done_of HT_.out (by kernel_rfl)) ?_
   have hcz27_0 := cz BK131.out 0
   have hcz27_1 := cz BK131.out 1
   have hfz27_0 := fz BK131.out 0
   have hfz27_1 := fz BK131.out 1
   try go_wp2_with (first | ((with_reducible refine gate_callee (f := 60) rfl ?_); refine goesL_ (some 24) rfl rfl Tryd.func60 (by kernel_rfl) rfl #[.agg #[.int .i64 a0_0, .slice A0_1 l0_1.length c0_1], .int .i64 a1, .int .i64 a2] rfl TM ?_; (with_reducible refine (saronref05_struck.calls k a0_0 _ _ l0_1 a1 a2 t139 _ ?side1 ?side2 A22.out).mono ?_); (case side1 => exact TC HR0_1.out); (case side2 => exact HC0_1.out); rintro e w28 ⟨v140, rfl, ho0, hb⟩; refine ⟨_, rfl, ?_⟩; have HO141 := Aside0.mk (Kd.R_lower ho0 (below_size (TB1 GE131.out))); replace BK131 := Aside0.mk (TKb hb BK131.out); replace HB := Aside0.mk (below_step (TB1 GE131.out) hb); (try clear hb); (try clear hb2); (try clear hk); (try clear hi); (try clear ho0)))
   go_ret2
   exact ⟨_, TR, by (with_reducible repeat (first | apply Kd.R_alloc | apply Kd.R_drewN | apply Kd.R_drew)); exact HO141.out, TB1 GE131.out⟩
  ·rw [if_neg c21] at H
   have c21b0 : (t138 == 0) = false := beq_eq_false_iff_ne.mpr c21
   have c21b1 : (t138 != 0) = true := bne_iff_ne.mpr c21
   simp only [Option.some.injEq, Prod.mk.injEq] at H
   obtain ⟨rfl, rfl⟩ := H
   go_enter Tryd.func15, Tryd.ntmps15
   try go_wp2_with (first | ((with_reducible refine gate_dst (N := 3) rfl ?_); refine box_event ?hg (N := 3) ?hd (cs := #[.int .i64 a0_0, .slice A0_1 l0_1.length c0_1]) (t := 24) ?hr ?_; (case hd => rfl); (case hg => rfl); (case hr => exact TS); intro gb131 hg w29 hbox hb; have BK131 := Aside0.mk (hbox); have GW131 := Aside0.mk ((TG : w.heap.size ≤ gb131)); have GE131 := Aside0.mk ((TG : w.heap.size ≤ gb131)); replace HB := Aside0.mk (below_step TB hb); clear hb hbox hg))
   have n0_ := Aside0.mk (blk_drew BK131.out)
   have n1_ := Aside0.mk (below_drew1 HB.out)
   clear BK131
   clear HB
   have BK131 := n0_
   have HB := n1_
   clear n0_ n1_
   refine start_ (n := 10) (S := fun w' => w'.cell? ⟨gb131, 0, none⟩ = some (.int .i64 a0_0) ∧ w'.cell? ⟨gb131, 1, none⟩ = some (.slice A0_1 l0_1.length c0_1)) (ds := []) (.replicate 10 false) (by kernel_rfl) rfl rfl ⟨cz BK131.out 0, cz BK131.out 1⟩ (fun hHeld => ?_); refine with_tabW saronref05_Struck.tab1 saronref05_Struck.bits1 (fun HT_ HW_ => ?_)
   generalize w29.drew = w30 at BK131 HB hHeld ⊢
   refine pT 2 11 (bt 10 4) (k := ?_)
   refine tT2 0 9 (bt 10 5) hHeld (k := ?_)
   refine tT2 1 10 (bt 10 7) hHeld (k := ?_)
   refine one_ (i := 3) (N := some 12) (bt 10 15) rfl rfl (one_of HT_.out (by kernel_rfl)) (by decide) (fun K hK => ?_)
   refine goes_ Tryd.func59 (by kernel_rfl) rfl #[.agg #[.int .i64 a0_0, .slice A0_1 l0_1.length c0_1], .int .i64 a1] (by rfl) rfl rfl TM ?_
   with_reducible refine (saronref05_isForm.calls a0_0 _ _ l0_1 a1 false _ ?side1 ?side2 A4.out).mono ?_
   (case side1 => exact TC HR0_1.out)
   (case side2 => exact HC0_1.out)
   rintro e w31 ⟨rfl, hb⟩
   refine ⟨_, rfl, ?_⟩
   have n0_ := Aside0.mk (TKb hb BK131.out)
   have n1_ := Aside0.mk (below_step (TB1 GE131.out) hb)
   clear BK131
   clear HB
   have BK131 := n0_
   have HB := n1_
   clear n0_ n1_
   (try clear hb)
   (try clear hb2)
   (try clear hk)
   (try clear hi)
   refine hK.out _ _ ⟨cz BK131.out 0, cz BK131.out 1⟩ (fun hHeld => ?_)
   clear hK K
   refine norm_ (a' := ?_) ?_ ?_
   rotate_left
   ·show Act.put _ (some 12) _ = _
    simp only [Act.put, lA, lZ, lS, i64_w, i32_w]
    rfl
   refine pT 4 13 (bt 10 31) (k := ?_)
   refine pU 5 14 (bt 10 63) (k := ?_)
   refine pU 6 15 (bt 10 127) (k := ?_)
   refine pT 7 16 (bt 10 255) (k := ?_)
   refine one_ (i := 8) (N := some 17) (bt 10 511) rfl rfl (one_of HT_.out (by kernel_rfl)) (by decide) (fun K hK => ?_)
   refine goes_ Tryd.func58 (by kernel_rfl) rfl #[.agg #[.int .i64 a0_0, .slice A0_1 l0_1.length c0_1], .bool false] (by rfl) rfl rfl TM ?_
   with_reducible refine (saronref05_asked.calls k a0_0 _ _ l0_1 false t138 _ ?side1 ?side2 A20.out).mono ?_
   (case side1 => exact TC HR0_1.out)
   (case side2 => exact HC0_1.out)
   rintro e w32 ⟨rfl, hb⟩
   refine ⟨_, rfl, ?_⟩
   have n0_ := Aside0.mk (TKb hb BK131.out)
   have n1_ := Aside0.mk (below_step (TB1 GE131.out) hb)
   clear BK131
   clear HB
   have BK131 := n0_
   have HB := n1_
   clear n0_ n1_
   (try clear hb)
   (try clear hb2)
   (try clear hk)
   (try clear hi)
   refine hK.out _ _ ⟨cz BK131.out 0, cz BK131.out 1⟩ (fun hHeld => ?_)
   clear hK K
   refine norm_ (a' := ?_) ?_ ?_
   rotate_left
   ·show Act.put _ (some 17) _ = _
    simp only [Act.put, lA, lZ, lS, i64_w, i32_w]
    rfl
   refine pT 9 8 (bt 10 1023) (k := ?_)
   refine done_ (done_of HT_.out (by kernel_rfl)) ?_
   try go_wp2
   go_ret2
   exact ⟨_, TR, by first | exact Kd.R_nil _ _ _ _ _ | exact Kd.N_nil _ _ _ _ _ | exact Kd.V_nil _ _ _ _ _ | exact Kd.Q_nil _ _ _ _ _ | exact Kd.S_nil _ _ _ _ _, TB1 GE131.out⟩
end Go.Proofs.YtephecfapclgfaaDoor.PRaspKeys
namespace Go.Proofs.YtephecfapclgfaaDoor.PRaspKeys
open Go.RowKit Go.Proofs.YtephecfapclgfaaDoorW.PrintWords Go.Proofs.YtephecfapclgfaaDoorW.PrintLast Go.Proofs.YtephecfapclgfaaDoorW.PrintMore Go.Proofs.YtephecfapclgfaaDoor.M
attribute [local go_sem] max2_int min2_int max_two min_two max_three min_three max_four min_four   -- for this text's walks alone
/-! ### saronref05_Next: function 20 -/
mutual
def saronref05_Next.j0 : Nat → Int → Int → Int → Int → Int → List (S63) → Option (Int × Int)
 | 0, _, _, _, _, _, _ => none
 | k + 1, x1, x2, x3, x10, x145000, x145001 => if x10 = 0 then (saronref05_Next.l0 k x1 x2 x3 0 x145000 x145001) else (some (0, x10))
def saronref05_Next.l0 : Nat → Int → Int → Int → Int → Int → List (S63) → Option (Int × Int)
 | 0, _, _, _, _, _, _ => none
 | k + 1, x1, x2, x3, x11, x145000, x145001 => if 0 ≤ x1 then (if x1 < (x145001.length : Int) then (if x11 < ((rd_T63 x145001 x1).f0) then ((saronref05_struck.f k x145000 x145001 x1 (wrap64 (x3 + x11))).bind fun t152 => ((saronref00_Where.f k t152 x2).bind fun t155 => (if t155 ≥ 0 then (some (wrap64 (x3 + x11), 0)) else (saronref05_Next.l0 k x1 x2 x3 (wrap64 (x11 + 1)) x145000 x145001)))) else (some (0, 4))) else (none)) else (none)
end
def saronref05_Next.f (k : Nat) (a0_0 : Int) (l0_1 : List (S63)) (a1 : Int) (a2 : Int) (a3 : Int) : Option (Int × Int) := (saronref05_isForm.f a0_0 l0_1 a1).bind fun t145 => (if t145 = true then ((saronref05_isGong.f a0_0 l0_1 a2).bind fun t146 => (if t146 = true then ((saronref00_Sits.f a3 0 100000).bind fun t147 => ((saronref05_asked.f k a0_0 l0_1 t147).bind fun t148 => (saronref05_Next.j0 k a1 a2 a3 t148 a0_0 l0_1))) else ((saronref05_asked.f k a0_0 l0_1 false).bind fun t149 => (saronref05_Next.j0 k a1 a2 a3 t149 a0_0 l0_1)))) else ((saronref05_asked.f k a0_0 l0_1 false).bind fun t150 => (saronref05_Next.j0 k a1 a2 a3 t150 a0_0 l0_1)))
theorem saronref05_Next.mono_l : ∀ k, (∀ y0 y1 y2 y3 y4 y5, LeO (saronref05_Next.j0 k y0 y1 y2 y3 y4 y5) (saronref05_Next.j0 (k + 1) y0 y1 y2 y3 y4 y5)) ∧ (∀ y0 y1 y2 y3 y4 y5, LeO (saronref05_Next.l0 k y0 y1 y2 y3 y4 y5) (saronref05_Next.l0 (k + 1) y0 y1 y2 y3 y4 y5))
 | 0 => ⟨fun _ _ _ _ _ _ r h => by simp [saronref05_Next.j0] at h, fun _ _ _ _ _ _ r h => by simp [saronref05_Next.l0] at h⟩
 | k + 1 => by
  obtain ⟨ih0, ih1⟩ := saronref05_Next.mono_l k
  refine ⟨?_, ?_⟩
  ·intro y0 y1 y2 y3 y4 y5
   unfold saronref05_Next.j0
   repeat' first
   | (with_reducible exact ih0 _ _ _ _ _ _)
   | (with_reducible exact ih1 _ _ _ _ _ _)
   | (with_reducible exact saronref00_Where.mono _ _ _)
   | (with_reducible exact saronref05_asked.mono _ _ _ _)
   | (with_reducible exact saronref05_struck.mono _ _ _ _ _)
   | (with_reducible exact LeO.refl _)
   | (with_reducible exact LeO.none _)
   | (with_reducible refine LeO.ite ?_ ?_)
   | (with_reducible refine LeO.bind ?_ (fun _ => ?_))
   | exact ih0 _ _ _ _ _ _
   | exact ih1 _ _ _ _ _ _
   | exact saronref00_Where.mono _ _ _
   | exact saronref05_asked.mono _ _ _ _
   | exact saronref05_struck.mono _ _ _ _ _
   | exact LeO.none _
   | refine LeO.ite ?_ ?_
   | refine LeO.bind ?_ (fun _ => ?_)
  ·intro y0 y1 y2 y3 y4 y5
   unfold saronref05_Next.l0
   repeat' first
   | (with_reducible exact ih0 _ _ _ _ _ _)
   | (with_reducible exact ih1 _ _ _ _ _ _)
   | (with_reducible exact saronref00_Where.mono _ _ _)
   | (with_reducible exact saronref05_asked.mono _ _ _ _)
   | (with_reducible exact saronref05_struck.mono _ _ _ _ _)
   | (with_reducible exact LeO.refl _)
   | (with_reducible exact LeO.none _)
   | (with_reducible refine LeO.ite ?_ ?_)
   | (with_reducible refine LeO.bind ?_ (fun _ => ?_))
   | exact ih0 _ _ _ _ _ _
   | exact ih1 _ _ _ _ _ _
   | exact saronref00_Where.mono _ _ _
   | exact saronref05_asked.mono _ _ _ _
   | exact saronref05_struck.mono _ _ _ _ _
   | exact LeO.none _
   | refine LeO.ite ?_ ?_
   | refine LeO.bind ?_ (fun _ => ?_)
theorem saronref05_Next.mono : ∀ a0 a1 a2 a3 a4 k, LeO (saronref05_Next.f k a0 a1 a2 a3 a4) (saronref05_Next.f (k + 1) a0 a1 a2 a3 a4) := by
 intro a0 a1 a2 a3 a4 k
 obtain ⟨ih0, ih1⟩ := saronref05_Next.mono_l k
 unfold saronref05_Next.f
 repeat' first
   | (with_reducible exact ih0 _ _ _ _ _ _)
   | (with_reducible exact ih1 _ _ _ _ _ _)
   | (with_reducible exact saronref00_Where.mono _ _ _)
   | (with_reducible exact saronref05_asked.mono _ _ _ _)
   | (with_reducible exact saronref05_struck.mono _ _ _ _ _)
   | (with_reducible exact LeO.refl _)
   | (with_reducible exact LeO.none _)
   | (with_reducible refine LeO.ite ?_ ?_)
   | (with_reducible refine LeO.bind ?_ (fun _ => ?_))
   | exact ih0 _ _ _ _ _ _
   | exact ih1 _ _ _ _ _ _
   | exact saronref00_Where.mono _ _ _
   | exact saronref05_asked.mono _ _ _ _
   | exact saronref05_struck.mono _ _ _ _ _
   | exact LeO.none _
   | refine LeO.ite ?_ ?_
   | refine LeO.bind ?_ (fun _ => ?_)
def saronref05_Next.T1 : Bool × List (List Nat × List Nat) := (true, [([], []), ([], []), ([], []), ([1, 2], [1, 2]), ([3, 3], [3]), ([4], [4]), ([4], [4]), ([5, 6, 4, 4], [4, 5, 6]), ([4, 7], [4, 7]), ([8, 7], [8]), ([9], [9]), ([10, 9, 9], [9, 10]), ([9, 11], [9, 11]), ([0, 12, 11], [0, 12]), ([13, 13, 0, 1, 2, 3, 4, 5, 6, 7, 8, 9, 10, 11, 12, 13], [13])])
def saronref05_Next.B1 : List Nat := [0, 0, 0, 6, 14, 30, 30, 126, 254, 510, 1022, 2046, 4094, 8191, 16383]
theorem saronref05_Next.tab1 : rtab .any (opsOf Tryd.f20 1) = saronref05_Next.T1 := by kernel_rfl
theorem saronref05_Next.bits1 : waitsOk saronref05_Next.T1.2 saronref05_Next.B1 = true := by kernel_rfl
set_option maxHeartbeats 8000000 in
set_option maxRecDepth 100000 in
theorem saronref05_Next.calls (k : Nat) (a0_0 : Int) (A0_1 : Option Addr) (c0_1 : Nat) (l0_1 : List (S63)) (a1 : Int) (a2 : Int) (a3 : Int) (r1 : Int) (r2 : Int) (w : World) (hr0_1 : Kd.C k63 w A0_1 l0_1.length l0_1) (hc0_1 : l0_1.length ≤ c0_1) (h : saronref05_Next.f k a0_0 l0_1 a1 a2 a3 = some (r1, r2)) :
  Calls Tryd.prog 20 #[.agg #[.int .i64 a0_0, .slice A0_1 l0_1.length c0_1], .int .i64 a1, .int .i64 a2, .int .i64 a3] w fun e w' => e = .returned (.tuple #[.int .i64 r1, .int .i64 r2]) ∧ Below w.heap.size w w' := by
 have hu24 := Tryd.underlying24
 have HR0_1 := Aside0.mk hr0_1
 have HC0_1 := Aside0.mk hc0_1
 clear hr0_1 hc0_1
 have HB := Aside0.mk (Below.refl w.heap.size w)
 have H : ((saronref05_isForm.f a0_0 l0_1 a1).bind fun t145 => (if t145 = true then ((saronref05_isGong.f a0_0 l0_1 a2).bind fun t146 => (if t146 = true then ((saronref00_Sits.f a3 0 100000).bind fun t147 => ((saronref05_asked.f k a0_0 l0_1 t147).bind fun t148 => (saronref05_Next.j0 k a1 a2 a3 t148 a0_0 l0_1))) else ((saronref05_asked.f k a0_0 l0_1 false).bind fun t149 => (saronref05_Next.j0 k a1 a2 a3 t149 a0_0 l0_1)))) else ((saronref05_asked.f k a0_0 l0_1 false).bind fun t150 => (saronref05_Next.j0 k a1 a2 a3 t150 a0_0 l0_1)))) = some (r1, r2) := h
 clear h
 have HC5 := Aside0.mk H
 clear H
 go_enter Tryd.func20, Tryd.ntmps20
 go_upto_region 1 with (first | ((with_reducible refine gate_dst (N := 4) rfl ?_); refine box_event ?hg (N := 4) ?hd (cs := #[.int .i64 a0_0, .slice A0_1 l0_1.length c0_1]) (t := 24) ?hr ?_; (case hd => rfl); (case hg => rfl); (case hr => exact TS); intro gb144 hg w6 hbox hb; have BK144 := Aside0.mk (hbox); have GW144 := Aside0.mk ((TG : w.heap.size ≤ gb144)); have GE144 := Aside0.mk ((TG : w.heap.size ≤ gb144)); replace HB := Aside0.mk (below_step TB hb); clear hb hbox hg))
 (try simp only [Act.put, lA, lZ, lS])
 go_cut [10] (fun v10 wc => ∃ (kq : Nat) (x10_4 : Int), v10 = .int .i64 x10_4 ∧ Aside0 (saronref05_Next.j0 kq a1 a2 a3 x10_4 a0_0 l0_1 = some (r1, r2)) ∧ Aside0 (kq ≤ k) ∧ Aside0 (wc.heap[gb144]? = some (.cells #[.int .i64 a0_0, (.slice A0_1 l0_1.length c0_1)] 24 (0, 0))) ∧ Aside0 (Below w.heap.size w wc))
 case first => as_aux_lemma =>
  have H := HC5.out
  clear HC5
  replace H := Option.bind_eq_some_iff.mp H
  obtain ⟨t145, A70, H⟩ := H
  replace H : (if t145 = true then ((saronref05_isGong.f a0_0 l0_1 a2).bind fun t146 => (if t146 = true then ((saronref00_Sits.f a3 0 100000).bind fun t147 => ((saronref05_asked.f k a0_0 l0_1 t147).bind fun t148 => (saronref05_Next.j0 k a1 a2 a3 t148 a0_0 l0_1))) else ((saronref05_asked.f k a0_0 l0_1 false).bind fun t149 => (saronref05_Next.j0 k a1 a2 a3 t149 a0_0 l0_1)))) else ((saronref05_asked.f k a0_0 l0_1 false).bind fun t150 => (saronref05_Next.j0 k a1 a2 a3 t150 a0_0 l0_1))) = some (r1, r2) := H
  have A7 := Aside0.mk A70
  clear A70
  by_cases c8 : t145 = true
  ·subst c8
   have H1 : ((saronref05_isGong.f a0_0 l0_1 a2).bind fun t146 => (if t146 = true then ((saronref00_Sits.f a3 0 100000).bind fun t147 => ((saronref05_asked.f k a0_0 l0_1 t147).bind fun t148 => (saronref05_Next.j0 k a1 a2 a3 t148 a0_0 l0_1))) else ((saronref05_asked.f k a0_0 l0_1 false).bind fun t149 => (saronref05_Next.j0 k a1 a2 a3 t149 a0_0 l0_1)))) = some (r1, r2) := by rw [if_pos rfl] at H; exact H
   clear H
   have H := H1
   clear H1
   replace H := Option.bind_eq_some_iff.mp H
   obtain ⟨t146, A90, H⟩ := H
   replace H : (if t146 = true then ((saronref00_Sits.f a3 0 100000).bind fun t147 => ((saronref05_asked.f k a0_0 l0_1 t147).bind fun t148 => (saronref05_Next.j0 k a1 a2 a3 t148 a0_0 l0_1))) else ((saronref05_asked.f k a0_0 l0_1 false).bind fun t149 => (saronref05_Next.j0 k a1 a2 a3 t149 a0_0 l0_1))) = some (r1, r2) := H
   have A9 := Aside0.mk A90
   clear A90
   by_cases c10 : t146 = true
   ·subst c10
    have H1 : ((saronref00_Sits.f a3 0 100000).bind fun t147 => ((saronref05_asked.f k a0_0 l0_1 t147).bind fun t148 => (saronref05_Next.j0 k a1 a2 a3 t148 a0_0 l0_1))) = some (r1, r2) := by rw [if_pos rfl] at H; exact H
    clear H
    have H := H1
    clear H1
    replace H := Option.bind_eq_some_iff.mp H
    obtain ⟨t147, A110, H⟩ := H
    replace H : ((saronref05_asked.f k a0_0 l0_1 t147).bind fun t148 => (saronref05_Next.j0 k a1 a2 a3 t148 a0_0 l0_1)) = some (r1, r2) := H
    have A11 := Aside0.mk A110
    clear A110
    replace H := Option.bind_eq_some_iff.mp H
    obtain ⟨t148, A120, H⟩ := H
    replace H : (saronref05_Next.j0 k a1 a2 a3 t148 a0_0 l0_1) = some (r1, r2) := H
    have A12 := Aside0.mk A120
    clear A120
    have H' := Aside0.mk H
    clear H
    try go_wp2
    have n0_ := Aside0.mk (blk_drew BK144.out)
    have n1_ := Aside0.mk (below_drew1 HB.out)
    clear BK144
    clear HB
    have BK144 := n0_
    have HB := n1_
    clear n0_ n1_
    refine start_ (n := 15) (S := fun w' => w'.cell? ⟨gb144, 0, none⟩ = some (.int .i64 a0_0) ∧ w'.cell? ⟨gb144, 1, none⟩ = some (.slice A0_1 l0_1.length c0_1)) (ds := []) (.replicate 15 false) (by kernel_rfl) rfl rfl ⟨cz BK144.out 0, cz BK144.out 1⟩ (fun hHeld => ?_); refine with_tabW saronref05_Next.tab1 saronref05_Next.bits1 (fun HT_ HW_ => ?_)
    generalize w6.drew = w13 at BK144 HB hHeld ⊢
    refine pT 2 14 (bt 15 4) (k := ?_)
    refine tT2 0 12 (bt 15 5) hHeld (k := ?_)
    refine tT2 1 13 (bt 15 7) hHeld (k := ?_)
    refine one_ (i := 3) (N := some 15) (bt 15 15) rfl rfl (one_of HT_.out (by kernel_rfl)) (by decide) (fun K hK => ?_)
    refine goes_ Tryd.func59 (by kernel_rfl) rfl #[.agg #[.int .i64 a0_0, .slice A0_1 l0_1.length c0_1], .int .i64 a1] (by rfl) rfl rfl TM ?_
    with_reducible refine (saronref05_isForm.calls a0_0 _ _ l0_1 a1 true _ ?side1 ?side2 A7.out).mono ?_
    (case side1 => exact TC HR0_1.out)
    (case side2 => exact HC0_1.out)
    rintro e w14 ⟨rfl, hb⟩
    refine ⟨_, rfl, ?_⟩
    have n0_ := Aside0.mk (TKb hb BK144.out)
    have n1_ := Aside0.mk (below_step (TB1 GE144.out) hb)
    clear BK144
    clear HB
    have BK144 := n0_
    have HB := n1_
    clear n0_ n1_
    (try clear hb)
    (try clear hb2)
    (try clear hk)
    (try clear hi)
    refine hK.out _ _ ⟨cz BK144.out 0, cz BK144.out 1⟩ (fun hHeld => ?_)
    clear hK K
    refine norm_ (a' := ?_) ?_ ?_
    rotate_left
    ·show Act.put _ (some 15) _ = _
     simp only [Act.put, lA, lZ, lS, i64_w, i32_w]
     rfl
    refine pT 4 16 (bt 15 31) (k := ?_)
    refine pT 6 18 (bt 15 95) (k := ?_)
    refine tT2 5 17 (bt 15 127) hHeld (k := ?_)
    refine one_ (i := 7) (N := some 19) (bt 15 255) rfl rfl (one_of HT_.out (by kernel_rfl)) (by decide) (fun K hK => ?_)
    refine goes_ Tryd.func67 (by kernel_rfl) rfl #[.agg #[.int .i64 a0_0, .slice A0_1 l0_1.length c0_1], .int .i64 a2] (by rfl) rfl rfl TM ?_
    with_reducible refine (saronref05_isGong.calls a0_0 _ _ l0_1 a2 true _ ?side1 ?side2 A9.out).mono ?_
    (case side1 => exact TC HR0_1.out)
    (case side2 => exact HC0_1.out)
    rintro e w15 ⟨rfl, hb⟩
    refine ⟨_, rfl, ?_⟩
    have n0_ := Aside0.mk (TKb hb BK144.out)
    have n1_ := Aside0.mk (below_step (TB1 GE144.out) hb)
    clear BK144
    clear HB
    have BK144 := n0_
    have HB := n1_
    clear n0_ n1_
    (try clear hb)
    (try clear hb2)
    (try clear hk)
    (try clear hi)
    refine hK.out _ _ ⟨cz BK144.out 0, cz BK144.out 1⟩ (fun hHeld => ?_)
    clear hK K
    refine norm_ (a' := ?_) ?_ ?_
    rotate_left
    ·show Act.put _ (some 19) _ = _
     simp only [Act.put, lA, lZ, lS, i64_w, i32_w]
     rfl
    refine pT 8 20 (bt 15 511) (k := ?_)
    refine pT 9 21 (bt 15 1023) (k := ?_)
    refine pT 10 22 (bt 15 2047) (k := ?_)
    refine one_ (i := 11) (N := some 23) (bt 15 4095) rfl rfl (one_of HT_.out (by kernel_rfl)) (by decide) (fun K hK => ?_)
    refine goes_ Tryd.func43 (by kernel_rfl) rfl #[.int .i64 a3, .int .i64 0, .int .i64 100000] (by rfl) rfl rfl TM ?_
    with_reducible refine (saronref00_Sits.calls a3 0 100000 t147 _ A11.out).mono ?_
    rintro e w' ⟨rfl, ⟨nd, rfl⟩⟩
    refine ⟨_, rfl, ?_⟩
    refine hK.out _ _ ⟨cz BK144.out 0, cz BK144.out 1⟩ (fun hHeld => ?_)
    clear hK K
    refine norm_ (a' := ?_) ?_ ?_
    rotate_left
    ·show Act.put _ (some 23) _ = _
     simp only [Act.put, lA, lZ, lS, i64_w, i32_w]
     rfl
    refine pT 12 24 (bt 15 8191) (k := ?_)
    refine one_ (i := 13) (N := some 25) (bt 15 16383) rfl rfl (one_of HT_.out (by kernel_rfl)) (by decide) (fun K hK => ?_)
    refine goes_ Tryd.func58 (by kernel_rfl) rfl #[.agg #[.int .i64 a0_0, .slice A0_1 l0_1.length c0_1], .bool t147] (by rfl) rfl rfl TM ?_
    with_reducible refine (saronref05_asked.calls k a0_0 _ _ l0_1 t147 t148 _ ?side1 ?side2 A12.out).mono ?_
    (case side1 => exact TD HR0_1.out (TB1 GE144.out))
    (case side2 => exact HC0_1.out)
    rintro e w16 ⟨rfl, hb⟩
    refine ⟨_, rfl, ?_⟩
    have n0_ := Aside0.mk (TKb hb BK144.out)
    have n1_ := Aside0.mk (below_step (TB1 GE144.out) hb)
    clear BK144
    clear HB
    have BK144 := n0_
    have HB := n1_
    clear n0_ n1_
    (try clear hb)
    (try clear hb2)
    (try clear hk)
    (try clear hi)
    refine hK.out _ _ ⟨cz BK144.out 0, cz BK144.out 1⟩ (fun hHeld => ?_)
    clear hK K
    refine norm_ (a' := ?_) ?_ ?_
    rotate_left
    ·show Act.put _ (some 25) _ = _
     simp only [Act.put, lA, lZ, lS, i64_w, i32_w]
     rfl
    refine pT 14 10 (bt 15 32767) (k := ?_)
    refine done_ (done_of HT_.out (by kernel_rfl)) ?_
    try go_wp2
    go_meet
    case rel => exact ⟨_, (t148), TT, H', ⟨by first | omega | exact Nat.le_refl _⟩, ⟨TK BK144.out⟩, ⟨TB1 GE144.out⟩⟩
   ·replace c10 := Bool.eq_false_iff.mpr c10
    subst c10
    have H1 : ((saronref05_asked.f k a0_0 l0_1 false).bind fun t149 => (saronref05_Next.j0 k a1 a2 a3 t149 a0_0 l0_1)) = some (r1, r2) := by rw [if_neg (show ¬ (false = true) by decide)] at H; exact H
    clear H
    have H := H1
    clear H1
    replace H := Option.bind_eq_some_iff.mp H
    obtain ⟨t149, A170, H⟩ := H
    replace H : (saronref05_Next.j0 k a1 a2 a3 t149 a0_0 l0_1) = some (r1, r2) := H
    have A17 := Aside0.mk A170
    clear A170
    have H' := Aside0.mk H
    clear H
    try go_wp2
    have n0_ := Aside0.mk (blk_drew BK144.out)
    have n1_ := Aside0.mk (below_drew1 HB.out)
    clear BK144
    clear HB
    have BK144 := n0_
    have HB := n1_
    clear n0_ n1_
    refine start_ (n := 15) (S := fun w' => w'.cell? ⟨gb144, 0, none⟩ = some (.int .i64 a0_0) ∧ w'.cell? ⟨gb144, 1, none⟩ = some (.slice A0_1 l0_1.length c0_1)) (ds := []) (.replicate 15 false) (by kernel_rfl) rfl rfl ⟨cz BK144.out 0, cz BK144.out 1⟩ (fun hHeld => ?_); refine with_tabW saronref05_Next.tab1 saronref05_Next.bits1 (fun HT_ HW_ => ?_)
    generalize w6.drew = w18 at BK144 HB hHeld ⊢
    refine pT 2 14 (bt 15 4) (k := ?_)
    refine tT2 0 12 (bt 15 5) hHeld (k := ?_)
    refine tT2 1 13 (bt 15 7) hHeld (k := ?_)
    refine one_ (i := 3) (N := some 15) (bt 15 15) rfl rfl (one_of HT_.out (by kernel_rfl)) (by decide) (fun K hK => ?_)
    refine goes_ Tryd.func59 (by kernel_rfl) rfl #[.agg #[.int .i64 a0_0, .slice A0_1 l0_1.length c0_1], .int .i64 a1] (by rfl) rfl rfl TM ?_
    with_reducible refine (saronref05_isForm.calls a0_0 _ _ l0_1 a1 true _ ?side1 ?side2 A7.out).mono ?_
    (case side1 => exact TC HR0_1.out)
    (case side2 => exact HC0_1.out)
    rintro e w19 ⟨rfl, hb⟩
    refine ⟨_, rfl, ?_⟩
    have n0_ := Aside0.mk (TKb hb BK144.out)
    have n1_ := Aside0.mk (below_step (TB1 GE144.out) hb)
    clear BK144
    clear HB
    have BK144 := n0_
    have HB := n1_
    clear n0_ n1_
    (try clear hb)
    (try clear hb2)
    (try clear hk)
    (try clear hi)
    refine hK.out _ _ ⟨cz BK144.out 0, cz BK144.out 1⟩ (fun hHeld => ?_)
    clear hK K
    refine norm_ (a' := ?_) ?_ ?_
    rotate_left
    ·show Act.put _ (some 15) _ = _
     simp only [Act.put, lA, lZ, lS, i64_w, i32_w]
     rfl
    refine pT 4 16 (bt 15 31) (k := ?_)
    refine pT 6 18 (bt 15 95) (k := ?_)
    refine tT2 5 17 (bt 15 127) hHeld (k := ?_)
    refine one_ (i := 7) (N := some 19) (bt 15 255) rfl rfl (one_of HT_.out (by kernel_rfl)) (by decide) (fun K hK => ?_)
    refine goes_ Tryd.func67 (by kernel_rfl) rfl #[.agg #[.int .i64 a0_0, .slice A0_1 l0_1.length c0_1], .int .i64 a2] (by rfl) rfl rfl TM ?_
    with_reducible refine (saronref05_isGong.calls a0_0 _ _ l0_1 a2 false _ ?side1 ?side2 A9.out).mono ?_
    (case side1 => exact TC HR0_1.out)
    (case side2 => exact HC0_1.out)
    rintro e w20 ⟨rfl, hb⟩
    refine ⟨_, rfl, ?_⟩
    have n0_ := Aside0.mk (TKb hb BK144.out)
    have n1_ := Aside0.mk (below_step (TB1 GE144.out) hb)
    clear BK144
    clear HB
    have BK144 := n0_
    have HB := n1_
    clear n0_ n1_
    (try clear hb)
    (try clear hb2)
    (try clear hk)
    (try clear hi)
    refine hK.out _ _ ⟨cz BK144.out 0, cz BK144.out 1⟩ (fun hHeld => ?_)
    clear hK K
    refine norm_ (a' := ?_) ?_ ?_
    rotate_left
    ·show Act.put _ (some 19) _ = _
     simp only [Act.put, lA, lZ, lS, i64_w, i32_w]
     rfl
    refine pT 8 20 (bt 15 511) (k := ?_)
    refine pT 9 21 (bt 15 1023) (k := ?_)
    refine pU 10 22 (bt 15 2047) (k := ?_)
    refine pU 11 23 (bt 15 4095) (k := ?_)
    refine pT 12 24 (bt 15 8191) (k := ?_)
    refine one_ (i := 13) (N := some 25) (bt 15 16383) rfl rfl (one_of HT_.out (by kernel_rfl)) (by decide) (fun K hK => ?_)
    refine goes_ Tryd.func58 (by kernel_rfl) rfl #[.agg #[.int .i64 a0_0, .slice A0_1 l0_1.length c0_1], .bool false] (by rfl) rfl rfl TM ?_
    with_reducible refine (saronref05_asked.calls k a0_0 _ _ l0_1 false t149 _ ?side1 ?side2 A17.out).mono ?_
    (case side1 => exact TC HR0_1.out)
    (case side2 => exact HC0_1.out)
    rintro e w21 ⟨rfl, hb⟩
    refine ⟨_, rfl, ?_⟩
    have n0_ := Aside0.mk (TKb hb BK144.out)
    have n1_ := Aside0.mk (below_step (TB1 GE144.out) hb)
    clear BK144
    clear HB
    have BK144 := n0_
    have HB := n1_
    clear n0_ n1_
    (try clear hb)
    (try clear hb2)
    (try clear hk)
    (try clear hi)
    refine hK.out _ _ ⟨cz BK144.out 0, cz BK144.out 1⟩ (fun hHeld => ?_)
    clear hK K
    refine norm_ (a' := ?_) ?_ ?_
    rotate_left
    ·show Act.put _ (some 25) _ = _
     simp only [Act.put, lA, lZ, lS, i64_w, i32_w]
     rfl
    refine pT 14 10 (bt 15 32767) (k := ?_)
    refine done_ (done_of HT_.out (by kernel_rfl)) ?_
    try go_wp2
    go_meet
    case rel => exact ⟨_, (t149), TT, H', ⟨by first | omega | exact Nat.le_refl _⟩, ⟨TK BK144.out⟩, ⟨TB1 GE144.out⟩⟩
  ·replace c8 := Bool.eq_false_iff.mpr c8
   subst c8
   have H1 : ((saronref05_asked.f k a0_0 l0_1 false).bind fun t150 => (saronref05_Next.j0 k a1 a2 a3 t150 a0_0 l0_1)) = some (r1, r2) := by rw [if_neg (show ¬ (false = true) by decide)] at H; exact H
   clear H
   have H := H1
   clear H1
   replace H := Option.bind_eq_some_iff.mp H
   obtain ⟨t150, A220, H⟩ := H
   replace H : (saronref05_Next.j0 k a1 a2 a3 t150 a0_0 l0_1) = some (r1, r2) := H
   have A22 := Aside0.mk A220
   clear A220
   have H' := Aside0.mk H
   clear H
   try go_wp2
   have n0_ := Aside0.mk (blk_drew BK144.out)
   have n1_ := Aside0.mk (below_drew1 HB.out)
   clear BK144
   clear HB
   have BK144 := n0_
   have HB := n1_
   clear n0_ n1_
   refine start_ (n := 15) (S := fun w' => w'.cell? ⟨gb144, 0, none⟩ = some (.int .i64 a0_0) ∧ w'.cell? ⟨gb144, 1, none⟩ = some (.slice A0_1 l0_1.length c0_1)) (ds := []) (.replicate 15 false) (by kernel_rfl) rfl rfl ⟨cz BK144.out 0, cz BK144.out 1⟩ (fun hHeld => ?_); refine with_tabW saronref05_Next.tab1 saronref05_Next.bits1 (fun HT_ HW_ => ?_)
   generalize w6.drew = w23 at BK144 HB hHeld ⊢
   refine pT 2 14 (bt 15 4) (k := ?_)
   refine tT2 0 12 (bt 15 5) hHeld (k := ?_)
   refine tT2 1 13 (bt 15 7) hHeld (k := ?_)
   refine one_ (i := 3) (N := some 15) (bt 15 15) rfl rfl (one_of HT_.out (by kernel_rfl)) (by decide) (fun K hK => ?_)
   refine goes_ Tryd.func59 (by kernel_rfl) rfl #[.agg #[.int .i64 a0_0, .slice A0_1 l0_1.length c0_1], .int .i64 a1] (by rfl) rfl rfl TM ?_
   with_reducible refine (saronref05_isForm.calls a0_0 _ _ l0_1 a1 false _ ?side1 ?side2 A7.out).mono ?_
   (case side1 => exact TC HR0_1.out)
   (case side2 => exact HC0_1.out)
   rintro e w24 ⟨rfl, hb⟩
   refine ⟨_, rfl, ?_⟩
   have n0_ := Aside0.mk (TKb hb BK144.out)
   have n1_ := Aside0.mk (below_step (TB1 GE144.out) hb)
   clear BK144
   clear HB
   have BK144 := n0_
   have HB := n1_
   clear n0_ n1_
   (try clear hb)
   (try clear hb2)
   (try clear hk)
   (try clear hi)
   refine hK.out _ _ ⟨cz BK144.out 0, cz BK144.out 1⟩ (fun hHeld => ?_)
   clear hK K
   refine norm_ (a' := ?_) ?_ ?_
   rotate_left
   ·show Act.put _ (some 15) _ = _
    simp only [Act.put, lA, lZ, lS, i64_w, i32_w]
    rfl
   refine pT 4 16 (bt 15 31) (k := ?_)
   refine pU 5 17 (bt 15 63) (k := ?_)
   refine pU 6 18 (bt 15 127) (k := ?_)
   refine pU 7 19 (bt 15 255) (k := ?_)
   refine pT 8 20 (bt 15 511) (k := ?_)
   refine pT 9 21 (bt 15 1023) (k := ?_)
   refine pU 10 22 (bt 15 2047) (k := ?_)
   refine pU 11 23 (bt 15 4095) (k := ?_)
   refine pT 12 24 (bt 15 8191) (k := ?_)
   refine one_ (i := 13) (N := some 25) (bt 15 16383) rfl rfl (one_of HT_.out (by kernel_rfl)) (by decide) (fun K hK => ?_)
   refine goes_ Tryd.func58 (by kernel_rfl) rfl #[.agg #[.int .i64 a0_0, .slice A0_1 l0_1.length c0_1], .bool false] (by rfl) rfl rfl TM ?_
   with_reducible refine (saronref05_asked.calls k a0_0 _ _ l0_1 false t150 _ ?side1 ?side2 A22.out).mono ?_
   (case side1 => exact TC HR0_1.out)
   (case side2 => exact HC0_1.out)
   rintro e w25 ⟨rfl, hb⟩
   refine ⟨_, rfl, ?_⟩
   have n0_ := Aside0.mk (TKb hb BK144.out)
   have n1_ := Aside0.mk (below_step (TB1 GE144.out) hb)
   clear BK144
   clear HB
   have BK144 := n0_
   have HB := n1_
   clear n0_ n1_
   (try clear hb)
   (try clear hb2)
   (try clear hk)
   (try clear hi)
   refine hK.out _ _ ⟨cz BK144.out 0, cz BK144.out 1⟩ (fun hHeld => ?_)
   clear hK K
   refine norm_ (a' := ?_) ?_ ?_
   rotate_left
   ·show Act.put _ (some 25) _ = _
    simp only [Act.put, lA, lZ, lS, i64_w, i32_w]
    rfl
   refine pT 14 10 (bt 15 32767) (k := ?_)
   refine done_ (done_of HT_.out (by kernel_rfl)) ?_
   try go_wp2
   go_meet
   case rel => exact ⟨_, (t150), TT, H', ⟨by first | omega | exact Nat.le_refl _⟩, ⟨TK BK144.out⟩, ⟨TB1 GE144.out⟩⟩
 case rest => as_aux_lemma =>
  clear HC5
  try clear c1
  try clear c2
  try clear p2
  try clear c4
  try clear c5
  try clear c6
  try clear c8
  try clear c10
  try clear c20
  obtain ⟨kq, x10_4, rfl, HA, HJ4, BK144, HB⟩ := hcut
  cases kq with
  | zero => exact absurd HA.out (by simp [saronref05_Next.j0])
  | succ kj4 =>
   have H := HA.out
   clear HA
   simp only [saronref05_Next.j0] at H
   by_cases c26 : x10_4 = 0
   ·rw [if_pos c26] at H
    have c26b0 : (x10_4 == 0) = true := beq_iff_eq.mpr c26
    have c26b1 : (x10_4 != 0) = false := bne_eq_false_iff_eq.mpr c26
    clear c26
    have H' := Aside0.mk H
    clear H
    go_wp2
    go_loopg [11] kj4 (fun kq v11 w' => ∃ (x11_2 : Int), v11 = .int .i64 x11_2 ∧ Aside0 (saronref05_Next.l0 kq a1 a2 a3 x11_2 a0_0 l0_1 = some (r1, r2)) ∧ Aside0 (kq ≤ kj4) ∧ Aside0 (w'.heap[gb144]? = some (.cells #[.int .i64 a0_0, (.slice A0_1 l0_1.length c0_1)] 24 (0, 0))) ∧ Aside0 (Below w.heap.size w w'))
    case atStart => exact ⟨(0), TT, H', ⟨Nat.le_refl _⟩, ⟨TK BK144.out⟩, ⟨TB1 GE144.out⟩⟩
    case round => as_aux_lemma =>
     clear H'
     try clear c1
     try clear c2
     try clear p2
     try clear c4
     try clear c5
     try clear c6
     try clear c8
     try clear c10
     try clear c20
     try clear c26
     try clear c26b0
     try clear c26b1
     try clear p2
     obtain ⟨x11_2, rfl, HA, HK2, BK144, HB⟩ := hrel
     cases gk with
     | zero => exact absurd HA.out (by simp [saronref05_Next.l0])
     | succ k2 =>
      have H := HA.out
      clear HA
      simp only [saronref05_Next.l0] at H
      by_cases c27 : 0 ≤ a1
      ·rw [if_pos c27] at H
       have c27b0 : decide (0 ≤ a1) = true := decide_eq_true c27
       clear c27
       by_cases c28 : a1 < (l0_1.length : Int)
       ·rw [if_pos c28] at H
        have c28b0 : decide (a1 < (l0_1.length : Int)) = true := decide_eq_true c28
        clear c28
        by_cases c29 : x11_2 < ((rd_T63 l0_1 a1).f0)
        ·rw [if_pos c29] at H
         have c29b0 : decide (x11_2 < ((rd_T63 l0_1 a1).f0)) = true := decide_eq_true c29
         clear c29
         replace H := Option.bind_eq_some_iff.mp H
         obtain ⟨t152, A300, H⟩ := H
         replace H : ((saronref00_Where.f k2 t152 a2).bind fun t155 => (if t155 ≥ 0 then (some (wrap64 (a3 + x11_2), 0)) else (saronref05_Next.l0 k2 a1 a2 a3 (wrap64 (x11_2 + 1)) a0_0 l0_1))) = some (r1, r2) := H
         have A30 := Aside0.mk A300
         clear A300
         replace H := Option.bind_eq_some_iff.mp H
         obtain ⟨t155, A310, H⟩ := H
         replace H : (if t155 ≥ 0 then (some (wrap64 (a3 + x11_2), 0)) else (saronref05_Next.l0 k2 a1 a2 a3 (wrap64 (x11_2 + 1)) a0_0 l0_1)) = some (r1, r2) := H
         have A31 := Aside0.mk A310
         clear A310
         by_cases c32 : t155 ≥ 0
         ·rw [if_pos c32] at H
          have c32b0 : decide (0 ≤ t155) = true := decide_eq_true c32
          clear c32
          simp only [Option.some.injEq, Prod.mk.injEq] at H
          obtain ⟨rfl, rfl⟩ := H
          have hcz33_0 := cz BK144.out 0
          have hcz33_1 := cz BK144.out 1
          have hfz33_0 := fz BK144.out 0
          have hfz33_1 := fz BK144.out 1
          have p151 : 0 ≤ (a1 : Int) := of_decide_eq_true TA
          have q151 : a1 < (l0_1.length : Int) := of_decide_eq_true TA
          obtain ⟨ad151, A151_1, c151_1, e151, hx151_0, hx151_1, hl151_1, hi151_1⟩ := at_T63 HR0_1.out a1 p151 q151
          cases e151
          replace hx151_0 := hx HB.out hx151_0
          replace hx151_1 := hx HB.out hx151_1
          have HR151_1 := Aside0.mk hi151_1
          have HC151_1 := Aside0.mk hl151_1
          clear hi151_1 hl151_1
          replace p151 := eq_true p151
          replace q151 := eq_true q151
          go_wp2_with (first | ((with_reducible refine gate_callee (f := 60) rfl ?_); refine goesL_ (some 44) rfl rfl Tryd.func60 (by kernel_rfl) rfl #[.agg #[.int .i64 a0_0, .slice (some ad151) l0_1.length c0_1], .int .i64 a1, .int .i64 (wrap64 (a3 + x11_2))] rfl TM ?_; (with_reducible refine (saronref05_struck.calls k2 a0_0 _ _ l0_1 a1 (wrap64 (a3 + x11_2)) t152 _ ?side1 ?side2 A30.out).mono ?_); (case side1 => exact TC HR0_1.out); (case side2 => exact HC0_1.out); rintro e w34 ⟨v153, rfl, ho0, hb⟩; refine ⟨_, rfl, ?_⟩; have HO154 := Aside0.mk (Kd.R_lower ho0 (below_size (TB1 GE144.out))); replace BK144 := Aside0.mk (TKb hb BK144.out); replace HB := Aside0.mk (below_step (TB1 GE144.out) hb); (try clear hb); (try clear hb2); (try clear hk); (try clear hi); (try clear ho0); obtain ⟨Ao35, co35, eo35⟩ := Kd.R_slice HO154.out; subst eo35) | ((with_reducible refine gate_callee (f := 42) rfl ?_); refine goesL_ (some 46) rfl rfl Tryd.func42 (by kernel_rfl) rfl #[.slice Ao35 t152.length co35, .int .i64 a2] rfl TM ?_; (with_reducible refine (saronref00_Where.calls k2 _ _ t152 a2 t155 _ ?side1 ?side2 A31.out).mono ?_); (case side1 => repeat (first | exact (Kd.R_reads' HO154.out).2.2 | (with_reducible refine Kd.C_alloc ?_ _) | (with_reducible refine Kd.C_drewN ?_ _) | (with_reducible refine Kd.C_drew ?_))); (case side2 => exact (Kd.R_reads' HO154.out).2.1); rintro e w' ⟨rfl, ⟨nd, rfl⟩⟩; refine ⟨_, rfl, ?_⟩))
          go_ret2
          exact ⟨TR, TB1 GE144.out⟩
         ·rw [if_neg c32] at H
          have c32b0 : decide (0 ≤ t155) = false := decide_eq_false c32
          clear c32
          have H' := Aside0.mk H
          clear H
          have hcz36_0 := cz BK144.out 0
          have hcz36_1 := cz BK144.out 1
          have hfz36_0 := fz BK144.out 0
          have hfz36_1 := fz BK144.out 1
          have p151 : 0 ≤ (a1 : Int) := of_decide_eq_true TA
          have q151 : a1 < (l0_1.length : Int) := of_decide_eq_true TA
          obtain ⟨ad151, A151_1, c151_1, e151, hx151_0, hx151_1, hl151_1, hi151_1⟩ := at_T63 HR0_1.out a1 p151 q151
          cases e151
          replace hx151_0 := hx HB.out hx151_0
          replace hx151_1 := hx HB.out hx151_1
          have HR151_1 := Aside0.mk hi151_1
          have HC151_1 := Aside0.mk hl151_1
          clear hi151_1 hl151_1
          replace p151 := eq_true p151
          replace q151 := eq_true q151
          go_wp2_with (first | ((with_reducible refine gate_callee (f := 60) rfl ?_); refine goesL_ (some 44) rfl rfl Tryd.func60 (by kernel_rfl) rfl #[.agg #[.int .i64 a0_0, .slice (some ad151) l0_1.length c0_1], .int .i64 a1, .int .i64 (wrap64 (a3 + x11_2))] rfl TM ?_; (with_reducible refine (saronref05_struck.calls k2 a0_0 _ _ l0_1 a1 (wrap64 (a3 + x11_2)) t152 _ ?side1 ?side2 A30.out).mono ?_); (case side1 => exact TC HR0_1.out); (case side2 => exact HC0_1.out); rintro e w37 ⟨v153, rfl, ho0, hb⟩; refine ⟨_, rfl, ?_⟩; have HO154 := Aside0.mk (Kd.R_lower ho0 (below_size (TB1 GE144.out))); replace BK144 := Aside0.mk (TKb hb BK144.out); replace HB := Aside0.mk (below_step (TB1 GE144.out) hb); (try clear hb); (try clear hb2); (try clear hk); (try clear hi); (try clear ho0); obtain ⟨Ao38, co38, eo38⟩ := Kd.R_slice HO154.out; subst eo38) | ((with_reducible refine gate_callee (f := 42) rfl ?_); refine goesL_ (some 46) rfl rfl Tryd.func42 (by kernel_rfl) rfl #[.slice Ao38 t152.length co38, .int .i64 a2] rfl TM ?_; (with_reducible refine (saronref00_Where.calls k2 _ _ t152 a2 t155 _ ?side1 ?side2 A31.out).mono ?_); (case side1 => repeat (first | exact (Kd.R_reads' HO154.out).2.2 | (with_reducible refine Kd.C_alloc ?_ _) | (with_reducible refine Kd.C_drewN ?_ _) | (with_reducible refine Kd.C_drew ?_))); (case side2 => exact (Kd.R_reads' HO154.out).2.1); rintro e w' ⟨rfl, ⟨nd, rfl⟩⟩; refine ⟨_, rfl, ?_⟩))
          go_roundg k2
          case measure => have := HJ4.out; have := HK2.out; omega
          case rel => exact ⟨(wrap64 (x11_2 + 1)), TT, H', ⟨by have := HJ4.out; have := HK2.out; omega⟩, ⟨TK BK144.out⟩, ⟨TB1 GE144.out⟩⟩
        ·rw [if_neg c29] at H
         have c29b0 : decide (x11_2 < ((rd_T63 l0_1 a1).f0)) = false := decide_eq_false c29
         clear c29
         simp only [Option.some.injEq, Prod.mk.injEq] at H
         obtain ⟨rfl, rfl⟩ := H
         have hcz39_0 := cz BK144.out 0
         have hcz39_1 := cz BK144.out 1
         have hfz39_0 := fz BK144.out 0
         have hfz39_1 := fz BK144.out 1
         have p151 : 0 ≤ (a1 : Int) := of_decide_eq_true TA
         have q151 : a1 < (l0_1.length : Int) := of_decide_eq_true TA
         obtain ⟨ad151, A151_1, c151_1, e151, hx151_0, hx151_1, hl151_1, hi151_1⟩ := at_T63 HR0_1.out a1 p151 q151
         cases e151
         replace hx151_0 := hx HB.out hx151_0
         replace hx151_1 := hx HB.out hx151_1
         have HR151_1 := Aside0.mk hi151_1
         have HC151_1 := Aside0.mk hl151_1
         clear hi151_1 hl151_1
         replace p151 := eq_true p151
         replace q151 := eq_true q151
         go_wp2
         go_ret2
         exact ⟨TR, TB1 GE144.out⟩
       ·rw [if_neg c28] at H
        exact absurd H (by simp)
      ·rw [if_neg c27] at H
       exact absurd H (by simp)
   ·rw [if_neg c26] at H
    have c26b0 : (x10_4 == 0) = false := beq_eq_false_iff_ne.mpr c26
    have c26b1 : (x10_4 != 0) = true := bne_iff_ne.mpr c26
    simp only [Option.some.injEq, Prod.mk.injEq] at H
    obtain ⟨rfl, rfl⟩ := H
    go_wp2
    go_ret2
    exact ⟨TR, TB1 GE144.out⟩
end Go.Proofs.YtephecfapclgfaaDoor.PRaspKeys
namespace Go.Proofs.YtephecfapclgfaaDoor.PRaspKeys
open Go.RowKit Go.Proofs.YtephecfapclgfaaDoorW.PrintWords Go.Proofs.YtephecfapclgfaaDoorW.PrintLast Go.Proofs.YtephecfapclgfaaDoorW.PrintMore Go.Proofs.YtephecfapclgfaaDoor.M
attribute [local go_sem] max2_int min2_int max_two min_two max_three min_three max_four min_four   -- for this text's walks alone
/-! ### saronref05_Even: function 22 -/
mutual
def saronref05_Even.j0 : Nat → Int → Int → Int → Int → List (S63) → Option (Int × Int)
 | 0, _, _, _, _, _ => none
 | k + 1, x1, x2, x8, x157000, x157001 => if x8 = 0 then (if 0 ≤ x1 then (if x1 < (x157001.length : Int) then (if 0 ≤ x2 then (if x2 < (((rd_T63 x157001 x1).f1).length : Int) then (if ((rd_L1 ((rd_T63 x157001 x1).f1) x2).length : Int) = 0 then (some (0, 4)) else (if 0 < ((rd_L1 ((rd_T63 x157001 x1).f1) x2).length : Int) then (if 0 ≤ (wrap64 (((rd_L1 ((rd_T63 x157001 x1).f1) x2).length : Int) - 1)) then (if (wrap64 (((rd_L1 ((rd_T63 x157001 x1).f1) x2).length : Int) - 1)) < ((rd_L1 ((rd_T63 x157001 x1).f1) x2).length : Int) then (saronref05_Even.l0 k (rd_L1 ((rd_T63 x157001 x1).f1) x2) (wrap64 ((wrap64 ((rd (rd_L1 ((rd_T63 x157001 x1).f1) x2) 0) + ((rd_T63 x157001 x1).f0))) - (rd (rd_L1 ((rd_T63 x157001 x1).f1) x2) (wrap64 (((rd_L1 ((rd_T63 x157001 x1).f1) x2).length : Int) - 1))))) 1) else (none)) else (none)) else (none))) else (none)) else (none)) else (none)) else (none)) else (some (0, x8))
def saronref05_Even.l0 : Nat → List Int → Int → Int → Option (Int × Int)
 | 0, _, _, _ => none
 | k + 1, x10, x11, x12 => if x12 < (x10.length : Int) then (if 0 ≤ x12 then (if 0 ≤ (wrap64 (x12 - 1)) then (if (wrap64 (x12 - 1)) < (x10.length : Int) then (if (wrap64 ((rd x10 x12) - (rd x10 (wrap64 (x12 - 1))))) = x11 then (saronref05_Even.l0 k x10 x11 (wrap64 (x12 + 1))) else (some (0, 4))) else (none)) else (none)) else (none)) else (some (x11, 0))
end
def saronref05_Even.f (k : Nat) (a0_0 : Int) (l0_1 : List (S63)) (a1 : Int) (a2 : Int) : Option (Int × Int) := (saronref05_isForm.f a0_0 l0_1 a1).bind fun t157 => (if t157 = true then ((saronref05_isGong.f a0_0 l0_1 a2).bind fun t158 => ((saronref05_asked.f k a0_0 l0_1 t158).bind fun t159 => (saronref05_Even.j0 k a1 a2 t159 a0_0 l0_1))) else ((saronref05_asked.f k a0_0 l0_1 false).bind fun t160 => (saronref05_Even.j0 k a1 a2 t160 a0_0 l0_1)))
theorem saronref05_Even.mono_l : ∀ k, (∀ y0 y1 y2 y3 y4, LeO (saronref05_Even.j0 k y0 y1 y2 y3 y4) (saronref05_Even.j0 (k + 1) y0 y1 y2 y3 y4)) ∧ (∀ y0 y1 y2, LeO (saronref05_Even.l0 k y0 y1 y2) (saronref05_Even.l0 (k + 1) y0 y1 y2))
 | 0 => ⟨fun _ _ _ _ _ r h => by simp [saronref05_Even.j0] at h, fun _ _ _ r h => by simp [saronref05_Even.l0] at h⟩
 | k + 1 => by
  obtain ⟨ih0, ih1⟩ := saronref05_Even.mono_l k
  refine ⟨?_, ?_⟩
  ·intro y0 y1 y2 y3 y4
   unfold saronref05_Even.j0
   repeat' first
   | (with_reducible exact ih0 _ _ _ _ _)
   | (with_reducible exact ih1 _ _ _)
   | (with_reducible exact saronref05_asked.mono _ _ _ _)
   | (with_reducible exact LeO.refl _)
   | (with_reducible exact LeO.none _)
   | (with_reducible refine LeO.ite ?_ ?_)
   | (with_reducible refine LeO.bind ?_ (fun _ => ?_))
   | exact ih0 _ _ _ _ _
   | exact ih1 _ _ _
   | exact saronref05_asked.mono _ _ _ _
   | exact LeO.none _
   | refine LeO.ite ?_ ?_
   | refine LeO.bind ?_ (fun _ => ?_)
  ·intro y0 y1 y2
   unfold saronref05_Even.l0
   repeat' first
   | (with_reducible exact ih0 _ _ _ _ _)
   | (with_reducible exact ih1 _ _ _)
   | (with_reducible exact saronref05_asked.mono _ _ _ _)
   | (with_reducible exact LeO.refl _)
   | (with_reducible exact LeO.none _)
   | (with_reducible refine LeO.ite ?_ ?_)
   | (with_reducible refine LeO.bind ?_ (fun _ => ?_))
   | exact ih0 _ _ _ _ _
   | exact ih1 _ _ _
   | exact saronref05_asked.mono _ _ _ _
   | exact LeO.none _
   | refine LeO.ite ?_ ?_
   | refine LeO.bind ?_ (fun _ => ?_)
theorem saronref05_Even.mono : ∀ a0 a1 a2 a3 k, LeO (saronref05_Even.f k a0 a1 a2 a3) (saronref05_Even.f (k + 1) a0 a1 a2 a3) := by
 intro a0 a1 a2 a3 k
 obtain ⟨ih0, ih1⟩ := saronref05_Even.mono_l k
 unfold saronref05_Even.f
 repeat' first
   | (with_reducible exact ih0 _ _ _ _ _)
   | (with_reducible exact ih1 _ _ _)
   | (with_reducible exact saronref05_asked.mono _ _ _ _)
   | (with_reducible exact LeO.refl _)
   | (with_reducible exact LeO.none _)
   | (with_reducible refine LeO.ite ?_ ?_)
   | (with_reducible refine LeO.bind ?_ (fun _ => ?_))
   | exact ih0 _ _ _ _ _
   | exact ih1 _ _ _
   | exact saronref05_asked.mono _ _ _ _
   | exact LeO.none _
   | refine LeO.ite ?_ ?_
   | refine LeO.bind ?_ (fun _ => ?_)
def saronref05_Even.T1 : Bool × List (List Nat × List Nat) := (true, [([], []), ([], []), ([], []), ([1, 2], [1, 2]), ([3, 3], [3]), ([4], [4]), ([4], [4]), ([5, 6, 4, 4], [4, 5, 6]), ([4, 7], [4, 7]), ([0, 8, 7], [0, 8]), ([9, 9, 0, 1, 2, 3, 4, 5, 6, 7, 8, 9], [9])])
def saronref05_Even.B1 : List Nat := [0, 0, 0, 6, 14, 30, 30, 126, 254, 511, 1023]
theorem saronref05_Even.tab1 : rtab .any (opsOf Tryd.f22 1) = saronref05_Even.T1 := by kernel_rfl
theorem saronref05_Even.bits1 : waitsOk saronref05_Even.T1.2 saronref05_Even.B1 = true := by kernel_rfl
def saronref05_Even.T8 : Bool × List (List Nat × List Nat) := (true, [([], []), ([0], [0]), ([1], [1]), ([], []), ([3], [3]), ([2, 4], [2, 4]), ([], []), ([], []), ([7], [7]), ([8], [8]), ([6, 9], [6, 9]), ([10], [10]), ([5, 11], [5, 11]), ([12, 0, 1, 2, 3, 4, 5, 6, 7, 8, 9, 10, 11, 12], [12])])
def saronref05_Even.B8 : List Nat := [0, 1, 3, 0, 8, 31, 0, 0, 128, 384, 960, 1984, 4095, 8191]
theorem saronref05_Even.tab8 : rtab .any (opsOf Tryd.f22 8) = saronref05_Even.T8 := by kernel_rfl
theorem saronref05_Even.bits8 : waitsOk saronref05_Even.T8.2 saronref05_Even.B8 = true := by kernel_rfl
def saronref05_Even.T12 : Bool × List (List Nat × List Nat) := (true, [([], []), ([], []), ([0, 1], [0, 1]), ([2], [2]), ([], []), ([], []), ([5], [5]), ([4, 6], [4, 6]), ([7], [7]), ([3, 8], [3, 8]), ([], []), ([9, 10], [9, 10])])
def saronref05_Even.B12 : List Nat := [0, 0, 3, 7, 0, 0, 32, 112, 240, 511, 0, 2047]
theorem saronref05_Even.tab12 : rtab .any (opsOf Tryd.f22 12) = saronref05_Even.T12 := by kernel_rfl
theorem saronref05_Even.bits12 : waitsOk saronref05_Even.T12.2 saronref05_Even.B12 = true := by kernel_rfl
set_option maxHeartbeats 8000000 in
set_option maxRecDepth 100000 in
theorem saronref05_Even.calls (k : Nat) (a0_0 : Int) (A0_1 : Option Addr) (c0_1 : Nat) (l0_1 : List (S63)) (a1 : Int) (a2 : Int) (r1 : Int) (r2 : Int) (w : World) (hr0_1 : Kd.C k63 w A0_1 l0_1.length l0_1) (hc0_1 : l0_1.length ≤ c0_1) (h : saronref05_Even.f k a0_0 l0_1 a1 a2 = some (r1, r2)) :
  Calls Tryd.prog 22 #[.agg #[.int .i64 a0_0, .slice A0_1 l0_1.length c0_1], .int .i64 a1, .int .i64 a2] w fun e w' => e = .returned (.tuple #[.int .i64 r1, .int .i64 r2]) ∧ Below w.heap.size w w' := by
 have hu24 := Tryd.underlying24
 have hu63 := Tryd.underlying63
 have HR0_1 := Aside0.mk hr0_1
 have HC0_1 := Aside0.mk hc0_1
 clear hr0_1 hc0_1
 have HB := Aside0.mk (Below.refl w.heap.size w)
 have H : ((saronref05_isForm.f a0_0 l0_1 a1).bind fun t157 => (if t157 = true then ((saronref05_isGong.f a0_0 l0_1 a2).bind fun t158 => ((saronref05_asked.f k a0_0 l0_1 t158).bind fun t159 => (saronref05_Even.j0 k a1 a2 t159 a0_0 l0_1))) else ((saronref05_asked.f k a0_0 l0_1 false).bind fun t160 => (saronref05_Even.j0 k a1 a2 t160 a0_0 l0_1)))) = some (r1, r2) := h
 clear h
 have HC4 := Aside0.mk H
 clear H
 go_enter Tryd.func22, Tryd.ntmps22
 go_upto_region 1 with (first | ((with_reducible refine gate_dst (N := 3) rfl ?_); refine box_event ?hg (N := 3) ?hd (cs := #[.int .i64 a0_0, .slice A0_1 l0_1.length c0_1]) (t := 24) ?hr ?_; (case hd => rfl); (case hg => rfl); (case hr => exact TS); intro gb156 hg w5 hbox hb; have BK156 := Aside0.mk (hbox); have GW156 := Aside0.mk ((TG : w.heap.size ≤ gb156)); have GE156 := Aside0.mk ((TG : w.heap.size ≤ gb156)); replace HB := Aside0.mk (below_step TB hb); clear hb hbox hg))
 (try simp only [Act.put, lA, lZ, lS])
 go_cut [8] (fun v8 wc => ∃ (kq : Nat) (x8_3 : Int), v8 = .int .i64 x8_3 ∧ Aside0 (saronref05_Even.j0 kq a1 a2 x8_3 a0_0 l0_1 = some (r1, r2)) ∧ Aside0 (kq ≤ k) ∧ Aside0 (wc.heap[gb156]? = some (.cells #[.int .i64 a0_0, (.slice A0_1 l0_1.length c0_1)] 24 (0, 0))) ∧ Aside0 (Below w.heap.size w wc))
 case first => as_aux_lemma =>
  have H := HC4.out
  clear HC4
  replace H := Option.bind_eq_some_iff.mp H
  obtain ⟨t157, A60, H⟩ := H
  replace H : (if t157 = true then ((saronref05_isGong.f a0_0 l0_1 a2).bind fun t158 => ((saronref05_asked.f k a0_0 l0_1 t158).bind fun t159 => (saronref05_Even.j0 k a1 a2 t159 a0_0 l0_1))) else ((saronref05_asked.f k a0_0 l0_1 false).bind fun t160 => (saronref05_Even.j0 k a1 a2 t160 a0_0 l0_1))) = some (r1, r2) := H
  have A6 := Aside0.mk A60
  clear A60
  by_cases c7 : t157 = true
  ·subst c7
   have H1 : ((saronref05_isGong.f a0_0 l0_1 a2).bind fun t158 => ((saronref05_asked.f k a0_0 l0_1 t158).bind fun t159 => (saronref05_Even.j0 k a1 a2 t159 a0_0 l0_1))) = some (r1, r2) := by rw [if_pos rfl] at H; exact H
   clear H
   have H := H1
   clear H1
   replace H := Option.bind_eq_some_iff.mp H
   obtain ⟨t158, A80, H⟩ := H
   replace H : ((saronref05_asked.f k a0_0 l0_1 t158).bind fun t159 => (saronref05_Even.j0 k a1 a2 t159 a0_0 l0_1)) = some (r1, r2) := H
   have A8 := Aside0.mk A80
   clear A80
   replace H := Option.bind_eq_some_iff.mp H
   obtain ⟨t159, A90, H⟩ := H
   replace H : (saronref05_Even.j0 k a1 a2 t159 a0_0 l0_1) = some (r1, r2) := H
   have A9 := Aside0.mk A90
   clear A90
   have H' := Aside0.mk H
   clear H
   try go_wp2
   have n0_ := Aside0.mk (blk_drew BK156.out)
   have n1_ := Aside0.mk (below_drew1 HB.out)
   clear BK156
   clear HB
   have BK156 := n0_
   have HB := n1_
   clear n0_ n1_
   refine start_ (n := 11) (S := fun w' => w'.cell? ⟨gb156, 0, none⟩ = some (.int .i64 a0_0) ∧ w'.cell? ⟨gb156, 1, none⟩ = some (.slice A0_1 l0_1.length c0_1)) (ds := []) (.replicate 11 false) (by kernel_rfl) rfl rfl ⟨cz BK156.out 0, cz BK156.out 1⟩ (fun hHeld => ?_); refine with_tabW saronref05_Even.tab1 saronref05_Even.bits1 (fun HT_ HW_ => ?_)
   generalize w5.drew = w10 at BK156 HB hHeld ⊢
   refine pT 2 15 (bt 11 4) (k := ?_)
   refine tT2 0 13 (bt 11 5) hHeld (k := ?_)
   refine tT2 1 14 (bt 11 7) hHeld (k := ?_)
   refine one_ (i := 3) (N := some 16) (bt 11 15) rfl rfl (one_of HT_.out (by kernel_rfl)) (by decide) (fun K hK => ?_)
   refine goes_ Tryd.func59 (by kernel_rfl) rfl #[.agg #[.int .i64 a0_0, .slice A0_1 l0_1.length c0_1], .int .i64 a1] (by rfl) rfl rfl TM ?_
   with_reducible refine (saronref05_isForm.calls a0_0 _ _ l0_1 a1 true _ ?side1 ?side2 A6.out).mono ?_
   (case side1 => exact TC HR0_1.out)
   (case side2 => exact HC0_1.out)
   rintro e w11 ⟨rfl, hb⟩
   refine ⟨_, rfl, ?_⟩
   have n0_ := Aside0.mk (TKb hb BK156.out)
   have n1_ := Aside0.mk (below_step (TB1 GE156.out) hb)
   clear BK156
   clear HB
   have BK156 := n0_
   have HB := n1_
   clear n0_ n1_
   (try clear hb)
   (try clear hb2)
   (try clear hk)
   (try clear hi)
   refine hK.out _ _ ⟨cz BK156.out 0, cz BK156.out 1⟩ (fun hHeld => ?_)
   clear hK K
   refine norm_ (a' := ?_) ?_ ?_
   rotate_left
   ·show Act.put _ (some 16) _ = _
    simp only [Act.put, lA, lZ, lS, i64_w, i32_w]
    rfl
   refine pT 4 17 (bt 11 31) (k := ?_)
   refine pT 6 19 (bt 11 95) (k := ?_)
   refine tT2 5 18 (bt 11 127) hHeld (k := ?_)
   refine one_ (i := 7) (N := some 20) (bt 11 255) rfl rfl (one_of HT_.out (by kernel_rfl)) (by decide) (fun K hK => ?_)
   refine goes_ Tryd.func67 (by kernel_rfl) rfl #[.agg #[.int .i64 a0_0, .slice A0_1 l0_1.length c0_1], .int .i64 a2] (by rfl) rfl rfl TM ?_
   with_reducible refine (saronref05_isGong.calls a0_0 _ _ l0_1 a2 t158 _ ?side1 ?side2 A8.out).mono ?_
   (case side1 => exact TC HR0_1.out)
   (case side2 => exact HC0_1.out)
   rintro e w12 ⟨rfl, hb⟩
   refine ⟨_, rfl, ?_⟩
   have n0_ := Aside0.mk (TKb hb BK156.out)
   have n1_ := Aside0.mk (below_step (TB1 GE156.out) hb)
   clear BK156
   clear HB
   have BK156 := n0_
   have HB := n1_
   clear n0_ n1_
   (try clear hb)
   (try clear hb2)
   (try clear hk)
   (try clear hi)
   refine hK.out _ _ ⟨cz BK156.out 0, cz BK156.out 1⟩ (fun hHeld => ?_)
   clear hK K
   refine norm_ (a' := ?_) ?_ ?_
   rotate_left
   ·show Act.put _ (some 20) _ = _
    simp only [Act.put, lA, lZ, lS, i64_w, i32_w]
    rfl
   refine pT 8 21 (bt 11 511) (k := ?_)
   refine one_ (i := 9) (N := some 22) (bt 11 1023) rfl rfl (one_of HT_.out (by kernel_rfl)) (by decide) (fun K hK => ?_)
   refine goes_ Tryd.func58 (by kernel_rfl) rfl #[.agg #[.int .i64 a0_0, .slice A0_1 l0_1.length c0_1], .bool t158] (by rfl) rfl rfl TM ?_
   with_reducible refine (saronref05_asked.calls k a0_0 _ _ l0_1 t158 t159 _ ?side1 ?side2 A9.out).mono ?_
   (case side1 => exact TC HR0_1.out)
   (case side2 => exact HC0_1.out)
   rintro e w13 ⟨rfl, hb⟩
   refine ⟨_, rfl, ?_⟩
   have n0_ := Aside0.mk (TKb hb BK156.out)
   have n1_ := Aside0.mk (below_step (TB1 GE156.out) hb)
   clear BK156
   clear HB
   have BK156 := n0_
   have HB := n1_
   clear n0_ n1_
   (try clear hb)
   (try clear hb2)
   (try clear hk)
   (try clear hi)
   refine hK.out _ _ ⟨cz BK156.out 0, cz BK156.out 1⟩ (fun hHeld => ?_)
   clear hK K
   refine norm_ (a' := ?_) ?_ ?_
   rotate_left
   ·show Act.put _ (some 22) _ = _
    simp only [Act.put, lA, lZ, lS, i64_w, i32_w]
    rfl
   refine pT 10 8 (bt 11 2047) (k := ?_)
   refine done_ (done_of HT_.out (by kernel_rfl)) ?_
   try go_wp2
   go_meet
   case rel => exact ⟨_, (t159), TT, H', ⟨by first | omega | exact Nat.le_refl _⟩, ⟨TK BK156.out⟩, ⟨TB1 GE156.out⟩⟩
  ·replace c7 := Bool.eq_false_iff.mpr c7
   subst c7
   have H1 : ((saronref05_asked.f k a0_0 l0_1 false).bind fun t160 => (saronref05_Even.j0 k a1 a2 t160 a0_0 l0_1)) = some (r1, r2) := by rw [if_neg (show ¬ (false = true) by decide)] at H; exact H
   clear H
   have H := H1
   clear H1
   replace H := Option.bind_eq_some_iff.mp H
   obtain ⟨t160, A140, H⟩ := H
   replace H : (saronref05_Even.j0 k a1 a2 t160 a0_0 l0_1) = some (r1, r2) := H
   have A14 := Aside0.mk A140
   clear A140
   have H' := Aside0.mk H
   clear H
   try go_wp2
   have n0_ := Aside0.mk (blk_drew BK156.out)
   have n1_ := Aside0.mk (below_drew1 HB.out)
   clear BK156
   clear HB
   have BK156 := n0_
   have HB := n1_
   clear n0_ n1_
   refine start_ (n := 11) (S := fun w' => w'.cell? ⟨gb156, 0, none⟩ = some (.int .i64 a0_0) ∧ w'.cell? ⟨gb156, 1, none⟩ = some (.slice A0_1 l0_1.length c0_1)) (ds := []) (.replicate 11 false) (by kernel_rfl) rfl rfl ⟨cz BK156.out 0, cz BK156.out 1⟩ (fun hHeld => ?_); refine with_tabW saronref05_Even.tab1 saronref05_Even.bits1 (fun HT_ HW_ => ?_)
   generalize w5.drew = w15 at BK156 HB hHeld ⊢
   refine pT 2 15 (bt 11 4) (k := ?_)
   refine tT2 0 13 (bt 11 5) hHeld (k := ?_)
   refine tT2 1 14 (bt 11 7) hHeld (k := ?_)
   refine one_ (i := 3) (N := some 16) (bt 11 15) rfl rfl (one_of HT_.out (by kernel_rfl)) (by decide) (fun K hK => ?_)
   refine goes_ Tryd.func59 (by kernel_rfl) rfl #[.agg #[.int .i64 a0_0, .slice A0_1 l0_1.length c0_1], .int .i64 a1] (by rfl) rfl rfl TM ?_
   with_reducible refine (saronref05_isForm.calls a0_0 _ _ l0_1 a1 false _ ?side1 ?side2 A6.out).mono ?_
   (case side1 => exact TC HR0_1.out)
   (case side2 => exact HC0_1.out)
   rintro e w16 ⟨rfl, hb⟩
   refine ⟨_, rfl, ?_⟩
   have n0_ := Aside0.mk (TKb hb BK156.out)
   have n1_ := Aside0.mk (below_step (TB1 GE156.out) hb)
   clear BK156
   clear HB
   have BK156 := n0_
   have HB := n1_
   clear n0_ n1_
   (try clear hb)
   (try clear hb2)
   (try clear hk)
   (try clear hi)
   refine hK.out _ _ ⟨cz BK156.out 0, cz BK156.out 1⟩ (fun hHeld => ?_)
   clear hK K
   refine norm_ (a' := ?_) ?_ ?_
   rotate_left
   ·show Act.put _ (some 16) _ = _
    simp only [Act.put, lA, lZ, lS, i64_w, i32_w]
    rfl
   refine pT 4 17 (bt 11 31) (k := ?_)
   refine pU 5 18 (bt 11 63) (k := ?_)
   refine pU 6 19 (bt 11 127) (k := ?_)
   refine pU 7 20 (bt 11 255) (k := ?_)
   refine pT 8 21 (bt 11 511) (k := ?_)
   refine one_ (i := 9) (N := some 22) (bt 11 1023) rfl rfl (one_of HT_.out (by kernel_rfl)) (by decide) (fun K hK => ?_)
   refine goes_ Tryd.func58 (by kernel_rfl) rfl #[.agg #[.int .i64 a0_0, .slice A0_1 l0_1.length c0_1], .bool false] (by rfl) rfl rfl TM ?_
   with_reducible refine (saronref05_asked.calls k a0_0 _ _ l0_1 false t160 _ ?side1 ?side2 A14.out).mono ?_
   (case side1 => exact TC HR0_1.out)
   (case side2 => exact HC0_1.out)
   rintro e w17 ⟨rfl, hb⟩
   refine ⟨_, rfl, ?_⟩
   have n0_ := Aside0.mk (TKb hb BK156.out)
   have n1_ := Aside0.mk (below_step (TB1 GE156.out) hb)
   clear BK156
   clear HB
   have BK156 := n0_
   have HB := n1_
   clear n0_ n1_
   (try clear hb)
   (try clear hb2)
   (try clear hk)
   (try clear hi)
   refine hK.out _ _ ⟨cz BK156.out 0, cz BK156.out 1⟩ (fun hHeld => ?_)
   clear hK K
   refine norm_ (a' := ?_) ?_ ?_
   rotate_left
   ·show Act.put _ (some 22) _ = _
    simp only [Act.put, lA, lZ, lS, i64_w, i32_w]
    rfl
   refine pT 10 8 (bt 11 2047) (k := ?_)
   refine done_ (done_of HT_.out (by kernel_rfl)) ?_
   try go_wp2
   go_meet
   case rel => exact ⟨_, (t160), TT, H', ⟨by first | omega | exact Nat.le_refl _⟩, ⟨TK BK156.out⟩, ⟨TB1 GE156.out⟩⟩
 case rest => as_aux_lemma =>
  clear HC4
  try clear c2
  try clear p2
  try clear c5
  try clear c6
  try clear c7
  obtain ⟨kq, x8_3, rfl, HA, HJ3, BK156, HB⟩ := hcut
  cases kq with
  | zero => exact absurd HA.out (by simp [saronref05_Even.j0])
  | succ kj3 =>
   have H := HA.out
   clear HA
   simp only [saronref05_Even.j0] at H
   by_cases c18 : x8_3 = 0
   ·rw [if_pos c18] at H
    have c18b0 : (x8_3 == 0) = true := beq_iff_eq.mpr c18
    have c18b1 : (x8_3 != 0) = false := bne_eq_false_iff_eq.mpr c18
    clear c18
    by_cases c19 : 0 ≤ a1
    ·rw [if_pos c19] at H
     have c19b0 : decide (0 ≤ a1) = true := decide_eq_true c19
     clear c19
     by_cases c20 : a1 < (l0_1.length : Int)
     ·rw [if_pos c20] at H
      have c20b0 : decide (a1 < (l0_1.length : Int)) = true := decide_eq_true c20
      clear c20
      by_cases c21 : 0 ≤ a2
      ·rw [if_pos c21] at H
       have c21b0 : decide (0 ≤ a2) = true := decide_eq_true c21
       clear c21
       by_cases c22 : a2 < (((rd_T63 l0_1 a1).f1).length : Int)
       ·rw [if_pos c22] at H
        have c22b0 : decide (a2 < (((rd_T63 l0_1 a1).f1).length : Int)) = true := decide_eq_true c22
        clear c22
        by_cases c23 : ((rd_L1 ((rd_T63 l0_1 a1).f1) a2).length : Int) = 0
        ·rw [if_pos c23] at H
         have c23b0 : (((rd_L1 ((rd_T63 l0_1 a1).f1) a2).length : Int) == 0) = true := beq_iff_eq.mpr c23
         have c23b1 : (((rd_L1 ((rd_T63 l0_1 a1).f1) a2).length : Int) != 0) = false := bne_eq_false_iff_eq.mpr c23
         clear c23
         simp only [Option.some.injEq, Prod.mk.injEq] at H
         obtain ⟨rfl, rfl⟩ := H
         have hcz24_0 := cz BK156.out 0
         have hcz24_1 := cz BK156.out 1
         have hfz24_0 := fz BK156.out 0
         have hfz24_1 := fz BK156.out 1
         have p161 : 0 ≤ (a1 : Int) := of_decide_eq_true TA
         have q161 : a1 < (l0_1.length : Int) := of_decide_eq_true TA
         obtain ⟨ad161, A161_1, c161_1, e161, hx161_0, hx161_1, hl161_1, hi161_1⟩ := at_T63 HR0_1.out a1 p161 q161
         cases e161
         replace hx161_0 := hx HB.out hx161_0
         replace hx161_1 := hx HB.out hx161_1
         have HR161_1 := Aside0.mk hi161_1
         have HC161_1 := Aside0.mk hl161_1
         clear hi161_1 hl161_1
         replace p161 := eq_true p161
         replace q161 := eq_true q161
         go_wp2_with (first | ((with_reducible refine gate_dst (N := 9) rfl ?_); refine box_event ?hg (N := 9) ?hd (cs := #[.int .i64 0, .slice none 0 0]) (t := 63) ?hr ?_; (case hd => rfl); (case hg => rfl); (case hr => exact TS); intro gb162 hg w25 hbox hb; have BK162 := Aside0.mk (hbox); have GW162 := Aside0.mk ((TG1 GE156.out : w.heap.size ≤ gb162)); have GE162 := Aside0.mk ((TG1 GE156.out : w.heap.size ≤ gb162)); have NB156_162 := Aside0.mk ((by rw [hg]; exact Nat.ne_of_lt (blk_lt (g := gb156) (o := .cells #[.int .i64 a0_0, .slice (some ad161) l0_1.length c0_1] 24 (0, 0)) (TK BK156.out)) : gb156 ≠ gb162)); have NB162_156 := Aside0.mk ((by rw [hg]; exact Nat.ne_of_gt (blk_lt (g := gb156) (o := .cells #[.int .i64 a0_0, .slice (some ad161) l0_1.length c0_1] 24 (0, 0)) (TK BK156.out)) : gb162 ≠ gb156)); replace BK156 := Aside0.mk (TKb hb BK156.out); replace HB := Aside0.mk (below_step (TB1 GE156.out) hb); clear hb hbox hg; have hnb26 := NB162_156.out; have hnc26 := NB156_162.out; have hcz27_0 := cz BK162.out 0; have hcz27_1 := cz BK162.out 1; have hfz27_0 := fz BK162.out 0; have hfz27_1 := fz BK162.out 1; have p163 : 0 ≤ (a2 : Int) := of_decide_eq_true TA; have q163 : a2 < (((rd_T63 l0_1 a1).f1).length : Int) := of_decide_eq_true TA; obtain ⟨ad163, A163_0, c163_0, e163, hx163_0, hl163_0, hi163_0⟩ := at_L1 HR161_1.out a2 p163 q163; cases e163; have hn163_0 : ad163.block ≠ gb162 := Nat.ne_of_lt (Nat.lt_of_lt_of_le (TL hx163_0) GW162.out); have hn163_1 : ad163.block ≠ gb162 := Nat.ne_of_lt (Nat.lt_of_lt_of_le (TL hx163_0) GW162.out); replace hx163_0 := hx HB.out hx163_0; have HR163_0 := Aside0.mk hi163_0; have HC163_0 := Aside0.mk hl163_0; clear hi163_0 hl163_0; replace hx163_0 := (cell_far (p := ⟨gb162, 0, none⟩) (TF hn163_0) (.int .i64 ((rd_T63 l0_1 a1).f0))).trans hx163_0; replace hx163_0 := (cell_far (p := ⟨gb162, 1, none⟩) (TF hn163_1) (.slice (some ad163) ((rd_T63 l0_1 a1).f1).length c161_1)).trans hx163_0; clear hn163_0; clear hn163_1; replace p163 := eq_true p163; replace q163 := eq_true q163))
         go_ret2
         exact ⟨TR, TB2 GE156.out GE162.out⟩
        ·rw [if_neg c23] at H
         have c23b0 : (((rd_L1 ((rd_T63 l0_1 a1).f1) a2).length : Int) == 0) = false := beq_eq_false_iff_ne.mpr c23
         have c23b1 : (((rd_L1 ((rd_T63 l0_1 a1).f1) a2).length : Int) != 0) = true := bne_iff_ne.mpr c23
         have c23b2 : ¬ ((rd_L1 ((rd_T63 l0_1 a1).f1) a2) = []) := fun h_ => c23 (by rw [h_]; rfl)
         by_cases c28 : 0 < ((rd_L1 ((rd_T63 l0_1 a1).f1) a2).length : Int)
         ·rw [if_pos c28] at H
          have c28b0 : decide (0 < ((rd_L1 ((rd_T63 l0_1 a1).f1) a2).length : Int)) = true := decide_eq_true c28
          have c28b1 : decide (0 < (rd_L1 ((rd_T63 l0_1 a1).f1) a2).length) = true := decide_eq_true (by omega)
          clear c28
          obtain ⟨ji29, hji29⟩ : ∃ j_ : Int, (wrap64 (((rd_L1 ((rd_T63 l0_1 a1).f1) a2).length : Int) - 1)) = j_ := ⟨_, rfl⟩
          replace H : (if 0 ≤ (ji29) then (if (ji29) < ((rd_L1 ((rd_T63 l0_1 a1).f1) a2).length : Int) then (saronref05_Even.l0 kj3 (rd_L1 ((rd_T63 l0_1 a1).f1) a2) (wrap64 ((wrap64 ((rd (rd_L1 ((rd_T63 l0_1 a1).f1) a2) 0) + ((rd_T63 l0_1 a1).f0))) - (rd (rd_L1 ((rd_T63 l0_1 a1).f1) a2) (ji29)))) 1) else (none)) else (none)) = some (r1, r2) := by first | (rw [hji29] at H; exact H) | (simp only [hji29] at H ⊢; exact H)
          have hji29w : (IntKind.i64.wrap (((rd_L1 ((rd_T63 l0_1 a1).f1) a2).length : Int) - 1)) = ji29 := (i64_w _).trans hji29
          by_cases c30 : 0 ≤ (ji29)
          ·rw [if_pos c30] at H
           have c30b0 : decide (0 ≤ (ji29)) = true := decide_eq_true c30
           clear c30
           by_cases c31 : (ji29) < ((rd_L1 ((rd_T63 l0_1 a1).f1) a2).length : Int)
           ·rw [if_pos c31] at H
            have c31b0 : decide ((ji29) < ((rd_L1 ((rd_T63 l0_1 a1).f1) a2).length : Int)) = true := decide_eq_true c31
            clear c31
            have H' := Aside0.mk H
            clear H
            have hcz32_0 := cz BK156.out 0
            have hcz32_1 := cz BK156.out 1
            have hfz32_0 := fz BK156.out 0
            have hfz32_1 := fz BK156.out 1
            have p161 : 0 ≤ (a1 : Int) := of_decide_eq_true TA
            have q161 : a1 < (l0_1.length : Int) := of_decide_eq_true TA
            obtain ⟨ad161, A161_1, c161_1, e161, hx161_0, hx161_1, hl161_1, hi161_1⟩ := at_T63 HR0_1.out a1 p161 q161
            cases e161
            replace hx161_0 := hx HB.out hx161_0
            replace hx161_1 := hx HB.out hx161_1
            have HR161_1 := Aside0.mk hi161_1
            have HC161_1 := Aside0.mk hl161_1
            clear hi161_1 hl161_1
            replace p161 := eq_true p161
            replace q161 := eq_true q161
            try go_wp2_with (first | ((with_reducible refine gate_dst (N := 9) rfl ?_); refine box_event ?hg (N := 9) ?hd (cs := #[.int .i64 0, .slice none 0 0]) (t := 63) ?hr ?_; (case hd => rfl); (case hg => rfl); (case hr => exact TS); intro gb162 hg w33 hbox hb; have BK162 := Aside0.mk (hbox); have GW162 := Aside0.mk ((TG1 GE156.out : w.heap.size ≤ gb162)); have GE162 := Aside0.mk ((TG1 GE156.out : w.heap.size ≤ gb162)); have NB156_162 := Aside0.mk ((by rw [hg]; exact Nat.ne_of_lt (blk_lt (g := gb156) (o := .cells #[.int .i64 a0_0, .slice (some ad161) l0_1.length c0_1] 24 (0, 0)) (TK BK156.out)) : gb156 ≠ gb162)); have NB162_156 := Aside0.mk ((by rw [hg]; exact Nat.ne_of_gt (blk_lt (g := gb156) (o := .cells #[.int .i64 a0_0, .slice (some ad161) l0_1.length c0_1] 24 (0, 0)) (TK BK156.out)) : gb162 ≠ gb156)); replace BK156 := Aside0.mk (TKb hb BK156.out); replace HB := Aside0.mk (below_step (TB1 GE156.out) hb); clear hb hbox hg; have hnb34 := NB162_156.out; have hnc34 := NB156_162.out; have hcz35_0 := cz BK162.out 0; have hcz35_1 := cz BK162.out 1; have hfz35_0 := fz BK162.out 0; have hfz35_1 := fz BK162.out 1; have p163 : 0 ≤ (a2 : Int) := of_decide_eq_true TA; have q163 : a2 < (((rd_T63 l0_1 a1).f1).length : Int) := of_decide_eq_true TA; obtain ⟨ad163, A163_0, c163_0, e163, hx163_0, hl163_0, hi163_0⟩ := at_L1 HR161_1.out a2 p163 q163; cases e163; have hn163_0 : ad163.block ≠ gb162 := Nat.ne_of_lt (Nat.lt_of_lt_of_le (TL hx163_0) GW162.out); have hn163_1 : ad163.block ≠ gb162 := Nat.ne_of_lt (Nat.lt_of_lt_of_le (TL hx163_0) GW162.out); replace hx163_0 := hx HB.out hx163_0; have HR163_0 := Aside0.mk hi163_0; have HC163_0 := Aside0.mk hl163_0; clear hi163_0 hl163_0; replace hx163_0 := (cell_far (p := ⟨gb162, 0, none⟩) (TF hn163_0) (.int .i64 ((rd_T63 l0_1 a1).f0))).trans hx163_0; replace hx163_0 := (cell_far (p := ⟨gb162, 1, none⟩) (TF hn163_1) (.slice (some ad163) ((rd_T63 l0_1 a1).f1).length c161_1)).trans hx163_0; clear hn163_0; clear hn163_1; replace p163 := eq_true p163; replace q163 := eq_true q163))
            have n0_ : Aside0 (((w33.setCell ⟨gb162, 0, none⟩ (.int .i64 ((rd_T63 l0_1 a1).f0))).setCell ⟨gb162, 1, none⟩ (.slice (some ad163) ((rd_T63 l0_1 a1).f1).length c161_1)).heap[gb156]? = some (.cells #[.int .i64 a0_0, .slice (some ad161) l0_1.length c0_1] 24 (0, 0))) := ⟨by (with_reducible repeat (first | refine blk_drewN ?_ _ | refine blk_drew ?_ | refine blk_alloc ?_ _)); refine blk_far ?_ NB156_162.out _; (with_reducible repeat (first | refine blk_drewN ?_ _ | refine blk_drew ?_ | refine blk_alloc ?_ _)); refine blk_far ?_ NB156_162.out _; (with_reducible repeat (first | refine blk_drewN ?_ _ | refine blk_drew ?_ | refine blk_alloc ?_ _)); exact BK156.out⟩
            have n1_ : Aside0 (((w33.setCell ⟨gb162, 0, none⟩ (.int .i64 ((rd_T63 l0_1 a1).f0))).setCell ⟨gb162, 1, none⟩ (.slice (some ad163) ((rd_T63 l0_1 a1).f1).length c161_1)).heap[gb162]? = some (.cells #[.int .i64 ((rd_T63 l0_1 a1).f0), .slice (some ad163) ((rd_T63 l0_1 a1).f1).length c161_1] 63 (0, 0))) := ⟨by (with_reducible repeat (first | refine blk_drewN ?_ _ | refine blk_drew ?_ | refine blk_alloc ?_ _)); refine blk_put (cs := #[.int .i64 ((rd_T63 l0_1 a1).f0), .slice none 0 0]) ?_ 1 _ rfl; (with_reducible repeat (first | refine blk_drewN ?_ _ | refine blk_drew ?_ | refine blk_alloc ?_ _)); refine blk_put (cs := #[.int .i64 0, .slice none 0 0]) ?_ 0 _ rfl; (with_reducible repeat (first | refine blk_drewN ?_ _ | refine blk_drew ?_ | refine blk_alloc ?_ _)); exact BK162.out⟩
            have n2_ : Aside0 (Below w.heap.size w ((w33.setCell ⟨gb162, 0, none⟩ (.int .i64 ((rd_T63 l0_1 a1).f0))).setCell ⟨gb162, 1, none⟩ (.slice (some ad163) ((rd_T63 l0_1 a1).f1).length c161_1))) := ⟨TB2 GE156.out GE162.out⟩
            (try clear BK156)
            (try clear BK162)
            (try clear HB)
            generalize ((w33.setCell ⟨gb162, 0, none⟩ (.int .i64 ((rd_T63 l0_1 a1).f0))).setCell ⟨gb162, 1, none⟩ (.slice (some ad163) ((rd_T63 l0_1 a1).f1).length c161_1)) = w36 at n0_ n1_ n2_ ⊢
            have BK156 := n0_
            have BK162 := n1_
            have HB := n2_
            clear n0_ n1_ n2_
            have n0_ := Aside0.mk (blk_drew BK156.out)
            have n1_ := Aside0.mk (blk_drew BK162.out)
            have n2_ := Aside0.mk (below_drew1 HB.out)
            clear BK156
            clear BK162
            clear HB
            have BK156 := n0_
            have BK162 := n1_
            have HB := n2_
            clear n0_ n1_ n2_
            have p164 : 0 ≤ (0 : Int) := (by omega)
            have q164 : 0 < ((rd_L1 ((rd_T63 l0_1 a1).f1) a2).length : Int) := of_decide_eq_true TA
            obtain ⟨ad164, e164, hx164_0⟩ := Kd.at_int HR163_0.out 0 p164 q164
            have hw164_0 := hx164_0
            (try rw [show ((0 : Int)).toNat = 0 from rfl] at hw164_0)
            (try rw [show 0 * 1 = 0 from rfl] at hw164_0)
            (try rw [Addr.add_zero'] at hw164_0)
            cases e164
            have qi164 : (0 < (rd_L1 ((rd_T63 l0_1 a1).f1) a2).length) = True := eq_true (by omega)
            (try rw [show ((0 : Int)).toNat = 0 from rfl] at hx164_0)
            (try rw [Addr.add_zero'] at hx164_0)
            replace hx164_0 := hx HB.out hx164_0
            replace p164 := eq_true p164
            replace q164 := eq_true q164
            have p165 : 0 ≤ ((ji29) : Int) := of_decide_eq_true TA
            have q165 : (ji29) < ((rd_L1 ((rd_T63 l0_1 a1).f1) a2).length : Int) := of_decide_eq_true TA
            obtain ⟨ad165, e165, hx165_0⟩ := Kd.at_int HR163_0.out (ji29) p165 q165
            have hw165_0 := hx165_0
            obtain rfl : ad164 = ad165 := (by injection e165)
            replace hx165_0 := hx HB.out hx165_0
            replace p165 := eq_true p165
            replace q165 := eq_true q165
            refine start_ (n := 14) (S := fun w' => w'.cell? ⟨gb162, 0, none⟩ = some (.int .i64 ((rd_T63 l0_1 a1).f0)) ∧ w'.cell? ⟨gb162, 1, none⟩ = some (.slice (some ad163) ((rd_T63 l0_1 a1).f1).length c161_1) ∧ w'.cell? ad164 = some (.int .i64 (rd (rd_L1 ((rd_T63 l0_1 a1).f1) a2) 0)) ∧ w'.cell? (ad164.add ((ji29)).toNat) = some (.int .i64 (rd (rd_L1 ((rd_T63 l0_1 a1).f1) a2) (ji29)))) (ds := []) (.replicate 14 false) (by kernel_rfl) rfl rfl ⟨cz BK162.out 0, cz BK162.out 1, (hx HB.out hw164_0), (hx HB.out hw165_0)⟩ (fun hHeld => ?_); refine with_tabW saronref05_Even.tab8 saronref05_Even.bits8 (fun HT_ HW_ => ?_)
            generalize w36.drew = w37 at BK156 BK162 HB hx164_0 hx165_0 hHeld ⊢
            refine pT 0 39 (bt 14 1) (k := ?_)
            refine pT 1 40 (bt 14 3) (k := ?_)
            refine pT 3 42 (bt 14 11) (k := ?_)
            refine pT 6 45 (bt 14 75) (k := ?_)
            refine pT 7 46 (bt 14 203) (k := ?_)
            refine pT 8 47 (bt 14 459) (k := ?_)
            refine pT 9 48 (bt 14 971) (k := ?_)
            refine pT 10 49 (bt 14 1995) (k := ?_)
            refine tT4 2 41 (bt 14 1999) hHeld (k := ?_)
            refine tT4 4 43 (bt 14 2015) hHeld (k := ?_)
            refine pT 5 44 (bt 14 2047) (k := ?_)
            refine tT4 11 50 (bt 14 4095) hHeld (k := ?_)
            refine pT 12 51 (bt 14 8191) (k := ?_)
            refine pT 13 11 (bt 14 16383) (k := ?_)
            refine done_ (done_of HT_.out (by kernel_rfl)) ?_
            try go_wp2
            go_loopg [12] kj3 (fun kq v12 w' => ∃ (x12_2 : Int), v12 = .int .i64 x12_2 ∧ Aside0 (saronref05_Even.l0 kq (rd_L1 ((rd_T63 l0_1 a1).f1) a2) (wrap64 ((wrap64 ((rd (rd_L1 ((rd_T63 l0_1 a1).f1) a2) 0) + ((rd_T63 l0_1 a1).f0))) - (rd (rd_L1 ((rd_T63 l0_1 a1).f1) a2) (ji29)))) x12_2 = some (r1, r2)) ∧ Aside0 (kq ≤ kj3) ∧ Aside0 (w'.heap[gb156]? = some (.cells #[.int .i64 a0_0, (.slice (some ad161) l0_1.length c0_1)] 24 (0, 0))) ∧ Aside0 (w'.heap[gb162]? = some (.cells #[.int .i64 ((rd_T63 l0_1 a1).f0), (.slice (some ad163) ((rd_T63 l0_1 a1).f1).length c161_1)] 63 (0, 0))) ∧ Aside0 (Below w.heap.size w w'))
            case atStart => exact ⟨(1), TT, H', ⟨Nat.le_refl _⟩, ⟨TK BK156.out⟩, ⟨TK BK162.out⟩, ⟨TB2 GE156.out GE162.out⟩⟩
            case round => as_aux_lemma =>
             clear H'
             try clear c1
             try clear p1
             try clear q1
             try clear hx1
             try clear qi1
             try clear c2
             try clear p2
             try clear c3
             try clear c5
             try clear c6
             try clear p6
             try clear c7
             try clear c16
             try clear p16
             try clear q16
             try clear hx16
             try clear qi16
             try clear c18
             try clear c18b0
             try clear c18b1
             try clear c19
             try clear c19b0
             try clear c20
             try clear c20b0
             try clear c21
             try clear c21b0
             try clear c22
             try clear c22b0
             try clear c23
             try clear c23b0
             try clear c23b1
             try clear c23b2
             try clear c26
             try clear c28
             try clear c28b0
             try clear c28b1
             try clear c30
             try clear c30b0
             try clear c31
             try clear c31b0
             try clear c34
             try clear hcz24_0 hcz24_1
             try clear hcz27_0 hcz27_1
             try clear hcz32_0 hcz32_1
             try clear hcz35_0 hcz35_1
             try clear hfz24_0 hfz24_1
             try clear hfz27_0 hfz27_1
             try clear hfz32_0 hfz32_1
             try clear hfz35_0 hfz35_1
             try clear hx161_0
             try clear hx161_1
             try clear hx163_0
             try clear hx164_0
             try clear hx165_0
             try clear p161
             try clear p163
             try clear p164
             try clear p165
             try clear p2
             try clear q161
             try clear q163
             try clear q164
             try clear q165
             obtain ⟨x12_2, rfl, HA, HK2, BK156, BK162, HB⟩ := hrel
             cases gk with
             | zero => exact absurd HA.out (by simp [saronref05_Even.l0])
             | succ k2 =>
              have H := HA.out
              clear HA
              simp only [saronref05_Even.l0] at H
              by_cases c38 : x12_2 < ((rd_L1 ((rd_T63 l0_1 a1).f1) a2).length : Int)
              ·rw [if_pos c38] at H
               have c38b0 : decide (x12_2 < ((rd_L1 ((rd_T63 l0_1 a1).f1) a2).length : Int)) = true := decide_eq_true c38
               clear c38
               by_cases c39 : 0 ≤ x12_2
               ·rw [if_pos c39] at H
                have c39b0 : decide (0 ≤ x12_2) = true := decide_eq_true c39
                clear c39
                obtain ⟨ji40, hji40⟩ : ∃ j_ : Int, (wrap64 (x12_2 - 1)) = j_ := ⟨_, rfl⟩
                replace H : (if 0 ≤ (ji40) then (if (ji40) < ((rd_L1 ((rd_T63 l0_1 a1).f1) a2).length : Int) then (if (wrap64 ((rd (rd_L1 ((rd_T63 l0_1 a1).f1) a2) x12_2) - (rd (rd_L1 ((rd_T63 l0_1 a1).f1) a2) (ji40)))) = (wrap64 ((wrap64 ((rd (rd_L1 ((rd_T63 l0_1 a1).f1) a2) 0) + ((rd_T63 l0_1 a1).f0))) - (rd (rd_L1 ((rd_T63 l0_1 a1).f1) a2) (ji29)))) then (saronref05_Even.l0 k2 (rd_L1 ((rd_T63 l0_1 a1).f1) a2) (wrap64 ((wrap64 ((rd (rd_L1 ((rd_T63 l0_1 a1).f1) a2) 0) + ((rd_T63 l0_1 a1).f0))) - (rd (rd_L1 ((rd_T63 l0_1 a1).f1) a2) (ji29)))) (wrap64 (x12_2 + 1))) else (some (0, 4))) else (none)) else (none)) = some (r1, r2) := by first | (rw [hji40] at H; exact H) | (simp only [hji40] at H ⊢; exact H)
                have hji40w : (IntKind.i64.wrap (x12_2 - 1)) = ji40 := (i64_w _).trans hji40
                by_cases c41 : 0 ≤ (ji40)
                ·rw [if_pos c41] at H
                 have c41b0 : decide (0 ≤ (ji40)) = true := decide_eq_true c41
                 clear c41
                 by_cases c42 : (ji40) < ((rd_L1 ((rd_T63 l0_1 a1).f1) a2).length : Int)
                 ·rw [if_pos c42] at H
                  have c42b0 : decide ((ji40) < ((rd_L1 ((rd_T63 l0_1 a1).f1) a2).length : Int)) = true := decide_eq_true c42
                  clear c42
                  by_cases c43 : (wrap64 ((rd (rd_L1 ((rd_T63 l0_1 a1).f1) a2) x12_2) - (rd (rd_L1 ((rd_T63 l0_1 a1).f1) a2) (ji40)))) = (wrap64 ((wrap64 ((rd (rd_L1 ((rd_T63 l0_1 a1).f1) a2) 0) + ((rd_T63 l0_1 a1).f0))) - (rd (rd_L1 ((rd_T63 l0_1 a1).f1) a2) (ji29))))
                  ·rw [if_pos c43] at H
                   have c43b0 : ((wrap64 ((rd (rd_L1 ((rd_T63 l0_1 a1).f1) a2) x12_2) - (rd (rd_L1 ((rd_T63 l0_1 a1).f1) a2) (ji40)))) == (wrap64 ((wrap64 ((rd (rd_L1 ((rd_T63 l0_1 a1).f1) a2) 0) + ((rd_T63 l0_1 a1).f0))) - (rd (rd_L1 ((rd_T63 l0_1 a1).f1) a2) (ji29))))) = true := beq_iff_eq.mpr c43
                   have c43b1 : ((wrap64 ((rd (rd_L1 ((rd_T63 l0_1 a1).f1) a2) x12_2) - (rd (rd_L1 ((rd_T63 l0_1 a1).f1) a2) (ji40)))) != (wrap64 ((wrap64 ((rd (rd_L1 ((rd_T63 l0_1 a1).f1) a2) 0) + ((rd_T63 l0_1 a1).f0))) - (rd (rd_L1 ((rd_T63 l0_1 a1).f1) a2) (ji29))))) = false := bne_eq_false_iff_eq.mpr c43
                   clear c43
                   have H' := Aside0.mk H
                   clear H
                   try go_wp2
                   have n0_ := Aside0.mk (blk_drew BK156.out)
                   have n1_ := Aside0.mk (blk_drew BK162.out)
                   have n2_ := Aside0.mk (below_drew1 HB.out)
                   clear BK156
                   clear BK162
                   clear HB
                   have BK156 := n0_
                   have BK162 := n1_
                   have HB := n2_
                   clear n0_ n1_ n2_
                   have p166 : 0 ≤ (x12_2 : Int) := of_decide_eq_true TA
                   have q166 : x12_2 < ((rd_L1 ((rd_T63 l0_1 a1).f1) a2).length : Int) := of_decide_eq_true TA
                   obtain ⟨ad166, e166, hx166_0⟩ := Kd.at_int HR163_0.out x12_2 p166 q166
                   have hw166_0 := hx166_0
                   obtain rfl : ad164 = ad166 := (by injection e166)
                   replace hx166_0 := hx HB.out hx166_0
                   replace p166 := eq_true p166
                   replace q166 := eq_true q166
                   have p167 : 0 ≤ ((ji40) : Int) := of_decide_eq_true TA
                   have q167 : (ji40) < ((rd_L1 ((rd_T63 l0_1 a1).f1) a2).length : Int) := of_decide_eq_true TA
                   obtain ⟨ad167, e167, hx167_0⟩ := Kd.at_int HR163_0.out (ji40) p167 q167
                   have hw167_0 := hx167_0
                   obtain rfl : ad164 = ad167 := (by injection e167)
                   replace hx167_0 := hx HB.out hx167_0
                   replace p167 := eq_true p167
                   replace q167 := eq_true q167
                   refine start_ (n := 12) (S := fun w' => w'.cell? (ad164.add (x12_2).toNat) = some (.int .i64 (rd (rd_L1 ((rd_T63 l0_1 a1).f1) a2) x12_2)) ∧ w'.cell? (ad164.add ((ji40)).toNat) = some (.int .i64 (rd (rd_L1 ((rd_T63 l0_1 a1).f1) a2) (ji40)))) (ds := []) (.replicate 12 false) (by kernel_rfl) rfl rfl ⟨(hx HB.out hw166_0), (hx HB.out hw167_0)⟩ (fun hHeld => ?_); refine with_tabW saronref05_Even.tab12 saronref05_Even.bits12 (fun HT_ HW_ => ?_)
                   generalize wr.drew = w44 at BK156 BK162 HB hx166_0 hx167_0 hHeld ⊢
                   refine pT 0 58 (bt 12 1) (k := ?_)
                   refine pT 1 59 (bt 12 3) (k := ?_)
                   refine pT 2 60 (bt 12 7) (k := ?_)
                   refine pT 4 62 (bt 12 23) (k := ?_)
                   refine pT 5 63 (bt 12 55) (k := ?_)
                   refine pT 6 64 (bt 12 119) (k := ?_)
                   refine pT 7 65 (bt 12 247) (k := ?_)
                   refine pT 10 68 (bt 12 1271) (k := ?_)
                   refine tT2 3 61 (bt 12 1279) hHeld (k := ?_)
                   refine tT2 8 66 (bt 12 1535) hHeld (k := ?_)
                   refine pT 9 67 (bt 12 2047) (k := ?_)
                   refine pT 11 69 (bt 12 4095) (k := ?_)
                   refine done_ (done_of HT_.out (by kernel_rfl)) ?_
                   try go_wp2
                   go_roundg k2
                   case measure => have := HJ3.out; have := HK2.out; omega
                   case rel => exact ⟨(wrap64 (x12_2 + 1)), TT, H', ⟨by have := HJ3.out; have := HK2.out; omega⟩, ⟨TK BK156.out⟩, ⟨TK BK162.out⟩, ⟨TB2 GE156.out GE162.out⟩⟩
                  ·rw [if_neg c43] at H
                   have c43b0 : ((wrap64 ((rd (rd_L1 ((rd_T63 l0_1 a1).f1) a2) x12_2) - (rd (rd_L1 ((rd_T63 l0_1 a1).f1) a2) (ji40)))) == (wrap64 ((wrap64 ((rd (rd_L1 ((rd_T63 l0_1 a1).f1) a2) 0) + ((rd_T63 l0_1 a1).f0))) - (rd (rd_L1 ((rd_T63 l0_1 a1).f1) a2) (ji29))))) = false := beq_eq_false_iff_ne.mpr c43
                   have c43b1 : ((wrap64 ((rd (rd_L1 ((rd_T63 l0_1 a1).f1) a2) x12_2) - (rd (rd_L1 ((rd_T63 l0_1 a1).f1) a2) (ji40)))) != (wrap64 ((wrap64 ((rd (rd_L1 ((rd_T63 l0_1 a1).f1) a2) 0) + ((rd_T63 l0_1 a1).f0))) - (rd (rd_L1 ((rd_T63 l0_1 a1).f1) a2) (ji29))))) = true := bne_iff_ne.mpr c43
                   simp only [Option.some.injEq, Prod.mk.injEq] at H
                   obtain ⟨rfl, rfl⟩ := H
                   try go_wp2
                   have n0_ := Aside0.mk (blk_drew BK156.out)
                   have n1_ := Aside0.mk (blk_drew BK162.out)
                   have n2_ := Aside0.mk (below_drew1 HB.out)
                   clear BK156
                   clear BK162
                   clear HB
                   have BK156 := n0_
                   have BK162 := n1_
                   have HB := n2_
                   clear n0_ n1_ n2_
                   have p166 : 0 ≤ (x12_2 : Int) := of_decide_eq_true TA
                   have q166 : x12_2 < ((rd_L1 ((rd_T63 l0_1 a1).f1) a2).length : Int) := of_decide_eq_true TA
                   obtain ⟨ad166, e166, hx166_0⟩ := Kd.at_int HR163_0.out x12_2 p166 q166
                   have hw166_0 := hx166_0
                   obtain rfl : ad164 = ad166 := (by injection e166)
                   replace hx166_0 := hx HB.out hx166_0
                   replace p166 := eq_true p166
                   replace q166 := eq_true q166
                   have p167 : 0 ≤ ((ji40) : Int) := of_decide_eq_true TA
                   have q167 : (ji40) < ((rd_L1 ((rd_T63 l0_1 a1).f1) a2).length : Int) := of_decide_eq_true TA
                   obtain ⟨ad167, e167, hx167_0⟩ := Kd.at_int HR163_0.out (ji40) p167 q167
                   have hw167_0 := hx167_0
                   obtain rfl : ad164 = ad167 := (by injection e167)
                   replace hx167_0 := hx HB.out hx167_0
                   replace p167 := eq_true p167
                   replace q167 := eq_true q167
                   refine start_ (n := 12) (S := fun w' => w'.cell? (ad164.add (x12_2).toNat) = some (.int .i64 (rd (rd_L1 ((rd_T63 l0_1 a1).f1) a2) x12_2)) ∧ w'.cell? (ad164.add ((ji40)).toNat) = some (.int .i64 (rd (rd_L1 ((rd_T63 l0_1 a1).f1) a2) (ji40)))) (ds := []) (.replicate 12 false) (by kernel_rfl) rfl rfl ⟨(hx HB.out hw166_0), (hx HB.out hw167_0)⟩ (fun hHeld => ?_); refine with_tabW saronref05_Even.tab12 saronref05_Even.bits12 (fun HT_ HW_ => ?_)
                   generalize wr.drew = w45 at BK156 BK162 HB hx166_0 hx167_0 hHeld ⊢
                   refine pT 0 58 (bt 12 1) (k := ?_)
                   refine pT 1 59 (bt 12 3) (k := ?_)
                   refine pT 2 60 (bt 12 7) (k := ?_)
                   refine pT 4 62 (bt 12 23) (k := ?_)
                   refine pT 5 63 (bt 12 55) (k := ?_)
                   refine pT 6 64 (bt 12 119) (k := ?_)
                   refine pT 7 65 (bt 12 247) (k := ?_)
                   refine pT 10 68 (bt 12 1271) (k := ?_)
                   refine tT2 3 61 (bt 12 1279) hHeld (k := ?_)
                   refine tT2 8 66 (bt 12 1535) hHeld (k := ?_)
                   refine pT 9 67 (bt 12 2047) (k := ?_)
                   refine pT 11 69 (bt 12 4095) (k := ?_)
                   refine done_ (done_of HT_.out (by kernel_rfl)) ?_
                   try go_wp2
                   go_ret2
                   exact ⟨by first | rfl | (simp [errW_none, errW_some] <;> rfl) | (simp only [← hji29, ← hji40]; first | rfl | (simp [errW_none, errW_some] <;> rfl)) | (simp [*, errW_none, errW_some] <;> rfl), TB2 GE156.out GE162.out⟩
                 ·rw [if_neg c42] at H
                  exact absurd H (by simp)
                ·rw [if_neg c41] at H
                 exact absurd H (by simp)
               ·rw [if_neg c39] at H
                exact absurd H (by simp)
              ·rw [if_neg c38] at H
               have c38b0 : decide (x12_2 < ((rd_L1 ((rd_T63 l0_1 a1).f1) a2).length : Int)) = false := decide_eq_false c38
               clear c38
               simp only [Option.some.injEq, Prod.mk.injEq] at H
               obtain ⟨rfl, rfl⟩ := H
               go_wp2
               go_ret2
               exact ⟨by first | rfl | (simp [errW_none, errW_some] <;> rfl) | (simp only [← hji29]; first | rfl | (simp [errW_none, errW_some] <;> rfl)) | (simp [*, errW_none, errW_some] <;> rfl), TB2 GE156.out GE162.out⟩
           ·rw [if_neg c31] at H
            exact absurd H (by simp)
          ·rw [if_neg c30] at H
           exact absurd H (by simp)
         ·rw [if_neg c28] at H
          exact absurd H (by simp)
       ·rw [if_neg c22] at H
        exact absurd H (by simp)
      ·rw [if_neg c21] at H
       exact absurd H (by simp)
     ·rw [if_neg c20] at H
      exact absurd H (by simp)
    ·rw [if_neg c19] at H
     exact absurd H (by simp)
   ·rw [if_neg c18] at H
    have c18b0 : (x8_3 == 0) = false := beq_eq_false_iff_ne.mpr c18
    have c18b1 : (x8_3 != 0) = true := bne_iff_ne.mpr c18
    simp only [Option.some.injEq, Prod.mk.injEq] at H
    obtain ⟨rfl, rfl⟩ := H
    go_wp2
    go_ret2
    exact ⟨TR, TB1 GE156.out⟩
end Go.Proofs.YtephecfapclgfaaDoor.PRaspKeys
