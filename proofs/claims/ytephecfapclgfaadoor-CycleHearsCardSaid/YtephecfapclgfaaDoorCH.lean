import Derived.Test.YtephecfapclgfaaDoorC0
import Derived.Test.YtephecfapclgfaaDoorM0
import Derived.Test.YtephecfapclgfaaDoorProg
import Derived.Below
import Derived.Deep.Draws
import Derived.Deep.AppendLies
import Derived.Maps.AppendAt
import Derived.OwnWalk
import Derived.Laws.BytesArg
import Derived.Laws.MakeOwn
import Derived.Laws.OwnMore
import Derived.Deep.OwnRows
import Derived.Tactics
import Derived.Lib.ConvBytes
import Derived.Laws.Slices
import Derived.WalkKit
import Derived.KernelRfl
import Derived.RowKit3
import Derived.Deep.LoopGhost
import Derived.Deep.QuietTactic
import Derived.BigQuiet
import Derived.WideLaws
import Derived.Deep.DeepCutAuto
import Derived.Deep.CutBlock
import Derived.Deep.RegionHeld3
import Derived.Laws.Rows
import Derived.Lib.AppendStr
import Derived.ArgAppend
import Derived.Laws.IdiomCopy
import Derived.OrdersHeld
import Derived.Laws.BitsLemmas
import Derived.RowKit
set_option linter.unusedVariables false
set_option linter.unusedSimpArgs false
namespace Go.Proofs.YtephecfapclgfaaDoor.PRaspKeys
open Go.RowKit Go.Proofs.YtephecfapclgfaaDoorW.PrintWords Go.Proofs.YtephecfapclgfaaDoorW.PrintLast Go.Proofs.YtephecfapclgfaaDoorW.PrintMore Go.Proofs.YtephecfapclgfaaDoor.M
attribute [local go_sem] max2_int min2_int max_two min_two max_three min_three max_four min_four   -- for this text's walks alone
/-! #### struct type 63 -/
/-! #### struct type 38 -/
/-! #### struct type 97 -/
end Go.Proofs.YtephecfapclgfaaDoor.PRaspKeys
namespace Go.Proofs.YtephecfapclgfaaDoor.PRaspKeys
open Go.RowKit Go.Proofs.YtephecfapclgfaaDoorW.PrintWords Go.Proofs.YtephecfapclgfaaDoorW.PrintLast Go.Proofs.YtephecfapclgfaaDoorW.PrintMore Go.Proofs.YtephecfapclgfaaDoor.M
attribute [local go_sem] max2_int min2_int max_two min_two max_three min_three max_four min_four   -- for this text's walks alone
/-! ### saronref05_Passage: function 25 -/
def saronref05_Passage.f (k : Nat) (a0_0 : Int) (l0_1 : List (S63)) (a1_0 : Int) (a1_1 : Int) (a2 : Int) : Option ((List (List Int)) × Int) := (saronref05_isSpot.f a0_0 l0_1 a1_0 a1_1).bind fun t146 => (if t146 = true then ((saronref00_Sits.f a2 1 64).bind fun t147 => ((saronref05_asked.f k a0_0 l0_1 t147).bind fun t148 => (if t148 = 0 then ((saronref05_passage.f k a0_0 l0_1 a1_0 a1_1 a2).bind fun t149 => (some (t149, 0))) else (some (([] : List (List Int)), t148))))) else ((saronref05_asked.f k a0_0 l0_1 false).bind fun t152 => (if t152 = 0 then ((saronref05_passage.f k a0_0 l0_1 a1_0 a1_1 a2).bind fun t153 => (some (t153, 0))) else (some (([] : List (List Int)), t152)))))
theorem saronref05_Passage.mono : ∀ a0 a1 a2 a3 a4 k, LeO (saronref05_Passage.f k a0 a1 a2 a3 a4) (saronref05_Passage.f (k + 1) a0 a1 a2 a3 a4) := by
 intro a0 a1 a2 a3 a4 k
 unfold saronref05_Passage.f
 repeat' first
   | (with_reducible exact saronref05_asked.mono _ _ _ _)
   | (with_reducible exact saronref05_passage.mono _ _ _ _ _ _)
   | (with_reducible exact LeO.refl _)
   | (with_reducible exact LeO.none _)
   | (with_reducible refine LeO.ite ?_ ?_)
   | (with_reducible refine LeO.bind ?_ (fun _ => ?_))
   | exact saronref05_asked.mono _ _ _ _
   | exact saronref05_passage.mono _ _ _ _ _ _
   | exact LeO.none _
   | refine LeO.ite ?_ ?_
   | refine LeO.bind ?_ (fun _ => ?_)
def saronref05_Passage.T1 : Bool × List (List Nat × List Nat) := (true, [([], []), ([], []), ([], []), ([1, 2], [1, 2]), ([3, 3], [3]), ([4], [4]), ([5, 4, 4], [4, 5]), ([4, 6], [4, 6]), ([0, 7, 6], [0, 7]), ([8, 8, 0, 1, 2, 3, 4, 5, 6, 7, 8], [8])])
def saronref05_Passage.B1 : List Nat := [0, 0, 0, 6, 14, 30, 62, 126, 255, 511]
theorem saronref05_Passage.tab1 : rtab .any (opsOf Tryd.f25 1) = saronref05_Passage.T1 := by kernel_rfl
theorem saronref05_Passage.bits1 : waitsOk saronref05_Passage.T1.2 saronref05_Passage.B1 = true := by kernel_rfl
set_option maxHeartbeats 8000000 in
set_option maxRecDepth 100000 in
theorem saronref05_Passage.calls (k : Nat) (a0_0 : Int) (A0_1 : Option Addr) (c0_1 : Nat) (l0_1 : List (S63)) (a1_0 : Int) (a1_1 : Int) (a2 : Int) (r1 : List (List Int)) (r2 : Int) (w : World) (hr0_1 : Kd.C k63 w A0_1 l0_1.length l0_1) (hc0_1 : l0_1.length ≤ c0_1) (h : saronref05_Passage.f k a0_0 l0_1 a1_0 a1_1 a2 = some (r1, r2)) :
  Calls Tryd.prog 25 #[.agg #[.int .i64 a0_0, .slice A0_1 l0_1.length c0_1], .agg #[.int .i64 a1_0, .int .i64 a1_1], .int .i64 a2] w fun e w' => ∃ v0_ : Value, e = .returned (.tuple #[v0_, .int .i64 r2]) ∧ Kd.S (Kd.slice 3 (Kd.int .i64)) 26 w' w.heap.size (fun _ => True) v0_ r1 ∧ Below w.heap.size w w' := by
 have hu24 := Tryd.underlying24
 have hu38 := Tryd.underlying38
 have HR0_1 := Aside0.mk hr0_1
 have HC0_1 := Aside0.mk hc0_1
 clear hr0_1 hc0_1
 have HB := Aside0.mk (Below.refl w.heap.size w)
 have H : ((saronref05_isSpot.f a0_0 l0_1 a1_0 a1_1).bind fun t146 => (if t146 = true then ((saronref00_Sits.f a2 1 64).bind fun t147 => ((saronref05_asked.f k a0_0 l0_1 t147).bind fun t148 => (if t148 = 0 then ((saronref05_passage.f k a0_0 l0_1 a1_0 a1_1 a2).bind fun t149 => (some (t149, 0))) else (some (([] : List (List Int)), t148))))) else ((saronref05_asked.f k a0_0 l0_1 false).bind fun t152 => (if t152 = 0 then ((saronref05_passage.f k a0_0 l0_1 a1_0 a1_1 a2).bind fun t153 => (some (t153, 0))) else (some (([] : List (List Int)), t152)))))) = some (r1, r2) := h
 clear h
 replace H := Option.bind_eq_some_iff.mp H
 obtain ⟨t146, A40, H⟩ := H
 replace H : (if t146 = true then ((saronref00_Sits.f a2 1 64).bind fun t147 => ((saronref05_asked.f k a0_0 l0_1 t147).bind fun t148 => (if t148 = 0 then ((saronref05_passage.f k a0_0 l0_1 a1_0 a1_1 a2).bind fun t149 => (some (t149, 0))) else (some (([] : List (List Int)), t148))))) else ((saronref05_asked.f k a0_0 l0_1 false).bind fun t152 => (if t152 = 0 then ((saronref05_passage.f k a0_0 l0_1 a1_0 a1_1 a2).bind fun t153 => (some (t153, 0))) else (some (([] : List (List Int)), t152))))) = some (r1, r2) := H
 have A4 := Aside0.mk A40
 clear A40
 by_cases c5 : t146 = true
 ·subst c5
  have H1 : ((saronref00_Sits.f a2 1 64).bind fun t147 => ((saronref05_asked.f k a0_0 l0_1 t147).bind fun t148 => (if t148 = 0 then ((saronref05_passage.f k a0_0 l0_1 a1_0 a1_1 a2).bind fun t149 => (some (t149, 0))) else (some (([] : List (List Int)), t148))))) = some (r1, r2) := by rw [if_pos rfl] at H; exact H
  clear H
  have H := H1
  clear H1
  replace H := Option.bind_eq_some_iff.mp H
  obtain ⟨t147, A60, H⟩ := H
  replace H : ((saronref05_asked.f k a0_0 l0_1 t147).bind fun t148 => (if t148 = 0 then ((saronref05_passage.f k a0_0 l0_1 a1_0 a1_1 a2).bind fun t149 => (some (t149, 0))) else (some (([] : List (List Int)), t148)))) = some (r1, r2) := H
  have A6 := Aside0.mk A60
  clear A60
  replace H := Option.bind_eq_some_iff.mp H
  obtain ⟨t148, A70, H⟩ := H
  replace H : (if t148 = 0 then ((saronref05_passage.f k a0_0 l0_1 a1_0 a1_1 a2).bind fun t149 => (some (t149, 0))) else (some (([] : List (List Int)), t148))) = some (r1, r2) := H
  have A7 := Aside0.mk A70
  clear A70
  by_cases c8 : t148 = 0
  ·rw [if_pos c8] at H
   have c8b0 : (t148 == 0) = true := beq_iff_eq.mpr c8
   have c8b1 : (t148 != 0) = false := bne_eq_false_iff_eq.mpr c8
   clear c8
   replace H := Option.bind_eq_some_iff.mp H
   obtain ⟨t149, A90, H⟩ := H
   replace H : (some (t149, 0)) = some (r1, r2) := H
   have A9 := Aside0.mk A90
   clear A90
   simp only [Option.some.injEq, Prod.mk.injEq] at H
   obtain ⟨rfl, rfl⟩ := H
   go_enter Tryd.func25, Tryd.ntmps25
   try go_wp2_with (first | ((with_reducible refine gate_dst (N := 3) rfl ?_); refine box_event ?hg (N := 3) ?hd (cs := #[.int .i64 a0_0, .slice A0_1 l0_1.length c0_1]) (t := 24) ?hr ?_; (case hd => rfl); (case hg => rfl); (case hr => exact TS); intro gb144 hg w10 hbox hb; have BK144 := Aside0.mk (hbox); have GW144 := Aside0.mk ((TG : w.heap.size ≤ gb144)); have GE144 := Aside0.mk ((TG : w.heap.size ≤ gb144)); replace HB := Aside0.mk (below_step TB hb); clear hb hbox hg) | ((with_reducible refine gate_dst (N := 4) rfl ?_); refine box_event ?hg (N := 4) ?hd (cs := #[.int .i64 a1_0, .int .i64 a1_1]) (t := 38) ?hr ?_; (case hd => rfl); (case hg => rfl); (case hr => exact TS); intro gb145 hg w11 hbox hb; have BK145 := Aside0.mk (hbox); have GW145 := Aside0.mk ((TG1 GE144.out : w.heap.size ≤ gb145)); have GE145 := Aside0.mk ((TG1 GE144.out : w.heap.size ≤ gb145)); have NB144_145 := Aside0.mk ((by rw [hg]; exact Nat.ne_of_lt (blk_lt (g := gb144) (o := .cells #[.int .i64 a0_0, .slice A0_1 l0_1.length c0_1] 24 (0, 0)) (TK BK144.out)) : gb144 ≠ gb145)); have NB145_144 := Aside0.mk ((by rw [hg]; exact Nat.ne_of_gt (blk_lt (g := gb144) (o := .cells #[.int .i64 a0_0, .slice A0_1 l0_1.length c0_1] 24 (0, 0)) (TK BK144.out)) : gb145 ≠ gb144)); replace BK144 := Aside0.mk (TKb hb BK144.out); replace HB := Aside0.mk (below_step (TB1 GE144.out) hb); clear hb hbox hg))
   have n0_ := Aside0.mk (blk_drew BK144.out)
   have n1_ := Aside0.mk (blk_drew BK145.out)
   have n2_ := Aside0.mk (below_drew1 HB.out)
   clear BK144
   clear BK145
   clear HB
   have BK144 := n0_
   have BK145 := n1_
   have HB := n2_
   clear n0_ n1_ n2_
   refine start_ (n := 10) (S := fun w' => w'.cell? ⟨gb144, 0, none⟩ = some (.int .i64 a0_0) ∧ w'.cell? ⟨gb144, 1, none⟩ = some (.slice A0_1 l0_1.length c0_1) ∧ w'.cell? ⟨gb145, 0, none⟩ = some (.int .i64 a1_0) ∧ w'.cell? ⟨gb145, 1, none⟩ = some (.int .i64 a1_1)) (ds := []) (.replicate 10 false) (by kernel_rfl) rfl rfl ⟨cz BK144.out 0, cz BK144.out 1, cz BK145.out 0, cz BK145.out 1⟩ (fun hHeld => ?_); refine with_tabW saronref05_Passage.tab1 saronref05_Passage.bits1 (fun HT_ HW_ => ?_)
   generalize w11.drew = w12 at BK144 BK145 HB hHeld ⊢
   refine tT4 0 9 (bt 10 1) hHeld (k := ?_)
   refine tT4 1 10 (bt 10 3) hHeld (k := ?_)
   refine tT4 2 11 (bt 10 7) hHeld (k := ?_)
   refine one_ (i := 3) (N := some 12) (bt 10 15) rfl rfl (one_of HT_.out (by kernel_rfl)) (by decide) (fun K hK => ?_)
   refine goes_ Tryd.func72 (by kernel_rfl) rfl #[.agg #[.int .i64 a0_0, .slice A0_1 l0_1.length c0_1], .agg #[.int .i64 a1_0, .int .i64 a1_1]] (by rfl) rfl rfl TM ?_
   with_reducible refine (saronref05_isSpot.calls a0_0 _ _ l0_1 a1_0 a1_1 true _ ?side1 ?side2 A4.out).mono ?_
   (case side1 => exact TC HR0_1.out)
   (case side2 => exact HC0_1.out)
   rintro e w13 ⟨rfl, hb⟩
   refine ⟨_, rfl, ?_⟩
   have n0_ := Aside0.mk (TKb hb BK144.out)
   have n1_ := Aside0.mk (TKb hb BK145.out)
   have n2_ := Aside0.mk (below_step (TB2 GE144.out GE145.out) hb)
   clear BK144
   clear BK145
   clear HB
   have BK144 := n0_
   have BK145 := n1_
   have HB := n2_
   clear n0_ n1_ n2_
   (try clear hb)
   (try clear hb2)
   (try clear hk)
   (try clear hi)
   refine hK.out _ _ ⟨cz BK144.out 0, cz BK144.out 1, cz BK145.out 0, cz BK145.out 1⟩ (fun hHeld => ?_)
   clear hK K
   refine norm_ (a' := ?_) ?_ ?_
   rotate_left
   ·show Act.put _ (some 12) _ = _
    simp only [Act.put, lA, lZ, lS, i64_w, i32_w]
    rfl
   refine pT 4 13 (bt 10 31) (k := ?_)
   refine pT 5 14 (bt 10 63) (k := ?_)
   refine one_ (i := 6) (N := some 15) (bt 10 127) rfl rfl (one_of HT_.out (by kernel_rfl)) (by decide) (fun K hK => ?_)
   refine goes_ Tryd.func43 (by kernel_rfl) rfl #[.int .i64 a2, .int .i64 1, .int .i64 64] (by rfl) rfl rfl TM ?_
   with_reducible refine (saronref00_Sits.calls a2 1 64 t147 _ A6.out).mono ?_
   rintro e w' ⟨rfl, ⟨nd, rfl⟩⟩
   refine ⟨_, rfl, ?_⟩
   refine hK.out _ _ ⟨cz BK144.out 0, cz BK144.out 1, cz BK145.out 0, cz BK145.out 1⟩ (fun hHeld => ?_)
   clear hK K
   refine norm_ (a' := ?_) ?_ ?_
   rotate_left
   ·show Act.put _ (some 15) _ = _
    simp only [Act.put, lA, lZ, lS, i64_w, i32_w]
    rfl
   refine pT 7 16 (bt 10 255) (k := ?_)
   refine one_ (i := 8) (N := some 17) (bt 10 511) rfl rfl (one_of HT_.out (by kernel_rfl)) (by decide) (fun K hK => ?_)
   refine goes_ Tryd.func58 (by kernel_rfl) rfl #[.agg #[.int .i64 a0_0, .slice A0_1 l0_1.length c0_1], .bool t147] (by rfl) rfl rfl TM ?_
   with_reducible refine (saronref05_asked.calls k a0_0 _ _ l0_1 t147 t148 _ ?side1 ?side2 A7.out).mono ?_
   (case side1 => exact TD HR0_1.out (TB2 GE144.out GE145.out))
   (case side2 => exact HC0_1.out)
   rintro e w14 ⟨rfl, hb⟩
   refine ⟨_, rfl, ?_⟩
   have n0_ := Aside0.mk (TKb hb BK144.out)
   have n1_ := Aside0.mk (TKb hb BK145.out)
   have n2_ := Aside0.mk (below_step (TB2 GE144.out GE145.out) hb)
   clear BK144
   clear BK145
   clear HB
   have BK144 := n0_
   have BK145 := n1_
   have HB := n2_
   clear n0_ n1_ n2_
   (try clear hb)
   (try clear hb2)
   (try clear hk)
   (try clear hi)
   refine hK.out _ _ ⟨cz BK144.out 0, cz BK144.out 1, cz BK145.out 0, cz BK145.out 1⟩ (fun hHeld => ?_)
   clear hK K
   refine norm_ (a' := ?_) ?_ ?_
   rotate_left
   ·show Act.put _ (some 17) _ = _
    simp only [Act.put, lA, lZ, lS, i64_w, i32_w]
    rfl
   refine pT 9 8 (bt 10 1023) (k := ?_)
   refine done_ (done_of HT_.out (by kernel_rfl)) ?_
   have hnb15 := NB144_145.out
   have hnc15 := NB145_144.out
   have hcz16_0 := cz BK144.out 0
   have hcz16_1 := cz BK144.out 1
   have hfz16_0 := fz BK144.out 0
   have hfz16_1 := fz BK144.out 1
   have hcz17_0 := cz BK145.out 0
   have hcz17_1 := cz BK145.out 1
   have hfz17_0 := fz BK145.out 0
   have hfz17_1 := fz BK145.out 1
   try go_wp2_with (first | ((with_reducible refine gate_callee (f := 73) rfl ?_); refine goesL_ (some 24) rfl rfl Tryd.func73 (by kernel_rfl) rfl #[.agg #[.int .i64 a0_0, .slice A0_1 l0_1.length c0_1], .agg #[.int .i64 a1_0, .int .i64 a1_1], .int .i64 a2] rfl TM ?_; (with_reducible refine (saronref05_passage.calls k a0_0 _ _ l0_1 a1_0 a1_1 a2 t149 _ ?side1 ?side2 A9.out).mono ?_); (case side1 => exact TC HR0_1.out); (case side2 => exact HC0_1.out); rintro e w18 ⟨v150, rfl, ho0, hb⟩; refine ⟨_, rfl, ?_⟩; have HO151 := Aside0.mk (Kd.S_lower ho0 (below_size (TB2 GE144.out GE145.out))); replace BK144 := Aside0.mk (TKb hb BK144.out); replace BK145 := Aside0.mk (TKb hb BK145.out); replace HB := Aside0.mk (below_step (TB2 GE144.out GE145.out) hb); (try clear hb); (try clear hb2); (try clear hk); (try clear hi); (try clear ho0)))
   go_ret2
   exact ⟨_, TR, by (with_reducible repeat (first | apply Kd.S_alloc | apply Kd.S_drewN | apply Kd.S_drew)); exact HO151.out, TB2 GE144.out GE145.out⟩
  ·rw [if_neg c8] at H
   have c8b0 : (t148 == 0) = false := beq_eq_false_iff_ne.mpr c8
   have c8b1 : (t148 != 0) = true := bne_iff_ne.mpr c8
   simp only [Option.some.injEq, Prod.mk.injEq] at H
   obtain ⟨rfl, rfl⟩ := H
   go_enter Tryd.func25, Tryd.ntmps25
   try go_wp2_with (first | ((with_reducible refine gate_dst (N := 3) rfl ?_); refine box_event ?hg (N := 3) ?hd (cs := #[.int .i64 a0_0, .slice A0_1 l0_1.length c0_1]) (t := 24) ?hr ?_; (case hd => rfl); (case hg => rfl); (case hr => exact TS); intro gb144 hg w19 hbox hb; have BK144 := Aside0.mk (hbox); have GW144 := Aside0.mk ((TG : w.heap.size ≤ gb144)); have GE144 := Aside0.mk ((TG : w.heap.size ≤ gb144)); replace HB := Aside0.mk (below_step TB hb); clear hb hbox hg) | ((with_reducible refine gate_dst (N := 4) rfl ?_); refine box_event ?hg (N := 4) ?hd (cs := #[.int .i64 a1_0, .int .i64 a1_1]) (t := 38) ?hr ?_; (case hd => rfl); (case hg => rfl); (case hr => exact TS); intro gb145 hg w20 hbox hb; have BK145 := Aside0.mk (hbox); have GW145 := Aside0.mk ((TG1 GE144.out : w.heap.size ≤ gb145)); have GE145 := Aside0.mk ((TG1 GE144.out : w.heap.size ≤ gb145)); have NB144_145 := Aside0.mk ((by rw [hg]; exact Nat.ne_of_lt (blk_lt (g := gb144) (o := .cells #[.int .i64 a0_0, .slice A0_1 l0_1.length c0_1] 24 (0, 0)) (TK BK144.out)) : gb144 ≠ gb145)); have NB145_144 := Aside0.mk ((by rw [hg]; exact Nat.ne_of_gt (blk_lt (g := gb144) (o := .cells #[.int .i64 a0_0, .slice A0_1 l0_1.length c0_1] 24 (0, 0)) (TK BK144.out)) : gb145 ≠ gb144)); replace BK144 := Aside0.mk (TKb hb BK144.out); replace HB := Aside0.mk (below_step (TB1 GE144.out) hb); clear hb hbox hg))
   have n0_ := Aside0.mk (blk_drew BK144.out)
   have n1_ := Aside0.mk (blk_drew BK145.out)
   have n2_ := Aside0.mk (below_drew1 HB.out)
   clear BK144
   clear BK145
   clear HB
   have BK144 := n0_
   have BK145 := n1_
   have HB := n2_
   clear n0_ n1_ n2_
   refine start_ (n := 10) (S := fun w' => w'.cell? ⟨gb144, 0, none⟩ = some (.int .i64 a0_0) ∧ w'.cell? ⟨gb144, 1, none⟩ = some (.slice A0_1 l0_1.length c0_1) ∧ w'.cell? ⟨gb145, 0, none⟩ = some (.int .i64 a1_0) ∧ w'.cell? ⟨gb145, 1, none⟩ = some (.int .i64 a1_1)) (ds := []) (.replicate 10 false) (by kernel_rfl) rfl rfl ⟨cz BK144.out 0, cz BK144.out 1, cz BK145.out 0, cz BK145.out 1⟩ (fun hHeld => ?_); refine with_tabW saronref05_Passage.tab1 saronref05_Passage.bits1 (fun HT_ HW_ => ?_)
   generalize w20.drew = w21 at BK144 BK145 HB hHeld ⊢
   refine tT4 0 9 (bt 10 1) hHeld (k := ?_)
   refine tT4 1 10 (bt 10 3) hHeld (k := ?_)
   refine tT4 2 11 (bt 10 7) hHeld (k := ?_)
   refine one_ (i := 3) (N := some 12) (bt 10 15) rfl rfl (one_of HT_.out (by kernel_rfl)) (by decide) (fun K hK => ?_)
   refine goes_ Tryd.func72 (by kernel_rfl) rfl #[.agg #[.int .i64 a0_0, .slice A0_1 l0_1.length c0_1], .agg #[.int .i64 a1_0, .int .i64 a1_1]] (by rfl) rfl rfl TM ?_
   with_reducible refine (saronref05_isSpot.calls a0_0 _ _ l0_1 a1_0 a1_1 true _ ?side1 ?side2 A4.out).mono ?_
   (case side1 => exact TC HR0_1.out)
   (case side2 => exact HC0_1.out)
   rintro e w22 ⟨rfl, hb⟩
   refine ⟨_, rfl, ?_⟩
   have n0_ := Aside0.mk (TKb hb BK144.out)
   have n1_ := Aside0.mk (TKb hb BK145.out)
   have n2_ := Aside0.mk (below_step (TB2 GE144.out GE145.out) hb)
   clear BK144
   clear BK145
   clear HB
   have BK144 := n0_
   have BK145 := n1_
   have HB := n2_
   clear n0_ n1_ n2_
   (try clear hb)
   (try clear hb2)
   (try clear hk)
   (try clear hi)
   refine hK.out _ _ ⟨cz BK144.out 0, cz BK144.out 1, cz BK145.out 0, cz BK145.out 1⟩ (fun hHeld => ?_)
   clear hK K
   refine norm_ (a' := ?_) ?_ ?_
   rotate_left
   ·show Act.put _ (some 12) _ = _
    simp only [Act.put, lA, lZ, lS, i64_w, i32_w]
    rfl
   refine pT 4 13 (bt 10 31) (k := ?_)
   refine pT 5 14 (bt 10 63) (k := ?_)
   refine one_ (i := 6) (N := some 15) (bt 10 127) rfl rfl (one_of HT_.out (by kernel_rfl)) (by decide) (fun K hK => ?_)
   refine goes_ Tryd.func43 (by kernel_rfl) rfl #[.int .i64 a2, .int .i64 1, .int .i64 64] (by rfl) rfl rfl TM ?_
   with_reducible refine (saronref00_Sits.calls a2 1 64 t147 _ A6.out).mono ?_
   rintro e w' ⟨rfl, ⟨nd, rfl⟩⟩
   refine ⟨_, rfl, ?_⟩
   refine hK.out _ _ ⟨cz BK144.out 0, cz BK144.out 1, cz BK145.out 0, cz BK145.out 1⟩ (fun hHeld => ?_)
   clear hK K
   refine norm_ (a' := ?_) ?_ ?_
   rotate_left
   ·show Act.put _ (some 15) _ = _
    simp only [Act.put, lA, lZ, lS, i64_w, i32_w]
    rfl
   refine pT 7 16 (bt 10 255) (k := ?_)
   refine one_ (i := 8) (N := some 17) (bt 10 511) rfl rfl (one_of HT_.out (by kernel_rfl)) (by decide) (fun K hK => ?_)
   refine goes_ Tryd.func58 (by kernel_rfl) rfl #[.agg #[.int .i64 a0_0, .slice A0_1 l0_1.length c0_1], .bool t147] (by rfl) rfl rfl TM ?_
   with_reducible refine (saronref05_asked.calls k a0_0 _ _ l0_1 t147 t148 _ ?side1 ?side2 A7.out).mono ?_
   (case side1 => exact TD HR0_1.out (TB2 GE144.out GE145.out))
   (case side2 => exact HC0_1.out)
   rintro e w23 ⟨rfl, hb⟩
   refine ⟨_, rfl, ?_⟩
   have n0_ := Aside0.mk (TKb hb BK144.out)
   have n1_ := Aside0.mk (TKb hb BK145.out)
   have n2_ := Aside0.mk (below_step (TB2 GE144.out GE145.out) hb)
   clear BK144
   clear BK145
   clear HB
   have BK144 := n0_
   have BK145 := n1_
   have HB := n2_
   clear n0_ n1_ n2_
   (try clear hb)
   (try clear hb2)
   (try clear hk)
   (try clear hi)
   refine hK.out _ _ ⟨cz BK144.out 0, cz BK144.out 1, cz BK145.out 0, cz BK145.out 1⟩ (fun hHeld => ?_)
   clear hK K
   refine norm_ (a' := ?_) ?_ ?_
   rotate_left
   ·show Act.put _ (some 17) _ = _
    simp only [Act.put, lA, lZ, lS, i64_w, i32_w]
    rfl
   refine pT 9 8 (bt 10 1023) (k := ?_)
   refine done_ (done_of HT_.out (by kernel_rfl)) ?_
   try go_wp2
   go_ret2
   exact ⟨_, TR, by first | exact Kd.S_nil _ _ _ _ _ | exact Kd.N_nil _ _ _ _ _ | exact Kd.V_nil _ _ _ _ _ | exact Kd.Q_nil _ _ _ _ _ | exact Kd.R_nil _ _ _ _ _, TB2 GE144.out GE145.out⟩
 ·replace c5 := Bool.eq_false_iff.mpr c5
  subst c5
  have H1 : ((saronref05_asked.f k a0_0 l0_1 false).bind fun t152 => (if t152 = 0 then ((saronref05_passage.f k a0_0 l0_1 a1_0 a1_1 a2).bind fun t153 => (some (t153, 0))) else (some (([] : List (List Int)), t152)))) = some (r1, r2) := by rw [if_neg (show ¬ (false = true) by decide)] at H; exact H
  clear H
  have H := H1
  clear H1
  replace H := Option.bind_eq_some_iff.mp H
  obtain ⟨t152, A240, H⟩ := H
  replace H : (if t152 = 0 then ((saronref05_passage.f k a0_0 l0_1 a1_0 a1_1 a2).bind fun t153 => (some (t153, 0))) else (some (([] : List (List Int)), t152))) = some (r1, r2) := H
  have A24 := Aside0.mk A240
  clear A240
  by_cases c25 : t152 = 0
  ·rw [if_pos c25] at H
   have c25b0 : (t152 == 0) = true := beq_iff_eq.mpr c25
   have c25b1 : (t152 != 0) = false := bne_eq_false_iff_eq.mpr c25
   clear c25
   replace H := Option.bind_eq_some_iff.mp H
   obtain ⟨t153, A260, H⟩ := H
   replace H : (some (t153, 0)) = some (r1, r2) := H
   have A26 := Aside0.mk A260
   clear A260
   simp only [Option.some.injEq, Prod.mk.injEq] at H
   obtain ⟨rfl, rfl⟩ := H
   go_enter Tryd.func25, Tryd.ntmps25
   try go_wp2_with (first | ((with_reducible refine gate_dst (N := 3) rfl ?_); refine box_event ?hg (N := 3) ?hd (cs := #[.int .i64 a0_0, .slice A0_1 l0_1.length c0_1]) (t := 24) ?hr ?_; (case hd => rfl); (case hg => rfl); (case hr => exact TS); intro gb144 hg w27 hbox hb; have BK144 := Aside0.mk (hbox); have GW144 := Aside0.mk ((TG : w.heap.size ≤ gb144)); have GE144 := Aside0.mk ((TG : w.heap.size ≤ gb144)); replace HB := Aside0.mk (below_step TB hb); clear hb hbox hg) | ((with_reducible refine gate_dst (N := 4) rfl ?_); refine box_event ?hg (N := 4) ?hd (cs := #[.int .i64 a1_0, .int .i64 a1_1]) (t := 38) ?hr ?_; (case hd => rfl); (case hg => rfl); (case hr => exact TS); intro gb145 hg w28 hbox hb; have BK145 := Aside0.mk (hbox); have GW145 := Aside0.mk ((TG1 GE144.out : w.heap.size ≤ gb145)); have GE145 := Aside0.mk ((TG1 GE144.out : w.heap.size ≤ gb145)); have NB144_145 := Aside0.mk ((by rw [hg]; exact Nat.ne_of_lt (blk_lt (g := gb144) (o := .cells #[.int .i64 a0_0, .slice A0_1 l0_1.length c0_1] 24 (0, 0)) (TK BK144.out)) : gb144 ≠ gb145)); have NB145_144 := Aside0.mk ((by rw [hg]; exact Nat.ne_of_gt (blk_lt (g := gb144) (o := .cells #[.int .i64 a0_0, .slice A0_1 l0_1.length c0_1] 24 (0, 0)) (TK BK144.out)) : gb145 ≠ gb144)); replace BK144 := Aside0.mk (TKb hb BK144.out); replace HB := Aside0.mk (below_step (TB1 GE144.out) hb); clear hb hbox hg))
   have n0_ := Aside0.mk (blk_drew BK144.out)
   have n1_ := Aside0.mk (blk_drew BK145.out)
   have n2_ := Aside0.mk (below_drew1 HB.out)
   clear BK144
   clear BK145
   clear HB
   have BK144 := n0_
   have BK145 := n1_
   have HB := n2_
   clear n0_ n1_ n2_
   refine start_ (n := 10) (S := fun w' => w'.cell? ⟨gb144, 0, none⟩ = some (.int .i64 a0_0) ∧ w'.cell? ⟨gb144, 1, none⟩ = some (.slice A0_1 l0_1.length c0_1) ∧ w'.cell? ⟨gb145, 0, none⟩ = some (.int .i64 a1_0) ∧ w'.cell? ⟨gb145, 1, none⟩ = some (.int .i64 a1_1)) (ds := []) (.replicate 10 false) (by kernel_rfl) rfl rfl ⟨cz BK144.out 0, cz BK144.out 1, cz BK145.out 0, cz BK145.out 1⟩ (fun hHeld => ?_); refine with_tabW saronref05_Passage.tab1 saronref05_Passage.bits1 (fun HT_ HW_ => ?_)
   generalize w28.drew = w29 at BK144 BK145 HB hHeld ⊢
   refine tT4 0 9 (bt 10 1) hHeld (k := ?_)
   refine tT4 1 10 (bt 10 3) hHeld (k := ?_)
   refine tT4 2 11 (bt 10 7) hHeld (k := ?_)
   refine one_ (i := 3) (N := some 12) (bt 10 15) rfl rfl (one_of HT_.out (by kernel_rfl)) (by decide) (fun K hK => ?_)
   refine goes_ Tryd.func72 (by kernel_rfl) rfl #[.agg #[.int .i64 a0_0, .slice A0_1 l0_1.length c0_1], .agg #[.int .i64 a1_0, .int .i64 a1_1]] (by rfl) rfl rfl TM ?_
   with_reducible refine (saronref05_isSpot.calls a0_0 _ _ l0_1 a1_0 a1_1 false _ ?side1 ?side2 A4.out).mono ?_
   (case side1 => exact TC HR0_1.out)
   (case side2 => exact HC0_1.out)
   rintro e w30 ⟨rfl, hb⟩
   refine ⟨_, rfl, ?_⟩
   have n0_ := Aside0.mk (TKb hb BK144.out)
   have n1_ := Aside0.mk (TKb hb BK145.out)
   have n2_ := Aside0.mk (below_step (TB2 GE144.out GE145.out) hb)
   clear BK144
   clear BK145
   clear HB
   have BK144 := n0_
   have BK145 := n1_
   have HB := n2_
   clear n0_ n1_ n2_
   (try clear hb)
   (try clear hb2)
   (try clear hk)
   (try clear hi)
   refine hK.out _ _ ⟨cz BK144.out 0, cz BK144.out 1, cz BK145.out 0, cz BK145.out 1⟩ (fun hHeld => ?_)
   clear hK K
   refine norm_ (a' := ?_) ?_ ?_
   rotate_left
   ·show Act.put _ (some 12) _ = _
    simp only [Act.put, lA, lZ, lS, i64_w, i32_w]
    rfl
   refine pT 4 13 (bt 10 31) (k := ?_)
   refine pU 5 14 (bt 10 63) (k := ?_)
   refine pU 6 15 (bt 10 127) (k := ?_)
   refine pT 7 16 (bt 10 255) (k := ?_)
   refine one_ (i := 8) (N := some 17) (bt 10 511) rfl rfl (one_of HT_.out (by kernel_rfl)) (by decide) (fun K hK => ?_)
   refine goes_ Tryd.func58 (by kernel_rfl) rfl #[.agg #[.int .i64 a0_0, .slice A0_1 l0_1.length c0_1], .bool false] (by rfl) rfl rfl TM ?_
   with_reducible refine (saronref05_asked.calls k a0_0 _ _ l0_1 false t152 _ ?side1 ?side2 A24.out).mono ?_
   (case side1 => exact TC HR0_1.out)
   (case side2 => exact HC0_1.out)
   rintro e w31 ⟨rfl, hb⟩
   refine ⟨_, rfl, ?_⟩
   have n0_ := Aside0.mk (TKb hb BK144.out)
   have n1_ := Aside0.mk (TKb hb BK145.out)
   have n2_ := Aside0.mk (below_step (TB2 GE144.out GE145.out) hb)
   clear BK144
   clear BK145
   clear HB
   have BK144 := n0_
   have BK145 := n1_
   have HB := n2_
   clear n0_ n1_ n2_
   (try clear hb)
   (try clear hb2)
   (try clear hk)
   (try clear hi)
   refine hK.out _ _ ⟨cz BK144.out 0, cz BK144.out 1, cz BK145.out 0, cz BK145.out 1⟩ (fun hHeld => ?_)
   clear hK K
   refine norm_ (a' := ?_) ?_ ?_
   rotate_left
   ·show Act.put _ (some 17) _ = _
    simp only [Act.put, lA, lZ, lS, i64_w, i32_w]
    rfl
   refine pT 9 8 (bt 10 1023) (k := ?_)
   refine done_ (done_of HT_.out (by kernel_rfl)) ?_
   have hnb32 := NB144_145.out
   have hnc32 := NB145_144.out
   have hcz33_0 := cz BK144.out 0
   have hcz33_1 := cz BK144.out 1
   have hfz33_0 := fz BK144.out 0
   have hfz33_1 := fz BK144.out 1
   have hcz34_0 := cz BK145.out 0
   have hcz34_1 := cz BK145.out 1
   have hfz34_0 := fz BK145.out 0
   have hfz34_1 := fz BK145.out 1
   try go_wp2_with (first | ((with_reducible refine gate_callee (f := 73) rfl ?_); refine goesL_ (some 24) rfl rfl Tryd.func73 (by kernel_rfl) rfl #[.agg #[.int .i64 a0_0, .slice A0_1 l0_1.length c0_1], .agg #[.int .i64 a1_0, .int .i64 a1_1], .int .i64 a2] rfl TM ?_; (with_reducible refine (saronref05_passage.calls k a0_0 _ _ l0_1 a1_0 a1_1 a2 t153 _ ?side1 ?side2 A26.out).mono ?_); (case side1 => exact TC HR0_1.out); (case side2 => exact HC0_1.out); rintro e w35 ⟨v154, rfl, ho0, hb⟩; refine ⟨_, rfl, ?_⟩; have HO155 := Aside0.mk (Kd.S_lower ho0 (below_size (TB2 GE144.out GE145.out))); replace BK144 := Aside0.mk (TKb hb BK144.out); replace BK145 := Aside0.mk (TKb hb BK145.out); replace HB := Aside0.mk (below_step (TB2 GE144.out GE145.out) hb); (try clear hb); (try clear hb2); (try clear hk); (try clear hi); (try clear ho0)))
   go_ret2
   exact ⟨_, TR, by (with_reducible repeat (first | apply Kd.S_alloc | apply Kd.S_drewN | apply Kd.S_drew)); exact HO155.out, TB2 GE144.out GE145.out⟩
  ·rw [if_neg c25] at H
   have c25b0 : (t152 == 0) = false := beq_eq_false_iff_ne.mpr c25
   have c25b1 : (t152 != 0) = true := bne_iff_ne.mpr c25
   simp only [Option.some.injEq, Prod.mk.injEq] at H
   obtain ⟨rfl, rfl⟩ := H
   go_enter Tryd.func25, Tryd.ntmps25
   try go_wp2_with (first | ((with_reducible refine gate_dst (N := 3) rfl ?_); refine box_event ?hg (N := 3) ?hd (cs := #[.int .i64 a0_0, .slice A0_1 l0_1.length c0_1]) (t := 24) ?hr ?_; (case hd => rfl); (case hg => rfl); (case hr => exact TS); intro gb144 hg w36 hbox hb; have BK144 := Aside0.mk (hbox); have GW144 := Aside0.mk ((TG : w.heap.size ≤ gb144)); have GE144 := Aside0.mk ((TG : w.heap.size ≤ gb144)); replace HB := Aside0.mk (below_step TB hb); clear hb hbox hg) | ((with_reducible refine gate_dst (N := 4) rfl ?_); refine box_event ?hg (N := 4) ?hd (cs := #[.int .i64 a1_0, .int .i64 a1_1]) (t := 38) ?hr ?_; (case hd => rfl); (case hg => rfl); (case hr => exact TS); intro gb145 hg w37 hbox hb; have BK145 := Aside0.mk (hbox); have GW145 := Aside0.mk ((TG1 GE144.out : w.heap.size ≤ gb145)); have GE145 := Aside0.mk ((TG1 GE144.out : w.heap.size ≤ gb145)); have NB144_145 := Aside0.mk ((by rw [hg]; exact Nat.ne_of_lt (blk_lt (g := gb144) (o := .cells #[.int .i64 a0_0, .slice A0_1 l0_1.length c0_1] 24 (0, 0)) (TK BK144.out)) : gb144 ≠ gb145)); have NB145_144 := Aside0.mk ((by rw [hg]; exact Nat.ne_of_gt (blk_lt (g := gb144) (o := .cells #[.int .i64 a0_0, .slice A0_1 l0_1.length c0_1] 24 (0, 0)) (TK BK144.out)) : gb145 ≠ gb144)); replace BK144 := Aside0.mk (TKb hb BK144.out); replace HB := Aside0.mk (below_step (TB1 GE144.out) hb); clear hb hbox hg))
   have n0_ := Aside0.mk (blk_drew BK144.out)
   have n1_ := Aside0.mk (blk_drew BK145.out)
   have n2_ := Aside0.mk (below_drew1 HB.out)
   clear BK144
   clear BK145
   clear HB
   have BK144 := n0_
   have BK145 := n1_
   have HB := n2_
   clear n0_ n1_ n2_
   refine start_ (n := 10) (S := fun w' => w'.cell? ⟨gb144, 0, none⟩ = some (.int .i64 a0_0) ∧ w'.cell? ⟨gb144, 1, none⟩ = some (.slice A0_1 l0_1.length c0_1) ∧ w'.cell? ⟨gb145, 0, none⟩ = some (.int .i64 a1_0) ∧ w'.cell? ⟨gb145, 1, none⟩ = some (.int .i64 a1_1)) (ds := []) (.replicate 10 false) (by kernel_rfl) rfl rfl ⟨cz BK144.out 0, cz BK144.out 1, cz BK145.out 0, cz BK145.out 1⟩ (fun hHeld => ?_); refine with_tabW saronref05_Passage.tab1 saronref05_Passage.bits1 (fun HT_ HW_ => ?_)
   generalize w37.drew = w38 at BK144 BK145 HB hHeld ⊢
   refine tT4 0 9 (bt 10 1) hHeld (k := ?_)
   refine tT4 1 10 (bt 10 3) hHeld (k := ?_)
   refine tT4 2 11 (bt 10 7) hHeld (k := ?_)
   refine one_ (i := 3) (N := some 12) (bt 10 15) rfl rfl (one_of HT_.out (by kernel_rfl)) (by decide) (fun K hK => ?_)
   refine goes_ Tryd.func72 (by kernel_rfl) rfl #[.agg #[.int .i64 a0_0, .slice A0_1 l0_1.length c0_1], .agg #[.int .i64 a1_0, .int .i64 a1_1]] (by rfl) rfl rfl TM ?_
   with_reducible refine (saronref05_isSpot.calls a0_0 _ _ l0_1 a1_0 a1_1 false _ ?side1 ?side2 A4.out).mono ?_
   (case side1 => exact TC HR0_1.out)
   (case side2 => exact HC0_1.out)
   rintro e w39 ⟨rfl, hb⟩
   refine ⟨_, rfl, ?_⟩
   have n0_ := Aside0.mk (TKb hb BK144.out)
   have n1_ := Aside0.mk (TKb hb BK145.out)
   have n2_ := Aside0.mk (below_step (TB2 GE144.out GE145.out) hb)
   clear BK144
   clear BK145
   clear HB
   have BK144 := n0_
   have BK145 := n1_
   have HB := n2_
   clear n0_ n1_ n2_
   (try clear hb)
   (try clear hb2)
   (try clear hk)
   (try clear hi)
   refine hK.out _ _ ⟨cz BK144.out 0, cz BK144.out 1, cz BK145.out 0, cz BK145.out 1⟩ (fun hHeld => ?_)
   clear hK K
   refine norm_ (a' := ?_) ?_ ?_
   rotate_left
   ·show Act.put _ (some 12) _ = _
    simp only [Act.put, lA, lZ, lS, i64_w, i32_w]
    rfl
   refine pT 4 13 (bt 10 31) (k := ?_)
   refine pU 5 14 (bt 10 63) (k := ?_)
   refine pU 6 15 (bt 10 127) (k := ?_)
   refine pT 7 16 (bt 10 255) (k := ?_)
   refine one_ (i := 8) (N := some 17) (bt 10 511) rfl rfl (one_of HT_.out (by kernel_rfl)) (by decide) (fun K hK => ?_)
   refine goes_ Tryd.func58 (by kernel_rfl) rfl #[.agg #[.int .i64 a0_0, .slice A0_1 l0_1.length c0_1], .bool false] (by rfl) rfl rfl TM ?_
   with_reducible refine (saronref05_asked.calls k a0_0 _ _ l0_1 false t152 _ ?side1 ?side2 A24.out).mono ?_
   (case side1 => exact TC HR0_1.out)
   (case side2 => exact HC0_1.out)
   rintro e w40 ⟨rfl, hb⟩
   refine ⟨_, rfl, ?_⟩
   have n0_ := Aside0.mk (TKb hb BK144.out)
   have n1_ := Aside0.mk (TKb hb BK145.out)
   have n2_ := Aside0.mk (below_step (TB2 GE144.out GE145.out) hb)
   clear BK144
   clear BK145
   clear HB
   have BK144 := n0_
   have BK145 := n1_
   have HB := n2_
   clear n0_ n1_ n2_
   (try clear hb)
   (try clear hb2)
   (try clear hk)
   (try clear hi)
   refine hK.out _ _ ⟨cz BK144.out 0, cz BK144.out 1, cz BK145.out 0, cz BK145.out 1⟩ (fun hHeld => ?_)
   clear hK K
   refine norm_ (a' := ?_) ?_ ?_
   rotate_left
   ·show Act.put _ (some 17) _ = _
    simp only [Act.put, lA, lZ, lS, i64_w, i32_w]
    rfl
   refine pT 9 8 (bt 10 1023) (k := ?_)
   refine done_ (done_of HT_.out (by kernel_rfl)) ?_
   try go_wp2
   go_ret2
   exact ⟨_, TR, by first | exact Kd.S_nil _ _ _ _ _ | exact Kd.N_nil _ _ _ _ _ | exact Kd.V_nil _ _ _ _ _ | exact Kd.Q_nil _ _ _ _ _ | exact Kd.R_nil _ _ _ _ _, TB2 GE144.out GE145.out⟩
end Go.Proofs.YtephecfapclgfaaDoor.PRaspKeys
namespace Go.Proofs.YtephecfapclgfaaDoor.PRaspKeys
open Go.RowKit Go.Proofs.YtephecfapclgfaaDoorW.PrintWords Go.Proofs.YtephecfapclgfaaDoorW.PrintLast Go.Proofs.YtephecfapclgfaaDoorW.PrintMore Go.Proofs.YtephecfapclgfaaDoor.M
attribute [local go_sem] max2_int min2_int max_two min_two max_three min_three max_four min_four   -- for this text's walks alone
/-! ### saronref05_Places: function 28 -/
mutual
def saronref05_Places.j0 : Nat → List (List Int) → Int → Int → Int → List (S63) → Option ((List (S38)) × Int)
 | 0, _, _, _, _, _ => none
 | k + 1, x1, x2, x8, x185000, x185001 => if x8 = 0 then ((saronref05_spots.f k x185000 x185001).bind fun t189 => (saronref05_Places.l0 k x1 x2 t189 ([] : List (S38)) 0 x185000 x185001)) else (some (([] : List (S38)), x8))
def saronref05_Places.l0 : Nat → List (List Int) → Int → List (S38) → List (S38) → Int → Int → List (S63) → Option ((List (S38)) × Int)
 | 0, _, _, _, _, _, _, _ => none
 | k + 1, x1, x2, x9, x10, x11, x185000, x185001 => if x11 < (x9.length : Int) then (if 0 ≤ x11 then ((saronref05_missing.f k x185000 x185001 ((rd_T38 x9 x11).f0) ((rd_T38 x9 x11).f1) x1).bind fun bt193 => (if bt193.2 = true then (if (bt193.1.length : Int) ≤ x2 then (if x10.length < 8796093022208 then (saronref05_Places.l0 k x1 x2 x9 (x10 ++ [(⟨(rd_T38 x9 x11).f0, (rd_T38 x9 x11).f1⟩ : S38)]) (wrap64 (x11 + 1)) x185000 x185001) else (none)) else (saronref05_Places.l0 k x1 x2 x9 x10 (wrap64 (x11 + 1)) x185000 x185001)) else (saronref05_Places.l0 k x1 x2 x9 x10 (wrap64 (x11 + 1)) x185000 x185001))) else (none)) else (some (x10, 0))
end
def saronref05_Places.f (k : Nat) (a0_0 : Int) (l0_1 : List (S63)) (l1 : List (List Int)) (a2 : Int) : Option ((List (S38)) × Int) := (saronref05_IsHeard.f k a0_0 l0_1 l1).bind fun t185 => (if t185 = true then ((saronref00_Sits.f a2 0 6).bind fun t186 => ((saronref05_asked.f k a0_0 l0_1 t186).bind fun t187 => (saronref05_Places.j0 k l1 a2 t187 a0_0 l0_1))) else ((saronref05_asked.f k a0_0 l0_1 false).bind fun t188 => (saronref05_Places.j0 k l1 a2 t188 a0_0 l0_1)))
theorem saronref05_Places.mono_l : ∀ k, (∀ y0 y1 y2 y3 y4, LeO (saronref05_Places.j0 k y0 y1 y2 y3 y4) (saronref05_Places.j0 (k + 1) y0 y1 y2 y3 y4)) ∧ (∀ y0 y1 y2 y3 y4 y5 y6, LeO (saronref05_Places.l0 k y0 y1 y2 y3 y4 y5 y6) (saronref05_Places.l0 (k + 1) y0 y1 y2 y3 y4 y5 y6))
 | 0 => ⟨fun _ _ _ _ _ r h => by simp [saronref05_Places.j0] at h, fun _ _ _ _ _ _ _ r h => by simp [saronref05_Places.l0] at h⟩
 | k + 1 => by
  obtain ⟨ih0, ih1⟩ := saronref05_Places.mono_l k
  refine ⟨?_, ?_⟩
  ·intro y0 y1 y2 y3 y4
   unfold saronref05_Places.j0
   repeat' first
   | (with_reducible exact ih0 _ _ _ _ _)
   | (with_reducible exact ih1 _ _ _ _ _ _ _)
   | (with_reducible exact saronref05_IsHeard.mono _ _ _ _)
   | (with_reducible exact saronref05_asked.mono _ _ _ _)
   | (with_reducible exact saronref05_missing.mono _ _ _ _ _ _)
   | (with_reducible exact saronref05_spots.mono _ _ _)
   | (with_reducible exact LeO.refl _)
   | (with_reducible exact LeO.none _)
   | (with_reducible refine LeO.ite ?_ ?_)
   | (with_reducible refine LeO.bind ?_ (fun _ => ?_))
   | exact ih0 _ _ _ _ _
   | exact ih1 _ _ _ _ _ _ _
   | exact saronref05_IsHeard.mono _ _ _ _
   | exact saronref05_asked.mono _ _ _ _
   | exact saronref05_missing.mono _ _ _ _ _ _
   | exact saronref05_spots.mono _ _ _
   | exact LeO.none _
   | refine LeO.ite ?_ ?_
   | refine LeO.bind ?_ (fun _ => ?_)
  ·intro y0 y1 y2 y3 y4 y5 y6
   unfold saronref05_Places.l0
   repeat' first
   | (with_reducible exact ih0 _ _ _ _ _)
   | (with_reducible exact ih1 _ _ _ _ _ _ _)
   | (with_reducible exact saronref05_IsHeard.mono _ _ _ _)
   | (with_reducible exact saronref05_asked.mono _ _ _ _)
   | (with_reducible exact saronref05_missing.mono _ _ _ _ _ _)
   | (with_reducible exact saronref05_spots.mono _ _ _)
   | (with_reducible exact LeO.refl _)
   | (with_reducible exact LeO.none _)
   | (with_reducible refine LeO.ite ?_ ?_)
   | (with_reducible refine LeO.bind ?_ (fun _ => ?_))
   | exact ih0 _ _ _ _ _
   | exact ih1 _ _ _ _ _ _ _
   | exact saronref05_IsHeard.mono _ _ _ _
   | exact saronref05_asked.mono _ _ _ _
   | exact saronref05_missing.mono _ _ _ _ _ _
   | exact saronref05_spots.mono _ _ _
   | exact LeO.none _
   | refine LeO.ite ?_ ?_
   | refine LeO.bind ?_ (fun _ => ?_)
theorem saronref05_Places.mono : ∀ a0 a1 a2 a3 k, LeO (saronref05_Places.f k a0 a1 a2 a3) (saronref05_Places.f (k + 1) a0 a1 a2 a3) := by
 intro a0 a1 a2 a3 k
 obtain ⟨ih0, ih1⟩ := saronref05_Places.mono_l k
 unfold saronref05_Places.f
 repeat' first
   | (with_reducible exact ih0 _ _ _ _ _)
   | (with_reducible exact ih1 _ _ _ _ _ _ _)
   | (with_reducible exact saronref05_IsHeard.mono _ _ _ _)
   | (with_reducible exact saronref05_asked.mono _ _ _ _)
   | (with_reducible exact saronref05_missing.mono _ _ _ _ _ _)
   | (with_reducible exact saronref05_spots.mono _ _ _)
   | (with_reducible exact LeO.refl _)
   | (with_reducible exact LeO.none _)
   | (with_reducible refine LeO.ite ?_ ?_)
   | (with_reducible refine LeO.bind ?_ (fun _ => ?_))
   | exact ih0 _ _ _ _ _
   | exact ih1 _ _ _ _ _ _ _
   | exact saronref05_IsHeard.mono _ _ _ _
   | exact saronref05_asked.mono _ _ _ _
   | exact saronref05_missing.mono _ _ _ _ _ _
   | exact saronref05_spots.mono _ _ _
   | exact LeO.none _
   | refine LeO.ite ?_ ?_
   | refine LeO.bind ?_ (fun _ => ?_)
def saronref05_Places.T1 : Bool × List (List Nat × List Nat) := (true, [([], []), ([], []), ([], []), ([1, 2], [1, 2]), ([3, 3], [3]), ([4], [4]), ([5, 4, 4], [4, 5]), ([4, 6], [4, 6]), ([0, 7, 6], [0, 7]), ([8, 8, 0, 1, 2, 3, 4, 5, 6, 7, 8], [8])])
def saronref05_Places.B1 : List Nat := [0, 0, 0, 6, 14, 30, 62, 126, 255, 511]
theorem saronref05_Places.tab1 : rtab .any (opsOf Tryd.f28 1) = saronref05_Places.T1 := by kernel_rfl
theorem saronref05_Places.bits1 : waitsOk saronref05_Places.T1.2 saronref05_Places.B1 = true := by kernel_rfl
def saronref05_Places.T9 : Bool × List (List Nat × List Nat) := (true, [([], []), ([], []), ([], []), ([1, 2], [1, 2]), ([3], [3]), ([], []), ([0, 4, 5], [0, 4, 5]), ([6], [6]), ([7], [7]), ([7], [7]), ([8, 6, 0, 1, 2, 3, 4, 5, 6, 7, 8], [8]), ([9, 10, 0, 1, 2, 3, 4, 5, 6, 7, 8, 9, 10], [9])])
def saronref05_Places.B9 : List Nat := [0, 0, 0, 6, 14, 0, 63, 127, 255, 255, 511, 2047]
theorem saronref05_Places.tab9 : rtab .any (opsOf Tryd.f28 9) = saronref05_Places.T9 := by kernel_rfl
theorem saronref05_Places.bits9 : waitsOk saronref05_Places.T9.2 saronref05_Places.B9 = true := by kernel_rfl
set_option maxHeartbeats 8000000 in
set_option maxRecDepth 100000 in
theorem saronref05_Places.calls (k : Nat) (a0_0 : Int) (A0_1 : Option Addr) (c0_1 : Nat) (l0_1 : List (S63)) (A1 : Option Addr) (c1 : Nat) (l1 : List (List Int)) (a2 : Int) (r1 : List (S38)) (r2 : Int) (w : World) (hr0_1 : Kd.C k63 w A0_1 l0_1.length l0_1) (hc0_1 : l0_1.length ≤ c0_1) (hr1 : Kd.C (Kd.slice 3 (Kd.int .i64)) w A1 l1.length l1) (hc1 : l1.length ≤ c1) (h : saronref05_Places.f k a0_0 l0_1 l1 a2 = some (r1, r2)) :
  Calls Tryd.prog 28 #[.agg #[.int .i64 a0_0, .slice A0_1 l0_1.length c0_1], .slice A1 l1.length c1, .int .i64 a2] w fun e w' => ∃ v0_ : Value, e = .returned (.tuple #[v0_, .int .i64 r2]) ∧ Kd.R k38 38 w' w.heap.size (fun _ => True) v0_ r1 ∧ Below w.heap.size w w' := by
 have hu24 := Tryd.underlying24
 have hu38 := Tryd.underlying38
 have HR0_1 := Aside0.mk hr0_1
 have HC0_1 := Aside0.mk hc0_1
 clear hr0_1 hc0_1
 have HR1 := Aside0.mk hr1
 have HC1 := Aside0.mk hc1
 clear hr1 hc1
 have HB := Aside0.mk (Below.refl w.heap.size w)
 have H : ((saronref05_IsHeard.f k a0_0 l0_1 l1).bind fun t185 => (if t185 = true then ((saronref00_Sits.f a2 0 6).bind fun t186 => ((saronref05_asked.f k a0_0 l0_1 t186).bind fun t187 => (saronref05_Places.j0 k l1 a2 t187 a0_0 l0_1))) else ((saronref05_asked.f k a0_0 l0_1 false).bind fun t188 => (saronref05_Places.j0 k l1 a2 t188 a0_0 l0_1)))) = some (r1, r2) := h
 clear h
 have HC4 := Aside0.mk H
 clear H
 go_enter Tryd.func28, Tryd.ntmps28
 go_upto_region 1 with (first | ((with_reducible refine gate_dst (N := 3) rfl ?_); (try (refine gate_guard (by rfl) ?_; dsimp only)); refine box_event ?hg (N := 3) ?hd (cs := #[.int .i64 a0_0, .slice A0_1 l0_1.length c0_1]) (t := 24) ?hr ?_; (case hd => rfl); (case hg => rfl); (case hr => exact TS); intro gb184 hg w5 hbox hb; have BK184 := Aside0.mk (hbox); have GW184 := Aside0.mk ((TG : w.heap.size ≤ gb184)); have GE184 := Aside0.mk ((TG : w.heap.size ≤ gb184)); replace HB := Aside0.mk (below_step TB hb); clear hb hbox hg))
 (try simp only [Act.put, lA, lZ, lS])
 go_cut [8] (fun v8 wc => ∃ (kq : Nat) (x8_3 : Int), v8 = .int .i64 x8_3 ∧ Aside0 (saronref05_Places.j0 kq l1 a2 x8_3 a0_0 l0_1 = some (r1, r2)) ∧ Aside0 (kq ≤ k) ∧ Aside0 (wc.heap[gb184]? = some (.cells #[.int .i64 a0_0, (.slice A0_1 l0_1.length c0_1)] 24 (0, 0))) ∧ Aside0 (Below w.heap.size w wc))
 case first => as_aux_lemma =>
  have H := HC4.out
  clear HC4
  replace H := Option.bind_eq_some_iff.mp H
  obtain ⟨t185, A60, H⟩ := H
  replace H : (if t185 = true then ((saronref00_Sits.f a2 0 6).bind fun t186 => ((saronref05_asked.f k a0_0 l0_1 t186).bind fun t187 => (saronref05_Places.j0 k l1 a2 t187 a0_0 l0_1))) else ((saronref05_asked.f k a0_0 l0_1 false).bind fun t188 => (saronref05_Places.j0 k l1 a2 t188 a0_0 l0_1))) = some (r1, r2) := H
  have A6 := Aside0.mk A60
  clear A60
  by_cases c7 : t185 = true
  ·subst c7
   have H1 : ((saronref00_Sits.f a2 0 6).bind fun t186 => ((saronref05_asked.f k a0_0 l0_1 t186).bind fun t187 => (saronref05_Places.j0 k l1 a2 t187 a0_0 l0_1))) = some (r1, r2) := by rw [if_pos rfl] at H; exact H
   clear H
   have H := H1
   clear H1
   replace H := Option.bind_eq_some_iff.mp H
   obtain ⟨t186, A80, H⟩ := H
   replace H : ((saronref05_asked.f k a0_0 l0_1 t186).bind fun t187 => (saronref05_Places.j0 k l1 a2 t187 a0_0 l0_1)) = some (r1, r2) := H
   have A8 := Aside0.mk A80
   clear A80
   replace H := Option.bind_eq_some_iff.mp H
   obtain ⟨t187, A90, H⟩ := H
   replace H : (saronref05_Places.j0 k l1 a2 t187 a0_0 l0_1) = some (r1, r2) := H
   have A9 := Aside0.mk A90
   clear A90
   have H' := Aside0.mk H
   clear H
   try go_wp2
   have n0_ := Aside0.mk (blk_drew BK184.out)
   have n1_ := Aside0.mk (below_drew1 HB.out)
   clear BK184
   clear HB
   have BK184 := n0_
   have HB := n1_
   clear n0_ n1_
   refine start_ (n := 10) (S := fun w' => w'.cell? ⟨gb184, 0, none⟩ = some (.int .i64 a0_0) ∧ w'.cell? ⟨gb184, 1, none⟩ = some (.slice A0_1 l0_1.length c0_1)) (ds := []) (.replicate 10 false) (by kernel_rfl) rfl rfl ⟨cz BK184.out 0, cz BK184.out 1⟩ (fun hHeld => ?_); refine with_tabW saronref05_Places.tab1 saronref05_Places.bits1 (fun HT_ HW_ => ?_)
   generalize w5.drew = w10 at BK184 HB hHeld ⊢
   refine pT 2 16 (bt 10 4) (k := ?_)
   refine tT2 0 14 (bt 10 5) hHeld (k := ?_)
   refine tT2 1 15 (bt 10 7) hHeld (k := ?_)
   refine one_ (i := 3) (N := some 17) (bt 10 15) rfl rfl (one_of HT_.out (by kernel_rfl)) (by decide) (fun K hK => ?_)
   refine goes_ Tryd.func78 (by kernel_rfl) rfl #[.agg #[.int .i64 a0_0, .slice A0_1 l0_1.length c0_1], .slice A1 l1.length c1] (by rfl) rfl rfl TM ?_
   with_reducible refine (saronref05_IsHeard.calls k a0_0 _ _ l0_1 _ _ l1 true _ ?side1 ?side2 ?side3 ?side4 A6.out).mono ?_
   (case side1 => exact TC HR0_1.out)
   (case side2 => exact HC0_1.out)
   (case side3 => exact TC HR1.out)
   (case side4 => exact HC1.out)
   rintro e w11 ⟨rfl, hb⟩
   refine ⟨_, rfl, ?_⟩
   have n0_ := Aside0.mk (TKb hb BK184.out)
   have n1_ := Aside0.mk (below_step (TB1 GE184.out) hb)
   clear BK184
   clear HB
   have BK184 := n0_
   have HB := n1_
   clear n0_ n1_
   (try clear hb)
   (try clear hb2)
   (try clear hk)
   (try clear hi)
   refine hK.out _ _ ⟨cz BK184.out 0, cz BK184.out 1⟩ (fun hHeld => ?_)
   clear hK K
   refine norm_ (a' := ?_) ?_ ?_
   rotate_left
   ·show Act.put _ (some 17) _ = _
    simp only [Act.put, lA, lZ, lS, i64_w, i32_w]
    rfl
   refine pT 4 18 (bt 10 31) (k := ?_)
   refine pT 5 19 (bt 10 63) (k := ?_)
   refine one_ (i := 6) (N := some 20) (bt 10 127) rfl rfl (one_of HT_.out (by kernel_rfl)) (by decide) (fun K hK => ?_)
   refine goes_ Tryd.func43 (by kernel_rfl) rfl #[.int .i64 a2, .int .i64 0, .int .i64 6] (by rfl) rfl rfl TM ?_
   with_reducible refine (saronref00_Sits.calls a2 0 6 t186 _ A8.out).mono ?_
   rintro e w' ⟨rfl, ⟨nd, rfl⟩⟩
   refine ⟨_, rfl, ?_⟩
   refine hK.out _ _ ⟨cz BK184.out 0, cz BK184.out 1⟩ (fun hHeld => ?_)
   clear hK K
   refine norm_ (a' := ?_) ?_ ?_
   rotate_left
   ·show Act.put _ (some 20) _ = _
    simp only [Act.put, lA, lZ, lS, i64_w, i32_w]
    rfl
   refine pT 7 21 (bt 10 255) (k := ?_)
   refine one_ (i := 8) (N := some 22) (bt 10 511) rfl rfl (one_of HT_.out (by kernel_rfl)) (by decide) (fun K hK => ?_)
   refine goes_ Tryd.func58 (by kernel_rfl) rfl #[.agg #[.int .i64 a0_0, .slice A0_1 l0_1.length c0_1], .bool t186] (by rfl) rfl rfl TM ?_
   with_reducible refine (saronref05_asked.calls k a0_0 _ _ l0_1 t186 t187 _ ?side1 ?side2 A9.out).mono ?_
   (case side1 => exact TD HR0_1.out (TB1 GE184.out))
   (case side2 => exact HC0_1.out)
   rintro e w12 ⟨rfl, hb⟩
   refine ⟨_, rfl, ?_⟩
   have n0_ := Aside0.mk (TKb hb BK184.out)
   have n1_ := Aside0.mk (below_step (TB1 GE184.out) hb)
   clear BK184
   clear HB
   have BK184 := n0_
   have HB := n1_
   clear n0_ n1_
   (try clear hb)
   (try clear hb2)
   (try clear hk)
   (try clear hi)
   refine hK.out _ _ ⟨cz BK184.out 0, cz BK184.out 1⟩ (fun hHeld => ?_)
   clear hK K
   refine norm_ (a' := ?_) ?_ ?_
   rotate_left
   ·show Act.put _ (some 22) _ = _
    simp only [Act.put, lA, lZ, lS, i64_w, i32_w]
    rfl
   refine pT 9 8 (bt 10 1023) (k := ?_)
   refine done_ (done_of HT_.out (by kernel_rfl)) ?_
   try go_wp2
   go_meet
   case rel => exact ⟨_, (t187), TT, H', ⟨by first | omega | exact Nat.le_refl _⟩, ⟨TK BK184.out⟩, ⟨TB1 GE184.out⟩⟩
  ·replace c7 := Bool.eq_false_iff.mpr c7
   subst c7
   have H1 : ((saronref05_asked.f k a0_0 l0_1 false).bind fun t188 => (saronref05_Places.j0 k l1 a2 t188 a0_0 l0_1)) = some (r1, r2) := by rw [if_neg (show ¬ (false = true) by decide)] at H; exact H
   clear H
   have H := H1
   clear H1
   replace H := Option.bind_eq_some_iff.mp H
   obtain ⟨t188, A130, H⟩ := H
   replace H : (saronref05_Places.j0 k l1 a2 t188 a0_0 l0_1) = some (r1, r2) := H
   have A13 := Aside0.mk A130
   clear A130
   have H' := Aside0.mk H
   clear H
   try go_wp2
   have n0_ := Aside0.mk (blk_drew BK184.out)
   have n1_ := Aside0.mk (below_drew1 HB.out)
   clear BK184
   clear HB
   have BK184 := n0_
   have HB := n1_
   clear n0_ n1_
   refine start_ (n := 10) (S := fun w' => w'.cell? ⟨gb184, 0, none⟩ = some (.int .i64 a0_0) ∧ w'.cell? ⟨gb184, 1, none⟩ = some (.slice A0_1 l0_1.length c0_1)) (ds := []) (.replicate 10 false) (by kernel_rfl) rfl rfl ⟨cz BK184.out 0, cz BK184.out 1⟩ (fun hHeld => ?_); refine with_tabW saronref05_Places.tab1 saronref05_Places.bits1 (fun HT_ HW_ => ?_)
   generalize w5.drew = w14 at BK184 HB hHeld ⊢
   refine pT 2 16 (bt 10 4) (k := ?_)
   refine tT2 0 14 (bt 10 5) hHeld (k := ?_)
   refine tT2 1 15 (bt 10 7) hHeld (k := ?_)
   refine one_ (i := 3) (N := some 17) (bt 10 15) rfl rfl (one_of HT_.out (by kernel_rfl)) (by decide) (fun K hK => ?_)
   refine goes_ Tryd.func78 (by kernel_rfl) rfl #[.agg #[.int .i64 a0_0, .slice A0_1 l0_1.length c0_1], .slice A1 l1.length c1] (by rfl) rfl rfl TM ?_
   with_reducible refine (saronref05_IsHeard.calls k a0_0 _ _ l0_1 _ _ l1 false _ ?side1 ?side2 ?side3 ?side4 A6.out).mono ?_
   (case side1 => exact TC HR0_1.out)
   (case side2 => exact HC0_1.out)
   (case side3 => exact TC HR1.out)
   (case side4 => exact HC1.out)
   rintro e w15 ⟨rfl, hb⟩
   refine ⟨_, rfl, ?_⟩
   have n0_ := Aside0.mk (TKb hb BK184.out)
   have n1_ := Aside0.mk (below_step (TB1 GE184.out) hb)
   clear BK184
   clear HB
   have BK184 := n0_
   have HB := n1_
   clear n0_ n1_
   (try clear hb)
   (try clear hb2)
   (try clear hk)
   (try clear hi)
   refine hK.out _ _ ⟨cz BK184.out 0, cz BK184.out 1⟩ (fun hHeld => ?_)
   clear hK K
   refine norm_ (a' := ?_) ?_ ?_
   rotate_left
   ·show Act.put _ (some 17) _ = _
    simp only [Act.put, lA, lZ, lS, i64_w, i32_w]
    rfl
   refine pT 4 18 (bt 10 31) (k := ?_)
   refine pU 5 19 (bt 10 63) (k := ?_)
   refine pU 6 20 (bt 10 127) (k := ?_)
   refine pT 7 21 (bt 10 255) (k := ?_)
   refine one_ (i := 8) (N := some 22) (bt 10 511) rfl rfl (one_of HT_.out (by kernel_rfl)) (by decide) (fun K hK => ?_)
   refine goes_ Tryd.func58 (by kernel_rfl) rfl #[.agg #[.int .i64 a0_0, .slice A0_1 l0_1.length c0_1], .bool false] (by rfl) rfl rfl TM ?_
   with_reducible refine (saronref05_asked.calls k a0_0 _ _ l0_1 false t188 _ ?side1 ?side2 A13.out).mono ?_
   (case side1 => exact TC HR0_1.out)
   (case side2 => exact HC0_1.out)
   rintro e w16 ⟨rfl, hb⟩
   refine ⟨_, rfl, ?_⟩
   have n0_ := Aside0.mk (TKb hb BK184.out)
   have n1_ := Aside0.mk (below_step (TB1 GE184.out) hb)
   clear BK184
   clear HB
   have BK184 := n0_
   have HB := n1_
   clear n0_ n1_
   (try clear hb)
   (try clear hb2)
   (try clear hk)
   (try clear hi)
   refine hK.out _ _ ⟨cz BK184.out 0, cz BK184.out 1⟩ (fun hHeld => ?_)
   clear hK K
   refine norm_ (a' := ?_) ?_ ?_
   rotate_left
   ·show Act.put _ (some 22) _ = _
    simp only [Act.put, lA, lZ, lS, i64_w, i32_w]
    rfl
   refine pT 9 8 (bt 10 1023) (k := ?_)
   refine done_ (done_of HT_.out (by kernel_rfl)) ?_
   try go_wp2
   go_meet
   case rel => exact ⟨_, (t188), TT, H', ⟨by first | omega | exact Nat.le_refl _⟩, ⟨TK BK184.out⟩, ⟨TB1 GE184.out⟩⟩
 case rest => as_aux_lemma =>
  clear HC4
  try clear c1
  try clear c2
  try clear p2
  try clear c4
  try clear c5
  try clear c7
  obtain ⟨kq, x8_3, rfl, HA, HJ3, BK184, HB⟩ := hcut
  cases kq with
  | zero => exact absurd HA.out (by simp [saronref05_Places.j0])
  | succ kj3 =>
   have H := HA.out
   clear HA
   simp only [saronref05_Places.j0] at H
   by_cases c17 : x8_3 = 0
   ·rw [if_pos c17] at H
    have c17b0 : (x8_3 == 0) = true := beq_iff_eq.mpr c17
    have c17b1 : (x8_3 != 0) = false := bne_eq_false_iff_eq.mpr c17
    clear c17
    replace H := Option.bind_eq_some_iff.mp H
    obtain ⟨t189, A180, H⟩ := H
    replace H : (saronref05_Places.l0 kj3 l1 a2 t189 ([] : List (S38)) 0 a0_0 l0_1) = some (r1, r2) := H
    have A18 := Aside0.mk A180
    clear A180
    have H' := Aside0.mk H
    clear H
    have hcz19_0 := cz BK184.out 0
    have hcz19_1 := cz BK184.out 1
    have hfz19_0 := fz BK184.out 0
    have hfz19_1 := fz BK184.out 1
    go_wp2_with (first | ((with_reducible refine gate_callee (f := 79) rfl ?_); refine goesL_ (some 27) rfl rfl Tryd.func79 (by kernel_rfl) rfl #[.agg #[.int .i64 a0_0, .slice A0_1 l0_1.length c0_1]] rfl TM ?_; (with_reducible refine (saronref05_spots.calls kj3 a0_0 _ _ l0_1 t189 _ ?side1 ?side2 A18.out).mono ?_); (case side1 => exact TC HR0_1.out); (case side2 => exact HC0_1.out); rintro e w20 ⟨v190, rfl, ho0, hb⟩; refine ⟨_, rfl, ?_⟩; have HO191 := Aside0.mk (Kd.R_lower ho0 (below_size (TB1 GE184.out))); replace BK184 := Aside0.mk (TKb hb BK184.out); replace HB := Aside0.mk (below_step (TB1 GE184.out) hb); (try clear hb); (try clear hb2); (try clear hk); (try clear hi); (try clear ho0)))
    go_loopg [10, 11] kj3 (fun kq v10 v11 w' => ∃ (x10_2 : List (S38)) (x11_2 : Int), v11 = .int .i64 x11_2 ∧ Aside0 (saronref05_Places.l0 kq l1 a2 t189 x10_2 x11_2 a0_0 l0_1 = some (r1, r2)) ∧ Aside0 (kq ≤ kj3) ∧ Aside0 (Kd.R k38 38 w' w.heap.size (fun k_ => some k_ ≠ (v10 : Value).ownBlock) v190 t189) ∧ Aside0 (Kd.R k38 38 w' w.heap.size (fun k_ => some k_ ≠ (v190 : Value).ownBlock) v10 x10_2) ∧ Aside0 (w'.heap[gb184]? = some (.cells #[.int .i64 a0_0, (.slice A0_1 l0_1.length c0_1)] 24 (0, 0))) ∧ Aside0 (Below w.heap.size w w'))
    case atStart => exact ⟨(([] : List (S38))), (0), TT, H', ⟨Nat.le_refl _⟩, ⟨by (with_reducible repeat (first | apply Kd.R_alloc | apply Kd.R_drewN | apply Kd.R_drew)); exact Kd.R_mono HO191.out (fun _ hk => (by simp [Value.ownBlock]))⟩, ⟨by first | exact Kd.R_nil _ _ _ _ _ | exact Kd.N_nil _ _ _ _ _ | exact Kd.V_nil _ _ _ _ _ | exact Kd.Q_nil _ _ _ _ _ | exact Kd.S_nil _ _ _ _ _⟩, ⟨TK BK184.out⟩, ⟨TB1 GE184.out⟩⟩
    case round => as_aux_lemma =>
     clear H'
     try clear c1
     try clear c2
     try clear p2
     try clear c4
     try clear c5
     try clear c7
     try clear c17
     try clear c17b0
     try clear c17b1
     try clear hcz19_0 hcz19_1 hfz19_0 hfz19_1
     try clear p2
     obtain ⟨x10_2, x11_2, rfl, HA, HK2, HO_9, HO_10, BK184, HB⟩ := hrel
     cases gk with
     | zero => exact absurd HA.out (by simp [saronref05_Places.l0])
     | succ k2 =>
      have H := HA.out
      clear HA
      simp only [saronref05_Places.l0] at H
      by_cases c21 : x11_2 < (t189.length : Int)
      ·rw [if_pos c21] at H
       have c21b0 : decide (x11_2 < (t189.length : Int)) = true := decide_eq_true c21
       clear c21
       by_cases c22 : 0 ≤ x11_2
       ·rw [if_pos c22] at H
        have c22b0 : decide (0 ≤ x11_2) = true := decide_eq_true c22
        clear c22
        replace H := Option.bind_eq_some_iff.mp H
        obtain ⟨⟨t193, t196⟩, A230, H⟩ := H
        replace H : (if t196 = true then (if (t193.length : Int) ≤ a2 then (if x10_2.length < 8796093022208 then (saronref05_Places.l0 k2 l1 a2 t189 (x10_2 ++ [(⟨(rd_T38 t189 x11_2).f0, (rd_T38 t189 x11_2).f1⟩ : S38)]) (wrap64 (x11_2 + 1)) a0_0 l0_1) else (none)) else (saronref05_Places.l0 k2 l1 a2 t189 x10_2 (wrap64 (x11_2 + 1)) a0_0 l0_1)) else (saronref05_Places.l0 k2 l1 a2 t189 x10_2 (wrap64 (x11_2 + 1)) a0_0 l0_1)) = some (r1, r2) := H
        have A23 := Aside0.mk A230
        clear A230
        by_cases c24 : t196 = true
        ·subst c24
         have H1 : (if (t193.length : Int) ≤ a2 then (if x10_2.length < 8796093022208 then (saronref05_Places.l0 k2 l1 a2 t189 (x10_2 ++ [(⟨(rd_T38 t189 x11_2).f0, (rd_T38 t189 x11_2).f1⟩ : S38)]) (wrap64 (x11_2 + 1)) a0_0 l0_1) else (none)) else (saronref05_Places.l0 k2 l1 a2 t189 x10_2 (wrap64 (x11_2 + 1)) a0_0 l0_1)) = some (r1, r2) := by rw [if_pos rfl] at H; exact H
         clear H
         have H := H1
         clear H1
         by_cases c25 : (t193.length : Int) ≤ a2
         ·rw [if_pos c25] at H
          have c25b0 : decide ((t193.length : Int) ≤ a2) = true := decide_eq_true c25
          clear c25
          by_cases c26 : x10_2.length < 8796093022208
          ·rw [if_pos c26] at H
           have LMc26 := Aside0.mk c26
           clear c26
           obtain ⟨y198, hy198⟩ : ∃ y_ : List (S38), y_ = (x10_2 ++ [(⟨(rd_T38 t189 x11_2).f0, (rd_T38 t189 x11_2).f1⟩ : S38)]) := ⟨_, rfl⟩
           replace H : (saronref05_Places.l0 k2 l1 a2 t189 y198 (wrap64 (x11_2 + 1)) a0_0 l0_1) = some (r1, r2) := by first | (rw [hy198]; with_reducible exact H) | (have H2_ := (Option.bind_some _ _).symm.trans H; rw [hy198]; with_reducible exact H2_) | (have H2_ := (Option.bind_some _ _).symm.trans H; with_reducible exact H2_) | with_reducible exact H | (rw [hy198]; exact H) | exact H
           have Ny198 := Aside0.mk hy198
           clear hy198
           have H' := Aside0.mk H
           clear H
           obtain ⟨Ao27, co27, eo27⟩ := Kd.R_slice HO_9.out
           subst eo27
           try go_wp2
           have n0_ := Aside0.mk (Kd.R_drew HO_9.out)
           have n1_ := Aside0.mk (Kd.R_drew HO_10.out)
           have n2_ := Aside0.mk (blk_drew BK184.out)
           have n3_ := Aside0.mk (below_drew1 HB.out)
           clear HO_9
           clear HO_10
           clear BK184
           clear HB
           have HO_9 := n0_
           have HO_10 := n1_
           have BK184 := n2_
           have HB := n3_
           clear n0_ n1_ n2_ n3_
           have p192 : 0 ≤ (x11_2 : Int) := of_decide_eq_true TA
           have q192 : x11_2 < (t189.length : Int) := of_decide_eq_true TA
           obtain ⟨ad192, e192, hx192_0, hx192_1⟩ := at_T38 (Kd.R_reads' HO_9.out).2.2 x11_2 p192 q192
           cases e192
           replace p192 := eq_true p192
           replace q192 := eq_true q192
           refine start_ (n := 12) (S := fun w' => w'.cell? ⟨gb184, 0, none⟩ = some (.int .i64 a0_0) ∧ w'.cell? ⟨gb184, 1, none⟩ = some (.slice A0_1 l0_1.length c0_1) ∧ w'.cell? (ad192.add ((x11_2).toNat * 2)) = some (.int .i64 ((rd_T38 t189 x11_2).f0)) ∧ w'.cell? ⟨(ad192.add ((x11_2).toNat * 2)).block, (ad192.add ((x11_2).toNat * 2)).off + 1, none⟩ = some (.int .i64 ((rd_T38 t189 x11_2).f1))) (ds := []) (.replicate 12 false) (by kernel_rfl) rfl rfl ⟨cz BK184.out 0, cz BK184.out 1, hx192_0, hx192_1⟩ (fun hHeld => ?_); refine with_tabW saronref05_Places.tab9 saronref05_Places.bits9 (fun HT_ HW_ => ?_)
           generalize wr.drew = w28 at HO_9 HO_10 BK184 HB hx192_0 hx192_1 hHeld ⊢
           refine pT 1 36 (bt 12 2) (k := ?_)
           refine pT 2 37 (bt 12 6) (k := ?_)
           refine pT 3 38 (bt 12 14) (k := ?_)
           refine pT 5 40 (bt 12 46) (k := ?_)
           refine tT4 0 35 (bt 12 47) hHeld (k := ?_)
           refine tT4 4 39 (bt 12 63) hHeld (k := ?_)
           refine one_ (i := 6) (N := some 41) (bt 12 127) rfl rfl (one_of HT_.out (by kernel_rfl)) (by decide) (fun K hK => ?_)
           refine goes_ Tryd.func80 (by kernel_rfl) rfl #[.agg #[.int .i64 a0_0, .slice A0_1 l0_1.length c0_1], .agg #[.int .i64 ((rd_T38 t189 x11_2).f0), .int .i64 ((rd_T38 t189 x11_2).f1)], .slice A1 l1.length c1] (by rfl) rfl rfl TM ?_
           with_reducible refine (saronref05_missing.calls k2 a0_0 _ _ l0_1 ((rd_T38 t189 x11_2).f0) ((rd_T38 t189 x11_2).f1) _ _ l1 t193 true _ ?side1 ?side2 ?side3 ?side4 A23.out).mono ?_
           (case side1 => exact TC HR0_1.out)
           (case side2 => exact HC0_1.out)
           (case side3 => exact TC HR1.out)
           (case side4 => exact HC1.out)
           rintro e w29 ⟨v194, rfl, ho0, hb⟩
           have HS2_ := (hb.cell (World.block_lt_of_cell? _ _ (hHeld.2.2.1))).trans (hHeld.2.2.1)
           have HS3_ := (hb.cell (World.block_lt_of_cell? _ _ (hHeld.2.2.2))).trans (hHeld.2.2.2)
           refine ⟨_, rfl, ?_⟩
           have n0_ := Aside0.mk (Kd.R_below (TRo HO_9.out) hb)
           have n1_ := Aside0.mk (Kd.R_below (TRo HO_10.out) hb)
           have n2_ := Aside0.mk (Kd.R_lower ho0 (below_size (TB1 GE184.out)))
           have n3_ := Aside0.mk (TKb hb BK184.out)
           have n4_ := Aside0.mk (below_step (TB1 GE184.out) hb)
           clear HO_9
           clear HO_10
           clear BK184
           clear HB
           have HO_9 := n0_
           have HO_10 := n1_
           have HO195 := n2_
           have BK184 := n3_
           have HB := n4_
           clear n0_ n1_ n2_ n3_ n4_
           (try clear hb)
           (try clear hb2)
           (try clear hk)
           (try clear hi)
           (try clear ho0)
           refine hK.out _ _ ⟨cz BK184.out 0, cz BK184.out 1, HS2_, HS3_⟩ (fun hHeld => ?_)
           clear hK K
           refine norm_ (a' := ?_) ?_ ?_
           rotate_left
           ·show Act.put _ (some 41) _ = _
            simp only [Act.put, lA, lZ, lS, i64_w, i32_w]
            rfl
           refine pT 7 34 (bt 12 255) (k := ?_)
           refine pT 8 42 (bt 12 511) (k := ?_)
           refine pT 9 43 (bt 12 1023) (k := ?_)
           refine pT 10 12 (bt 12 2047) (k := ?_)
           refine pT 11 13 (bt 12 4095) (k := ?_)
           refine done_ (done_of HT_.out (by kernel_rfl)) ?_
           obtain ⟨Ao30, co30, eo30⟩ := Kd.R_slice HO195.out
           subst eo30
           have p197 : 0 ≤ (x11_2 : Int) := of_decide_eq_true TA
           have q197 : x11_2 < (t189.length : Int) := of_decide_eq_true TA
           obtain ⟨ad197, e197, hx197_0, hx197_1⟩ := at_T38 (Kd.R_reads' HO_9.out).2.2 x11_2 p197 q197
           obtain rfl : ad192 = ad197 := (by injection e197)
           replace p197 := eq_true p197
           replace q197 := eq_true q197
           try go_wp2_with (first | ((with_reducible refine gate_builtin (b := .append) (xs := #[.tmp 51, .tmp 56]) rfl ?_); (try (refine gate_guard (by rfl) ?_; dsimp only)); at_builtin; refine Kd.R_append k38 (w0 := w) w.heap.size rfl (.tmp 51) (.tmp 56) 45 38 (.agg #[(.int .i64 0), (.int .i64 0)]) 16 rfl Tryd.underlying45 info38 rfl (by decide) (by omega) u10 x10_2 (⟨(rd_T38 t189 x11_2).f0, (rd_T38 t189 x11_2).f1⟩ : S38) [.int .i64 ((rd_T38 t189 x11_2).f0), .int .i64 ((rd_T38 t189 x11_2).f1)] (fun k_ => some k_ ≠ (.slice (some ad192) t189.length co27 : Value).ownBlock) (fun _ => False) rfl rfl ?aP (fun _ hk => hk.elim) ?aF ?aO ?aB ?aS ?aL ?_; (case aP => exact k38_mkM _ _ _ (⟨(rd_T38 t189 x11_2).f0, (rd_T38 t189 x11_2).f1⟩ : S38)); (case aB => exact (TB1 GE184.out)); (case aF => exact (fun k_ hk => Kd.fresh' (Kd.R_lt (TRo HO_9.out)) k_ hk)); (case aO => exact (TRo HO_10.out)); (case aS => exact (below_size (TB1 GE184.out))); (case aL => have := LMc26.out; omega); intro v199 w31 ho hb hg hat; rw [← Ny198.out] at ho; have HO200 := Aside0.mk (ho); replace HO_9 := Aside0.mk (Kd.R_after (ok := (fun _ => True)) (by (with_reducible repeat (first | apply Kd.R_alloc | apply Kd.R_drewN | apply Kd.R_drew)); exact Kd.R_mono HO_9.out (fun _ hk => ⟨trivial, hk⟩)) hg hat); replace BK184 := Aside0.mk (blk_grown (g := gb184) (o := .cells #[.int .i64 a0_0, .slice A0_1 l0_1.length c0_1] 24 (0, 0)) (TK BK184.out) hg (Kd.R_ne HO_10.out BK184.out (by decide))); replace HO195 := Aside0.mk (Kd.R_over' (TRo HO195.out) (Kd.R_typed (TRo HO_10.out)) (by decide) hg); replace HB := Aside0.mk (hb); clear HO_10; clear ho hb hg hat))
           go_roundg k2
           case measure => have := HJ3.out; have := HK2.out; omega
           case rel => exact ⟨(y198), (wrap64 (x11_2 + 1)), TT, H', ⟨by have := HJ3.out; have := HK2.out; omega⟩, ⟨by (with_reducible repeat (first | apply Kd.R_alloc | apply Kd.R_drewN | apply Kd.R_drew)); exact Kd.R_mono HO_9.out (fun _ hk => hk.2)⟩, ⟨by (with_reducible repeat (first | apply Kd.R_alloc | apply Kd.R_drewN | apply Kd.R_drew)); exact HO200.out⟩, ⟨TK BK184.out⟩, ⟨TB1 GE184.out⟩⟩
          ·rw [if_neg c26] at H
           exact absurd H (by simp)
         ·rw [if_neg c25] at H
          have c25b0 : decide ((t193.length : Int) ≤ a2) = false := decide_eq_false c25
          clear c25
          have H' := Aside0.mk H
          clear H
          obtain ⟨Ao32, co32, eo32⟩ := Kd.R_slice HO_9.out
          subst eo32
          try go_wp2
          have n0_ := Aside0.mk (Kd.R_drew HO_9.out)
          have n1_ := Aside0.mk (Kd.R_drew HO_10.out)
          have n2_ := Aside0.mk (blk_drew BK184.out)
          have n3_ := Aside0.mk (below_drew1 HB.out)
          clear HO_9
          clear HO_10
          clear BK184
          clear HB
          have HO_9 := n0_
          have HO_10 := n1_
          have BK184 := n2_
          have HB := n3_
          clear n0_ n1_ n2_ n3_
          have p192 : 0 ≤ (x11_2 : Int) := of_decide_eq_true TA
          have q192 : x11_2 < (t189.length : Int) := of_decide_eq_true TA
          obtain ⟨ad192, e192, hx192_0, hx192_1⟩ := at_T38 (Kd.R_reads' HO_9.out).2.2 x11_2 p192 q192
          cases e192
          replace p192 := eq_true p192
          replace q192 := eq_true q192
          refine start_ (n := 12) (S := fun w' => w'.cell? ⟨gb184, 0, none⟩ = some (.int .i64 a0_0) ∧ w'.cell? ⟨gb184, 1, none⟩ = some (.slice A0_1 l0_1.length c0_1) ∧ w'.cell? (ad192.add ((x11_2).toNat * 2)) = some (.int .i64 ((rd_T38 t189 x11_2).f0)) ∧ w'.cell? ⟨(ad192.add ((x11_2).toNat * 2)).block, (ad192.add ((x11_2).toNat * 2)).off + 1, none⟩ = some (.int .i64 ((rd_T38 t189 x11_2).f1))) (ds := []) (.replicate 12 false) (by kernel_rfl) rfl rfl ⟨cz BK184.out 0, cz BK184.out 1, hx192_0, hx192_1⟩ (fun hHeld => ?_); refine with_tabW saronref05_Places.tab9 saronref05_Places.bits9 (fun HT_ HW_ => ?_)
          generalize wr.drew = w33 at HO_9 HO_10 BK184 HB hx192_0 hx192_1 hHeld ⊢
          refine pT 1 36 (bt 12 2) (k := ?_)
          refine pT 2 37 (bt 12 6) (k := ?_)
          refine pT 3 38 (bt 12 14) (k := ?_)
          refine pT 5 40 (bt 12 46) (k := ?_)
          refine tT4 0 35 (bt 12 47) hHeld (k := ?_)
          refine tT4 4 39 (bt 12 63) hHeld (k := ?_)
          refine one_ (i := 6) (N := some 41) (bt 12 127) rfl rfl (one_of HT_.out (by kernel_rfl)) (by decide) (fun K hK => ?_)
          refine goes_ Tryd.func80 (by kernel_rfl) rfl #[.agg #[.int .i64 a0_0, .slice A0_1 l0_1.length c0_1], .agg #[.int .i64 ((rd_T38 t189 x11_2).f0), .int .i64 ((rd_T38 t189 x11_2).f1)], .slice A1 l1.length c1] (by rfl) rfl rfl TM ?_
          with_reducible refine (saronref05_missing.calls k2 a0_0 _ _ l0_1 ((rd_T38 t189 x11_2).f0) ((rd_T38 t189 x11_2).f1) _ _ l1 t193 true _ ?side1 ?side2 ?side3 ?side4 A23.out).mono ?_
          (case side1 => exact TC HR0_1.out)
          (case side2 => exact HC0_1.out)
          (case side3 => exact TC HR1.out)
          (case side4 => exact HC1.out)
          rintro e w34 ⟨v194, rfl, ho0, hb⟩
          have HS2_ := (hb.cell (World.block_lt_of_cell? _ _ (hHeld.2.2.1))).trans (hHeld.2.2.1)
          have HS3_ := (hb.cell (World.block_lt_of_cell? _ _ (hHeld.2.2.2))).trans (hHeld.2.2.2)
          refine ⟨_, rfl, ?_⟩
          have n0_ := Aside0.mk (Kd.R_below (TRo HO_9.out) hb)
          have n1_ := Aside0.mk (Kd.R_below (TRo HO_10.out) hb)
          have n2_ := Aside0.mk (Kd.R_lower ho0 (below_size (TB1 GE184.out)))
          have n3_ := Aside0.mk (TKb hb BK184.out)
          have n4_ := Aside0.mk (below_step (TB1 GE184.out) hb)
          clear HO_9
          clear HO_10
          clear BK184
          clear HB
          have HO_9 := n0_
          have HO_10 := n1_
          have HO195 := n2_
          have BK184 := n3_
          have HB := n4_
          clear n0_ n1_ n2_ n3_ n4_
          (try clear hb)
          (try clear hb2)
          (try clear hk)
          (try clear hi)
          (try clear ho0)
          refine hK.out _ _ ⟨cz BK184.out 0, cz BK184.out 1, HS2_, HS3_⟩ (fun hHeld => ?_)
          clear hK K
          refine norm_ (a' := ?_) ?_ ?_
          rotate_left
          ·show Act.put _ (some 41) _ = _
           simp only [Act.put, lA, lZ, lS, i64_w, i32_w]
           rfl
          refine pT 7 34 (bt 12 255) (k := ?_)
          refine pT 8 42 (bt 12 511) (k := ?_)
          refine pT 9 43 (bt 12 1023) (k := ?_)
          refine pT 10 12 (bt 12 2047) (k := ?_)
          refine pT 11 13 (bt 12 4095) (k := ?_)
          refine done_ (done_of HT_.out (by kernel_rfl)) ?_
          obtain ⟨Ao35, co35, eo35⟩ := Kd.R_slice HO195.out
          subst eo35
          try go_wp2
          go_roundg k2
          case measure => have := HJ3.out; have := HK2.out; omega
          case rel => exact ⟨(x10_2), (wrap64 (x11_2 + 1)), TT, H', ⟨by have := HJ3.out; have := HK2.out; omega⟩, ⟨by (with_reducible repeat (first | apply Kd.R_alloc | apply Kd.R_drewN | apply Kd.R_drew)); exact HO_9.out⟩, ⟨by (with_reducible repeat (first | apply Kd.R_alloc | apply Kd.R_drewN | apply Kd.R_drew)); exact HO_10.out⟩, ⟨TK BK184.out⟩, ⟨TB1 GE184.out⟩⟩
        ·replace c24 := Bool.eq_false_iff.mpr c24
         subst c24
         have H1 : (saronref05_Places.l0 k2 l1 a2 t189 x10_2 (wrap64 (x11_2 + 1)) a0_0 l0_1) = some (r1, r2) := by rw [if_neg (show ¬ (false = true) by decide)] at H; exact H
         clear H
         have H := H1
         clear H1
         have H' := Aside0.mk H
         clear H
         obtain ⟨Ao36, co36, eo36⟩ := Kd.R_slice HO_9.out
         subst eo36
         try go_wp2
         have n0_ := Aside0.mk (Kd.R_drew HO_9.out)
         have n1_ := Aside0.mk (Kd.R_drew HO_10.out)
         have n2_ := Aside0.mk (blk_drew BK184.out)
         have n3_ := Aside0.mk (below_drew1 HB.out)
         clear HO_9
         clear HO_10
         clear BK184
         clear HB
         have HO_9 := n0_
         have HO_10 := n1_
         have BK184 := n2_
         have HB := n3_
         clear n0_ n1_ n2_ n3_
         have p192 : 0 ≤ (x11_2 : Int) := of_decide_eq_true TA
         have q192 : x11_2 < (t189.length : Int) := of_decide_eq_true TA
         obtain ⟨ad192, e192, hx192_0, hx192_1⟩ := at_T38 (Kd.R_reads' HO_9.out).2.2 x11_2 p192 q192
         cases e192
         replace p192 := eq_true p192
         replace q192 := eq_true q192
         refine start_ (n := 12) (S := fun w' => w'.cell? ⟨gb184, 0, none⟩ = some (.int .i64 a0_0) ∧ w'.cell? ⟨gb184, 1, none⟩ = some (.slice A0_1 l0_1.length c0_1) ∧ w'.cell? (ad192.add ((x11_2).toNat * 2)) = some (.int .i64 ((rd_T38 t189 x11_2).f0)) ∧ w'.cell? ⟨(ad192.add ((x11_2).toNat * 2)).block, (ad192.add ((x11_2).toNat * 2)).off + 1, none⟩ = some (.int .i64 ((rd_T38 t189 x11_2).f1))) (ds := []) (.replicate 12 false) (by kernel_rfl) rfl rfl ⟨cz BK184.out 0, cz BK184.out 1, hx192_0, hx192_1⟩ (fun hHeld => ?_); refine with_tabW saronref05_Places.tab9 saronref05_Places.bits9 (fun HT_ HW_ => ?_)
         generalize wr.drew = w37 at HO_9 HO_10 BK184 HB hx192_0 hx192_1 hHeld ⊢
         refine pT 1 36 (bt 12 2) (k := ?_)
         refine pT 2 37 (bt 12 6) (k := ?_)
         refine pT 3 38 (bt 12 14) (k := ?_)
         refine pT 5 40 (bt 12 46) (k := ?_)
         refine tT4 0 35 (bt 12 47) hHeld (k := ?_)
         refine tT4 4 39 (bt 12 63) hHeld (k := ?_)
         refine one_ (i := 6) (N := some 41) (bt 12 127) rfl rfl (one_of HT_.out (by kernel_rfl)) (by decide) (fun K hK => ?_)
         refine goes_ Tryd.func80 (by kernel_rfl) rfl #[.agg #[.int .i64 a0_0, .slice A0_1 l0_1.length c0_1], .agg #[.int .i64 ((rd_T38 t189 x11_2).f0), .int .i64 ((rd_T38 t189 x11_2).f1)], .slice A1 l1.length c1] (by rfl) rfl rfl TM ?_
         with_reducible refine (saronref05_missing.calls k2 a0_0 _ _ l0_1 ((rd_T38 t189 x11_2).f0) ((rd_T38 t189 x11_2).f1) _ _ l1 t193 false _ ?side1 ?side2 ?side3 ?side4 A23.out).mono ?_
         (case side1 => exact TC HR0_1.out)
         (case side2 => exact HC0_1.out)
         (case side3 => exact TC HR1.out)
         (case side4 => exact HC1.out)
         rintro e w38 ⟨v194, rfl, ho0, hb⟩
         have HS2_ := (hb.cell (World.block_lt_of_cell? _ _ (hHeld.2.2.1))).trans (hHeld.2.2.1)
         have HS3_ := (hb.cell (World.block_lt_of_cell? _ _ (hHeld.2.2.2))).trans (hHeld.2.2.2)
         refine ⟨_, rfl, ?_⟩
         have n0_ := Aside0.mk (Kd.R_below (TRo HO_9.out) hb)
         have n1_ := Aside0.mk (Kd.R_below (TRo HO_10.out) hb)
         have n2_ := Aside0.mk (Kd.R_lower ho0 (below_size (TB1 GE184.out)))
         have n3_ := Aside0.mk (TKb hb BK184.out)
         have n4_ := Aside0.mk (below_step (TB1 GE184.out) hb)
         clear HO_9
         clear HO_10
         clear BK184
         clear HB
         have HO_9 := n0_
         have HO_10 := n1_
         have HO195 := n2_
         have BK184 := n3_
         have HB := n4_
         clear n0_ n1_ n2_ n3_ n4_
         (try clear hb)
         (try clear hb2)
         (try clear hk)
         (try clear hi)
         (try clear ho0)
         refine hK.out _ _ ⟨cz BK184.out 0, cz BK184.out 1, HS2_, HS3_⟩ (fun hHeld => ?_)
         clear hK K
         refine norm_ (a' := ?_) ?_ ?_
         rotate_left
         ·show Act.put _ (some 41) _ = _
          simp only [Act.put, lA, lZ, lS, i64_w, i32_w]
          rfl
         refine pT 7 34 (bt 12 255) (k := ?_)
         refine pT 8 42 (bt 12 511) (k := ?_)
         refine pT 9 43 (bt 12 1023) (k := ?_)
         refine pT 10 12 (bt 12 2047) (k := ?_)
         refine pT 11 13 (bt 12 4095) (k := ?_)
         refine done_ (done_of HT_.out (by kernel_rfl)) ?_
         try go_wp2
         go_roundg k2
         case measure => have := HJ3.out; have := HK2.out; omega
         case rel => exact ⟨(x10_2), (wrap64 (x11_2 + 1)), TT, H', ⟨by have := HJ3.out; have := HK2.out; omega⟩, ⟨by (with_reducible repeat (first | apply Kd.R_alloc | apply Kd.R_drewN | apply Kd.R_drew)); exact HO_9.out⟩, ⟨by (with_reducible repeat (first | apply Kd.R_alloc | apply Kd.R_drewN | apply Kd.R_drew)); exact HO_10.out⟩, ⟨TK BK184.out⟩, ⟨TB1 GE184.out⟩⟩
       ·rw [if_neg c22] at H
        exact absurd H (by simp)
      ·rw [if_neg c21] at H
       have c21b0 : decide (x11_2 < (t189.length : Int)) = false := decide_eq_false c21
       clear c21
       simp only [Option.some.injEq, Prod.mk.injEq] at H
       obtain ⟨rfl, rfl⟩ := H
       obtain ⟨Ao39, co39, eo39⟩ := Kd.R_slice HO_9.out
       subst eo39
       go_wp2
       go_ret2
       exact ⟨_, TR, by (with_reducible repeat (first | apply Kd.R_alloc | apply Kd.R_drewN | apply Kd.R_drew)); exact Kd.R_mono HO_10.out (fun _ hk => trivial), TB1 GE184.out⟩
   ·rw [if_neg c17] at H
    have c17b0 : (x8_3 == 0) = false := beq_eq_false_iff_ne.mpr c17
    have c17b1 : (x8_3 != 0) = true := bne_iff_ne.mpr c17
    simp only [Option.some.injEq, Prod.mk.injEq] at H
    obtain ⟨rfl, rfl⟩ := H
    go_wp2
    go_ret2
    exact ⟨_, TR, by first | exact Kd.R_nil _ _ _ _ _ | exact Kd.N_nil _ _ _ _ _ | exact Kd.V_nil _ _ _ _ _ | exact Kd.Q_nil _ _ _ _ _ | exact Kd.S_nil _ _ _ _ _, TB1 GE184.out⟩
end Go.Proofs.YtephecfapclgfaaDoor.PRaspKeys
namespace Go.Proofs.YtephecfapclgfaaDoor.PRaspKeys
open Go.RowKit Go.Proofs.YtephecfapclgfaaDoorW.PrintWords Go.Proofs.YtephecfapclgfaaDoorW.PrintLast Go.Proofs.YtephecfapclgfaaDoorW.PrintMore Go.Proofs.YtephecfapclgfaaDoor.M
attribute [local go_sem] max2_int min2_int max_two min_two max_three min_three max_four min_four   -- for this text's walks alone
/-! ### saronref05_Least: function 31 -/
def saronref05_Least.l0 : Nat → List (List Int) → List (S38) → Bool → Int → Int → Int → List (S63) → Option (Int × Int)
 | 0, _, _, _, _, _, _, _ => none
 | k + 1, x1, x7, x8, x9, x10, x202000, x202001 => if x10 < (x7.length : Int) then (if 0 ≤ x10 then ((saronref05_missing.f k x202000 x202001 ((rd_T38 x7 x10).f0) ((rd_T38 x7 x10).f1) x1).bind fun bt208 => (if bt208.2 = true then (if x8 = true then (if (bt208.1.length : Int) < x9 then (saronref05_Least.l0 k x1 x7 true (bt208.1.length : Int) (wrap64 (x10 + 1)) x202000 x202001) else (saronref05_Least.l0 k x1 x7 x8 x9 (wrap64 (x10 + 1)) x202000 x202001)) else (saronref05_Least.l0 k x1 x7 true (bt208.1.length : Int) (wrap64 (x10 + 1)) x202000 x202001)) else (saronref05_Least.l0 k x1 x7 x8 x9 (wrap64 (x10 + 1)) x202000 x202001))) else (none)) else (if x8 = true then (some (x9, 0)) else (some (0, 4)))
def saronref05_Least.f (k : Nat) (a0_0 : Int) (l0_1 : List (S63)) (l1 : List (List Int)) : Option (Int × Int) := (saronref05_IsHeard.f k a0_0 l0_1 l1).bind fun t202 => ((saronref05_asked.f k a0_0 l0_1 t202).bind fun t203 => (if t203 = 0 then ((saronref05_spots.f k a0_0 l0_1).bind fun t204 => (saronref05_Least.l0 k l1 t204 false 0 0 a0_0 l0_1)) else (some (0, t203))))
theorem saronref05_Least.mono_l : ∀ k, (∀ y0 y1 y2 y3 y4 y5 y6, LeO (saronref05_Least.l0 k y0 y1 y2 y3 y4 y5 y6) (saronref05_Least.l0 (k + 1) y0 y1 y2 y3 y4 y5 y6))
 | 0 => fun _ _ _ _ _ _ _ r h => by simp [saronref05_Least.l0] at h
 | k + 1 => by
  have ih0 := saronref05_Least.mono_l k
  ·intro y0 y1 y2 y3 y4 y5 y6
   unfold saronref05_Least.l0
   repeat' first
   | (with_reducible exact ih0 _ _ _ _ _ _ _)
   | (with_reducible exact saronref05_IsHeard.mono _ _ _ _)
   | (with_reducible exact saronref05_asked.mono _ _ _ _)
   | (with_reducible exact saronref05_missing.mono _ _ _ _ _ _)
   | (with_reducible exact saronref05_spots.mono _ _ _)
   | (with_reducible exact LeO.refl _)
   | (with_reducible exact LeO.none _)
   | (with_reducible refine LeO.ite ?_ ?_)
   | (with_reducible refine LeO.bind ?_ (fun _ => ?_))
   | exact ih0 _ _ _ _ _ _ _
   | exact saronref05_IsHeard.mono _ _ _ _
   | exact saronref05_asked.mono _ _ _ _
   | exact saronref05_missing.mono _ _ _ _ _ _
   | exact saronref05_spots.mono _ _ _
   | exact LeO.none _
   | refine LeO.ite ?_ ?_
   | refine LeO.bind ?_ (fun _ => ?_)
theorem saronref05_Least.mono : ∀ a0 a1 a2 k, LeO (saronref05_Least.f k a0 a1 a2) (saronref05_Least.f (k + 1) a0 a1 a2) := by
 intro a0 a1 a2 k
 have ih0 := saronref05_Least.mono_l k
 unfold saronref05_Least.f
 repeat' first
   | (with_reducible exact ih0 _ _ _ _ _ _ _)
   | (with_reducible exact saronref05_IsHeard.mono _ _ _ _)
   | (with_reducible exact saronref05_asked.mono _ _ _ _)
   | (with_reducible exact saronref05_missing.mono _ _ _ _ _ _)
   | (with_reducible exact saronref05_spots.mono _ _ _)
   | (with_reducible exact LeO.refl _)
   | (with_reducible exact LeO.none _)
   | (with_reducible refine LeO.ite ?_ ?_)
   | (with_reducible refine LeO.bind ?_ (fun _ => ?_))
   | exact ih0 _ _ _ _ _ _ _
   | exact saronref05_IsHeard.mono _ _ _ _
   | exact saronref05_asked.mono _ _ _ _
   | exact saronref05_missing.mono _ _ _ _ _ _
   | exact saronref05_spots.mono _ _ _
   | exact LeO.none _
   | refine LeO.ite ?_ ?_
   | refine LeO.bind ?_ (fun _ => ?_)
def saronref05_Least.T9 : Bool × List (List Nat × List Nat) := (true, [([], []), ([], []), ([], []), ([1, 2], [1, 2]), ([3], [3]), ([], []), ([0, 4, 5], [0, 4, 5]), ([6], [6]), ([7], [7]), ([7], [7]), ([8, 6, 0, 1, 2, 3, 4, 5, 6, 7, 8], [8]), ([9, 10, 0, 1, 2, 3, 4, 5, 6, 7, 8, 9, 10], [9])])
def saronref05_Least.B9 : List Nat := [0, 0, 0, 6, 14, 0, 63, 127, 255, 255, 511, 2047]
theorem saronref05_Least.tab9 : rtab .any (opsOf Tryd.f31 9) = saronref05_Least.T9 := by kernel_rfl
theorem saronref05_Least.bits9 : waitsOk saronref05_Least.T9.2 saronref05_Least.B9 = true := by kernel_rfl
set_option maxHeartbeats 8000000 in
set_option maxRecDepth 100000 in
theorem saronref05_Least.calls (k : Nat) (a0_0 : Int) (A0_1 : Option Addr) (c0_1 : Nat) (l0_1 : List (S63)) (A1 : Option Addr) (c1 : Nat) (l1 : List (List Int)) (r1 : Int) (r2 : Int) (w : World) (hr0_1 : Kd.C k63 w A0_1 l0_1.length l0_1) (hc0_1 : l0_1.length ≤ c0_1) (hr1 : Kd.C (Kd.slice 3 (Kd.int .i64)) w A1 l1.length l1) (hc1 : l1.length ≤ c1) (h : saronref05_Least.f k a0_0 l0_1 l1 = some (r1, r2)) :
  Calls Tryd.prog 31 #[.agg #[.int .i64 a0_0, .slice A0_1 l0_1.length c0_1], .slice A1 l1.length c1] w fun e w' => e = .returned (.tuple #[.int .i64 r1, .int .i64 r2]) ∧ Below w.heap.size w w' := by
 have hu24 := Tryd.underlying24
 have hu38 := Tryd.underlying38
 have HR0_1 := Aside0.mk hr0_1
 have HC0_1 := Aside0.mk hc0_1
 clear hr0_1 hc0_1
 have HR1 := Aside0.mk hr1
 have HC1 := Aside0.mk hc1
 clear hr1 hc1
 have HB := Aside0.mk (Below.refl w.heap.size w)
 have H : ((saronref05_IsHeard.f k a0_0 l0_1 l1).bind fun t202 => ((saronref05_asked.f k a0_0 l0_1 t202).bind fun t203 => (if t203 = 0 then ((saronref05_spots.f k a0_0 l0_1).bind fun t204 => (saronref05_Least.l0 k l1 t204 false 0 0 a0_0 l0_1)) else (some (0, t203))))) = some (r1, r2) := h
 clear h
 replace H := Option.bind_eq_some_iff.mp H
 obtain ⟨t202, A30, H⟩ := H
 replace H : ((saronref05_asked.f k a0_0 l0_1 t202).bind fun t203 => (if t203 = 0 then ((saronref05_spots.f k a0_0 l0_1).bind fun t204 => (saronref05_Least.l0 k l1 t204 false 0 0 a0_0 l0_1)) else (some (0, t203)))) = some (r1, r2) := H
 have A3 := Aside0.mk A30
 clear A30
 replace H := Option.bind_eq_some_iff.mp H
 obtain ⟨t203, A40, H⟩ := H
 replace H : (if t203 = 0 then ((saronref05_spots.f k a0_0 l0_1).bind fun t204 => (saronref05_Least.l0 k l1 t204 false 0 0 a0_0 l0_1)) else (some (0, t203))) = some (r1, r2) := H
 have A4 := Aside0.mk A40
 clear A40
 by_cases c5 : t203 = 0
 ·rw [if_pos c5] at H
  have c5b0 : (t203 == 0) = true := beq_iff_eq.mpr c5
  have c5b1 : (t203 != 0) = false := bne_eq_false_iff_eq.mpr c5
  clear c5
  replace H := Option.bind_eq_some_iff.mp H
  obtain ⟨t204, A60, H⟩ := H
  replace H : (saronref05_Least.l0 k l1 t204 false 0 0 a0_0 l0_1) = some (r1, r2) := H
  have A6 := Aside0.mk A60
  clear A60
  have H' := Aside0.mk H
  clear H
  go_enter Tryd.func31, Tryd.ntmps31
  try go_wp2_with (first | ((with_reducible refine gate_dst (N := 2) rfl ?_); (try (refine gate_guard (by rfl) ?_; dsimp only)); refine box_event ?hg (N := 2) ?hd (cs := #[.int .i64 a0_0, .slice A0_1 l0_1.length c0_1]) (t := 24) ?hr ?_; (case hd => rfl); (case hg => rfl); (case hr => exact TS); intro gb201 hg w7 hbox hb; have BK201 := Aside0.mk (hbox); have GW201 := Aside0.mk ((TG : w.heap.size ≤ gb201)); have GE201 := Aside0.mk ((TG : w.heap.size ≤ gb201)); replace HB := Aside0.mk (below_step TB hb); clear hb hbox hg))
  have n0_ := Aside0.mk (blk_drew BK201.out)
  have n1_ := Aside0.mk (below_drew1 HB.out)
  clear BK201
  clear HB
  have BK201 := n0_
  have HB := n1_
  clear n0_ n1_
  refine start_ (n := 6) (S := fun w' => w'.cell? ⟨gb201, 0, none⟩ = some (.int .i64 a0_0) ∧ w'.cell? ⟨gb201, 1, none⟩ = some (.slice A0_1 l0_1.length c0_1)) (ds := []) (.replicate 6 false) (by kernel_rfl) rfl rfl ⟨cz BK201.out 0, cz BK201.out 1⟩ (fun hHeld => ?_)
  generalize w7.drew = w8 at BK201 HB hHeld ⊢
  refine pu 2 15 (bt 6 4) (k := ?_)
  refine tk2 0 13 (bt 6 5) hHeld (k := ?_)
  refine tk2 1 14 (bt 6 7) hHeld (k := ?_)
  refine oN 3 16 (bt 6 15) (h := fun K hK => ?_)
  refine goes_ Tryd.func78 (by kernel_rfl) rfl #[.agg #[.int .i64 a0_0, .slice A0_1 l0_1.length c0_1], .slice A1 l1.length c1] (by rfl) rfl rfl TM ?_
  with_reducible refine (saronref05_IsHeard.calls k a0_0 _ _ l0_1 _ _ l1 t202 _ ?side1 ?side2 ?side3 ?side4 A3.out).mono ?_
  (case side1 => exact TC HR0_1.out)
  (case side2 => exact HC0_1.out)
  (case side3 => exact TC HR1.out)
  (case side4 => exact HC1.out)
  rintro e w9 ⟨rfl, hb⟩
  refine ⟨_, rfl, ?_⟩
  have n0_ := Aside0.mk (TKb hb BK201.out)
  have n1_ := Aside0.mk (below_step (TB1 GE201.out) hb)
  clear BK201
  clear HB
  have BK201 := n0_
  have HB := n1_
  clear n0_ n1_
  (try clear hb)
  (try clear hb2)
  (try clear hk)
  (try clear hi)
  refine hK.out _ _ ⟨cz BK201.out 0, cz BK201.out 1⟩ (fun hHeld => ?_)
  clear hK K
  refine norm_ (a' := ?_) ?_ ?_
  rotate_left
  ·show Act.put _ (some 16) _ = _
   simp only [Act.put, lA, lZ, lS, i64_w, i32_w]
   rfl
  refine oN 4 17 (bt 6 31) (h := fun K hK => ?_)
  refine goes_ Tryd.func58 (by kernel_rfl) rfl #[.agg #[.int .i64 a0_0, .slice A0_1 l0_1.length c0_1], .bool t202] (by rfl) rfl rfl TM ?_
  with_reducible refine (saronref05_asked.calls k a0_0 _ _ l0_1 t202 t203 _ ?side1 ?side2 A4.out).mono ?_
  (case side1 => exact TC HR0_1.out)
  (case side2 => exact HC0_1.out)
  rintro e w10 ⟨rfl, hb⟩
  refine ⟨_, rfl, ?_⟩
  have n0_ := Aside0.mk (TKb hb BK201.out)
  have n1_ := Aside0.mk (below_step (TB1 GE201.out) hb)
  clear BK201
  clear HB
  have BK201 := n0_
  have HB := n1_
  clear n0_ n1_
  (try clear hb)
  (try clear hb2)
  (try clear hk)
  (try clear hi)
  refine hK.out _ _ ⟨cz BK201.out 0, cz BK201.out 1⟩ (fun hHeld => ?_)
  clear hK K
  refine norm_ (a' := ?_) ?_ ?_
  rotate_left
  ·show Act.put _ (some 17) _ = _
   simp only [Act.put, lA, lZ, lS, i64_w, i32_w]
   rfl
  refine pu 5 6 (bt 6 63) (k := ?_)
  refine done_ (by kernel_rfl) ?_
  have hcz11_0 := cz BK201.out 0
  have hcz11_1 := cz BK201.out 1
  have hfz11_0 := fz BK201.out 0
  have hfz11_1 := fz BK201.out 1
  try go_wp2_with (first | ((with_reducible refine gate_callee (f := 79) rfl ?_); refine goesL_ (some 22) rfl rfl Tryd.func79 (by kernel_rfl) rfl #[.agg #[.int .i64 a0_0, .slice A0_1 l0_1.length c0_1]] rfl TM ?_; (with_reducible refine (saronref05_spots.calls k a0_0 _ _ l0_1 t204 _ ?side1 ?side2 A6.out).mono ?_); (case side1 => exact TC HR0_1.out); (case side2 => exact HC0_1.out); rintro e w12 ⟨v205, rfl, ho0, hb⟩; refine ⟨_, rfl, ?_⟩; have HO206 := Aside0.mk (Kd.R_lower ho0 (below_size (TB1 GE201.out))); replace BK201 := Aside0.mk (TKb hb BK201.out); replace HB := Aside0.mk (below_step (TB1 GE201.out) hb); (try clear hb); (try clear hb2); (try clear hk); (try clear hi); (try clear ho0)))
  go_loopg [8, 9, 10] k (fun kq v8 v9 v10 w' => ∃ (x8_1 : Bool) (x9_1 : Int) (x10_1 : Int), v8 = .bool x8_1 ∧ v9 = .int .i64 x9_1 ∧ v10 = .int .i64 x10_1 ∧ Aside0 (saronref05_Least.l0 kq l1 t204 x8_1 x9_1 x10_1 a0_0 l0_1 = some (r1, r2)) ∧ Aside0 (kq ≤ k) ∧ Aside0 (Kd.R k38 38 w' w.heap.size (fun _ => True) v205 t204) ∧ Aside0 (w'.heap[gb201]? = some (.cells #[.int .i64 a0_0, (.slice A0_1 l0_1.length c0_1)] 24 (0, 0))) ∧ Aside0 (Below w.heap.size w w'))
  case atStart => exact ⟨(false), (0), (0), TT, TT, TT, H', ⟨Nat.le_refl _⟩, ⟨by (with_reducible repeat (first | apply Kd.R_alloc | apply Kd.R_drewN | apply Kd.R_drew)); exact HO206.out⟩, ⟨TK BK201.out⟩, ⟨TB1 GE201.out⟩⟩
  case round => as_aux_lemma =>
   clear H'
   try clear c1
   try clear p2
   try clear c3
   try clear c5
   try clear c5b0
   try clear c5b1
   try clear c7
   try clear hcz11_0 hcz11_1 hfz11_0 hfz11_1
   obtain ⟨x8_1, x9_1, x10_1, rfl, rfl, rfl, HA, HK1, HO_7, BK201, HB⟩ := hrel
   cases gk with
   | zero => exact absurd HA.out (by simp [saronref05_Least.l0])
   | succ k1 =>
    have H := HA.out
    clear HA
    simp only [saronref05_Least.l0] at H
    by_cases c13 : x10_1 < (t204.length : Int)
    ·rw [if_pos c13] at H
     have c13b0 : decide (x10_1 < (t204.length : Int)) = true := decide_eq_true c13
     clear c13
     by_cases c14 : 0 ≤ x10_1
     ·rw [if_pos c14] at H
      have c14b0 : decide (0 ≤ x10_1) = true := decide_eq_true c14
      clear c14
      replace H := Option.bind_eq_some_iff.mp H
      obtain ⟨⟨t208, t211⟩, A150, H⟩ := H
      replace H : (if t211 = true then (if x8_1 = true then (if (t208.length : Int) < x9_1 then (saronref05_Least.l0 k1 l1 t204 true (t208.length : Int) (wrap64 (x10_1 + 1)) a0_0 l0_1) else (saronref05_Least.l0 k1 l1 t204 x8_1 x9_1 (wrap64 (x10_1 + 1)) a0_0 l0_1)) else (saronref05_Least.l0 k1 l1 t204 true (t208.length : Int) (wrap64 (x10_1 + 1)) a0_0 l0_1)) else (saronref05_Least.l0 k1 l1 t204 x8_1 x9_1 (wrap64 (x10_1 + 1)) a0_0 l0_1)) = some (r1, r2) := H
      have A15 := Aside0.mk A150
      clear A150
      by_cases c16 : t211 = true
      ·subst c16
       have H1 : (if x8_1 = true then (if (t208.length : Int) < x9_1 then (saronref05_Least.l0 k1 l1 t204 true (t208.length : Int) (wrap64 (x10_1 + 1)) a0_0 l0_1) else (saronref05_Least.l0 k1 l1 t204 x8_1 x9_1 (wrap64 (x10_1 + 1)) a0_0 l0_1)) else (saronref05_Least.l0 k1 l1 t204 true (t208.length : Int) (wrap64 (x10_1 + 1)) a0_0 l0_1)) = some (r1, r2) := by rw [if_pos rfl] at H; exact H
       clear H
       have H := H1
       clear H1
       by_cases c17 : x8_1 = true
       ·subst c17
        have H1 : (if (t208.length : Int) < x9_1 then (saronref05_Least.l0 k1 l1 t204 true (t208.length : Int) (wrap64 (x10_1 + 1)) a0_0 l0_1) else (saronref05_Least.l0 k1 l1 t204 true x9_1 (wrap64 (x10_1 + 1)) a0_0 l0_1)) = some (r1, r2) := by rw [if_pos rfl] at H; exact H
        clear H
        have H := H1
        clear H1
        by_cases c18 : (t208.length : Int) < x9_1
        ·rw [if_pos c18] at H
         have c18b0 : decide ((t208.length : Int) < x9_1) = true := decide_eq_true c18
         clear c18
         have H' := Aside0.mk H
         clear H
         obtain ⟨Ao19, co19, eo19⟩ := Kd.R_slice HO_7.out
         subst eo19
         try go_wp2
         have n0_ := Aside0.mk (Kd.R_drew HO_7.out)
         have n1_ := Aside0.mk (blk_drew BK201.out)
         have n2_ := Aside0.mk (below_drew1 HB.out)
         clear HO_7
         clear BK201
         clear HB
         have HO_7 := n0_
         have BK201 := n1_
         have HB := n2_
         clear n0_ n1_ n2_
         have p207 : 0 ≤ (x10_1 : Int) := of_decide_eq_true TA
         have q207 : x10_1 < (t204.length : Int) := of_decide_eq_true TA
         obtain ⟨ad207, e207, hx207_0, hx207_1⟩ := at_T38 (Kd.R_reads' HO_7.out).2.2 x10_1 p207 q207
         cases e207
         replace p207 := eq_true p207
         replace q207 := eq_true q207
         refine start_ (n := 12) (S := fun w' => w'.cell? ⟨gb201, 0, none⟩ = some (.int .i64 a0_0) ∧ w'.cell? ⟨gb201, 1, none⟩ = some (.slice A0_1 l0_1.length c0_1) ∧ w'.cell? (ad207.add ((x10_1).toNat * 2)) = some (.int .i64 ((rd_T38 t204 x10_1).f0)) ∧ w'.cell? ⟨(ad207.add ((x10_1).toNat * 2)).block, (ad207.add ((x10_1).toNat * 2)).off + 1, none⟩ = some (.int .i64 ((rd_T38 t204 x10_1).f1))) (ds := []) (.replicate 12 false) (by kernel_rfl) rfl rfl ⟨cz BK201.out 0, cz BK201.out 1, hx207_0, hx207_1⟩ (fun hHeld => ?_); refine with_tabW saronref05_Least.tab9 saronref05_Least.bits9 (fun HT_ HW_ => ?_)
         generalize wr.drew = w20 at HO_7 BK201 HB hx207_0 hx207_1 hHeld ⊢
         refine pT 1 31 (bt 12 2) (k := ?_)
         refine pT 2 32 (bt 12 6) (k := ?_)
         refine pT 3 33 (bt 12 14) (k := ?_)
         refine pT 5 35 (bt 12 46) (k := ?_)
         refine tT4 0 30 (bt 12 47) hHeld (k := ?_)
         refine tT4 4 34 (bt 12 63) hHeld (k := ?_)
         refine one_ (i := 6) (N := some 36) (bt 12 127) rfl rfl (one_of HT_.out (by kernel_rfl)) (by decide) (fun K hK => ?_)
         refine goes_ Tryd.func80 (by kernel_rfl) rfl #[.agg #[.int .i64 a0_0, .slice A0_1 l0_1.length c0_1], .agg #[.int .i64 ((rd_T38 t204 x10_1).f0), .int .i64 ((rd_T38 t204 x10_1).f1)], .slice A1 l1.length c1] (by rfl) rfl rfl TM ?_
         with_reducible refine (saronref05_missing.calls k1 a0_0 _ _ l0_1 ((rd_T38 t204 x10_1).f0) ((rd_T38 t204 x10_1).f1) _ _ l1 t208 true _ ?side1 ?side2 ?side3 ?side4 A15.out).mono ?_
         (case side1 => exact TC HR0_1.out)
         (case side2 => exact HC0_1.out)
         (case side3 => exact TC HR1.out)
         (case side4 => exact HC1.out)
         rintro e w21 ⟨v209, rfl, ho0, hb⟩
         have HS2_ := (hb.cell (World.block_lt_of_cell? _ _ (hHeld.2.2.1))).trans (hHeld.2.2.1)
         have HS3_ := (hb.cell (World.block_lt_of_cell? _ _ (hHeld.2.2.2))).trans (hHeld.2.2.2)
         refine ⟨_, rfl, ?_⟩
         have n0_ := Aside0.mk (Kd.R_below (TRo HO_7.out) hb)
         have n1_ := Aside0.mk (Kd.R_lower ho0 (below_size (TB1 GE201.out)))
         have n2_ := Aside0.mk (TKb hb BK201.out)
         have n3_ := Aside0.mk (below_step (TB1 GE201.out) hb)
         clear HO_7
         clear BK201
         clear HB
         have HO_7 := n0_
         have HO210 := n1_
         have BK201 := n2_
         have HB := n3_
         clear n0_ n1_ n2_ n3_
         (try clear hb)
         (try clear hb2)
         (try clear hk)
         (try clear hi)
         (try clear ho0)
         refine hK.out _ _ ⟨cz BK201.out 0, cz BK201.out 1, HS2_, HS3_⟩ (fun hHeld => ?_)
         clear hK K
         refine norm_ (a' := ?_) ?_ ?_
         rotate_left
         ·show Act.put _ (some 36) _ = _
          simp only [Act.put, lA, lZ, lS, i64_w, i32_w]
          rfl
         refine pT 7 29 (bt 12 255) (k := ?_)
         refine pT 8 37 (bt 12 511) (k := ?_)
         refine pT 9 38 (bt 12 1023) (k := ?_)
         refine pT 10 11 (bt 12 2047) (k := ?_)
         refine pT 11 12 (bt 12 4095) (k := ?_)
         refine done_ (done_of HT_.out (by kernel_rfl)) ?_
         obtain ⟨Ao22, co22, eo22⟩ := Kd.R_slice HO210.out
         subst eo22
         try go_wp2
         go_roundg k1
         case measure => have := HK1.out; omega
         case rel => exact ⟨(true), ((t208.length : Int)), (wrap64 (x10_1 + 1)), TT, TT, TT, H', ⟨by have := HK1.out; omega⟩, ⟨by (with_reducible repeat (first | apply Kd.R_alloc | apply Kd.R_drewN | apply Kd.R_drew)); exact HO_7.out⟩, ⟨TK BK201.out⟩, ⟨TB1 GE201.out⟩⟩
        ·rw [if_neg c18] at H
         have c18b0 : decide ((t208.length : Int) < x9_1) = false := decide_eq_false c18
         clear c18
         have H' := Aside0.mk H
         clear H
         obtain ⟨Ao23, co23, eo23⟩ := Kd.R_slice HO_7.out
         subst eo23
         try go_wp2
         have n0_ := Aside0.mk (Kd.R_drew HO_7.out)
         have n1_ := Aside0.mk (blk_drew BK201.out)
         have n2_ := Aside0.mk (below_drew1 HB.out)
         clear HO_7
         clear BK201
         clear HB
         have HO_7 := n0_
         have BK201 := n1_
         have HB := n2_
         clear n0_ n1_ n2_
         have p207 : 0 ≤ (x10_1 : Int) := of_decide_eq_true TA
         have q207 : x10_1 < (t204.length : Int) := of_decide_eq_true TA
         obtain ⟨ad207, e207, hx207_0, hx207_1⟩ := at_T38 (Kd.R_reads' HO_7.out).2.2 x10_1 p207 q207
         cases e207
         replace p207 := eq_true p207
         replace q207 := eq_true q207
         refine start_ (n := 12) (S := fun w' => w'.cell? ⟨gb201, 0, none⟩ = some (.int .i64 a0_0) ∧ w'.cell? ⟨gb201, 1, none⟩ = some (.slice A0_1 l0_1.length c0_1) ∧ w'.cell? (ad207.add ((x10_1).toNat * 2)) = some (.int .i64 ((rd_T38 t204 x10_1).f0)) ∧ w'.cell? ⟨(ad207.add ((x10_1).toNat * 2)).block, (ad207.add ((x10_1).toNat * 2)).off + 1, none⟩ = some (.int .i64 ((rd_T38 t204 x10_1).f1))) (ds := []) (.replicate 12 false) (by kernel_rfl) rfl rfl ⟨cz BK201.out 0, cz BK201.out 1, hx207_0, hx207_1⟩ (fun hHeld => ?_); refine with_tabW saronref05_Least.tab9 saronref05_Least.bits9 (fun HT_ HW_ => ?_)
         generalize wr.drew = w24 at HO_7 BK201 HB hx207_0 hx207_1 hHeld ⊢
         refine pT 1 31 (bt 12 2) (k := ?_)
         refine pT 2 32 (bt 12 6) (k := ?_)
         refine pT 3 33 (bt 12 14) (k := ?_)
         refine pT 5 35 (bt 12 46) (k := ?_)
         refine tT4 0 30 (bt 12 47) hHeld (k := ?_)
         refine tT4 4 34 (bt 12 63) hHeld (k := ?_)
         refine one_ (i := 6) (N := some 36) (bt 12 127) rfl rfl (one_of HT_.out (by kernel_rfl)) (by decide) (fun K hK => ?_)
         refine goes_ Tryd.func80 (by kernel_rfl) rfl #[.agg #[.int .i64 a0_0, .slice A0_1 l0_1.length c0_1], .agg #[.int .i64 ((rd_T38 t204 x10_1).f0), .int .i64 ((rd_T38 t204 x10_1).f1)], .slice A1 l1.length c1] (by rfl) rfl rfl TM ?_
         with_reducible refine (saronref05_missing.calls k1 a0_0 _ _ l0_1 ((rd_T38 t204 x10_1).f0) ((rd_T38 t204 x10_1).f1) _ _ l1 t208 true _ ?side1 ?side2 ?side3 ?side4 A15.out).mono ?_
         (case side1 => exact TC HR0_1.out)
         (case side2 => exact HC0_1.out)
         (case side3 => exact TC HR1.out)
         (case side4 => exact HC1.out)
         rintro e w25 ⟨v209, rfl, ho0, hb⟩
         have HS2_ := (hb.cell (World.block_lt_of_cell? _ _ (hHeld.2.2.1))).trans (hHeld.2.2.1)
         have HS3_ := (hb.cell (World.block_lt_of_cell? _ _ (hHeld.2.2.2))).trans (hHeld.2.2.2)
         refine ⟨_, rfl, ?_⟩
         have n0_ := Aside0.mk (Kd.R_below (TRo HO_7.out) hb)
         have n1_ := Aside0.mk (Kd.R_lower ho0 (below_size (TB1 GE201.out)))
         have n2_ := Aside0.mk (TKb hb BK201.out)
         have n3_ := Aside0.mk (below_step (TB1 GE201.out) hb)
         clear HO_7
         clear BK201
         clear HB
         have HO_7 := n0_
         have HO210 := n1_
         have BK201 := n2_
         have HB := n3_
         clear n0_ n1_ n2_ n3_
         (try clear hb)
         (try clear hb2)
         (try clear hk)
         (try clear hi)
         (try clear ho0)
         refine hK.out _ _ ⟨cz BK201.out 0, cz BK201.out 1, HS2_, HS3_⟩ (fun hHeld => ?_)
         clear hK K
         refine norm_ (a' := ?_) ?_ ?_
         rotate_left
         ·show Act.put _ (some 36) _ = _
          simp only [Act.put, lA, lZ, lS, i64_w, i32_w]
          rfl
         refine pT 7 29 (bt 12 255) (k := ?_)
         refine pT 8 37 (bt 12 511) (k := ?_)
         refine pT 9 38 (bt 12 1023) (k := ?_)
         refine pT 10 11 (bt 12 2047) (k := ?_)
         refine pT 11 12 (bt 12 4095) (k := ?_)
         refine done_ (done_of HT_.out (by kernel_rfl)) ?_
         obtain ⟨Ao26, co26, eo26⟩ := Kd.R_slice HO210.out
         subst eo26
         try go_wp2
         go_roundg k1
         case measure => have := HK1.out; omega
         case rel => exact ⟨(true), (x9_1), (wrap64 (x10_1 + 1)), TT, TT, TT, H', ⟨by have := HK1.out; omega⟩, ⟨by (with_reducible repeat (first | apply Kd.R_alloc | apply Kd.R_drewN | apply Kd.R_drew)); exact HO_7.out⟩, ⟨TK BK201.out⟩, ⟨TB1 GE201.out⟩⟩
       ·replace c17 := Bool.eq_false_iff.mpr c17
        subst c17
        have H1 : (saronref05_Least.l0 k1 l1 t204 true (t208.length : Int) (wrap64 (x10_1 + 1)) a0_0 l0_1) = some (r1, r2) := by rw [if_neg (show ¬ (false = true) by decide)] at H; exact H
        clear H
        have H := H1
        clear H1
        have H' := Aside0.mk H
        clear H
        obtain ⟨Ao27, co27, eo27⟩ := Kd.R_slice HO_7.out
        subst eo27
        try go_wp2
        have n0_ := Aside0.mk (Kd.R_drew HO_7.out)
        have n1_ := Aside0.mk (blk_drew BK201.out)
        have n2_ := Aside0.mk (below_drew1 HB.out)
        clear HO_7
        clear BK201
        clear HB
        have HO_7 := n0_
        have BK201 := n1_
        have HB := n2_
        clear n0_ n1_ n2_
        have p207 : 0 ≤ (x10_1 : Int) := of_decide_eq_true TA
        have q207 : x10_1 < (t204.length : Int) := of_decide_eq_true TA
        obtain ⟨ad207, e207, hx207_0, hx207_1⟩ := at_T38 (Kd.R_reads' HO_7.out).2.2 x10_1 p207 q207
        cases e207
        replace p207 := eq_true p207
        replace q207 := eq_true q207
        refine start_ (n := 12) (S := fun w' => w'.cell? ⟨gb201, 0, none⟩ = some (.int .i64 a0_0) ∧ w'.cell? ⟨gb201, 1, none⟩ = some (.slice A0_1 l0_1.length c0_1) ∧ w'.cell? (ad207.add ((x10_1).toNat * 2)) = some (.int .i64 ((rd_T38 t204 x10_1).f0)) ∧ w'.cell? ⟨(ad207.add ((x10_1).toNat * 2)).block, (ad207.add ((x10_1).toNat * 2)).off + 1, none⟩ = some (.int .i64 ((rd_T38 t204 x10_1).f1))) (ds := []) (.replicate 12 false) (by kernel_rfl) rfl rfl ⟨cz BK201.out 0, cz BK201.out 1, hx207_0, hx207_1⟩ (fun hHeld => ?_); refine with_tabW saronref05_Least.tab9 saronref05_Least.bits9 (fun HT_ HW_ => ?_)
        generalize wr.drew = w28 at HO_7 BK201 HB hx207_0 hx207_1 hHeld ⊢
        refine pT 1 31 (bt 12 2) (k := ?_)
        refine pT 2 32 (bt 12 6) (k := ?_)
        refine pT 3 33 (bt 12 14) (k := ?_)
        refine pT 5 35 (bt 12 46) (k := ?_)
        refine tT4 0 30 (bt 12 47) hHeld (k := ?_)
        refine tT4 4 34 (bt 12 63) hHeld (k := ?_)
        refine one_ (i := 6) (N := some 36) (bt 12 127) rfl rfl (one_of HT_.out (by kernel_rfl)) (by decide) (fun K hK => ?_)
        refine goes_ Tryd.func80 (by kernel_rfl) rfl #[.agg #[.int .i64 a0_0, .slice A0_1 l0_1.length c0_1], .agg #[.int .i64 ((rd_T38 t204 x10_1).f0), .int .i64 ((rd_T38 t204 x10_1).f1)], .slice A1 l1.length c1] (by rfl) rfl rfl TM ?_
        with_reducible refine (saronref05_missing.calls k1 a0_0 _ _ l0_1 ((rd_T38 t204 x10_1).f0) ((rd_T38 t204 x10_1).f1) _ _ l1 t208 true _ ?side1 ?side2 ?side3 ?side4 A15.out).mono ?_
        (case side1 => exact TC HR0_1.out)
        (case side2 => exact HC0_1.out)
        (case side3 => exact TC HR1.out)
        (case side4 => exact HC1.out)
        rintro e w29 ⟨v209, rfl, ho0, hb⟩
        have HS2_ := (hb.cell (World.block_lt_of_cell? _ _ (hHeld.2.2.1))).trans (hHeld.2.2.1)
        have HS3_ := (hb.cell (World.block_lt_of_cell? _ _ (hHeld.2.2.2))).trans (hHeld.2.2.2)
        refine ⟨_, rfl, ?_⟩
        have n0_ := Aside0.mk (Kd.R_below (TRo HO_7.out) hb)
        have n1_ := Aside0.mk (Kd.R_lower ho0 (below_size (TB1 GE201.out)))
        have n2_ := Aside0.mk (TKb hb BK201.out)
        have n3_ := Aside0.mk (below_step (TB1 GE201.out) hb)
        clear HO_7
        clear BK201
        clear HB
        have HO_7 := n0_
        have HO210 := n1_
        have BK201 := n2_
        have HB := n3_
        clear n0_ n1_ n2_ n3_
        (try clear hb)
        (try clear hb2)
        (try clear hk)
        (try clear hi)
        (try clear ho0)
        refine hK.out _ _ ⟨cz BK201.out 0, cz BK201.out 1, HS2_, HS3_⟩ (fun hHeld => ?_)
        clear hK K
        refine norm_ (a' := ?_) ?_ ?_
        rotate_left
        ·show Act.put _ (some 36) _ = _
         simp only [Act.put, lA, lZ, lS, i64_w, i32_w]
         rfl
        refine pT 7 29 (bt 12 255) (k := ?_)
        refine pT 8 37 (bt 12 511) (k := ?_)
        refine pT 9 38 (bt 12 1023) (k := ?_)
        refine pT 10 11 (bt 12 2047) (k := ?_)
        refine pT 11 12 (bt 12 4095) (k := ?_)
        refine done_ (done_of HT_.out (by kernel_rfl)) ?_
        obtain ⟨Ao30, co30, eo30⟩ := Kd.R_slice HO210.out
        subst eo30
        try go_wp2
        go_roundg k1
        case measure => have := HK1.out; omega
        case rel => exact ⟨(true), ((t208.length : Int)), (wrap64 (x10_1 + 1)), TT, TT, TT, H', ⟨by have := HK1.out; omega⟩, ⟨by (with_reducible repeat (first | apply Kd.R_alloc | apply Kd.R_drewN | apply Kd.R_drew)); exact HO_7.out⟩, ⟨TK BK201.out⟩, ⟨TB1 GE201.out⟩⟩
      ·replace c16 := Bool.eq_false_iff.mpr c16
       subst c16
       have H1 : (saronref05_Least.l0 k1 l1 t204 x8_1 x9_1 (wrap64 (x10_1 + 1)) a0_0 l0_1) = some (r1, r2) := by rw [if_neg (show ¬ (false = true) by decide)] at H; exact H
       clear H
       have H := H1
       clear H1
       have H' := Aside0.mk H
       clear H
       obtain ⟨Ao31, co31, eo31⟩ := Kd.R_slice HO_7.out
       subst eo31
       try go_wp2
       have n0_ := Aside0.mk (Kd.R_drew HO_7.out)
       have n1_ := Aside0.mk (blk_drew BK201.out)
       have n2_ := Aside0.mk (below_drew1 HB.out)
       clear HO_7
       clear BK201
       clear HB
       have HO_7 := n0_
       have BK201 := n1_
       have HB := n2_
       clear n0_ n1_ n2_
       have p207 : 0 ≤ (x10_1 : Int) := of_decide_eq_true TA
       have q207 : x10_1 < (t204.length : Int) := of_decide_eq_true TA
       obtain ⟨ad207, e207, hx207_0, hx207_1⟩ := at_T38 (Kd.R_reads' HO_7.out).2.2 x10_1 p207 q207
       cases e207
       replace p207 := eq_true p207
       replace q207 := eq_true q207
       refine start_ (n := 12) (S := fun w' => w'.cell? ⟨gb201, 0, none⟩ = some (.int .i64 a0_0) ∧ w'.cell? ⟨gb201, 1, none⟩ = some (.slice A0_1 l0_1.length c0_1) ∧ w'.cell? (ad207.add ((x10_1).toNat * 2)) = some (.int .i64 ((rd_T38 t204 x10_1).f0)) ∧ w'.cell? ⟨(ad207.add ((x10_1).toNat * 2)).block, (ad207.add ((x10_1).toNat * 2)).off + 1, none⟩ = some (.int .i64 ((rd_T38 t204 x10_1).f1))) (ds := []) (.replicate 12 false) (by kernel_rfl) rfl rfl ⟨cz BK201.out 0, cz BK201.out 1, hx207_0, hx207_1⟩ (fun hHeld => ?_); refine with_tabW saronref05_Least.tab9 saronref05_Least.bits9 (fun HT_ HW_ => ?_)
       generalize wr.drew = w32 at HO_7 BK201 HB hx207_0 hx207_1 hHeld ⊢
       refine pT 1 31 (bt 12 2) (k := ?_)
       refine pT 2 32 (bt 12 6) (k := ?_)
       refine pT 3 33 (bt 12 14) (k := ?_)
       refine pT 5 35 (bt 12 46) (k := ?_)
       refine tT4 0 30 (bt 12 47) hHeld (k := ?_)
       refine tT4 4 34 (bt 12 63) hHeld (k := ?_)
       refine one_ (i := 6) (N := some 36) (bt 12 127) rfl rfl (one_of HT_.out (by kernel_rfl)) (by decide) (fun K hK => ?_)
       refine goes_ Tryd.func80 (by kernel_rfl) rfl #[.agg #[.int .i64 a0_0, .slice A0_1 l0_1.length c0_1], .agg #[.int .i64 ((rd_T38 t204 x10_1).f0), .int .i64 ((rd_T38 t204 x10_1).f1)], .slice A1 l1.length c1] (by rfl) rfl rfl TM ?_
       with_reducible refine (saronref05_missing.calls k1 a0_0 _ _ l0_1 ((rd_T38 t204 x10_1).f0) ((rd_T38 t204 x10_1).f1) _ _ l1 t208 false _ ?side1 ?side2 ?side3 ?side4 A15.out).mono ?_
       (case side1 => exact TC HR0_1.out)
       (case side2 => exact HC0_1.out)
       (case side3 => exact TC HR1.out)
       (case side4 => exact HC1.out)
       rintro e w33 ⟨v209, rfl, ho0, hb⟩
       have HS2_ := (hb.cell (World.block_lt_of_cell? _ _ (hHeld.2.2.1))).trans (hHeld.2.2.1)
       have HS3_ := (hb.cell (World.block_lt_of_cell? _ _ (hHeld.2.2.2))).trans (hHeld.2.2.2)
       refine ⟨_, rfl, ?_⟩
       have n0_ := Aside0.mk (Kd.R_below (TRo HO_7.out) hb)
       have n1_ := Aside0.mk (Kd.R_lower ho0 (below_size (TB1 GE201.out)))
       have n2_ := Aside0.mk (TKb hb BK201.out)
       have n3_ := Aside0.mk (below_step (TB1 GE201.out) hb)
       clear HO_7
       clear BK201
       clear HB
       have HO_7 := n0_
       have HO210 := n1_
       have BK201 := n2_
       have HB := n3_
       clear n0_ n1_ n2_ n3_
       (try clear hb)
       (try clear hb2)
       (try clear hk)
       (try clear hi)
       (try clear ho0)
       refine hK.out _ _ ⟨cz BK201.out 0, cz BK201.out 1, HS2_, HS3_⟩ (fun hHeld => ?_)
       clear hK K
       refine norm_ (a' := ?_) ?_ ?_
       rotate_left
       ·show Act.put _ (some 36) _ = _
        simp only [Act.put, lA, lZ, lS, i64_w, i32_w]
        rfl
       refine pT 7 29 (bt 12 255) (k := ?_)
       refine pT 8 37 (bt 12 511) (k := ?_)
       refine pT 9 38 (bt 12 1023) (k := ?_)
       refine pT 10 11 (bt 12 2047) (k := ?_)
       refine pT 11 12 (bt 12 4095) (k := ?_)
       refine done_ (done_of HT_.out (by kernel_rfl)) ?_
       try go_wp2
       go_roundg k1
       case measure => have := HK1.out; omega
       case rel => exact ⟨(x8_1), (x9_1), (wrap64 (x10_1 + 1)), TT, TT, TT, H', ⟨by have := HK1.out; omega⟩, ⟨by (with_reducible repeat (first | apply Kd.R_alloc | apply Kd.R_drewN | apply Kd.R_drew)); exact HO_7.out⟩, ⟨TK BK201.out⟩, ⟨TB1 GE201.out⟩⟩
     ·rw [if_neg c14] at H
      exact absurd H (by simp)
    ·rw [if_neg c13] at H
     have c13b0 : decide (x10_1 < (t204.length : Int)) = false := decide_eq_false c13
     clear c13
     by_cases c34 : x8_1 = true
     ·subst c34
      have H1 : (some (x9_1, 0)) = some (r1, r2) := by rw [if_pos rfl] at H; exact H
      clear H
      have H := H1
      clear H1
      simp only [Option.some.injEq, Prod.mk.injEq] at H
      obtain ⟨rfl, rfl⟩ := H
      obtain ⟨Ao35, co35, eo35⟩ := Kd.R_slice HO_7.out
      subst eo35
      go_wp2
      go_ret2
      exact ⟨TR, TB1 GE201.out⟩
     ·replace c34 := Bool.eq_false_iff.mpr c34
      subst c34
      have H1 : (some (0, 4)) = some (r1, r2) := by rw [if_neg (show ¬ (false = true) by decide)] at H; exact H
      clear H
      have H := H1
      clear H1
      simp only [Option.some.injEq, Prod.mk.injEq] at H
      obtain ⟨rfl, rfl⟩ := H
      obtain ⟨Ao36, co36, eo36⟩ := Kd.R_slice HO_7.out
      subst eo36
      go_wp2
      go_ret2
      exact ⟨TR, TB1 GE201.out⟩
 ·rw [if_neg c5] at H
  have c5b0 : (t203 == 0) = false := beq_eq_false_iff_ne.mpr c5
  have c5b1 : (t203 != 0) = true := bne_iff_ne.mpr c5
  simp only [Option.some.injEq, Prod.mk.injEq] at H
  obtain ⟨rfl, rfl⟩ := H
  go_enter Tryd.func31, Tryd.ntmps31
  try go_wp2_with (first | ((with_reducible refine gate_dst (N := 2) rfl ?_); (try (refine gate_guard (by rfl) ?_; dsimp only)); refine box_event ?hg (N := 2) ?hd (cs := #[.int .i64 a0_0, .slice A0_1 l0_1.length c0_1]) (t := 24) ?hr ?_; (case hd => rfl); (case hg => rfl); (case hr => exact TS); intro gb201 hg w37 hbox hb; have BK201 := Aside0.mk (hbox); have GW201 := Aside0.mk ((TG : w.heap.size ≤ gb201)); have GE201 := Aside0.mk ((TG : w.heap.size ≤ gb201)); replace HB := Aside0.mk (below_step TB hb); clear hb hbox hg))
  have n0_ := Aside0.mk (blk_drew BK201.out)
  have n1_ := Aside0.mk (below_drew1 HB.out)
  clear BK201
  clear HB
  have BK201 := n0_
  have HB := n1_
  clear n0_ n1_
  refine start_ (n := 6) (S := fun w' => w'.cell? ⟨gb201, 0, none⟩ = some (.int .i64 a0_0) ∧ w'.cell? ⟨gb201, 1, none⟩ = some (.slice A0_1 l0_1.length c0_1)) (ds := []) (.replicate 6 false) (by kernel_rfl) rfl rfl ⟨cz BK201.out 0, cz BK201.out 1⟩ (fun hHeld => ?_)
  generalize w37.drew = w38 at BK201 HB hHeld ⊢
  refine pu 2 15 (bt 6 4) (k := ?_)
  refine tk2 0 13 (bt 6 5) hHeld (k := ?_)
  refine tk2 1 14 (bt 6 7) hHeld (k := ?_)
  refine oN 3 16 (bt 6 15) (h := fun K hK => ?_)
  refine goes_ Tryd.func78 (by kernel_rfl) rfl #[.agg #[.int .i64 a0_0, .slice A0_1 l0_1.length c0_1], .slice A1 l1.length c1] (by rfl) rfl rfl TM ?_
  with_reducible refine (saronref05_IsHeard.calls k a0_0 _ _ l0_1 _ _ l1 t202 _ ?side1 ?side2 ?side3 ?side4 A3.out).mono ?_
  (case side1 => exact TC HR0_1.out)
  (case side2 => exact HC0_1.out)
  (case side3 => exact TC HR1.out)
  (case side4 => exact HC1.out)
  rintro e w39 ⟨rfl, hb⟩
  refine ⟨_, rfl, ?_⟩
  have n0_ := Aside0.mk (TKb hb BK201.out)
  have n1_ := Aside0.mk (below_step (TB1 GE201.out) hb)
  clear BK201
  clear HB
  have BK201 := n0_
  have HB := n1_
  clear n0_ n1_
  (try clear hb)
  (try clear hb2)
  (try clear hk)
  (try clear hi)
  refine hK.out _ _ ⟨cz BK201.out 0, cz BK201.out 1⟩ (fun hHeld => ?_)
  clear hK K
  refine norm_ (a' := ?_) ?_ ?_
  rotate_left
  ·show Act.put _ (some 16) _ = _
   simp only [Act.put, lA, lZ, lS, i64_w, i32_w]
   rfl
  refine oN 4 17 (bt 6 31) (h := fun K hK => ?_)
  refine goes_ Tryd.func58 (by kernel_rfl) rfl #[.agg #[.int .i64 a0_0, .slice A0_1 l0_1.length c0_1], .bool t202] (by rfl) rfl rfl TM ?_
  with_reducible refine (saronref05_asked.calls k a0_0 _ _ l0_1 t202 t203 _ ?side1 ?side2 A4.out).mono ?_
  (case side1 => exact TC HR0_1.out)
  (case side2 => exact HC0_1.out)
  rintro e w40 ⟨rfl, hb⟩
  refine ⟨_, rfl, ?_⟩
  have n0_ := Aside0.mk (TKb hb BK201.out)
  have n1_ := Aside0.mk (below_step (TB1 GE201.out) hb)
  clear BK201
  clear HB
  have BK201 := n0_
  have HB := n1_
  clear n0_ n1_
  (try clear hb)
  (try clear hb2)
  (try clear hk)
  (try clear hi)
  refine hK.out _ _ ⟨cz BK201.out 0, cz BK201.out 1⟩ (fun hHeld => ?_)
  clear hK K
  refine norm_ (a' := ?_) ?_ ?_
  rotate_left
  ·show Act.put _ (some 17) _ = _
   simp only [Act.put, lA, lZ, lS, i64_w, i32_w]
   rfl
  refine pu 5 6 (bt 6 63) (k := ?_)
  refine done_ (by kernel_rfl) ?_
  try go_wp2
  go_ret2
  exact ⟨TR, TB1 GE201.out⟩
end Go.Proofs.YtephecfapclgfaaDoor.PRaspKeys
namespace Go.Proofs.YtephecfapclgfaaDoor.PRaspKeys
open Go.RowKit Go.Proofs.YtephecfapclgfaaDoorW.PrintWords Go.Proofs.YtephecfapclgfaaDoorW.PrintLast Go.Proofs.YtephecfapclgfaaDoorW.PrintMore Go.Proofs.YtephecfapclgfaaDoor.M
attribute [local go_sem] max2_int min2_int max_two min_two max_three min_three max_four min_four   -- for this text's walks alone
/-! ### saronref05_Missing: function 33 -/
def saronref05_Missing.j0 : Nat → List (List Int) → Int → Int → List (S63) → Int → Int → Option ((List (S97)) × Int)
 | 0, _, _, _, _, _, _ => none
 | k + 1, x2, x8, x213000, x213001, x214000, x214001 => if x8 = 0 then ((saronref05_missing.f k x213000 x213001 x214000 x214001 x2).bind fun bt218 => (if bt218.2 = true then (some (bt218.1, 0)) else (some (([] : List (S97)), 4)))) else (some (([] : List (S97)), x8))
def saronref05_Missing.f (k : Nat) (a0_0 : Int) (l0_1 : List (S63)) (a1_0 : Int) (a1_1 : Int) (l2 : List (List Int)) : Option ((List (S97)) × Int) := (saronref05_IsHeard.f k a0_0 l0_1 l2).bind fun t214 => (if t214 = true then ((saronref05_isSpot.f a0_0 l0_1 a1_0 a1_1).bind fun t215 => ((saronref05_asked.f k a0_0 l0_1 t215).bind fun t216 => (saronref05_Missing.j0 k l2 t216 a0_0 l0_1 a1_0 a1_1))) else ((saronref05_asked.f k a0_0 l0_1 false).bind fun t217 => (saronref05_Missing.j0 k l2 t217 a0_0 l0_1 a1_0 a1_1)))
theorem saronref05_Missing.mono_l : ∀ k, (∀ y0 y1 y2 y3 y4 y5, LeO (saronref05_Missing.j0 k y0 y1 y2 y3 y4 y5) (saronref05_Missing.j0 (k + 1) y0 y1 y2 y3 y4 y5))
 | 0 => fun _ _ _ _ _ _ r h => by simp [saronref05_Missing.j0] at h
 | k + 1 => by
  have ih0 := saronref05_Missing.mono_l k
  ·intro y0 y1 y2 y3 y4 y5
   unfold saronref05_Missing.j0
   repeat' first
   | (with_reducible exact ih0 _ _ _ _ _ _)
   | (with_reducible exact saronref05_IsHeard.mono _ _ _ _)
   | (with_reducible exact saronref05_asked.mono _ _ _ _)
   | (with_reducible exact saronref05_missing.mono _ _ _ _ _ _)
   | (with_reducible exact LeO.refl _)
   | (with_reducible exact LeO.none _)
   | (with_reducible refine LeO.ite ?_ ?_)
   | (with_reducible refine LeO.bind ?_ (fun _ => ?_))
   | exact ih0 _ _ _ _ _ _
   | exact saronref05_IsHeard.mono _ _ _ _
   | exact saronref05_asked.mono _ _ _ _
   | exact saronref05_missing.mono _ _ _ _ _ _
   | exact LeO.none _
   | refine LeO.ite ?_ ?_
   | refine LeO.bind ?_ (fun _ => ?_)
theorem saronref05_Missing.mono : ∀ a0 a1 a2 a3 a4 k, LeO (saronref05_Missing.f k a0 a1 a2 a3 a4) (saronref05_Missing.f (k + 1) a0 a1 a2 a3 a4) := by
 intro a0 a1 a2 a3 a4 k
 have ih0 := saronref05_Missing.mono_l k
 unfold saronref05_Missing.f
 repeat' first
   | (with_reducible exact ih0 _ _ _ _ _ _)
   | (with_reducible exact saronref05_IsHeard.mono _ _ _ _)
   | (with_reducible exact saronref05_asked.mono _ _ _ _)
   | (with_reducible exact saronref05_missing.mono _ _ _ _ _ _)
   | (with_reducible exact LeO.refl _)
   | (with_reducible exact LeO.none _)
   | (with_reducible refine LeO.ite ?_ ?_)
   | (with_reducible refine LeO.bind ?_ (fun _ => ?_))
   | exact ih0 _ _ _ _ _ _
   | exact saronref05_IsHeard.mono _ _ _ _
   | exact saronref05_asked.mono _ _ _ _
   | exact saronref05_missing.mono _ _ _ _ _ _
   | exact LeO.none _
   | refine LeO.ite ?_ ?_
   | refine LeO.bind ?_ (fun _ => ?_)
def saronref05_Missing.T1 : Bool × List (List Nat × List Nat) := (true, [([], []), ([], []), ([], []), ([1, 2], [1, 2]), ([3, 3], [3]), ([4], [4]), ([4], [4]), ([5, 6, 4, 4], [4, 5, 6]), ([4, 7], [4, 7]), ([0, 8, 7], [0, 8]), ([9, 9, 0, 1, 2, 3, 4, 5, 6, 7, 8, 9], [9])])
def saronref05_Missing.B1 : List Nat := [0, 0, 0, 6, 14, 30, 30, 126, 254, 511, 1023]
theorem saronref05_Missing.tab1 : rtab .any (opsOf Tryd.f33 1) = saronref05_Missing.T1 := by kernel_rfl
theorem saronref05_Missing.bits1 : waitsOk saronref05_Missing.T1.2 saronref05_Missing.B1 = true := by kernel_rfl
set_option maxHeartbeats 8000000 in
set_option maxRecDepth 100000 in
theorem saronref05_Missing.calls (k : Nat) (a0_0 : Int) (A0_1 : Option Addr) (c0_1 : Nat) (l0_1 : List (S63)) (a1_0 : Int) (a1_1 : Int) (A2 : Option Addr) (c2 : Nat) (l2 : List (List Int)) (r1 : List (S97)) (r2 : Int) (w : World) (hr0_1 : Kd.C k63 w A0_1 l0_1.length l0_1) (hc0_1 : l0_1.length ≤ c0_1) (hr2 : Kd.C (Kd.slice 3 (Kd.int .i64)) w A2 l2.length l2) (hc2 : l2.length ≤ c2) (h : saronref05_Missing.f k a0_0 l0_1 a1_0 a1_1 l2 = some (r1, r2)) :
  Calls Tryd.prog 33 #[.agg #[.int .i64 a0_0, .slice A0_1 l0_1.length c0_1], .agg #[.int .i64 a1_0, .int .i64 a1_1], .slice A2 l2.length c2] w fun e w' => ∃ v0_ : Value, e = .returned (.tuple #[v0_, .int .i64 r2]) ∧ Kd.R k97 97 w' w.heap.size (fun _ => True) v0_ r1 ∧ Below w.heap.size w w' := by
 have hu24 := Tryd.underlying24
 have hu38 := Tryd.underlying38
 have HR0_1 := Aside0.mk hr0_1
 have HC0_1 := Aside0.mk hc0_1
 clear hr0_1 hc0_1
 have HR2 := Aside0.mk hr2
 have HC2 := Aside0.mk hc2
 clear hr2 hc2
 have HB := Aside0.mk (Below.refl w.heap.size w)
 have H : ((saronref05_IsHeard.f k a0_0 l0_1 l2).bind fun t214 => (if t214 = true then ((saronref05_isSpot.f a0_0 l0_1 a1_0 a1_1).bind fun t215 => ((saronref05_asked.f k a0_0 l0_1 t215).bind fun t216 => (saronref05_Missing.j0 k l2 t216 a0_0 l0_1 a1_0 a1_1))) else ((saronref05_asked.f k a0_0 l0_1 false).bind fun t217 => (saronref05_Missing.j0 k l2 t217 a0_0 l0_1 a1_0 a1_1)))) = some (r1, r2) := h
 clear h
 have HC4 := Aside0.mk H
 clear H
 go_enter Tryd.func33, Tryd.ntmps33
 go_upto_region 1 with (first | ((with_reducible refine gate_dst (N := 3) rfl ?_); refine box_event ?hg (N := 3) ?hd (cs := #[.int .i64 a0_0, .slice A0_1 l0_1.length c0_1]) (t := 24) ?hr ?_; (case hd => rfl); (case hg => rfl); (case hr => exact TS); intro gb212 hg w5 hbox hb; have BK212 := Aside0.mk (hbox); have GW212 := Aside0.mk ((TG : w.heap.size ≤ gb212)); have GE212 := Aside0.mk ((TG : w.heap.size ≤ gb212)); replace HB := Aside0.mk (below_step TB hb); clear hb hbox hg) | ((with_reducible refine gate_dst (N := 4) rfl ?_); refine box_event ?hg (N := 4) ?hd (cs := #[.int .i64 a1_0, .int .i64 a1_1]) (t := 38) ?hr ?_; (case hd => rfl); (case hg => rfl); (case hr => exact TS); intro gb213 hg w6 hbox hb; have BK213 := Aside0.mk (hbox); have GW213 := Aside0.mk ((TG1 GE212.out : w.heap.size ≤ gb213)); have GE213 := Aside0.mk ((TG1 GE212.out : w.heap.size ≤ gb213)); have NB212_213 := Aside0.mk ((by rw [hg]; exact Nat.ne_of_lt (blk_lt (g := gb212) (o := .cells #[.int .i64 a0_0, .slice A0_1 l0_1.length c0_1] 24 (0, 0)) (TK BK212.out)) : gb212 ≠ gb213)); have NB213_212 := Aside0.mk ((by rw [hg]; exact Nat.ne_of_gt (blk_lt (g := gb212) (o := .cells #[.int .i64 a0_0, .slice A0_1 l0_1.length c0_1] 24 (0, 0)) (TK BK212.out)) : gb213 ≠ gb212)); replace BK212 := Aside0.mk (TKb hb BK212.out); replace HB := Aside0.mk (below_step (TB1 GE212.out) hb); clear hb hbox hg))
 (try simp only [Act.put, lA, lZ, lS])
 go_cut [8] (fun v8 wc => ∃ (kq : Nat) (x8_3 : Int), v8 = .int .i64 x8_3 ∧ Aside0 (saronref05_Missing.j0 kq l2 x8_3 a0_0 l0_1 a1_0 a1_1 = some (r1, r2)) ∧ Aside0 (kq ≤ k) ∧ Aside0 (wc.heap[gb212]? = some (.cells #[.int .i64 a0_0, (.slice A0_1 l0_1.length c0_1)] 24 (0, 0))) ∧ Aside0 (wc.heap[gb213]? = some (.cells #[.int .i64 a1_0, .int .i64 a1_1] 38 (0, 0))) ∧ Aside0 (Below w.heap.size w wc))
 case first => as_aux_lemma =>
  have H := HC4.out
  clear HC4
  replace H := Option.bind_eq_some_iff.mp H
  obtain ⟨t214, A70, H⟩ := H
  replace H : (if t214 = true then ((saronref05_isSpot.f a0_0 l0_1 a1_0 a1_1).bind fun t215 => ((saronref05_asked.f k a0_0 l0_1 t215).bind fun t216 => (saronref05_Missing.j0 k l2 t216 a0_0 l0_1 a1_0 a1_1))) else ((saronref05_asked.f k a0_0 l0_1 false).bind fun t217 => (saronref05_Missing.j0 k l2 t217 a0_0 l0_1 a1_0 a1_1))) = some (r1, r2) := H
  have A7 := Aside0.mk A70
  clear A70
  by_cases c8 : t214 = true
  ·subst c8
   have H1 : ((saronref05_isSpot.f a0_0 l0_1 a1_0 a1_1).bind fun t215 => ((saronref05_asked.f k a0_0 l0_1 t215).bind fun t216 => (saronref05_Missing.j0 k l2 t216 a0_0 l0_1 a1_0 a1_1))) = some (r1, r2) := by rw [if_pos rfl] at H; exact H
   clear H
   have H := H1
   clear H1
   replace H := Option.bind_eq_some_iff.mp H
   obtain ⟨t215, A90, H⟩ := H
   replace H : ((saronref05_asked.f k a0_0 l0_1 t215).bind fun t216 => (saronref05_Missing.j0 k l2 t216 a0_0 l0_1 a1_0 a1_1)) = some (r1, r2) := H
   have A9 := Aside0.mk A90
   clear A90
   replace H := Option.bind_eq_some_iff.mp H
   obtain ⟨t216, A100, H⟩ := H
   replace H : (saronref05_Missing.j0 k l2 t216 a0_0 l0_1 a1_0 a1_1) = some (r1, r2) := H
   have A10 := Aside0.mk A100
   clear A100
   have H' := Aside0.mk H
   clear H
   try go_wp2
   have n0_ := Aside0.mk (blk_drew BK212.out)
   have n1_ := Aside0.mk (blk_drew BK213.out)
   have n2_ := Aside0.mk (below_drew1 HB.out)
   clear BK212
   clear BK213
   clear HB
   have BK212 := n0_
   have BK213 := n1_
   have HB := n2_
   clear n0_ n1_ n2_
   refine start_ (n := 11) (S := fun w' => w'.cell? ⟨gb212, 0, none⟩ = some (.int .i64 a0_0) ∧ w'.cell? ⟨gb212, 1, none⟩ = some (.slice A0_1 l0_1.length c0_1) ∧ w'.cell? ⟨gb213, 0, none⟩ = some (.int .i64 a1_0) ∧ w'.cell? ⟨gb213, 1, none⟩ = some (.int .i64 a1_1)) (ds := []) (.replicate 11 false) (by kernel_rfl) rfl rfl ⟨cz BK212.out 0, cz BK212.out 1, cz BK213.out 0, cz BK213.out 1⟩ (fun hHeld => ?_); refine with_tabW saronref05_Missing.tab1 saronref05_Missing.bits1 (fun HT_ HW_ => ?_)
   generalize w6.drew = w11 at BK212 BK213 HB hHeld ⊢
   refine pT 2 13 (bt 11 4) (k := ?_)
   refine tT4 0 11 (bt 11 5) hHeld (k := ?_)
   refine tT4 1 12 (bt 11 7) hHeld (k := ?_)
   refine one_ (i := 3) (N := some 14) (bt 11 15) rfl rfl (one_of HT_.out (by kernel_rfl)) (by decide) (fun K hK => ?_)
   refine goes_ Tryd.func78 (by kernel_rfl) rfl #[.agg #[.int .i64 a0_0, .slice A0_1 l0_1.length c0_1], .slice A2 l2.length c2] (by rfl) rfl rfl TM ?_
   with_reducible refine (saronref05_IsHeard.calls k a0_0 _ _ l0_1 _ _ l2 true _ ?side1 ?side2 ?side3 ?side4 A7.out).mono ?_
   (case side1 => exact TC HR0_1.out)
   (case side2 => exact HC0_1.out)
   (case side3 => exact TC HR2.out)
   (case side4 => exact HC2.out)
   rintro e w12 ⟨rfl, hb⟩
   refine ⟨_, rfl, ?_⟩
   have n0_ := Aside0.mk (TKb hb BK212.out)
   have n1_ := Aside0.mk (TKb hb BK213.out)
   have n2_ := Aside0.mk (below_step (TB2 GE212.out GE213.out) hb)
   clear BK212
   clear BK213
   clear HB
   have BK212 := n0_
   have BK213 := n1_
   have HB := n2_
   clear n0_ n1_ n2_
   (try clear hb)
   (try clear hb2)
   (try clear hk)
   (try clear hi)
   refine hK.out _ _ ⟨cz BK212.out 0, cz BK212.out 1, cz BK213.out 0, cz BK213.out 1⟩ (fun hHeld => ?_)
   clear hK K
   refine norm_ (a' := ?_) ?_ ?_
   rotate_left
   ·show Act.put _ (some 14) _ = _
    simp only [Act.put, lA, lZ, lS, i64_w, i32_w]
    rfl
   refine pT 4 15 (bt 11 31) (k := ?_)
   refine tT4 5 16 (bt 11 63) hHeld (k := ?_)
   refine tT4 6 17 (bt 11 127) hHeld (k := ?_)
   refine one_ (i := 7) (N := some 18) (bt 11 255) rfl rfl (one_of HT_.out (by kernel_rfl)) (by decide) (fun K hK => ?_)
   refine goes_ Tryd.func72 (by kernel_rfl) rfl #[.agg #[.int .i64 a0_0, .slice A0_1 l0_1.length c0_1], .agg #[.int .i64 a1_0, .int .i64 a1_1]] (by rfl) rfl rfl TM ?_
   with_reducible refine (saronref05_isSpot.calls a0_0 _ _ l0_1 a1_0 a1_1 t215 _ ?side1 ?side2 A9.out).mono ?_
   (case side1 => exact TC HR0_1.out)
   (case side2 => exact HC0_1.out)
   rintro e w13 ⟨rfl, hb⟩
   refine ⟨_, rfl, ?_⟩
   have n0_ := Aside0.mk (TKb hb BK212.out)
   have n1_ := Aside0.mk (TKb hb BK213.out)
   have n2_ := Aside0.mk (below_step (TB2 GE212.out GE213.out) hb)
   clear BK212
   clear BK213
   clear HB
   have BK212 := n0_
   have BK213 := n1_
   have HB := n2_
   clear n0_ n1_ n2_
   (try clear hb)
   (try clear hb2)
   (try clear hk)
   (try clear hi)
   refine hK.out _ _ ⟨cz BK212.out 0, cz BK212.out 1, cz BK213.out 0, cz BK213.out 1⟩ (fun hHeld => ?_)
   clear hK K
   refine norm_ (a' := ?_) ?_ ?_
   rotate_left
   ·show Act.put _ (some 18) _ = _
    simp only [Act.put, lA, lZ, lS, i64_w, i32_w]
    rfl
   refine pT 8 19 (bt 11 511) (k := ?_)
   refine one_ (i := 9) (N := some 20) (bt 11 1023) rfl rfl (one_of HT_.out (by kernel_rfl)) (by decide) (fun K hK => ?_)
   refine goes_ Tryd.func58 (by kernel_rfl) rfl #[.agg #[.int .i64 a0_0, .slice A0_1 l0_1.length c0_1], .bool t215] (by rfl) rfl rfl TM ?_
   with_reducible refine (saronref05_asked.calls k a0_0 _ _ l0_1 t215 t216 _ ?side1 ?side2 A10.out).mono ?_
   (case side1 => exact TC HR0_1.out)
   (case side2 => exact HC0_1.out)
   rintro e w14 ⟨rfl, hb⟩
   refine ⟨_, rfl, ?_⟩
   have n0_ := Aside0.mk (TKb hb BK212.out)
   have n1_ := Aside0.mk (TKb hb BK213.out)
   have n2_ := Aside0.mk (below_step (TB2 GE212.out GE213.out) hb)
   clear BK212
   clear BK213
   clear HB
   have BK212 := n0_
   have BK213 := n1_
   have HB := n2_
   clear n0_ n1_ n2_
   (try clear hb)
   (try clear hb2)
   (try clear hk)
   (try clear hi)
   refine hK.out _ _ ⟨cz BK212.out 0, cz BK212.out 1, cz BK213.out 0, cz BK213.out 1⟩ (fun hHeld => ?_)
   clear hK K
   refine norm_ (a' := ?_) ?_ ?_
   rotate_left
   ·show Act.put _ (some 20) _ = _
    simp only [Act.put, lA, lZ, lS, i64_w, i32_w]
    rfl
   refine pT 10 8 (bt 11 2047) (k := ?_)
   refine done_ (done_of HT_.out (by kernel_rfl)) ?_
   try go_wp2
   go_meet
   case rel => exact ⟨_, (t216), TT, H', ⟨by first | omega | exact Nat.le_refl _⟩, ⟨TK BK212.out⟩, ⟨TK BK213.out⟩, ⟨TB2 GE212.out GE213.out⟩⟩
  ·replace c8 := Bool.eq_false_iff.mpr c8
   subst c8
   have H1 : ((saronref05_asked.f k a0_0 l0_1 false).bind fun t217 => (saronref05_Missing.j0 k l2 t217 a0_0 l0_1 a1_0 a1_1)) = some (r1, r2) := by rw [if_neg (show ¬ (false = true) by decide)] at H; exact H
   clear H
   have H := H1
   clear H1
   replace H := Option.bind_eq_some_iff.mp H
   obtain ⟨t217, A150, H⟩ := H
   replace H : (saronref05_Missing.j0 k l2 t217 a0_0 l0_1 a1_0 a1_1) = some (r1, r2) := H
   have A15 := Aside0.mk A150
   clear A150
   have H' := Aside0.mk H
   clear H
   try go_wp2
   have n0_ := Aside0.mk (blk_drew BK212.out)
   have n1_ := Aside0.mk (blk_drew BK213.out)
   have n2_ := Aside0.mk (below_drew1 HB.out)
   clear BK212
   clear BK213
   clear HB
   have BK212 := n0_
   have BK213 := n1_
   have HB := n2_
   clear n0_ n1_ n2_
   refine start_ (n := 11) (S := fun w' => w'.cell? ⟨gb212, 0, none⟩ = some (.int .i64 a0_0) ∧ w'.cell? ⟨gb212, 1, none⟩ = some (.slice A0_1 l0_1.length c0_1)) (ds := []) (.replicate 11 false) (by kernel_rfl) rfl rfl ⟨cz BK212.out 0, cz BK212.out 1⟩ (fun hHeld => ?_); refine with_tabW saronref05_Missing.tab1 saronref05_Missing.bits1 (fun HT_ HW_ => ?_)
   generalize w6.drew = w16 at BK212 BK213 HB hHeld ⊢
   refine pT 2 13 (bt 11 4) (k := ?_)
   refine tT2 0 11 (bt 11 5) hHeld (k := ?_)
   refine tT2 1 12 (bt 11 7) hHeld (k := ?_)
   refine one_ (i := 3) (N := some 14) (bt 11 15) rfl rfl (one_of HT_.out (by kernel_rfl)) (by decide) (fun K hK => ?_)
   refine goes_ Tryd.func78 (by kernel_rfl) rfl #[.agg #[.int .i64 a0_0, .slice A0_1 l0_1.length c0_1], .slice A2 l2.length c2] (by rfl) rfl rfl TM ?_
   with_reducible refine (saronref05_IsHeard.calls k a0_0 _ _ l0_1 _ _ l2 false _ ?side1 ?side2 ?side3 ?side4 A7.out).mono ?_
   (case side1 => exact TC HR0_1.out)
   (case side2 => exact HC0_1.out)
   (case side3 => exact TC HR2.out)
   (case side4 => exact HC2.out)
   rintro e w17 ⟨rfl, hb⟩
   refine ⟨_, rfl, ?_⟩
   have n0_ := Aside0.mk (TKb hb BK212.out)
   have n1_ := Aside0.mk (TKb hb BK213.out)
   have n2_ := Aside0.mk (below_step (TB2 GE212.out GE213.out) hb)
   clear BK212
   clear BK213
   clear HB
   have BK212 := n0_
   have BK213 := n1_
   have HB := n2_
   clear n0_ n1_ n2_
   (try clear hb)
   (try clear hb2)
   (try clear hk)
   (try clear hi)
   refine hK.out _ _ ⟨cz BK212.out 0, cz BK212.out 1⟩ (fun hHeld => ?_)
   clear hK K
   refine norm_ (a' := ?_) ?_ ?_
   rotate_left
   ·show Act.put _ (some 14) _ = _
    simp only [Act.put, lA, lZ, lS, i64_w, i32_w]
    rfl
   refine pT 4 15 (bt 11 31) (k := ?_)
   refine pU 5 16 (bt 11 63) (k := ?_)
   refine pU 6 17 (bt 11 127) (k := ?_)
   refine pU 7 18 (bt 11 255) (k := ?_)
   refine pT 8 19 (bt 11 511) (k := ?_)
   refine one_ (i := 9) (N := some 20) (bt 11 1023) rfl rfl (one_of HT_.out (by kernel_rfl)) (by decide) (fun K hK => ?_)
   refine goes_ Tryd.func58 (by kernel_rfl) rfl #[.agg #[.int .i64 a0_0, .slice A0_1 l0_1.length c0_1], .bool false] (by rfl) rfl rfl TM ?_
   with_reducible refine (saronref05_asked.calls k a0_0 _ _ l0_1 false t217 _ ?side1 ?side2 A15.out).mono ?_
   (case side1 => exact TC HR0_1.out)
   (case side2 => exact HC0_1.out)
   rintro e w18 ⟨rfl, hb⟩
   refine ⟨_, rfl, ?_⟩
   have n0_ := Aside0.mk (TKb hb BK212.out)
   have n1_ := Aside0.mk (TKb hb BK213.out)
   have n2_ := Aside0.mk (below_step (TB2 GE212.out GE213.out) hb)
   clear BK212
   clear BK213
   clear HB
   have BK212 := n0_
   have BK213 := n1_
   have HB := n2_
   clear n0_ n1_ n2_
   (try clear hb)
   (try clear hb2)
   (try clear hk)
   (try clear hi)
   refine hK.out _ _ ⟨cz BK212.out 0, cz BK212.out 1⟩ (fun hHeld => ?_)
   clear hK K
   refine norm_ (a' := ?_) ?_ ?_
   rotate_left
   ·show Act.put _ (some 20) _ = _
    simp only [Act.put, lA, lZ, lS, i64_w, i32_w]
    rfl
   refine pT 10 8 (bt 11 2047) (k := ?_)
   refine done_ (done_of HT_.out (by kernel_rfl)) ?_
   try go_wp2
   go_meet
   case rel => exact ⟨_, (t217), TT, H', ⟨by first | omega | exact Nat.le_refl _⟩, ⟨TK BK212.out⟩, ⟨TK BK213.out⟩, ⟨TB2 GE212.out GE213.out⟩⟩
 case rest => as_aux_lemma =>
  clear HC4
  try clear c2
  try clear p2
  try clear c3
  try clear c5
  try clear c7
  try clear c8
  obtain ⟨kq, x8_3, rfl, HA, HJ3, BK212, BK213, HB⟩ := hcut
  cases kq with
  | zero => exact absurd HA.out (by simp [saronref05_Missing.j0])
  | succ kj3 =>
   have H := HA.out
   clear HA
   simp only [saronref05_Missing.j0] at H
   by_cases c19 : x8_3 = 0
   ·rw [if_pos c19] at H
    have c19b0 : (x8_3 == 0) = true := beq_iff_eq.mpr c19
    have c19b1 : (x8_3 != 0) = false := bne_eq_false_iff_eq.mpr c19
    clear c19
    replace H := Option.bind_eq_some_iff.mp H
    obtain ⟨⟨t218, t221⟩, A200, H⟩ := H
    replace H : (if t221 = true then (some (t218, 0)) else (some (([] : List (S97)), 4))) = some (r1, r2) := H
    have A20 := Aside0.mk A200
    clear A200
    by_cases c21 : t221 = true
    ·subst c21
     have H1 : (some (t218, 0)) = some (r1, r2) := by rw [if_pos rfl] at H; exact H
     clear H
     have H := H1
     clear H1
     simp only [Option.some.injEq, Prod.mk.injEq] at H
     obtain ⟨rfl, rfl⟩ := H
     have hnb22 := NB212_213.out
     have hnc22 := NB213_212.out
     have hcz23_0 := cz BK212.out 0
     have hcz23_1 := cz BK212.out 1
     have hfz23_0 := fz BK212.out 0
     have hfz23_1 := fz BK212.out 1
     have hcz24_0 := cz BK213.out 0
     have hcz24_1 := cz BK213.out 1
     have hfz24_0 := fz BK213.out 0
     have hfz24_1 := fz BK213.out 1
     go_wp2_with (first | ((with_reducible refine gate_callee (f := 80) rfl ?_); refine goesL_ (some 28) rfl rfl Tryd.func80 (by kernel_rfl) rfl #[.agg #[.int .i64 a0_0, .slice A0_1 l0_1.length c0_1], .agg #[.int .i64 a1_0, .int .i64 a1_1], .slice A2 l2.length c2] rfl TM ?_; (with_reducible refine (saronref05_missing.calls kj3 a0_0 _ _ l0_1 a1_0 a1_1 _ _ l2 t218 true _ ?side1 ?side2 ?side3 ?side4 A20.out).mono ?_); (case side1 => exact TC HR0_1.out); (case side2 => exact HC0_1.out); (case side3 => exact TC HR2.out); (case side4 => exact HC2.out); rintro e w25 ⟨v219, rfl, ho0, hb⟩; refine ⟨_, rfl, ?_⟩; have HO220 := Aside0.mk (Kd.R_lower ho0 (below_size (TB2 GE212.out GE213.out))); replace BK212 := Aside0.mk (TKb hb BK212.out); replace BK213 := Aside0.mk (TKb hb BK213.out); replace HB := Aside0.mk (below_step (TB2 GE212.out GE213.out) hb); (try clear hb); (try clear hb2); (try clear hk); (try clear hi); (try clear ho0)))
     go_ret2
     exact ⟨_, TR, by (with_reducible repeat (first | apply Kd.R_alloc | apply Kd.R_drewN | apply Kd.R_drew)); exact HO220.out, TB2 GE212.out GE213.out⟩
    ·replace c21 := Bool.eq_false_iff.mpr c21
     subst c21
     have H1 : (some (([] : List (S97)), 4)) = some (r1, r2) := by rw [if_neg (show ¬ (false = true) by decide)] at H; exact H
     clear H
     have H := H1
     clear H1
     simp only [Option.some.injEq, Prod.mk.injEq] at H
     obtain ⟨rfl, rfl⟩ := H
     have hnb26 := NB212_213.out
     have hnc26 := NB213_212.out
     have hcz27_0 := cz BK212.out 0
     have hcz27_1 := cz BK212.out 1
     have hfz27_0 := fz BK212.out 0
     have hfz27_1 := fz BK212.out 1
     have hcz28_0 := cz BK213.out 0
     have hcz28_1 := cz BK213.out 1
     have hfz28_0 := fz BK213.out 0
     have hfz28_1 := fz BK213.out 1
     go_wp2_with (first | ((with_reducible refine gate_callee (f := 80) rfl ?_); refine goesL_ (some 28) rfl rfl Tryd.func80 (by kernel_rfl) rfl #[.agg #[.int .i64 a0_0, .slice A0_1 l0_1.length c0_1], .agg #[.int .i64 a1_0, .int .i64 a1_1], .slice A2 l2.length c2] rfl TM ?_; (with_reducible refine (saronref05_missing.calls kj3 a0_0 _ _ l0_1 a1_0 a1_1 _ _ l2 t218 false _ ?side1 ?side2 ?side3 ?side4 A20.out).mono ?_); (case side1 => exact TC HR0_1.out); (case side2 => exact HC0_1.out); (case side3 => exact TC HR2.out); (case side4 => exact HC2.out); rintro e w29 ⟨v219, rfl, ho0, hb⟩; refine ⟨_, rfl, ?_⟩; have HO220 := Aside0.mk (Kd.R_lower ho0 (below_size (TB2 GE212.out GE213.out))); replace BK212 := Aside0.mk (TKb hb BK212.out); replace BK213 := Aside0.mk (TKb hb BK213.out); replace HB := Aside0.mk (below_step (TB2 GE212.out GE213.out) hb); (try clear hb); (try clear hb2); (try clear hk); (try clear hi); (try clear ho0)))
     go_ret2
     exact ⟨_, TR, by first | exact Kd.R_nil _ _ _ _ _ | exact Kd.N_nil _ _ _ _ _ | exact Kd.V_nil _ _ _ _ _ | exact Kd.Q_nil _ _ _ _ _ | exact Kd.S_nil _ _ _ _ _, TB2 GE212.out GE213.out⟩
   ·rw [if_neg c19] at H
    have c19b0 : (x8_3 == 0) = false := beq_eq_false_iff_ne.mpr c19
    have c19b1 : (x8_3 != 0) = true := bne_iff_ne.mpr c19
    simp only [Option.some.injEq, Prod.mk.injEq] at H
    obtain ⟨rfl, rfl⟩ := H
    go_wp2
    go_ret2
    exact ⟨_, TR, by first | exact Kd.R_nil _ _ _ _ _ | exact Kd.N_nil _ _ _ _ _ | exact Kd.V_nil _ _ _ _ _ | exact Kd.Q_nil _ _ _ _ _ | exact Kd.S_nil _ _ _ _ _, TB2 GE212.out GE213.out⟩
end Go.Proofs.YtephecfapclgfaaDoor.PRaspKeys
