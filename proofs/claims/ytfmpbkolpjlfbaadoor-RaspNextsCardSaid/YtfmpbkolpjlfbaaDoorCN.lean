import Derived.Test.YtfmpbkolpjlfbaaDoorC0
import Derived.Test.YtfmpbkolpjlfbaaDoorM0
import Derived.Test.YtfmpbkolpjlfbaaDoorProg
import Derived.Below
import Derived.Deep.Draws
import Derived.Deep.AppendLies
import Derived.Maps.AppendAt
import Derived.OwnWalk
import Derived.Laws.BytesArg
import Derived.Laws.MakeOwn
import Derived.Laws.OwnMore
import Derived.Deep.OwnRows
import Derived.Tactics
import Derived.Lib.ConvBytes
import Derived.Laws.Slices
import Derived.WalkKit
import Derived.KernelRfl
import Derived.RowKit3
import Derived.Deep.LoopGhost
import Derived.Deep.QuietTactic
import Derived.BigQuiet
import Derived.WideLaws
import Derived.Deep.DeepCutAuto
import Derived.Deep.CutBlock
import Derived.Deep.RegionHeld3
import Derived.Laws.Rows
import Derived.Lib.AppendStr
import Derived.ArgAppend
import Derived.Laws.IdiomCopy
import Derived.OrdersHeld
import Derived.Laws.BitsLemmas
import Derived.RowKit
set_option linter.unusedVariables false
set_option linter.unusedSimpArgs false
namespace Go.Proofs.YtfmpbkolpjlfbaaDoor.PRaspKeys
open Go.RowKit Go.Proofs.YtfmpbkolpjlfbaaDoorW.PrintWords Go.Proofs.YtfmpbkolpjlfbaaDoorW.PrintLast Go.Proofs.YtfmpbkolpjlfbaaDoorW.PrintMore Go.Proofs.YtfmpbkolpjlfbaaDoor.M
attribute [local go_sem] max2_int min2_int max_two min_two max_three min_three max_four min_four   -- for this text's walks alone
/-! #### struct type 24 -/
/-! #### struct type 57 -/
/-! #### struct type 69 -/
/-! #### struct type 93 -/
end Go.Proofs.YtfmpbkolpjlfbaaDoor.PRaspKeys
namespace Go.Proofs.YtfmpbkolpjlfbaaDoor.PRaspKeys
open Go.RowKit Go.Proofs.YtfmpbkolpjlfbaaDoorW.PrintWords Go.Proofs.YtfmpbkolpjlfbaaDoorW.PrintLast Go.Proofs.YtfmpbkolpjlfbaaDoorW.PrintMore Go.Proofs.YtfmpbkolpjlfbaaDoor.M
attribute [local go_sem] max2_int min2_int max_two min_two max_three min_three max_four min_four   -- for this text's walks alone
/-! ### saronref03_Next: function 17 -/
def saronref03_Next.f (k : Nat) (l0_0 : List (S57)) (a0_1 : Int) (a0_2 : Int) (l0_3 : List (S69)) (a1 : Int) (a2 : Int) : Option (Int × Int × Int) := (saronref03_isState.f a1 a2).bind fun t142 => ((saronref03_asked.f k l0_0 a0_1 a0_2 l0_3 t142).bind fun t143 => (if t143 = 0 then ((saronref03_rows.f k l0_0 a0_1 a0_2 l0_3 true).bind fun t144 => ((saronref03_best.f k l0_0 a0_1 a0_2 l0_3 t144 a1 a2 true).bind fun bt147 => (if bt147.2 = 1000 then (some (0, 0, 4)) else (some (bt147.1, bt147.2, 0))))) else (some (0, 0, t143))))
theorem saronref03_Next.mono : ∀ a0 a1 a2 a3 a4 a5 k, LeO (saronref03_Next.f k a0 a1 a2 a3 a4 a5) (saronref03_Next.f (k + 1) a0 a1 a2 a3 a4 a5) := by
 intro a0 a1 a2 a3 a4 a5 k
 unfold saronref03_Next.f
 repeat' first
   | (with_reducible exact saronref03_asked.mono _ _ _ _ _ _)
   | (with_reducible exact saronref03_best.mono _ _ _ _ _ _ _ _ _)
   | (with_reducible exact saronref03_rows.mono _ _ _ _ _ _)
   | (with_reducible exact LeO.refl _)
   | (with_reducible exact LeO.none _)
   | (with_reducible refine LeO.ite ?_ ?_)
   | (with_reducible refine LeO.bind ?_ (fun _ => ?_))
   | exact saronref03_asked.mono _ _ _ _ _ _
   | exact saronref03_best.mono _ _ _ _ _ _ _ _ _
   | exact saronref03_rows.mono _ _ _ _ _ _
   | exact LeO.none _
   | refine LeO.ite ?_ ?_
   | refine LeO.bind ?_ (fun _ => ?_)
def saronref03_Next.T4 : Bool × List (List Nat × List Nat) := (true, [([], []), ([], []), ([1], [1]), ([], []), ([], []), ([0, 2, 3, 4, 2], [0, 2, 3, 4]), ([5], [5]), ([6], [6]), ([6], [6]), ([7, 5, 0, 1, 2, 3, 4, 5, 6, 7], [7]), ([8, 9, 0, 1, 2, 3, 4, 5, 6, 7, 8, 9], [8])])
def saronref03_Next.B4 : List Nat := [0, 0, 2, 0, 0, 31, 63, 127, 127, 255, 1023]
theorem saronref03_Next.tab4 : rtab .any (opsOf Tryd.f17 4) = saronref03_Next.T4 := by kernel_rfl
theorem saronref03_Next.bits4 : waitsOk saronref03_Next.T4.2 saronref03_Next.B4 = true := by kernel_rfl
set_option maxHeartbeats 8000000 in
set_option maxRecDepth 100000 in
theorem saronref03_Next.calls (k : Nat) (A0_0 : Option Addr) (c0_0 : Nat) (l0_0 : List (S57)) (a0_1 : Int) (a0_2 : Int) (A0_3 : Option Addr) (c0_3 : Nat) (l0_3 : List (S69)) (a1 : Int) (a2 : Int) (r1 : Int) (r2 : Int) (r3 : Int) (w : World) (hr0_0 : Kd.C k57 w A0_0 l0_0.length l0_0) (hc0_0 : l0_0.length ≤ c0_0) (hr0_3 : Kd.C k69 w A0_3 l0_3.length l0_3) (hc0_3 : l0_3.length ≤ c0_3) (h : saronref03_Next.f k l0_0 a0_1 a0_2 l0_3 a1 a2 = some (r1, r2, r3)) :
  Calls Tryd.prog 17 #[.agg #[.slice A0_0 l0_0.length c0_0, .int .i64 a0_1, .int .i64 a0_2, .slice A0_3 l0_3.length c0_3], .int .i64 a1, .int .i64 a2] w fun e w' => e = .returned (.tuple #[.int .i64 r1, .int .i64 r2, .int .i64 r3]) ∧ Below w.heap.size w w' := by
 have hu27 := Tryd.underlying27
 have HR0_0 := Aside0.mk hr0_0
 have HC0_0 := Aside0.mk hc0_0
 clear hr0_0 hc0_0
 have HR0_3 := Aside0.mk hr0_3
 have HC0_3 := Aside0.mk hc0_3
 clear hr0_3 hc0_3
 have HB := Aside0.mk (Below.refl w.heap.size w)
 have H : ((saronref03_isState.f a1 a2).bind fun t142 => ((saronref03_asked.f k l0_0 a0_1 a0_2 l0_3 t142).bind fun t143 => (if t143 = 0 then ((saronref03_rows.f k l0_0 a0_1 a0_2 l0_3 true).bind fun t144 => ((saronref03_best.f k l0_0 a0_1 a0_2 l0_3 t144 a1 a2 true).bind fun bt147 => (if bt147.2 = 1000 then (some (0, 0, 4)) else (some (bt147.1, bt147.2, 0))))) else (some (0, 0, t143))))) = some (r1, r2, r3) := h
 clear h
 replace H := Option.bind_eq_some_iff.mp H
 obtain ⟨t142, A40, H⟩ := H
 replace H : ((saronref03_asked.f k l0_0 a0_1 a0_2 l0_3 t142).bind fun t143 => (if t143 = 0 then ((saronref03_rows.f k l0_0 a0_1 a0_2 l0_3 true).bind fun t144 => ((saronref03_best.f k l0_0 a0_1 a0_2 l0_3 t144 a1 a2 true).bind fun bt147 => (if bt147.2 = 1000 then (some (0, 0, 4)) else (some (bt147.1, bt147.2, 0))))) else (some (0, 0, t143)))) = some (r1, r2, r3) := H
 have A4 := Aside0.mk A40
 clear A40
 replace H := Option.bind_eq_some_iff.mp H
 obtain ⟨t143, A50, H⟩ := H
 replace H : (if t143 = 0 then ((saronref03_rows.f k l0_0 a0_1 a0_2 l0_3 true).bind fun t144 => ((saronref03_best.f k l0_0 a0_1 a0_2 l0_3 t144 a1 a2 true).bind fun bt147 => (if bt147.2 = 1000 then (some (0, 0, 4)) else (some (bt147.1, bt147.2, 0))))) else (some (0, 0, t143))) = some (r1, r2, r3) := H
 have A5 := Aside0.mk A50
 clear A50
 by_cases c6 : t143 = 0
 ·rw [if_pos c6] at H
  have c6b0 : (t143 == 0) = true := beq_iff_eq.mpr c6
  have c6b1 : (t143 != 0) = false := bne_eq_false_iff_eq.mpr c6
  clear c6
  replace H := Option.bind_eq_some_iff.mp H
  obtain ⟨t144, A70, H⟩ := H
  replace H : ((saronref03_best.f k l0_0 a0_1 a0_2 l0_3 t144 a1 a2 true).bind fun bt147 => (if bt147.2 = 1000 then (some (0, 0, 4)) else (some (bt147.1, bt147.2, 0)))) = some (r1, r2, r3) := H
  have A7 := Aside0.mk A70
  clear A70
  replace H := Option.bind_eq_some_iff.mp H
  obtain ⟨⟨t147, t148⟩, A80, H⟩ := H
  replace H : (if t148 = 1000 then (some (0, 0, 4)) else (some (t147, t148, 0))) = some (r1, r2, r3) := H
  have A8 := Aside0.mk A80
  clear A80
  by_cases c9 : t148 = 1000
  ·rw [if_pos c9] at H
   have c9b0 : (t148 == 1000) = true := beq_iff_eq.mpr c9
   have c9b1 : (t148 != 1000) = false := bne_eq_false_iff_eq.mpr c9
   clear c9
   simp only [Option.some.injEq, Prod.mk.injEq] at H
   obtain ⟨rfl, rfl, rfl⟩ := H
   go_enter Tryd.func17, Tryd.ntmps17
   try go_wp2_with (first | ((with_reducible refine gate_dst (N := 3) rfl ?_); refine box_event ?hg (N := 3) ?hd (cs := #[.slice A0_0 l0_0.length c0_0, .int .i64 a0_1, .int .i64 a0_2, .slice A0_3 l0_3.length c0_3]) (t := 27) ?hr ?_; (case hd => rfl); (case hg => rfl); (case hr => exact TS); intro gb141 hg w10 hbox hb; have BK141 := Aside0.mk (hbox); have GW141 := Aside0.mk ((TG : w.heap.size ≤ gb141)); have GE141 := Aside0.mk ((TG : w.heap.size ≤ gb141)); replace HB := Aside0.mk (below_step TB hb); clear hb hbox hg))
   have n0_ := Aside0.mk (blk_drew BK141.out)
   have n1_ := Aside0.mk (below_drew1 HB.out)
   clear BK141
   clear HB
   have BK141 := n0_
   have HB := n1_
   clear n0_ n1_
   refine start_ (n := 6) (S := fun w' => w'.cell? ⟨gb141, 0, none⟩ = some (.slice A0_0 l0_0.length c0_0) ∧ w'.cell? ⟨gb141, 1, none⟩ = some (.int .i64 a0_1) ∧ w'.cell? ⟨gb141, 2, none⟩ = some (.int .i64 a0_2) ∧ w'.cell? ⟨gb141, 3, none⟩ = some (.slice A0_3 l0_3.length c0_3)) (ds := []) (.replicate 6 false) (by kernel_rfl) rfl rfl ⟨cz BK141.out 0, cz BK141.out 1, cz BK141.out 2, cz BK141.out 3⟩ (fun hHeld => ?_)
   generalize w10.drew = w11 at BK141 HB hHeld ⊢
   refine pu 1 13 (bt 6 2) (k := ?_)
   refine pu 2 14 (bt 6 6) (k := ?_)
   refine tk4 0 12 (bt 6 7) hHeld (k := ?_)
   refine oN 3 15 (bt 6 15) (h := fun K hK => ?_)
   refine goes_ Tryd.func55 (by kernel_rfl) rfl #[.int .i64 a1, .int .i64 a2] (by rfl) rfl rfl TM ?_
   with_reducible refine (saronref03_isState.calls a1 a2 t142 _ A4.out).mono ?_
   rintro e w' ⟨rfl, ⟨nd, rfl⟩⟩
   refine ⟨_, rfl, ?_⟩
   refine hK.out _ _ ⟨cz BK141.out 0, cz BK141.out 1, cz BK141.out 2, cz BK141.out 3⟩ (fun hHeld => ?_)
   clear hK K
   refine norm_ (a' := ?_) ?_ ?_
   rotate_left
   ·show Act.put _ (some 15) _ = _
    simp only [Act.put, lA, lZ, lS, i64_w, i32_w]
    rfl
   refine oN 4 16 (bt 6 31) (h := fun K hK => ?_)
   refine goes_ Tryd.func54 (by kernel_rfl) rfl #[.agg #[.slice A0_0 l0_0.length c0_0, .int .i64 a0_1, .int .i64 a0_2, .slice A0_3 l0_3.length c0_3], .bool t142] (by rfl) rfl rfl TM ?_
   with_reducible refine (saronref03_asked.calls k _ _ l0_0 a0_1 a0_2 _ _ l0_3 t142 t143 _ ?side1 ?side2 ?side3 ?side4 A5.out).mono ?_
   (case side1 => exact TD HR0_0.out (TB1 GE141.out))
   (case side2 => exact HC0_0.out)
   (case side3 => exact TD HR0_3.out (TB1 GE141.out))
   (case side4 => exact HC0_3.out)
   rintro e w12 ⟨rfl, hb⟩
   refine ⟨_, rfl, ?_⟩
   have n0_ := Aside0.mk (TKb hb BK141.out)
   have n1_ := Aside0.mk (below_step (TB1 GE141.out) hb)
   clear BK141
   clear HB
   have BK141 := n0_
   have HB := n1_
   clear n0_ n1_
   (try clear hb)
   (try clear hb2)
   (try clear hk)
   (try clear hi)
   refine hK.out _ _ ⟨cz BK141.out 0, cz BK141.out 1, cz BK141.out 2, cz BK141.out 3⟩ (fun hHeld => ?_)
   clear hK K
   refine norm_ (a' := ?_) ?_ ?_
   rotate_left
   ·show Act.put _ (some 16) _ = _
    simp only [Act.put, lA, lZ, lS, i64_w, i32_w]
    rfl
   refine pu 5 9 (bt 6 63) (k := ?_)
   refine done_ (by kernel_rfl) ?_
   try go_wp2
   have n0_ := Aside0.mk (blk_drew BK141.out)
   have n1_ := Aside0.mk (below_drew1 HB.out)
   clear BK141
   clear HB
   have BK141 := n0_
   have HB := n1_
   clear n0_ n1_
   refine start_ (n := 11) (S := fun w' => w'.cell? ⟨gb141, 0, none⟩ = some (.slice A0_0 l0_0.length c0_0) ∧ w'.cell? ⟨gb141, 1, none⟩ = some (.int .i64 a0_1) ∧ w'.cell? ⟨gb141, 2, none⟩ = some (.int .i64 a0_2) ∧ w'.cell? ⟨gb141, 3, none⟩ = some (.slice A0_3 l0_3.length c0_3)) (ds := []) (.replicate 11 false) (by kernel_rfl) rfl rfl ⟨cz BK141.out 0, cz BK141.out 1, cz BK141.out 2, cz BK141.out 3⟩ (fun hHeld => ?_); refine with_tabW saronref03_Next.tab4 saronref03_Next.bits4 (fun HT_ HW_ => ?_)
   generalize w12.drew = w13 at BK141 HB hHeld ⊢
   refine pT 3 24 (bt 11 8) (k := ?_)
   refine pT 4 25 (bt 11 24) (k := ?_)
   refine tT4 0 21 (bt 11 25) hHeld (k := ?_)
   refine tT4 1 22 (bt 11 27) hHeld (k := ?_)
   refine one_ (i := 2) (N := some 23) (bt 11 31) rfl rfl (one_of HT_.out (by kernel_rfl)) (by decide) (fun K hK => ?_)
   refine goes_ Tryd.func57 (by kernel_rfl) rfl #[.agg #[.slice A0_0 l0_0.length c0_0, .int .i64 a0_1, .int .i64 a0_2, .slice A0_3 l0_3.length c0_3], .bool true] (by rfl) rfl rfl TM ?_
   with_reducible refine (saronref03_rows.calls k _ _ l0_0 a0_1 a0_2 _ _ l0_3 true t144 _ ?side1 ?side2 ?side3 ?side4 A7.out).mono ?_
   (case side1 => exact TC HR0_0.out)
   (case side2 => exact HC0_0.out)
   (case side3 => exact TC HR0_3.out)
   (case side4 => exact HC0_3.out)
   rintro e w14 ⟨v145, rfl, ho0, hb⟩
   refine ⟨_, rfl, ?_⟩
   have n0_ := Aside0.mk (Kd.S_lower ho0 (below_size (TB1 GE141.out)))
   have n1_ := Aside0.mk (TKb hb BK141.out)
   have n2_ := Aside0.mk (below_step (TB1 GE141.out) hb)
   clear BK141
   clear HB
   have HO146 := n0_
   have BK141 := n1_
   have HB := n2_
   clear n0_ n1_ n2_
   (try clear hb)
   (try clear hb2)
   (try clear hk)
   (try clear hi)
   (try clear ho0)
   obtain ⟨Ao15, co15, eo15⟩ := Kd.S_slice HO146.out
   (first | subst eo15 | (injection eo15 with f1_ f2_ f3_; have f4_ := f1_.symm; have f5_ := f3_.symm; clear f1_ f2_ f3_; subst f4_; subst f5_))
   refine hK.out _ _ ⟨cz BK141.out 0, cz BK141.out 1, cz BK141.out 2, cz BK141.out 3⟩ (fun hHeld => ?_)
   clear hK K
   refine norm_ (a' := ?_) ?_ ?_
   rotate_left
   ·show Act.put _ (some 23) _ = _
    simp only [Act.put, lA, lZ, lS, i64_w, i32_w]
    rfl
   refine one_ (i := 5) (N := some 26) (bt 11 63) rfl rfl (one_of HT_.out (by kernel_rfl)) (by decide) (fun K hK => ?_)
   refine goes_ Tryd.func56 (by kernel_rfl) rfl #[.agg #[.slice A0_0 l0_0.length c0_0, .int .i64 a0_1, .int .i64 a0_2, .slice A0_3 l0_3.length c0_3], .slice Ao15 t144.length co15, .int .i64 a1, .int .i64 a2, .bool true] (by rfl) rfl rfl TM ?_
   with_reducible refine (saronref03_best.calls k _ _ l0_0 a0_1 a0_2 _ _ l0_3 _ _ t144 a1 a2 true t147 t148 _ ?side1 ?side2 ?side3 ?side4 ?side5 ?side6 A8.out).mono ?_
   (case side1 => exact TC HR0_0.out)
   (case side2 => exact HC0_0.out)
   (case side3 => exact TC HR0_3.out)
   (case side4 => exact HC0_3.out)
   (case side5 => exact TE (Kd.S_reads' HO146.out).2.2)
   (case side6 => exact (Kd.S_reads' HO146.out).2.1)
   rintro e w16 ⟨rfl, hb⟩
   refine ⟨_, rfl, ?_⟩
   have n0_ := Aside0.mk (Kd.S_below (TSo HO146.out) hb)
   have n1_ := Aside0.mk (TKb hb BK141.out)
   have n2_ := Aside0.mk (below_step (TB1 GE141.out) hb)
   clear HO146
   clear BK141
   clear HB
   have HO146 := n0_
   have BK141 := n1_
   have HB := n2_
   clear n0_ n1_ n2_
   (try clear hb)
   (try clear hb2)
   (try clear hk)
   (try clear hi)
   refine hK.out _ _ ⟨cz BK141.out 0, cz BK141.out 1, cz BK141.out 2, cz BK141.out 3⟩ (fun hHeld => ?_)
   clear hK K
   refine norm_ (a' := ?_) ?_ ?_
   rotate_left
   ·show Act.put _ (some 26) _ = _
    simp only [Act.put, lA, lZ, lS, i64_w, i32_w]
    rfl
   refine pT 6 20 (bt 11 127) (k := ?_)
   refine pT 7 27 (bt 11 255) (k := ?_)
   refine pT 8 28 (bt 11 511) (k := ?_)
   refine pT 9 10 (bt 11 1023) (k := ?_)
   refine pT 10 11 (bt 11 2047) (k := ?_)
   refine done_ (done_of HT_.out (by kernel_rfl)) ?_
   try go_wp2
   go_ret3
   exact ⟨TR, TB1 GE141.out⟩
  ·rw [if_neg c9] at H
   have c9b0 : (t148 == 1000) = false := beq_eq_false_iff_ne.mpr c9
   have c9b1 : (t148 != 1000) = true := bne_iff_ne.mpr c9
   simp only [Option.some.injEq, Prod.mk.injEq] at H
   obtain ⟨rfl, rfl, rfl⟩ := H
   go_enter Tryd.func17, Tryd.ntmps17
   try go_wp2_with (first | ((with_reducible refine gate_dst (N := 3) rfl ?_); refine box_event ?hg (N := 3) ?hd (cs := #[.slice A0_0 l0_0.length c0_0, .int .i64 a0_1, .int .i64 a0_2, .slice A0_3 l0_3.length c0_3]) (t := 27) ?hr ?_; (case hd => rfl); (case hg => rfl); (case hr => exact TS); intro gb141 hg w17 hbox hb; have BK141 := Aside0.mk (hbox); have GW141 := Aside0.mk ((TG : w.heap.size ≤ gb141)); have GE141 := Aside0.mk ((TG : w.heap.size ≤ gb141)); replace HB := Aside0.mk (below_step TB hb); clear hb hbox hg))
   have n0_ := Aside0.mk (blk_drew BK141.out)
   have n1_ := Aside0.mk (below_drew1 HB.out)
   clear BK141
   clear HB
   have BK141 := n0_
   have HB := n1_
   clear n0_ n1_
   refine start_ (n := 6) (S := fun w' => w'.cell? ⟨gb141, 0, none⟩ = some (.slice A0_0 l0_0.length c0_0) ∧ w'.cell? ⟨gb141, 1, none⟩ = some (.int .i64 a0_1) ∧ w'.cell? ⟨gb141, 2, none⟩ = some (.int .i64 a0_2) ∧ w'.cell? ⟨gb141, 3, none⟩ = some (.slice A0_3 l0_3.length c0_3)) (ds := []) (.replicate 6 false) (by kernel_rfl) rfl rfl ⟨cz BK141.out 0, cz BK141.out 1, cz BK141.out 2, cz BK141.out 3⟩ (fun hHeld => ?_)
   generalize w17.drew = w18 at BK141 HB hHeld ⊢
   refine pu 1 13 (bt 6 2) (k := ?_)
   refine pu 2 14 (bt 6 6) (k := ?_)
   refine tk4 0 12 (bt 6 7) hHeld (k := ?_)
   refine oN 3 15 (bt 6 15) (h := fun K hK => ?_)
   refine goes_ Tryd.func55 (by kernel_rfl) rfl #[.int .i64 a1, .int .i64 a2] (by rfl) rfl rfl TM ?_
   with_reducible refine (saronref03_isState.calls a1 a2 t142 _ A4.out).mono ?_
   rintro e w' ⟨rfl, ⟨nd, rfl⟩⟩
   refine ⟨_, rfl, ?_⟩
   refine hK.out _ _ ⟨cz BK141.out 0, cz BK141.out 1, cz BK141.out 2, cz BK141.out 3⟩ (fun hHeld => ?_)
   clear hK K
   refine norm_ (a' := ?_) ?_ ?_
   rotate_left
   ·show Act.put _ (some 15) _ = _
    simp only [Act.put, lA, lZ, lS, i64_w, i32_w]
    rfl
   refine oN 4 16 (bt 6 31) (h := fun K hK => ?_)
   refine goes_ Tryd.func54 (by kernel_rfl) rfl #[.agg #[.slice A0_0 l0_0.length c0_0, .int .i64 a0_1, .int .i64 a0_2, .slice A0_3 l0_3.length c0_3], .bool t142] (by rfl) rfl rfl TM ?_
   with_reducible refine (saronref03_asked.calls k _ _ l0_0 a0_1 a0_2 _ _ l0_3 t142 t143 _ ?side1 ?side2 ?side3 ?side4 A5.out).mono ?_
   (case side1 => exact TD HR0_0.out (TB1 GE141.out))
   (case side2 => exact HC0_0.out)
   (case side3 => exact TD HR0_3.out (TB1 GE141.out))
   (case side4 => exact HC0_3.out)
   rintro e w19 ⟨rfl, hb⟩
   refine ⟨_, rfl, ?_⟩
   have n0_ := Aside0.mk (TKb hb BK141.out)
   have n1_ := Aside0.mk (below_step (TB1 GE141.out) hb)
   clear BK141
   clear HB
   have BK141 := n0_
   have HB := n1_
   clear n0_ n1_
   (try clear hb)
   (try clear hb2)
   (try clear hk)
   (try clear hi)
   refine hK.out _ _ ⟨cz BK141.out 0, cz BK141.out 1, cz BK141.out 2, cz BK141.out 3⟩ (fun hHeld => ?_)
   clear hK K
   refine norm_ (a' := ?_) ?_ ?_
   rotate_left
   ·show Act.put _ (some 16) _ = _
    simp only [Act.put, lA, lZ, lS, i64_w, i32_w]
    rfl
   refine pu 5 9 (bt 6 63) (k := ?_)
   refine done_ (by kernel_rfl) ?_
   try go_wp2
   have n0_ := Aside0.mk (blk_drew BK141.out)
   have n1_ := Aside0.mk (below_drew1 HB.out)
   clear BK141
   clear HB
   have BK141 := n0_
   have HB := n1_
   clear n0_ n1_
   refine start_ (n := 11) (S := fun w' => w'.cell? ⟨gb141, 0, none⟩ = some (.slice A0_0 l0_0.length c0_0) ∧ w'.cell? ⟨gb141, 1, none⟩ = some (.int .i64 a0_1) ∧ w'.cell? ⟨gb141, 2, none⟩ = some (.int .i64 a0_2) ∧ w'.cell? ⟨gb141, 3, none⟩ = some (.slice A0_3 l0_3.length c0_3)) (ds := []) (.replicate 11 false) (by kernel_rfl) rfl rfl ⟨cz BK141.out 0, cz BK141.out 1, cz BK141.out 2, cz BK141.out 3⟩ (fun hHeld => ?_); refine with_tabW saronref03_Next.tab4 saronref03_Next.bits4 (fun HT_ HW_ => ?_)
   generalize w19.drew = w20 at BK141 HB hHeld ⊢
   refine pT 3 24 (bt 11 8) (k := ?_)
   refine pT 4 25 (bt 11 24) (k := ?_)
   refine tT4 0 21 (bt 11 25) hHeld (k := ?_)
   refine tT4 1 22 (bt 11 27) hHeld (k := ?_)
   refine one_ (i := 2) (N := some 23) (bt 11 31) rfl rfl (one_of HT_.out (by kernel_rfl)) (by decide) (fun K hK => ?_)
   refine goes_ Tryd.func57 (by kernel_rfl) rfl #[.agg #[.slice A0_0 l0_0.length c0_0, .int .i64 a0_1, .int .i64 a0_2, .slice A0_3 l0_3.length c0_3], .bool true] (by rfl) rfl rfl TM ?_
   with_reducible refine (saronref03_rows.calls k _ _ l0_0 a0_1 a0_2 _ _ l0_3 true t144 _ ?side1 ?side2 ?side3 ?side4 A7.out).mono ?_
   (case side1 => exact TC HR0_0.out)
   (case side2 => exact HC0_0.out)
   (case side3 => exact TC HR0_3.out)
   (case side4 => exact HC0_3.out)
   rintro e w21 ⟨v145, rfl, ho0, hb⟩
   refine ⟨_, rfl, ?_⟩
   have n0_ := Aside0.mk (Kd.S_lower ho0 (below_size (TB1 GE141.out)))
   have n1_ := Aside0.mk (TKb hb BK141.out)
   have n2_ := Aside0.mk (below_step (TB1 GE141.out) hb)
   clear BK141
   clear HB
   have HO146 := n0_
   have BK141 := n1_
   have HB := n2_
   clear n0_ n1_ n2_
   (try clear hb)
   (try clear hb2)
   (try clear hk)
   (try clear hi)
   (try clear ho0)
   obtain ⟨Ao22, co22, eo22⟩ := Kd.S_slice HO146.out
   (first | subst eo22 | (injection eo22 with f1_ f2_ f3_; have f4_ := f1_.symm; have f5_ := f3_.symm; clear f1_ f2_ f3_; subst f4_; subst f5_))
   refine hK.out _ _ ⟨cz BK141.out 0, cz BK141.out 1, cz BK141.out 2, cz BK141.out 3⟩ (fun hHeld => ?_)
   clear hK K
   refine norm_ (a' := ?_) ?_ ?_
   rotate_left
   ·show Act.put _ (some 23) _ = _
    simp only [Act.put, lA, lZ, lS, i64_w, i32_w]
    rfl
   refine one_ (i := 5) (N := some 26) (bt 11 63) rfl rfl (one_of HT_.out (by kernel_rfl)) (by decide) (fun K hK => ?_)
   refine goes_ Tryd.func56 (by kernel_rfl) rfl #[.agg #[.slice A0_0 l0_0.length c0_0, .int .i64 a0_1, .int .i64 a0_2, .slice A0_3 l0_3.length c0_3], .slice Ao22 t144.length co22, .int .i64 a1, .int .i64 a2, .bool true] (by rfl) rfl rfl TM ?_
   with_reducible refine (saronref03_best.calls k _ _ l0_0 a0_1 a0_2 _ _ l0_3 _ _ t144 a1 a2 true t147 t148 _ ?side1 ?side2 ?side3 ?side4 ?side5 ?side6 A8.out).mono ?_
   (case side1 => exact TC HR0_0.out)
   (case side2 => exact HC0_0.out)
   (case side3 => exact TC HR0_3.out)
   (case side4 => exact HC0_3.out)
   (case side5 => exact TE (Kd.S_reads' HO146.out).2.2)
   (case side6 => exact (Kd.S_reads' HO146.out).2.1)
   rintro e w23 ⟨rfl, hb⟩
   refine ⟨_, rfl, ?_⟩
   have n0_ := Aside0.mk (Kd.S_below (TSo HO146.out) hb)
   have n1_ := Aside0.mk (TKb hb BK141.out)
   have n2_ := Aside0.mk (below_step (TB1 GE141.out) hb)
   clear HO146
   clear BK141
   clear HB
   have HO146 := n0_
   have BK141 := n1_
   have HB := n2_
   clear n0_ n1_ n2_
   (try clear hb)
   (try clear hb2)
   (try clear hk)
   (try clear hi)
   refine hK.out _ _ ⟨cz BK141.out 0, cz BK141.out 1, cz BK141.out 2, cz BK141.out 3⟩ (fun hHeld => ?_)
   clear hK K
   refine norm_ (a' := ?_) ?_ ?_
   rotate_left
   ·show Act.put _ (some 26) _ = _
    simp only [Act.put, lA, lZ, lS, i64_w, i32_w]
    rfl
   refine pT 6 20 (bt 11 127) (k := ?_)
   refine pT 7 27 (bt 11 255) (k := ?_)
   refine pT 8 28 (bt 11 511) (k := ?_)
   refine pT 9 10 (bt 11 1023) (k := ?_)
   refine pT 10 11 (bt 11 2047) (k := ?_)
   refine done_ (done_of HT_.out (by kernel_rfl)) ?_
   try go_wp2
   go_ret3
   exact ⟨TR, TB1 GE141.out⟩
 ·rw [if_neg c6] at H
  have c6b0 : (t143 == 0) = false := beq_eq_false_iff_ne.mpr c6
  have c6b1 : (t143 != 0) = true := bne_iff_ne.mpr c6
  simp only [Option.some.injEq, Prod.mk.injEq] at H
  obtain ⟨rfl, rfl, rfl⟩ := H
  go_enter Tryd.func17, Tryd.ntmps17
  try go_wp2_with (first | ((with_reducible refine gate_dst (N := 3) rfl ?_); refine box_event ?hg (N := 3) ?hd (cs := #[.slice A0_0 l0_0.length c0_0, .int .i64 a0_1, .int .i64 a0_2, .slice A0_3 l0_3.length c0_3]) (t := 27) ?hr ?_; (case hd => rfl); (case hg => rfl); (case hr => exact TS); intro gb141 hg w24 hbox hb; have BK141 := Aside0.mk (hbox); have GW141 := Aside0.mk ((TG : w.heap.size ≤ gb141)); have GE141 := Aside0.mk ((TG : w.heap.size ≤ gb141)); replace HB := Aside0.mk (below_step TB hb); clear hb hbox hg))
  have n0_ := Aside0.mk (blk_drew BK141.out)
  have n1_ := Aside0.mk (below_drew1 HB.out)
  clear BK141
  clear HB
  have BK141 := n0_
  have HB := n1_
  clear n0_ n1_
  refine start_ (n := 6) (S := fun w' => w'.cell? ⟨gb141, 0, none⟩ = some (.slice A0_0 l0_0.length c0_0) ∧ w'.cell? ⟨gb141, 1, none⟩ = some (.int .i64 a0_1) ∧ w'.cell? ⟨gb141, 2, none⟩ = some (.int .i64 a0_2) ∧ w'.cell? ⟨gb141, 3, none⟩ = some (.slice A0_3 l0_3.length c0_3)) (ds := []) (.replicate 6 false) (by kernel_rfl) rfl rfl ⟨cz BK141.out 0, cz BK141.out 1, cz BK141.out 2, cz BK141.out 3⟩ (fun hHeld => ?_)
  generalize w24.drew = w25 at BK141 HB hHeld ⊢
  refine pu 1 13 (bt 6 2) (k := ?_)
  refine pu 2 14 (bt 6 6) (k := ?_)
  refine tk4 0 12 (bt 6 7) hHeld (k := ?_)
  refine oN 3 15 (bt 6 15) (h := fun K hK => ?_)
  refine goes_ Tryd.func55 (by kernel_rfl) rfl #[.int .i64 a1, .int .i64 a2] (by rfl) rfl rfl TM ?_
  with_reducible refine (saronref03_isState.calls a1 a2 t142 _ A4.out).mono ?_
  rintro e w' ⟨rfl, ⟨nd, rfl⟩⟩
  refine ⟨_, rfl, ?_⟩
  refine hK.out _ _ ⟨cz BK141.out 0, cz BK141.out 1, cz BK141.out 2, cz BK141.out 3⟩ (fun hHeld => ?_)
  clear hK K
  refine norm_ (a' := ?_) ?_ ?_
  rotate_left
  ·show Act.put _ (some 15) _ = _
   simp only [Act.put, lA, lZ, lS, i64_w, i32_w]
   rfl
  refine oN 4 16 (bt 6 31) (h := fun K hK => ?_)
  refine goes_ Tryd.func54 (by kernel_rfl) rfl #[.agg #[.slice A0_0 l0_0.length c0_0, .int .i64 a0_1, .int .i64 a0_2, .slice A0_3 l0_3.length c0_3], .bool t142] (by rfl) rfl rfl TM ?_
  with_reducible refine (saronref03_asked.calls k _ _ l0_0 a0_1 a0_2 _ _ l0_3 t142 t143 _ ?side1 ?side2 ?side3 ?side4 A5.out).mono ?_
  (case side1 => exact TD HR0_0.out (TB1 GE141.out))
  (case side2 => exact HC0_0.out)
  (case side3 => exact TD HR0_3.out (TB1 GE141.out))
  (case side4 => exact HC0_3.out)
  rintro e w26 ⟨rfl, hb⟩
  refine ⟨_, rfl, ?_⟩
  have n0_ := Aside0.mk (TKb hb BK141.out)
  have n1_ := Aside0.mk (below_step (TB1 GE141.out) hb)
  clear BK141
  clear HB
  have BK141 := n0_
  have HB := n1_
  clear n0_ n1_
  (try clear hb)
  (try clear hb2)
  (try clear hk)
  (try clear hi)
  refine hK.out _ _ ⟨cz BK141.out 0, cz BK141.out 1, cz BK141.out 2, cz BK141.out 3⟩ (fun hHeld => ?_)
  clear hK K
  refine norm_ (a' := ?_) ?_ ?_
  rotate_left
  ·show Act.put _ (some 16) _ = _
   simp only [Act.put, lA, lZ, lS, i64_w, i32_w]
   rfl
  refine pu 5 9 (bt 6 63) (k := ?_)
  refine done_ (by kernel_rfl) ?_
  try go_wp2
  go_ret3
  exact ⟨TR, TB1 GE141.out⟩
end Go.Proofs.YtfmpbkolpjlfbaaDoor.PRaspKeys
namespace Go.Proofs.YtfmpbkolpjlfbaaDoor.PRaspKeys
open Go.RowKit Go.Proofs.YtfmpbkolpjlfbaaDoorW.PrintWords Go.Proofs.YtfmpbkolpjlfbaaDoorW.PrintLast Go.Proofs.YtfmpbkolpjlfbaaDoorW.PrintMore Go.Proofs.YtfmpbkolpjlfbaaDoor.M
attribute [local go_sem] max2_int min2_int max_two min_two max_three min_three max_four min_four   -- for this text's walks alone
/-! ### saronref03_Lucky: function 21 -/
def saronref03_Lucky.f (k : Nat) (l0_0 : List (S57)) (a0_1 : Int) (a0_2 : Int) (l0_3 : List (S69)) (a1 : Int) (a2 : Int) : Option (Int × Int) := (saronref03_isState.f a1 a2).bind fun t150 => ((saronref03_asked.f k l0_0 a0_1 a0_2 l0_3 t150).bind fun t151 => (if t151 = 0 then ((saronref03_rows.f k l0_0 a0_1 a0_2 l0_3 false).bind fun t152 => (if 0 ≤ a2 then (if a2 < (t152.length : Int) then ((saronref03_row_at.f ((rd_T93 t152 a2).f0) a1).bind fun t156 => (if t156 = 1000 then (some (0, 4)) else (some (t156, 0)))) else (none)) else (none))) else (some (0, t151))))
theorem saronref03_Lucky.mono : ∀ a0 a1 a2 a3 a4 a5 k, LeO (saronref03_Lucky.f k a0 a1 a2 a3 a4 a5) (saronref03_Lucky.f (k + 1) a0 a1 a2 a3 a4 a5) := by
 intro a0 a1 a2 a3 a4 a5 k
 unfold saronref03_Lucky.f
 repeat' first
   | (with_reducible exact saronref03_asked.mono _ _ _ _ _ _)
   | (with_reducible exact saronref03_rows.mono _ _ _ _ _ _)
   | (with_reducible exact LeO.refl _)
   | (with_reducible exact LeO.none _)
   | (with_reducible refine LeO.ite ?_ ?_)
   | (with_reducible refine LeO.bind ?_ (fun _ => ?_))
   | exact saronref03_asked.mono _ _ _ _ _ _
   | exact saronref03_rows.mono _ _ _ _ _ _
   | exact LeO.none _
   | refine LeO.ite ?_ ?_
   | refine LeO.bind ?_ (fun _ => ?_)
set_option maxHeartbeats 8000000 in
set_option maxRecDepth 100000 in
theorem saronref03_Lucky.calls (k : Nat) (A0_0 : Option Addr) (c0_0 : Nat) (l0_0 : List (S57)) (a0_1 : Int) (a0_2 : Int) (A0_3 : Option Addr) (c0_3 : Nat) (l0_3 : List (S69)) (a1 : Int) (a2 : Int) (r1 : Int) (r2 : Int) (w : World) (hr0_0 : Kd.C k57 w A0_0 l0_0.length l0_0) (hc0_0 : l0_0.length ≤ c0_0) (hr0_3 : Kd.C k69 w A0_3 l0_3.length l0_3) (hc0_3 : l0_3.length ≤ c0_3) (h : saronref03_Lucky.f k l0_0 a0_1 a0_2 l0_3 a1 a2 = some (r1, r2)) :
  Calls Tryd.prog 21 #[.agg #[.slice A0_0 l0_0.length c0_0, .int .i64 a0_1, .int .i64 a0_2, .slice A0_3 l0_3.length c0_3], .int .i64 a1, .int .i64 a2] w fun e w' => e = .returned (.tuple #[.int .i64 r1, .int .i64 r2]) ∧ Below w.heap.size w w' := by
 have hu27 := Tryd.underlying27
 have hu93 := Tryd.underlying93
 have HR0_0 := Aside0.mk hr0_0
 have HC0_0 := Aside0.mk hc0_0
 clear hr0_0 hc0_0
 have HR0_3 := Aside0.mk hr0_3
 have HC0_3 := Aside0.mk hc0_3
 clear hr0_3 hc0_3
 have HB := Aside0.mk (Below.refl w.heap.size w)
 have H : ((saronref03_isState.f a1 a2).bind fun t150 => ((saronref03_asked.f k l0_0 a0_1 a0_2 l0_3 t150).bind fun t151 => (if t151 = 0 then ((saronref03_rows.f k l0_0 a0_1 a0_2 l0_3 false).bind fun t152 => (if 0 ≤ a2 then (if a2 < (t152.length : Int) then ((saronref03_row_at.f ((rd_T93 t152 a2).f0) a1).bind fun t156 => (if t156 = 1000 then (some (0, 4)) else (some (t156, 0)))) else (none)) else (none))) else (some (0, t151))))) = some (r1, r2) := h
 clear h
 replace H := Option.bind_eq_some_iff.mp H
 obtain ⟨t150, A40, H⟩ := H
 replace H : ((saronref03_asked.f k l0_0 a0_1 a0_2 l0_3 t150).bind fun t151 => (if t151 = 0 then ((saronref03_rows.f k l0_0 a0_1 a0_2 l0_3 false).bind fun t152 => (if 0 ≤ a2 then (if a2 < (t152.length : Int) then ((saronref03_row_at.f ((rd_T93 t152 a2).f0) a1).bind fun t156 => (if t156 = 1000 then (some (0, 4)) else (some (t156, 0)))) else (none)) else (none))) else (some (0, t151)))) = some (r1, r2) := H
 have A4 := Aside0.mk A40
 clear A40
 replace H := Option.bind_eq_some_iff.mp H
 obtain ⟨t151, A50, H⟩ := H
 replace H : (if t151 = 0 then ((saronref03_rows.f k l0_0 a0_1 a0_2 l0_3 false).bind fun t152 => (if 0 ≤ a2 then (if a2 < (t152.length : Int) then ((saronref03_row_at.f ((rd_T93 t152 a2).f0) a1).bind fun t156 => (if t156 = 1000 then (some (0, 4)) else (some (t156, 0)))) else (none)) else (none))) else (some (0, t151))) = some (r1, r2) := H
 have A5 := Aside0.mk A50
 clear A50
 by_cases c6 : t151 = 0
 ·rw [if_pos c6] at H
  have c6b0 : (t151 == 0) = true := beq_iff_eq.mpr c6
  have c6b1 : (t151 != 0) = false := bne_eq_false_iff_eq.mpr c6
  clear c6
  replace H := Option.bind_eq_some_iff.mp H
  obtain ⟨t152, A70, H⟩ := H
  replace H : (if 0 ≤ a2 then (if a2 < (t152.length : Int) then ((saronref03_row_at.f ((rd_T93 t152 a2).f0) a1).bind fun t156 => (if t156 = 1000 then (some (0, 4)) else (some (t156, 0)))) else (none)) else (none)) = some (r1, r2) := H
  have A7 := Aside0.mk A70
  clear A70
  by_cases c8 : 0 ≤ a2
  ·rw [if_pos c8] at H
   have c8b0 : decide (0 ≤ a2) = true := decide_eq_true c8
   clear c8
   by_cases c9 : a2 < (t152.length : Int)
   ·rw [if_pos c9] at H
    have c9b0 : decide (a2 < (t152.length : Int)) = true := decide_eq_true c9
    clear c9
    replace H := Option.bind_eq_some_iff.mp H
    obtain ⟨t156, A100, H⟩ := H
    replace H : (if t156 = 1000 then (some (0, 4)) else (some (t156, 0))) = some (r1, r2) := H
    have A10 := Aside0.mk A100
    clear A100
    by_cases c11 : t156 = 1000
    ·rw [if_pos c11] at H
     have c11b0 : (t156 == 1000) = true := beq_iff_eq.mpr c11
     have c11b1 : (t156 != 1000) = false := bne_eq_false_iff_eq.mpr c11
     clear c11
     simp only [Option.some.injEq, Prod.mk.injEq] at H
     obtain ⟨rfl, rfl⟩ := H
     go_enter Tryd.func21, Tryd.ntmps21
     try go_wp2_with (first | ((with_reducible refine gate_dst (N := 3) rfl ?_); refine box_event ?hg (N := 3) ?hd (cs := #[.slice A0_0 l0_0.length c0_0, .int .i64 a0_1, .int .i64 a0_2, .slice A0_3 l0_3.length c0_3]) (t := 27) ?hr ?_; (case hd => rfl); (case hg => rfl); (case hr => exact TS); intro gb149 hg w12 hbox hb; have BK149 := Aside0.mk (hbox); have GW149 := Aside0.mk ((TG : w.heap.size ≤ gb149)); have GE149 := Aside0.mk ((TG : w.heap.size ≤ gb149)); replace HB := Aside0.mk (below_step TB hb); clear hb hbox hg))
     have n0_ := Aside0.mk (blk_drew BK149.out)
     have n1_ := Aside0.mk (below_drew1 HB.out)
     clear BK149
     clear HB
     have BK149 := n0_
     have HB := n1_
     clear n0_ n1_
     refine start_ (n := 6) (S := fun w' => w'.cell? ⟨gb149, 0, none⟩ = some (.slice A0_0 l0_0.length c0_0) ∧ w'.cell? ⟨gb149, 1, none⟩ = some (.int .i64 a0_1) ∧ w'.cell? ⟨gb149, 2, none⟩ = some (.int .i64 a0_2) ∧ w'.cell? ⟨gb149, 3, none⟩ = some (.slice A0_3 l0_3.length c0_3)) (ds := []) (.replicate 6 false) (by kernel_rfl) rfl rfl ⟨cz BK149.out 0, cz BK149.out 1, cz BK149.out 2, cz BK149.out 3⟩ (fun hHeld => ?_)
     generalize w12.drew = w13 at BK149 HB hHeld ⊢
     refine pu 1 11 (bt 6 2) (k := ?_)
     refine pu 2 12 (bt 6 6) (k := ?_)
     refine tk4 0 10 (bt 6 7) hHeld (k := ?_)
     refine oN 3 13 (bt 6 15) (h := fun K hK => ?_)
     refine goes_ Tryd.func55 (by kernel_rfl) rfl #[.int .i64 a1, .int .i64 a2] (by rfl) rfl rfl TM ?_
     with_reducible refine (saronref03_isState.calls a1 a2 t150 _ A4.out).mono ?_
     rintro e w' ⟨rfl, ⟨nd, rfl⟩⟩
     refine ⟨_, rfl, ?_⟩
     refine hK.out _ _ ⟨cz BK149.out 0, cz BK149.out 1, cz BK149.out 2, cz BK149.out 3⟩ (fun hHeld => ?_)
     clear hK K
     refine norm_ (a' := ?_) ?_ ?_
     rotate_left
     ·show Act.put _ (some 13) _ = _
      simp only [Act.put, lA, lZ, lS, i64_w, i32_w]
      rfl
     refine oN 4 14 (bt 6 31) (h := fun K hK => ?_)
     refine goes_ Tryd.func54 (by kernel_rfl) rfl #[.agg #[.slice A0_0 l0_0.length c0_0, .int .i64 a0_1, .int .i64 a0_2, .slice A0_3 l0_3.length c0_3], .bool t150] (by rfl) rfl rfl TM ?_
     with_reducible refine (saronref03_asked.calls k _ _ l0_0 a0_1 a0_2 _ _ l0_3 t150 t151 _ ?side1 ?side2 ?side3 ?side4 A5.out).mono ?_
     (case side1 => exact TD HR0_0.out (TB1 GE149.out))
     (case side2 => exact HC0_0.out)
     (case side3 => exact TD HR0_3.out (TB1 GE149.out))
     (case side4 => exact HC0_3.out)
     rintro e w14 ⟨rfl, hb⟩
     refine ⟨_, rfl, ?_⟩
     have n0_ := Aside0.mk (TKb hb BK149.out)
     have n1_ := Aside0.mk (below_step (TB1 GE149.out) hb)
     clear BK149
     clear HB
     have BK149 := n0_
     have HB := n1_
     clear n0_ n1_
     (try clear hb)
     (try clear hb2)
     (try clear hk)
     (try clear hi)
     refine hK.out _ _ ⟨cz BK149.out 0, cz BK149.out 1, cz BK149.out 2, cz BK149.out 3⟩ (fun hHeld => ?_)
     clear hK K
     refine norm_ (a' := ?_) ?_ ?_
     rotate_left
     ·show Act.put _ (some 14) _ = _
      simp only [Act.put, lA, lZ, lS, i64_w, i32_w]
      rfl
     refine pu 5 8 (bt 6 63) (k := ?_)
     refine done_ (by kernel_rfl) ?_
     have hcz15_0 := cz BK149.out 0
     have hcz15_1 := cz BK149.out 1
     have hcz15_2 := cz BK149.out 2
     have hcz15_3 := cz BK149.out 3
     have hfz15_0 := fz BK149.out 0
     have hfz15_1 := fz BK149.out 1
     have hfz15_2 := fz BK149.out 2
     have hfz15_3 := fz BK149.out 3
     try go_wp2_with (first | ((with_reducible refine gate_callee (f := 57) rfl ?_); refine goesL_ (some 19) rfl rfl Tryd.func57 (by kernel_rfl) rfl #[.agg #[.slice A0_0 l0_0.length c0_0, .int .i64 a0_1, .int .i64 a0_2, .slice A0_3 l0_3.length c0_3], .bool false] rfl TM ?_; (with_reducible refine (saronref03_rows.calls k _ _ l0_0 a0_1 a0_2 _ _ l0_3 false t152 _ ?side1 ?side2 ?side3 ?side4 A7.out).mono ?_); (case side1 => exact TC HR0_0.out); (case side2 => exact HC0_0.out); (case side3 => exact TC HR0_3.out); (case side4 => exact HC0_3.out); rintro e w16 ⟨v153, rfl, ho0, hb⟩; refine ⟨_, rfl, ?_⟩; have HO154 := Aside0.mk (Kd.S_lower ho0 (below_size (TB1 GE149.out))); replace BK149 := Aside0.mk (TKb hb BK149.out); replace HB := Aside0.mk (below_step (TB1 GE149.out) hb); (try clear hb); (try clear hb2); (try clear hk); (try clear hi); (try clear ho0); obtain ⟨Ao17, co17, eo17⟩ := Kd.S_slice HO154.out; subst eo17; have p155 : 0 ≤ (a2 : Int) := of_decide_eq_true TA; have q155 : a2 < (t152.length : Int) := of_decide_eq_true TA; obtain ⟨ad155, A155_0, c155_0, e155, hx155_0, hl155_0, hi155_0⟩ := at_T93 (Kd.S_reads' HO154.out).2.2 a2 p155 q155; cases e155; obtain ⟨ce155, hce155, hMe155, hcc155⟩ := Kd.S_get HO154.out z93 a2 p155 (by first | exact q155 | exact of_decide_eq_true TA | (have e_ := (Kd.S_reads' HO154.out).1; omega)); obtain ⟨ve155_0, rfl, ge155_0⟩ := k93_openM hMe155; have hv155_0 := hcc155 0 _ rfl; rw [Nat.add_zero, show (k93).sz = 1 from rfl, Nat.mul_one] at hv155_0; replace hv155_0 := Option.some.inj (hv155_0.symm.trans hx155_0); rw [hv155_0] at ge155_0; have HL155_0 := Aside0.mk (show Kd.R (Kd.int .i64) 3 _ _ _ _ ((rd_T93 t152 a2).f0) from ge155_0); clear hv155_0 ge155_0; clear hcc155 hce155; have HR155_0 := Aside0.mk hi155_0; have HC155_0 := Aside0.mk hl155_0; clear hi155_0 hl155_0; replace p155 := eq_true p155; replace q155 := eq_true q155) | ((with_reducible refine gate_callee (f := 61) rfl ?_); refine goesL_ (some 24) rfl rfl Tryd.func61 (by kernel_rfl) rfl #[.agg #[.slice A155_0 ((rd_T93 t152 a2).f0).length c155_0], .int .i64 a1] rfl TM ?_; (with_reducible refine (saronref03_row_at.calls _ _ ((rd_T93 t152 a2).f0) a1 t156 _ ?side1 ?side2 A10.out).mono ?_); (case side1 => repeat (first | exact (by repeat (first | (with_reducible exact HR155_0.out) | (with_reducible refine Kd.C_alloc ?_ _) | (with_reducible refine Kd.C_drewN ?_ _) | (with_reducible refine Kd.C_drew ?_) | exact HR155_0.out)) | (with_reducible refine Kd.C_alloc ?_ _) | (with_reducible refine Kd.C_drewN ?_ _) | (with_reducible refine Kd.C_drew ?_))); (case side2 => exact HC155_0.out); rintro e w18 ⟨rfl, hb⟩; refine ⟨_, rfl, ?_⟩; replace HO154 := Aside0.mk (Kd.S_below (TSo HO154.out) hb); replace HL155_0 := Aside0.mk (Kd.R_below (TRo HL155_0.out) hb); replace BK149 := Aside0.mk (TKb hb BK149.out); replace HR155_0 := Aside0.mk (Kd.C_below (by repeat (first | (with_reducible exact HR155_0.out) | (with_reducible refine Kd.C_alloc ?_ _) | (with_reducible refine Kd.C_drewN ?_ _) | (with_reducible refine Kd.C_drew ?_) | exact HR155_0.out)) hb); replace HB := Aside0.mk (below_step (TB1 GE149.out) hb); (try clear hb); (try clear hb2); (try clear hk); (try clear hi)))
     go_ret2
     exact ⟨TR, TB1 GE149.out⟩
    ·rw [if_neg c11] at H
     have c11b0 : (t156 == 1000) = false := beq_eq_false_iff_ne.mpr c11
     have c11b1 : (t156 != 1000) = true := bne_iff_ne.mpr c11
     simp only [Option.some.injEq, Prod.mk.injEq] at H
     obtain ⟨rfl, rfl⟩ := H
     go_enter Tryd.func21, Tryd.ntmps21
     try go_wp2_with (first | ((with_reducible refine gate_dst (N := 3) rfl ?_); refine box_event ?hg (N := 3) ?hd (cs := #[.slice A0_0 l0_0.length c0_0, .int .i64 a0_1, .int .i64 a0_2, .slice A0_3 l0_3.length c0_3]) (t := 27) ?hr ?_; (case hd => rfl); (case hg => rfl); (case hr => exact TS); intro gb149 hg w19 hbox hb; have BK149 := Aside0.mk (hbox); have GW149 := Aside0.mk ((TG : w.heap.size ≤ gb149)); have GE149 := Aside0.mk ((TG : w.heap.size ≤ gb149)); replace HB := Aside0.mk (below_step TB hb); clear hb hbox hg))
     have n0_ := Aside0.mk (blk_drew BK149.out)
     have n1_ := Aside0.mk (below_drew1 HB.out)
     clear BK149
     clear HB
     have BK149 := n0_
     have HB := n1_
     clear n0_ n1_
     refine start_ (n := 6) (S := fun w' => w'.cell? ⟨gb149, 0, none⟩ = some (.slice A0_0 l0_0.length c0_0) ∧ w'.cell? ⟨gb149, 1, none⟩ = some (.int .i64 a0_1) ∧ w'.cell? ⟨gb149, 2, none⟩ = some (.int .i64 a0_2) ∧ w'.cell? ⟨gb149, 3, none⟩ = some (.slice A0_3 l0_3.length c0_3)) (ds := []) (.replicate 6 false) (by kernel_rfl) rfl rfl ⟨cz BK149.out 0, cz BK149.out 1, cz BK149.out 2, cz BK149.out 3⟩ (fun hHeld => ?_)
     generalize w19.drew = w20 at BK149 HB hHeld ⊢
     refine pu 1 11 (bt 6 2) (k := ?_)
     refine pu 2 12 (bt 6 6) (k := ?_)
     refine tk4 0 10 (bt 6 7) hHeld (k := ?_)
     refine oN 3 13 (bt 6 15) (h := fun K hK => ?_)
     refine goes_ Tryd.func55 (by kernel_rfl) rfl #[.int .i64 a1, .int .i64 a2] (by rfl) rfl rfl TM ?_
     with_reducible refine (saronref03_isState.calls a1 a2 t150 _ A4.out).mono ?_
     rintro e w' ⟨rfl, ⟨nd, rfl⟩⟩
     refine ⟨_, rfl, ?_⟩
     refine hK.out _ _ ⟨cz BK149.out 0, cz BK149.out 1, cz BK149.out 2, cz BK149.out 3⟩ (fun hHeld => ?_)
     clear hK K
     refine norm_ (a' := ?_) ?_ ?_
     rotate_left
     ·show Act.put _ (some 13) _ = _
      simp only [Act.put, lA, lZ, lS, i64_w, i32_w]
      rfl
     refine oN 4 14 (bt 6 31) (h := fun K hK => ?_)
     refine goes_ Tryd.func54 (by kernel_rfl) rfl #[.agg #[.slice A0_0 l0_0.length c0_0, .int .i64 a0_1, .int .i64 a0_2, .slice A0_3 l0_3.length c0_3], .bool t150] (by rfl) rfl rfl TM ?_
     with_reducible refine (saronref03_asked.calls k _ _ l0_0 a0_1 a0_2 _ _ l0_3 t150 t151 _ ?side1 ?side2 ?side3 ?side4 A5.out).mono ?_
     (case side1 => exact TD HR0_0.out (TB1 GE149.out))
     (case side2 => exact HC0_0.out)
     (case side3 => exact TD HR0_3.out (TB1 GE149.out))
     (case side4 => exact HC0_3.out)
     rintro e w21 ⟨rfl, hb⟩
     refine ⟨_, rfl, ?_⟩
     have n0_ := Aside0.mk (TKb hb BK149.out)
     have n1_ := Aside0.mk (below_step (TB1 GE149.out) hb)
     clear BK149
     clear HB
     have BK149 := n0_
     have HB := n1_
     clear n0_ n1_
     (try clear hb)
     (try clear hb2)
     (try clear hk)
     (try clear hi)
     refine hK.out _ _ ⟨cz BK149.out 0, cz BK149.out 1, cz BK149.out 2, cz BK149.out 3⟩ (fun hHeld => ?_)
     clear hK K
     refine norm_ (a' := ?_) ?_ ?_
     rotate_left
     ·show Act.put _ (some 14) _ = _
      simp only [Act.put, lA, lZ, lS, i64_w, i32_w]
      rfl
     refine pu 5 8 (bt 6 63) (k := ?_)
     refine done_ (by kernel_rfl) ?_
     have hcz22_0 := cz BK149.out 0
     have hcz22_1 := cz BK149.out 1
     have hcz22_2 := cz BK149.out 2
     have hcz22_3 := cz BK149.out 3
     have hfz22_0 := fz BK149.out 0
     have hfz22_1 := fz BK149.out 1
     have hfz22_2 := fz BK149.out 2
     have hfz22_3 := fz BK149.out 3
     try go_wp2_with (first | ((with_reducible refine gate_callee (f := 57) rfl ?_); refine goesL_ (some 19) rfl rfl Tryd.func57 (by kernel_rfl) rfl #[.agg #[.slice A0_0 l0_0.length c0_0, .int .i64 a0_1, .int .i64 a0_2, .slice A0_3 l0_3.length c0_3], .bool false] rfl TM ?_; (with_reducible refine (saronref03_rows.calls k _ _ l0_0 a0_1 a0_2 _ _ l0_3 false t152 _ ?side1 ?side2 ?side3 ?side4 A7.out).mono ?_); (case side1 => exact TC HR0_0.out); (case side2 => exact HC0_0.out); (case side3 => exact TC HR0_3.out); (case side4 => exact HC0_3.out); rintro e w23 ⟨v153, rfl, ho0, hb⟩; refine ⟨_, rfl, ?_⟩; have HO154 := Aside0.mk (Kd.S_lower ho0 (below_size (TB1 GE149.out))); replace BK149 := Aside0.mk (TKb hb BK149.out); replace HB := Aside0.mk (below_step (TB1 GE149.out) hb); (try clear hb); (try clear hb2); (try clear hk); (try clear hi); (try clear ho0); obtain ⟨Ao24, co24, eo24⟩ := Kd.S_slice HO154.out; subst eo24; have p155 : 0 ≤ (a2 : Int) := of_decide_eq_true TA; have q155 : a2 < (t152.length : Int) := of_decide_eq_true TA; obtain ⟨ad155, A155_0, c155_0, e155, hx155_0, hl155_0, hi155_0⟩ := at_T93 (Kd.S_reads' HO154.out).2.2 a2 p155 q155; cases e155; obtain ⟨ce155, hce155, hMe155, hcc155⟩ := Kd.S_get HO154.out z93 a2 p155 (by first | exact q155 | exact of_decide_eq_true TA | (have e_ := (Kd.S_reads' HO154.out).1; omega)); obtain ⟨ve155_0, rfl, ge155_0⟩ := k93_openM hMe155; have hv155_0 := hcc155 0 _ rfl; rw [Nat.add_zero, show (k93).sz = 1 from rfl, Nat.mul_one] at hv155_0; replace hv155_0 := Option.some.inj (hv155_0.symm.trans hx155_0); rw [hv155_0] at ge155_0; have HL155_0 := Aside0.mk (show Kd.R (Kd.int .i64) 3 _ _ _ _ ((rd_T93 t152 a2).f0) from ge155_0); clear hv155_0 ge155_0; clear hcc155 hce155; have HR155_0 := Aside0.mk hi155_0; have HC155_0 := Aside0.mk hl155_0; clear hi155_0 hl155_0; replace p155 := eq_true p155; replace q155 := eq_true q155) | ((with_reducible refine gate_callee (f := 61) rfl ?_); refine goesL_ (some 24) rfl rfl Tryd.func61 (by kernel_rfl) rfl #[.agg #[.slice A155_0 ((rd_T93 t152 a2).f0).length c155_0], .int .i64 a1] rfl TM ?_; (with_reducible refine (saronref03_row_at.calls _ _ ((rd_T93 t152 a2).f0) a1 t156 _ ?side1 ?side2 A10.out).mono ?_); (case side1 => repeat (first | exact (by repeat (first | (with_reducible exact HR155_0.out) | (with_reducible refine Kd.C_alloc ?_ _) | (with_reducible refine Kd.C_drewN ?_ _) | (with_reducible refine Kd.C_drew ?_) | exact HR155_0.out)) | (with_reducible refine Kd.C_alloc ?_ _) | (with_reducible refine Kd.C_drewN ?_ _) | (with_reducible refine Kd.C_drew ?_))); (case side2 => exact HC155_0.out); rintro e w25 ⟨rfl, hb⟩; refine ⟨_, rfl, ?_⟩; replace HO154 := Aside0.mk (Kd.S_below (TSo HO154.out) hb); replace HL155_0 := Aside0.mk (Kd.R_below (TRo HL155_0.out) hb); replace BK149 := Aside0.mk (TKb hb BK149.out); replace HR155_0 := Aside0.mk (Kd.C_below (by repeat (first | (with_reducible exact HR155_0.out) | (with_reducible refine Kd.C_alloc ?_ _) | (with_reducible refine Kd.C_drewN ?_ _) | (with_reducible refine Kd.C_drew ?_) | exact HR155_0.out)) hb); replace HB := Aside0.mk (below_step (TB1 GE149.out) hb); (try clear hb); (try clear hb2); (try clear hk); (try clear hi)))
     go_ret2
     exact ⟨TR, TB1 GE149.out⟩
   ·rw [if_neg c9] at H
    exact absurd H (by simp)
  ·rw [if_neg c8] at H
   exact absurd H (by simp)
 ·rw [if_neg c6] at H
  have c6b0 : (t151 == 0) = false := beq_eq_false_iff_ne.mpr c6
  have c6b1 : (t151 != 0) = true := bne_iff_ne.mpr c6
  simp only [Option.some.injEq, Prod.mk.injEq] at H
  obtain ⟨rfl, rfl⟩ := H
  go_enter Tryd.func21, Tryd.ntmps21
  try go_wp2_with (first | ((with_reducible refine gate_dst (N := 3) rfl ?_); refine box_event ?hg (N := 3) ?hd (cs := #[.slice A0_0 l0_0.length c0_0, .int .i64 a0_1, .int .i64 a0_2, .slice A0_3 l0_3.length c0_3]) (t := 27) ?hr ?_; (case hd => rfl); (case hg => rfl); (case hr => exact TS); intro gb149 hg w26 hbox hb; have BK149 := Aside0.mk (hbox); have GW149 := Aside0.mk ((TG : w.heap.size ≤ gb149)); have GE149 := Aside0.mk ((TG : w.heap.size ≤ gb149)); replace HB := Aside0.mk (below_step TB hb); clear hb hbox hg))
  have n0_ := Aside0.mk (blk_drew BK149.out)
  have n1_ := Aside0.mk (below_drew1 HB.out)
  clear BK149
  clear HB
  have BK149 := n0_
  have HB := n1_
  clear n0_ n1_
  refine start_ (n := 6) (S := fun w' => w'.cell? ⟨gb149, 0, none⟩ = some (.slice A0_0 l0_0.length c0_0) ∧ w'.cell? ⟨gb149, 1, none⟩ = some (.int .i64 a0_1) ∧ w'.cell? ⟨gb149, 2, none⟩ = some (.int .i64 a0_2) ∧ w'.cell? ⟨gb149, 3, none⟩ = some (.slice A0_3 l0_3.length c0_3)) (ds := []) (.replicate 6 false) (by kernel_rfl) rfl rfl ⟨cz BK149.out 0, cz BK149.out 1, cz BK149.out 2, cz BK149.out 3⟩ (fun hHeld => ?_)
  generalize w26.drew = w27 at BK149 HB hHeld ⊢
  refine pu 1 11 (bt 6 2) (k := ?_)
  refine pu 2 12 (bt 6 6) (k := ?_)
  refine tk4 0 10 (bt 6 7) hHeld (k := ?_)
  refine oN 3 13 (bt 6 15) (h := fun K hK => ?_)
  refine goes_ Tryd.func55 (by kernel_rfl) rfl #[.int .i64 a1, .int .i64 a2] (by rfl) rfl rfl TM ?_
  with_reducible refine (saronref03_isState.calls a1 a2 t150 _ A4.out).mono ?_
  rintro e w' ⟨rfl, ⟨nd, rfl⟩⟩
  refine ⟨_, rfl, ?_⟩
  refine hK.out _ _ ⟨cz BK149.out 0, cz BK149.out 1, cz BK149.out 2, cz BK149.out 3⟩ (fun hHeld => ?_)
  clear hK K
  refine norm_ (a' := ?_) ?_ ?_
  rotate_left
  ·show Act.put _ (some 13) _ = _
   simp only [Act.put, lA, lZ, lS, i64_w, i32_w]
   rfl
  refine oN 4 14 (bt 6 31) (h := fun K hK => ?_)
  refine goes_ Tryd.func54 (by kernel_rfl) rfl #[.agg #[.slice A0_0 l0_0.length c0_0, .int .i64 a0_1, .int .i64 a0_2, .slice A0_3 l0_3.length c0_3], .bool t150] (by rfl) rfl rfl TM ?_
  with_reducible refine (saronref03_asked.calls k _ _ l0_0 a0_1 a0_2 _ _ l0_3 t150 t151 _ ?side1 ?side2 ?side3 ?side4 A5.out).mono ?_
  (case side1 => exact TD HR0_0.out (TB1 GE149.out))
  (case side2 => exact HC0_0.out)
  (case side3 => exact TD HR0_3.out (TB1 GE149.out))
  (case side4 => exact HC0_3.out)
  rintro e w28 ⟨rfl, hb⟩
  refine ⟨_, rfl, ?_⟩
  have n0_ := Aside0.mk (TKb hb BK149.out)
  have n1_ := Aside0.mk (below_step (TB1 GE149.out) hb)
  clear BK149
  clear HB
  have BK149 := n0_
  have HB := n1_
  clear n0_ n1_
  (try clear hb)
  (try clear hb2)
  (try clear hk)
  (try clear hi)
  refine hK.out _ _ ⟨cz BK149.out 0, cz BK149.out 1, cz BK149.out 2, cz BK149.out 3⟩ (fun hHeld => ?_)
  clear hK K
  refine norm_ (a' := ?_) ?_ ?_
  rotate_left
  ·show Act.put _ (some 14) _ = _
   simp only [Act.put, lA, lZ, lS, i64_w, i32_w]
   rfl
  refine pu 5 8 (bt 6 63) (k := ?_)
  refine done_ (by kernel_rfl) ?_
  try go_wp2
  go_ret2
  exact ⟨TR, TB1 GE149.out⟩
end Go.Proofs.YtfmpbkolpjlfbaaDoor.PRaspKeys
