import Derived.Test.YtfdenclnneigfaaDoorCS
import Derived.Test.YtfdenclnneigfaaDoorHF
import Derived.Test.YtfdenclnneigfaaDoorM0
import Derived.Test.YtfdenclnneigfaaDoorProg
import Derived.Below
import Derived.Deep.Draws
import Derived.Deep.AppendLies
import Derived.Maps.AppendAt
import Derived.OwnWalk
import Derived.Laws.BytesArg
import Derived.Laws.MakeOwn
import Derived.Laws.OwnMore
import Derived.Deep.OwnRows
import Derived.Tactics
import Derived.Lib.ConvBytes
import Derived.Laws.Slices
import Derived.WalkKit
import Derived.KernelRfl
import Derived.RowKit3
import Derived.Deep.LoopGhost
import Derived.Deep.QuietTactic
import Derived.BigQuiet
import Derived.WideLaws
import Derived.Deep.DeepCutAuto
import Derived.Deep.CutBlock
import Derived.Deep.RegionHeld3
import Derived.Laws.Rows
import Derived.Lib.AppendStr
import Derived.ArgAppend
import Derived.Laws.IdiomCopy
import Derived.OrdersHeld
import Derived.Laws.BitsLemmas
import Derived.RowKit
set_option linter.unusedVariables false
set_option linter.unusedSimpArgs false
namespace Go.Proofs.YtfdenclnneigfaaDoor.PRaspKeys
open Go.RowKit Go.Proofs.YtfdenclnneigfaaDoorW.PrintWords Go.Proofs.YtfdenclnneigfaaDoorW.PrintLast Go.Proofs.YtfdenclnneigfaaDoorW.PrintMore Go.Proofs.YtfdenclnneigfaaDoor.M
attribute [local go_sem] max2_int min2_int max_two min_two max_three min_three max_four min_four   -- for this text's walks alone
/-! #### struct type 114 -/
/-! #### struct type 62 -/
end Go.Proofs.YtfdenclnneigfaaDoor.PRaspKeys
namespace Go.Proofs.YtfdenclnneigfaaDoor.PRaspKeys
open Go.RowKit Go.Proofs.YtfdenclnneigfaaDoorW.PrintWords Go.Proofs.YtfdenclnneigfaaDoorW.PrintLast Go.Proofs.YtfdenclnneigfaaDoorW.PrintMore Go.Proofs.YtfdenclnneigfaaDoor.M
attribute [local go_sem] max2_int min2_int max_two min_two max_three min_three max_four min_four   -- for this text's walks alone
/-! ### saronlaw09_sound: function 36 -/
mutual
def saronlaw09_sound.j0 : Nat → Bool → Int → List (S114) → List (S62) → Option (Bool)
 | 0, _, _, _, _ => none
 | k + 1, x3, x118000, x118001, x118002 => saronlaw09_sound.l0 k x3 0 x118000 x118001 x118002
def saronlaw09_sound.l0 : Nat → Bool → Int → Int → List (S114) → List (S62) → Option (Bool)
 | 0, _, _, _, _, _ => none
 | k + 1, x3, x4, x118000, x118001, x118002 => if x3 = true then (saronlaw09_sound.j2 k x3 x4 (decide (x4 < (x118002.length : Int))) x118000 x118001 x118002) else (saronlaw09_sound.j2 k x3 x4 false x118000 x118001 x118002)
def saronlaw09_sound.j2 : Nat → Bool → Int → Bool → Int → List (S114) → List (S62) → Option (Bool)
 | 0, _, _, _, _, _, _ => none
 | k + 1, x3, x4, x29, x118000, x118001, x118002 => if x29 = true then (if 0 ≤ x4 then (if x4 < (x118002.length : Int) then ((saronref00_Sits.f (((rd_T62 x118002 x4).f1).length : Int) 1 24).bind fun t122 => (if t122 = true then ((saronref00_Sits.f ((rd_T62 x118002 x4).f0) 0 (wrap64 ((x118001.length : Int) - 1))).bind fun t124 => (saronlaw09_sound.j3 k t124 x4 ((rd_T62 x118002 x4).f1) x118000 x118001 x118002)) else (saronlaw09_sound.j3 k false x4 ((rd_T62 x118002 x4).f1) x118000 x118001 x118002))) else (none)) else (none)) else (some x3)
def saronlaw09_sound.j3 : Nat → Bool → Int → List Int → Int → List (S114) → List (S62) → Option (Bool)
 | 0, _, _, _, _, _, _ => none
 | k + 1, x3, x4, x5, x118000, x118001, x118002 => saronlaw09_sound.l1 k x3 x4 x5 0 x118000 x118001 x118002
def saronlaw09_sound.l1 : Nat → Bool → Int → List Int → Int → Int → List (S114) → List (S62) → Option (Bool)
 | 0, _, _, _, _, _, _, _ => none
 | k + 1, x3, x4, x5, x6, x118000, x118001, x118002 => if x3 = true then (if x6 < (x5.length : Int) then (if 0 ≤ x6 then ((saronref00_Sits.f (rd x5 x6) 0 6).bind fun t126 => (saronlaw09_sound.l1 k t126 x4 x5 (wrap64 (x6 + 1)) x118000 x118001 x118002)) else (none)) else (saronlaw09_sound.l0 k x3 (wrap64 (x4 + 1)) x118000 x118001 x118002)) else (saronlaw09_sound.l0 k x3 (wrap64 (x4 + 1)) x118000 x118001 x118002)
end
def saronlaw09_sound.f (k : Nat) (a0_0 : Int) (l0_1 : List (S114)) (l0_2 : List (S62)) : Option (Bool) := (heard_Check.f a0_0 l0_1 l0_2).bind fun t118 => (if t118 = 0 then ((cycle_Check.f k a0_0 l0_1).bind fun t119 => (if t119 = 0 then ((saronref00_Sits.f (l0_2.length : Int) 1 6).bind fun t120 => (saronlaw09_sound.j0 k t120 a0_0 l0_1 l0_2)) else (saronlaw09_sound.j0 k false a0_0 l0_1 l0_2))) else (saronlaw09_sound.j0 k false a0_0 l0_1 l0_2))
theorem saronlaw09_sound.mono_l : ∀ k, (∀ y0 y1 y2 y3, LeO (saronlaw09_sound.j0 k y0 y1 y2 y3) (saronlaw09_sound.j0 (k + 1) y0 y1 y2 y3)) ∧ (∀ y0 y1 y2 y3 y4, LeO (saronlaw09_sound.l0 k y0 y1 y2 y3 y4) (saronlaw09_sound.l0 (k + 1) y0 y1 y2 y3 y4)) ∧ (∀ y0 y1 y2 y3 y4 y5, LeO (saronlaw09_sound.j2 k y0 y1 y2 y3 y4 y5) (saronlaw09_sound.j2 (k + 1) y0 y1 y2 y3 y4 y5)) ∧ (∀ y0 y1 y2 y3 y4 y5, LeO (saronlaw09_sound.j3 k y0 y1 y2 y3 y4 y5) (saronlaw09_sound.j3 (k + 1) y0 y1 y2 y3 y4 y5)) ∧ (∀ y0 y1 y2 y3 y4 y5 y6, LeO (saronlaw09_sound.l1 k y0 y1 y2 y3 y4 y5 y6) (saronlaw09_sound.l1 (k + 1) y0 y1 y2 y3 y4 y5 y6))
 | 0 => ⟨fun _ _ _ _ r h => by simp [saronlaw09_sound.j0] at h, fun _ _ _ _ _ r h => by simp [saronlaw09_sound.l0] at h, fun _ _ _ _ _ _ r h => by simp [saronlaw09_sound.j2] at h, fun _ _ _ _ _ _ r h => by simp [saronlaw09_sound.j3] at h, fun _ _ _ _ _ _ _ r h => by simp [saronlaw09_sound.l1] at h⟩
 | k + 1 => by
  obtain ⟨ih0, ih1, ih2, ih3, ih4⟩ := saronlaw09_sound.mono_l k
  refine ⟨?_, ?_, ?_, ?_, ?_⟩
  ·intro y0 y1 y2 y3
   unfold saronlaw09_sound.j0
   repeat' first
   | (with_reducible exact ih0 _ _ _ _)
   | (with_reducible exact ih1 _ _ _ _ _)
   | (with_reducible exact ih2 _ _ _ _ _ _)
   | (with_reducible exact ih3 _ _ _ _ _ _)
   | (with_reducible exact ih4 _ _ _ _ _ _ _)
   | (with_reducible exact cycle_Check.mono _ _ _)
   | (with_reducible exact LeO.refl _)
   | (with_reducible exact LeO.none _)
   | (with_reducible refine LeO.ite ?_ ?_)
   | (with_reducible refine LeO.bind ?_ (fun _ => ?_))
   | exact ih0 _ _ _ _
   | exact ih1 _ _ _ _ _
   | exact ih2 _ _ _ _ _ _
   | exact ih3 _ _ _ _ _ _
   | exact ih4 _ _ _ _ _ _ _
   | exact cycle_Check.mono _ _ _
   | exact LeO.none _
   | refine LeO.ite ?_ ?_
   | refine LeO.bind ?_ (fun _ => ?_)
  ·intro y0 y1 y2 y3 y4
   unfold saronlaw09_sound.l0
   repeat' first
   | (with_reducible exact ih0 _ _ _ _)
   | (with_reducible exact ih1 _ _ _ _ _)
   | (with_reducible exact ih2 _ _ _ _ _ _)
   | (with_reducible exact ih3 _ _ _ _ _ _)
   | (with_reducible exact ih4 _ _ _ _ _ _ _)
   | (with_reducible exact cycle_Check.mono _ _ _)
   | (with_reducible exact LeO.refl _)
   | (with_reducible exact LeO.none _)
   | (with_reducible refine LeO.ite ?_ ?_)
   | (with_reducible refine LeO.bind ?_ (fun _ => ?_))
   | exact ih0 _ _ _ _
   | exact ih1 _ _ _ _ _
   | exact ih2 _ _ _ _ _ _
   | exact ih3 _ _ _ _ _ _
   | exact ih4 _ _ _ _ _ _ _
   | exact cycle_Check.mono _ _ _
   | exact LeO.none _
   | refine LeO.ite ?_ ?_
   | refine LeO.bind ?_ (fun _ => ?_)
  ·intro y0 y1 y2 y3 y4 y5
   unfold saronlaw09_sound.j2
   repeat' first
   | (with_reducible exact ih0 _ _ _ _)
   | (with_reducible exact ih1 _ _ _ _ _)
   | (with_reducible exact ih2 _ _ _ _ _ _)
   | (with_reducible exact ih3 _ _ _ _ _ _)
   | (with_reducible exact ih4 _ _ _ _ _ _ _)
   | (with_reducible exact cycle_Check.mono _ _ _)
   | (with_reducible exact LeO.refl _)
   | (with_reducible exact LeO.none _)
   | (with_reducible refine LeO.ite ?_ ?_)
   | (with_reducible refine LeO.bind ?_ (fun _ => ?_))
   | exact ih0 _ _ _ _
   | exact ih1 _ _ _ _ _
   | exact ih2 _ _ _ _ _ _
   | exact ih3 _ _ _ _ _ _
   | exact ih4 _ _ _ _ _ _ _
   | exact cycle_Check.mono _ _ _
   | exact LeO.none _
   | refine LeO.ite ?_ ?_
   | refine LeO.bind ?_ (fun _ => ?_)
  ·intro y0 y1 y2 y3 y4 y5
   unfold saronlaw09_sound.j3
   repeat' first
   | (with_reducible exact ih0 _ _ _ _)
   | (with_reducible exact ih1 _ _ _ _ _)
   | (with_reducible exact ih2 _ _ _ _ _ _)
   | (with_reducible exact ih3 _ _ _ _ _ _)
   | (with_reducible exact ih4 _ _ _ _ _ _ _)
   | (with_reducible exact cycle_Check.mono _ _ _)
   | (with_reducible exact LeO.refl _)
   | (with_reducible exact LeO.none _)
   | (with_reducible refine LeO.ite ?_ ?_)
   | (with_reducible refine LeO.bind ?_ (fun _ => ?_))
   | exact ih0 _ _ _ _
   | exact ih1 _ _ _ _ _
   | exact ih2 _ _ _ _ _ _
   | exact ih3 _ _ _ _ _ _
   | exact ih4 _ _ _ _ _ _ _
   | exact cycle_Check.mono _ _ _
   | exact LeO.none _
   | refine LeO.ite ?_ ?_
   | refine LeO.bind ?_ (fun _ => ?_)
  intro y0 y1 y2 y3 y4 y5 y6
  unfold saronlaw09_sound.l1
  repeat' first
  | (with_reducible exact ih0 _ _ _ _)
  | (with_reducible exact ih1 _ _ _ _ _)
  | (with_reducible exact ih2 _ _ _ _ _ _)
  | (with_reducible exact ih3 _ _ _ _ _ _)
  | (with_reducible exact ih4 _ _ _ _ _ _ _)
  | (with_reducible exact cycle_Check.mono _ _ _)
  | (with_reducible exact LeO.refl _)
  | (with_reducible exact LeO.none _)
  | (with_reducible refine LeO.ite ?_ ?_)
  | (with_reducible refine LeO.bind ?_ (fun _ => ?_))
  | exact ih0 _ _ _ _
  | exact ih1 _ _ _ _ _
  | exact ih2 _ _ _ _ _ _
  | exact ih3 _ _ _ _ _ _
  | exact ih4 _ _ _ _ _ _ _
  | exact cycle_Check.mono _ _ _
  | exact LeO.none _
  | refine LeO.ite ?_ ?_
  | refine LeO.bind ?_ (fun _ => ?_)
theorem saronlaw09_sound.mono : ∀ a0 a1 a2 k, LeO (saronlaw09_sound.f k a0 a1 a2) (saronlaw09_sound.f (k + 1) a0 a1 a2) := by
 intro a0 a1 a2 k
 obtain ⟨ih0, ih1, ih2, ih3, ih4⟩ := saronlaw09_sound.mono_l k
 unfold saronlaw09_sound.f
 repeat' first
   | (with_reducible exact ih0 _ _ _ _)
   | (with_reducible exact ih1 _ _ _ _ _)
   | (with_reducible exact ih2 _ _ _ _ _ _)
   | (with_reducible exact ih3 _ _ _ _ _ _)
   | (with_reducible exact ih4 _ _ _ _ _ _ _)
   | (with_reducible exact cycle_Check.mono _ _ _)
   | (with_reducible exact LeO.refl _)
   | (with_reducible exact LeO.none _)
   | (with_reducible refine LeO.ite ?_ ?_)
   | (with_reducible refine LeO.bind ?_ (fun _ => ?_))
   | exact ih0 _ _ _ _
   | exact ih1 _ _ _ _ _
   | exact ih2 _ _ _ _ _ _
   | exact ih3 _ _ _ _ _ _
   | exact ih4 _ _ _ _ _ _ _
   | exact cycle_Check.mono _ _ _
   | exact LeO.none _
   | refine LeO.ite ?_ ?_
   | refine LeO.bind ?_ (fun _ => ?_)
set_option maxHeartbeats 8000000 in
set_option maxRecDepth 100000 in
theorem saronlaw09_sound.calls (k : Nat) (a0_0 : Int) (A0_1 : Option Addr) (c0_1 : Nat) (l0_1 : List (S114)) (A0_2 : Option Addr) (c0_2 : Nat) (l0_2 : List (S62)) (r : Bool) (w : World) (hr0_1 : Kd.C k114 w A0_1 l0_1.length l0_1) (hc0_1 : l0_1.length ≤ c0_1) (hr0_2 : Kd.C k62 w A0_2 l0_2.length l0_2) (hc0_2 : l0_2.length ≤ c0_2) (hG : Glob w) (h : saronlaw09_sound.f k a0_0 l0_1 l0_2 = some r) :
  Calls Tryd.prog 36 #[.agg #[.int .i64 a0_0, .slice A0_1 l0_1.length c0_1, .slice A0_2 l0_2.length c0_2]] w fun e w' => e = .returned (.bool r) ∧ Below w.heap.size w w' := by
 have hu27 := Tryd.underlying27
 have hu24 := Tryd.underlying24
 have HR0_1 := Aside0.mk hr0_1
 have HC0_1 := Aside0.mk hc0_1
 clear hr0_1 hc0_1
 have HR0_2 := Aside0.mk hr0_2
 have HC0_2 := Aside0.mk hc0_2
 clear hr0_2 hc0_2
 have HB := Aside0.mk (Below.refl w.heap.size w)
 have HG := Aside0.mk hG
 clear hG
 have H : ((heard_Check.f a0_0 l0_1 l0_2).bind fun t118 => (if t118 = 0 then ((cycle_Check.f k a0_0 l0_1).bind fun t119 => (if t119 = 0 then ((saronref00_Sits.f (l0_2.length : Int) 1 6).bind fun t120 => (saronlaw09_sound.j0 k t120 a0_0 l0_1 l0_2)) else (saronlaw09_sound.j0 k false a0_0 l0_1 l0_2))) else (saronlaw09_sound.j0 k false a0_0 l0_1 l0_2))) = some r := h
 clear h
 have HC2 := Aside0.mk H
 clear H
 go_enter Tryd.func36, Tryd.ntmps36
 go_upto_region 1 with (first | ((with_reducible refine gate_dst (N := 1) rfl ?_); (try (refine gate_guard (by rfl) ?_; dsimp only)); refine box_event ?hg (N := 1) ?hd (cs := #[.int .i64 a0_0, .slice A0_1 l0_1.length c0_1, .slice A0_2 l0_2.length c0_2]) (t := 27) ?hr ?_; (case hd => rfl); (case hg => rfl); (case hr => exact TS); intro gb117 hg w3 hbox hb; have BK117 := Aside0.mk (hbox); have GW117 := Aside0.mk ((TG : w.heap.size ≤ gb117)); have GE117 := Aside0.mk ((TG : w.heap.size ≤ gb117)); replace HB := Aside0.mk (below_step TB hb); clear hb hbox hg))
 repeat (go_quiet (first | ((with_reducible refine gate_dst (N := 1) rfl ?_); (try (refine gate_guard (by rfl) ?_; dsimp only)); refine box_event ?hg (N := 1) ?hd (cs := #[.int .i64 a0_0, .slice A0_1 l0_1.length c0_1, .slice A0_2 l0_2.length c0_2]) (t := 27) ?hr ?_; (case hd => rfl); (case hg => rfl); (case hr => exact TS); intro gb117 hg w3 hbox hb; have BK117 := Aside0.mk (hbox); have GW117 := Aside0.mk ((TG : w.heap.size ≤ gb117)); have GE117 := Aside0.mk ((TG : w.heap.size ≤ gb117)); replace HB := Aside0.mk (below_step TB hb); clear hb hbox hg)); go_upto_region 1 with (first | ((with_reducible refine gate_dst (N := 1) rfl ?_); (try (refine gate_guard (by rfl) ?_; dsimp only)); refine box_event ?hg (N := 1) ?hd (cs := #[.int .i64 a0_0, .slice A0_1 l0_1.length c0_1, .slice A0_2 l0_2.length c0_2]) (t := 27) ?hr ?_; (case hd => rfl); (case hg => rfl); (case hr => exact TS); intro gb117 hg w3 hbox hb; have BK117 := Aside0.mk (hbox); have GW117 := Aside0.mk ((TG : w.heap.size ≤ gb117)); have GE117 := Aside0.mk ((TG : w.heap.size ≤ gb117)); replace HB := Aside0.mk (below_step TB hb); clear hb hbox hg)))
 (try simp only [Act.put, lA, lZ, lS])
 go_cut [3] (fun v3 wc => ∃ (kq : Nat) (x3_1 : Bool), v3 = .bool x3_1 ∧ Aside0 (saronlaw09_sound.j0 kq x3_1 a0_0 l0_1 l0_2 = some r) ∧ Aside0 (kq ≤ k) ∧ Aside0 (wc.heap[gb117]? = some (.cells #[.int .i64 a0_0, (.slice A0_1 l0_1.length c0_1), (.slice A0_2 l0_2.length c0_2)] 27 (0, 0))) ∧ Aside0 (Below w.heap.size w wc))
 case first => as_aux_lemma =>
  have H := HC2.out
  clear HC2
  replace H := Option.bind_eq_some_iff.mp H
  obtain ⟨t118, A40, H⟩ := H
  replace H : (if t118 = 0 then ((cycle_Check.f k a0_0 l0_1).bind fun t119 => (if t119 = 0 then ((saronref00_Sits.f (l0_2.length : Int) 1 6).bind fun t120 => (saronlaw09_sound.j0 k t120 a0_0 l0_1 l0_2)) else (saronlaw09_sound.j0 k false a0_0 l0_1 l0_2))) else (saronlaw09_sound.j0 k false a0_0 l0_1 l0_2)) = some r := H
  have A4 := Aside0.mk A40
  clear A40
  by_cases c5 : t118 = 0
  rotate_left
  ·rw [if_neg c5] at H
   have c5b0 : (t118 == 0) = false := beq_eq_false_iff_ne.mpr c5
   have c5b1 : (t118 != 0) = true := bne_iff_ne.mpr c5
   (first | rw [c5b0] | (simp only [i64_w, i32_w]; rw [c5b0]) | skip)
   have H' := Aside0.mk H
   clear H
   have hcz18_0 := cz BK117.out 0
   have hcz18_1 := cz BK117.out 1
   have hcz18_2 := cz BK117.out 2
   have hfz18_0 := fz BK117.out 0
   have hfz18_1 := fz BK117.out 1
   have hfz18_2 := fz BK117.out 2
   go_wp2_with (first | (go_at_call 16; (with_reducible refine (heard_Check.calls a0_0 _ _ l0_1 _ _ l0_2 t118 _ ?side1 ?side2 ?side3 ?side4 ?side5 A4.out).mono ?_); (case side1 => exact TC HR0_1.out); (case side2 => exact HC0_1.out); (case side3 => exact TC HR0_2.out); (case side4 => exact HC0_2.out); (case side5 => exact Glob.fr HG.out (Fr.of_below (TB1 GE117.out))); rintro e w19 ⟨rfl, hb⟩; replace BK117 := Aside0.mk (TKb hb BK117.out); replace HB := Aside0.mk (below_step (TB1 GE117.out) hb); (try clear hb); (try clear hb2); (try clear hk); (try clear hi)))
   repeat (go_quiet (first | (go_at_call 16; (with_reducible refine (heard_Check.calls a0_0 _ _ l0_1 _ _ l0_2 t118 _ ?side1 ?side2 ?side3 ?side4 ?side5 A4.out).mono ?_); (case side1 => exact TC HR0_1.out); (case side2 => exact HC0_1.out); (case side3 => exact TC HR0_2.out); (case side4 => exact HC0_2.out); (case side5 => exact Glob.fr HG.out (Fr.of_below (TB1 GE117.out))); rintro e w19 ⟨rfl, hb⟩; replace BK117 := Aside0.mk (TKb hb BK117.out); replace HB := Aside0.mk (below_step (TB1 GE117.out) hb); (try clear hb); (try clear hb2); (try clear hk); (try clear hi))); try go_wp2_with (first | (go_at_call 16; (with_reducible refine (heard_Check.calls a0_0 _ _ l0_1 _ _ l0_2 t118 _ ?side1 ?side2 ?side3 ?side4 ?side5 A4.out).mono ?_); (case side1 => exact TC HR0_1.out); (case side2 => exact HC0_1.out); (case side3 => exact TC HR0_2.out); (case side4 => exact HC0_2.out); (case side5 => exact Glob.fr HG.out (Fr.of_below (TB1 GE117.out))); rintro e w19 ⟨rfl, hb⟩; replace BK117 := Aside0.mk (TKb hb BK117.out); replace HB := Aside0.mk (below_step (TB1 GE117.out) hb); (try clear hb); (try clear hb2); (try clear hk); (try clear hi))))
   go_meet
   case rel => exact ⟨_, (false), TT, H', ⟨by first | omega | exact Nat.le_refl _⟩, ⟨TK BK117.out⟩, ⟨TB1 GE117.out⟩⟩
  rw [if_pos c5] at H
  have c5b0 : (t118 == 0) = true := beq_iff_eq.mpr c5
  have c5b1 : (t118 != 0) = false := bne_eq_false_iff_eq.mpr c5
  clear c5
  (first | rw [c5b0] | (simp only [i64_w, i32_w]; rw [c5b0]) | skip)
  replace H := Option.bind_eq_some_iff.mp H
  obtain ⟨t119, A60, H⟩ := H
  replace H : (if t119 = 0 then ((saronref00_Sits.f (l0_2.length : Int) 1 6).bind fun t120 => (saronlaw09_sound.j0 k t120 a0_0 l0_1 l0_2)) else (saronlaw09_sound.j0 k false a0_0 l0_1 l0_2)) = some r := H
  have A6 := Aside0.mk A60
  clear A60
  by_cases c7 : t119 = 0
  rotate_left
  ·rw [if_neg c7] at H
   have c7b0 : (t119 == 0) = false := beq_eq_false_iff_ne.mpr c7
   have c7b1 : (t119 != 0) = true := bne_iff_ne.mpr c7
   have H' := Aside0.mk H
   clear H
   have hcz14_0 := cz BK117.out 0
   have hcz14_1 := cz BK117.out 1
   have hcz14_2 := cz BK117.out 2
   have hfz14_0 := fz BK117.out 0
   have hfz14_1 := fz BK117.out 1
   have hfz14_2 := fz BK117.out 2
   go_wp2_with (first | (go_at_call 16; (with_reducible refine (heard_Check.calls a0_0 _ _ l0_1 _ _ l0_2 t118 _ ?side1 ?side2 ?side3 ?side4 ?side5 A4.out).mono ?_); (case side1 => exact TC HR0_1.out); (case side2 => exact HC0_1.out); (case side3 => exact TC HR0_2.out); (case side4 => exact HC0_2.out); (case side5 => exact Glob.fr HG.out (Fr.of_below (TB1 GE117.out))); rintro e w15 ⟨rfl, hb⟩; replace BK117 := Aside0.mk (TKb hb BK117.out); replace HB := Aside0.mk (below_step (TB1 GE117.out) hb); (try clear hb); (try clear hb2); (try clear hk); (try clear hi); have hcz16_0 := cz BK117.out 0; have hcz16_1 := cz BK117.out 1; have hcz16_2 := cz BK117.out 2; have hfz16_0 := fz BK117.out 0; have hfz16_1 := fz BK117.out 1; have hfz16_2 := fz BK117.out 2) | (go_at_call 58; (with_reducible refine (cycle_Check.calls k a0_0 _ _ l0_1 t119 _ ?side1 ?side2 A6.out).mono ?_); (case side1 => exact TC HR0_1.out); (case side2 => exact HC0_1.out); rintro e w17 ⟨rfl, hb⟩; replace BK117 := Aside0.mk (TKb hb BK117.out); replace HB := Aside0.mk (below_step (TB1 GE117.out) hb); (try clear hb); (try clear hb2); (try clear hk); (try clear hi)))
   repeat (go_quiet (first | (go_at_call 16; (with_reducible refine (heard_Check.calls a0_0 _ _ l0_1 _ _ l0_2 t118 _ ?side1 ?side2 ?side3 ?side4 ?side5 A4.out).mono ?_); (case side1 => exact TC HR0_1.out); (case side2 => exact HC0_1.out); (case side3 => exact TC HR0_2.out); (case side4 => exact HC0_2.out); (case side5 => exact Glob.fr HG.out (Fr.of_below (TB1 GE117.out))); rintro e w15 ⟨rfl, hb⟩; replace BK117 := Aside0.mk (TKb hb BK117.out); replace HB := Aside0.mk (below_step (TB1 GE117.out) hb); (try clear hb); (try clear hb2); (try clear hk); (try clear hi); have hcz16_0 := cz BK117.out 0; have hcz16_1 := cz BK117.out 1; have hcz16_2 := cz BK117.out 2; have hfz16_0 := fz BK117.out 0; have hfz16_1 := fz BK117.out 1; have hfz16_2 := fz BK117.out 2) | (go_at_call 58; (with_reducible refine (cycle_Check.calls k a0_0 _ _ l0_1 t119 _ ?side1 ?side2 A6.out).mono ?_); (case side1 => exact TC HR0_1.out); (case side2 => exact HC0_1.out); rintro e w17 ⟨rfl, hb⟩; replace BK117 := Aside0.mk (TKb hb BK117.out); replace HB := Aside0.mk (below_step (TB1 GE117.out) hb); (try clear hb); (try clear hb2); (try clear hk); (try clear hi))); try go_wp2_with (first | (go_at_call 16; (with_reducible refine (heard_Check.calls a0_0 _ _ l0_1 _ _ l0_2 t118 _ ?side1 ?side2 ?side3 ?side4 ?side5 A4.out).mono ?_); (case side1 => exact TC HR0_1.out); (case side2 => exact HC0_1.out); (case side3 => exact TC HR0_2.out); (case side4 => exact HC0_2.out); (case side5 => exact Glob.fr HG.out (Fr.of_below (TB1 GE117.out))); rintro e w15 ⟨rfl, hb⟩; replace BK117 := Aside0.mk (TKb hb BK117.out); replace HB := Aside0.mk (below_step (TB1 GE117.out) hb); (try clear hb); (try clear hb2); (try clear hk); (try clear hi); have hcz16_0 := cz BK117.out 0; have hcz16_1 := cz BK117.out 1; have hcz16_2 := cz BK117.out 2; have hfz16_0 := fz BK117.out 0; have hfz16_1 := fz BK117.out 1; have hfz16_2 := fz BK117.out 2) | (go_at_call 58; (with_reducible refine (cycle_Check.calls k a0_0 _ _ l0_1 t119 _ ?side1 ?side2 A6.out).mono ?_); (case side1 => exact TC HR0_1.out); (case side2 => exact HC0_1.out); rintro e w17 ⟨rfl, hb⟩; replace BK117 := Aside0.mk (TKb hb BK117.out); replace HB := Aside0.mk (below_step (TB1 GE117.out) hb); (try clear hb); (try clear hb2); (try clear hk); (try clear hi))))
   go_meet
   case rel => exact ⟨_, (false), TT, H', ⟨by first | omega | exact Nat.le_refl _⟩, ⟨TK BK117.out⟩, ⟨TB1 GE117.out⟩⟩
  rw [if_pos c7] at H
  have c7b0 : (t119 == 0) = true := beq_iff_eq.mpr c7
  have c7b1 : (t119 != 0) = false := bne_eq_false_iff_eq.mpr c7
  clear c7
  replace H := Option.bind_eq_some_iff.mp H
  obtain ⟨t120, A80, H⟩ := H
  replace H : (saronlaw09_sound.j0 k t120 a0_0 l0_1 l0_2) = some r := H
  have A8 := Aside0.mk A80
  clear A80
  have H' := Aside0.mk H
  clear H
  have hcz9_0 := cz BK117.out 0
  have hcz9_1 := cz BK117.out 1
  have hcz9_2 := cz BK117.out 2
  have hfz9_0 := fz BK117.out 0
  have hfz9_1 := fz BK117.out 1
  have hfz9_2 := fz BK117.out 2
  go_wp2_with (first | (go_at_call 16; (with_reducible refine (heard_Check.calls a0_0 _ _ l0_1 _ _ l0_2 t118 _ ?side1 ?side2 ?side3 ?side4 ?side5 A4.out).mono ?_); (case side1 => exact TC HR0_1.out); (case side2 => exact HC0_1.out); (case side3 => exact TC HR0_2.out); (case side4 => exact HC0_2.out); (case side5 => exact Glob.fr HG.out (Fr.of_below (TB1 GE117.out))); rintro e w10 ⟨rfl, hb⟩; replace BK117 := Aside0.mk (TKb hb BK117.out); replace HB := Aside0.mk (below_step (TB1 GE117.out) hb); (try clear hb); (try clear hb2); (try clear hk); (try clear hi); have hcz11_0 := cz BK117.out 0; have hcz11_1 := cz BK117.out 1; have hcz11_2 := cz BK117.out 2; have hfz11_0 := fz BK117.out 0; have hfz11_1 := fz BK117.out 1; have hfz11_2 := fz BK117.out 2) | (go_at_call 58; (with_reducible refine (cycle_Check.calls k a0_0 _ _ l0_1 t119 _ ?side1 ?side2 A6.out).mono ?_); (case side1 => exact TC HR0_1.out); (case side2 => exact HC0_1.out); rintro e w12 ⟨rfl, hb⟩; replace BK117 := Aside0.mk (TKb hb BK117.out); replace HB := Aside0.mk (below_step (TB1 GE117.out) hb); (try clear hb); (try clear hb2); (try clear hk); (try clear hi); have hcz13_0 := cz BK117.out 0; have hcz13_1 := cz BK117.out 1; have hcz13_2 := cz BK117.out 2; have hfz13_0 := fz BK117.out 0; have hfz13_1 := fz BK117.out 1; have hfz13_2 := fz BK117.out 2) | (go_at_call 40; (with_reducible refine (saronref00_Sits.calls (l0_2.length : Int) 1 6 t120 _ A8.out).mono ?_); rintro e w' ⟨rfl, ⟨nd, rfl⟩⟩; (try first | exact ⟨rfl, _, World.drewN_drewN _ _ _⟩ | exact ⟨rfl, _, Eq.trans (World.drewN_drewN _ _ _) (congrArg (World.drewN _) (Nat.add_assoc _ _ _))⟩)))
  repeat (go_quiet (first | (go_at_call 16; (with_reducible refine (heard_Check.calls a0_0 _ _ l0_1 _ _ l0_2 t118 _ ?side1 ?side2 ?side3 ?side4 ?side5 A4.out).mono ?_); (case side1 => exact TC HR0_1.out); (case side2 => exact HC0_1.out); (case side3 => exact TC HR0_2.out); (case side4 => exact HC0_2.out); (case side5 => exact Glob.fr HG.out (Fr.of_below (TB1 GE117.out))); rintro e w10 ⟨rfl, hb⟩; replace BK117 := Aside0.mk (TKb hb BK117.out); replace HB := Aside0.mk (below_step (TB1 GE117.out) hb); (try clear hb); (try clear hb2); (try clear hk); (try clear hi); have hcz11_0 := cz BK117.out 0; have hcz11_1 := cz BK117.out 1; have hcz11_2 := cz BK117.out 2; have hfz11_0 := fz BK117.out 0; have hfz11_1 := fz BK117.out 1; have hfz11_2 := fz BK117.out 2) | (go_at_call 58; (with_reducible refine (cycle_Check.calls k a0_0 _ _ l0_1 t119 _ ?side1 ?side2 A6.out).mono ?_); (case side1 => exact TC HR0_1.out); (case side2 => exact HC0_1.out); rintro e w12 ⟨rfl, hb⟩; replace BK117 := Aside0.mk (TKb hb BK117.out); replace HB := Aside0.mk (below_step (TB1 GE117.out) hb); (try clear hb); (try clear hb2); (try clear hk); (try clear hi); have hcz13_0 := cz BK117.out 0; have hcz13_1 := cz BK117.out 1; have hcz13_2 := cz BK117.out 2; have hfz13_0 := fz BK117.out 0; have hfz13_1 := fz BK117.out 1; have hfz13_2 := fz BK117.out 2) | (go_at_call 40; (with_reducible refine (saronref00_Sits.calls (l0_2.length : Int) 1 6 t120 _ A8.out).mono ?_); rintro e w' ⟨rfl, ⟨nd, rfl⟩⟩; (try first | exact ⟨rfl, _, World.drewN_drewN _ _ _⟩ | exact ⟨rfl, _, Eq.trans (World.drewN_drewN _ _ _) (congrArg (World.drewN _) (Nat.add_assoc _ _ _))⟩))); try go_wp2_with (first | (go_at_call 16; (with_reducible refine (heard_Check.calls a0_0 _ _ l0_1 _ _ l0_2 t118 _ ?side1 ?side2 ?side3 ?side4 ?side5 A4.out).mono ?_); (case side1 => exact TC HR0_1.out); (case side2 => exact HC0_1.out); (case side3 => exact TC HR0_2.out); (case side4 => exact HC0_2.out); (case side5 => exact Glob.fr HG.out (Fr.of_below (TB1 GE117.out))); rintro e w10 ⟨rfl, hb⟩; replace BK117 := Aside0.mk (TKb hb BK117.out); replace HB := Aside0.mk (below_step (TB1 GE117.out) hb); (try clear hb); (try clear hb2); (try clear hk); (try clear hi); have hcz11_0 := cz BK117.out 0; have hcz11_1 := cz BK117.out 1; have hcz11_2 := cz BK117.out 2; have hfz11_0 := fz BK117.out 0; have hfz11_1 := fz BK117.out 1; have hfz11_2 := fz BK117.out 2) | (go_at_call 58; (with_reducible refine (cycle_Check.calls k a0_0 _ _ l0_1 t119 _ ?side1 ?side2 A6.out).mono ?_); (case side1 => exact TC HR0_1.out); (case side2 => exact HC0_1.out); rintro e w12 ⟨rfl, hb⟩; replace BK117 := Aside0.mk (TKb hb BK117.out); replace HB := Aside0.mk (below_step (TB1 GE117.out) hb); (try clear hb); (try clear hb2); (try clear hk); (try clear hi); have hcz13_0 := cz BK117.out 0; have hcz13_1 := cz BK117.out 1; have hcz13_2 := cz BK117.out 2; have hfz13_0 := fz BK117.out 0; have hfz13_1 := fz BK117.out 1; have hfz13_2 := fz BK117.out 2) | (go_at_call 40; (with_reducible refine (saronref00_Sits.calls (l0_2.length : Int) 1 6 t120 _ A8.out).mono ?_); rintro e w' ⟨rfl, ⟨nd, rfl⟩⟩; (try first | exact ⟨rfl, _, World.drewN_drewN _ _ _⟩ | exact ⟨rfl, _, Eq.trans (World.drewN_drewN _ _ _) (congrArg (World.drewN _) (Nat.add_assoc _ _ _))⟩))))
  go_meet
  case rel => exact ⟨_, (t120), TT, H', ⟨by first | omega | exact Nat.le_refl _⟩, ⟨TK BK117.out⟩, ⟨TB1 GE117.out⟩⟩
 case rest => as_aux_lemma =>
  clear HC2
  try clear p2
  try clear c3
  try clear c5
  try clear c5b0
  try clear c5b1
  try clear c7
  try clear c7b0
  try clear c7b1
  try clear hcz11_0 hcz11_1 hcz11_2
  try clear hcz13_0 hcz13_1 hcz13_2
  try clear hcz14_0 hcz14_1 hcz14_2
  try clear hcz16_0 hcz16_1 hcz16_2
  try clear hcz18_0 hcz18_1 hcz18_2
  try clear hcz9_0 hcz9_1 hcz9_2
  try clear hfz11_0 hfz11_1 hfz11_2
  try clear hfz13_0 hfz13_1 hfz13_2
  try clear hfz14_0 hfz14_1 hfz14_2
  try clear hfz16_0 hfz16_1 hfz16_2
  try clear hfz18_0 hfz18_1 hfz18_2
  try clear hfz9_0 hfz9_1 hfz9_2
  obtain ⟨kq, x3_1, rfl, HA, HJ1, BK117, HB⟩ := hcut
  cases kq with
  | zero => exact absurd HA.out (by simp [saronlaw09_sound.j0])
  | succ kj1 =>
   have H := HA.out
   clear HA
   simp only [saronlaw09_sound.j0] at H
   have H' := Aside0.mk H
   clear H
   go_wp2
   repeat (go_quiet (fail); try go_wp2)
   go_loopg [3, 4] kj1 (fun kq v3 v4 w' => ∃ (x3_2 : Bool) (x4_2 : Int), v3 = .bool x3_2 ∧ v4 = .int .i64 x4_2 ∧ Aside0 (saronlaw09_sound.l0 kq x3_2 x4_2 a0_0 l0_1 l0_2 = some r) ∧ Aside0 (kq ≤ kj1) ∧ Aside0 (w'.heap[gb117]? = some (.cells #[.int .i64 a0_0, (.slice A0_1 l0_1.length c0_1), (.slice A0_2 l0_2.length c0_2)] 27 (0, 0))) ∧ Aside0 (Below w.heap.size w w'))
   case atStart => exact ⟨(x3_1), (0), TT, TT, H', ⟨Nat.le_refl _⟩, ⟨TK BK117.out⟩, ⟨TB1 GE117.out⟩⟩
   case round => as_aux_lemma =>
    clear H'
    try clear p2
    try clear c3
    try clear c5
    try clear c5b0
    try clear c5b1
    try clear c7
    try clear c7b0
    try clear c7b1
    try clear hcz11_0 hcz11_1 hcz11_2
    try clear hcz13_0 hcz13_1 hcz13_2
    try clear hcz14_0 hcz14_1 hcz14_2
    try clear hcz16_0 hcz16_1 hcz16_2
    try clear hcz18_0 hcz18_1 hcz18_2
    try clear hcz9_0 hcz9_1 hcz9_2
    try clear hfz11_0 hfz11_1 hfz11_2
    try clear hfz13_0 hfz13_1 hfz13_2
    try clear hfz14_0 hfz14_1 hfz14_2
    try clear hfz16_0 hfz16_1 hfz16_2
    try clear hfz18_0 hfz18_1 hfz18_2
    try clear hfz9_0 hfz9_1 hfz9_2
    try clear p2
    obtain ⟨x3_2, x4_2, rfl, rfl, HA, HK2, BK117, HB⟩ := hrel
    cases gk with
    | zero => exact absurd HA.out (by simp [saronlaw09_sound.l0])
    | succ k2 =>
     have H := HA.out
     clear HA
     simp only [saronlaw09_sound.l0] at H
     have HC20 := Aside0.mk H
     clear H
     go_upto_region 3 with (fail)
     repeat (go_quiet (fail); go_upto_region 3 with (fail))
     go_cut [29] (fun v29 wc => ∃ (kq : Nat) (x29_19 : Bool), v29 = .bool x29_19 ∧ Aside0 (saronlaw09_sound.j2 kq x3_2 x4_2 x29_19 a0_0 l0_1 l0_2 = some r) ∧ Aside0 (kq ≤ k2) ∧ Aside0 (wc.heap[gb117]? = some (.cells #[.int .i64 a0_0, (.slice A0_1 l0_1.length c0_1), (.slice A0_2 l0_2.length c0_2)] 27 (0, 0))) ∧ Aside0 (Below w.heap.size w wc))
     case first => as_aux_lemma =>
      have H := HC20.out
      clear HC20
      by_cases c21 : x3_2 = true
      rotate_left
      ·replace c21 := Bool.eq_false_iff.mpr c21
       subst c21
       have H1 : (saronlaw09_sound.j2 k2 false x4_2 false a0_0 l0_1 l0_2) = some r := by rw [if_neg (show ¬ (false = true) by decide)] at H; exact H
       clear H
       have H := H1
       clear H1
       have H' := Aside0.mk H
       clear H
       go_wp2
       repeat (go_quiet (fail); try go_wp2)
       go_meet
       case rel => exact ⟨_, (false), TT, H', ⟨by have := HJ1.out; have := HK2.out; first | omega | exact Nat.le_refl _⟩, ⟨TK BK117.out⟩, ⟨TB1 GE117.out⟩⟩
      subst c21
      have H1 : (saronlaw09_sound.j2 k2 true x4_2 (decide (x4_2 < (l0_2.length : Int))) a0_0 l0_1 l0_2) = some r := by rw [if_pos rfl] at H; exact H
      clear H
      have H := H1
      clear H1
      have H' := Aside0.mk H
      clear H
      have hcz22_0 := cz BK117.out 0
      have hcz22_1 := cz BK117.out 1
      have hcz22_2 := cz BK117.out 2
      have hfz22_0 := fz BK117.out 0
      have hfz22_1 := fz BK117.out 1
      have hfz22_2 := fz BK117.out 2
      go_wp2
      repeat (go_quiet (fail); try go_wp2)
      go_meet
      case rel => exact ⟨_, (decide (x4_2 < (l0_2.length : Int))), TT, H', ⟨by have := HJ1.out; have := HK2.out; first | omega | exact Nat.le_refl _⟩, ⟨TK BK117.out⟩, ⟨TB1 GE117.out⟩⟩
     case rest => as_aux_lemma =>
      clear HC20
      try clear c2
      try clear p2
      try clear c3
      try clear c5
      try clear c5b0
      try clear c5b1
      try clear c7
      try clear c7b0
      try clear c7b1
      try clear c21
      try clear hcz11_0 hcz11_1 hcz11_2
      try clear hcz13_0 hcz13_1 hcz13_2
      try clear hcz14_0 hcz14_1 hcz14_2
      try clear hcz16_0 hcz16_1 hcz16_2
      try clear hcz18_0 hcz18_1 hcz18_2
      try clear hcz22_0 hcz22_1 hcz22_2
      try clear hcz9_0 hcz9_1 hcz9_2
      try clear hfz11_0 hfz11_1 hfz11_2
      try clear hfz13_0 hfz13_1 hfz13_2
      try clear hfz14_0 hfz14_1 hfz14_2
      try clear hfz16_0 hfz16_1 hfz16_2
      try clear hfz18_0 hfz18_1 hfz18_2
      try clear hfz22_0 hfz22_1 hfz22_2
      try clear hfz9_0 hfz9_1 hfz9_2
      try clear p2
      obtain ⟨kq, x29_19, rfl, HA, HJ19, BK117, HB⟩ := hcut
      cases kq with
      | zero => exact absurd HA.out (by simp [saronlaw09_sound.j2])
      | succ kj19 =>
       have H := HA.out
       clear HA
       simp only [saronlaw09_sound.j2] at H
       by_cases c23 : x29_19 = true
       rotate_left
       ·replace c23 := Bool.eq_false_iff.mpr c23
        subst c23
        have H1 : (some x3_2) = some r := by rw [if_neg (show ¬ (false = true) by decide)] at H; exact H
        clear H
        have H := H1
        clear H1
        obtain rfl := Option.some.inj H
        go_wp2
        repeat (go_quiet (fail); try go_wp2)
        go_ret
        exact ⟨TR, TB1 GE117.out⟩
       subst c23
       have H1 : (if 0 ≤ x4_2 then (if x4_2 < (l0_2.length : Int) then ((saronref00_Sits.f (((rd_T62 l0_2 x4_2).f1).length : Int) 1 24).bind fun t122 => (if t122 = true then ((saronref00_Sits.f ((rd_T62 l0_2 x4_2).f0) 0 (wrap64 ((l0_1.length : Int) - 1))).bind fun t124 => (saronlaw09_sound.j3 kj19 t124 x4_2 ((rd_T62 l0_2 x4_2).f1) a0_0 l0_1 l0_2)) else (saronlaw09_sound.j3 kj19 false x4_2 ((rd_T62 l0_2 x4_2).f1) a0_0 l0_1 l0_2))) else (none)) else (none)) = some r := by rw [if_pos rfl] at H; exact H
       clear H
       have H := H1
       clear H1
       by_cases c24 : 0 ≤ x4_2
       rotate_left
       ·rw [if_neg c24] at H
        exact absurd H (by simp)
       rw [if_pos c24] at H
       have c24b0 : decide (0 ≤ x4_2) = true := decide_eq_true c24
       clear c24
       by_cases c25 : x4_2 < (l0_2.length : Int)
       rotate_left
       ·rw [if_neg c25] at H
        exact absurd H (by simp)
       rw [if_pos c25] at H
       have c25b0 : decide (x4_2 < (l0_2.length : Int)) = true := decide_eq_true c25
       clear c25
       have HC26 := Aside0.mk H
       clear H
       have hcz27_0 := cz BK117.out 0
       have hcz27_1 := cz BK117.out 1
       have hcz27_2 := cz BK117.out 2
       have hfz27_0 := fz BK117.out 0
       have hfz27_1 := fz BK117.out 1
       have hfz27_2 := fz BK117.out 2
       have p121 : 0 ≤ (x4_2 : Int) := of_decide_eq_true TA
       have q121 : x4_2 < (l0_2.length : Int) := of_decide_eq_true TA
       obtain ⟨ad121, A121_1, c121_1, e121, hx121_0, hx121_1, hl121_1, hi121_1⟩ := at_T62 HR0_2.out x4_2 p121 q121
       cases e121
       replace hx121_0 := hx HB.out hx121_0
       replace hx121_1 := hx HB.out hx121_1
       have HR121_1 := Aside0.mk hi121_1
       have HC121_1 := Aside0.mk hl121_1
       clear hi121_1 hl121_1
       replace p121 := eq_true p121
       replace q121 := eq_true q121
       go_upto_region 6 with (fail)
       repeat (go_quiet (fail); go_upto_region 6 with (fail))
       go_cut [3] (fun v3 wc => ∃ (kq : Nat) (x3_25 : Bool), v3 = .bool x3_25 ∧ Aside0 (saronlaw09_sound.j3 kq x3_25 x4_2 ((rd_T62 l0_2 x4_2).f1) a0_0 l0_1 l0_2 = some r) ∧ Aside0 (kq ≤ kj19) ∧ Aside0 (wc.heap[gb117]? = some (.cells #[.int .i64 a0_0, (.slice A0_1 l0_1.length c0_1), (.slice (some ad121) l0_2.length c0_2)] 27 (0, 0))) ∧ Aside0 (Below w.heap.size w wc))
       case first => as_aux_lemma =>
        have H := HC26.out
        clear HC26
        replace H := Option.bind_eq_some_iff.mp H
        obtain ⟨t122, A280, H⟩ := H
        replace H : (if t122 = true then ((saronref00_Sits.f ((rd_T62 l0_2 x4_2).f0) 0 (wrap64 ((l0_1.length : Int) - 1))).bind fun t124 => (saronlaw09_sound.j3 kj19 t124 x4_2 ((rd_T62 l0_2 x4_2).f1) a0_0 l0_1 l0_2)) else (saronlaw09_sound.j3 kj19 false x4_2 ((rd_T62 l0_2 x4_2).f1) a0_0 l0_1 l0_2)) = some r := H
        have A28 := Aside0.mk A280
        clear A280
        by_cases c29 : t122 = true
        rotate_left
        ·replace c29 := Bool.eq_false_iff.mpr c29
         subst c29
         have H1 : (saronlaw09_sound.j3 kj19 false x4_2 ((rd_T62 l0_2 x4_2).f1) a0_0 l0_1 l0_2) = some r := by rw [if_neg (show ¬ (false = true) by decide)] at H; exact H
         clear H
         have H := H1
         clear H1
         have H' := Aside0.mk H
         clear H
         go_wp2_with (first | (go_at_call 40; (with_reducible refine (saronref00_Sits.calls (((rd_T62 l0_2 x4_2).f1).length : Int) 1 24 false _ A28.out).mono ?_); rintro e w' ⟨rfl, ⟨nd, rfl⟩⟩; (try first | exact ⟨rfl, _, World.drewN_drewN _ _ _⟩ | exact ⟨rfl, _, Eq.trans (World.drewN_drewN _ _ _) (congrArg (World.drewN _) (Nat.add_assoc _ _ _))⟩)))
         repeat (go_quiet (first | (go_at_call 40; (with_reducible refine (saronref00_Sits.calls (((rd_T62 l0_2 x4_2).f1).length : Int) 1 24 false _ A28.out).mono ?_); rintro e w' ⟨rfl, ⟨nd, rfl⟩⟩; (try first | exact ⟨rfl, _, World.drewN_drewN _ _ _⟩ | exact ⟨rfl, _, Eq.trans (World.drewN_drewN _ _ _) (congrArg (World.drewN _) (Nat.add_assoc _ _ _))⟩))); try go_wp2_with (first | (go_at_call 40; (with_reducible refine (saronref00_Sits.calls (((rd_T62 l0_2 x4_2).f1).length : Int) 1 24 false _ A28.out).mono ?_); rintro e w' ⟨rfl, ⟨nd, rfl⟩⟩; (try first | exact ⟨rfl, _, World.drewN_drewN _ _ _⟩ | exact ⟨rfl, _, Eq.trans (World.drewN_drewN _ _ _) (congrArg (World.drewN _) (Nat.add_assoc _ _ _))⟩))))
         go_meet
         case rel => exact ⟨_, (false), TT, H', ⟨by have := HJ1.out; have := HK2.out; have := HJ19.out; first | omega | exact Nat.le_refl _⟩, ⟨TK BK117.out⟩, ⟨TB1 GE117.out⟩⟩
        subst c29
        have H1 : ((saronref00_Sits.f ((rd_T62 l0_2 x4_2).f0) 0 (wrap64 ((l0_1.length : Int) - 1))).bind fun t124 => (saronlaw09_sound.j3 kj19 t124 x4_2 ((rd_T62 l0_2 x4_2).f1) a0_0 l0_1 l0_2)) = some r := by rw [if_pos rfl] at H; exact H
        clear H
        have H := H1
        clear H1
        replace H := Option.bind_eq_some_iff.mp H
        obtain ⟨t124, A300, H⟩ := H
        replace H : (saronlaw09_sound.j3 kj19 t124 x4_2 ((rd_T62 l0_2 x4_2).f1) a0_0 l0_1 l0_2) = some r := H
        have A30 := Aside0.mk A300
        clear A300
        have H' := Aside0.mk H
        clear H
        go_wp2_with (first | (go_at_call 40; (with_reducible refine (saronref00_Sits.calls (((rd_T62 l0_2 x4_2).f1).length : Int) 1 24 true _ A28.out).mono ?_); rintro e w' ⟨rfl, ⟨nd, rfl⟩⟩; (try first | exact ⟨rfl, _, World.drewN_drewN _ _ _⟩ | exact ⟨rfl, _, Eq.trans (World.drewN_drewN _ _ _) (congrArg (World.drewN _) (Nat.add_assoc _ _ _))⟩); have hcz31_0 := cz BK117.out 0; have hcz31_1 := cz BK117.out 1; have hcz31_2 := cz BK117.out 2; have hfz31_0 := fz BK117.out 0; have hfz31_1 := fz BK117.out 1; have hfz31_2 := fz BK117.out 2; have p123 : 0 ≤ (x4_2 : Int) := of_decide_eq_true TA; have q123 : x4_2 < (l0_2.length : Int) := of_decide_eq_true TA; obtain ⟨ad123, A123_1, c123_1, e123, hx123_0, hx123_1, hl123_1, hi123_1⟩ := at_T62 HR0_2.out x4_2 p123 q123; obtain rfl : ad121 = ad123 := (by injection e123); replace hx123_0 := hx HB.out hx123_0; replace hx123_1 := hx HB.out hx123_1; have HR123_1 := Aside0.mk hi123_1; have HC123_1 := Aside0.mk hl123_1; clear hi123_1 hl123_1; replace p123 := eq_true p123; replace q123 := eq_true q123) | (go_at_call 40; (with_reducible refine (saronref00_Sits.calls ((rd_T62 l0_2 x4_2).f0) 0 (wrap64 ((l0_1.length : Int) - 1)) t124 _ A30.out).mono ?_); rintro e w' ⟨rfl, ⟨nd, rfl⟩⟩; (try first | exact ⟨rfl, _, World.drewN_drewN _ _ _⟩ | exact ⟨rfl, _, Eq.trans (World.drewN_drewN _ _ _) (congrArg (World.drewN _) (Nat.add_assoc _ _ _))⟩)))
        repeat (go_quiet (first | (go_at_call 40; (with_reducible refine (saronref00_Sits.calls (((rd_T62 l0_2 x4_2).f1).length : Int) 1 24 true _ A28.out).mono ?_); rintro e w' ⟨rfl, ⟨nd, rfl⟩⟩; (try first | exact ⟨rfl, _, World.drewN_drewN _ _ _⟩ | exact ⟨rfl, _, Eq.trans (World.drewN_drewN _ _ _) (congrArg (World.drewN _) (Nat.add_assoc _ _ _))⟩)) | (go_at_call 40; (with_reducible refine (saronref00_Sits.calls ((rd_T62 l0_2 x4_2).f0) 0 (wrap64 ((l0_1.length : Int) - 1)) t124 _ A30.out).mono ?_); rintro e w' ⟨rfl, ⟨nd, rfl⟩⟩; (try first | exact ⟨rfl, _, World.drewN_drewN _ _ _⟩ | exact ⟨rfl, _, Eq.trans (World.drewN_drewN _ _ _) (congrArg (World.drewN _) (Nat.add_assoc _ _ _))⟩))); try go_wp2_with (first | (go_at_call 40; (with_reducible refine (saronref00_Sits.calls (((rd_T62 l0_2 x4_2).f1).length : Int) 1 24 true _ A28.out).mono ?_); rintro e w' ⟨rfl, ⟨nd, rfl⟩⟩; (try first | exact ⟨rfl, _, World.drewN_drewN _ _ _⟩ | exact ⟨rfl, _, Eq.trans (World.drewN_drewN _ _ _) (congrArg (World.drewN _) (Nat.add_assoc _ _ _))⟩); have hcz31_0 := cz BK117.out 0; have hcz31_1 := cz BK117.out 1; have hcz31_2 := cz BK117.out 2; have hfz31_0 := fz BK117.out 0; have hfz31_1 := fz BK117.out 1; have hfz31_2 := fz BK117.out 2; have p123 : 0 ≤ (x4_2 : Int) := of_decide_eq_true TA; have q123 : x4_2 < (l0_2.length : Int) := of_decide_eq_true TA; obtain ⟨ad123, A123_1, c123_1, e123, hx123_0, hx123_1, hl123_1, hi123_1⟩ := at_T62 HR0_2.out x4_2 p123 q123; obtain rfl : ad121 = ad123 := (by injection e123); replace hx123_0 := hx HB.out hx123_0; replace hx123_1 := hx HB.out hx123_1; have HR123_1 := Aside0.mk hi123_1; have HC123_1 := Aside0.mk hl123_1; clear hi123_1 hl123_1; replace p123 := eq_true p123; replace q123 := eq_true q123) | (go_at_call 40; (with_reducible refine (saronref00_Sits.calls ((rd_T62 l0_2 x4_2).f0) 0 (wrap64 ((l0_1.length : Int) - 1)) t124 _ A30.out).mono ?_); rintro e w' ⟨rfl, ⟨nd, rfl⟩⟩; (try first | exact ⟨rfl, _, World.drewN_drewN _ _ _⟩ | exact ⟨rfl, _, Eq.trans (World.drewN_drewN _ _ _) (congrArg (World.drewN _) (Nat.add_assoc _ _ _))⟩))))
        go_meet
        case rel => exact ⟨_, (t124), TT, H', ⟨by have := HJ1.out; have := HK2.out; have := HJ19.out; first | omega | exact Nat.le_refl _⟩, ⟨TK BK117.out⟩, ⟨TB1 GE117.out⟩⟩
       case rest => as_aux_lemma =>
        clear HC26
        try clear c1
        try clear p1
        try clear q1
        try clear hx1
        try clear c2
        try clear p2
        try clear c3
        try clear c5
        try clear c5b0
        try clear c5b1
        try clear p6
        try clear c7
        try clear c7b0
        try clear c7b1
        try clear c12
        try clear p12
        try clear q12
        try clear hx12
        try clear c21
        try clear c23
        try clear c24
        try clear c24b0
        try clear c25
        try clear c25b0
        try clear c29
        try clear hcz11_0 hcz11_1 hcz11_2
        try clear hcz13_0 hcz13_1 hcz13_2
        try clear hcz14_0 hcz14_1 hcz14_2
        try clear hcz16_0 hcz16_1 hcz16_2
        try clear hcz18_0 hcz18_1 hcz18_2
        try clear hcz22_0 hcz22_1 hcz22_2
        try clear hcz27_0 hcz27_1 hcz27_2
        try clear hcz31_0 hcz31_1 hcz31_2
        try clear hcz9_0 hcz9_1 hcz9_2
        try clear hfz11_0 hfz11_1 hfz11_2
        try clear hfz13_0 hfz13_1 hfz13_2
        try clear hfz14_0 hfz14_1 hfz14_2
        try clear hfz16_0 hfz16_1 hfz16_2
        try clear hfz18_0 hfz18_1 hfz18_2
        try clear hfz22_0 hfz22_1 hfz22_2
        try clear hfz27_0 hfz27_1 hfz27_2
        try clear hfz31_0 hfz31_1 hfz31_2
        try clear hfz9_0 hfz9_1 hfz9_2
        try clear hx121_0
        try clear hx121_1
        try clear hx123_0
        try clear hx123_1
        try clear p121
        try clear p123
        try clear p2
        try clear q121
        try clear q123
        obtain ⟨kq, x3_25, rfl, HA, HJ25, BK117, HB⟩ := hcut
        cases kq with
        | zero => exact absurd HA.out (by simp [saronlaw09_sound.j3])
        | succ kj25 =>
         have H := HA.out
         clear HA
         simp only [saronlaw09_sound.j3] at H
         have H' := Aside0.mk H
         clear H
         go_wp2
         repeat (go_quiet (fail); try go_wp2)
         go_loopg [3, 6] kj25 (fun kq v3 v6 w' => ∃ (x3_5 : Bool) (x6_5 : Int), v3 = .bool x3_5 ∧ v6 = .int .i64 x6_5 ∧ Aside0 (saronlaw09_sound.l1 kq x3_5 x4_2 ((rd_T62 l0_2 x4_2).f1) x6_5 a0_0 l0_1 l0_2 = some r) ∧ Aside0 (kq ≤ kj25) ∧ Aside0 (w'.heap[gb117]? = some (.cells #[.int .i64 a0_0, (.slice A0_1 l0_1.length c0_1), (.slice (some ad121) l0_2.length c0_2)] 27 (0, 0))) ∧ Aside0 (Below w.heap.size w w'))
         case atStart => exact ⟨(x3_25), (0), TT, TT, H', ⟨Nat.le_refl _⟩, ⟨TK BK117.out⟩, ⟨TB1 GE117.out⟩⟩
         case round => as_aux_lemma =>
          clear H'
          try clear c1
          try clear p1
          try clear q1
          try clear hx1
          try clear c2
          try clear p2
          try clear c3
          try clear c5
          try clear c5b0
          try clear c5b1
          try clear p6
          try clear c7
          try clear c7b0
          try clear c7b1
          try clear c12
          try clear p12
          try clear q12
          try clear hx12
          try clear c21
          try clear c23
          try clear c24
          try clear c24b0
          try clear c25
          try clear c25b0
          try clear c29
          try clear hcz11_0 hcz11_1 hcz11_2
          try clear hcz13_0 hcz13_1 hcz13_2
          try clear hcz14_0 hcz14_1 hcz14_2
          try clear hcz16_0 hcz16_1 hcz16_2
          try clear hcz18_0 hcz18_1 hcz18_2
          try clear hcz22_0 hcz22_1 hcz22_2
          try clear hcz27_0 hcz27_1 hcz27_2
          try clear hcz31_0 hcz31_1 hcz31_2
          try clear hcz9_0 hcz9_1 hcz9_2
          try clear hfz11_0 hfz11_1 hfz11_2
          try clear hfz13_0 hfz13_1 hfz13_2
          try clear hfz14_0 hfz14_1 hfz14_2
          try clear hfz16_0 hfz16_1 hfz16_2
          try clear hfz18_0 hfz18_1 hfz18_2
          try clear hfz22_0 hfz22_1 hfz22_2
          try clear hfz27_0 hfz27_1 hfz27_2
          try clear hfz31_0 hfz31_1 hfz31_2
          try clear hfz9_0 hfz9_1 hfz9_2
          try clear hx121_0
          try clear hx121_1
          try clear hx123_0
          try clear hx123_1
          try clear p1
          try clear p12
          try clear p121
          try clear p123
          try clear p2
          try clear p6
          try clear q1
          try clear q12
          try clear q121
          try clear q123
          obtain ⟨x3_5, x6_5, rfl, rfl, HA, HK5, BK117, HB⟩ := hrel
          cases gk with
          | zero => exact absurd HA.out (by simp [saronlaw09_sound.l1])
          | succ k5 =>
           have H := HA.out
           clear HA
           simp only [saronlaw09_sound.l1] at H
           by_cases c32 : x3_5 = true
           rotate_left
           ·replace c32 := Bool.eq_false_iff.mpr c32
            subst c32
            have H1 : (saronlaw09_sound.l0 k5 false (wrap64 (x4_2 + 1)) a0_0 l0_1 l0_2) = some r := by rw [if_neg (show ¬ (false = true) by decide)] at H; exact H
            clear H
            have H := H1
            clear H1
            have H' := Aside0.mk H
            clear H
            go_wp2
            repeat (go_quiet (fail); try go_wp2)
            go_roundg k5
            case measure => have := HJ1.out; have := HK2.out; have := HJ19.out; have := HJ25.out; have := HK5.out; omega
            case rel => exact ⟨(false), (wrap64 (x4_2 + 1)), TT, TT, H', ⟨by have := HJ1.out; have := HK2.out; have := HJ19.out; have := HJ25.out; have := HK5.out; omega⟩, ⟨TK BK117.out⟩, ⟨TB1 GE117.out⟩⟩
           subst c32
           have H1 : (if x6_5 < (((rd_T62 l0_2 x4_2).f1).length : Int) then (if 0 ≤ x6_5 then ((saronref00_Sits.f (rd ((rd_T62 l0_2 x4_2).f1) x6_5) 0 6).bind fun t126 => (saronlaw09_sound.l1 k5 t126 x4_2 ((rd_T62 l0_2 x4_2).f1) (wrap64 (x6_5 + 1)) a0_0 l0_1 l0_2)) else (none)) else (saronlaw09_sound.l0 k5 true (wrap64 (x4_2 + 1)) a0_0 l0_1 l0_2)) = some r := by rw [if_pos rfl] at H; exact H
           clear H
           have H := H1
           clear H1
           by_cases c33 : x6_5 < (((rd_T62 l0_2 x4_2).f1).length : Int)
           rotate_left
           ·rw [if_neg c33] at H
            have c33b0 : decide (x6_5 < (((rd_T62 l0_2 x4_2).f1).length : Int)) = false := decide_eq_false c33
            clear c33
            have H' := Aside0.mk H
            clear H
            go_wp2
            repeat (go_quiet (fail); try go_wp2)
            go_roundg k5
            case measure => have := HJ1.out; have := HK2.out; have := HJ19.out; have := HJ25.out; have := HK5.out; omega
            case rel => exact ⟨(true), (wrap64 (x4_2 + 1)), TT, TT, H', ⟨by have := HJ1.out; have := HK2.out; have := HJ19.out; have := HJ25.out; have := HK5.out; omega⟩, ⟨TK BK117.out⟩, ⟨TB1 GE117.out⟩⟩
           rw [if_pos c33] at H
           have c33b0 : decide (x6_5 < (((rd_T62 l0_2 x4_2).f1).length : Int)) = true := decide_eq_true c33
           clear c33
           by_cases c34 : 0 ≤ x6_5
           rotate_left
           ·rw [if_neg c34] at H
            exact absurd H (by simp)
           rw [if_pos c34] at H
           have c34b0 : decide (0 ≤ x6_5) = true := decide_eq_true c34
           clear c34
           replace H := Option.bind_eq_some_iff.mp H
           obtain ⟨t126, A350, H⟩ := H
           replace H : (saronlaw09_sound.l1 k5 t126 x4_2 ((rd_T62 l0_2 x4_2).f1) (wrap64 (x6_5 + 1)) a0_0 l0_1 l0_2) = some r := H
           have A35 := Aside0.mk A350
           clear A350
           have H' := Aside0.mk H
           clear H
           have p125 : 0 ≤ (x6_5 : Int) := of_decide_eq_true TA
           have q125 : x6_5 < (((rd_T62 l0_2 x4_2).f1).length : Int) := of_decide_eq_true TA
           obtain ⟨ad125, e125, hx125_0⟩ := Kd.at_int HR121_1.out x6_5 p125 q125
           cases e125
           replace hx125_0 := hx HB.out hx125_0
           replace p125 := eq_true p125
           replace q125 := eq_true q125
           go_wp2_with (first | (go_at_call 40; (with_reducible refine (saronref00_Sits.calls (rd ((rd_T62 l0_2 x4_2).f1) x6_5) 0 6 t126 _ A35.out).mono ?_); rintro e w' ⟨rfl, ⟨nd, rfl⟩⟩; (try first | exact ⟨rfl, _, World.drewN_drewN _ _ _⟩ | exact ⟨rfl, _, Eq.trans (World.drewN_drewN _ _ _) (congrArg (World.drewN _) (Nat.add_assoc _ _ _))⟩)))
           repeat (go_quiet (first | (go_at_call 40; (with_reducible refine (saronref00_Sits.calls (rd ((rd_T62 l0_2 x4_2).f1) x6_5) 0 6 t126 _ A35.out).mono ?_); rintro e w' ⟨rfl, ⟨nd, rfl⟩⟩; (try first | exact ⟨rfl, _, World.drewN_drewN _ _ _⟩ | exact ⟨rfl, _, Eq.trans (World.drewN_drewN _ _ _) (congrArg (World.drewN _) (Nat.add_assoc _ _ _))⟩))); try go_wp2_with (first | (go_at_call 40; (with_reducible refine (saronref00_Sits.calls (rd ((rd_T62 l0_2 x4_2).f1) x6_5) 0 6 t126 _ A35.out).mono ?_); rintro e w' ⟨rfl, ⟨nd, rfl⟩⟩; (try first | exact ⟨rfl, _, World.drewN_drewN _ _ _⟩ | exact ⟨rfl, _, Eq.trans (World.drewN_drewN _ _ _) (congrArg (World.drewN _) (Nat.add_assoc _ _ _))⟩))))
           go_roundg k5
           case measure => have := HJ1.out; have := HK2.out; have := HJ19.out; have := HJ25.out; have := HK5.out; omega
           case rel => exact ⟨(t126), (wrap64 (x6_5 + 1)), TT, TT, H', ⟨by have := HJ1.out; have := HK2.out; have := HJ19.out; have := HJ25.out; have := HK5.out; omega⟩, ⟨TK BK117.out⟩, ⟨TB1 GE117.out⟩⟩
end Go.Proofs.YtfdenclnneigfaaDoor.PRaspKeys
