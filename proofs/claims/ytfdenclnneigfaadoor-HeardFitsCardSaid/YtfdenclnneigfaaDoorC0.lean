import Derived.Test.YtfdenclnneigfaaDoorCS
import Derived.Test.YtfdenclnneigfaaDoorM0
import Derived.Test.YtfdenclnneigfaaDoorProg
import Derived.Below
import Derived.Deep.Draws
import Derived.Deep.AppendLies
import Derived.Maps.AppendAt
import Derived.OwnWalk
import Derived.Laws.BytesArg
import Derived.Laws.MakeOwn
import Derived.Laws.OwnMore
import Derived.Deep.OwnRows
import Derived.Tactics
import Derived.Lib.ConvBytes
import Derived.Laws.Slices
import Derived.WalkKit
import Derived.KernelRfl
import Derived.RowKit3
import Derived.Deep.LoopGhost
import Derived.Deep.QuietTactic
import Derived.BigQuiet
import Derived.WideLaws
import Derived.Deep.DeepCutAuto
import Derived.Deep.CutBlock
import Derived.Deep.RegionHeld3
import Derived.Laws.Rows
import Derived.Lib.AppendStr
import Derived.ArgAppend
import Derived.Laws.IdiomCopy
import Derived.OrdersHeld
import Derived.Laws.BitsLemmas
import Derived.RowKit
set_option linter.unusedVariables false
set_option linter.unusedSimpArgs false
namespace Go.Proofs.YtfdenclnneigfaaDoor.PRaspKeys
open Go.RowKit Go.Proofs.YtfdenclnneigfaaDoorW.PrintWords Go.Proofs.YtfdenclnneigfaaDoorW.PrintLast Go.Proofs.YtfdenclnneigfaaDoorW.PrintMore Go.Proofs.YtfdenclnneigfaaDoor.M
attribute [local go_sem] max2_int min2_int max_two min_two max_three min_three max_four min_four   -- for this text's walks alone
/-! #### struct type 114 -/
/-! #### struct type 62 -/
end Go.Proofs.YtfdenclnneigfaaDoor.PRaspKeys
namespace Go.Proofs.YtfdenclnneigfaaDoor.PRaspKeys
open Go.RowKit Go.Proofs.YtfdenclnneigfaaDoorW.PrintWords Go.Proofs.YtfdenclnneigfaaDoorW.PrintLast Go.Proofs.YtfdenclnneigfaaDoorW.PrintMore Go.Proofs.YtfdenclnneigfaaDoor.M
attribute [local go_sem] max2_int min2_int max_two min_two max_three min_three max_four min_four   -- for this text's walks alone
/-! ### saronref05_Check: function 61 -/
mutual
def saronref05_Check.j0 : Nat → Bool → Int → List (S114) → Option (Int)
 | 0, _, _, _ => none
 | k + 1, x3, x107000, x107001 => saronref05_Check.l0 k x3 0 x107000 x107001
def saronref05_Check.l0 : Nat → Bool → Int → Int → List (S114) → Option (Int)
 | 0, _, _, _, _ => none
 | k + 1, x3, x4, x107000, x107001 => if x3 = true then (saronref05_Check.j2 k x3 x4 (decide (x4 < (x107001.length : Int))) x107000 x107001) else (saronref05_Check.j2 k x3 x4 false x107000 x107001)
def saronref05_Check.j2 : Nat → Bool → Int → Bool → Int → List (S114) → Option (Int)
 | 0, _, _, _, _, _ => none
 | k + 1, x3, x4, x29, x107000, x107001 => if x29 = true then (if 0 ≤ x4 then (if x4 < (x107001.length : Int) then ((saronref00_Sits.f ((rd_T114 x107001 x4).f0) 2 32).bind fun t110 => (if t110 = true then (saronref05_Check.j3 k ((((rd_T114 x107001 x4).f1).length : Int) == x107000) x4 x107000 x107001 ((rd_T114 x107001 x4).f0) ((rd_T114 x107001 x4).f1)) else (saronref05_Check.j3 k false x4 x107000 x107001 ((rd_T114 x107001 x4).f0) ((rd_T114 x107001 x4).f1)))) else (none)) else (none)) else (if x3 = true then (some 0) else (some 50))
def saronref05_Check.j3 : Nat → Bool → Int → Int → List (S114) → Int → List (List Int) → Option (Int)
 | 0, _, _, _, _, _, _ => none
 | k + 1, x3, x4, x107000, x107001, x110000, x110001 => saronref05_Check.l1 k x3 x4 0 x107000 x107001 x110000 x110001
def saronref05_Check.l1 : Nat → Bool → Int → Int → Int → List (S114) → Int → List (List Int) → Option (Int)
 | 0, _, _, _, _, _, _, _ => none
 | k + 1, x3, x4, x6, x107000, x107001, x110000, x110001 => if x3 = true then (saronref05_Check.j5 k x3 x4 x6 (decide (x6 < x107000)) x107000 x107001 x110000 x110001) else (saronref05_Check.j5 k x3 x4 x6 false x107000 x107001 x110000 x110001)
def saronref05_Check.j5 : Nat → Bool → Int → Int → Bool → Int → List (S114) → Int → List (List Int) → Option (Int)
 | 0, _, _, _, _, _, _, _, _ => none
 | k + 1, x3, x4, x6, x54, x107000, x107001, x110000, x110001 => if x54 = true then (if 0 ≤ x6 then (if x6 < (x110001.length : Int) then ((saronref00_Grows.f k (rd_L1 x110001 x6) x110000).bind fun t112 => (if t112 = true then (if x6 > 0 then (saronref05_Check.l1 k true x4 (wrap64 (x6 + 1)) x107000 x107001 x110000 x110001) else (if 0 < (x110001.length : Int) then ((saronref00_Equal.f k (rd_L1 x110001 0) (([wrap64 (x110000 - 1)] : List Int))).bind fun t117 => (saronref05_Check.l1 k t117 x4 (wrap64 (x6 + 1)) x107000 x107001 x110000 x110001)) else (none))) else (saronref05_Check.l1 k false x4 (wrap64 (x6 + 1)) x107000 x107001 x110000 x110001))) else (none)) else (none)) else (saronref05_Check.l0 k x3 (wrap64 (x4 + 1)) x107000 x107001)
end
def saronref05_Check.f (k : Nat) (a0_0 : Int) (l0_1 : List (S114)) : Option (Int) := (saronref00_Sits.f a0_0 1 5).bind fun t107 => (if t107 = true then (if (l0_1.length : Int) ≥ 1 then (saronref05_Check.j0 k (decide ((l0_1.length : Int) ≤ 4)) a0_0 l0_1) else (saronref05_Check.j0 k false a0_0 l0_1)) else (saronref05_Check.j0 k false a0_0 l0_1))
theorem saronref05_Check.mono_l : ∀ k, (∀ y0 y1 y2, LeO (saronref05_Check.j0 k y0 y1 y2) (saronref05_Check.j0 (k + 1) y0 y1 y2)) ∧ (∀ y0 y1 y2 y3, LeO (saronref05_Check.l0 k y0 y1 y2 y3) (saronref05_Check.l0 (k + 1) y0 y1 y2 y3)) ∧ (∀ y0 y1 y2 y3 y4, LeO (saronref05_Check.j2 k y0 y1 y2 y3 y4) (saronref05_Check.j2 (k + 1) y0 y1 y2 y3 y4)) ∧ (∀ y0 y1 y2 y3 y4 y5, LeO (saronref05_Check.j3 k y0 y1 y2 y3 y4 y5) (saronref05_Check.j3 (k + 1) y0 y1 y2 y3 y4 y5)) ∧ (∀ y0 y1 y2 y3 y4 y5 y6, LeO (saronref05_Check.l1 k y0 y1 y2 y3 y4 y5 y6) (saronref05_Check.l1 (k + 1) y0 y1 y2 y3 y4 y5 y6)) ∧ (∀ y0 y1 y2 y3 y4 y5 y6 y7, LeO (saronref05_Check.j5 k y0 y1 y2 y3 y4 y5 y6 y7) (saronref05_Check.j5 (k + 1) y0 y1 y2 y3 y4 y5 y6 y7))
 | 0 => ⟨fun _ _ _ r h => by simp [saronref05_Check.j0] at h, fun _ _ _ _ r h => by simp [saronref05_Check.l0] at h, fun _ _ _ _ _ r h => by simp [saronref05_Check.j2] at h, fun _ _ _ _ _ _ r h => by simp [saronref05_Check.j3] at h, fun _ _ _ _ _ _ _ r h => by simp [saronref05_Check.l1] at h, fun _ _ _ _ _ _ _ _ r h => by simp [saronref05_Check.j5] at h⟩
 | k + 1 => by
  obtain ⟨ih0, ih1, ih2, ih3, ih4, ih5⟩ := saronref05_Check.mono_l k
  refine ⟨?_, ?_, ?_, ?_, ?_, ?_⟩
  ·intro y0 y1 y2
   unfold saronref05_Check.j0
   repeat' first
   | (with_reducible exact ih0 _ _ _)
   | (with_reducible exact ih1 _ _ _ _)
   | (with_reducible exact ih2 _ _ _ _ _)
   | (with_reducible exact ih3 _ _ _ _ _ _)
   | (with_reducible exact ih4 _ _ _ _ _ _ _)
   | (with_reducible exact ih5 _ _ _ _ _ _ _ _)
   | (with_reducible exact saronref00_Equal.mono _ _ _)
   | (with_reducible exact saronref00_Grows.mono _ _ _)
   | (with_reducible exact LeO.refl _)
   | (with_reducible exact LeO.none _)
   | (with_reducible refine LeO.ite ?_ ?_)
   | (with_reducible refine LeO.bind ?_ (fun _ => ?_))
   | exact ih0 _ _ _
   | exact ih1 _ _ _ _
   | exact ih2 _ _ _ _ _
   | exact ih3 _ _ _ _ _ _
   | exact ih4 _ _ _ _ _ _ _
   | exact ih5 _ _ _ _ _ _ _ _
   | exact saronref00_Equal.mono _ _ _
   | exact saronref00_Grows.mono _ _ _
   | exact LeO.none _
   | refine LeO.ite ?_ ?_
   | refine LeO.bind ?_ (fun _ => ?_)
  ·intro y0 y1 y2 y3
   unfold saronref05_Check.l0
   repeat' first
   | (with_reducible exact ih0 _ _ _)
   | (with_reducible exact ih1 _ _ _ _)
   | (with_reducible exact ih2 _ _ _ _ _)
   | (with_reducible exact ih3 _ _ _ _ _ _)
   | (with_reducible exact ih4 _ _ _ _ _ _ _)
   | (with_reducible exact ih5 _ _ _ _ _ _ _ _)
   | (with_reducible exact saronref00_Equal.mono _ _ _)
   | (with_reducible exact saronref00_Grows.mono _ _ _)
   | (with_reducible exact LeO.refl _)
   | (with_reducible exact LeO.none _)
   | (with_reducible refine LeO.ite ?_ ?_)
   | (with_reducible refine LeO.bind ?_ (fun _ => ?_))
   | exact ih0 _ _ _
   | exact ih1 _ _ _ _
   | exact ih2 _ _ _ _ _
   | exact ih3 _ _ _ _ _ _
   | exact ih4 _ _ _ _ _ _ _
   | exact ih5 _ _ _ _ _ _ _ _
   | exact saronref00_Equal.mono _ _ _
   | exact saronref00_Grows.mono _ _ _
   | exact LeO.none _
   | refine LeO.ite ?_ ?_
   | refine LeO.bind ?_ (fun _ => ?_)
  ·intro y0 y1 y2 y3 y4
   unfold saronref05_Check.j2
   repeat' first
   | (with_reducible exact ih0 _ _ _)
   | (with_reducible exact ih1 _ _ _ _)
   | (with_reducible exact ih2 _ _ _ _ _)
   | (with_reducible exact ih3 _ _ _ _ _ _)
   | (with_reducible exact ih4 _ _ _ _ _ _ _)
   | (with_reducible exact ih5 _ _ _ _ _ _ _ _)
   | (with_reducible exact saronref00_Equal.mono _ _ _)
   | (with_reducible exact saronref00_Grows.mono _ _ _)
   | (with_reducible exact LeO.refl _)
   | (with_reducible exact LeO.none _)
   | (with_reducible refine LeO.ite ?_ ?_)
   | (with_reducible refine LeO.bind ?_ (fun _ => ?_))
   | exact ih0 _ _ _
   | exact ih1 _ _ _ _
   | exact ih2 _ _ _ _ _
   | exact ih3 _ _ _ _ _ _
   | exact ih4 _ _ _ _ _ _ _
   | exact ih5 _ _ _ _ _ _ _ _
   | exact saronref00_Equal.mono _ _ _
   | exact saronref00_Grows.mono _ _ _
   | exact LeO.none _
   | refine LeO.ite ?_ ?_
   | refine LeO.bind ?_ (fun _ => ?_)
  ·intro y0 y1 y2 y3 y4 y5
   unfold saronref05_Check.j3
   repeat' first
   | (with_reducible exact ih0 _ _ _)
   | (with_reducible exact ih1 _ _ _ _)
   | (with_reducible exact ih2 _ _ _ _ _)
   | (with_reducible exact ih3 _ _ _ _ _ _)
   | (with_reducible exact ih4 _ _ _ _ _ _ _)
   | (with_reducible exact ih5 _ _ _ _ _ _ _ _)
   | (with_reducible exact saronref00_Equal.mono _ _ _)
   | (with_reducible exact saronref00_Grows.mono _ _ _)
   | (with_reducible exact LeO.refl _)
   | (with_reducible exact LeO.none _)
   | (with_reducible refine LeO.ite ?_ ?_)
   | (with_reducible refine LeO.bind ?_ (fun _ => ?_))
   | exact ih0 _ _ _
   | exact ih1 _ _ _ _
   | exact ih2 _ _ _ _ _
   | exact ih3 _ _ _ _ _ _
   | exact ih4 _ _ _ _ _ _ _
   | exact ih5 _ _ _ _ _ _ _ _
   | exact saronref00_Equal.mono _ _ _
   | exact saronref00_Grows.mono _ _ _
   | exact LeO.none _
   | refine LeO.ite ?_ ?_
   | refine LeO.bind ?_ (fun _ => ?_)
  ·intro y0 y1 y2 y3 y4 y5 y6
   unfold saronref05_Check.l1
   repeat' first
   | (with_reducible exact ih0 _ _ _)
   | (with_reducible exact ih1 _ _ _ _)
   | (with_reducible exact ih2 _ _ _ _ _)
   | (with_reducible exact ih3 _ _ _ _ _ _)
   | (with_reducible exact ih4 _ _ _ _ _ _ _)
   | (with_reducible exact ih5 _ _ _ _ _ _ _ _)
   | (with_reducible exact saronref00_Equal.mono _ _ _)
   | (with_reducible exact saronref00_Grows.mono _ _ _)
   | (with_reducible exact LeO.refl _)
   | (with_reducible exact LeO.none _)
   | (with_reducible refine LeO.ite ?_ ?_)
   | (with_reducible refine LeO.bind ?_ (fun _ => ?_))
   | exact ih0 _ _ _
   | exact ih1 _ _ _ _
   | exact ih2 _ _ _ _ _
   | exact ih3 _ _ _ _ _ _
   | exact ih4 _ _ _ _ _ _ _
   | exact ih5 _ _ _ _ _ _ _ _
   | exact saronref00_Equal.mono _ _ _
   | exact saronref00_Grows.mono _ _ _
   | exact LeO.none _
   | refine LeO.ite ?_ ?_
   | refine LeO.bind ?_ (fun _ => ?_)
  ·intro y0 y1 y2 y3 y4 y5 y6 y7
   unfold saronref05_Check.j5
   repeat' first
   | (with_reducible exact ih0 _ _ _)
   | (with_reducible exact ih1 _ _ _ _)
   | (with_reducible exact ih2 _ _ _ _ _)
   | (with_reducible exact ih3 _ _ _ _ _ _)
   | (with_reducible exact ih4 _ _ _ _ _ _ _)
   | (with_reducible exact ih5 _ _ _ _ _ _ _ _)
   | (with_reducible exact saronref00_Equal.mono _ _ _)
   | (with_reducible exact saronref00_Grows.mono _ _ _)
   | (with_reducible exact LeO.refl _)
   | (with_reducible exact LeO.none _)
   | (with_reducible refine LeO.ite ?_ ?_)
   | (with_reducible refine LeO.bind ?_ (fun _ => ?_))
   | exact ih0 _ _ _
   | exact ih1 _ _ _ _
   | exact ih2 _ _ _ _ _
   | exact ih3 _ _ _ _ _ _
   | exact ih4 _ _ _ _ _ _ _
   | exact ih5 _ _ _ _ _ _ _ _
   | exact saronref00_Equal.mono _ _ _
   | exact saronref00_Grows.mono _ _ _
   | exact LeO.none _
   | refine LeO.ite ?_ ?_
   | refine LeO.bind ?_ (fun _ => ?_)
theorem saronref05_Check.mono : ∀ a0 a1 k, LeO (saronref05_Check.f k a0 a1) (saronref05_Check.f (k + 1) a0 a1) := by
 intro a0 a1 k
 obtain ⟨ih0, ih1, ih2, ih3, ih4, ih5⟩ := saronref05_Check.mono_l k
 unfold saronref05_Check.f
 repeat' first
   | (with_reducible exact ih0 _ _ _)
   | (with_reducible exact ih1 _ _ _ _)
   | (with_reducible exact ih2 _ _ _ _ _)
   | (with_reducible exact ih3 _ _ _ _ _ _)
   | (with_reducible exact ih4 _ _ _ _ _ _ _)
   | (with_reducible exact ih5 _ _ _ _ _ _ _ _)
   | (with_reducible exact saronref00_Equal.mono _ _ _)
   | (with_reducible exact saronref00_Grows.mono _ _ _)
   | (with_reducible exact LeO.refl _)
   | (with_reducible exact LeO.none _)
   | (with_reducible refine LeO.ite ?_ ?_)
   | (with_reducible refine LeO.bind ?_ (fun _ => ?_))
   | exact ih0 _ _ _
   | exact ih1 _ _ _ _
   | exact ih2 _ _ _ _ _
   | exact ih3 _ _ _ _ _ _
   | exact ih4 _ _ _ _ _ _ _
   | exact ih5 _ _ _ _ _ _ _ _
   | exact saronref00_Equal.mono _ _ _
   | exact saronref00_Grows.mono _ _ _
   | exact LeO.none _
   | refine LeO.ite ?_ ?_
   | refine LeO.bind ?_ (fun _ => ?_)
def saronref05_Check.T10 : Bool × List (List Nat × List Nat) := (true, [([], []), ([0], [0]), ([], []), ([1, 2], [1, 2]), ([3], [3]), ([], []), ([5], [5]), ([4, 6], [4, 6]), ([7, 7], [7]), ([8], [8]), ([9, 8], [8, 9]), ([10, 8, 8], [8, 10]), ([11], [11]), ([12, 11], [11, 12]), ([13, 11], [11, 13]), ([14, 11], [11, 14]), ([11], [11]), ([16, 11], [11, 16]), ([17, 11], [11, 17]), ([18, 11], [11, 18]), ([15, 19, 11, 11], [11, 15, 19]), ([11, 20, 8], [8, 11, 20]), ([8, 21], [8, 21]), ([22, 20, 0, 1, 2, 3, 4, 5, 6, 7, 8, 9, 10, 11, 12, 13, 14, 15, 16, 17, 18, 19, 20, 21, 22], [22])])
def saronref05_Check.B10 : List Nat := [0, 1, 0, 7, 15, 0, 32, 127, 255, 511, 1023, 2047, 4095, 8191, 16383, 32767, 4095, 69631, 200703, 462847, 1048575, 2097151, 4194303, 8388607]
theorem saronref05_Check.tab10 : rtab .any (opsOf Tryd.f61 10) = saronref05_Check.T10 := by kernel_rfl
theorem saronref05_Check.bits10 : waitsOk saronref05_Check.T10.2 saronref05_Check.B10 = true := by kernel_rfl
set_option maxHeartbeats 8000000 in
set_option maxRecDepth 100000 in
theorem saronref05_Check.calls (k : Nat) (a0_0 : Int) (A0_1 : Option Addr) (c0_1 : Nat) (l0_1 : List (S114)) (r : Int) (w : World) (hr0_1 : Kd.C k114 w A0_1 l0_1.length l0_1) (hc0_1 : l0_1.length ≤ c0_1) (h : saronref05_Check.f k a0_0 l0_1 = some r) :
  Calls Tryd.prog 61 #[.agg #[.int .i64 a0_0, .slice A0_1 l0_1.length c0_1]] w fun e w' => e = .returned (.int .i64 r) ∧ Below w.heap.size w w' := by
 have hu24 := Tryd.underlying24
 have hu114 := Tryd.underlying114
 have HR0_1 := Aside0.mk hr0_1
 have HC0_1 := Aside0.mk hc0_1
 clear hr0_1 hc0_1
 have HB := Aside0.mk (Below.refl w.heap.size w)
 have H : ((saronref00_Sits.f a0_0 1 5).bind fun t107 => (if t107 = true then (if (l0_1.length : Int) ≥ 1 then (saronref05_Check.j0 k (decide ((l0_1.length : Int) ≤ 4)) a0_0 l0_1) else (saronref05_Check.j0 k false a0_0 l0_1)) else (saronref05_Check.j0 k false a0_0 l0_1))) = some r := h
 clear h
 have HC2 := Aside0.mk H
 clear H
 go_enter Tryd.func61, Tryd.ntmps61
 go_upto_region 1 with (first | ((with_reducible refine gate_dst (N := 1) rfl ?_); (try (refine gate_guard (by rfl) ?_; dsimp only)); refine box_event ?hg (N := 1) ?hd (cs := #[.int .i64 a0_0, .slice A0_1 l0_1.length c0_1]) (t := 24) ?hr ?_; (case hd => rfl); (case hg => rfl); (case hr => exact TS); intro gb106 hg w3 hbox hb; have BK106 := Aside0.mk (hbox); have GW106 := Aside0.mk ((TG : w.heap.size ≤ gb106)); have GE106 := Aside0.mk ((TG : w.heap.size ≤ gb106)); replace HB := Aside0.mk (below_step TB hb); clear hb hbox hg))
 (try simp only [Act.put, lA, lZ, lS])
 go_cut [3] (fun v3 wc => ∃ (kq : Nat) (x3_1 : Bool), v3 = .bool x3_1 ∧ Aside0 (saronref05_Check.j0 kq x3_1 a0_0 l0_1 = some r) ∧ Aside0 (kq ≤ k) ∧ Aside0 (wc.heap[gb106]? = some (.cells #[.int .i64 a0_0, (.slice A0_1 l0_1.length c0_1)] 24 (0, 0))) ∧ Aside0 (Below w.heap.size w wc))
 case first => as_aux_lemma =>
  have H := HC2.out
  clear HC2
  replace H := Option.bind_eq_some_iff.mp H
  obtain ⟨t107, A40, H⟩ := H
  replace H : (if t107 = true then (if (l0_1.length : Int) ≥ 1 then (saronref05_Check.j0 k (decide ((l0_1.length : Int) ≤ 4)) a0_0 l0_1) else (saronref05_Check.j0 k false a0_0 l0_1)) else (saronref05_Check.j0 k false a0_0 l0_1)) = some r := H
  have A4 := Aside0.mk A40
  clear A40
  by_cases c5 : t107 = true
  ·subst c5
   have H1 : (if (l0_1.length : Int) ≥ 1 then (saronref05_Check.j0 k (decide ((l0_1.length : Int) ≤ 4)) a0_0 l0_1) else (saronref05_Check.j0 k false a0_0 l0_1)) = some r := by rw [if_pos rfl] at H; exact H
   clear H
   have H := H1
   clear H1
   by_cases c6 : (l0_1.length : Int) ≥ 1
   ·rw [if_pos c6] at H
    have c6b0 : decide (1 ≤ (l0_1.length : Int)) = true := decide_eq_true c6
    have c6b1 : decide (1 ≤ l0_1.length) = true := decide_eq_true (by omega)
    clear c6
    (first | rw [c6b0] | (simp only [i64_w, i32_w]; rw [c6b0]) | skip)
    have H' := Aside0.mk H
    clear H
    have hcz7_0 := cz BK106.out 0
    have hcz7_1 := cz BK106.out 1
    have hfz7_0 := fz BK106.out 0
    have hfz7_1 := fz BK106.out 1
    go_wp2_with (first | ((with_reducible refine gate_callee (f := 40) rfl ?_); refine goesL_ (some 9) rfl rfl Tryd.func40 (by kernel_rfl) rfl #[.int .i64 a0_0, .int .i64 1, .int .i64 5] rfl TM ?_; (with_reducible refine (saronref00_Sits.calls a0_0 1 5 true _ A4.out).mono ?_); rintro e w' ⟨rfl, ⟨nd, rfl⟩⟩; refine ⟨_, rfl, ?_⟩))
    go_meet
    case rel => exact ⟨_, (decide ((l0_1.length : Int) ≤ 4)), TT, H', ⟨by first | omega | exact Nat.le_refl _⟩, ⟨TK BK106.out⟩, ⟨TB1 GE106.out⟩⟩
   ·rw [if_neg c6] at H
    have c6b0 : decide (1 ≤ (l0_1.length : Int)) = false := decide_eq_false c6
    have c6b1 : decide (1 ≤ l0_1.length) = false := decide_eq_false (by omega)
    clear c6
    (first | rw [c6b0] | (simp only [i64_w, i32_w]; rw [c6b0]) | skip)
    have H' := Aside0.mk H
    clear H
    have hcz8_0 := cz BK106.out 0
    have hcz8_1 := cz BK106.out 1
    have hfz8_0 := fz BK106.out 0
    have hfz8_1 := fz BK106.out 1
    go_wp2_with (first | ((with_reducible refine gate_callee (f := 40) rfl ?_); refine goesL_ (some 9) rfl rfl Tryd.func40 (by kernel_rfl) rfl #[.int .i64 a0_0, .int .i64 1, .int .i64 5] rfl TM ?_; (with_reducible refine (saronref00_Sits.calls a0_0 1 5 true _ A4.out).mono ?_); rintro e w' ⟨rfl, ⟨nd, rfl⟩⟩; refine ⟨_, rfl, ?_⟩))
    go_meet
    case rel => exact ⟨_, (false), TT, H', ⟨by first | omega | exact Nat.le_refl _⟩, ⟨TK BK106.out⟩, ⟨TB1 GE106.out⟩⟩
  ·replace c5 := Bool.eq_false_iff.mpr c5
   subst c5
   have H1 : (saronref05_Check.j0 k false a0_0 l0_1) = some r := by rw [if_neg (show ¬ (false = true) by decide)] at H; exact H
   clear H
   have H := H1
   clear H1
   have H' := Aside0.mk H
   clear H
   have hcz9_0 := cz BK106.out 0
   have hcz9_1 := cz BK106.out 1
   have hfz9_0 := fz BK106.out 0
   have hfz9_1 := fz BK106.out 1
   go_wp2_with (first | ((with_reducible refine gate_callee (f := 40) rfl ?_); refine goesL_ (some 9) rfl rfl Tryd.func40 (by kernel_rfl) rfl #[.int .i64 a0_0, .int .i64 1, .int .i64 5] rfl TM ?_; (with_reducible refine (saronref00_Sits.calls a0_0 1 5 false _ A4.out).mono ?_); rintro e w' ⟨rfl, ⟨nd, rfl⟩⟩; refine ⟨_, rfl, ?_⟩))
   go_meet
   case rel => exact ⟨_, (false), TT, H', ⟨by first | omega | exact Nat.le_refl _⟩, ⟨TK BK106.out⟩, ⟨TB1 GE106.out⟩⟩
 case rest => as_aux_lemma =>
  clear HC2
  try clear p2
  try clear c4
  try clear c5
  try clear c6
  try clear c6b0
  try clear c6b1
  try clear hcz7_0 hcz7_1
  try clear hcz8_0 hcz8_1
  try clear hcz9_0 hcz9_1
  try clear hfz7_0 hfz7_1
  try clear hfz8_0 hfz8_1
  try clear hfz9_0 hfz9_1
  obtain ⟨kq, x3_1, rfl, HA, HJ1, BK106, HB⟩ := hcut
  cases kq with
  | zero => exact absurd HA.out (by simp [saronref05_Check.j0])
  | succ kj1 =>
   have H := HA.out
   clear HA
   simp only [saronref05_Check.j0] at H
   have H' := Aside0.mk H
   clear H
   go_wp2
   go_loopg [3, 4] kj1 (fun kq v3 v4 w' => ∃ (x3_2 : Bool) (x4_2 : Int), v3 = .bool x3_2 ∧ v4 = .int .i64 x4_2 ∧ Aside0 (saronref05_Check.l0 kq x3_2 x4_2 a0_0 l0_1 = some r) ∧ Aside0 (kq ≤ kj1) ∧ Aside0 (w'.heap[gb106]? = some (.cells #[.int .i64 a0_0, (.slice A0_1 l0_1.length c0_1)] 24 (0, 0))) ∧ Aside0 (Below w.heap.size w w'))
   case atStart => exact ⟨(x3_1), (0), TT, TT, H', ⟨Nat.le_refl _⟩, ⟨TK BK106.out⟩, ⟨TB1 GE106.out⟩⟩
   case round => as_aux_lemma =>
    clear H'
    try clear p2
    try clear c4
    try clear c5
    try clear c6
    try clear c6b0
    try clear c6b1
    try clear hcz7_0 hcz7_1
    try clear hcz8_0 hcz8_1
    try clear hcz9_0 hcz9_1
    try clear hfz7_0 hfz7_1
    try clear hfz8_0 hfz8_1
    try clear hfz9_0 hfz9_1
    try clear p2
    obtain ⟨x3_2, x4_2, rfl, rfl, HA, HK2, BK106, HB⟩ := hrel
    cases gk with
    | zero => exact absurd HA.out (by simp [saronref05_Check.l0])
    | succ k2 =>
     have H := HA.out
     clear HA
     simp only [saronref05_Check.l0] at H
     have HC10 := Aside0.mk H
     clear H
     go_upto_region 3 with (fail)
     go_cut [29] (fun v29 wc => ∃ (kq : Nat) (x29_9 : Bool), v29 = .bool x29_9 ∧ Aside0 (saronref05_Check.j2 kq x3_2 x4_2 x29_9 a0_0 l0_1 = some r) ∧ Aside0 (kq ≤ k2) ∧ Aside0 (wc.heap[gb106]? = some (.cells #[.int .i64 a0_0, (.slice A0_1 l0_1.length c0_1)] 24 (0, 0))) ∧ Aside0 (Below w.heap.size w wc))
     case first => as_aux_lemma =>
      have H := HC10.out
      clear HC10
      by_cases c11 : x3_2 = true
      ·subst c11
       have H1 : (saronref05_Check.j2 k2 true x4_2 (decide (x4_2 < (l0_1.length : Int))) a0_0 l0_1) = some r := by rw [if_pos rfl] at H; exact H
       clear H
       have H := H1
       clear H1
       have H' := Aside0.mk H
       clear H
       have hcz12_0 := cz BK106.out 0
       have hcz12_1 := cz BK106.out 1
       have hfz12_0 := fz BK106.out 0
       have hfz12_1 := fz BK106.out 1
       go_wp2
       go_meet
       case rel => exact ⟨_, (decide (x4_2 < (l0_1.length : Int))), TT, H', ⟨by have := HJ1.out; have := HK2.out; first | omega | exact Nat.le_refl _⟩, ⟨TK BK106.out⟩, ⟨TB1 GE106.out⟩⟩
      ·replace c11 := Bool.eq_false_iff.mpr c11
       subst c11
       have H1 : (saronref05_Check.j2 k2 false x4_2 false a0_0 l0_1) = some r := by rw [if_neg (show ¬ (false = true) by decide)] at H; exact H
       clear H
       have H := H1
       clear H1
       have H' := Aside0.mk H
       clear H
       go_wp2
       go_meet
       case rel => exact ⟨_, (false), TT, H', ⟨by have := HJ1.out; have := HK2.out; first | omega | exact Nat.le_refl _⟩, ⟨TK BK106.out⟩, ⟨TB1 GE106.out⟩⟩
     case rest => as_aux_lemma =>
      clear HC10
      try clear c1
      try clear p2
      try clear c4
      try clear c5
      try clear c6
      try clear c6b0
      try clear c6b1
      try clear c11
      try clear hcz12_0 hcz12_1
      try clear hcz7_0 hcz7_1
      try clear hcz8_0 hcz8_1
      try clear hcz9_0 hcz9_1
      try clear hfz12_0 hfz12_1
      try clear hfz7_0 hfz7_1
      try clear hfz8_0 hfz8_1
      try clear hfz9_0 hfz9_1
      try clear p2
      obtain ⟨kq, x29_9, rfl, HA, HJ9, BK106, HB⟩ := hcut
      cases kq with
      | zero => exact absurd HA.out (by simp [saronref05_Check.j2])
      | succ kj9 =>
       have H := HA.out
       clear HA
       simp only [saronref05_Check.j2] at H
       by_cases c13 : x29_9 = true
       ·subst c13
        have H1 : (if 0 ≤ x4_2 then (if x4_2 < (l0_1.length : Int) then ((saronref00_Sits.f ((rd_T114 l0_1 x4_2).f0) 2 32).bind fun t110 => (if t110 = true then (saronref05_Check.j3 kj9 ((((rd_T114 l0_1 x4_2).f1).length : Int) == a0_0) x4_2 a0_0 l0_1 ((rd_T114 l0_1 x4_2).f0) ((rd_T114 l0_1 x4_2).f1)) else (saronref05_Check.j3 kj9 false x4_2 a0_0 l0_1 ((rd_T114 l0_1 x4_2).f0) ((rd_T114 l0_1 x4_2).f1)))) else (none)) else (none)) = some r := by rw [if_pos rfl] at H; exact H
        clear H
        have H := H1
        clear H1
        by_cases c14 : 0 ≤ x4_2
        ·rw [if_pos c14] at H
         have c14b0 : decide (0 ≤ x4_2) = true := decide_eq_true c14
         clear c14
         by_cases c15 : x4_2 < (l0_1.length : Int)
         ·rw [if_pos c15] at H
          have c15b0 : decide (x4_2 < (l0_1.length : Int)) = true := decide_eq_true c15
          clear c15
          have HC16 := Aside0.mk H
          clear H
          have hcz17_0 := cz BK106.out 0
          have hcz17_1 := cz BK106.out 1
          have hfz17_0 := fz BK106.out 0
          have hfz17_1 := fz BK106.out 1
          have p108 : 0 ≤ (x4_2 : Int) := of_decide_eq_true TA
          have q108 : x4_2 < (l0_1.length : Int) := of_decide_eq_true TA
          obtain ⟨ad108, A108_1, c108_1, e108, hx108_0, hx108_1, hl108_1, hi108_1⟩ := at_T114 HR0_1.out x4_2 p108 q108
          cases e108
          replace hx108_0 := hx HB.out hx108_0
          replace hx108_1 := hx HB.out hx108_1
          have HR108_1 := Aside0.mk hi108_1
          have HC108_1 := Aside0.mk hl108_1
          clear hi108_1 hl108_1
          replace p108 := eq_true p108
          replace q108 := eq_true q108
          go_upto_region 6 with (first | ((with_reducible refine gate_dst (N := 5) rfl ?_); (try (refine gate_guard (by rfl) ?_; dsimp only)); refine box_event ?hg (N := 5) ?hd (cs := #[.int .i64 0, .slice none 0 0]) (t := 114) ?hr ?_; (case hd => rfl); (case hg => rfl); (case hr => exact TS); intro gb109 hg w18 hbox hb; have BK109 := Aside0.mk (hbox); have GW109 := Aside0.mk ((TG1 GE106.out : w.heap.size ≤ gb109)); have GE109 := Aside0.mk ((TG1 GE106.out : w.heap.size ≤ gb109)); have NB106_109 := Aside0.mk ((by rw [hg]; exact Nat.ne_of_lt (blk_lt (g := gb106) (o := .cells #[.int .i64 a0_0, .slice (some ad108) l0_1.length c0_1] 24 (0, 0)) (TK BK106.out)) : gb106 ≠ gb109)); have NB109_106 := Aside0.mk ((by rw [hg]; exact Nat.ne_of_gt (blk_lt (g := gb106) (o := .cells #[.int .i64 a0_0, .slice (some ad108) l0_1.length c0_1] 24 (0, 0)) (TK BK106.out)) : gb109 ≠ gb106)); replace BK106 := Aside0.mk (TKb hb BK106.out); replace HB := Aside0.mk (below_step (TB1 GE106.out) hb); clear hb hbox hg; have hnb19 := NB109_106.out; have hnc19 := NB106_109.out; have hcz20_0 := cz BK109.out 0; have hcz20_1 := cz BK109.out 1; have hfz20_0 := fz BK109.out 0; have hfz20_1 := fz BK109.out 1))
          (try simp only [Act.put, lA, lZ, lS])
          go_cut [3] (fun v3 wc => ∃ (kq : Nat) (x3_15 : Bool), v3 = .bool x3_15 ∧ Aside0 (saronref05_Check.j3 kq x3_15 x4_2 a0_0 l0_1 ((rd_T114 l0_1 x4_2).f0) ((rd_T114 l0_1 x4_2).f1) = some r) ∧ Aside0 (kq ≤ kj9) ∧ Aside0 (wc.heap[gb106]? = some (.cells #[.int .i64 a0_0, (.slice (some ad108) l0_1.length c0_1)] 24 (0, 0))) ∧ Aside0 (wc.heap[gb109]? = some (.cells #[.int .i64 ((rd_T114 l0_1 x4_2).f0), (.slice A108_1 ((rd_T114 l0_1 x4_2).f1).length c108_1)] 114 (0, 0))) ∧ Aside0 (Below w.heap.size w wc))
          case first => as_aux_lemma =>
           have H := HC16.out
           clear HC16
           replace H := Option.bind_eq_some_iff.mp H
           obtain ⟨t110, A210, H⟩ := H
           replace H : (if t110 = true then (saronref05_Check.j3 kj9 ((((rd_T114 l0_1 x4_2).f1).length : Int) == a0_0) x4_2 a0_0 l0_1 ((rd_T114 l0_1 x4_2).f0) ((rd_T114 l0_1 x4_2).f1)) else (saronref05_Check.j3 kj9 false x4_2 a0_0 l0_1 ((rd_T114 l0_1 x4_2).f0) ((rd_T114 l0_1 x4_2).f1))) = some r := H
           have A21 := Aside0.mk A210
           clear A210
           by_cases c22 : t110 = true
           ·subst c22
            have H1 : (saronref05_Check.j3 kj9 ((((rd_T114 l0_1 x4_2).f1).length : Int) == a0_0) x4_2 a0_0 l0_1 ((rd_T114 l0_1 x4_2).f0) ((rd_T114 l0_1 x4_2).f1)) = some r := by rw [if_pos rfl] at H; exact H
            clear H
            have H := H1
            clear H1
            have H' := Aside0.mk H
            clear H
            have hnb23 := NB109_106.out
            have hnc23 := NB106_109.out
            have hcz24_0 := cz BK109.out 0
            have hcz24_1 := cz BK109.out 1
            have hfz24_0 := fz BK109.out 0
            have hfz24_1 := fz BK109.out 1
            go_wp2_with (first | ((with_reducible refine gate_callee (f := 40) rfl ?_); refine goesL_ (some 39) rfl rfl Tryd.func40 (by kernel_rfl) rfl #[.int .i64 ((rd_T114 l0_1 x4_2).f0), .int .i64 2, .int .i64 32] rfl TM ?_; (with_reducible refine (saronref00_Sits.calls ((rd_T114 l0_1 x4_2).f0) 2 32 true _ A21.out).mono ?_); rintro e w' ⟨rfl, ⟨nd, rfl⟩⟩; refine ⟨_, rfl, ?_⟩; have hcz25_0 := cz BK106.out 0; have hcz25_1 := cz BK106.out 1; have hfz25_0 := fz BK106.out 0; have hfz25_1 := fz BK106.out 1))
            go_meet
            case rel => exact ⟨_, (((((rd_T114 l0_1 x4_2).f1).length : Int) == a0_0)), TT, H', ⟨by have := HJ1.out; have := HK2.out; have := HJ9.out; first | omega | exact Nat.le_refl _⟩, ⟨by (with_reducible repeat (first | refine blk_drewN ?_ _ | refine blk_drew ?_ | refine blk_alloc ?_ _)); refine blk_far ?_ NB106_109.out _; (with_reducible repeat (first | refine blk_drewN ?_ _ | refine blk_drew ?_ | refine blk_alloc ?_ _)); refine blk_far ?_ NB106_109.out _; (with_reducible repeat (first | refine blk_drewN ?_ _ | refine blk_drew ?_ | refine blk_alloc ?_ _)); exact BK106.out⟩, ⟨by (with_reducible repeat (first | refine blk_drewN ?_ _ | refine blk_drew ?_ | refine blk_alloc ?_ _)); refine blk_put (cs := #[.int .i64 ((rd_T114 l0_1 x4_2).f0), .slice none 0 0]) ?_ 1 _ rfl; (with_reducible repeat (first | refine blk_drewN ?_ _ | refine blk_drew ?_ | refine blk_alloc ?_ _)); refine blk_put (cs := #[.int .i64 0, .slice none 0 0]) ?_ 0 _ rfl; (with_reducible repeat (first | refine blk_drewN ?_ _ | refine blk_drew ?_ | refine blk_alloc ?_ _)); exact BK109.out⟩, ⟨TB2 GE106.out GE109.out⟩⟩
           ·replace c22 := Bool.eq_false_iff.mpr c22
            subst c22
            have H1 : (saronref05_Check.j3 kj9 false x4_2 a0_0 l0_1 ((rd_T114 l0_1 x4_2).f0) ((rd_T114 l0_1 x4_2).f1)) = some r := by rw [if_neg (show ¬ (false = true) by decide)] at H; exact H
            clear H
            have H := H1
            clear H1
            have H' := Aside0.mk H
            clear H
            have hnb26 := NB109_106.out
            have hnc26 := NB106_109.out
            have hcz27_0 := cz BK109.out 0
            have hcz27_1 := cz BK109.out 1
            have hfz27_0 := fz BK109.out 0
            have hfz27_1 := fz BK109.out 1
            go_wp2_with (first | ((with_reducible refine gate_callee (f := 40) rfl ?_); refine goesL_ (some 39) rfl rfl Tryd.func40 (by kernel_rfl) rfl #[.int .i64 ((rd_T114 l0_1 x4_2).f0), .int .i64 2, .int .i64 32] rfl TM ?_; (with_reducible refine (saronref00_Sits.calls ((rd_T114 l0_1 x4_2).f0) 2 32 false _ A21.out).mono ?_); rintro e w' ⟨rfl, ⟨nd, rfl⟩⟩; refine ⟨_, rfl, ?_⟩))
            go_meet
            case rel => exact ⟨_, (false), TT, H', ⟨by have := HJ1.out; have := HK2.out; have := HJ9.out; first | omega | exact Nat.le_refl _⟩, ⟨by (with_reducible repeat (first | refine blk_drewN ?_ _ | refine blk_drew ?_ | refine blk_alloc ?_ _)); refine blk_far ?_ NB106_109.out _; (with_reducible repeat (first | refine blk_drewN ?_ _ | refine blk_drew ?_ | refine blk_alloc ?_ _)); refine blk_far ?_ NB106_109.out _; (with_reducible repeat (first | refine blk_drewN ?_ _ | refine blk_drew ?_ | refine blk_alloc ?_ _)); exact BK106.out⟩, ⟨by (with_reducible repeat (first | refine blk_drewN ?_ _ | refine blk_drew ?_ | refine blk_alloc ?_ _)); refine blk_put (cs := #[.int .i64 ((rd_T114 l0_1 x4_2).f0), .slice none 0 0]) ?_ 1 _ rfl; (with_reducible repeat (first | refine blk_drewN ?_ _ | refine blk_drew ?_ | refine blk_alloc ?_ _)); refine blk_put (cs := #[.int .i64 0, .slice none 0 0]) ?_ 0 _ rfl; (with_reducible repeat (first | refine blk_drewN ?_ _ | refine blk_drew ?_ | refine blk_alloc ?_ _)); exact BK109.out⟩, ⟨TB2 GE106.out GE109.out⟩⟩
          case rest => as_aux_lemma =>
           clear HC16
           try clear c1
           try clear p1
           try clear q1
           try clear hx1
           try clear c2
           try clear p2
           try clear c4
           try clear c5
           try clear c6
           try clear c6b0
           try clear c6b1
           try clear c10
           try clear p10
           try clear q10
           try clear hx10
           try clear c11
           try clear c13
           try clear c14
           try clear c14b0
           try clear c15
           try clear c15b0
           try clear c19
           try clear c22
           try clear c23
           try clear c26
           try clear hcz12_0 hcz12_1
           try clear hcz17_0 hcz17_1
           try clear hcz20_0 hcz20_1
           try clear hcz24_0 hcz24_1
           try clear hcz25_0 hcz25_1
           try clear hcz27_0 hcz27_1
           try clear hcz7_0 hcz7_1
           try clear hcz8_0 hcz8_1
           try clear hcz9_0 hcz9_1
           try clear hfz12_0 hfz12_1
           try clear hfz17_0 hfz17_1
           try clear hfz20_0 hfz20_1
           try clear hfz24_0 hfz24_1
           try clear hfz25_0 hfz25_1
           try clear hfz27_0 hfz27_1
           try clear hfz7_0 hfz7_1
           try clear hfz8_0 hfz8_1
           try clear hfz9_0 hfz9_1
           try clear hx108_0
           try clear hx108_1
           try clear p108
           try clear p2
           try clear q108
           obtain ⟨kq, x3_15, rfl, HA, HJ15, BK106, BK109, HB⟩ := hcut
           cases kq with
           | zero => exact absurd HA.out (by simp [saronref05_Check.j3])
           | succ kj15 =>
            have H := HA.out
            clear HA
            simp only [saronref05_Check.j3] at H
            have H' := Aside0.mk H
            clear H
            go_wp2
            go_loopg [3, 6] kj15 (fun kq v3 v6 w' => ∃ (x3_5 : Bool) (x6_5 : Int), v3 = .bool x3_5 ∧ v6 = .int .i64 x6_5 ∧ Aside0 (saronref05_Check.l1 kq x3_5 x4_2 x6_5 a0_0 l0_1 ((rd_T114 l0_1 x4_2).f0) ((rd_T114 l0_1 x4_2).f1) = some r) ∧ Aside0 (kq ≤ kj15) ∧ Aside0 (w'.heap[gb106]? = some (.cells #[.int .i64 a0_0, (.slice (some ad108) l0_1.length c0_1)] 24 (0, 0))) ∧ Aside0 (w'.heap[gb109]? = some (.cells #[.int .i64 ((rd_T114 l0_1 x4_2).f0), (.slice A108_1 ((rd_T114 l0_1 x4_2).f1).length c108_1)] 114 (0, 0))) ∧ Aside0 (Below w.heap.size w w'))
            case atStart => exact ⟨(x3_15), (0), TT, TT, H', ⟨Nat.le_refl _⟩, ⟨TK BK106.out⟩, ⟨TK BK109.out⟩, ⟨TB2 GE106.out GE109.out⟩⟩
            case round => as_aux_lemma =>
             clear H'
             try clear c1
             try clear p1
             try clear q1
             try clear hx1
             try clear c2
             try clear p2
             try clear c4
             try clear c5
             try clear c6
             try clear c6b0
             try clear c6b1
             try clear c10
             try clear p10
             try clear q10
             try clear hx10
             try clear c11
             try clear c13
             try clear c14
             try clear c14b0
             try clear c15
             try clear c15b0
             try clear c19
             try clear c22
             try clear c23
             try clear c26
             try clear hcz12_0 hcz12_1
             try clear hcz17_0 hcz17_1
             try clear hcz20_0 hcz20_1
             try clear hcz24_0 hcz24_1
             try clear hcz25_0 hcz25_1
             try clear hcz27_0 hcz27_1
             try clear hcz7_0 hcz7_1
             try clear hcz8_0 hcz8_1
             try clear hcz9_0 hcz9_1
             try clear hfz12_0 hfz12_1
             try clear hfz17_0 hfz17_1
             try clear hfz20_0 hfz20_1
             try clear hfz24_0 hfz24_1
             try clear hfz25_0 hfz25_1
             try clear hfz27_0 hfz27_1
             try clear hfz7_0 hfz7_1
             try clear hfz8_0 hfz8_1
             try clear hfz9_0 hfz9_1
             try clear hx108_0
             try clear hx108_1
             try clear p1
             try clear p10
             try clear p108
             try clear p2
             try clear q1
             try clear q10
             try clear q108
             obtain ⟨x3_5, x6_5, rfl, rfl, HA, HK5, BK106, BK109, HB⟩ := hrel
             cases gk with
             | zero => exact absurd HA.out (by simp [saronref05_Check.l1])
             | succ k5 =>
              have H := HA.out
              clear HA
              simp only [saronref05_Check.l1] at H
              have HC28 := Aside0.mk H
              clear H
              go_upto_region 8 with (fail)
              go_cut [54] (fun v54 wc => ∃ (kq : Nat) (x54_27 : Bool), v54 = .bool x54_27 ∧ Aside0 (saronref05_Check.j5 kq x3_5 x4_2 x6_5 x54_27 a0_0 l0_1 ((rd_T114 l0_1 x4_2).f0) ((rd_T114 l0_1 x4_2).f1) = some r) ∧ Aside0 (kq ≤ k5) ∧ Aside0 (wc.heap[gb106]? = some (.cells #[.int .i64 a0_0, (.slice (some ad108) l0_1.length c0_1)] 24 (0, 0))) ∧ Aside0 (wc.heap[gb109]? = some (.cells #[.int .i64 ((rd_T114 l0_1 x4_2).f0), (.slice A108_1 ((rd_T114 l0_1 x4_2).f1).length c108_1)] 114 (0, 0))) ∧ Aside0 (Below w.heap.size w wc))
              case first => as_aux_lemma =>
               have H := HC28.out
               clear HC28
               by_cases c29 : x3_5 = true
               ·subst c29
                have H1 : (saronref05_Check.j5 k5 true x4_2 x6_5 (decide (x6_5 < a0_0)) a0_0 l0_1 ((rd_T114 l0_1 x4_2).f0) ((rd_T114 l0_1 x4_2).f1)) = some r := by rw [if_pos rfl] at H; exact H
                clear H
                have H := H1
                clear H1
                have H' := Aside0.mk H
                clear H
                have hnb30 := NB106_109.out
                have hnc30 := NB109_106.out
                have hcz31_0 := cz BK106.out 0
                have hcz31_1 := cz BK106.out 1
                have hfz31_0 := fz BK106.out 0
                have hfz31_1 := fz BK106.out 1
                go_wp2
                go_meet
                case rel => exact ⟨_, (decide (x6_5 < a0_0)), TT, H', ⟨by have := HJ1.out; have := HK2.out; have := HJ9.out; have := HJ15.out; have := HK5.out; first | omega | exact Nat.le_refl _⟩, ⟨TK BK106.out⟩, ⟨TK BK109.out⟩, ⟨TB2 GE106.out GE109.out⟩⟩
               ·replace c29 := Bool.eq_false_iff.mpr c29
                subst c29
                have H1 : (saronref05_Check.j5 k5 false x4_2 x6_5 false a0_0 l0_1 ((rd_T114 l0_1 x4_2).f0) ((rd_T114 l0_1 x4_2).f1)) = some r := by rw [if_neg (show ¬ (false = true) by decide)] at H; exact H
                clear H
                have H := H1
                clear H1
                have H' := Aside0.mk H
                clear H
                go_wp2
                go_meet
                case rel => exact ⟨_, (false), TT, H', ⟨by have := HJ1.out; have := HK2.out; have := HJ9.out; have := HJ15.out; have := HK5.out; first | omega | exact Nat.le_refl _⟩, ⟨TK BK106.out⟩, ⟨TK BK109.out⟩, ⟨TB2 GE106.out GE109.out⟩⟩
              case rest => as_aux_lemma =>
               clear HC28
               try clear c1
               try clear p1
               try clear q1
               try clear hx1
               try clear c2
               try clear p2
               try clear c3
               try clear c4
               try clear c5
               try clear c6
               try clear c6b0
               try clear c6b1
               try clear c10
               try clear p10
               try clear q10
               try clear hx10
               try clear c11
               try clear c13
               try clear c14
               try clear c14b0
               try clear c15
               try clear c15b0
               try clear c19
               try clear c22
               try clear c23
               try clear c26
               try clear c29
               try clear c30
               try clear hcz12_0 hcz12_1
               try clear hcz17_0 hcz17_1
               try clear hcz20_0 hcz20_1
               try clear hcz24_0 hcz24_1
               try clear hcz25_0 hcz25_1
               try clear hcz27_0 hcz27_1
               try clear hcz31_0 hcz31_1
               try clear hcz7_0 hcz7_1
               try clear hcz8_0 hcz8_1
               try clear hcz9_0 hcz9_1
               try clear hfz12_0 hfz12_1
               try clear hfz17_0 hfz17_1
               try clear hfz20_0 hfz20_1
               try clear hfz24_0 hfz24_1
               try clear hfz25_0 hfz25_1
               try clear hfz27_0 hfz27_1
               try clear hfz31_0 hfz31_1
               try clear hfz7_0 hfz7_1
               try clear hfz8_0 hfz8_1
               try clear hfz9_0 hfz9_1
               try clear hx108_0
               try clear hx108_1
               try clear p1
               try clear p10
               try clear p108
               try clear p2
               try clear q1
               try clear q10
               try clear q108
               obtain ⟨kq, x54_27, rfl, HA, HJ27, BK106, BK109, HB⟩ := hcut
               cases kq with
               | zero => exact absurd HA.out (by simp [saronref05_Check.j5])
               | succ kj27 =>
                have H := HA.out
                clear HA
                simp only [saronref05_Check.j5] at H
                by_cases c32 : x54_27 = true
                ·subst c32
                 have H1 : (if 0 ≤ x6_5 then (if x6_5 < (((rd_T114 l0_1 x4_2).f1).length : Int) then ((saronref00_Grows.f kj27 (rd_L1 ((rd_T114 l0_1 x4_2).f1) x6_5) ((rd_T114 l0_1 x4_2).f0)).bind fun t112 => (if t112 = true then (if x6_5 > 0 then (saronref05_Check.l1 kj27 true x4_2 (wrap64 (x6_5 + 1)) a0_0 l0_1 ((rd_T114 l0_1 x4_2).f0) ((rd_T114 l0_1 x4_2).f1)) else (if 0 < (((rd_T114 l0_1 x4_2).f1).length : Int) then ((saronref00_Equal.f kj27 (rd_L1 ((rd_T114 l0_1 x4_2).f1) 0) (([wrap64 (((rd_T114 l0_1 x4_2).f0) - 1)] : List Int))).bind fun t117 => (saronref05_Check.l1 kj27 t117 x4_2 (wrap64 (x6_5 + 1)) a0_0 l0_1 ((rd_T114 l0_1 x4_2).f0) ((rd_T114 l0_1 x4_2).f1))) else (none))) else (saronref05_Check.l1 kj27 false x4_2 (wrap64 (x6_5 + 1)) a0_0 l0_1 ((rd_T114 l0_1 x4_2).f0) ((rd_T114 l0_1 x4_2).f1)))) else (none)) else (none)) = some r := by rw [if_pos rfl] at H; exact H
                 clear H
                 have H := H1
                 clear H1
                 by_cases c33 : 0 ≤ x6_5
                 ·rw [if_pos c33] at H
                  have c33b0 : decide (0 ≤ x6_5) = true := decide_eq_true c33
                  clear c33
                  by_cases c34 : x6_5 < (((rd_T114 l0_1 x4_2).f1).length : Int)
                  ·rw [if_pos c34] at H
                   have c34b0 : decide (x6_5 < (((rd_T114 l0_1 x4_2).f1).length : Int)) = true := decide_eq_true c34
                   clear c34
                   replace H := Option.bind_eq_some_iff.mp H
                   obtain ⟨t112, A350, H⟩ := H
                   replace H : (if t112 = true then (if x6_5 > 0 then (saronref05_Check.l1 kj27 true x4_2 (wrap64 (x6_5 + 1)) a0_0 l0_1 ((rd_T114 l0_1 x4_2).f0) ((rd_T114 l0_1 x4_2).f1)) else (if 0 < (((rd_T114 l0_1 x4_2).f1).length : Int) then ((saronref00_Equal.f kj27 (rd_L1 ((rd_T114 l0_1 x4_2).f1) 0) (([wrap64 (((rd_T114 l0_1 x4_2).f0) - 1)] : List Int))).bind fun t117 => (saronref05_Check.l1 kj27 t117 x4_2 (wrap64 (x6_5 + 1)) a0_0 l0_1 ((rd_T114 l0_1 x4_2).f0) ((rd_T114 l0_1 x4_2).f1))) else (none))) else (saronref05_Check.l1 kj27 false x4_2 (wrap64 (x6_5 + 1)) a0_0 l0_1 ((rd_T114 l0_1 x4_2).f0) ((rd_T114 l0_1 x4_2).f1))) = some r := H
                   have A35 := Aside0.mk A350
                   clear A350
                   by_cases c36 : t112 = true
                   ·subst c36
                    have H1 : (if x6_5 > 0 then (saronref05_Check.l1 kj27 true x4_2 (wrap64 (x6_5 + 1)) a0_0 l0_1 ((rd_T114 l0_1 x4_2).f0) ((rd_T114 l0_1 x4_2).f1)) else (if 0 < (((rd_T114 l0_1 x4_2).f1).length : Int) then ((saronref00_Equal.f kj27 (rd_L1 ((rd_T114 l0_1 x4_2).f1) 0) (([wrap64 (((rd_T114 l0_1 x4_2).f0) - 1)] : List Int))).bind fun t117 => (saronref05_Check.l1 kj27 t117 x4_2 (wrap64 (x6_5 + 1)) a0_0 l0_1 ((rd_T114 l0_1 x4_2).f0) ((rd_T114 l0_1 x4_2).f1))) else (none))) = some r := by rw [if_pos rfl] at H; exact H
                    clear H
                    have H := H1
                    clear H1
                    by_cases c37 : x6_5 > 0
                    ·rw [if_pos c37] at H
                     have c37b0 : decide (0 < x6_5) = true := decide_eq_true c37
                     clear c37
                     have H' := Aside0.mk H
                     clear H
                     try go_wp2
                     have n0_ := Aside0.mk (blk_drew BK106.out)
                     have n1_ := Aside0.mk (blk_drew BK109.out)
                     have n2_ := Aside0.mk (below_drew1 HB.out)
                     clear BK106
                     clear BK109
                     clear HB
                     have BK106 := n0_
                     have BK109 := n1_
                     have HB := n2_
                     clear n0_ n1_ n2_
                     have p111 : 0 ≤ (x6_5 : Int) := of_decide_eq_true TA
                     have q111 : x6_5 < (((rd_T114 l0_1 x4_2).f1).length : Int) := of_decide_eq_true TA
                     obtain ⟨ad111, A111_0, c111_0, e111, hx111_0, hl111_0, hi111_0⟩ := at_L1 HR108_1.out x6_5 p111 q111
                     have hw111_0 := hx111_0
                     cases e111
                     replace hx111_0 := hx HB.out hx111_0
                     have HR111_0 := Aside0.mk hi111_0
                     have HC111_0 := Aside0.mk hl111_0
                     clear hi111_0 hl111_0
                     replace p111 := eq_true p111
                     replace q111 := eq_true q111
                     refine start_ (n := 24) (S := fun w' => w'.cell? ⟨gb109, 0, none⟩ = some (.int .i64 ((rd_T114 l0_1 x4_2).f0)) ∧ w'.cell? ⟨gb109, 1, none⟩ = some (.slice (some ad111) ((rd_T114 l0_1 x4_2).f1).length c108_1) ∧ w'.cell? (ad111.add (x6_5).toNat) = some (.slice A111_0 (rd_L1 ((rd_T114 l0_1 x4_2).f1) x6_5).length c111_0)) (ds := []) (.replicate 24 false) (by kernel_rfl) rfl rfl ⟨cz BK109.out 0, cz BK109.out 1, (hx HB.out hw111_0)⟩ (fun hHeld => ?_); refine with_tabW saronref05_Check.tab10 saronref05_Check.bits10 (fun HT_ HW_ => ?_)
                     generalize wc.drew = w38 at BK106 BK109 HB HR111_0 hx111_0 hHeld ⊢
                     refine pT 0 57 (bt 24 1) (k := ?_)
                     refine pT 2 59 (bt 24 5) (k := ?_)
                     refine pT 5 62 (bt 24 37) (k := ?_)
                     refine tT3 1 58 (bt 24 39) hHeld (k := ?_)
                     refine pT 3 60 (bt 24 47) (k := ?_)
                     refine tT3 4 61 (bt 24 63) hHeld (k := ?_)
                     refine tT3 6 63 (bt 24 127) hHeld (k := ?_)
                     refine one_ (i := 7) (N := some 64) (bt 24 255) rfl rfl (one_of HT_.out (by kernel_rfl)) (by decide) (fun K hK => ?_)
                     refine goes_ Tryd.func42 (by kernel_rfl) rfl #[.slice A111_0 (rd_L1 ((rd_T114 l0_1 x4_2).f1) x6_5).length c111_0, .int .i64 ((rd_T114 l0_1 x4_2).f0)] (by rfl) rfl rfl TM ?_
                     with_reducible refine (saronref00_Grows.calls kj27 _ _ (rd_L1 ((rd_T114 l0_1 x4_2).f1) x6_5) ((rd_T114 l0_1 x4_2).f0) true _ ?side1 ?side2 A35.out).mono ?_
                     (case side1 => exact TC HR111_0.out)
                     (case side2 => exact HC111_0.out)
                     rintro e w' ⟨rfl, ⟨nd, rfl⟩⟩
                     refine ⟨_, rfl, ?_⟩
                     refine hK.out _ _ ⟨cz BK109.out 0, cz BK109.out 1, (hx (pw_below_drewN HB.out _) hw111_0)⟩ (fun hHeld => ?_)
                     clear hK K
                     refine norm_ (a' := ?_) ?_ ?_
                     rotate_left
                     ·show Act.put _ (some 64) _ = _
                      simp only [Act.put, lA, lZ, lS, i64_w, i32_w]
                      rfl
                     refine pT 8 65 (bt 24 511) (k := ?_)
                     refine pT 9 66 (bt 24 1023) (k := ?_)
                     refine pT 10 67 (bt 24 2047) (k := ?_)
                     refine pT 11 68 (bt 24 4095) (k := ?_)
                     refine pU 12 69 (bt 24 8191) (k := ?_)
                     refine pU 13 70 (bt 24 16383) (k := ?_)
                     refine pU 14 71 (bt 24 32767) (k := ?_)
                     refine pU 15 72 (bt 24 65535) (k := ?_)
                     refine pU 16 73 (bt 24 131071) (k := ?_)
                     refine pU 17 74 (bt 24 262143) (k := ?_)
                     refine pU 18 75 (bt 24 524287) (k := ?_)
                     refine pU 19 76 (bt 24 1048575) (k := ?_)
                     refine pU 20 77 (bt 24 2097151) (k := ?_)
                     refine pT 21 78 (bt 24 4194303) (k := ?_)
                     refine pT 22 79 (bt 24 8388607) (k := ?_)
                     refine pT 23 3 (bt 24 16777215) (k := ?_)
                     refine done_ (done_of HT_.out (by kernel_rfl)) ?_
                     try go_wp2
                     go_roundg kj27
                     case measure => have := HJ1.out; have := HK2.out; have := HJ9.out; have := HJ15.out; have := HK5.out; have := HJ27.out; omega
                     case rel => exact ⟨(true), (wrap64 (x6_5 + 1)), TT, TT, H', ⟨by have := HJ1.out; have := HK2.out; have := HJ9.out; have := HJ15.out; have := HK5.out; have := HJ27.out; omega⟩, ⟨TK BK106.out⟩, ⟨TK BK109.out⟩, ⟨TB2 GE106.out GE109.out⟩⟩
                    ·rw [if_neg c37] at H
                     have c37b0 : decide (0 < x6_5) = false := decide_eq_false c37
                     clear c37
                     by_cases c39 : 0 < (((rd_T114 l0_1 x4_2).f1).length : Int)
                     ·rw [if_pos c39] at H
                      have c39b0 : decide (0 < (((rd_T114 l0_1 x4_2).f1).length : Int)) = true := decide_eq_true c39
                      have c39b1 : decide (0 < ((rd_T114 l0_1 x4_2).f1).length) = true := decide_eq_true (by omega)
                      clear c39
                      obtain ⟨y114, hy114⟩ : ∃ y_ : List Int, y_ = (([wrap64 (((rd_T114 l0_1 x4_2).f0) - 1)] : List Int)) := ⟨_, rfl⟩
                      replace H : ((saronref00_Equal.f kj27 (rd_L1 ((rd_T114 l0_1 x4_2).f1) 0) y114).bind fun t117 => (saronref05_Check.l1 kj27 t117 x4_2 (wrap64 (x6_5 + 1)) a0_0 l0_1 ((rd_T114 l0_1 x4_2).f0) ((rd_T114 l0_1 x4_2).f1))) = some r := by first | (rw [hy114]; with_reducible exact H) | (have H2_ := (Option.bind_some _ _).symm.trans H; rw [hy114]; with_reducible exact H2_) | (have H2_ := (Option.bind_some _ _).symm.trans H; with_reducible exact H2_) | with_reducible exact H | (rw [hy114]; exact H) | exact H
                      have Ny114 := Aside0.mk hy114
                      clear hy114
                      replace H := Option.bind_eq_some_iff.mp H
                      obtain ⟨t117, A400, H⟩ := H
                      replace H : (saronref05_Check.l1 kj27 t117 x4_2 (wrap64 (x6_5 + 1)) a0_0 l0_1 ((rd_T114 l0_1 x4_2).f0) ((rd_T114 l0_1 x4_2).f1)) = some r := H
                      have A40 := Aside0.mk A400
                      clear A400
                      have H' := Aside0.mk H
                      clear H
                      try go_wp2
                      have n0_ := Aside0.mk (blk_drew BK106.out)
                      have n1_ := Aside0.mk (blk_drew BK109.out)
                      have n2_ := Aside0.mk (below_drew1 HB.out)
                      clear BK106
                      clear BK109
                      clear HB
                      have BK106 := n0_
                      have BK109 := n1_
                      have HB := n2_
                      clear n0_ n1_ n2_
                      have p111 : 0 ≤ (x6_5 : Int) := of_decide_eq_true TA
                      have q111 : x6_5 < (((rd_T114 l0_1 x4_2).f1).length : Int) := of_decide_eq_true TA
                      obtain ⟨ad111, A111_0, c111_0, e111, hx111_0, hl111_0, hi111_0⟩ := at_L1 HR108_1.out x6_5 p111 q111
                      have hw111_0 := hx111_0
                      cases e111
                      replace hx111_0 := hx HB.out hx111_0
                      have HR111_0 := Aside0.mk hi111_0
                      have HC111_0 := Aside0.mk hl111_0
                      clear hi111_0 hl111_0
                      replace p111 := eq_true p111
                      replace q111 := eq_true q111
                      have p113 : 0 ≤ (0 : Int) := (by omega)
                      have q113 : 0 < (((rd_T114 l0_1 x4_2).f1).length : Int) := of_decide_eq_true TA
                      obtain ⟨ad113, A113_0, c113_0, e113, hx113_0, hl113_0, hi113_0⟩ := at_L1 HR108_1.out 0 p113 q113
                      have hw113_0 := hx113_0
                      (try rw [show ((0 : Int)).toNat = 0 from rfl] at hw113_0)
                      (try rw [show 0 * 1 = 0 from rfl] at hw113_0)
                      (try rw [Addr.add_zero'] at hw113_0)
                      obtain rfl : ad111 = ad113 := (by injection e113)
                      have qi113 : (0 < ((rd_T114 l0_1 x4_2).f1).length) = True := eq_true (by omega)
                      (try rw [show ((0 : Int)).toNat = 0 from rfl] at hx113_0)
                      (try rw [Addr.add_zero'] at hx113_0)
                      replace hx113_0 := hx HB.out hx113_0
                      have HR113_0 := Aside0.mk hi113_0
                      have HC113_0 := Aside0.mk hl113_0
                      clear hi113_0 hl113_0
                      replace p113 := eq_true p113
                      replace q113 := eq_true q113
                      refine start_ (n := 24) (S := fun w' => w'.cell? ⟨gb109, 0, none⟩ = some (.int .i64 ((rd_T114 l0_1 x4_2).f0)) ∧ w'.cell? ⟨gb109, 1, none⟩ = some (.slice (some ad111) ((rd_T114 l0_1 x4_2).f1).length c108_1) ∧ w'.cell? (ad111.add (x6_5).toNat) = some (.slice A111_0 (rd_L1 ((rd_T114 l0_1 x4_2).f1) x6_5).length c111_0) ∧ w'.cell? ad111 = some (.slice A113_0 (rd_L1 ((rd_T114 l0_1 x4_2).f1) 0).length c113_0)) (ds := []) (.replicate 24 false) (by kernel_rfl) rfl rfl ⟨cz BK109.out 0, cz BK109.out 1, (hx HB.out hw111_0), (hx HB.out hw113_0)⟩ (fun hHeld => ?_); refine with_tabW saronref05_Check.tab10 saronref05_Check.bits10 (fun HT_ HW_ => ?_)
                      generalize wc.drew = w41 at BK106 BK109 HB HR111_0 HR113_0 hx111_0 hx113_0 hHeld ⊢
                      refine pT 0 57 (bt 24 1) (k := ?_)
                      refine pT 2 59 (bt 24 5) (k := ?_)
                      refine pT 5 62 (bt 24 37) (k := ?_)
                      refine tT4 1 58 (bt 24 39) hHeld (k := ?_)
                      refine pT 3 60 (bt 24 47) (k := ?_)
                      refine tT4 4 61 (bt 24 63) hHeld (k := ?_)
                      refine tT4 6 63 (bt 24 127) hHeld (k := ?_)
                      refine one_ (i := 7) (N := some 64) (bt 24 255) rfl rfl (one_of HT_.out (by kernel_rfl)) (by decide) (fun K hK => ?_)
                      refine goes_ Tryd.func42 (by kernel_rfl) rfl #[.slice A111_0 (rd_L1 ((rd_T114 l0_1 x4_2).f1) x6_5).length c111_0, .int .i64 ((rd_T114 l0_1 x4_2).f0)] (by rfl) rfl rfl TM ?_
                      with_reducible refine (saronref00_Grows.calls kj27 _ _ (rd_L1 ((rd_T114 l0_1 x4_2).f1) x6_5) ((rd_T114 l0_1 x4_2).f0) true _ ?side1 ?side2 A35.out).mono ?_
                      (case side1 => exact TC HR111_0.out)
                      (case side2 => exact HC111_0.out)
                      rintro e w' ⟨rfl, ⟨nd, rfl⟩⟩
                      refine ⟨_, rfl, ?_⟩
                      refine hK.out _ _ ⟨cz BK109.out 0, cz BK109.out 1, (hx (pw_below_drewN HB.out _) hw111_0), (hx (pw_below_drewN HB.out _) hw113_0)⟩ (fun hHeld => ?_)
                      clear hK K
                      refine norm_ (a' := ?_) ?_ ?_
                      rotate_left
                      ·show Act.put _ (some 64) _ = _
                       simp only [Act.put, lA, lZ, lS, i64_w, i32_w]
                       rfl
                      refine pT 8 65 (bt 24 511) (k := ?_)
                      refine pT 9 66 (bt 24 1023) (k := ?_)
                      refine pT 10 67 (bt 24 2047) (k := ?_)
                      refine pT 11 68 (bt 24 4095) (k := ?_)
                      refine pT 12 69 (bt 24 8191) (k := ?_)
                      refine pT 16 73 (bt 24 73727) (k := ?_)
                      refine tT4 13 70 (bt 24 81919) hHeld (k := ?_)
                      refine pT 14 71 (bt 24 98303) (k := ?_)
                      refine tT4 15 72 (bt 24 131071) hHeld (k := ?_)
                      refine tT4 17 74 (bt 24 262143) hHeld (k := ?_)
                      refine pT 18 75 (bt 24 524287) (k := ?_)
                      refine one_ (i := 19) (N := some 76) (bt 24 1048575) rfl rfl (one_of HT_.out (by kernel_rfl)) (by decide) (fun K hK => ?_)
                      refine Kd.R_lit_step (Kd.int .i64) _ 3 ?hg (N := 76) ?hd (xs := ([wrap64 (((rd_T114 l0_1 x4_2).f0) - 1)] : List Int)) (inner := [.int .i64 (wrap64 (((rd_T114 l0_1 x4_2).f0) - 1))]) (ok := fun _ => True) (okp := fun _ => True) ?hr ?hp (fun _ hk => hk) trivial (Below.refl _ _) (Nat.le_refl _) (by simp) ?_; (case hd => rfl); (case hg => rfl); (case hr => exact TS); (case hp => exact (Reps.one (show Kd.M (Kd.int .i64) _ _ _ (wrap64 (((rd_T114 l0_1 x4_2).f0) - 1)) [.int .i64 (wrap64 (((rd_T114 l0_1 x4_2).f0) - 1))] from rfl) (Reps.none _ _)))
                      intro v115 w42 ho43 hb hg_ hnew_
                      clear hg_ hnew_
                      (first | rw [← Ny114.out] at ho43 | (simp only [Int.reduceToNat] at ho43; rw [← Ny114.out] at ho43))
                      have n0_ := Aside0.mk (Kd.R_lower ho43 (below_size (TB2 GE106.out GE109.out)))
                      have n1_ := Aside0.mk (TKb hb BK106.out)
                      have n2_ := Aside0.mk (TKb hb BK109.out)
                      have n3_ := Aside0.mk (below_step (TB2 GE106.out GE109.out) hb)
                      clear BK106
                      clear BK109
                      clear HB
                      have HO116 := n0_
                      have BK106 := n1_
                      have BK109 := n2_
                      have HB := n3_
                      clear n0_ n1_ n2_ n3_
                      clear hb ho43
                      obtain ⟨Ao44, co44, eo44⟩ := Kd.R_slice HO116.out
                      (first | subst eo44 | (injection eo44 with f1_ f2_ f3_; have f4_ := f1_.symm; have f5_ := f3_.symm; clear f1_ f2_ f3_; subst f4_; subst f5_))
                      refine hK.out _ _ ⟨cz BK109.out 0, cz BK109.out 1, (hx HB.out hw111_0), (hx HB.out hw113_0)⟩ (fun hHeld => ?_)
                      clear hK K
                      refine norm_ (a' := ?_) ?_ ?_
                      rotate_left
                      ·show Act.put _ (some 76) _ = _
                       simp only [Act.put, lA, lZ, lS, i64_w, i32_w]
                       rfl
                      refine one_ (i := 20) (N := some 77) (bt 24 2097151) rfl rfl (one_of HT_.out (by kernel_rfl)) (by decide) (fun K hK => ?_)
                      refine goes_ Tryd.func20 (by kernel_rfl) rfl #[.slice A113_0 (rd_L1 ((rd_T114 l0_1 x4_2).f1) 0).length c113_0, .slice Ao44 y114.length co44] (by rfl) rfl rfl TM ?_
                      with_reducible refine (saronref00_Equal.calls kj27 _ _ (rd_L1 ((rd_T114 l0_1 x4_2).f1) 0) _ _ y114 t117 _ ?side1 ?side2 ?side3 ?side4 A40.out).mono ?_
                      (case side1 => exact TC HR113_0.out)
                      (case side2 => exact HC113_0.out)
                      (case side3 => repeat (first | exact (Kd.R_reads' HO116.out).2.2 | (with_reducible refine Kd.C_alloc ?_ _) | (with_reducible refine Kd.C_drewN ?_ _) | (with_reducible refine Kd.C_drew ?_)))
                      (case side4 => exact (Kd.R_reads' HO116.out).2.1)
                      rintro e w' ⟨rfl, ⟨nd, rfl⟩⟩
                      refine ⟨_, rfl, ?_⟩
                      refine hK.out _ _ ⟨cz BK109.out 0, cz BK109.out 1, (hx (pw_below_drewN HB.out _) hw111_0), (hx (pw_below_drewN HB.out _) hw113_0)⟩ (fun hHeld => ?_)
                      clear hK K
                      refine norm_ (a' := ?_) ?_ ?_
                      rotate_left
                      ·show Act.put _ (some 77) _ = _
                       simp only [Act.put, lA, lZ, lS, i64_w, i32_w]
                       rfl
                      refine pT 21 78 (bt 24 4194303) (k := ?_)
                      refine pT 22 79 (bt 24 8388607) (k := ?_)
                      refine pT 23 3 (bt 24 16777215) (k := ?_)
                      refine done_ (done_of HT_.out (by kernel_rfl)) ?_
                      try go_wp2
                      go_roundg kj27
                      case measure => have := HJ1.out; have := HK2.out; have := HJ9.out; have := HJ15.out; have := HK5.out; have := HJ27.out; omega
                      case rel => exact ⟨(t117), (wrap64 (x6_5 + 1)), TT, TT, H', ⟨by have := HJ1.out; have := HK2.out; have := HJ9.out; have := HJ15.out; have := HK5.out; have := HJ27.out; omega⟩, ⟨TK BK106.out⟩, ⟨TK BK109.out⟩, ⟨TB2 GE106.out GE109.out⟩⟩
                     ·rw [if_neg c39] at H
                      exact absurd H (by simp)
                   ·replace c36 := Bool.eq_false_iff.mpr c36
                    subst c36
                    have H1 : (saronref05_Check.l1 kj27 false x4_2 (wrap64 (x6_5 + 1)) a0_0 l0_1 ((rd_T114 l0_1 x4_2).f0) ((rd_T114 l0_1 x4_2).f1)) = some r := by rw [if_neg (show ¬ (false = true) by decide)] at H; exact H
                    clear H
                    have H := H1
                    clear H1
                    have H' := Aside0.mk H
                    clear H
                    try go_wp2
                    have n0_ := Aside0.mk (blk_drew BK106.out)
                    have n1_ := Aside0.mk (blk_drew BK109.out)
                    have n2_ := Aside0.mk (below_drew1 HB.out)
                    clear BK106
                    clear BK109
                    clear HB
                    have BK106 := n0_
                    have BK109 := n1_
                    have HB := n2_
                    clear n0_ n1_ n2_
                    have p111 : 0 ≤ (x6_5 : Int) := of_decide_eq_true TA
                    have q111 : x6_5 < (((rd_T114 l0_1 x4_2).f1).length : Int) := of_decide_eq_true TA
                    obtain ⟨ad111, A111_0, c111_0, e111, hx111_0, hl111_0, hi111_0⟩ := at_L1 HR108_1.out x6_5 p111 q111
                    have hw111_0 := hx111_0
                    cases e111
                    replace hx111_0 := hx HB.out hx111_0
                    have HR111_0 := Aside0.mk hi111_0
                    have HC111_0 := Aside0.mk hl111_0
                    clear hi111_0 hl111_0
                    replace p111 := eq_true p111
                    replace q111 := eq_true q111
                    refine start_ (n := 24) (S := fun w' => w'.cell? ⟨gb109, 0, none⟩ = some (.int .i64 ((rd_T114 l0_1 x4_2).f0)) ∧ w'.cell? ⟨gb109, 1, none⟩ = some (.slice (some ad111) ((rd_T114 l0_1 x4_2).f1).length c108_1) ∧ w'.cell? (ad111.add (x6_5).toNat) = some (.slice A111_0 (rd_L1 ((rd_T114 l0_1 x4_2).f1) x6_5).length c111_0)) (ds := []) (.replicate 24 false) (by kernel_rfl) rfl rfl ⟨cz BK109.out 0, cz BK109.out 1, (hx HB.out hw111_0)⟩ (fun hHeld => ?_); refine with_tabW saronref05_Check.tab10 saronref05_Check.bits10 (fun HT_ HW_ => ?_)
                    generalize wc.drew = w45 at BK106 BK109 HB HR111_0 hx111_0 hHeld ⊢
                    refine pT 0 57 (bt 24 1) (k := ?_)
                    refine pT 2 59 (bt 24 5) (k := ?_)
                    refine pT 5 62 (bt 24 37) (k := ?_)
                    refine tT3 1 58 (bt 24 39) hHeld (k := ?_)
                    refine pT 3 60 (bt 24 47) (k := ?_)
                    refine tT3 4 61 (bt 24 63) hHeld (k := ?_)
                    refine tT3 6 63 (bt 24 127) hHeld (k := ?_)
                    refine one_ (i := 7) (N := some 64) (bt 24 255) rfl rfl (one_of HT_.out (by kernel_rfl)) (by decide) (fun K hK => ?_)
                    refine goes_ Tryd.func42 (by kernel_rfl) rfl #[.slice A111_0 (rd_L1 ((rd_T114 l0_1 x4_2).f1) x6_5).length c111_0, .int .i64 ((rd_T114 l0_1 x4_2).f0)] (by rfl) rfl rfl TM ?_
                    with_reducible refine (saronref00_Grows.calls kj27 _ _ (rd_L1 ((rd_T114 l0_1 x4_2).f1) x6_5) ((rd_T114 l0_1 x4_2).f0) false _ ?side1 ?side2 A35.out).mono ?_
                    (case side1 => exact TC HR111_0.out)
                    (case side2 => exact HC111_0.out)
                    rintro e w' ⟨rfl, ⟨nd, rfl⟩⟩
                    refine ⟨_, rfl, ?_⟩
                    refine hK.out _ _ ⟨cz BK109.out 0, cz BK109.out 1, (hx (pw_below_drewN HB.out _) hw111_0)⟩ (fun hHeld => ?_)
                    clear hK K
                    refine norm_ (a' := ?_) ?_ ?_
                    rotate_left
                    ·show Act.put _ (some 64) _ = _
                     simp only [Act.put, lA, lZ, lS, i64_w, i32_w]
                     rfl
                    refine pT 8 65 (bt 24 511) (k := ?_)
                    refine pU 9 66 (bt 24 1023) (k := ?_)
                    refine pU 10 67 (bt 24 2047) (k := ?_)
                    refine pU 11 68 (bt 24 4095) (k := ?_)
                    refine pU 12 69 (bt 24 8191) (k := ?_)
                    refine pU 13 70 (bt 24 16383) (k := ?_)
                    refine pU 14 71 (bt 24 32767) (k := ?_)
                    refine pU 15 72 (bt 24 65535) (k := ?_)
                    refine pU 16 73 (bt 24 131071) (k := ?_)
                    refine pU 17 74 (bt 24 262143) (k := ?_)
                    refine pU 18 75 (bt 24 524287) (k := ?_)
                    refine pU 19 76 (bt 24 1048575) (k := ?_)
                    refine pU 20 77 (bt 24 2097151) (k := ?_)
                    refine pU 21 78 (bt 24 4194303) (k := ?_)
                    refine pT 22 79 (bt 24 8388607) (k := ?_)
                    refine pT 23 3 (bt 24 16777215) (k := ?_)
                    refine done_ (done_of HT_.out (by kernel_rfl)) ?_
                    try go_wp2
                    go_roundg kj27
                    case measure => have := HJ1.out; have := HK2.out; have := HJ9.out; have := HJ15.out; have := HK5.out; have := HJ27.out; omega
                    case rel => exact ⟨(false), (wrap64 (x6_5 + 1)), TT, TT, H', ⟨by have := HJ1.out; have := HK2.out; have := HJ9.out; have := HJ15.out; have := HK5.out; have := HJ27.out; omega⟩, ⟨TK BK106.out⟩, ⟨TK BK109.out⟩, ⟨TB2 GE106.out GE109.out⟩⟩
                  ·rw [if_neg c34] at H
                   exact absurd H (by simp)
                 ·rw [if_neg c33] at H
                  exact absurd H (by simp)
                ·replace c32 := Bool.eq_false_iff.mpr c32
                 subst c32
                 have H1 : (saronref05_Check.l0 kj27 x3_5 (wrap64 (x4_2 + 1)) a0_0 l0_1) = some r := by rw [if_neg (show ¬ (false = true) by decide)] at H; exact H
                 clear H
                 have H := H1
                 clear H1
                 have H' := Aside0.mk H
                 clear H
                 go_wp2
                 go_roundg kj27
                 case measure => have := HJ1.out; have := HK2.out; have := HJ9.out; have := HJ15.out; have := HK5.out; have := HJ27.out; omega
                 case rel => exact ⟨(x3_5), (wrap64 (x4_2 + 1)), TT, TT, H', ⟨by have := HJ1.out; have := HK2.out; have := HJ9.out; have := HJ15.out; have := HK5.out; have := HJ27.out; omega⟩, ⟨TK BK106.out⟩, ⟨TB2 GE106.out GE109.out⟩⟩
         ·rw [if_neg c15] at H
          exact absurd H (by simp)
        ·rw [if_neg c14] at H
         exact absurd H (by simp)
       ·replace c13 := Bool.eq_false_iff.mpr c13
        subst c13
        have H1 : (if x3_2 = true then (some 0) else (some 50)) = some r := by rw [if_neg (show ¬ (false = true) by decide)] at H; exact H
        clear H
        have H := H1
        clear H1
        by_cases c46 : x3_2 = true
        ·subst c46
         have H1 : (some 0) = some r := by rw [if_pos rfl] at H; exact H
         clear H
         have H := H1
         clear H1
         obtain rfl := Option.some.inj H
         go_wp2
         go_ret
         exact ⟨TR, TB1 GE106.out⟩
        ·replace c46 := Bool.eq_false_iff.mpr c46
         subst c46
         have H1 : (some 50) = some r := by rw [if_neg (show ¬ (false = true) by decide)] at H; exact H
         clear H
         have H := H1
         clear H1
         obtain rfl := Option.some.inj H
         go_wp2
         go_ret
         exact ⟨TR, TB1 GE106.out⟩
end Go.Proofs.YtfdenclnneigfaaDoor.PRaspKeys
namespace Go.Proofs.YtfdenclnneigfaaDoor.PRaspKeys
open Go.RowKit Go.Proofs.YtfdenclnneigfaaDoorW.PrintWords Go.Proofs.YtfdenclnneigfaaDoorW.PrintLast Go.Proofs.YtfdenclnneigfaaDoorW.PrintMore Go.Proofs.YtfdenclnneigfaaDoor.M
attribute [local go_sem] max2_int min2_int max_two min_two max_three min_three max_four min_four   -- for this text's walks alone
/-! ### saronref09_areTones: function 62 -/
def saronref09_areTones.l0 : Nat → List Int → Bool → Int → Option (Bool)
 | 0, _, _, _ => none
 | k + 1, x0, x7, x8 => if x7 = true then (if x8 < (x0.length : Int) then (if 0 ≤ x8 then ((saronref00_Sits.f (rd x0 x8) 0 6).bind fun t120 => (saronref09_areTones.l0 k x0 t120 (wrap64 (x8 + 1)))) else (none)) else (some x7)) else (some x7)
def saronref09_areTones.f (k : Nat) (l0 : List Int) (a1 : Int) (a2 : Int) : Option (Bool) := (saronref00_Sits.f (l0.length : Int) a1 a2).bind fun t118 => (saronref09_areTones.l0 k l0 t118 0)
theorem saronref09_areTones.mono_l : ∀ k, (∀ y0 y1 y2, LeO (saronref09_areTones.l0 k y0 y1 y2) (saronref09_areTones.l0 (k + 1) y0 y1 y2))
 | 0 => fun _ _ _ r h => by simp [saronref09_areTones.l0] at h
 | k + 1 => by
  have ih0 := saronref09_areTones.mono_l k
  ·intro y0 y1 y2
   unfold saronref09_areTones.l0
   repeat' first
   | (with_reducible exact ih0 _ _ _)
   | (with_reducible exact LeO.refl _)
   | (with_reducible exact LeO.none _)
   | (with_reducible refine LeO.ite ?_ ?_)
   | (with_reducible refine LeO.bind ?_ (fun _ => ?_))
   | exact ih0 _ _ _
   | exact LeO.none _
   | refine LeO.ite ?_ ?_
   | refine LeO.bind ?_ (fun _ => ?_)
theorem saronref09_areTones.mono : ∀ a0 a1 a2 k, LeO (saronref09_areTones.f k a0 a1 a2) (saronref09_areTones.f (k + 1) a0 a1 a2) := by
 intro a0 a1 a2 k
 have ih0 := saronref09_areTones.mono_l k
 unfold saronref09_areTones.f
 repeat' first
   | (with_reducible exact ih0 _ _ _)
   | (with_reducible exact LeO.refl _)
   | (with_reducible exact LeO.none _)
   | (with_reducible refine LeO.ite ?_ ?_)
   | (with_reducible refine LeO.bind ?_ (fun _ => ?_))
   | exact ih0 _ _ _
   | exact LeO.none _
   | refine LeO.ite ?_ ?_
   | refine LeO.bind ?_ (fun _ => ?_)
set_option maxHeartbeats 8000000 in
set_option maxRecDepth 100000 in
theorem saronref09_areTones.calls (k : Nat) (A0 : Option Addr) (c0 : Nat) (l0 : List Int) (a1 : Int) (a2 : Int) (r : Bool) (w : World) (hr0 : Kd.C (Kd.int .i64) w A0 l0.length l0) (hc0 : l0.length ≤ c0) (h : saronref09_areTones.f k l0 a1 a2 = some r) :
  Calls Tryd.prog 62 #[.slice A0 l0.length c0, .int .i64 a1, .int .i64 a2] w fun e w' => e = .returned (.bool r) ∧ Drawn0 w w' := by
 have HR0 := Aside0.mk hr0
 have HC0 := Aside0.mk hc0
 clear hr0 hc0
 have H : ((saronref00_Sits.f (l0.length : Int) a1 a2).bind fun t118 => (saronref09_areTones.l0 k l0 t118 0)) = some r := h
 clear h
 replace H := Option.bind_eq_some_iff.mp H
 obtain ⟨t118, A40, H⟩ := H
 replace H : (saronref09_areTones.l0 k l0 t118 0) = some r := H
 have A4 := Aside0.mk A40
 clear A40
 have H' := Aside0.mk H
 clear H
 go_enter Tryd.func62, Tryd.ntmps62
 go_wp2_with (first | ((with_reducible refine gate_callee (f := 40) rfl ?_); refine goesL_ (some 13) rfl rfl Tryd.func40 (by kernel_rfl) rfl #[.int .i64 (l0.length : Int), .int .i64 a1, .int .i64 a2] rfl TM ?_; (with_reducible refine (saronref00_Sits.calls (l0.length : Int) a1 a2 t118 _ A4.out).mono ?_); rintro e w' ⟨rfl, ⟨nd, rfl⟩⟩; refine ⟨_, rfl, ?_⟩))
 go_loopg [7, 8] k (fun kq v7 v8 w' => ∃ (x7_1 : Bool) (x8_1 : Int), v7 = .bool x7_1 ∧ v8 = .int .i64 x8_1 ∧ Aside0 (saronref09_areTones.l0 kq l0 x7_1 x8_1 = some r) ∧ Aside0 (kq ≤ k) ∧ Drawn0 w w')
 case atStart => exact ⟨(t118), (0), TT, TT, H', ⟨Nat.le_refl _⟩, by repeat (first | exact Drawn0.refl _ | apply Drawn0.step)⟩
 case round => as_aux_lemma =>
  clear H'
  try clear p2
  try clear c4
  obtain ⟨x7_1, x8_1, rfl, rfl, HA, HK1, ⟨m1, rfl⟩⟩ := hrel
  cases gk with
  | zero => exact absurd HA.out (by simp [saronref09_areTones.l0])
  | succ k1 =>
   have H := HA.out
   clear HA
   simp only [saronref09_areTones.l0] at H
   by_cases c5 : x7_1 = true
   ·subst c5
    have H1 : (if x8_1 < (l0.length : Int) then (if 0 ≤ x8_1 then ((saronref00_Sits.f (rd l0 x8_1) 0 6).bind fun t120 => (saronref09_areTones.l0 k1 l0 t120 (wrap64 (x8_1 + 1)))) else (none)) else (some true)) = some r := by rw [if_pos rfl] at H; exact H
    clear H
    have H := H1
    clear H1
    by_cases c6 : x8_1 < (l0.length : Int)
    ·rw [if_pos c6] at H
     have c6b0 : decide (x8_1 < (l0.length : Int)) = true := decide_eq_true c6
     clear c6
     by_cases c7 : 0 ≤ x8_1
     ·rw [if_pos c7] at H
      have c7b0 : decide (0 ≤ x8_1) = true := decide_eq_true c7
      clear c7
      replace H := Option.bind_eq_some_iff.mp H
      obtain ⟨t120, A80, H⟩ := H
      replace H : (saronref09_areTones.l0 k1 l0 t120 (wrap64 (x8_1 + 1))) = some r := H
      have A8 := Aside0.mk A80
      clear A80
      have H' := Aside0.mk H
      clear H
      have p119 : 0 ≤ (x8_1 : Int) := of_decide_eq_true TA
      have q119 : x8_1 < (l0.length : Int) := of_decide_eq_true TA
      obtain ⟨ad119, e119, hx119_0⟩ := Kd.at_int HR0.out x8_1 p119 q119
      cases e119
      replace p119 := eq_true p119
      replace q119 := eq_true q119
      go_wp2_with (first | ((with_reducible refine gate_callee (f := 40) rfl ?_); refine goesL_ (some 27) rfl rfl Tryd.func40 (by kernel_rfl) rfl #[.int .i64 (rd l0 x8_1), .int .i64 0, .int .i64 6] rfl TM ?_; (with_reducible refine (saronref00_Sits.calls (rd l0 x8_1) 0 6 t120 _ A8.out).mono ?_); rintro e w' ⟨rfl, ⟨nd, rfl⟩⟩; refine ⟨_, rfl, ?_⟩))
      go_roundg k1
      case measure => have := HK1.out; omega
      case rel => exact ⟨(t120), (wrap64 (x8_1 + 1)), TT, TT, H', ⟨by have := HK1.out; omega⟩, by repeat (first | exact Drawn0.refl _ | apply Drawn0.step)⟩
     ·rw [if_neg c7] at H
      exact absurd H (by simp)
    ·rw [if_neg c6] at H
     have c6b0 : decide (x8_1 < (l0.length : Int)) = false := decide_eq_false c6
     clear c6
     obtain rfl := Option.some.inj H
     go_wp2
     go_ret
     exact ⟨by first | rfl | (simp; done) | (simp [*]; done), by repeat (first | exact Drawn0.refl _ | apply Drawn0.step)⟩
   ·replace c5 := Bool.eq_false_iff.mpr c5
    subst c5
    have H1 : (some false) = some r := by rw [if_neg (show ¬ (false = true) by decide)] at H; exact H
    clear H
    have H := H1
    clear H1
    obtain rfl := Option.some.inj H
    go_wp2
    go_ret
    exact ⟨by first | rfl | (simp; done) | (simp [*]; done), by repeat (first | exact Drawn0.refl _ | apply Drawn0.step)⟩
/-- THE ONE PURE STATEMENT of saronref09_areTones: yours. -/
def saronref09_areTones.Pure : Prop := ∀ (l0 : List Int) (a1 : Int) (a2 : Int), l0.length ≤ maxLen → l0.length * 8 ≤ 140737488351232 → (∀ x ∈ l0, (Lit.int .i64 x).wf = true) → (Lit.int .i64 a1).wf = true → (Lit.int .i64 a2).wf = true → ∃ k, saronref09_areTones.f k l0 a1 a2 = some true
theorem saronref09_areTones.walk (P : saronref09_areTones.Pure) (a0 : Option Addr) (len0 cap0 : Nat) (z0 : List Int) (a1 : Int) (a2 : Int) (w : World) (w0 : (a0 = none ∧ len0 = 0 ∧ cap0 = 0 ∧ z0 = []) ∨ ∃ x, a0 = some x ∧ len0 ≤ cap0 ∧ cap0 ≤ maxLen ∧ z0.length = cap0 ∧ (∀ i, i < z0.length → w.cell? (x.add i) = some (.int .i64 (z0.getD i 0))) ∧ ∀ n ∈ z0, (Lit.int .i64 n).wf = true) (y0 : len0 * 8 ≤ 140737488351232) (w1 : (Lit.int .i64 a1).wf = true) (w2 : (Lit.int .i64 a2).wf = true) :
  Calls Tryd.prog 62 #[.slice a0 len0 cap0, .int .i64 a1, .int .i64 a2] w fun e w' => e = .returned (.bool true) ∧ Below w.heap.size w w' := by
 obtain ⟨l0, rfl, hr0, hm0, hw0, hc0⟩ := ReadsInt.ofRowC w0
 obtain ⟨k, h⟩ := P l0 a1 a2 hm0 y0 hw0 w1 w2
 refine (saronref09_areTones.calls k _ _ l0 a1 a2 true w (Kd.C_of_reads (d := (0 : Int)) (h1 := fun _ => rfl) hr0) hc0 h).mono ?_
 rintro e w' ⟨rfl, hd⟩
 exact ⟨rfl, hd.below⟩
/-! ### saronref09_isPiece: function 55 -/
def saronref09_isPiece.f (a0_0 : Int) (l0_1 : List (S114)) (l0_2 : List (S62)) (a1 : Int) : Option (Bool) := (saronref00_Sits.f a1 0 (wrap64 ((l0_2.length : Int) - 1))).bind fun t122 => (some t122)
set_option maxHeartbeats 8000000 in
set_option maxRecDepth 100000 in
theorem saronref09_isPiece.calls (a0_0 : Int) (A0_1 : Option Addr) (c0_1 : Nat) (l0_1 : List (S114)) (A0_2 : Option Addr) (c0_2 : Nat) (l0_2 : List (S62)) (a1 : Int) (r : Bool) (w : World) (hr0_1 : Kd.C k114 w A0_1 l0_1.length l0_1) (hc0_1 : l0_1.length ≤ c0_1) (hr0_2 : Kd.C k62 w A0_2 l0_2.length l0_2) (hc0_2 : l0_2.length ≤ c0_2) (h : saronref09_isPiece.f a0_0 l0_1 l0_2 a1 = some r) :
  Calls Tryd.prog 55 #[.agg #[.int .i64 a0_0, .slice A0_1 l0_1.length c0_1, .slice A0_2 l0_2.length c0_2], .int .i64 a1] w fun e w' => e = .returned (.bool r) ∧ Below w.heap.size w w' := by
 have hu27 := Tryd.underlying27
 have HR0_1 := Aside0.mk hr0_1
 have HC0_1 := Aside0.mk hc0_1
 clear hr0_1 hc0_1
 have HR0_2 := Aside0.mk hr0_2
 have HC0_2 := Aside0.mk hc0_2
 clear hr0_2 hc0_2
 have HB := Aside0.mk (Below.refl w.heap.size w)
 have H : ((saronref00_Sits.f a1 0 (wrap64 ((l0_2.length : Int) - 1))).bind fun t122 => (some t122)) = some r := h
 clear h
 replace H := Option.bind_eq_some_iff.mp H
 obtain ⟨t122, A30, H⟩ := H
 replace H : (some t122) = some r := H
 have A3 := Aside0.mk A30
 clear A30
 obtain rfl := Option.some.inj H
 go_enter Tryd.func55, Tryd.ntmps55
 go_wp2_with (first | ((with_reducible refine gate_dst (N := 2) rfl ?_); refine box_event ?hg (N := 2) ?hd (cs := #[.int .i64 a0_0, .slice A0_1 l0_1.length c0_1, .slice A0_2 l0_2.length c0_2]) (t := 27) ?hr ?_; (case hd => rfl); (case hg => rfl); (case hr => exact TS); intro gb121 hg w4 hbox hb; have BK121 := Aside0.mk (hbox); have GW121 := Aside0.mk ((TG : w.heap.size ≤ gb121)); have GE121 := Aside0.mk ((TG : w.heap.size ≤ gb121)); replace HB := Aside0.mk (below_step TB hb); clear hb hbox hg; have hcz5_0 := cz BK121.out 0; have hcz5_1 := cz BK121.out 1; have hcz5_2 := cz BK121.out 2; have hfz5_0 := fz BK121.out 0; have hfz5_1 := fz BK121.out 1; have hfz5_2 := fz BK121.out 2) | ((with_reducible refine gate_callee (f := 40) rfl ?_); refine goesL_ (some 10) rfl rfl Tryd.func40 (by kernel_rfl) rfl #[.int .i64 a1, .int .i64 0, .int .i64 (wrap64 ((l0_2.length : Int) - 1))] rfl TM ?_; (with_reducible refine (saronref00_Sits.calls a1 0 (wrap64 ((l0_2.length : Int) - 1)) t122 _ A3.out).mono ?_); rintro e w' ⟨rfl, ⟨nd, rfl⟩⟩; refine ⟨_, rfl, ?_⟩))
 go_ret
 exact ⟨TR, TB1 GE121.out⟩
end Go.Proofs.YtfdenclnneigfaaDoor.PRaspKeys
