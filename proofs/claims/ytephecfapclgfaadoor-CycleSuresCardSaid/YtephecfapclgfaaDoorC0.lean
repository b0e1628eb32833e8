import Derived.Test.YtephecfapclgfaaDoorCS
import Derived.Test.YtephecfapclgfaaDoorM0
import Derived.Test.YtephecfapclgfaaDoorProg
import Derived.Below
import Derived.Deep.Draws
import Derived.Deep.AppendLies
import Derived.Maps.AppendAt
import Derived.OwnWalk
import Derived.Laws.BytesArg
import Derived.Laws.MakeOwn
import Derived.Laws.OwnMore
import Derived.Deep.OwnRows
import Derived.Tactics
import Derived.Lib.ConvBytes
import Derived.Laws.Slices
import Derived.WalkKit
import Derived.KernelRfl
import Derived.RowKit3
import Derived.Deep.LoopGhost
import Derived.Deep.QuietTactic
import Derived.BigQuiet
import Derived.WideLaws
import Derived.Deep.DeepCutAuto
import Derived.Deep.CutBlock
import Derived.Deep.RegionHeld3
import Derived.Laws.Rows
import Derived.Lib.AppendStr
import Derived.ArgAppend
import Derived.Laws.IdiomCopy
import Derived.OrdersHeld
import Derived.Laws.BitsLemmas
import Derived.RowKit
set_option linter.unusedVariables false
set_option linter.unusedSimpArgs false
namespace Go.Proofs.YtephecfapclgfaaDoor.PRaspKeys
open Go.RowKit Go.Proofs.YtephecfapclgfaaDoorW.PrintWords Go.Proofs.YtephecfapclgfaaDoorW.PrintLast Go.Proofs.YtephecfapclgfaaDoorW.PrintMore Go.Proofs.YtephecfapclgfaaDoor.M
attribute [local go_sem] max2_int min2_int max_two min_two max_three min_three max_four min_four   -- for this text's walks alone
theorem info38 : (Tryd.prog.info? 38).map (fun i => (i.zero, i.size, i.bytes)) = some (some (.agg #[(.int .i64 0), (.int .i64 0)]), 2, 16) := by kernel_rfl
theorem info97 : (Tryd.prog.info? 97).map (fun i => (i.zero, i.size, i.bytes)) = some (some (.agg #[(.int .i64 0), (.int .i64 0)]), 2, 16) := by kernel_rfl
/-! #### struct type 63 -/
/-! #### struct type 38 -/
/-! #### struct type 97 -/
end Go.Proofs.YtephecfapclgfaaDoor.PRaspKeys
namespace Go.Proofs.YtephecfapclgfaaDoor.PRaspKeys
open Go.RowKit Go.Proofs.YtephecfapclgfaaDoorW.PrintWords Go.Proofs.YtephecfapclgfaaDoorW.PrintLast Go.Proofs.YtephecfapclgfaaDoorW.PrintMore Go.Proofs.YtephecfapclgfaaDoor.M
attribute [local go_sem] max2_int min2_int max_two min_two max_three min_three max_four min_four   -- for this text's walks alone
/-! ### saronref05_Check: function 18 -/
mutual
def saronref05_Check.j0 : Nat → Bool → Int → List (S63) → Option (Int)
 | 0, _, _, _ => none
 | k + 1, x3, x107000, x107001 => saronref05_Check.l0 k x3 0 x107000 x107001
def saronref05_Check.l0 : Nat → Bool → Int → Int → List (S63) → Option (Int)
 | 0, _, _, _, _ => none
 | k + 1, x3, x4, x107000, x107001 => if x3 = true then (saronref05_Check.j2 k x3 x4 (decide (x4 < (x107001.length : Int))) x107000 x107001) else (saronref05_Check.j2 k x3 x4 false x107000 x107001)
def saronref05_Check.j2 : Nat → Bool → Int → Bool → Int → List (S63) → Option (Int)
 | 0, _, _, _, _, _ => none
 | k + 1, x3, x4, x29, x107000, x107001 => if x29 = true then (if 0 ≤ x4 then (if x4 < (x107001.length : Int) then ((saronref00_Sits.f ((rd_T63 x107001 x4).f0) 2 32).bind fun t110 => (if t110 = true then (saronref05_Check.j3 k ((((rd_T63 x107001 x4).f1).length : Int) == x107000) x4 x107000 x107001 ((rd_T63 x107001 x4).f0) ((rd_T63 x107001 x4).f1)) else (saronref05_Check.j3 k false x4 x107000 x107001 ((rd_T63 x107001 x4).f0) ((rd_T63 x107001 x4).f1)))) else (none)) else (none)) else (if x3 = true then (some 0) else (some 50))
def saronref05_Check.j3 : Nat → Bool → Int → Int → List (S63) → Int → List (List Int) → Option (Int)
 | 0, _, _, _, _, _, _ => none
 | k + 1, x3, x4, x107000, x107001, x110000, x110001 => saronref05_Check.l1 k x3 x4 0 x107000 x107001 x110000 x110001
def saronref05_Check.l1 : Nat → Bool → Int → Int → Int → List (S63) → Int → List (List Int) → Option (Int)
 | 0, _, _, _, _, _, _, _ => none
 | k + 1, x3, x4, x6, x107000, x107001, x110000, x110001 => if x3 = true then (saronref05_Check.j5 k x3 x4 x6 (decide (x6 < x107000)) x107000 x107001 x110000 x110001) else (saronref05_Check.j5 k x3 x4 x6 false x107000 x107001 x110000 x110001)
def saronref05_Check.j5 : Nat → Bool → Int → Int → Bool → Int → List (S63) → Int → List (List Int) → Option (Int)
 | 0, _, _, _, _, _, _, _, _ => none
 | k + 1, x3, x4, x6, x54, x107000, x107001, x110000, x110001 => if x54 = true then (if 0 ≤ x6 then (if x6 < (x110001.length : Int) then ((saronref00_Grows.f k (rd_L1 x110001 x6) x110000).bind fun t112 => (if t112 = true then (if x6 > 0 then (saronref05_Check.l1 k true x4 (wrap64 (x6 + 1)) x107000 x107001 x110000 x110001) else (if 0 < (x110001.length : Int) then ((saronref00_Equal.f k (rd_L1 x110001 0) (([wrap64 (x110000 - 1)] : List Int))).bind fun t117 => (saronref05_Check.l1 k t117 x4 (wrap64 (x6 + 1)) x107000 x107001 x110000 x110001)) else (none))) else (saronref05_Check.l1 k false x4 (wrap64 (x6 + 1)) x107000 x107001 x110000 x110001))) else (none)) else (none)) else (saronref05_Check.l0 k x3 (wrap64 (x4 + 1)) x107000 x107001)
end
def saronref05_Check.f (k : Nat) (a0_0 : Int) (l0_1 : List (S63)) : Option (Int) := (saronref00_Sits.f a0_0 1 5).bind fun t107 => (if t107 = true then (if (l0_1.length : Int) ≥ 1 then (saronref05_Check.j0 k (decide ((l0_1.length : Int) ≤ 4)) a0_0 l0_1) else (saronref05_Check.j0 k false a0_0 l0_1)) else (saronref05_Check.j0 k false a0_0 l0_1))
theorem saronref05_Check.mono_l : ∀ k, (∀ y0 y1 y2, LeO (saronref05_Check.j0 k y0 y1 y2) (saronref05_Check.j0 (k + 1) y0 y1 y2)) ∧ (∀ y0 y1 y2 y3, LeO (saronref05_Check.l0 k y0 y1 y2 y3) (saronref05_Check.l0 (k + 1) y0 y1 y2 y3)) ∧ (∀ y0 y1 y2 y3 y4, LeO (saronref05_Check.j2 k y0 y1 y2 y3 y4) (saronref05_Check.j2 (k + 1) y0 y1 y2 y3 y4)) ∧ (∀ y0 y1 y2 y3 y4 y5, LeO (saronref05_Check.j3 k y0 y1 y2 y3 y4 y5) (saronref05_Check.j3 (k + 1) y0 y1 y2 y3 y4 y5)) ∧ (∀ y0 y1 y2 y3 y4 y5 y6, LeO (saronref05_Check.l1 k y0 y1 y2 y3 y4 y5 y6) (saronref05_Check.l1 (k + 1) y0 y1 y2 y3 y4 y5 y6)) ∧ (∀ y0 y1 y2 y3 y4 y5 y6 y7, LeO (saronref05_Check.j5 k y0 y1 y2 y3 y4 y5 y6 y7) (saronref05_Check.j5 (k + 1) y0 y1 y2 y3 y4 y5 y6 y7))
 | 0 => ⟨fun _ _ _ r h => by simp [saronref05_Check.j0] at h, fun _ _ _ _ r h => by simp [saronref05_Check.l0] at h, fun _ _ _ _ _ r h => by simp [saronref05_Check.j2] at h, fun _ _ _ _ _ _ r h => by simp [saronref05_Check.j3] at h, fun _ _ _ _ _ _ _ r h => by simp [saronref05_Check.l1] at h, fun _ _ _ _ _ _ _ _ r h => by simp [saronref05_Check.j5] at h⟩
 | k + 1 => by
  obtain ⟨ih0, ih1, ih2, ih3, ih4, ih5⟩ := saronref05_Check.mono_l k
  refine ⟨?_, ?_, ?_, ?_, ?_, ?_⟩
  ·intro y0 y1 y2
   unfold saronref05_Check.j0
   repeat' first
   | (with_reducible exact ih0 _ _ _)
   | (with_reducible exact ih1 _ _ _ _)
   | (with_reducible exact ih2 _ _ _ _ _)
   | (with_reducible exact ih3 _ _ _ _ _ _)
   | (with_reducible exact ih4 _ _ _ _ _ _ _)
   | (with_reducible exact ih5 _ _ _ _ _ _ _ _)
   | (with_reducible exact saronref00_Equal.mono _ _ _)
   | (with_reducible exact saronref00_Grows.mono _ _ _)
   | (with_reducible exact LeO.refl _)
   | (with_reducible exact LeO.none _)
   | (with_reducible refine LeO.ite ?_ ?_)
   | (with_reducible refine LeO.bind ?_ (fun _ => ?_))
   | exact ih0 _ _ _
   | exact ih1 _ _ _ _
   | exact ih2 _ _ _ _ _
   | exact ih3 _ _ _ _ _ _
   | exact ih4 _ _ _ _ _ _ _
   | exact ih5 _ _ _ _ _ _ _ _
   | exact saronref00_Equal.mono _ _ _
   | exact saronref00_Grows.mono _ _ _
   | exact LeO.none _
   | refine LeO.ite ?_ ?_
   | refine LeO.bind ?_ (fun _ => ?_)
  ·intro y0 y1 y2 y3
   unfold saronref05_Check.l0
   repeat' first
   | (with_reducible exact ih0 _ _ _)
   | (with_reducible exact ih1 _ _ _ _)
   | (with_reducible exact ih2 _ _ _ _ _)
   | (with_reducible exact ih3 _ _ _ _ _ _)
   | (with_reducible exact ih4 _ _ _ _ _ _ _)
   | (with_reducible exact ih5 _ _ _ _ _ _ _ _)
   | (with_reducible exact saronref00_Equal.mono _ _ _)
   | (with_reducible exact saronref00_Grows.mono _ _ _)
   | (with_reducible exact LeO.refl _)
   | (with_reducible exact LeO.none _)
   | (with_reducible refine LeO.ite ?_ ?_)
   | (with_reducible refine LeO.bind ?_ (fun _ => ?_))
   | exact ih0 _ _ _
   | exact ih1 _ _ _ _
   | exact ih2 _ _ _ _ _
   | exact ih3 _ _ _ _ _ _
   | exact ih4 _ _ _ _ _ _ _
   | exact ih5 _ _ _ _ _ _ _ _
   | exact saronref00_Equal.mono _ _ _
   | exact saronref00_Grows.mono _ _ _
   | exact LeO.none _
   | refine LeO.ite ?_ ?_
   | refine LeO.bind ?_ (fun _ => ?_)
  ·intro y0 y1 y2 y3 y4
   unfold saronref05_Check.j2
   repeat' first
   | (with_reducible exact ih0 _ _ _)
   | (with_reducible exact ih1 _ _ _ _)
   | (with_reducible exact ih2 _ _ _ _ _)
   | (with_reducible exact ih3 _ _ _ _ _ _)
   | (with_reducible exact ih4 _ _ _ _ _ _ _)
   | (with_reducible exact ih5 _ _ _ _ _ _ _ _)
   | (with_reducible exact saronref00_Equal.mono _ _ _)
   | (with_reducible exact saronref00_Grows.mono _ _ _)
   | (with_reducible exact LeO.refl _)
   | (with_reducible exact LeO.none _)
   | (with_reducible refine LeO.ite ?_ ?_)
   | (with_reducible refine LeO.bind ?_ (fun _ => ?_))
   | exact ih0 _ _ _
   | exact ih1 _ _ _ _
   | exact ih2 _ _ _ _ _
   | exact ih3 _ _ _ _ _ _
   | exact ih4 _ _ _ _ _ _ _
   | exact ih5 _ _ _ _ _ _ _ _
   | exact saronref00_Equal.mono _ _ _
   | exact saronref00_Grows.mono _ _ _
   | exact LeO.none _
   | refine LeO.ite ?_ ?_
   | refine LeO.bind ?_ (fun _ => ?_)
  ·intro y0 y1 y2 y3 y4 y5
   unfold saronref05_Check.j3
   repeat' first
   | (with_reducible exact ih0 _ _ _)
   | (with_reducible exact ih1 _ _ _ _)
   | (with_reducible exact ih2 _ _ _ _ _)
   | (with_reducible exact ih3 _ _ _ _ _ _)
   | (with_reducible exact ih4 _ _ _ _ _ _ _)
   | (with_reducible exact ih5 _ _ _ _ _ _ _ _)
   | (with_reducible exact saronref00_Equal.mono _ _ _)
   | (with_reducible exact saronref00_Grows.mono _ _ _)
   | (with_reducible exact LeO.refl _)
   | (with_reducible exact LeO.none _)
   | (with_reducible refine LeO.ite ?_ ?_)
   | (with_reducible refine LeO.bind ?_ (fun _ => ?_))
   | exact ih0 _ _ _
   | exact ih1 _ _ _ _
   | exact ih2 _ _ _ _ _
   | exact ih3 _ _ _ _ _ _
   | exact ih4 _ _ _ _ _ _ _
   | exact ih5 _ _ _ _ _ _ _ _
   | exact saronref00_Equal.mono _ _ _
   | exact saronref00_Grows.mono _ _ _
   | exact LeO.none _
   | refine LeO.ite ?_ ?_
   | refine LeO.bind ?_ (fun _ => ?_)
  ·intro y0 y1 y2 y3 y4 y5 y6
   unfold saronref05_Check.l1
   repeat' first
   | (with_reducible exact ih0 _ _ _)
   | (with_reducible exact ih1 _ _ _ _)
   | (with_reducible exact ih2 _ _ _ _ _)
   | (with_reducible exact ih3 _ _ _ _ _ _)
   | (with_reducible exact ih4 _ _ _ _ _ _ _)
   | (with_reducible exact ih5 _ _ _ _ _ _ _ _)
   | (with_reducible exact saronref00_Equal.mono _ _ _)
   | (with_reducible exact saronref00_Grows.mono _ _ _)
   | (with_reducible exact LeO.refl _)
   | (with_reducible exact LeO.none _)
   | (with_reducible refine LeO.ite ?_ ?_)
   | (with_reducible refine LeO.bind ?_ (fun _ => ?_))
   | exact ih0 _ _ _
   | exact ih1 _ _ _ _
   | exact ih2 _ _ _ _ _
   | exact ih3 _ _ _ _ _ _
   | exact ih4 _ _ _ _ _ _ _
   | exact ih5 _ _ _ _ _ _ _ _
   | exact saronref00_Equal.mono _ _ _
   | exact saronref00_Grows.mono _ _ _
   | exact LeO.none _
   | refine LeO.ite ?_ ?_
   | refine LeO.bind ?_ (fun _ => ?_)
  ·intro y0 y1 y2 y3 y4 y5 y6 y7
   unfold saronref05_Check.j5
   repeat' first
   | (with_reducible exact ih0 _ _ _)
   | (with_reducible exact ih1 _ _ _ _)
   | (with_reducible exact ih2 _ _ _ _ _)
   | (with_reducible exact ih3 _ _ _ _ _ _)
   | (with_reducible exact ih4 _ _ _ _ _ _ _)
   | (with_reducible exact ih5 _ _ _ _ _ _ _ _)
   | (with_reducible exact saronref00_Equal.mono _ _ _)
   | (with_reducible exact saronref00_Grows.mono _ _ _)
   | (with_reducible exact LeO.refl _)
   | (with_reducible exact LeO.none _)
   | (with_reducible refine LeO.ite ?_ ?_)
   | (with_reducible refine LeO.bind ?_ (fun _ => ?_))
   | exact ih0 _ _ _
   | exact ih1 _ _ _ _
   | exact ih2 _ _ _ _ _
   | exact ih3 _ _ _ _ _ _
   | exact ih4 _ _ _ _ _ _ _
   | exact ih5 _ _ _ _ _ _ _ _
   | exact saronref00_Equal.mono _ _ _
   | exact saronref00_Grows.mono _ _ _
   | exact LeO.none _
   | refine LeO.ite ?_ ?_
   | refine LeO.bind ?_ (fun _ => ?_)
theorem saronref05_Check.mono : ∀ a0 a1 k, LeO (saronref05_Check.f k a0 a1) (saronref05_Check.f (k + 1) a0 a1) := by
 intro a0 a1 k
 obtain ⟨ih0, ih1, ih2, ih3, ih4, ih5⟩ := saronref05_Check.mono_l k
 unfold saronref05_Check.f
 repeat' first
   | (with_reducible exact ih0 _ _ _)
   | (with_reducible exact ih1 _ _ _ _)
   | (with_reducible exact ih2 _ _ _ _ _)
   | (with_reducible exact ih3 _ _ _ _ _ _)
   | (with_reducible exact ih4 _ _ _ _ _ _ _)
   | (with_reducible exact ih5 _ _ _ _ _ _ _ _)
   | (with_reducible exact saronref00_Equal.mono _ _ _)
   | (with_reducible exact saronref00_Grows.mono _ _ _)
   | (with_reducible exact LeO.refl _)
   | (with_reducible exact LeO.none _)
   | (with_reducible refine LeO.ite ?_ ?_)
   | (with_reducible refine LeO.bind ?_ (fun _ => ?_))
   | exact ih0 _ _ _
   | exact ih1 _ _ _ _
   | exact ih2 _ _ _ _ _
   | exact ih3 _ _ _ _ _ _
   | exact ih4 _ _ _ _ _ _ _
   | exact ih5 _ _ _ _ _ _ _ _
   | exact saronref00_Equal.mono _ _ _
   | exact saronref00_Grows.mono _ _ _
   | exact LeO.none _
   | refine LeO.ite ?_ ?_
   | refine LeO.bind ?_ (fun _ => ?_)
def saronref05_Check.T10 : Bool × List (List Nat × List Nat) := (true, [([], []), ([0], [0]), ([], []), ([1, 2], [1, 2]), ([3], [3]), ([], []), ([5], [5]), ([4, 6], [4, 6]), ([7, 7], [7]), ([8], [8]), ([9, 8], [8, 9]), ([10, 8, 8], [8, 10]), ([11], [11]), ([12, 11], [11, 12]), ([13, 11], [11, 13]), ([14, 11], [11, 14]), ([11], [11]), ([16, 11], [11, 16]), ([17, 11], [11, 17]), ([18, 11], [11, 18]), ([15, 19, 11, 11], [11, 15, 19]), ([11, 20, 8], [8, 11, 20]), ([8, 21], [8, 21]), ([22, 20, 0, 1, 2, 3, 4, 5, 6, 7, 8, 9, 10, 11, 12, 13, 14, 15, 16, 17, 18, 19, 20, 21, 22], [22])])
def saronref05_Check.B10 : List Nat := [0, 1, 0, 7, 15, 0, 32, 127, 255, 511, 1023, 2047, 4095, 8191, 16383, 32767, 4095, 69631, 200703, 462847, 1048575, 2097151, 4194303, 8388607]
theorem saronref05_Check.tab10 : rtab .any (opsOf Tryd.f18 10) = saronref05_Check.T10 := by kernel_rfl
theorem saronref05_Check.bits10 : waitsOk saronref05_Check.T10.2 saronref05_Check.B10 = true := by kernel_rfl
set_option maxHeartbeats 8000000 in
set_option maxRecDepth 100000 in
theorem saronref05_Check.calls (k : Nat) (a0_0 : Int) (A0_1 : Option Addr) (c0_1 : Nat) (l0_1 : List (S63)) (r : Int) (w : World) (hr0_1 : Kd.C k63 w A0_1 l0_1.length l0_1) (hc0_1 : l0_1.length ≤ c0_1) (h : saronref05_Check.f k a0_0 l0_1 = some r) :
  Calls Tryd.prog 18 #[.agg #[.int .i64 a0_0, .slice A0_1 l0_1.length c0_1]] w fun e w' => e = .returned (.int .i64 r) ∧ Below w.heap.size w w' := by
 have hu24 := Tryd.underlying24
 have hu63 := Tryd.underlying63
 have HR0_1 := Aside0.mk hr0_1
 have HC0_1 := Aside0.mk hc0_1
 clear hr0_1 hc0_1
 have HB := Aside0.mk (Below.refl w.heap.size w)
 have H : ((saronref00_Sits.f a0_0 1 5).bind fun t107 => (if t107 = true then (if (l0_1.length : Int) ≥ 1 then (saronref05_Check.j0 k (decide ((l0_1.length : Int) ≤ 4)) a0_0 l0_1) else (saronref05_Check.j0 k false a0_0 l0_1)) else (saronref05_Check.j0 k false a0_0 l0_1))) = some r := h
 clear h
 have HC2 := Aside0.mk H
 clear H
 go_enter Tryd.func18, Tryd.ntmps18
 go_upto_region 1 with (first | ((with_reducible refine gate_dst (N := 1) rfl ?_); (try (refine gate_guard (by rfl) ?_; dsimp only)); refine box_event ?hg (N := 1) ?hd (cs := #[.int .i64 a0_0, .slice A0_1 l0_1.length c0_1]) (t := 24) ?hr ?_; (case hd => rfl); (case hg => rfl); (case hr => exact TS); intro gb106 hg w3 hbox hb; have BK106 := Aside0.mk (hbox); have GW106 := Aside0.mk ((TG : w.heap.size ≤ gb106)); have GE106 := Aside0.mk ((TG : w.heap.size ≤ gb106)); replace HB := Aside0.mk (below_step TB hb); clear hb hbox hg))
 (try simp only [Act.put, lA, lZ, lS])
 go_cut [3] (fun v3 wc => ∃ (kq : Nat) (x3_1 : Bool), v3 = .bool x3_1 ∧ Aside0 (saronref05_Check.j0 kq x3_1 a0_0 l0_1 = some r) ∧ Aside0 (kq ≤ k) ∧ Aside0 (wc.heap[gb106]? = some (.cells #[.int .i64 a0_0, (.slice A0_1 l0_1.length c0_1)] 24 (0, 0))) ∧ Aside0 (Below w.heap.size w wc))
 case first => as_aux_lemma =>
  have H := HC2.out
  clear HC2
  replace H := Option.bind_eq_some_iff.mp H
  obtain ⟨t107, A40, H⟩ := H
  replace H : (if t107 = true then (if (l0_1.length : Int) ≥ 1 then (saronref05_Check.j0 k (decide ((l0_1.length : Int) ≤ 4)) a0_0 l0_1) else (saronref05_Check.j0 k false a0_0 l0_1)) else (saronref05_Check.j0 k false a0_0 l0_1)) = some r := H
  have A4 := Aside0.mk A40
  clear A40
  by_cases c5 : t107 = true
  ·subst c5
   have H1 : (if (l0_1.length : Int) ≥ 1 then (saronref05_Check.j0 k (decide ((l0_1.length : Int) ≤ 4)) a0_0 l0_1) else (saronref05_Check.j0 k false a0_0 l0_1)) = some r := by rw [if_pos rfl] at H; exact H
   clear H
   have H := H1
   clear H1
   by_cases c6 : (l0_1.length : Int) ≥ 1
   ·rw [if_pos c6] at H
    have c6b0 : decide (1 ≤ (l0_1.length : Int)) = true := decide_eq_true c6
    have c6b1 : decide (1 ≤ l0_1.length) = true := decide_eq_true (by omega)
    clear c6
    (first | rw [c6b0] | (simp only [i64_w, i32_w]; rw [c6b0]) | skip)
    have H' := Aside0.mk H
    clear H
    have hcz7_0 := cz BK106.out 0
    have hcz7_1 := cz BK106.out 1
    have hfz7_0 := fz BK106.out 0
    have hfz7_1 := fz BK106.out 1
    go_wp2_with (first | ((with_reducible refine gate_callee (f := 43) rfl ?_); refine goesL_ (some 9) rfl rfl Tryd.func43 (by kernel_rfl) rfl #[.int .i64 a0_0, .int .i64 1, .int .i64 5] rfl TM ?_; (with_reducible refine (saronref00_Sits.calls a0_0 1 5 true _ A4.out).mono ?_); rintro e w' ⟨rfl, ⟨nd, rfl⟩⟩; refine ⟨_, rfl, ?_⟩))
    go_meet
    case rel => exact ⟨_, (decide ((l0_1.length : Int) ≤ 4)), TT, H', ⟨by first | omega | exact Nat.le_refl _⟩, ⟨TK BK106.out⟩, ⟨TB1 GE106.out⟩⟩
   ·rw [if_neg c6] at H
    have c6b0 : decide (1 ≤ (l0_1.length : Int)) = false := decide_eq_false c6
    have c6b1 : decide (1 ≤ l0_1.length) = false := decide_eq_false (by omega)
    clear c6
    (first | rw [c6b0] | (simp only [i64_w, i32_w]; rw [c6b0]) | skip)
    have H' := Aside0.mk H
    clear H
    have hcz8_0 := cz BK106.out 0
    have hcz8_1 := cz BK106.out 1
    have hfz8_0 := fz BK106.out 0
    have hfz8_1 := fz BK106.out 1
    go_wp2_with (first | ((with_reducible refine gate_callee (f := 43) rfl ?_); refine goesL_ (some 9) rfl rfl Tryd.func43 (by kernel_rfl) rfl #[.int .i64 a0_0, .int .i64 1, .int .i64 5] rfl TM ?_; (with_reducible refine (saronref00_Sits.calls a0_0 1 5 true _ A4.out).mono ?_); rintro e w' ⟨rfl, ⟨nd, rfl⟩⟩; refine ⟨_, rfl, ?_⟩))
    go_meet
    case rel => exact ⟨_, (false), TT, H', ⟨by first | omega | exact Nat.le_refl _⟩, ⟨TK BK106.out⟩, ⟨TB1 GE106.out⟩⟩
  ·replace c5 := Bool.eq_false_iff.mpr c5
   subst c5
   have H1 : (saronref05_Check.j0 k false a0_0 l0_1) = some r := by rw [if_neg (show ¬ (false = true) by decide)] at H; exact H
   clear H
   have H := H1
   clear H1
   have H' := Aside0.mk H
   clear H
   have hcz9_0 := cz BK106.out 0
   have hcz9_1 := cz BK106.out 1
   have hfz9_0 := fz BK106.out 0
   have hfz9_1 := fz BK106.out 1
   go_wp2_with (first | ((with_reducible refine gate_callee (f := 43) rfl ?_); refine goesL_ (some 9) rfl rfl Tryd.func43 (by kernel_rfl) rfl #[.int .i64 a0_0, .int .i64 1, .int .i64 5] rfl TM ?_; (with_reducible refine (saronref00_Sits.calls a0_0 1 5 false _ A4.out).mono ?_); rintro e w' ⟨rfl, ⟨nd, rfl⟩⟩; refine ⟨_, rfl, ?_⟩))
   go_meet
   case rel => exact ⟨_, (false), TT, H', ⟨by first | omega | exact Nat.le_refl _⟩, ⟨TK BK106.out⟩, ⟨TB1 GE106.out⟩⟩
 case rest => as_aux_lemma =>
  clear HC2
  try clear c1
  try clear p2
  try clear c4
  try clear c5
  try clear c6
  try clear c6b0
  try clear c6b1
  try clear hcz7_0 hcz7_1
  try clear hcz8_0 hcz8_1
  try clear hcz9_0 hcz9_1
  try clear hfz7_0 hfz7_1
  try clear hfz8_0 hfz8_1
  try clear hfz9_0 hfz9_1
  obtain ⟨kq, x3_1, rfl, HA, HJ1, BK106, HB⟩ := hcut
  cases kq with
  | zero => exact absurd HA.out (by simp [saronref05_Check.j0])
  | succ kj1 =>
   have H := HA.out
   clear HA
   simp only [saronref05_Check.j0] at H
   have H' := Aside0.mk H
   clear H
   go_wp2
   go_loopg [3, 4] kj1 (fun kq v3 v4 w' => ∃ (x3_2 : Bool) (x4_2 : Int), v3 = .bool x3_2 ∧ v4 = .int .i64 x4_2 ∧ Aside0 (saronref05_Check.l0 kq x3_2 x4_2 a0_0 l0_1 = some r) ∧ Aside0 (kq ≤ kj1) ∧ Aside0 (w'.heap[gb106]? = some (.cells #[.int .i64 a0_0, (.slice A0_1 l0_1.length c0_1)] 24 (0, 0))) ∧ Aside0 (Below w.heap.size w w'))
   case atStart => exact ⟨(x3_1), (0), TT, TT, H', ⟨Nat.le_refl _⟩, ⟨TK BK106.out⟩, ⟨TB1 GE106.out⟩⟩
   case round => as_aux_lemma =>
    clear H'
    try clear c1
    try clear p2
    try clear c4
    try clear c5
    try clear c6
    try clear c6b0
    try clear c6b1
    try clear hcz7_0 hcz7_1
    try clear hcz8_0 hcz8_1
    try clear hcz9_0 hcz9_1
    try clear hfz7_0 hfz7_1
    try clear hfz8_0 hfz8_1
    try clear hfz9_0 hfz9_1
    try clear p2
    obtain ⟨x3_2, x4_2, rfl, rfl, HA, HK2, BK106, HB⟩ := hrel
    cases gk with
    | zero => exact absurd HA.out (by simp [saronref05_Check.l0])
    | succ k2 =>
     have H := HA.out
     clear HA
     simp only [saronref05_Check.l0] at H
     have HC10 := Aside0.mk H
     clear H
     go_upto_region 3 with (fail)
     go_cut [29] (fun v29 wc => ∃ (kq : Nat) (x29_9 : Bool), v29 = .bool x29_9 ∧ Aside0 (saronref05_Check.j2 kq x3_2 x4_2 x29_9 a0_0 l0_1 = some r) ∧ Aside0 (kq ≤ k2) ∧ Aside0 (wc.heap[gb106]? = some (.cells #[.int .i64 a0_0, (.slice A0_1 l0_1.length c0_1)] 24 (0, 0))) ∧ Aside0 (Below w.heap.size w wc))
     case first => as_aux_lemma =>
      have H := HC10.out
      clear HC10
      by_cases c11 : x3_2 = true
      ·subst c11
       have H1 : (saronref05_Check.j2 k2 true x4_2 (decide (x4_2 < (l0_1.length : Int))) a0_0 l0_1) = some r := by rw [if_pos rfl] at H; exact H
       clear H
       have H := H1
       clear H1
       have H' := Aside0.mk H
       clear H
       have hcz12_0 := cz BK106.out 0
       have hcz12_1 := cz BK106.out 1
       have hfz12_0 := fz BK106.out 0
       have hfz12_1 := fz BK106.out 1
       go_wp2
       go_meet
       case rel => exact ⟨_, (decide (x4_2 < (l0_1.length : Int))), TT, H', ⟨by have := HJ1.out; have := HK2.out; first | omega | exact Nat.le_refl _⟩, ⟨TK BK106.out⟩, ⟨TB1 GE106.out⟩⟩
      ·replace c11 := Bool.eq_false_iff.mpr c11
       subst c11
       have H1 : (saronref05_Check.j2 k2 false x4_2 false a0_0 l0_1) = some r := by rw [if_neg (show ¬ (false = true) by decide)] at H; exact H
       clear H
       have H := H1
       clear H1
       have H' := Aside0.mk H
       clear H
       go_wp2
       go_meet
       case rel => exact ⟨_, (false), TT, H', ⟨by have := HJ1.out; have := HK2.out; first | omega | exact Nat.le_refl _⟩, ⟨TK BK106.out⟩, ⟨TB1 GE106.out⟩⟩
     case rest => as_aux_lemma =>
      clear HC10
      try clear c1
      try clear p2
      try clear c4
      try clear c5
      try clear c6
      try clear c6b0
      try clear c6b1
      try clear c11
      try clear hcz12_0 hcz12_1
      try clear hcz7_0 hcz7_1
      try clear hcz8_0 hcz8_1
      try clear hcz9_0 hcz9_1
      try clear hfz12_0 hfz12_1
      try clear hfz7_0 hfz7_1
      try clear hfz8_0 hfz8_1
      try clear hfz9_0 hfz9_1
      try clear p2
      obtain ⟨kq, x29_9, rfl, HA, HJ9, BK106, HB⟩ := hcut
      cases kq with
      | zero => exact absurd HA.out (by simp [saronref05_Check.j2])
      | succ kj9 =>
       have H := HA.out
       clear HA
       simp only [saronref05_Check.j2] at H
       by_cases c13 : x29_9 = true
       ·subst c13
        have H1 : (if 0 ≤ x4_2 then (if x4_2 < (l0_1.length : Int) then ((saronref00_Sits.f ((rd_T63 l0_1 x4_2).f0) 2 32).bind fun t110 => (if t110 = true then (saronref05_Check.j3 kj9 ((((rd_T63 l0_1 x4_2).f1).length : Int) == a0_0) x4_2 a0_0 l0_1 ((rd_T63 l0_1 x4_2).f0) ((rd_T63 l0_1 x4_2).f1)) else (saronref05_Check.j3 kj9 false x4_2 a0_0 l0_1 ((rd_T63 l0_1 x4_2).f0) ((rd_T63 l0_1 x4_2).f1)))) else (none)) else (none)) = some r := by rw [if_pos rfl] at H; exact H
        clear H
        have H := H1
        clear H1
        by_cases c14 : 0 ≤ x4_2
        ·rw [if_pos c14] at H
         have c14b0 : decide (0 ≤ x4_2) = true := decide_eq_true c14
         clear c14
         by_cases c15 : x4_2 < (l0_1.length : Int)
         ·rw [if_pos c15] at H
          have c15b0 : decide (x4_2 < (l0_1.length : Int)) = true := decide_eq_true c15
          clear c15
          have HC16 := Aside0.mk H
          clear H
          have hcz17_0 := cz BK106.out 0
          have hcz17_1 := cz BK106.out 1
          have hfz17_0 := fz BK106.out 0
          have hfz17_1 := fz BK106.out 1
          have p108 : 0 ≤ (x4_2 : Int) := of_decide_eq_true TA
          have q108 : x4_2 < (l0_1.length : Int) := of_decide_eq_true TA
          obtain ⟨ad108, A108_1, c108_1, e108, hx108_0, hx108_1, hl108_1, hi108_1⟩ := at_T63 HR0_1.out x4_2 p108 q108
          cases e108
          replace hx108_0 := hx HB.out hx108_0
          replace hx108_1 := hx HB.out hx108_1
          have HR108_1 := Aside0.mk hi108_1
          have HC108_1 := Aside0.mk hl108_1
          clear hi108_1 hl108_1
          replace p108 := eq_true p108
          replace q108 := eq_true q108
          go_upto_region 6 with (first | ((with_reducible refine gate_dst (N := 5) rfl ?_); (try (refine gate_guard (by rfl) ?_; dsimp only)); refine box_event ?hg (N := 5) ?hd (cs := #[.int .i64 0, .slice none 0 0]) (t := 63) ?hr ?_; (case hd => rfl); (case hg => rfl); (case hr => exact TS); intro gb109 hg w18 hbox hb; have BK109 := Aside0.mk (hbox); have GW109 := Aside0.mk ((TG1 GE106.out : w.heap.size ≤ gb109)); have GE109 := Aside0.mk ((TG1 GE106.out : w.heap.size ≤ gb109)); have NB106_109 := Aside0.mk ((by rw [hg]; exact Nat.ne_of_lt (blk_lt (g := gb106) (o := .cells #[.int .i64 a0_0, .slice (some ad108) l0_1.length c0_1] 24 (0, 0)) (TK BK106.out)) : gb106 ≠ gb109)); have NB109_106 := Aside0.mk ((by rw [hg]; exact Nat.ne_of_gt (blk_lt (g := gb106) (o := .cells #[.int .i64 a0_0, .slice (some ad108) l0_1.length c0_1] 24 (0, 0)) (TK BK106.out)) : gb109 ≠ gb106)); replace BK106 := Aside0.mk (TKb hb BK106.out); replace HB := Aside0.mk (below_step (TB1 GE106.out) hb); clear hb hbox hg; have hnb19 := NB109_106.out; have hnc19 := NB106_109.out; have hcz20_0 := cz BK109.out 0; have hcz20_1 := cz BK109.out 1; have hfz20_0 := fz BK109.out 0; have hfz20_1 := fz BK109.out 1))
          (try simp only [Act.put, lA, lZ, lS])
          go_cut [3] (fun v3 wc => ∃ (kq : Nat) (x3_15 : Bool), v3 = .bool x3_15 ∧ Aside0 (saronref05_Check.j3 kq x3_15 x4_2 a0_0 l0_1 ((rd_T63 l0_1 x4_2).f0) ((rd_T63 l0_1 x4_2).f1) = some r) ∧ Aside0 (kq ≤ kj9) ∧ Aside0 (wc.heap[gb106]? = some (.cells #[.int .i64 a0_0, (.slice (some ad108) l0_1.length c0_1)] 24 (0, 0))) ∧ Aside0 (wc.heap[gb109]? = some (.cells #[.int .i64 ((rd_T63 l0_1 x4_2).f0), (.slice A108_1 ((rd_T63 l0_1 x4_2).f1).length c108_1)] 63 (0, 0))) ∧ Aside0 (Below w.heap.size w wc))
          case first => as_aux_lemma =>
           have H := HC16.out
           clear HC16
           replace H := Option.bind_eq_some_iff.mp H
           obtain ⟨t110, A210, H⟩ := H
           replace H : (if t110 = true then (saronref05_Check.j3 kj9 ((((rd_T63 l0_1 x4_2).f1).length : Int) == a0_0) x4_2 a0_0 l0_1 ((rd_T63 l0_1 x4_2).f0) ((rd_T63 l0_1 x4_2).f1)) else (saronref05_Check.j3 kj9 false x4_2 a0_0 l0_1 ((rd_T63 l0_1 x4_2).f0) ((rd_T63 l0_1 x4_2).f1))) = some r := H
           have A21 := Aside0.mk A210
           clear A210
           by_cases c22 : t110 = true
           ·subst c22
            have H1 : (saronref05_Check.j3 kj9 ((((rd_T63 l0_1 x4_2).f1).length : Int) == a0_0) x4_2 a0_0 l0_1 ((rd_T63 l0_1 x4_2).f0) ((rd_T63 l0_1 x4_2).f1)) = some r := by rw [if_pos rfl] at H; exact H
            clear H
            have H := H1
            clear H1
            have H' := Aside0.mk H
            clear H
            have hnb23 := NB109_106.out
            have hnc23 := NB106_109.out
            have hcz24_0 := cz BK109.out 0
            have hcz24_1 := cz BK109.out 1
            have hfz24_0 := fz BK109.out 0
            have hfz24_1 := fz BK109.out 1
            go_wp2_with (first | ((with_reducible refine gate_callee (f := 43) rfl ?_); refine goesL_ (some 39) rfl rfl Tryd.func43 (by kernel_rfl) rfl #[.int .i64 ((rd_T63 l0_1 x4_2).f0), .int .i64 2, .int .i64 32] rfl TM ?_; (with_reducible refine (saronref00_Sits.calls ((rd_T63 l0_1 x4_2).f0) 2 32 true _ A21.out).mono ?_); rintro e w' ⟨rfl, ⟨nd, rfl⟩⟩; refine ⟨_, rfl, ?_⟩; have hcz25_0 := cz BK106.out 0; have hcz25_1 := cz BK106.out 1; have hfz25_0 := fz BK106.out 0; have hfz25_1 := fz BK106.out 1))
            go_meet
            case rel => exact ⟨_, (((((rd_T63 l0_1 x4_2).f1).length : Int) == a0_0)), TT, H', ⟨by have := HJ1.out; have := HK2.out; have := HJ9.out; first | omega | exact Nat.le_refl _⟩, ⟨by (with_reducible repeat (first | refine blk_drewN ?_ _ | refine blk_drew ?_ | refine blk_alloc ?_ _)); refine blk_far ?_ NB106_109.out _; (with_reducible repeat (first | refine blk_drewN ?_ _ | refine blk_drew ?_ | refine blk_alloc ?_ _)); refine blk_far ?_ NB106_109.out _; (with_reducible repeat (first | refine blk_drewN ?_ _ | refine blk_drew ?_ | refine blk_alloc ?_ _)); exact BK106.out⟩, ⟨by (with_reducible repeat (first | refine blk_drewN ?_ _ | refine blk_drew ?_ | refine blk_alloc ?_ _)); refine blk_put (cs := #[.int .i64 ((rd_T63 l0_1 x4_2).f0), .slice none 0 0]) ?_ 1 _ rfl; (with_reducible repeat (first | refine blk_drewN ?_ _ | refine blk_drew ?_ | refine blk_alloc ?_ _)); refine blk_put (cs := #[.int .i64 0, .slice none 0 0]) ?_ 0 _ rfl; (with_reducible repeat (first | refine blk_drewN ?_ _ | refine blk_drew ?_ | refine blk_alloc ?_ _)); exact BK109.out⟩, ⟨TB2 GE106.out GE109.out⟩⟩
           ·replace c22 := Bool.eq_false_iff.mpr c22
            subst c22
            have H1 : (saronref05_Check.j3 kj9 false x4_2 a0_0 l0_1 ((rd_T63 l0_1 x4_2).f0) ((rd_T63 l0_1 x4_2).f1)) = some r := by rw [if_neg (show ¬ (false = true) by decide)] at H; exact H
            clear H
            have H := H1
            clear H1
            have H' := Aside0.mk H
            clear H
            have hnb26 := NB109_106.out
            have hnc26 := NB106_109.out
            have hcz27_0 := cz BK109.out 0
            have hcz27_1 := cz BK109.out 1
            have hfz27_0 := fz BK109.out 0
            have hfz27_1 := fz BK109.out 1
            go_wp2_with (first | ((with_reducible refine gate_callee (f := 43) rfl ?_); refine goesL_ (some 39) rfl rfl Tryd.func43 (by kernel_rfl) rfl #[.int .i64 ((rd_T63 l0_1 x4_2).f0), .int .i64 2, .int .i64 32] rfl TM ?_; (with_reducible refine (saronref00_Sits.calls ((rd_T63 l0_1 x4_2).f0) 2 32 false _ A21.out).mono ?_); rintro e w' ⟨rfl, ⟨nd, rfl⟩⟩; refine ⟨_, rfl, ?_⟩))
            go_meet
            case rel => exact ⟨_, (false), TT, H', ⟨by have := HJ1.out; have := HK2.out; have := HJ9.out; first | omega | exact Nat.le_refl _⟩, ⟨by (with_reducible repeat (first | refine blk_drewN ?_ _ | refine blk_drew ?_ | refine blk_alloc ?_ _)); refine blk_far ?_ NB106_109.out _; (with_reducible repeat (first | refine blk_drewN ?_ _ | refine blk_drew ?_ | refine blk_alloc ?_ _)); refine blk_far ?_ NB106_109.out _; (with_reducible repeat (first | refine blk_drewN ?_ _ | refine blk_drew ?_ | refine blk_alloc ?_ _)); exact BK106.out⟩, ⟨by (with_reducible repeat (first | refine blk_drewN ?_ _ | refine blk_drew ?_ | refine blk_alloc ?_ _)); refine blk_put (cs := #[.int .i64 ((rd_T63 l0_1 x4_2).f0), .slice none 0 0]) ?_ 1 _ rfl; (with_reducible repeat (first | refine blk_drewN ?_ _ | refine blk_drew ?_ | refine blk_alloc ?_ _)); refine blk_put (cs := #[.int .i64 0, .slice none 0 0]) ?_ 0 _ rfl; (with_reducible repeat (first | refine blk_drewN ?_ _ | refine blk_drew ?_ | refine blk_alloc ?_ _)); exact BK109.out⟩, ⟨TB2 GE106.out GE109.out⟩⟩
          case rest => as_aux_lemma =>
           clear HC16
           try clear c1
           try clear p1
           try clear q1
           try clear hx1
           try clear c2
           try clear p2
           try clear c4
           try clear c5
           try clear c6
           try clear c6b0
           try clear c6b1
           try clear c10
           try clear p10
           try clear q10
           try clear hx10
           try clear c11
           try clear c13
           try clear c14
           try clear c14b0
           try clear c15
           try clear c15b0
           try clear c18
           try clear c19
           try clear c22
           try clear c23
           try clear c26
           try clear hcz12_0 hcz12_1
           try clear hcz17_0 hcz17_1
           try clear hcz20_0 hcz20_1
           try clear hcz24_0 hcz24_1
           try clear hcz25_0 hcz25_1
           try clear hcz27_0 hcz27_1
           try clear hcz7_0 hcz7_1
           try clear hcz8_0 hcz8_1
           try clear hcz9_0 hcz9_1
           try clear hfz12_0 hfz12_1
           try clear hfz17_0 hfz17_1
           try clear hfz20_0 hfz20_1
           try clear hfz24_0 hfz24_1
           try clear hfz25_0 hfz25_1
           try clear hfz27_0 hfz27_1
           try clear hfz7_0 hfz7_1
           try clear hfz8_0 hfz8_1
           try clear hfz9_0 hfz9_1
           try clear hx108_0
           try clear hx108_1
           try clear p108
           try clear p2
           try clear q108
           obtain ⟨kq, x3_15, rfl, HA, HJ15, BK106, BK109, HB⟩ := hcut
           cases kq with
           | zero => exact absurd HA.out (by simp [saronref05_Check.j3])
           | succ kj15 =>
            have H := HA.out
            clear HA
            simp only [saronref05_Check.j3] at H
            have H' := Aside0.mk H
            clear H
            go_wp2
            go_loopg [3, 6] kj15 (fun kq v3 v6 w' => ∃ (x3_5 : Bool) (x6_5 : Int), v3 = .bool x3_5 ∧ v6 = .int .i64 x6_5 ∧ Aside0 (saronref05_Check.l1 kq x3_5 x4_2 x6_5 a0_0 l0_1 ((rd_T63 l0_1 x4_2).f0) ((rd_T63 l0_1 x4_2).f1) = some r) ∧ Aside0 (kq ≤ kj15) ∧ Aside0 (w'.heap[gb106]? = some (.cells #[.int .i64 a0_0, (.slice (some ad108) l0_1.length c0_1)] 24 (0, 0))) ∧ Aside0 (w'.heap[gb109]? = some (.cells #[.int .i64 ((rd_T63 l0_1 x4_2).f0), (.slice A108_1 ((rd_T63 l0_1 x4_2).f1).length c108_1)] 63 (0, 0))) ∧ Aside0 (Below w.heap.size w w'))
            case atStart => exact ⟨(x3_15), (0), TT, TT, H', ⟨Nat.le_refl _⟩, ⟨TK BK106.out⟩, ⟨TK BK109.out⟩, ⟨TB2 GE106.out GE109.out⟩⟩
            case round => as_aux_lemma =>
             clear H'
             try clear c1
             try clear p1
             try clear q1
             try clear hx1
             try clear c2
             try clear p2
             try clear c4
             try clear c5
             try clear c6
             try clear c6b0
             try clear c6b1
             try clear c10
             try clear p10
             try clear q10
             try clear hx10
             try clear c11
             try clear c13
             try clear c14
             try clear c14b0
             try clear c15
             try clear c15b0
             try clear c18
             try clear c19
             try clear c22
             try clear c23
             try clear c26
             try clear hcz12_0 hcz12_1
             try clear hcz17_0 hcz17_1
             try clear hcz20_0 hcz20_1
             try clear hcz24_0 hcz24_1
             try clear hcz25_0 hcz25_1
             try clear hcz27_0 hcz27_1
             try clear hcz7_0 hcz7_1
             try clear hcz8_0 hcz8_1
             try clear hcz9_0 hcz9_1
             try clear hfz12_0 hfz12_1
             try clear hfz17_0 hfz17_1
             try clear hfz20_0 hfz20_1
             try clear hfz24_0 hfz24_1
             try clear hfz25_0 hfz25_1
             try clear hfz27_0 hfz27_1
             try clear hfz7_0 hfz7_1
             try clear hfz8_0 hfz8_1
             try clear hfz9_0 hfz9_1
             try clear hx108_0
             try clear hx108_1
             try clear p1
             try clear p10
             try clear p108
             try clear p2
             try clear q1
             try clear q10
             try clear q108
             obtain ⟨x3_5, x6_5, rfl, rfl, HA, HK5, BK106, BK109, HB⟩ := hrel
             cases gk with
             | zero => exact absurd HA.out (by simp [saronref05_Check.l1])
             | succ k5 =>
              have H := HA.out
              clear HA
              simp only [saronref05_Check.l1] at H
              have HC28 := Aside0.mk H
              clear H
              go_upto_region 8 with (fail)
              go_cut [54] (fun v54 wc => ∃ (kq : Nat) (x54_27 : Bool), v54 = .bool x54_27 ∧ Aside0 (saronref05_Check.j5 kq x3_5 x4_2 x6_5 x54_27 a0_0 l0_1 ((rd_T63 l0_1 x4_2).f0) ((rd_T63 l0_1 x4_2).f1) = some r) ∧ Aside0 (kq ≤ k5) ∧ Aside0 (wc.heap[gb106]? = some (.cells #[.int .i64 a0_0, (.slice (some ad108) l0_1.length c0_1)] 24 (0, 0))) ∧ Aside0 (wc.heap[gb109]? = some (.cells #[.int .i64 ((rd_T63 l0_1 x4_2).f0), (.slice A108_1 ((rd_T63 l0_1 x4_2).f1).length c108_1)] 63 (0, 0))) ∧ Aside0 (Below w.heap.size w wc))
              case first => as_aux_lemma =>
               have H := HC28.out
               clear HC28
               by_cases c29 : x3_5 = true
               ·subst c29
                have H1 : (saronref05_Check.j5 k5 true x4_2 x6_5 (decide (x6_5 < a0_0)) a0_0 l0_1 ((rd_T63 l0_1 x4_2).f0) ((rd_T63 l0_1 x4_2).f1)) = some r := by rw [if_pos rfl] at H; exact H
                clear H
                have H := H1
                clear H1
                have H' := Aside0.mk H
                clear H
                have hnb30 := NB106_109.out
                have hnc30 := NB109_106.out
                have hcz31_0 := cz BK106.out 0
                have hcz31_1 := cz BK106.out 1
                have hfz31_0 := fz BK106.out 0
                have hfz31_1 := fz BK106.out 1
                go_wp2
                go_meet
                case rel => exact ⟨_, (decide (x6_5 < a0_0)), TT, H', ⟨by have := HJ1.out; have := HK2.out; have := HJ9.out; have := HJ15.out; have := HK5.out; first | omega | exact Nat.le_refl _⟩, ⟨TK BK106.out⟩, ⟨TK BK109.out⟩, ⟨TB2 GE106.out GE109.out⟩⟩
               ·replace c29 := Bool.eq_false_iff.mpr c29
                subst c29
                have H1 : (saronref05_Check.j5 k5 false x4_2 x6_5 false a0_0 l0_1 ((rd_T63 l0_1 x4_2).f0) ((rd_T63 l0_1 x4_2).f1)) = some r := by rw [if_neg (show ¬ (false = true) by decide)] at H; exact H
                clear H
                have H := H1
                clear H1
                have H' := Aside0.mk H
                clear H
                go_wp2
                go_meet
                case rel => exact ⟨_, (false), TT, H', ⟨by have := HJ1.out; have := HK2.out; have := HJ9.out; have := HJ15.out; have := HK5.out; first | omega | exact Nat.le_refl _⟩, ⟨TK BK106.out⟩, ⟨TK BK109.out⟩, ⟨TB2 GE106.out GE109.out⟩⟩
              case rest => as_aux_lemma =>
               clear HC28
               try clear c1
               try clear p1
               try clear q1
               try clear hx1
               try clear c2
               try clear p2
               try clear c3
               try clear c4
               try clear c5
               try clear c6
               try clear c6b0
               try clear c6b1
               try clear c10
               try clear p10
               try clear q10
               try clear hx10
               try clear c11
               try clear c13
               try clear c14
               try clear c14b0
               try clear c15
               try clear c15b0
               try clear c18
               try clear c19
               try clear c22
               try clear c23
               try clear c26
               try clear c29
               try clear c30
               try clear hcz12_0 hcz12_1
               try clear hcz17_0 hcz17_1
               try clear hcz20_0 hcz20_1
               try clear hcz24_0 hcz24_1
               try clear hcz25_0 hcz25_1
               try clear hcz27_0 hcz27_1
               try clear hcz31_0 hcz31_1
               try clear hcz7_0 hcz7_1
               try clear hcz8_0 hcz8_1
               try clear hcz9_0 hcz9_1
               try clear hfz12_0 hfz12_1
               try clear hfz17_0 hfz17_1
               try clear hfz20_0 hfz20_1
               try clear hfz24_0 hfz24_1
               try clear hfz25_0 hfz25_1
               try clear hfz27_0 hfz27_1
               try clear hfz31_0 hfz31_1
               try clear hfz7_0 hfz7_1
               try clear hfz8_0 hfz8_1
               try clear hfz9_0 hfz9_1
               try clear hx108_0
               try clear hx108_1
               try clear p1
               try clear p10
               try clear p108
               try clear p2
               try clear q1
               try clear q10
               try clear q108
               obtain ⟨kq, x54_27, rfl, HA, HJ27, BK106, BK109, HB⟩ := hcut
               cases kq with
               | zero => exact absurd HA.out (by simp [saronref05_Check.j5])
               | succ kj27 =>
                have H := HA.out
                clear HA
                simp only [saronref05_Check.j5] at H
                by_cases c32 : x54_27 = true
                ·subst c32
                 have H1 : (if 0 ≤ x6_5 then (if x6_5 < (((rd_T63 l0_1 x4_2).f1).length : Int) then ((saronref00_Grows.f kj27 (rd_L1 ((rd_T63 l0_1 x4_2).f1) x6_5) ((rd_T63 l0_1 x4_2).f0)).bind fun t112 => (if t112 = true then (if x6_5 > 0 then (saronref05_Check.l1 kj27 true x4_2 (wrap64 (x6_5 + 1)) a0_0 l0_1 ((rd_T63 l0_1 x4_2).f0) ((rd_T63 l0_1 x4_2).f1)) else (if 0 < (((rd_T63 l0_1 x4_2).f1).length : Int) then ((saronref00_Equal.f kj27 (rd_L1 ((rd_T63 l0_1 x4_2).f1) 0) (([wrap64 (((rd_T63 l0_1 x4_2).f0) - 1)] : List Int))).bind fun t117 => (saronref05_Check.l1 kj27 t117 x4_2 (wrap64 (x6_5 + 1)) a0_0 l0_1 ((rd_T63 l0_1 x4_2).f0) ((rd_T63 l0_1 x4_2).f1))) else (none))) else (saronref05_Check.l1 kj27 false x4_2 (wrap64 (x6_5 + 1)) a0_0 l0_1 ((rd_T63 l0_1 x4_2).f0) ((rd_T63 l0_1 x4_2).f1)))) else (none)) else (none)) = some r := by rw [if_pos rfl] at H; exact H
                 clear H
                 have H := H1
                 clear H1
                 by_cases c33 : 0 ≤ x6_5
                 ·rw [if_pos c33] at H
                  have c33b0 : decide (0 ≤ x6_5) = true := decide_eq_true c33
                  clear c33
                  by_cases c34 : x6_5 < (((rd_T63 l0_1 x4_2).f1).length : Int)
                  ·rw [if_pos c34] at H
                   have c34b0 : decide (x6_5 < (((rd_T63 l0_1 x4_2).f1).length : Int)) = true := decide_eq_true c34
                   clear c34
                   replace H := Option.bind_eq_some_iff.mp H
                   obtain ⟨t112, A350, H⟩ := H
                   replace H : (if t112 = true then (if x6_5 > 0 then (saronref05_Check.l1 kj27 true x4_2 (wrap64 (x6_5 + 1)) a0_0 l0_1 ((rd_T63 l0_1 x4_2).f0) ((rd_T63 l0_1 x4_2).f1)) else (if 0 < (((rd_T63 l0_1 x4_2).f1).length : Int) then ((saronref00_Equal.f kj27 (rd_L1 ((rd_T63 l0_1 x4_2).f1) 0) (([wrap64 (((rd_T63 l0_1 x4_2).f0) - 1)] : List Int))).bind fun t117 => (saronref05_Check.l1 kj27 t117 x4_2 (wrap64 (x6_5 + 1)) a0_0 l0_1 ((rd_T63 l0_1 x4_2).f0) ((rd_T63 l0_1 x4_2).f1))) else (none))) else (saronref05_Check.l1 kj27 false x4_2 (wrap64 (x6_5 + 1)) a0_0 l0_1 ((rd_T63 l0_1 x4_2).f0) ((rd_T63 l0_1 x4_2).f1))) = some r := H
                   have A35 := Aside0.mk A350
                   clear A350
                   by_cases c36 : t112 = true
                   ·subst c36
                    have H1 : (if x6_5 > 0 then (saronref05_Check.l1 kj27 true x4_2 (wrap64 (x6_5 + 1)) a0_0 l0_1 ((rd_T63 l0_1 x4_2).f0) ((rd_T63 l0_1 x4_2).f1)) else (if 0 < (((rd_T63 l0_1 x4_2).f1).length : Int) then ((saronref00_Equal.f kj27 (rd_L1 ((rd_T63 l0_1 x4_2).f1) 0) (([wrap64 (((rd_T63 l0_1 x4_2).f0) - 1)] : List Int))).bind fun t117 => (saronref05_Check.l1 kj27 t117 x4_2 (wrap64 (x6_5 + 1)) a0_0 l0_1 ((rd_T63 l0_1 x4_2).f0) ((rd_T63 l0_1 x4_2).f1))) else (none))) = some r := by rw [if_pos rfl] at H; exact H
                    clear H
                    have H := H1
                    clear H1
                    by_cases c37 : x6_5 > 0
                    ·rw [if_pos c37] at H
                     have c37b0 : decide (0 < x6_5) = true := decide_eq_true c37
                     clear c37
                     have H' := Aside0.mk H
                     clear H
                     try go_wp2
                     have n0_ := Aside0.mk (blk_drew BK106.out)
                     have n1_ := Aside0.mk (blk_drew BK109.out)
                     have n2_ := Aside0.mk (below_drew1 HB.out)
                     clear BK106
                     clear BK109
                     clear HB
                     have BK106 := n0_
                     have BK109 := n1_
                     have HB := n2_
                     clear n0_ n1_ n2_
                     have p111 : 0 ≤ (x6_5 : Int) := of_decide_eq_true TA
                     have q111 : x6_5 < (((rd_T63 l0_1 x4_2).f1).length : Int) := of_decide_eq_true TA
                     obtain ⟨ad111, A111_0, c111_0, e111, hx111_0, hl111_0, hi111_0⟩ := at_L1 HR108_1.out x6_5 p111 q111
                     have hw111_0 := hx111_0
                     cases e111
                     replace hx111_0 := hx HB.out hx111_0
                     have HR111_0 := Aside0.mk hi111_0
                     have HC111_0 := Aside0.mk hl111_0
                     clear hi111_0 hl111_0
                     replace p111 := eq_true p111
                     replace q111 := eq_true q111
                     refine start_ (n := 24) (S := fun w' => w'.cell? ⟨gb109, 0, none⟩ = some (.int .i64 ((rd_T63 l0_1 x4_2).f0)) ∧ w'.cell? ⟨gb109, 1, none⟩ = some (.slice (some ad111) ((rd_T63 l0_1 x4_2).f1).length c108_1) ∧ w'.cell? (ad111.add (x6_5).toNat) = some (.slice A111_0 (rd_L1 ((rd_T63 l0_1 x4_2).f1) x6_5).length c111_0)) (ds := []) (.replicate 24 false) (by kernel_rfl) rfl rfl ⟨cz BK109.out 0, cz BK109.out 1, (hx HB.out hw111_0)⟩ (fun hHeld => ?_); refine with_tabW saronref05_Check.tab10 saronref05_Check.bits10 (fun HT_ HW_ => ?_)
                     generalize wc.drew = w38 at BK106 BK109 HB HR111_0 hx111_0 hHeld ⊢
                     refine pT 0 57 (bt 24 1) (k := ?_)
                     refine pT 2 59 (bt 24 5) (k := ?_)
                     refine pT 5 62 (bt 24 37) (k := ?_)
                     refine tT3 1 58 (bt 24 39) hHeld (k := ?_)
                     refine pT 3 60 (bt 24 47) (k := ?_)
                     refine tT3 4 61 (bt 24 63) hHeld (k := ?_)
                     refine tT3 6 63 (bt 24 127) hHeld (k := ?_)
                     refine one_ (i := 7) (N := some 64) (bt 24 255) rfl rfl (one_of HT_.out (by kernel_rfl)) (by decide) (fun K hK => ?_)
                     refine goes_ Tryd.func41 (by kernel_rfl) rfl #[.slice A111_0 (rd_L1 ((rd_T63 l0_1 x4_2).f1) x6_5).length c111_0, .int .i64 ((rd_T63 l0_1 x4_2).f0)] (by rfl) rfl rfl TM ?_
                     with_reducible refine (saronref00_Grows.calls kj27 _ _ (rd_L1 ((rd_T63 l0_1 x4_2).f1) x6_5) ((rd_T63 l0_1 x4_2).f0) true _ ?side1 ?side2 A35.out).mono ?_
                     (case side1 => exact TC HR111_0.out)
                     (case side2 => exact HC111_0.out)
                     rintro e w' ⟨rfl, ⟨nd, rfl⟩⟩
                     refine ⟨_, rfl, ?_⟩
                     refine hK.out _ _ ⟨cz BK109.out 0, cz BK109.out 1, (hx (pw_below_drewN HB.out _) hw111_0)⟩ (fun hHeld => ?_)
                     clear hK K
                     refine norm_ (a' := ?_) ?_ ?_
                     rotate_left
                     ·show Act.put _ (some 64) _ = _
                      simp only [Act.put, lA, lZ, lS, i64_w, i32_w]
                      rfl
                     refine pT 8 65 (bt 24 511) (k := ?_)
                     refine pT 9 66 (bt 24 1023) (k := ?_)
                     refine pT 10 67 (bt 24 2047) (k := ?_)
                     refine pT 11 68 (bt 24 4095) (k := ?_)
                     refine pU 12 69 (bt 24 8191) (k := ?_)
                     refine pU 13 70 (bt 24 16383) (k := ?_)
                     refine pU 14 71 (bt 24 32767) (k := ?_)
                     refine pU 15 72 (bt 24 65535) (k := ?_)
                     refine pU 16 73 (bt 24 131071) (k := ?_)
                     refine pU 17 74 (bt 24 262143) (k := ?_)
                     refine pU 18 75 (bt 24 524287) (k := ?_)
                     refine pU 19 76 (bt 24 1048575) (k := ?_)
                     refine pU 20 77 (bt 24 2097151) (k := ?_)
                     refine pT 21 78 (bt 24 4194303) (k := ?_)
                     refine pT 22 79 (bt 24 8388607) (k := ?_)
                     refine pT 23 3 (bt 24 16777215) (k := ?_)
                     refine done_ (done_of HT_.out (by kernel_rfl)) ?_
                     try go_wp2
                     go_roundg kj27
                     case measure => have := HJ1.out; have := HK2.out; have := HJ9.out; have := HJ15.out; have := HK5.out; have := HJ27.out; omega
                     case rel => exact ⟨(true), (wrap64 (x6_5 + 1)), TT, TT, H', ⟨by have := HJ1.out; have := HK2.out; have := HJ9.out; have := HJ15.out; have := HK5.out; have := HJ27.out; omega⟩, ⟨TK BK106.out⟩, ⟨TK BK109.out⟩, ⟨TB2 GE106.out GE109.out⟩⟩
                    ·rw [if_neg c37] at H
                     have c37b0 : decide (0 < x6_5) = false := decide_eq_false c37
                     clear c37
                     by_cases c39 : 0 < (((rd_T63 l0_1 x4_2).f1).length : Int)
                     ·rw [if_pos c39] at H
                      have c39b0 : decide (0 < (((rd_T63 l0_1 x4_2).f1).length : Int)) = true := decide_eq_true c39
                      have c39b1 : decide (0 < ((rd_T63 l0_1 x4_2).f1).length) = true := decide_eq_true (by omega)
                      clear c39
                      obtain ⟨y114, hy114⟩ : ∃ y_ : List Int, y_ = (([wrap64 (((rd_T63 l0_1 x4_2).f0) - 1)] : List Int)) := ⟨_, rfl⟩
                      replace H : ((saronref00_Equal.f kj27 (rd_L1 ((rd_T63 l0_1 x4_2).f1) 0) y114).bind fun t117 => (saronref05_Check.l1 kj27 t117 x4_2 (wrap64 (x6_5 + 1)) a0_0 l0_1 ((rd_T63 l0_1 x4_2).f0) ((rd_T63 l0_1 x4_2).f1))) = some r := by first | (rw [hy114]; with_reducible exact H) | (have H2_ := (Option.bind_some _ _).symm.trans H; rw [hy114]; with_reducible exact H2_) | (have H2_ := (Option.bind_some _ _).symm.trans H; with_reducible exact H2_) | with_reducible exact H | (rw [hy114]; exact H) | exact H
                      have Ny114 := Aside0.mk hy114
                      clear hy114
                      replace H := Option.bind_eq_some_iff.mp H
                      obtain ⟨t117, A400, H⟩ := H
                      replace H : (saronref05_Check.l1 kj27 t117 x4_2 (wrap64 (x6_5 + 1)) a0_0 l0_1 ((rd_T63 l0_1 x4_2).f0) ((rd_T63 l0_1 x4_2).f1)) = some r := H
                      have A40 := Aside0.mk A400
                      clear A400
                      have H' := Aside0.mk H
                      clear H
                      try go_wp2
                      have n0_ := Aside0.mk (blk_drew BK106.out)
                      have n1_ := Aside0.mk (blk_drew BK109.out)
                      have n2_ := Aside0.mk (below_drew1 HB.out)
                      clear BK106
                      clear BK109
                      clear HB
                      have BK106 := n0_
                      have BK109 := n1_
                      have HB := n2_
                      clear n0_ n1_ n2_
                      have p111 : 0 ≤ (x6_5 : Int) := of_decide_eq_true TA
                      have q111 : x6_5 < (((rd_T63 l0_1 x4_2).f1).length : Int) := of_decide_eq_true TA
                      obtain ⟨ad111, A111_0, c111_0, e111, hx111_0, hl111_0, hi111_0⟩ := at_L1 HR108_1.out x6_5 p111 q111
                      have hw111_0 := hx111_0
                      cases e111
                      replace hx111_0 := hx HB.out hx111_0
                      have HR111_0 := Aside0.mk hi111_0
                      have HC111_0 := Aside0.mk hl111_0
                      clear hi111_0 hl111_0
                      replace p111 := eq_true p111
                      replace q111 := eq_true q111
                      have p113 : 0 ≤ (0 : Int) := (by omega)
                      have q113 : 0 < (((rd_T63 l0_1 x4_2).f1).length : Int) := of_decide_eq_true TA
                      obtain ⟨ad113, A113_0, c113_0, e113, hx113_0, hl113_0, hi113_0⟩ := at_L1 HR108_1.out 0 p113 q113
                      have hw113_0 := hx113_0
                      (try rw [show ((0 : Int)).toNat = 0 from rfl] at hw113_0)
                      (try rw [show 0 * 1 = 0 from rfl] at hw113_0)
                      (try rw [Addr.add_zero'] at hw113_0)
                      obtain rfl : ad111 = ad113 := (by injection e113)
                      have qi113 : (0 < ((rd_T63 l0_1 x4_2).f1).length) = True := eq_true (by omega)
                      (try rw [show ((0 : Int)).toNat = 0 from rfl] at hx113_0)
                      (try rw [Addr.add_zero'] at hx113_0)
                      replace hx113_0 := hx HB.out hx113_0
                      have HR113_0 := Aside0.mk hi113_0
                      have HC113_0 := Aside0.mk hl113_0
                      clear hi113_0 hl113_0
                      replace p113 := eq_true p113
                      replace q113 := eq_true q113
                      refine start_ (n := 24) (S := fun w' => w'.cell? ⟨gb109, 0, none⟩ = some (.int .i64 ((rd_T63 l0_1 x4_2).f0)) ∧ w'.cell? ⟨gb109, 1, none⟩ = some (.slice (some ad111) ((rd_T63 l0_1 x4_2).f1).length c108_1) ∧ w'.cell? (ad111.add (x6_5).toNat) = some (.slice A111_0 (rd_L1 ((rd_T63 l0_1 x4_2).f1) x6_5).length c111_0) ∧ w'.cell? ad111 = some (.slice A113_0 (rd_L1 ((rd_T63 l0_1 x4_2).f1) 0).length c113_0)) (ds := []) (.replicate 24 false) (by kernel_rfl) rfl rfl ⟨cz BK109.out 0, cz BK109.out 1, (hx HB.out hw111_0), (hx HB.out hw113_0)⟩ (fun hHeld => ?_); refine with_tabW saronref05_Check.tab10 saronref05_Check.bits10 (fun HT_ HW_ => ?_)
                      generalize wc.drew = w41 at BK106 BK109 HB HR111_0 HR113_0 hx111_0 hx113_0 hHeld ⊢
                      refine pT 0 57 (bt 24 1) (k := ?_)
                      refine pT 2 59 (bt 24 5) (k := ?_)
                      refine pT 5 62 (bt 24 37) (k := ?_)
                      refine tT4 1 58 (bt 24 39) hHeld (k := ?_)
                      refine pT 3 60 (bt 24 47) (k := ?_)
                      refine tT4 4 61 (bt 24 63) hHeld (k := ?_)
                      refine tT4 6 63 (bt 24 127) hHeld (k := ?_)
                      refine one_ (i := 7) (N := some 64) (bt 24 255) rfl rfl (one_of HT_.out (by kernel_rfl)) (by decide) (fun K hK => ?_)
                      refine goes_ Tryd.func41 (by kernel_rfl) rfl #[.slice A111_0 (rd_L1 ((rd_T63 l0_1 x4_2).f1) x6_5).length c111_0, .int .i64 ((rd_T63 l0_1 x4_2).f0)] (by rfl) rfl rfl TM ?_
                      with_reducible refine (saronref00_Grows.calls kj27 _ _ (rd_L1 ((rd_T63 l0_1 x4_2).f1) x6_5) ((rd_T63 l0_1 x4_2).f0) true _ ?side1 ?side2 A35.out).mono ?_
                      (case side1 => exact TC HR111_0.out)
                      (case side2 => exact HC111_0.out)
                      rintro e w' ⟨rfl, ⟨nd, rfl⟩⟩
                      refine ⟨_, rfl, ?_⟩
                      refine hK.out _ _ ⟨cz BK109.out 0, cz BK109.out 1, (hx (pw_below_drewN HB.out _) hw111_0), (hx (pw_below_drewN HB.out _) hw113_0)⟩ (fun hHeld => ?_)
                      clear hK K
                      refine norm_ (a' := ?_) ?_ ?_
                      rotate_left
                      ·show Act.put _ (some 64) _ = _
                       simp only [Act.put, lA, lZ, lS, i64_w, i32_w]
                       rfl
                      refine pT 8 65 (bt 24 511) (k := ?_)
                      refine pT 9 66 (bt 24 1023) (k := ?_)
                      refine pT 10 67 (bt 24 2047) (k := ?_)
                      refine pT 11 68 (bt 24 4095) (k := ?_)
                      refine pT 12 69 (bt 24 8191) (k := ?_)
                      refine pT 16 73 (bt 24 73727) (k := ?_)
                      refine tT4 13 70 (bt 24 81919) hHeld (k := ?_)
                      refine pT 14 71 (bt 24 98303) (k := ?_)
                      refine tT4 15 72 (bt 24 131071) hHeld (k := ?_)
                      refine tT4 17 74 (bt 24 262143) hHeld (k := ?_)
                      refine pT 18 75 (bt 24 524287) (k := ?_)
                      refine one_ (i := 19) (N := some 76) (bt 24 1048575) rfl rfl (one_of HT_.out (by kernel_rfl)) (by decide) (fun K hK => ?_)
                      refine Kd.R_lit_step (Kd.int .i64) _ 3 ?hg (N := 76) ?hd (xs := ([wrap64 (((rd_T63 l0_1 x4_2).f0) - 1)] : List Int)) (inner := [.int .i64 (wrap64 (((rd_T63 l0_1 x4_2).f0) - 1))]) (ok := fun _ => True) (okp := fun _ => True) ?hr ?hp (fun _ hk => hk) trivial (Below.refl _ _) (Nat.le_refl _) (by simp) ?_; (case hd => rfl); (case hg => rfl); (case hr => exact TS); (case hp => exact (Reps.one (show Kd.M (Kd.int .i64) _ _ _ (wrap64 (((rd_T63 l0_1 x4_2).f0) - 1)) [.int .i64 (wrap64 (((rd_T63 l0_1 x4_2).f0) - 1))] from rfl) (Reps.none _ _)))
                      intro v115 w42 ho43 hb hg_ hnew_
                      clear hg_ hnew_
                      (first | rw [← Ny114.out] at ho43 | (simp only [Int.reduceToNat] at ho43; rw [← Ny114.out] at ho43))
                      have n0_ := Aside0.mk (Kd.R_lower ho43 (below_size (TB2 GE106.out GE109.out)))
                      have n1_ := Aside0.mk (TKb hb BK106.out)
                      have n2_ := Aside0.mk (TKb hb BK109.out)
                      have n3_ := Aside0.mk (below_step (TB2 GE106.out GE109.out) hb)
                      clear BK106
                      clear BK109
                      clear HB
                      have HO116 := n0_
                      have BK106 := n1_
                      have BK109 := n2_
                      have HB := n3_
                      clear n0_ n1_ n2_ n3_
                      clear hb ho43
                      obtain ⟨Ao44, co44, eo44⟩ := Kd.R_slice HO116.out
                      (first | subst eo44 | (injection eo44 with f1_ f2_ f3_; have f4_ := f1_.symm; have f5_ := f3_.symm; clear f1_ f2_ f3_; subst f4_; subst f5_))
                      refine hK.out _ _ ⟨cz BK109.out 0, cz BK109.out 1, (hx HB.out hw111_0), (hx HB.out hw113_0)⟩ (fun hHeld => ?_)
                      clear hK K
                      refine norm_ (a' := ?_) ?_ ?_
                      rotate_left
                      ·show Act.put _ (some 76) _ = _
                       simp only [Act.put, lA, lZ, lS, i64_w, i32_w]
                       rfl
                      refine one_ (i := 20) (N := some 77) (bt 24 2097151) rfl rfl (one_of HT_.out (by kernel_rfl)) (by decide) (fun K hK => ?_)
                      refine goes_ Tryd.func16 (by kernel_rfl) rfl #[.slice A113_0 (rd_L1 ((rd_T63 l0_1 x4_2).f1) 0).length c113_0, .slice Ao44 y114.length co44] (by rfl) rfl rfl TM ?_
                      with_reducible refine (saronref00_Equal.calls kj27 _ _ (rd_L1 ((rd_T63 l0_1 x4_2).f1) 0) _ _ y114 t117 _ ?side1 ?side2 ?side3 ?side4 A40.out).mono ?_
                      (case side1 => exact TC HR113_0.out)
                      (case side2 => exact HC113_0.out)
                      (case side3 => repeat (first | exact (Kd.R_reads' HO116.out).2.2 | (with_reducible refine Kd.C_alloc ?_ _) | (with_reducible refine Kd.C_drewN ?_ _) | (with_reducible refine Kd.C_drew ?_)))
                      (case side4 => exact (Kd.R_reads' HO116.out).2.1)
                      rintro e w' ⟨rfl, ⟨nd, rfl⟩⟩
                      refine ⟨_, rfl, ?_⟩
                      refine hK.out _ _ ⟨cz BK109.out 0, cz BK109.out 1, (hx (pw_below_drewN HB.out _) hw111_0), (hx (pw_below_drewN HB.out _) hw113_0)⟩ (fun hHeld => ?_)
                      clear hK K
                      refine norm_ (a' := ?_) ?_ ?_
                      rotate_left
                      ·show Act.put _ (some 77) _ = _
                       simp only [Act.put, lA, lZ, lS, i64_w, i32_w]
                       rfl
                      refine pT 21 78 (bt 24 4194303) (k := ?_)
                      refine pT 22 79 (bt 24 8388607) (k := ?_)
                      refine pT 23 3 (bt 24 16777215) (k := ?_)
                      refine done_ (done_of HT_.out (by kernel_rfl)) ?_
                      try go_wp2
                      go_roundg kj27
                      case measure => have := HJ1.out; have := HK2.out; have := HJ9.out; have := HJ15.out; have := HK5.out; have := HJ27.out; omega
                      case rel => exact ⟨(t117), (wrap64 (x6_5 + 1)), TT, TT, H', ⟨by have := HJ1.out; have := HK2.out; have := HJ9.out; have := HJ15.out; have := HK5.out; have := HJ27.out; omega⟩, ⟨TK BK106.out⟩, ⟨TK BK109.out⟩, ⟨TB2 GE106.out GE109.out⟩⟩
                     ·rw [if_neg c39] at H
                      exact absurd H (by simp)
                   ·replace c36 := Bool.eq_false_iff.mpr c36
                    subst c36
                    have H1 : (saronref05_Check.l1 kj27 false x4_2 (wrap64 (x6_5 + 1)) a0_0 l0_1 ((rd_T63 l0_1 x4_2).f0) ((rd_T63 l0_1 x4_2).f1)) = some r := by rw [if_neg (show ¬ (false = true) by decide)] at H; exact H
                    clear H
                    have H := H1
                    clear H1
                    have H' := Aside0.mk H
                    clear H
                    try go_wp2
                    have n0_ := Aside0.mk (blk_drew BK106.out)
                    have n1_ := Aside0.mk (blk_drew BK109.out)
                    have n2_ := Aside0.mk (below_drew1 HB.out)
                    clear BK106
                    clear BK109
                    clear HB
                    have BK106 := n0_
                    have BK109 := n1_
                    have HB := n2_
                    clear n0_ n1_ n2_
                    have p111 : 0 ≤ (x6_5 : Int) := of_decide_eq_true TA
                    have q111 : x6_5 < (((rd_T63 l0_1 x4_2).f1).length : Int) := of_decide_eq_true TA
                    obtain ⟨ad111, A111_0, c111_0, e111, hx111_0, hl111_0, hi111_0⟩ := at_L1 HR108_1.out x6_5 p111 q111
                    have hw111_0 := hx111_0
                    cases e111
                    replace hx111_0 := hx HB.out hx111_0
                    have HR111_0 := Aside0.mk hi111_0
                    have HC111_0 := Aside0.mk hl111_0
                    clear hi111_0 hl111_0
                    replace p111 := eq_true p111
                    replace q111 := eq_true q111
                    refine start_ (n := 24) (S := fun w' => w'.cell? ⟨gb109, 0, none⟩ = some (.int .i64 ((rd_T63 l0_1 x4_2).f0)) ∧ w'.cell? ⟨gb109, 1, none⟩ = some (.slice (some ad111) ((rd_T63 l0_1 x4_2).f1).length c108_1) ∧ w'.cell? (ad111.add (x6_5).toNat) = some (.slice A111_0 (rd_L1 ((rd_T63 l0_1 x4_2).f1) x6_5).length c111_0)) (ds := []) (.replicate 24 false) (by kernel_rfl) rfl rfl ⟨cz BK109.out 0, cz BK109.out 1, (hx HB.out hw111_0)⟩ (fun hHeld => ?_); refine with_tabW saronref05_Check.tab10 saronref05_Check.bits10 (fun HT_ HW_ => ?_)
                    generalize wc.drew = w45 at BK106 BK109 HB HR111_0 hx111_0 hHeld ⊢
                    refine pT 0 57 (bt 24 1) (k := ?_)
                    refine pT 2 59 (bt 24 5) (k := ?_)
                    refine pT 5 62 (bt 24 37) (k := ?_)
                    refine tT3 1 58 (bt 24 39) hHeld (k := ?_)
                    refine pT 3 60 (bt 24 47) (k := ?_)
                    refine tT3 4 61 (bt 24 63) hHeld (k := ?_)
                    refine tT3 6 63 (bt 24 127) hHeld (k := ?_)
                    refine one_ (i := 7) (N := some 64) (bt 24 255) rfl rfl (one_of HT_.out (by kernel_rfl)) (by decide) (fun K hK => ?_)
                    refine goes_ Tryd.func41 (by kernel_rfl) rfl #[.slice A111_0 (rd_L1 ((rd_T63 l0_1 x4_2).f1) x6_5).length c111_0, .int .i64 ((rd_T63 l0_1 x4_2).f0)] (by rfl) rfl rfl TM ?_
                    with_reducible refine (saronref00_Grows.calls kj27 _ _ (rd_L1 ((rd_T63 l0_1 x4_2).f1) x6_5) ((rd_T63 l0_1 x4_2).f0) false _ ?side1 ?side2 A35.out).mono ?_
                    (case side1 => exact TC HR111_0.out)
                    (case side2 => exact HC111_0.out)
                    rintro e w' ⟨rfl, ⟨nd, rfl⟩⟩
                    refine ⟨_, rfl, ?_⟩
                    refine hK.out _ _ ⟨cz BK109.out 0, cz BK109.out 1, (hx (pw_below_drewN HB.out _) hw111_0)⟩ (fun hHeld => ?_)
                    clear hK K
                    refine norm_ (a' := ?_) ?_ ?_
                    rotate_left
                    ·show Act.put _ (some 64) _ = _
                     simp only [Act.put, lA, lZ, lS, i64_w, i32_w]
                     rfl
                    refine pT 8 65 (bt 24 511) (k := ?_)
                    refine pU 9 66 (bt 24 1023) (k := ?_)
                    refine pU 10 67 (bt 24 2047) (k := ?_)
                    refine pU 11 68 (bt 24 4095) (k := ?_)
                    refine pU 12 69 (bt 24 8191) (k := ?_)
                    refine pU 13 70 (bt 24 16383) (k := ?_)
                    refine pU 14 71 (bt 24 32767) (k := ?_)
                    refine pU 15 72 (bt 24 65535) (k := ?_)
                    refine pU 16 73 (bt 24 131071) (k := ?_)
                    refine pU 17 74 (bt 24 262143) (k := ?_)
                    refine pU 18 75 (bt 24 524287) (k := ?_)
                    refine pU 19 76 (bt 24 1048575) (k := ?_)
                    refine pU 20 77 (bt 24 2097151) (k := ?_)
                    refine pU 21 78 (bt 24 4194303) (k := ?_)
                    refine pT 22 79 (bt 24 8388607) (k := ?_)
                    refine pT 23 3 (bt 24 16777215) (k := ?_)
                    refine done_ (done_of HT_.out (by kernel_rfl)) ?_
                    try go_wp2
                    go_roundg kj27
                    case measure => have := HJ1.out; have := HK2.out; have := HJ9.out; have := HJ15.out; have := HK5.out; have := HJ27.out; omega
                    case rel => exact ⟨(false), (wrap64 (x6_5 + 1)), TT, TT, H', ⟨by have := HJ1.out; have := HK2.out; have := HJ9.out; have := HJ15.out; have := HK5.out; have := HJ27.out; omega⟩, ⟨TK BK106.out⟩, ⟨TK BK109.out⟩, ⟨TB2 GE106.out GE109.out⟩⟩
                  ·rw [if_neg c34] at H
                   exact absurd H (by simp)
                 ·rw [if_neg c33] at H
                  exact absurd H (by simp)
                ·replace c32 := Bool.eq_false_iff.mpr c32
                 subst c32
                 have H1 : (saronref05_Check.l0 kj27 x3_5 (wrap64 (x4_2 + 1)) a0_0 l0_1) = some r := by rw [if_neg (show ¬ (false = true) by decide)] at H; exact H
                 clear H
                 have H := H1
                 clear H1
                 have H' := Aside0.mk H
                 clear H
                 go_wp2
                 go_roundg kj27
                 case measure => have := HJ1.out; have := HK2.out; have := HJ9.out; have := HJ15.out; have := HK5.out; have := HJ27.out; omega
                 case rel => exact ⟨(x3_5), (wrap64 (x4_2 + 1)), TT, TT, H', ⟨by have := HJ1.out; have := HK2.out; have := HJ9.out; have := HJ15.out; have := HK5.out; have := HJ27.out; omega⟩, ⟨TK BK106.out⟩, ⟨TB2 GE106.out GE109.out⟩⟩
         ·rw [if_neg c15] at H
          exact absurd H (by simp)
        ·rw [if_neg c14] at H
         exact absurd H (by simp)
       ·replace c13 := Bool.eq_false_iff.mpr c13
        subst c13
        have H1 : (if x3_2 = true then (some 0) else (some 50)) = some r := by rw [if_neg (show ¬ (false = true) by decide)] at H; exact H
        clear H
        have H := H1
        clear H1
        by_cases c46 : x3_2 = true
        ·subst c46
         have H1 : (some 0) = some r := by rw [if_pos rfl] at H; exact H
         clear H
         have H := H1
         clear H1
         obtain rfl := Option.some.inj H
         go_wp2
         go_ret
         exact ⟨TR, TB1 GE106.out⟩
        ·replace c46 := Bool.eq_false_iff.mpr c46
         subst c46
         have H1 : (some 50) = some r := by rw [if_neg (show ¬ (false = true) by decide)] at H; exact H
         clear H
         have H := H1
         clear H1
         obtain rfl := Option.some.inj H
         go_wp2
         go_ret
         exact ⟨TR, TB1 GE106.out⟩
end Go.Proofs.YtephecfapclgfaaDoor.PRaspKeys
namespace Go.Proofs.YtephecfapclgfaaDoor.PRaspKeys
open Go.RowKit Go.Proofs.YtephecfapclgfaaDoorW.PrintWords Go.Proofs.YtephecfapclgfaaDoorW.PrintLast Go.Proofs.YtephecfapclgfaaDoorW.PrintMore Go.Proofs.YtephecfapclgfaaDoor.M
attribute [local go_sem] max2_int min2_int max_two min_two max_three min_three max_four min_four   -- for this text's walks alone
/-! ### saronref05_asked: function 58 -/
def saronref05_asked.f (k : Nat) (a0_0 : Int) (l0_1 : List (S63)) (a1 : Bool) : Option (Int) := (saronref05_Check.f k a0_0 l0_1).bind fun t119 => (if t119 = 0 then (if a1 = true then (some 0) else (some 51)) else (some t119))
theorem saronref05_asked.mono : ∀ a0 a1 a2 k, LeO (saronref05_asked.f k a0 a1 a2) (saronref05_asked.f (k + 1) a0 a1 a2) := by
 intro a0 a1 a2 k
 unfold saronref05_asked.f
 repeat' first
   | (with_reducible exact saronref05_Check.mono _ _ _)
   | (with_reducible exact LeO.refl _)
   | (with_reducible exact LeO.none _)
   | (with_reducible refine LeO.ite ?_ ?_)
   | (with_reducible refine LeO.bind ?_ (fun _ => ?_))
   | exact saronref05_Check.mono _ _ _
   | exact LeO.none _
   | refine LeO.ite ?_ ?_
   | refine LeO.bind ?_ (fun _ => ?_)
set_option maxHeartbeats 8000000 in
set_option maxRecDepth 100000 in
theorem saronref05_asked.calls (k : Nat) (a0_0 : Int) (A0_1 : Option Addr) (c0_1 : Nat) (l0_1 : List (S63)) (a1 : Bool) (r : Int) (w : World) (hr0_1 : Kd.C k63 w A0_1 l0_1.length l0_1) (hc0_1 : l0_1.length ≤ c0_1) (h : saronref05_asked.f k a0_0 l0_1 a1 = some r) :
  Calls Tryd.prog 58 #[.agg #[.int .i64 a0_0, .slice A0_1 l0_1.length c0_1], .bool a1] w fun e w' => e = .returned (.int .i64 r) ∧ Below w.heap.size w w' := by
 have hu24 := Tryd.underlying24
 have HR0_1 := Aside0.mk hr0_1
 have HC0_1 := Aside0.mk hc0_1
 clear hr0_1 hc0_1
 have HB := Aside0.mk (Below.refl w.heap.size w)
 have H : ((saronref05_Check.f k a0_0 l0_1).bind fun t119 => (if t119 = 0 then (if a1 = true then (some 0) else (some 51)) else (some t119))) = some r := h
 clear h
 replace H := Option.bind_eq_some_iff.mp H
 obtain ⟨t119, A30, H⟩ := H
 replace H : (if t119 = 0 then (if a1 = true then (some 0) else (some 51)) else (some t119)) = some r := H
 have A3 := Aside0.mk A30
 clear A30
 by_cases c4 : t119 = 0
 ·rw [if_pos c4] at H
  have c4b0 : (t119 == 0) = true := beq_iff_eq.mpr c4
  have c4b1 : (t119 != 0) = false := bne_eq_false_iff_eq.mpr c4
  clear c4
  by_cases c5 : a1 = true
  ·subst c5
   have H1 : (some 0) = some r := by rw [if_pos rfl] at H; exact H
   clear H
   have H := H1
   clear H1
   obtain rfl := Option.some.inj H
   go_enter Tryd.func58, Tryd.ntmps58
   go_wp2_with (first | ((with_reducible refine gate_dst (N := 2) rfl ?_); refine box_event ?hg (N := 2) ?hd (cs := #[.int .i64 a0_0, .slice A0_1 l0_1.length c0_1]) (t := 24) ?hr ?_; (case hd => rfl); (case hg => rfl); (case hr => exact TS); intro gb118 hg w6 hbox hb; have BK118 := Aside0.mk (hbox); have GW118 := Aside0.mk ((TG : w.heap.size ≤ gb118)); have GE118 := Aside0.mk ((TG : w.heap.size ≤ gb118)); replace HB := Aside0.mk (below_step TB hb); clear hb hbox hg; have hcz7_0 := cz BK118.out 0; have hcz7_1 := cz BK118.out 1; have hfz7_0 := fz BK118.out 0; have hfz7_1 := fz BK118.out 1) | ((with_reducible refine gate_callee (f := 18) rfl ?_); refine goesL_ (some 7) rfl rfl Tryd.func18 (by kernel_rfl) rfl #[.agg #[.int .i64 a0_0, .slice A0_1 l0_1.length c0_1]] rfl TM ?_; (with_reducible refine (saronref05_Check.calls k a0_0 _ _ l0_1 t119 _ ?side1 ?side2 A3.out).mono ?_); (case side1 => exact TC HR0_1.out); (case side2 => exact HC0_1.out); rintro e w8 ⟨rfl, hb⟩; refine ⟨_, rfl, ?_⟩; replace BK118 := Aside0.mk (TKb hb BK118.out); replace HB := Aside0.mk (below_step (TB1 GE118.out) hb); (try clear hb); (try clear hb2); (try clear hk); (try clear hi)))
   go_ret
   exact ⟨TR, TB1 GE118.out⟩
  ·replace c5 := Bool.eq_false_iff.mpr c5
   subst c5
   have H1 : (some 51) = some r := by rw [if_neg (show ¬ (false = true) by decide)] at H; exact H
   clear H
   have H := H1
   clear H1
   obtain rfl := Option.some.inj H
   go_enter Tryd.func58, Tryd.ntmps58
   go_wp2_with (first | ((with_reducible refine gate_dst (N := 2) rfl ?_); refine box_event ?hg (N := 2) ?hd (cs := #[.int .i64 a0_0, .slice A0_1 l0_1.length c0_1]) (t := 24) ?hr ?_; (case hd => rfl); (case hg => rfl); (case hr => exact TS); intro gb118 hg w9 hbox hb; have BK118 := Aside0.mk (hbox); have GW118 := Aside0.mk ((TG : w.heap.size ≤ gb118)); have GE118 := Aside0.mk ((TG : w.heap.size ≤ gb118)); replace HB := Aside0.mk (below_step TB hb); clear hb hbox hg; have hcz10_0 := cz BK118.out 0; have hcz10_1 := cz BK118.out 1; have hfz10_0 := fz BK118.out 0; have hfz10_1 := fz BK118.out 1) | ((with_reducible refine gate_callee (f := 18) rfl ?_); refine goesL_ (some 7) rfl rfl Tryd.func18 (by kernel_rfl) rfl #[.agg #[.int .i64 a0_0, .slice A0_1 l0_1.length c0_1]] rfl TM ?_; (with_reducible refine (saronref05_Check.calls k a0_0 _ _ l0_1 t119 _ ?side1 ?side2 A3.out).mono ?_); (case side1 => exact TC HR0_1.out); (case side2 => exact HC0_1.out); rintro e w11 ⟨rfl, hb⟩; refine ⟨_, rfl, ?_⟩; replace BK118 := Aside0.mk (TKb hb BK118.out); replace HB := Aside0.mk (below_step (TB1 GE118.out) hb); (try clear hb); (try clear hb2); (try clear hk); (try clear hi)))
   go_ret
   exact ⟨TR, TB1 GE118.out⟩
 ·rw [if_neg c4] at H
  have c4b0 : (t119 == 0) = false := beq_eq_false_iff_ne.mpr c4
  have c4b1 : (t119 != 0) = true := bne_iff_ne.mpr c4
  obtain rfl := Option.some.inj H
  go_enter Tryd.func58, Tryd.ntmps58
  go_wp2_with (first | ((with_reducible refine gate_dst (N := 2) rfl ?_); refine box_event ?hg (N := 2) ?hd (cs := #[.int .i64 a0_0, .slice A0_1 l0_1.length c0_1]) (t := 24) ?hr ?_; (case hd => rfl); (case hg => rfl); (case hr => exact TS); intro gb118 hg w12 hbox hb; have BK118 := Aside0.mk (hbox); have GW118 := Aside0.mk ((TG : w.heap.size ≤ gb118)); have GE118 := Aside0.mk ((TG : w.heap.size ≤ gb118)); replace HB := Aside0.mk (below_step TB hb); clear hb hbox hg; have hcz13_0 := cz BK118.out 0; have hcz13_1 := cz BK118.out 1; have hfz13_0 := fz BK118.out 0; have hfz13_1 := fz BK118.out 1) | ((with_reducible refine gate_callee (f := 18) rfl ?_); refine goesL_ (some 7) rfl rfl Tryd.func18 (by kernel_rfl) rfl #[.agg #[.int .i64 a0_0, .slice A0_1 l0_1.length c0_1]] rfl TM ?_; (with_reducible refine (saronref05_Check.calls k a0_0 _ _ l0_1 t119 _ ?side1 ?side2 A3.out).mono ?_); (case side1 => exact TC HR0_1.out); (case side2 => exact HC0_1.out); rintro e w14 ⟨rfl, hb⟩; refine ⟨_, rfl, ?_⟩; replace BK118 := Aside0.mk (TKb hb BK118.out); replace HB := Aside0.mk (below_step (TB1 GE118.out) hb); (try clear hb); (try clear hb2); (try clear hk); (try clear hi)))
  go_ret
  exact ⟨TR, TB1 GE118.out⟩
/-! ### saronref05_isForm: function 59 -/
def saronref05_isForm.f (a0_0 : Int) (l0_1 : List (S63)) (a1 : Int) : Option (Bool) := (saronref00_Sits.f a1 0 (wrap64 ((l0_1.length : Int) - 1))).bind fun t121 => (some t121)
set_option maxHeartbeats 8000000 in
set_option maxRecDepth 100000 in
theorem saronref05_isForm.calls (a0_0 : Int) (A0_1 : Option Addr) (c0_1 : Nat) (l0_1 : List (S63)) (a1 : Int) (r : Bool) (w : World) (hr0_1 : Kd.C k63 w A0_1 l0_1.length l0_1) (hc0_1 : l0_1.length ≤ c0_1) (h : saronref05_isForm.f a0_0 l0_1 a1 = some r) :
  Calls Tryd.prog 59 #[.agg #[.int .i64 a0_0, .slice A0_1 l0_1.length c0_1], .int .i64 a1] w fun e w' => e = .returned (.bool r) ∧ Below w.heap.size w w' := by
 have hu24 := Tryd.underlying24
 have HR0_1 := Aside0.mk hr0_1
 have HC0_1 := Aside0.mk hc0_1
 clear hr0_1 hc0_1
 have HB := Aside0.mk (Below.refl w.heap.size w)
 have H : ((saronref00_Sits.f a1 0 (wrap64 ((l0_1.length : Int) - 1))).bind fun t121 => (some t121)) = some r := h
 clear h
 replace H := Option.bind_eq_some_iff.mp H
 obtain ⟨t121, A30, H⟩ := H
 replace H : (some t121) = some r := H
 have A3 := Aside0.mk A30
 clear A30
 obtain rfl := Option.some.inj H
 go_enter Tryd.func59, Tryd.ntmps59
 go_wp2_with (first | ((with_reducible refine gate_dst (N := 2) rfl ?_); refine box_event ?hg (N := 2) ?hd (cs := #[.int .i64 a0_0, .slice A0_1 l0_1.length c0_1]) (t := 24) ?hr ?_; (case hd => rfl); (case hg => rfl); (case hr => exact TS); intro gb120 hg w4 hbox hb; have BK120 := Aside0.mk (hbox); have GW120 := Aside0.mk ((TG : w.heap.size ≤ gb120)); have GE120 := Aside0.mk ((TG : w.heap.size ≤ gb120)); replace HB := Aside0.mk (below_step TB hb); clear hb hbox hg; have hcz5_0 := cz BK120.out 0; have hcz5_1 := cz BK120.out 1; have hfz5_0 := fz BK120.out 0; have hfz5_1 := fz BK120.out 1) | ((with_reducible refine gate_callee (f := 43) rfl ?_); refine goesL_ (some 10) rfl rfl Tryd.func43 (by kernel_rfl) rfl #[.int .i64 a1, .int .i64 0, .int .i64 (wrap64 ((l0_1.length : Int) - 1))] rfl TM ?_; (with_reducible refine (saronref00_Sits.calls a1 0 (wrap64 ((l0_1.length : Int) - 1)) t121 _ A3.out).mono ?_); rintro e w' ⟨rfl, ⟨nd, rfl⟩⟩; refine ⟨_, rfl, ?_⟩))
 go_ret
 exact ⟨TR, TB1 GE120.out⟩
/-! ### saronref05_isGong: function 67 -/
def saronref05_isGong.f (a0_0 : Int) (l0_1 : List (S63)) (a1 : Int) : Option (Bool) := (saronref00_Sits.f a1 0 (wrap64 (a0_0 - 1))).bind fun t123 => (some t123)
set_option maxHeartbeats 8000000 in
set_option maxRecDepth 100000 in
theorem saronref05_isGong.calls (a0_0 : Int) (A0_1 : Option Addr) (c0_1 : Nat) (l0_1 : List (S63)) (a1 : Int) (r : Bool) (w : World) (hr0_1 : Kd.C k63 w A0_1 l0_1.length l0_1) (hc0_1 : l0_1.length ≤ c0_1) (h : saronref05_isGong.f a0_0 l0_1 a1 = some r) :
  Calls Tryd.prog 67 #[.agg #[.int .i64 a0_0, .slice A0_1 l0_1.length c0_1], .int .i64 a1] w fun e w' => e = .returned (.bool r) ∧ Below w.heap.size w w' := by
 have hu24 := Tryd.underlying24
 have HR0_1 := Aside0.mk hr0_1
 have HC0_1 := Aside0.mk hc0_1
 clear hr0_1 hc0_1
 have HB := Aside0.mk (Below.refl w.heap.size w)
 have H : ((saronref00_Sits.f a1 0 (wrap64 (a0_0 - 1))).bind fun t123 => (some t123)) = some r := h
 clear h
 replace H := Option.bind_eq_some_iff.mp H
 obtain ⟨t123, A30, H⟩ := H
 replace H : (some t123) = some r := H
 have A3 := Aside0.mk A30
 clear A30
 obtain rfl := Option.some.inj H
 go_enter Tryd.func67, Tryd.ntmps67
 go_wp2_with (first | ((with_reducible refine gate_dst (N := 2) rfl ?_); refine box_event ?hg (N := 2) ?hd (cs := #[.int .i64 a0_0, .slice A0_1 l0_1.length c0_1]) (t := 24) ?hr ?_; (case hd => rfl); (case hg => rfl); (case hr => exact TS); intro gb122 hg w4 hbox hb; have BK122 := Aside0.mk (hbox); have GW122 := Aside0.mk ((TG : w.heap.size ≤ gb122)); have GE122 := Aside0.mk ((TG : w.heap.size ≤ gb122)); replace HB := Aside0.mk (below_step TB hb); clear hb hbox hg; have hcz5_0 := cz BK122.out 0; have hcz5_1 := cz BK122.out 1; have hfz5_0 := fz BK122.out 0; have hfz5_1 := fz BK122.out 1) | ((with_reducible refine gate_callee (f := 43) rfl ?_); refine goesL_ (some 9) rfl rfl Tryd.func43 (by kernel_rfl) rfl #[.int .i64 a1, .int .i64 0, .int .i64 (wrap64 (a0_0 - 1))] rfl TM ?_; (with_reducible refine (saronref00_Sits.calls a1 0 (wrap64 (a0_0 - 1)) t123 _ A3.out).mono ?_); rintro e w' ⟨rfl, ⟨nd, rfl⟩⟩; refine ⟨_, rfl, ?_⟩))
 go_ret
 exact ⟨TR, TB1 GE122.out⟩
/-! ### saronref05_isSpot: function 72 -/
def saronref05_isSpot.f (a0_0 : Int) (l0_1 : List (S63)) (a1_0 : Int) (a1_1 : Int) : Option (Bool) := (saronref05_isForm.f a0_0 l0_1 a1_0).bind fun t126 => (if t126 = true then (if 0 ≤ a1_0 then (if a1_0 < (l0_1.length : Int) then ((saronref00_Sits.f a1_1 0 (wrap64 (((rd_T63 l0_1 a1_0).f0) - 1))).bind fun t128 => (some t128)) else (none)) else (none)) else (some false))
def saronref05_isSpot.T1 : Bool × List (List Nat × List Nat) := (true, [([], []), ([], []), ([1], [1]), ([0, 2], [0, 2]), ([3, 3], [3]), ([4], [4]), ([5, 4], [4, 5]), ([4], [4]), ([7, 4], [4, 7]), ([4], [4]), ([9, 4], [4, 9]), ([8, 10, 4], [4, 8, 10]), ([11, 4], [4, 11]), ([12, 4], [4, 12]), ([13, 4], [4, 13]), ([6, 14, 4, 4], [4, 6, 14]), ([4, 15], [4, 15]), ([16, 15, 0, 1, 2, 3, 4, 5, 6, 7, 8, 9, 10, 11, 12, 13, 14, 15, 16], [16])])
def saronref05_isSpot.B1 : List Nat := [0, 0, 2, 7, 15, 31, 63, 31, 159, 31, 543, 1951, 3999, 8095, 16287, 32767, 65535, 131071]
theorem saronref05_isSpot.tab1 : rtab .any (opsOf Tryd.f72 1) = saronref05_isSpot.T1 := by kernel_rfl
theorem saronref05_isSpot.bits1 : waitsOk saronref05_isSpot.T1.2 saronref05_isSpot.B1 = true := by kernel_rfl
set_option maxHeartbeats 8000000 in
set_option maxRecDepth 100000 in
theorem saronref05_isSpot.calls (a0_0 : Int) (A0_1 : Option Addr) (c0_1 : Nat) (l0_1 : List (S63)) (a1_0 : Int) (a1_1 : Int) (r : Bool) (w : World) (hr0_1 : Kd.C k63 w A0_1 l0_1.length l0_1) (hc0_1 : l0_1.length ≤ c0_1) (h : saronref05_isSpot.f a0_0 l0_1 a1_0 a1_1 = some r) :
  Calls Tryd.prog 72 #[.agg #[.int .i64 a0_0, .slice A0_1 l0_1.length c0_1], .agg #[.int .i64 a1_0, .int .i64 a1_1]] w fun e w' => e = .returned (.bool r) ∧ Below w.heap.size w w' := by
 have hu24 := Tryd.underlying24
 have hu38 := Tryd.underlying38
 have HR0_1 := Aside0.mk hr0_1
 have HC0_1 := Aside0.mk hc0_1
 clear hr0_1 hc0_1
 have HB := Aside0.mk (Below.refl w.heap.size w)
 have H : ((saronref05_isForm.f a0_0 l0_1 a1_0).bind fun t126 => (if t126 = true then (if 0 ≤ a1_0 then (if a1_0 < (l0_1.length : Int) then ((saronref00_Sits.f a1_1 0 (wrap64 (((rd_T63 l0_1 a1_0).f0) - 1))).bind fun t128 => (some t128)) else (none)) else (none)) else (some false))) = some r := h
 clear h
 replace H := Option.bind_eq_some_iff.mp H
 obtain ⟨t126, A30, H⟩ := H
 replace H : (if t126 = true then (if 0 ≤ a1_0 then (if a1_0 < (l0_1.length : Int) then ((saronref00_Sits.f a1_1 0 (wrap64 (((rd_T63 l0_1 a1_0).f0) - 1))).bind fun t128 => (some t128)) else (none)) else (none)) else (some false)) = some r := H
 have A3 := Aside0.mk A30
 clear A30
 by_cases c4 : t126 = true
 ·subst c4
  have H1 : (if 0 ≤ a1_0 then (if a1_0 < (l0_1.length : Int) then ((saronref00_Sits.f a1_1 0 (wrap64 (((rd_T63 l0_1 a1_0).f0) - 1))).bind fun t128 => (some t128)) else (none)) else (none)) = some r := by rw [if_pos rfl] at H; exact H
  clear H
  have H := H1
  clear H1
  by_cases c5 : 0 ≤ a1_0
  ·rw [if_pos c5] at H
   have c5b0 : decide (0 ≤ a1_0) = true := decide_eq_true c5
   clear c5
   by_cases c6 : a1_0 < (l0_1.length : Int)
   ·rw [if_pos c6] at H
    have c6b0 : decide (a1_0 < (l0_1.length : Int)) = true := decide_eq_true c6
    clear c6
    replace H := Option.bind_eq_some_iff.mp H
    obtain ⟨t128, A70, H⟩ := H
    replace H : (some t128) = some r := H
    have A7 := Aside0.mk A70
    clear A70
    obtain rfl := Option.some.inj H
    go_enter Tryd.func72, Tryd.ntmps72
    try go_wp2_with (first | ((with_reducible refine gate_dst (N := 2) rfl ?_); refine box_event ?hg (N := 2) ?hd (cs := #[.int .i64 a0_0, .slice A0_1 l0_1.length c0_1]) (t := 24) ?hr ?_; (case hd => rfl); (case hg => rfl); (case hr => exact TS); intro gb124 hg w8 hbox hb; have BK124 := Aside0.mk (hbox); have GW124 := Aside0.mk ((TG : w.heap.size ≤ gb124)); have GE124 := Aside0.mk ((TG : w.heap.size ≤ gb124)); replace HB := Aside0.mk (below_step TB hb); clear hb hbox hg) | ((with_reducible refine gate_dst (N := 3) rfl ?_); refine box_event ?hg (N := 3) ?hd (cs := #[.int .i64 a1_0, .int .i64 a1_1]) (t := 38) ?hr ?_; (case hd => rfl); (case hg => rfl); (case hr => exact TS); intro gb125 hg w9 hbox hb; have BK125 := Aside0.mk (hbox); have GW125 := Aside0.mk ((TG1 GE124.out : w.heap.size ≤ gb125)); have GE125 := Aside0.mk ((TG1 GE124.out : w.heap.size ≤ gb125)); have NB124_125 := Aside0.mk ((by rw [hg]; exact Nat.ne_of_lt (blk_lt (g := gb124) (o := .cells #[.int .i64 a0_0, .slice A0_1 l0_1.length c0_1] 24 (0, 0)) (TK BK124.out)) : gb124 ≠ gb125)); have NB125_124 := Aside0.mk ((by rw [hg]; exact Nat.ne_of_gt (blk_lt (g := gb124) (o := .cells #[.int .i64 a0_0, .slice A0_1 l0_1.length c0_1] 24 (0, 0)) (TK BK124.out)) : gb125 ≠ gb124)); replace BK124 := Aside0.mk (TKb hb BK124.out); replace HB := Aside0.mk (below_step (TB1 GE124.out) hb); clear hb hbox hg))
    have n0_ := Aside0.mk (blk_drew BK124.out)
    have n1_ := Aside0.mk (blk_drew BK125.out)
    have n2_ := Aside0.mk (below_drew1 HB.out)
    clear BK124
    clear BK125
    clear HB
    have BK124 := n0_
    have BK125 := n1_
    have HB := n2_
    clear n0_ n1_ n2_
    have p127 : 0 ≤ (a1_0 : Int) := of_decide_eq_true TA
    have q127 : a1_0 < (l0_1.length : Int) := of_decide_eq_true TA
    obtain ⟨ad127, A127_1, c127_1, e127, hx127_0, hx127_1, hl127_1, hi127_1⟩ := at_T63 HR0_1.out a1_0 p127 q127
    have hw127_1 := hx127_1
    have hw127_0 := hx127_0
    cases e127
    replace hx127_0 := hx HB.out hx127_0
    replace hx127_1 := hx HB.out hx127_1
    have HR127_1 := Aside0.mk hi127_1
    have HC127_1 := Aside0.mk hl127_1
    clear hi127_1 hl127_1
    replace p127 := eq_true p127
    replace q127 := eq_true q127
    refine start_ (n := 18) (S := fun w' => w'.cell? ⟨gb124, 0, none⟩ = some (.int .i64 a0_0) ∧ w'.cell? ⟨gb124, 1, none⟩ = some (.slice (some ad127) l0_1.length c0_1) ∧ w'.cell? ⟨gb125, 0, none⟩ = some (.int .i64 a1_0) ∧ w'.cell? ⟨gb125, 1, none⟩ = some (.int .i64 a1_1) ∧ w'.cell? (ad127.add ((a1_0).toNat * 2)) = some (.int .i64 ((rd_T63 l0_1 a1_0).f0)) ∧ w'.cell? ⟨(ad127.add ((a1_0).toNat * 2)).block, (ad127.add ((a1_0).toNat * 2)).off + 1, none⟩ = some (.slice A127_1 ((rd_T63 l0_1 a1_0).f1).length c127_1)) (ds := []) (.replicate 18 false) (by kernel_rfl) rfl rfl ⟨cz BK124.out 0, cz BK124.out 1, cz BK125.out 0, cz BK125.out 1, (hx HB.out hw127_0), (hx HB.out hw127_1)⟩ (fun hHeld => ?_); refine with_tabW saronref05_isSpot.tab1 saronref05_isSpot.bits1 (fun HT_ HW_ => ?_)
    generalize w9.drew = w10 at BK124 BK125 HB HR127_1 hx127_0 hx127_1 hHeld ⊢
    refine pT 1 6 (bt 18 2) (k := ?_)
    refine tT6 0 5 (bt 18 3) hHeld (k := ?_)
    refine tT6 2 7 (bt 18 7) hHeld (k := ?_)
    refine one_ (i := 3) (N := some 8) (bt 18 15) rfl rfl (one_of HT_.out (by kernel_rfl)) (by decide) (fun K hK => ?_)
    refine goes_ Tryd.func59 (by kernel_rfl) rfl #[.agg #[.int .i64 a0_0, .slice (some ad127) l0_1.length c0_1], .int .i64 a1_0] (by rfl) rfl rfl TM ?_
    with_reducible refine (saronref05_isForm.calls a0_0 _ _ l0_1 a1_0 true _ ?side1 ?side2 A3.out).mono ?_
    (case side1 => exact TC HR0_1.out)
    (case side2 => exact HC0_1.out)
    rintro e w11 ⟨rfl, hb⟩
    refine ⟨_, rfl, ?_⟩
    have n0_ := Aside0.mk (TKb hb BK124.out)
    have n1_ := Aside0.mk (TKb hb BK125.out)
    have n2_ := Aside0.mk (below_step (TB2 GE124.out GE125.out) hb)
    clear BK124
    clear BK125
    clear HB
    have BK124 := n0_
    have BK125 := n1_
    have HB := n2_
    clear n0_ n1_ n2_
    (try clear hb)
    (try clear hb2)
    (try clear hk)
    (try clear hi)
    refine hK.out _ _ ⟨cz BK124.out 0, cz BK124.out 1, cz BK125.out 0, cz BK125.out 1, (hx HB.out hw127_0), (hx HB.out hw127_1)⟩ (fun hHeld => ?_)
    clear hK K
    refine norm_ (a' := ?_) ?_ ?_
    rotate_left
    ·show Act.put _ (some 8) _ = _
     simp only [Act.put, lA, lZ, lS, i64_w, i32_w]
     rfl
    refine pT 4 9 (bt 18 31) (k := ?_)
    refine pT 5 10 (bt 18 63) (k := ?_)
    refine pT 7 12 (bt 18 191) (k := ?_)
    refine pT 9 14 (bt 18 703) (k := ?_)
    refine tT6 6 11 (bt 18 767) hHeld (k := ?_)
    refine tT6 8 13 (bt 18 1023) hHeld (k := ?_)
    refine tT6 10 15 (bt 18 2047) hHeld (k := ?_)
    refine pT 11 16 (bt 18 4095) (k := ?_)
    refine pT 12 17 (bt 18 8191) (k := ?_)
    refine tT6 13 18 (bt 18 16383) hHeld (k := ?_)
    refine pT 14 19 (bt 18 32767) (k := ?_)
    refine one_ (i := 15) (N := some 20) (bt 18 65535) rfl rfl (one_of HT_.out (by kernel_rfl)) (by decide) (fun K hK => ?_)
    refine goes_ Tryd.func43 (by kernel_rfl) rfl #[.int .i64 a1_1, .int .i64 0, .int .i64 (wrap64 (((rd_T63 l0_1 a1_0).f0) - 1))] (by rfl) rfl rfl TM ?_
    with_reducible refine (saronref00_Sits.calls a1_1 0 (wrap64 (((rd_T63 l0_1 a1_0).f0) - 1)) t128 _ A7.out).mono ?_
    rintro e w' ⟨rfl, ⟨nd, rfl⟩⟩
    refine ⟨_, rfl, ?_⟩
    refine hK.out _ _ ⟨cz BK124.out 0, cz BK124.out 1, cz BK125.out 0, cz BK125.out 1, (hx (pw_below_drewN HB.out _) hw127_0), (hx (pw_below_drewN HB.out _) hw127_1)⟩ (fun hHeld => ?_)
    clear hK K
    refine norm_ (a' := ?_) ?_ ?_
    rotate_left
    ·show Act.put _ (some 20) _ = _
     simp only [Act.put, lA, lZ, lS, i64_w, i32_w]
     rfl
    refine pT 16 21 (bt 18 131071) (k := ?_)
    refine pT 17 4 (bt 18 262143) (k := ?_)
    refine done_ (done_of HT_.out (by kernel_rfl)) ?_
    try go_wp2
    go_ret
    exact ⟨TR, TB2 GE124.out GE125.out⟩
   ·rw [if_neg c6] at H
    exact absurd H (by simp)
  ·rw [if_neg c5] at H
   exact absurd H (by simp)
 ·replace c4 := Bool.eq_false_iff.mpr c4
  subst c4
  have H1 : (some false) = some r := by rw [if_neg (show ¬ (false = true) by decide)] at H; exact H
  clear H
  have H := H1
  clear H1
  obtain rfl := Option.some.inj H
  go_enter Tryd.func72, Tryd.ntmps72
  try go_wp2_with (first | ((with_reducible refine gate_dst (N := 2) rfl ?_); refine box_event ?hg (N := 2) ?hd (cs := #[.int .i64 a0_0, .slice A0_1 l0_1.length c0_1]) (t := 24) ?hr ?_; (case hd => rfl); (case hg => rfl); (case hr => exact TS); intro gb124 hg w12 hbox hb; have BK124 := Aside0.mk (hbox); have GW124 := Aside0.mk ((TG : w.heap.size ≤ gb124)); have GE124 := Aside0.mk ((TG : w.heap.size ≤ gb124)); replace HB := Aside0.mk (below_step TB hb); clear hb hbox hg) | ((with_reducible refine gate_dst (N := 3) rfl ?_); refine box_event ?hg (N := 3) ?hd (cs := #[.int .i64 a1_0, .int .i64 a1_1]) (t := 38) ?hr ?_; (case hd => rfl); (case hg => rfl); (case hr => exact TS); intro gb125 hg w13 hbox hb; have BK125 := Aside0.mk (hbox); have GW125 := Aside0.mk ((TG1 GE124.out : w.heap.size ≤ gb125)); have GE125 := Aside0.mk ((TG1 GE124.out : w.heap.size ≤ gb125)); have NB124_125 := Aside0.mk ((by rw [hg]; exact Nat.ne_of_lt (blk_lt (g := gb124) (o := .cells #[.int .i64 a0_0, .slice A0_1 l0_1.length c0_1] 24 (0, 0)) (TK BK124.out)) : gb124 ≠ gb125)); have NB125_124 := Aside0.mk ((by rw [hg]; exact Nat.ne_of_gt (blk_lt (g := gb124) (o := .cells #[.int .i64 a0_0, .slice A0_1 l0_1.length c0_1] 24 (0, 0)) (TK BK124.out)) : gb125 ≠ gb124)); replace BK124 := Aside0.mk (TKb hb BK124.out); replace HB := Aside0.mk (below_step (TB1 GE124.out) hb); clear hb hbox hg))
  have n0_ := Aside0.mk (blk_drew BK124.out)
  have n1_ := Aside0.mk (blk_drew BK125.out)
  have n2_ := Aside0.mk (below_drew1 HB.out)
  clear BK124
  clear BK125
  clear HB
  have BK124 := n0_
  have BK125 := n1_
  have HB := n2_
  clear n0_ n1_ n2_
  refine start_ (n := 18) (S := fun w' => w'.cell? ⟨gb124, 0, none⟩ = some (.int .i64 a0_0) ∧ w'.cell? ⟨gb124, 1, none⟩ = some (.slice A0_1 l0_1.length c0_1) ∧ w'.cell? ⟨gb125, 0, none⟩ = some (.int .i64 a1_0) ∧ w'.cell? ⟨gb125, 1, none⟩ = some (.int .i64 a1_1)) (ds := []) (.replicate 18 false) (by kernel_rfl) rfl rfl ⟨cz BK124.out 0, cz BK124.out 1, cz BK125.out 0, cz BK125.out 1⟩ (fun hHeld => ?_); refine with_tabW saronref05_isSpot.tab1 saronref05_isSpot.bits1 (fun HT_ HW_ => ?_)
  generalize w13.drew = w14 at BK124 BK125 HB hHeld ⊢
  refine pT 1 6 (bt 18 2) (k := ?_)
  refine tT4 0 5 (bt 18 3) hHeld (k := ?_)
  refine tT4 2 7 (bt 18 7) hHeld (k := ?_)
  refine one_ (i := 3) (N := some 8) (bt 18 15) rfl rfl (one_of HT_.out (by kernel_rfl)) (by decide) (fun K hK => ?_)
  refine goes_ Tryd.func59 (by kernel_rfl) rfl #[.agg #[.int .i64 a0_0, .slice A0_1 l0_1.length c0_1], .int .i64 a1_0] (by rfl) rfl rfl TM ?_
  with_reducible refine (saronref05_isForm.calls a0_0 _ _ l0_1 a1_0 false _ ?side1 ?side2 A3.out).mono ?_
  (case side1 => exact TC HR0_1.out)
  (case side2 => exact HC0_1.out)
  rintro e w15 ⟨rfl, hb⟩
  refine ⟨_, rfl, ?_⟩
  have n0_ := Aside0.mk (TKb hb BK124.out)
  have n1_ := Aside0.mk (TKb hb BK125.out)
  have n2_ := Aside0.mk (below_step (TB2 GE124.out GE125.out) hb)
  clear BK124
  clear BK125
  clear HB
  have BK124 := n0_
  have BK125 := n1_
  have HB := n2_
  clear n0_ n1_ n2_
  (try clear hb)
  (try clear hb2)
  (try clear hk)
  (try clear hi)
  refine hK.out _ _ ⟨cz BK124.out 0, cz BK124.out 1, cz BK125.out 0, cz BK125.out 1⟩ (fun hHeld => ?_)
  clear hK K
  refine norm_ (a' := ?_) ?_ ?_
  rotate_left
  ·show Act.put _ (some 8) _ = _
   simp only [Act.put, lA, lZ, lS, i64_w, i32_w]
   rfl
  refine pT 4 9 (bt 18 31) (k := ?_)
  refine pU 5 10 (bt 18 63) (k := ?_)
  refine pU 6 11 (bt 18 127) (k := ?_)
  refine pU 7 12 (bt 18 255) (k := ?_)
  refine pU 8 13 (bt 18 511) (k := ?_)
  refine pU 9 14 (bt 18 1023) (k := ?_)
  refine pU 10 15 (bt 18 2047) (k := ?_)
  refine pU 11 16 (bt 18 4095) (k := ?_)
  refine pU 12 17 (bt 18 8191) (k := ?_)
  refine pU 13 18 (bt 18 16383) (k := ?_)
  refine pU 14 19 (bt 18 32767) (k := ?_)
  refine pU 15 20 (bt 18 65535) (k := ?_)
  refine pT 16 21 (bt 18 131071) (k := ?_)
  refine pT 17 4 (bt 18 262143) (k := ?_)
  refine done_ (done_of HT_.out (by kernel_rfl)) ?_
  try go_wp2
  go_ret
  exact ⟨TR, TB2 GE124.out GE125.out⟩
/-! ### saronref05_struck: function 60 -/
def saronref05_struck.l0 : Nat → Int → List Int → Int → Int → List (S63) → Int → List (List Int) → Option (List Int)
 | 0, _, _, _, _, _, _, _ => none
 | k + 1, x2, x8, x9, x131000, x131001, x133000, x133001 => if x9 < x131000 then (if 0 ≤ x9 then (if x9 < (x133001.length : Int) then (if x133000 = 0 then (none) else ((saronref00_Where.f k (rd_L1 x133001 x9) (Int.tmod x2 x133000)).bind fun t134 => (if t134 ≥ 0 then (if x8.length < 17592186044416 then (saronref05_struck.l0 k x2 (x8 ++ [x9]) (wrap64 (x9 + 1)) x131000 x131001 x133000 x133001) else (none)) else (saronref05_struck.l0 k x2 x8 (wrap64 (x9 + 1)) x131000 x131001 x133000 x133001)))) else (none)) else (none)) else (some x8)
def saronref05_struck.f (k : Nat) (a0_0 : Int) (l0_1 : List (S63)) (a1 : Int) (a2 : Int) : Option (List Int) := if 0 ≤ a1 then (if a1 < (l0_1.length : Int) then (saronref05_struck.l0 k a2 ([] : List Int) 0 a0_0 l0_1 ((rd_T63 l0_1 a1).f0) ((rd_T63 l0_1 a1).f1)) else (none)) else (none)
theorem saronref05_struck.mono_l : ∀ k, (∀ y0 y1 y2 y3 y4 y5 y6, LeO (saronref05_struck.l0 k y0 y1 y2 y3 y4 y5 y6) (saronref05_struck.l0 (k + 1) y0 y1 y2 y3 y4 y5 y6))
 | 0 => fun _ _ _ _ _ _ _ r h => by simp [saronref05_struck.l0] at h
 | k + 1 => by
  have ih0 := saronref05_struck.mono_l k
  ·intro y0 y1 y2 y3 y4 y5 y6
   unfold saronref05_struck.l0
   repeat' first
   | (with_reducible exact ih0 _ _ _ _ _ _ _)
   | (with_reducible exact saronref00_Where.mono _ _ _)
   | (with_reducible exact LeO.refl _)
   | (with_reducible exact LeO.none _)
   | (with_reducible refine LeO.ite ?_ ?_)
   | (with_reducible refine LeO.bind ?_ (fun _ => ?_))
   | exact ih0 _ _ _ _ _ _ _
   | exact saronref00_Where.mono _ _ _
   | exact LeO.none _
   | refine LeO.ite ?_ ?_
   | refine LeO.bind ?_ (fun _ => ?_)
theorem saronref05_struck.mono : ∀ a0 a1 a2 a3 k, LeO (saronref05_struck.f k a0 a1 a2 a3) (saronref05_struck.f (k + 1) a0 a1 a2 a3) := by
 intro a0 a1 a2 a3 k
 have ih0 := saronref05_struck.mono_l k
 unfold saronref05_struck.f
 repeat' first
   | (with_reducible exact ih0 _ _ _ _ _ _ _)
   | (with_reducible exact saronref00_Where.mono _ _ _)
   | (with_reducible exact LeO.refl _)
   | (with_reducible exact LeO.none _)
   | (with_reducible refine LeO.ite ?_ ?_)
   | (with_reducible refine LeO.bind ?_ (fun _ => ?_))
   | exact ih0 _ _ _ _ _ _ _
   | exact saronref00_Where.mono _ _ _
   | exact LeO.none _
   | refine LeO.ite ?_ ?_
   | refine LeO.bind ?_ (fun _ => ?_)
set_option maxHeartbeats 8000000 in
set_option maxRecDepth 100000 in
theorem saronref05_struck.calls (k : Nat) (a0_0 : Int) (A0_1 : Option Addr) (c0_1 : Nat) (l0_1 : List (S63)) (a1 : Int) (a2 : Int) (r : List Int) (w : World) (hr0_1 : Kd.C k63 w A0_1 l0_1.length l0_1) (hc0_1 : l0_1.length ≤ c0_1) (h : saronref05_struck.f k a0_0 l0_1 a1 a2 = some r) :
  Calls Tryd.prog 60 #[.agg #[.int .i64 a0_0, .slice A0_1 l0_1.length c0_1], .int .i64 a1, .int .i64 a2] w fun e w' => ∃ v0_ : Value, e = .returned (v0_) ∧ Kd.R (Kd.int .i64) 3 w' w.heap.size (fun _ => True) v0_ r ∧ Below w.heap.size w w' := by
 have hu24 := Tryd.underlying24
 have hu63 := Tryd.underlying63
 have HR0_1 := Aside0.mk hr0_1
 have HC0_1 := Aside0.mk hc0_1
 clear hr0_1 hc0_1
 have HB := Aside0.mk (Below.refl w.heap.size w)
 have H : (if 0 ≤ a1 then (if a1 < (l0_1.length : Int) then (saronref05_struck.l0 k a2 ([] : List Int) 0 a0_0 l0_1 ((rd_T63 l0_1 a1).f0) ((rd_T63 l0_1 a1).f1)) else (none)) else (none)) = some r := h
 clear h
 by_cases c4 : 0 ≤ a1
 ·rw [if_pos c4] at H
  have c4b0 : decide (0 ≤ a1) = true := decide_eq_true c4
  clear c4
  by_cases c5 : a1 < (l0_1.length : Int)
  ·rw [if_pos c5] at H
   have c5b0 : decide (a1 < (l0_1.length : Int)) = true := decide_eq_true c5
   clear c5
   have H' := Aside0.mk H
   clear H
   go_enter Tryd.func60, Tryd.ntmps60
   go_wp2_with (first | ((with_reducible refine gate_dst (N := 3) rfl ?_); refine box_event ?hg (N := 3) ?hd (cs := #[.int .i64 a0_0, .slice A0_1 l0_1.length c0_1]) (t := 24) ?hr ?_; (case hd => rfl); (case hg => rfl); (case hr => exact TS); intro gb130 hg w6 hbox hb; have BK130 := Aside0.mk (hbox); have GW130 := Aside0.mk ((TG : w.heap.size ≤ gb130)); have GE130 := Aside0.mk ((TG : w.heap.size ≤ gb130)); replace HB := Aside0.mk (below_step TB hb); clear hb hbox hg; have hcz7_0 := cz BK130.out 0; have hcz7_1 := cz BK130.out 1; have hfz7_0 := fz BK130.out 0; have hfz7_1 := fz BK130.out 1; have p131 : 0 ≤ (a1 : Int) := of_decide_eq_true TA; have q131 : a1 < (l0_1.length : Int) := of_decide_eq_true TA; obtain ⟨ad131, A131_1, c131_1, e131, hx131_0, hx131_1, hl131_1, hi131_1⟩ := at_T63 HR0_1.out a1 p131 q131; cases e131; replace hx131_0 := hx HB.out hx131_0; replace hx131_1 := hx HB.out hx131_1; have HR131_1 := Aside0.mk hi131_1; have HC131_1 := Aside0.mk hl131_1; clear hi131_1 hl131_1; replace p131 := eq_true p131; replace q131 := eq_true q131) | ((with_reducible refine gate_dst (N := 7) rfl ?_); refine box_event ?hg (N := 7) ?hd (cs := #[.int .i64 0, .slice none 0 0]) (t := 63) ?hr ?_; (case hd => rfl); (case hg => rfl); (case hr => exact TS); intro gb132 hg w8 hbox hb; have BK132 := Aside0.mk (hbox); have GW132 := Aside0.mk ((TG1 GE130.out : w.heap.size ≤ gb132)); have GE132 := Aside0.mk ((TG1 GE130.out : w.heap.size ≤ gb132)); have NB130_132 := Aside0.mk ((by rw [hg]; exact Nat.ne_of_lt (blk_lt (g := gb130) (o := .cells #[.int .i64 a0_0, .slice (some ad131) l0_1.length c0_1] 24 (0, 0)) (TK BK130.out)) : gb130 ≠ gb132)); have NB132_130 := Aside0.mk ((by rw [hg]; exact Nat.ne_of_gt (blk_lt (g := gb130) (o := .cells #[.int .i64 a0_0, .slice (some ad131) l0_1.length c0_1] 24 (0, 0)) (TK BK130.out)) : gb132 ≠ gb130)); replace BK130 := Aside0.mk (TKb hb BK130.out); replace HB := Aside0.mk (below_step (TB1 GE130.out) hb); clear hb hbox hg; have hnb9 := NB132_130.out; have hnc9 := NB130_132.out; have hcz10_0 := cz BK132.out 0; have hcz10_1 := cz BK132.out 1; have hfz10_0 := fz BK132.out 0; have hfz10_1 := fz BK132.out 1))
   repeat (go_quiet (first | ((with_reducible refine gate_dst (N := 3) rfl ?_); refine box_event ?hg (N := 3) ?hd (cs := #[.int .i64 a0_0, .slice A0_1 l0_1.length c0_1]) (t := 24) ?hr ?_; (case hd => rfl); (case hg => rfl); (case hr => exact TS); intro gb130 hg w6 hbox hb; have BK130 := Aside0.mk (hbox); have GW130 := Aside0.mk ((TG : w.heap.size ≤ gb130)); have GE130 := Aside0.mk ((TG : w.heap.size ≤ gb130)); replace HB := Aside0.mk (below_step TB hb); clear hb hbox hg; have hcz7_0 := cz BK130.out 0; have hcz7_1 := cz BK130.out 1; have hfz7_0 := fz BK130.out 0; have hfz7_1 := fz BK130.out 1; have p131 : 0 ≤ (a1 : Int) := of_decide_eq_true TA; have q131 : a1 < (l0_1.length : Int) := of_decide_eq_true TA; obtain ⟨ad131, A131_1, c131_1, e131, hx131_0, hx131_1, hl131_1, hi131_1⟩ := at_T63 HR0_1.out a1 p131 q131; cases e131; replace hx131_0 := hx HB.out hx131_0; replace hx131_1 := hx HB.out hx131_1; have HR131_1 := Aside0.mk hi131_1; have HC131_1 := Aside0.mk hl131_1; clear hi131_1 hl131_1; replace p131 := eq_true p131; replace q131 := eq_true q131) | ((with_reducible refine gate_dst (N := 7) rfl ?_); refine box_event ?hg (N := 7) ?hd (cs := #[.int .i64 0, .slice none 0 0]) (t := 63) ?hr ?_; (case hd => rfl); (case hg => rfl); (case hr => exact TS); intro gb132 hg w8 hbox hb; have BK132 := Aside0.mk (hbox); have GW132 := Aside0.mk ((TG1 GE130.out : w.heap.size ≤ gb132)); have GE132 := Aside0.mk ((TG1 GE130.out : w.heap.size ≤ gb132)); have NB130_132 := Aside0.mk ((by rw [hg]; exact Nat.ne_of_lt (blk_lt (g := gb130) (o := .cells #[.int .i64 a0_0, .slice (some ad131) l0_1.length c0_1] 24 (0, 0)) (TK BK130.out)) : gb130 ≠ gb132)); have NB132_130 := Aside0.mk ((by rw [hg]; exact Nat.ne_of_gt (blk_lt (g := gb130) (o := .cells #[.int .i64 a0_0, .slice (some ad131) l0_1.length c0_1] 24 (0, 0)) (TK BK130.out)) : gb132 ≠ gb130)); replace BK130 := Aside0.mk (TKb hb BK130.out); replace HB := Aside0.mk (below_step (TB1 GE130.out) hb); clear hb hbox hg; have hnb9 := NB132_130.out; have hnc9 := NB130_132.out; have hcz10_0 := cz BK132.out 0; have hcz10_1 := cz BK132.out 1; have hfz10_0 := fz BK132.out 0; have hfz10_1 := fz BK132.out 1)); try go_wp2_with (first | ((with_reducible refine gate_dst (N := 3) rfl ?_); refine box_event ?hg (N := 3) ?hd (cs := #[.int .i64 a0_0, .slice A0_1 l0_1.length c0_1]) (t := 24) ?hr ?_; (case hd => rfl); (case hg => rfl); (case hr => exact TS); intro gb130 hg w6 hbox hb; have BK130 := Aside0.mk (hbox); have GW130 := Aside0.mk ((TG : w.heap.size ≤ gb130)); have GE130 := Aside0.mk ((TG : w.heap.size ≤ gb130)); replace HB := Aside0.mk (below_step TB hb); clear hb hbox hg; have hcz7_0 := cz BK130.out 0; have hcz7_1 := cz BK130.out 1; have hfz7_0 := fz BK130.out 0; have hfz7_1 := fz BK130.out 1; have p131 : 0 ≤ (a1 : Int) := of_decide_eq_true TA; have q131 : a1 < (l0_1.length : Int) := of_decide_eq_true TA; obtain ⟨ad131, A131_1, c131_1, e131, hx131_0, hx131_1, hl131_1, hi131_1⟩ := at_T63 HR0_1.out a1 p131 q131; cases e131; replace hx131_0 := hx HB.out hx131_0; replace hx131_1 := hx HB.out hx131_1; have HR131_1 := Aside0.mk hi131_1; have HC131_1 := Aside0.mk hl131_1; clear hi131_1 hl131_1; replace p131 := eq_true p131; replace q131 := eq_true q131) | ((with_reducible refine gate_dst (N := 7) rfl ?_); refine box_event ?hg (N := 7) ?hd (cs := #[.int .i64 0, .slice none 0 0]) (t := 63) ?hr ?_; (case hd => rfl); (case hg => rfl); (case hr => exact TS); intro gb132 hg w8 hbox hb; have BK132 := Aside0.mk (hbox); have GW132 := Aside0.mk ((TG1 GE130.out : w.heap.size ≤ gb132)); have GE132 := Aside0.mk ((TG1 GE130.out : w.heap.size ≤ gb132)); have NB130_132 := Aside0.mk ((by rw [hg]; exact Nat.ne_of_lt (blk_lt (g := gb130) (o := .cells #[.int .i64 a0_0, .slice (some ad131) l0_1.length c0_1] 24 (0, 0)) (TK BK130.out)) : gb130 ≠ gb132)); have NB132_130 := Aside0.mk ((by rw [hg]; exact Nat.ne_of_gt (blk_lt (g := gb130) (o := .cells #[.int .i64 a0_0, .slice (some ad131) l0_1.length c0_1] 24 (0, 0)) (TK BK130.out)) : gb132 ≠ gb130)); replace BK130 := Aside0.mk (TKb hb BK130.out); replace HB := Aside0.mk (below_step (TB1 GE130.out) hb); clear hb hbox hg; have hnb9 := NB132_130.out; have hnc9 := NB130_132.out; have hcz10_0 := cz BK132.out 0; have hcz10_1 := cz BK132.out 1; have hfz10_0 := fz BK132.out 0; have hfz10_1 := fz BK132.out 1)))
   go_loopg [8, 9] k (fun kq v8 v9 w' => ∃ (x8_1 : List Int) (x9_1 : Int), v9 = .int .i64 x9_1 ∧ Aside0 (saronref05_struck.l0 kq a2 x8_1 x9_1 a0_0 l0_1 ((rd_T63 l0_1 a1).f0) ((rd_T63 l0_1 a1).f1) = some r) ∧ Aside0 (kq ≤ k) ∧ Aside0 (Kd.R (Kd.int .i64) 3 w' w.heap.size (fun _ => True) v8 x8_1) ∧ Aside0 (w'.heap[gb130]? = some (.cells #[.int .i64 a0_0, (.slice (some ad131) l0_1.length c0_1)] 24 (0, 0))) ∧ Aside0 (w'.heap[gb132]? = some (.cells #[.int .i64 ((rd_T63 l0_1 a1).f0), (.slice A131_1 ((rd_T63 l0_1 a1).f1).length c131_1)] 63 (0, 0))) ∧ Aside0 (Below w.heap.size w w'))
   case atStart => exact ⟨(([] : List Int)), (0), TT, H', ⟨Nat.le_refl _⟩, ⟨by first | exact Kd.R_nil _ _ _ _ _ | exact Kd.N_nil _ _ _ _ _ | exact Kd.V_nil _ _ _ _ _ | exact Kd.Q_nil _ _ _ _ _ | exact Kd.S_nil _ _ _ _ _⟩, ⟨by (with_reducible repeat (first | refine blk_drewN ?_ _ | refine blk_drew ?_ | refine blk_alloc ?_ _)); refine blk_far ?_ NB130_132.out _; (with_reducible repeat (first | refine blk_drewN ?_ _ | refine blk_drew ?_ | refine blk_alloc ?_ _)); refine blk_far ?_ NB130_132.out _; (with_reducible repeat (first | refine blk_drewN ?_ _ | refine blk_drew ?_ | refine blk_alloc ?_ _)); exact BK130.out⟩, ⟨by (with_reducible repeat (first | refine blk_drewN ?_ _ | refine blk_drew ?_ | refine blk_alloc ?_ _)); refine blk_put (cs := #[.int .i64 ((rd_T63 l0_1 a1).f0), .slice none 0 0]) ?_ 1 _ rfl; (with_reducible repeat (first | refine blk_drewN ?_ _ | refine blk_drew ?_ | refine blk_alloc ?_ _)); refine blk_put (cs := #[.int .i64 0, .slice none 0 0]) ?_ 0 _ rfl; (with_reducible repeat (first | refine blk_drewN ?_ _ | refine blk_drew ?_ | refine blk_alloc ?_ _)); exact BK132.out⟩, ⟨TB2 GE130.out GE132.out⟩⟩
   case round => as_aux_lemma =>
    clear H'
    try clear c1
    try clear p1
    try clear q1
    try clear hx1
    try clear p2
    try clear c4
    try clear c4b0
    try clear c5
    try clear c5b0
    try clear c6
    try clear c9
    try clear hcz10_0 hcz10_1
    try clear hcz7_0 hcz7_1
    try clear hfz10_0 hfz10_1
    try clear hfz7_0 hfz7_1
    try clear hx131_0
    try clear hx131_1
    try clear p131
    try clear q131
    obtain ⟨x8_1, x9_1, rfl, HA, HK1, HO_8, BK130, BK132, HB⟩ := hrel
    cases gk with
    | zero => exact absurd HA.out (by simp [saronref05_struck.l0])
    | succ k1 =>
     have H := HA.out
     clear HA
     simp only [saronref05_struck.l0] at H
     by_cases c11 : x9_1 < a0_0
     ·rw [if_pos c11] at H
      have c11b0 : decide (x9_1 < a0_0) = true := decide_eq_true c11
      clear c11
      by_cases c12 : 0 ≤ x9_1
      ·rw [if_pos c12] at H
       have c12b0 : decide (0 ≤ x9_1) = true := decide_eq_true c12
       clear c12
       by_cases c13 : x9_1 < (((rd_T63 l0_1 a1).f1).length : Int)
       ·rw [if_pos c13] at H
        have c13b0 : decide (x9_1 < (((rd_T63 l0_1 a1).f1).length : Int)) = true := decide_eq_true c13
        clear c13
        by_cases c14 : ((rd_T63 l0_1 a1).f0) = 0
        ·rw [if_pos c14] at H
         exact absurd H (by simp)
        ·rw [if_neg c14] at H
         have c14b0 : (((rd_T63 l0_1 a1).f0) == 0) = false := beq_eq_false_iff_ne.mpr c14
         have c14b1 : (((rd_T63 l0_1 a1).f0) != 0) = true := bne_iff_ne.mpr c14
         replace H := Option.bind_eq_some_iff.mp H
         obtain ⟨t134, A150, H⟩ := H
         replace H : (if t134 ≥ 0 then (if x8_1.length < 17592186044416 then (saronref05_struck.l0 k1 a2 (x8_1 ++ [x9_1]) (wrap64 (x9_1 + 1)) a0_0 l0_1 ((rd_T63 l0_1 a1).f0) ((rd_T63 l0_1 a1).f1)) else (none)) else (saronref05_struck.l0 k1 a2 x8_1 (wrap64 (x9_1 + 1)) a0_0 l0_1 ((rd_T63 l0_1 a1).f0) ((rd_T63 l0_1 a1).f1))) = some r := H
         have A15 := Aside0.mk A150
         clear A150
         by_cases c16 : t134 ≥ 0
         ·rw [if_pos c16] at H
          have c16b0 : decide (0 ≤ t134) = true := decide_eq_true c16
          clear c16
          by_cases c17 : x8_1.length < 17592186044416
          ·rw [if_pos c17] at H
           have LMc17 := Aside0.mk c17
           clear c17
           obtain ⟨y135, hy135⟩ : ∃ y_ : List Int, y_ = (x8_1 ++ [x9_1]) := ⟨_, rfl⟩
           replace H : (saronref05_struck.l0 k1 a2 y135 (wrap64 (x9_1 + 1)) a0_0 l0_1 ((rd_T63 l0_1 a1).f0) ((rd_T63 l0_1 a1).f1)) = some r := by first | (rw [hy135]; with_reducible exact H) | (have H2_ := (Option.bind_some _ _).symm.trans H; rw [hy135]; with_reducible exact H2_) | (have H2_ := (Option.bind_some _ _).symm.trans H; with_reducible exact H2_) | with_reducible exact H | (rw [hy135]; exact H) | exact H
           have Ny135 := Aside0.mk hy135
           clear hy135
           have H' := Aside0.mk H
           clear H
           have hnb18 := NB130_132.out
           have hnc18 := NB132_130.out
           have hcz19_0 := cz BK130.out 0
           have hcz19_1 := cz BK130.out 1
           have hfz19_0 := fz BK130.out 0
           have hfz19_1 := fz BK130.out 1
           have hcz20_0 := cz BK132.out 0
           have hcz20_1 := cz BK132.out 1
           have hfz20_0 := fz BK132.out 0
           have hfz20_1 := fz BK132.out 1
           have p133 : 0 ≤ (x9_1 : Int) := of_decide_eq_true TA
           have q133 : x9_1 < (((rd_T63 l0_1 a1).f1).length : Int) := of_decide_eq_true TA
           obtain ⟨ad133, A133_0, c133_0, e133, hx133_0, hl133_0, hi133_0⟩ := at_L1 HR131_1.out x9_1 p133 q133
           cases e133
           replace hx133_0 := hx HB.out hx133_0
           have HR133_0 := Aside0.mk hi133_0
           have HC133_0 := Aside0.mk hl133_0
           clear hi133_0 hl133_0
           replace p133 := eq_true p133
           replace q133 := eq_true q133
           go_wp2_with (first | (go_at_call 42; (with_reducible refine (saronref00_Where.calls k1 _ _ (rd_L1 ((rd_T63 l0_1 a1).f1) x9_1) (Int.tmod a2 ((rd_T63 l0_1 a1).f0)) t134 _ ?side1 ?side2 A15.out).mono ?_); (case side1 => exact TC HR133_0.out); (case side2 => exact HC133_0.out); rintro e w' ⟨rfl, ⟨nd, rfl⟩⟩; (try first | exact ⟨rfl, _, World.drewN_drewN _ _ _⟩ | exact ⟨rfl, _, Eq.trans (World.drewN_drewN _ _ _) (congrArg (World.drewN _) (Nat.add_assoc _ _ _))⟩)) | ((with_reducible refine gate_builtin (b := .append) (xs := #[.tmp 32, .tmp 34]) rfl ?_); at_builtin; refine Kd.R_append (Kd.int .i64) (w0 := w) w.heap.size rfl (.tmp 32) (.tmp 34) 26 3 (.int .i64 0) 8 rfl Tryd.underlying26 info3 rfl (by decide) (by omega) u8 x8_1 x9_1 [.int .i64 x9_1] (fun _ => True) (fun _ => False) rfl rfl ?aP (fun _ hk => hk.elim) ?aF ?aO ?aB ?aS ?aL ?_; (case aP => exact rfl); (case aB => exact (TB2 GE130.out GE132.out)); (case aF => exact (fun _ _ => trivial)); (case aO => exact (TRo HO_8.out)); (case aS => exact (below_size (TB2 GE130.out GE132.out))); (case aL => have := LMc17.out; omega); intro v136 w21 ho hb hg hat; rw [← Ny135.out] at ho; have HO137 := Aside0.mk (ho); replace BK130 := Aside0.mk (blk_grown (g := gb130) (o := .cells #[.int .i64 a0_0, .slice (some ad131) l0_1.length c0_1] 24 (0, 0)) (TK BK130.out) hg (Kd.R_ne HO_8.out BK130.out (by decide))); replace BK132 := Aside0.mk (blk_grown (g := gb132) (o := .cells #[.int .i64 ((rd_T63 l0_1 a1).f0), .slice (some ad133) ((rd_T63 l0_1 a1).f1).length c131_1] 63 (0, 0)) (TK BK132.out) hg (Kd.R_ne HO_8.out BK132.out (by decide))); replace HB := Aside0.mk (hb); clear HO_8; clear ho hb hg hat))
           repeat (go_quiet (first | (go_at_call 42; (with_reducible refine (saronref00_Where.calls k1 _ _ (rd_L1 ((rd_T63 l0_1 a1).f1) x9_1) (Int.tmod a2 ((rd_T63 l0_1 a1).f0)) t134 _ ?side1 ?side2 A15.out).mono ?_); (case side1 => exact TC HR133_0.out); (case side2 => exact HC133_0.out); rintro e w' ⟨rfl, ⟨nd, rfl⟩⟩; (try first | exact ⟨rfl, _, World.drewN_drewN _ _ _⟩ | exact ⟨rfl, _, Eq.trans (World.drewN_drewN _ _ _) (congrArg (World.drewN _) (Nat.add_assoc _ _ _))⟩)) | ((with_reducible refine gate_builtin (b := .append) (xs := #[.tmp 32, .tmp 34]) rfl ?_); at_builtin; refine Kd.R_append (Kd.int .i64) (w0 := w) w.heap.size rfl (.tmp 32) (.tmp 34) 26 3 (.int .i64 0) 8 rfl Tryd.underlying26 info3 rfl (by decide) (by omega) u8 x8_1 x9_1 [.int .i64 x9_1] (fun _ => True) (fun _ => False) rfl rfl ?aP (fun _ hk => hk.elim) ?aF ?aO ?aB ?aS ?aL ?_; (case aP => exact rfl); (case aB => exact (TB2 GE130.out GE132.out)); (case aF => exact (fun _ _ => trivial)); (case aO => exact (TRo HO_8.out)); (case aS => exact (below_size (TB2 GE130.out GE132.out))); (case aL => have := LMc17.out; omega); intro v136 w21 ho hb hg hat; rw [← Ny135.out] at ho; have HO137 := Aside0.mk (ho); replace BK130 := Aside0.mk (blk_grown (g := gb130) (o := .cells #[.int .i64 a0_0, .slice (some ad131) l0_1.length c0_1] 24 (0, 0)) (TK BK130.out) hg (Kd.R_ne HO_8.out BK130.out (by decide))); replace BK132 := Aside0.mk (blk_grown (g := gb132) (o := .cells #[.int .i64 ((rd_T63 l0_1 a1).f0), .slice (some ad133) ((rd_T63 l0_1 a1).f1).length c131_1] 63 (0, 0)) (TK BK132.out) hg (Kd.R_ne HO_8.out BK132.out (by decide))); replace HB := Aside0.mk (hb); clear HO_8; clear ho hb hg hat)); try go_wp2_with (first | (go_at_call 42; (with_reducible refine (saronref00_Where.calls k1 _ _ (rd_L1 ((rd_T63 l0_1 a1).f1) x9_1) (Int.tmod a2 ((rd_T63 l0_1 a1).f0)) t134 _ ?side1 ?side2 A15.out).mono ?_); (case side1 => exact TC HR133_0.out); (case side2 => exact HC133_0.out); rintro e w' ⟨rfl, ⟨nd, rfl⟩⟩; (try first | exact ⟨rfl, _, World.drewN_drewN _ _ _⟩ | exact ⟨rfl, _, Eq.trans (World.drewN_drewN _ _ _) (congrArg (World.drewN _) (Nat.add_assoc _ _ _))⟩)) | ((with_reducible refine gate_builtin (b := .append) (xs := #[.tmp 32, .tmp 34]) rfl ?_); at_builtin; refine Kd.R_append (Kd.int .i64) (w0 := w) w.heap.size rfl (.tmp 32) (.tmp 34) 26 3 (.int .i64 0) 8 rfl Tryd.underlying26 info3 rfl (by decide) (by omega) u8 x8_1 x9_1 [.int .i64 x9_1] (fun _ => True) (fun _ => False) rfl rfl ?aP (fun _ hk => hk.elim) ?aF ?aO ?aB ?aS ?aL ?_; (case aP => exact rfl); (case aB => exact (TB2 GE130.out GE132.out)); (case aF => exact (fun _ _ => trivial)); (case aO => exact (TRo HO_8.out)); (case aS => exact (below_size (TB2 GE130.out GE132.out))); (case aL => have := LMc17.out; omega); intro v136 w21 ho hb hg hat; rw [← Ny135.out] at ho; have HO137 := Aside0.mk (ho); replace BK130 := Aside0.mk (blk_grown (g := gb130) (o := .cells #[.int .i64 a0_0, .slice (some ad131) l0_1.length c0_1] 24 (0, 0)) (TK BK130.out) hg (Kd.R_ne HO_8.out BK130.out (by decide))); replace BK132 := Aside0.mk (blk_grown (g := gb132) (o := .cells #[.int .i64 ((rd_T63 l0_1 a1).f0), .slice (some ad133) ((rd_T63 l0_1 a1).f1).length c131_1] 63 (0, 0)) (TK BK132.out) hg (Kd.R_ne HO_8.out BK132.out (by decide))); replace HB := Aside0.mk (hb); clear HO_8; clear ho hb hg hat)))
           go_roundg k1
           case measure => have := HK1.out; omega
           case rel => exact ⟨(y135), (wrap64 (x9_1 + 1)), TT, H', ⟨by have := HK1.out; omega⟩, ⟨by (with_reducible repeat (first | apply Kd.R_alloc | apply Kd.R_drewN | apply Kd.R_drew)); exact HO137.out⟩, ⟨TK BK130.out⟩, ⟨TK BK132.out⟩, ⟨TB2 GE130.out GE132.out⟩⟩
          ·rw [if_neg c17] at H
           exact absurd H (by simp)
         ·rw [if_neg c16] at H
          have c16b0 : decide (0 ≤ t134) = false := decide_eq_false c16
          clear c16
          have H' := Aside0.mk H
          clear H
          have hnb22 := NB130_132.out
          have hnc22 := NB132_130.out
          have hcz23_0 := cz BK130.out 0
          have hcz23_1 := cz BK130.out 1
          have hfz23_0 := fz BK130.out 0
          have hfz23_1 := fz BK130.out 1
          have hcz24_0 := cz BK132.out 0
          have hcz24_1 := cz BK132.out 1
          have hfz24_0 := fz BK132.out 0
          have hfz24_1 := fz BK132.out 1
          have p133 : 0 ≤ (x9_1 : Int) := of_decide_eq_true TA
          have q133 : x9_1 < (((rd_T63 l0_1 a1).f1).length : Int) := of_decide_eq_true TA
          obtain ⟨ad133, A133_0, c133_0, e133, hx133_0, hl133_0, hi133_0⟩ := at_L1 HR131_1.out x9_1 p133 q133
          cases e133
          replace hx133_0 := hx HB.out hx133_0
          have HR133_0 := Aside0.mk hi133_0
          have HC133_0 := Aside0.mk hl133_0
          clear hi133_0 hl133_0
          replace p133 := eq_true p133
          replace q133 := eq_true q133
          go_wp2_with (first | (go_at_call 42; (with_reducible refine (saronref00_Where.calls k1 _ _ (rd_L1 ((rd_T63 l0_1 a1).f1) x9_1) (Int.tmod a2 ((rd_T63 l0_1 a1).f0)) t134 _ ?side1 ?side2 A15.out).mono ?_); (case side1 => exact TC HR133_0.out); (case side2 => exact HC133_0.out); rintro e w' ⟨rfl, ⟨nd, rfl⟩⟩; (try first | exact ⟨rfl, _, World.drewN_drewN _ _ _⟩ | exact ⟨rfl, _, Eq.trans (World.drewN_drewN _ _ _) (congrArg (World.drewN _) (Nat.add_assoc _ _ _))⟩)))
          repeat (go_quiet (first | (go_at_call 42; (with_reducible refine (saronref00_Where.calls k1 _ _ (rd_L1 ((rd_T63 l0_1 a1).f1) x9_1) (Int.tmod a2 ((rd_T63 l0_1 a1).f0)) t134 _ ?side1 ?side2 A15.out).mono ?_); (case side1 => exact TC HR133_0.out); (case side2 => exact HC133_0.out); rintro e w' ⟨rfl, ⟨nd, rfl⟩⟩; (try first | exact ⟨rfl, _, World.drewN_drewN _ _ _⟩ | exact ⟨rfl, _, Eq.trans (World.drewN_drewN _ _ _) (congrArg (World.drewN _) (Nat.add_assoc _ _ _))⟩))); try go_wp2_with (first | (go_at_call 42; (with_reducible refine (saronref00_Where.calls k1 _ _ (rd_L1 ((rd_T63 l0_1 a1).f1) x9_1) (Int.tmod a2 ((rd_T63 l0_1 a1).f0)) t134 _ ?side1 ?side2 A15.out).mono ?_); (case side1 => exact TC HR133_0.out); (case side2 => exact HC133_0.out); rintro e w' ⟨rfl, ⟨nd, rfl⟩⟩; (try first | exact ⟨rfl, _, World.drewN_drewN _ _ _⟩ | exact ⟨rfl, _, Eq.trans (World.drewN_drewN _ _ _) (congrArg (World.drewN _) (Nat.add_assoc _ _ _))⟩))))
          go_roundg k1
          case measure => have := HK1.out; omega
          case rel => exact ⟨(x8_1), (wrap64 (x9_1 + 1)), TT, H', ⟨by have := HK1.out; omega⟩, ⟨by (with_reducible repeat (first | apply Kd.R_alloc | apply Kd.R_drewN | apply Kd.R_drew)); exact HO_8.out⟩, ⟨TK BK130.out⟩, ⟨TK BK132.out⟩, ⟨TB2 GE130.out GE132.out⟩⟩
       ·rw [if_neg c13] at H
        exact absurd H (by simp)
      ·rw [if_neg c12] at H
       exact absurd H (by simp)
     ·rw [if_neg c11] at H
      have c11b0 : decide (x9_1 < a0_0) = false := decide_eq_false c11
      clear c11
      obtain rfl := Option.some.inj H
      have hnb25 := NB130_132.out
      have hnc25 := NB132_130.out
      have hcz26_0 := cz BK130.out 0
      have hcz26_1 := cz BK130.out 1
      have hfz26_0 := fz BK130.out 0
      have hfz26_1 := fz BK130.out 1
      go_wp2
      repeat (go_quiet (fail); try go_wp2)
      go_ret
      exact ⟨_, TR, by (with_reducible repeat (first | apply Kd.R_alloc | apply Kd.R_drewN | apply Kd.R_drew)); exact HO_8.out, TB2 GE130.out GE132.out⟩
  ·rw [if_neg c5] at H
   exact absurd H (by simp)
 ·rw [if_neg c4] at H
  exact absurd H (by simp)
end Go.Proofs.YtephecfapclgfaaDoor.PRaspKeys
namespace Go.Proofs.YtephecfapclgfaaDoor.PRaspKeys
open Go.RowKit Go.Proofs.YtephecfapclgfaaDoorW.PrintWords Go.Proofs.YtephecfapclgfaaDoorW.PrintLast Go.Proofs.YtephecfapclgfaaDoorW.PrintMore Go.Proofs.YtephecfapclgfaaDoor.M
attribute [local go_sem] max2_int min2_int max_two min_two max_three min_three max_four min_four   -- for this text's walks alone
/-! ### saronref05_spots: function 79 -/
mutual
def saronref05_spots.l0 : Nat → List (S38) → Int → Int → List (S63) → Option ((List (S38)))
 | 0, _, _, _, _ => none
 | k + 1, x3, x4, x139000, x139001 => if x4 < (x139001.length : Int) then (saronref05_spots.l1 k x3 x4 0 x139000 x139001) else (some x3)
def saronref05_spots.l1 : Nat → List (S38) → Int → Int → Int → List (S63) → Option ((List (S38)))
 | 0, _, _, _, _, _ => none
 | k + 1, x3, x4, x5, x139000, x139001 => if 0 ≤ x4 then (if x4 < (x139001.length : Int) then (if x5 < ((rd_T63 x139001 x4).f0) then (if x3.length < 8796093022208 then (saronref05_spots.l1 k (x3 ++ [(⟨x4, x5⟩ : S38)]) x4 (wrap64 (x5 + 1)) x139000 x139001) else (none)) else (saronref05_spots.l0 k x3 (wrap64 (x4 + 1)) x139000 x139001)) else (none)) else (none)
end
def saronref05_spots.f (k : Nat) (a0_0 : Int) (l0_1 : List (S63)) : Option ((List (S38))) := saronref05_spots.l0 k ([] : List (S38)) 0 a0_0 l0_1
theorem saronref05_spots.mono_l : ∀ k, (∀ y0 y1 y2 y3, LeO (saronref05_spots.l0 k y0 y1 y2 y3) (saronref05_spots.l0 (k + 1) y0 y1 y2 y3)) ∧ (∀ y0 y1 y2 y3 y4, LeO (saronref05_spots.l1 k y0 y1 y2 y3 y4) (saronref05_spots.l1 (k + 1) y0 y1 y2 y3 y4))
 | 0 => ⟨fun _ _ _ _ r h => by simp [saronref05_spots.l0] at h, fun _ _ _ _ _ r h => by simp [saronref05_spots.l1] at h⟩
 | k + 1 => by
  obtain ⟨ih0, ih1⟩ := saronref05_spots.mono_l k
  refine ⟨?_, ?_⟩
  ·intro y0 y1 y2 y3
   unfold saronref05_spots.l0
   repeat' first
   | (with_reducible exact ih0 _ _ _ _)
   | (with_reducible exact ih1 _ _ _ _ _)
   | (with_reducible exact LeO.refl _)
   | (with_reducible exact LeO.none _)
   | (with_reducible refine LeO.ite ?_ ?_)
   | (with_reducible refine LeO.bind ?_ (fun _ => ?_))
   | exact ih0 _ _ _ _
   | exact ih1 _ _ _ _ _
   | exact LeO.none _
   | refine LeO.ite ?_ ?_
   | refine LeO.bind ?_ (fun _ => ?_)
  ·intro y0 y1 y2 y3 y4
   unfold saronref05_spots.l1
   repeat' first
   | (with_reducible exact ih0 _ _ _ _)
   | (with_reducible exact ih1 _ _ _ _ _)
   | (with_reducible exact LeO.refl _)
   | (with_reducible exact LeO.none _)
   | (with_reducible refine LeO.ite ?_ ?_)
   | (with_reducible refine LeO.bind ?_ (fun _ => ?_))
   | exact ih0 _ _ _ _
   | exact ih1 _ _ _ _ _
   | exact LeO.none _
   | refine LeO.ite ?_ ?_
   | refine LeO.bind ?_ (fun _ => ?_)
theorem saronref05_spots.mono : ∀ a0 a1 k, LeO (saronref05_spots.f k a0 a1) (saronref05_spots.f (k + 1) a0 a1) := by
 intro a0 a1 k
 obtain ⟨ih0, ih1⟩ := saronref05_spots.mono_l k
 unfold saronref05_spots.f
 repeat' first
   | (with_reducible exact ih0 _ _ _ _)
   | (with_reducible exact ih1 _ _ _ _ _)
   | (with_reducible exact LeO.refl _)
   | (with_reducible exact LeO.none _)
   | (with_reducible refine LeO.ite ?_ ?_)
   | (with_reducible refine LeO.bind ?_ (fun _ => ?_))
   | exact ih0 _ _ _ _
   | exact ih1 _ _ _ _ _
   | exact LeO.none _
   | refine LeO.ite ?_ ?_
   | refine LeO.bind ?_ (fun _ => ?_)
set_option maxHeartbeats 8000000 in
set_option maxRecDepth 100000 in
theorem saronref05_spots.calls (k : Nat) (a0_0 : Int) (A0_1 : Option Addr) (c0_1 : Nat) (l0_1 : List (S63)) (r : List (S38)) (w : World) (hr0_1 : Kd.C k63 w A0_1 l0_1.length l0_1) (hc0_1 : l0_1.length ≤ c0_1) (h : saronref05_spots.f k a0_0 l0_1 = some r) :
  Calls Tryd.prog 79 #[.agg #[.int .i64 a0_0, .slice A0_1 l0_1.length c0_1]] w fun e w' => ∃ v0_ : Value, e = .returned (v0_) ∧ Kd.R k38 38 w' w.heap.size (fun _ => True) v0_ r ∧ Below w.heap.size w w' := by
 have hu24 := Tryd.underlying24
 have hu38 := Tryd.underlying38
 have HR0_1 := Aside0.mk hr0_1
 have HC0_1 := Aside0.mk hc0_1
 clear hr0_1 hc0_1
 have HB := Aside0.mk (Below.refl w.heap.size w)
 have H : (saronref05_spots.l0 k ([] : List (S38)) 0 a0_0 l0_1) = some r := h
 clear h
 have H' := Aside0.mk H
 clear H
 go_enter Tryd.func79, Tryd.ntmps79
 go_wp2_with (first | ((with_reducible refine gate_dst (N := 1) rfl ?_); refine box_event ?hg (N := 1) ?hd (cs := #[.int .i64 a0_0, .slice A0_1 l0_1.length c0_1]) (t := 24) ?hr ?_; (case hd => rfl); (case hg => rfl); (case hr => exact TS); intro gb138 hg w2 hbox hb; have BK138 := Aside0.mk (hbox); have GW138 := Aside0.mk ((TG : w.heap.size ≤ gb138)); have GE138 := Aside0.mk ((TG : w.heap.size ≤ gb138)); replace HB := Aside0.mk (below_step TB hb); clear hb hbox hg))
 go_loopg [3, 4] k (fun kq v3 v4 w' => ∃ (x3_1 : List (S38)) (x4_1 : Int), v4 = .int .i64 x4_1 ∧ Aside0 (saronref05_spots.l0 kq x3_1 x4_1 a0_0 l0_1 = some r) ∧ Aside0 (kq ≤ k) ∧ Aside0 (Kd.R k38 38 w' w.heap.size (fun _ => True) v3 x3_1) ∧ Aside0 (w'.heap[gb138]? = some (.cells #[.int .i64 a0_0, (.slice A0_1 l0_1.length c0_1)] 24 (0, 0))) ∧ Aside0 (Below w.heap.size w w'))
 case atStart => exact ⟨(([] : List (S38))), (0), TT, H', ⟨Nat.le_refl _⟩, ⟨by first | exact Kd.R_nil _ _ _ _ _ | exact Kd.N_nil _ _ _ _ _ | exact Kd.V_nil _ _ _ _ _ | exact Kd.Q_nil _ _ _ _ _ | exact Kd.S_nil _ _ _ _ _⟩, ⟨TK BK138.out⟩, ⟨TB1 GE138.out⟩⟩
 case round => as_aux_lemma =>
  clear H'
  try clear p2
  obtain ⟨x3_1, x4_1, rfl, HA, HK1, HO_3, BK138, HB⟩ := hrel
  cases gk with
  | zero => exact absurd HA.out (by simp [saronref05_spots.l0])
  | succ k1 =>
   have H := HA.out
   clear HA
   simp only [saronref05_spots.l0] at H
   by_cases c3 : x4_1 < (l0_1.length : Int)
   ·rw [if_pos c3] at H
    have c3b0 : decide (x4_1 < (l0_1.length : Int)) = true := decide_eq_true c3
    clear c3
    have H' := Aside0.mk H
    clear H
    have hcz4_0 := cz BK138.out 0
    have hcz4_1 := cz BK138.out 1
    have hfz4_0 := fz BK138.out 0
    have hfz4_1 := fz BK138.out 1
    go_wp2
    go_loopg [3, 5] k1 (fun kq v3 v5 w' => ∃ (x3_2 : List (S38)) (x5_2 : Int), v5 = .int .i64 x5_2 ∧ Aside0 (saronref05_spots.l1 kq x3_2 x4_1 x5_2 a0_0 l0_1 = some r) ∧ Aside0 (kq ≤ k1) ∧ Aside0 (Kd.R k38 38 w' w.heap.size (fun _ => True) v3 x3_2) ∧ Aside0 (w'.heap[gb138]? = some (.cells #[.int .i64 a0_0, (.slice A0_1 l0_1.length c0_1)] 24 (0, 0))) ∧ Aside0 (Below w.heap.size w w'))
    case atStart => exact ⟨(x3_1), (0), TT, H', ⟨Nat.le_refl _⟩, ⟨by (with_reducible repeat (first | apply Kd.R_alloc | apply Kd.R_drewN | apply Kd.R_drew)); exact HO_3.out⟩, ⟨TK BK138.out⟩, ⟨TB1 GE138.out⟩⟩
    case round => as_aux_lemma =>
     clear H'
     try clear p2
     try clear c3
     try clear c3b0
     try clear hcz4_0 hcz4_1 hfz4_0 hfz4_1
     try clear p2
     obtain ⟨x3_2, x5_2, rfl, HA, HK2, HO_3, BK138, HB⟩ := hrel
     cases gk with
     | zero => exact absurd HA.out (by simp [saronref05_spots.l1])
     | succ k2 =>
      have H := HA.out
      clear HA
      simp only [saronref05_spots.l1] at H
      by_cases c5 : 0 ≤ x4_1
      ·rw [if_pos c5] at H
       have c5b0 : decide (0 ≤ x4_1) = true := decide_eq_true c5
       clear c5
       by_cases c6 : x4_1 < (l0_1.length : Int)
       ·rw [if_pos c6] at H
        have c6b0 : decide (x4_1 < (l0_1.length : Int)) = true := decide_eq_true c6
        clear c6
        by_cases c7 : x5_2 < ((rd_T63 l0_1 x4_1).f0)
        ·rw [if_pos c7] at H
         have c7b0 : decide (x5_2 < ((rd_T63 l0_1 x4_1).f0)) = true := decide_eq_true c7
         clear c7
         by_cases c8 : x3_2.length < 8796093022208
         ·rw [if_pos c8] at H
          have LMc8 := Aside0.mk c8
          clear c8
          obtain ⟨y140, hy140⟩ : ∃ y_ : List (S38), y_ = (x3_2 ++ [(⟨x4_1, x5_2⟩ : S38)]) := ⟨_, rfl⟩
          replace H : (saronref05_spots.l1 k2 y140 x4_1 (wrap64 (x5_2 + 1)) a0_0 l0_1) = some r := by first | (rw [hy140]; with_reducible exact H) | (have H2_ := (Option.bind_some _ _).symm.trans H; rw [hy140]; with_reducible exact H2_) | (have H2_ := (Option.bind_some _ _).symm.trans H; with_reducible exact H2_) | with_reducible exact H | (rw [hy140]; exact H) | exact H
          have Ny140 := Aside0.mk hy140
          clear hy140
          have H' := Aside0.mk H
          clear H
          have hcz9_0 := cz BK138.out 0
          have hcz9_1 := cz BK138.out 1
          have hfz9_0 := fz BK138.out 0
          have hfz9_1 := fz BK138.out 1
          have p139 : 0 ≤ (x4_1 : Int) := of_decide_eq_true TA
          have q139 : x4_1 < (l0_1.length : Int) := of_decide_eq_true TA
          obtain ⟨ad139, A139_1, c139_1, e139, hx139_0, hx139_1, hl139_1, hi139_1⟩ := at_T63 HR0_1.out x4_1 p139 q139
          cases e139
          replace hx139_0 := hx HB.out hx139_0
          replace hx139_1 := hx HB.out hx139_1
          have HR139_1 := Aside0.mk hi139_1
          have HC139_1 := Aside0.mk hl139_1
          clear hi139_1 hl139_1
          replace p139 := eq_true p139
          replace q139 := eq_true q139
          go_wp2_with (first | ((with_reducible refine gate_builtin (b := .append) (xs := #[.tmp 23, .tmp 27]) rfl ?_); at_builtin; refine Kd.R_append k38 (w0 := w) w.heap.size rfl (.tmp 23) (.tmp 27) 45 38 (.agg #[(.int .i64 0), (.int .i64 0)]) 16 rfl Tryd.underlying45 info38 rfl (by decide) (by omega) u3 x3_2 (⟨x4_1, x5_2⟩ : S38) [.int .i64 x4_1, .int .i64 x5_2] (fun _ => True) (fun _ => False) rfl rfl ?aP (fun _ hk => hk.elim) ?aF ?aO ?aB ?aS ?aL ?_; (case aP => exact k38_mkM _ _ _ (⟨x4_1, x5_2⟩ : S38)); (case aB => exact (TB1 GE138.out)); (case aF => exact (fun _ _ => trivial)); (case aO => exact (TRo HO_3.out)); (case aS => exact (below_size (TB1 GE138.out))); (case aL => have := LMc8.out; omega); intro v141 w10 ho hb hg hat; rw [← Ny140.out] at ho; have HO142 := Aside0.mk (ho); replace BK138 := Aside0.mk (blk_grown (g := gb138) (o := .cells #[.int .i64 a0_0, .slice (some ad139) l0_1.length c0_1] 24 (0, 0)) (TK BK138.out) hg (Kd.R_ne HO_3.out BK138.out (by decide))); replace HB := Aside0.mk (hb); clear HO_3; clear ho hb hg hat))
          go_roundg k2
          case measure => have := HK1.out; have := HK2.out; omega
          case rel => exact ⟨(y140), (wrap64 (x5_2 + 1)), TT, H', ⟨by have := HK1.out; have := HK2.out; omega⟩, ⟨by (with_reducible repeat (first | apply Kd.R_alloc | apply Kd.R_drewN | apply Kd.R_drew)); exact HO142.out⟩, ⟨TK BK138.out⟩, ⟨TB1 GE138.out⟩⟩
         ·rw [if_neg c8] at H
          exact absurd H (by simp)
        ·rw [if_neg c7] at H
         have c7b0 : decide (x5_2 < ((rd_T63 l0_1 x4_1).f0)) = false := decide_eq_false c7
         clear c7
         have H' := Aside0.mk H
         clear H
         have hcz11_0 := cz BK138.out 0
         have hcz11_1 := cz BK138.out 1
         have hfz11_0 := fz BK138.out 0
         have hfz11_1 := fz BK138.out 1
         have p139 : 0 ≤ (x4_1 : Int) := of_decide_eq_true TA
         have q139 : x4_1 < (l0_1.length : Int) := of_decide_eq_true TA
         obtain ⟨ad139, A139_1, c139_1, e139, hx139_0, hx139_1, hl139_1, hi139_1⟩ := at_T63 HR0_1.out x4_1 p139 q139
         cases e139
         replace hx139_0 := hx HB.out hx139_0
         replace hx139_1 := hx HB.out hx139_1
         have HR139_1 := Aside0.mk hi139_1
         have HC139_1 := Aside0.mk hl139_1
         clear hi139_1 hl139_1
         replace p139 := eq_true p139
         replace q139 := eq_true q139
         go_wp2
         go_roundg k2
         case measure => have := HK1.out; have := HK2.out; omega
         case rel => exact ⟨(x3_2), (wrap64 (x4_1 + 1)), TT, H', ⟨by have := HK1.out; have := HK2.out; omega⟩, ⟨by (with_reducible repeat (first | apply Kd.R_alloc | apply Kd.R_drewN | apply Kd.R_drew)); exact HO_3.out⟩, ⟨TK BK138.out⟩, ⟨TB1 GE138.out⟩⟩
       ·rw [if_neg c6] at H
        exact absurd H (by simp)
      ·rw [if_neg c5] at H
       exact absurd H (by simp)
   ·rw [if_neg c3] at H
    have c3b0 : decide (x4_1 < (l0_1.length : Int)) = false := decide_eq_false c3
    clear c3
    obtain rfl := Option.some.inj H
    have hcz12_0 := cz BK138.out 0
    have hcz12_1 := cz BK138.out 1
    have hfz12_0 := fz BK138.out 0
    have hfz12_1 := fz BK138.out 1
    go_wp2
    go_ret
    exact ⟨_, TR, by (with_reducible repeat (first | apply Kd.R_alloc | apply Kd.R_drewN | apply Kd.R_drew)); exact HO_3.out, TB1 GE138.out⟩
/-! ### saronref05_passage: function 73 -/
def saronref05_passage.l0 : Nat → Int → List (List Int) → Int → Int → List (S63) → Int → Int → Option ((List (List Int)))
 | 0, _, _, _, _, _, _, _ => none
 | k + 1, x2, x7, x8, x144000, x144001, x145000, x145001 => if x8 < x2 then ((saronref05_struck.f k x144000 x144001 x145000 (wrap64 (x145001 + x8))).bind fun t145 => (if x7.length < 5864062014805 then (saronref05_passage.l0 k x2 (x7 ++ [t145]) (wrap64 (x8 + 1)) x144000 x144001 x145000 x145001) else (none))) else (some x7)
def saronref05_passage.f (k : Nat) (a0_0 : Int) (l0_1 : List (S63)) (a1_0 : Int) (a1_1 : Int) (a2 : Int) : Option ((List (List Int))) := saronref05_passage.l0 k a2 ([] : List (List Int)) 0 a0_0 l0_1 a1_0 a1_1
theorem saronref05_passage.mono_l : ∀ k, (∀ y0 y1 y2 y3 y4 y5 y6, LeO (saronref05_passage.l0 k y0 y1 y2 y3 y4 y5 y6) (saronref05_passage.l0 (k + 1) y0 y1 y2 y3 y4 y5 y6))
 | 0 => fun _ _ _ _ _ _ _ r h => by simp [saronref05_passage.l0] at h
 | k + 1 => by
  have ih0 := saronref05_passage.mono_l k
  ·intro y0 y1 y2 y3 y4 y5 y6
   unfold saronref05_passage.l0
   repeat' first
   | (with_reducible exact ih0 _ _ _ _ _ _ _)
   | (with_reducible exact saronref05_struck.mono _ _ _ _ _)
   | (with_reducible exact LeO.refl _)
   | (with_reducible exact LeO.none _)
   | (with_reducible refine LeO.ite ?_ ?_)
   | (with_reducible refine LeO.bind ?_ (fun _ => ?_))
   | exact ih0 _ _ _ _ _ _ _
   | exact saronref05_struck.mono _ _ _ _ _
   | exact LeO.none _
   | refine LeO.ite ?_ ?_
   | refine LeO.bind ?_ (fun _ => ?_)
theorem saronref05_passage.mono : ∀ a0 a1 a2 a3 a4 k, LeO (saronref05_passage.f k a0 a1 a2 a3 a4) (saronref05_passage.f (k + 1) a0 a1 a2 a3 a4) := by
 intro a0 a1 a2 a3 a4 k
 have ih0 := saronref05_passage.mono_l k
 unfold saronref05_passage.f
 repeat' first
   | (with_reducible exact ih0 _ _ _ _ _ _ _)
   | (with_reducible exact saronref05_struck.mono _ _ _ _ _)
   | (with_reducible exact LeO.refl _)
   | (with_reducible exact LeO.none _)
   | (with_reducible refine LeO.ite ?_ ?_)
   | (with_reducible refine LeO.bind ?_ (fun _ => ?_))
   | exact ih0 _ _ _ _ _ _ _
   | exact saronref05_struck.mono _ _ _ _ _
   | exact LeO.none _
   | refine LeO.ite ?_ ?_
   | refine LeO.bind ?_ (fun _ => ?_)
set_option maxHeartbeats 8000000 in
set_option maxRecDepth 100000 in
theorem saronref05_passage.calls (k : Nat) (a0_0 : Int) (A0_1 : Option Addr) (c0_1 : Nat) (l0_1 : List (S63)) (a1_0 : Int) (a1_1 : Int) (a2 : Int) (r : List (List Int)) (w : World) (hr0_1 : Kd.C k63 w A0_1 l0_1.length l0_1) (hc0_1 : l0_1.length ≤ c0_1) (h : saronref05_passage.f k a0_0 l0_1 a1_0 a1_1 a2 = some r) :
  Calls Tryd.prog 73 #[.agg #[.int .i64 a0_0, .slice A0_1 l0_1.length c0_1], .agg #[.int .i64 a1_0, .int .i64 a1_1], .int .i64 a2] w fun e w' => ∃ v0_ : Value, e = .returned (v0_) ∧ Kd.S (Kd.slice 3 (Kd.int .i64)) 26 w' w.heap.size (fun _ => True) v0_ r ∧ Below w.heap.size w w' := by
 have hu24 := Tryd.underlying24
 have hu38 := Tryd.underlying38
 have HR0_1 := Aside0.mk hr0_1
 have HC0_1 := Aside0.mk hc0_1
 clear hr0_1 hc0_1
 have HB := Aside0.mk (Below.refl w.heap.size w)
 have H : (saronref05_passage.l0 k a2 ([] : List (List Int)) 0 a0_0 l0_1 a1_0 a1_1) = some r := h
 clear h
 have H' := Aside0.mk H
 clear H
 go_enter Tryd.func73, Tryd.ntmps73
 go_wp2_with (first | ((with_reducible refine gate_dst (N := 3) rfl ?_); refine box_event ?hg (N := 3) ?hd (cs := #[.int .i64 a0_0, .slice A0_1 l0_1.length c0_1]) (t := 24) ?hr ?_; (case hd => rfl); (case hg => rfl); (case hr => exact TS); intro gb143 hg w4 hbox hb; have BK143 := Aside0.mk (hbox); have GW143 := Aside0.mk ((TG : w.heap.size ≤ gb143)); have GE143 := Aside0.mk ((TG : w.heap.size ≤ gb143)); replace HB := Aside0.mk (below_step TB hb); clear hb hbox hg) | ((with_reducible refine gate_dst (N := 4) rfl ?_); refine box_event ?hg (N := 4) ?hd (cs := #[.int .i64 a1_0, .int .i64 a1_1]) (t := 38) ?hr ?_; (case hd => rfl); (case hg => rfl); (case hr => exact TS); intro gb144 hg w5 hbox hb; have BK144 := Aside0.mk (hbox); have GW144 := Aside0.mk ((TG1 GE143.out : w.heap.size ≤ gb144)); have GE144 := Aside0.mk ((TG1 GE143.out : w.heap.size ≤ gb144)); have NB143_144 := Aside0.mk ((by rw [hg]; exact Nat.ne_of_lt (blk_lt (g := gb143) (o := .cells #[.int .i64 a0_0, .slice A0_1 l0_1.length c0_1] 24 (0, 0)) (TK BK143.out)) : gb143 ≠ gb144)); have NB144_143 := Aside0.mk ((by rw [hg]; exact Nat.ne_of_gt (blk_lt (g := gb143) (o := .cells #[.int .i64 a0_0, .slice A0_1 l0_1.length c0_1] 24 (0, 0)) (TK BK143.out)) : gb144 ≠ gb143)); replace BK143 := Aside0.mk (TKb hb BK143.out); replace HB := Aside0.mk (below_step (TB1 GE143.out) hb); clear hb hbox hg))
 go_loopg [7, 8] k (fun kq v7 v8 w' => ∃ (x7_1 : List (List Int)) (x8_1 : Int), v8 = .int .i64 x8_1 ∧ Aside0 (saronref05_passage.l0 kq a2 x7_1 x8_1 a0_0 l0_1 a1_0 a1_1 = some r) ∧ Aside0 (kq ≤ k) ∧ Aside0 (Kd.S (Kd.slice 3 (Kd.int .i64)) 26 w' w.heap.size (fun _ => True) v7 x7_1) ∧ Aside0 (w'.heap[gb143]? = some (.cells #[.int .i64 a0_0, (.slice A0_1 l0_1.length c0_1)] 24 (0, 0))) ∧ Aside0 (w'.heap[gb144]? = some (.cells #[.int .i64 a1_0, .int .i64 a1_1] 38 (0, 0))) ∧ Aside0 (Below w.heap.size w w'))
 case atStart => exact ⟨(([] : List (List Int))), (0), TT, H', ⟨Nat.le_refl _⟩, ⟨by first | exact Kd.S_nil _ _ _ _ _ | exact Kd.N_nil _ _ _ _ _ | exact Kd.V_nil _ _ _ _ _ | exact Kd.Q_nil _ _ _ _ _ | exact Kd.R_nil _ _ _ _ _⟩, ⟨TK BK143.out⟩, ⟨TK BK144.out⟩, ⟨TB2 GE143.out GE144.out⟩⟩
 case round => as_aux_lemma =>
  clear H'
  try clear p2
  obtain ⟨x7_1, x8_1, rfl, HA, HK1, HO_7, BK143, BK144, HB⟩ := hrel
  cases gk with
  | zero => exact absurd HA.out (by simp [saronref05_passage.l0])
  | succ k1 =>
   have H := HA.out
   clear HA
   simp only [saronref05_passage.l0] at H
   by_cases c6 : x8_1 < a2
   ·rw [if_pos c6] at H
    have c6b0 : decide (x8_1 < a2) = true := decide_eq_true c6
    clear c6
    replace H := Option.bind_eq_some_iff.mp H
    obtain ⟨t145, A70, H⟩ := H
    replace H : (if x7_1.length < 5864062014805 then (saronref05_passage.l0 k1 a2 (x7_1 ++ [t145]) (wrap64 (x8_1 + 1)) a0_0 l0_1 a1_0 a1_1) else (none)) = some r := H
    have A7 := Aside0.mk A70
    clear A70
    by_cases c8 : x7_1.length < 5864062014805
    ·rw [if_pos c8] at H
     have LMc8 := Aside0.mk c8
     clear c8
     obtain ⟨y148, hy148⟩ : ∃ y_ : List (List Int), y_ = (x7_1 ++ [t145]) := ⟨_, rfl⟩
     replace H : (saronref05_passage.l0 k1 a2 y148 (wrap64 (x8_1 + 1)) a0_0 l0_1 a1_0 a1_1) = some r := by first | (rw [hy148]; with_reducible exact H) | (have H2_ := (Option.bind_some _ _).symm.trans H; rw [hy148]; with_reducible exact H2_) | (have H2_ := (Option.bind_some _ _).symm.trans H; with_reducible exact H2_) | with_reducible exact H | (rw [hy148]; exact H) | exact H
     have Ny148 := Aside0.mk hy148
     clear hy148
     have H' := Aside0.mk H
     clear H
     have hnb9 := NB143_144.out
     have hnc9 := NB144_143.out
     have hcz10_0 := cz BK143.out 0
     have hcz10_1 := cz BK143.out 1
     have hfz10_0 := fz BK143.out 0
     have hfz10_1 := fz BK143.out 1
     have hcz11_0 := cz BK144.out 0
     have hcz11_1 := cz BK144.out 1
     have hfz11_0 := fz BK144.out 0
     have hfz11_1 := fz BK144.out 1
     go_wp2_with (first | ((with_reducible refine gate_callee (f := 60) rfl ?_); refine goesL_ (some 22) rfl rfl Tryd.func60 (by kernel_rfl) rfl #[.agg #[.int .i64 a0_0, .slice A0_1 l0_1.length c0_1], .int .i64 a1_0, .int .i64 (wrap64 (a1_1 + x8_1))] rfl TM ?_; (with_reducible refine (saronref05_struck.calls k1 a0_0 _ _ l0_1 a1_0 (wrap64 (a1_1 + x8_1)) t145 _ ?side1 ?side2 A7.out).mono ?_); (case side1 => exact TC HR0_1.out); (case side2 => exact HC0_1.out); rintro e w12 ⟨v146, rfl, ho0, hb⟩; refine ⟨_, rfl, ?_⟩; have HO147 := Aside0.mk (Kd.R_lower ho0 (below_size (TB2 GE143.out GE144.out))); replace HO_7 := Aside0.mk (Kd.S_elder' (TSo HO_7.out) (Kd.R_base ho0) hb); replace BK143 := Aside0.mk (TKb hb BK143.out); replace BK144 := Aside0.mk (TKb hb BK144.out); replace HB := Aside0.mk (below_step (TB2 GE143.out GE144.out) hb); (try clear hb); (try clear hb2); (try clear hk); (try clear hi); (try clear ho0); obtain ⟨Ao14, co14, eo14⟩ := Kd.R_slice HO147.out; subst eo14) | ((with_reducible refine gate_builtin (b := .append) (xs := #[.tmp 14, .tmp 23]) rfl ?_); at_builtin; refine Kd.S_append (Kd.slice 3 (Kd.int .i64)) (w0 := w) w.heap.size rfl (.tmp 14) (.tmp 23) 39 26 (.slice none 0 0) 24 rfl Tryd.underlying39 info26 rfl (by decide) (by omega) u7 x7_1 t145 [.slice Ao14 t145.length co14] (fun _ => True) (fun k_ => some k_ = (.slice Ao14 t145.length co14 : Value).ownBlock) rfl rfl ?aP (fun k_ hk_ => ((Kd.R_mono (ok' := fun k_ => ((fun _ => True)) k_ ∧ some k_ ≠ (u7 : Value).ownBlock) (Kd.R_apart' (HO147.out) (Kd.S_typed HO_7.out) (by decide)) (fun k_ hk => ⟨trivial, hk.2⟩))).1 k_ hk_.symm) ?aF ?aO ?aB ?aS ?aL ?_; (case aP => exact Kd.M_row (Kd.R_mono (Kd.R_tight rfl (Kd.R_mono (ok' := fun k_ => ((fun _ => True)) k_ ∧ some k_ ≠ (u7 : Value).ownBlock) (Kd.R_apart' (HO147.out) (Kd.S_typed HO_7.out) (by decide)) (fun k_ hk => ⟨trivial, hk.2⟩))) (fun _ h_ => h_))); (case aB => exact (TB2 GE143.out GE144.out)); (case aF => exact (fun _ _ => trivial)); (case aO => exact (by (with_reducible repeat (first | apply Kd.S_alloc | apply Kd.S_drewN | apply Kd.S_drew)); exact Kd.S_mono HO_7.out (fun k_ hk => ⟨trivial, fun e_ => hk.2 e_⟩))); (case aS => exact (below_size (TB2 GE143.out GE144.out))); (case aL => have := LMc8.out; omega); intro v149 w13 ho hb hg hat; rw [← Ny148.out] at ho; have HO150 := Aside0.mk (ho); replace BK143 := Aside0.mk (blk_grown (g := gb143) (o := .cells #[.int .i64 a0_0, .slice A0_1 l0_1.length c0_1] 24 (0, 0)) (TK BK143.out) hg (Kd.S_ne HO_7.out BK143.out (by decide))); replace BK144 := Aside0.mk (blk_grown (g := gb144) (o := .cells #[.int .i64 a1_0, .int .i64 a1_1] 38 (0, 0)) (TK BK144.out) hg (Kd.S_ne HO_7.out BK144.out (by decide))); replace HB := Aside0.mk (hb); clear HO_7 HO147; clear ho hb hg hat))
     go_roundg k1
     case measure => have := HK1.out; omega
     case rel => exact ⟨(y148), (wrap64 (x8_1 + 1)), TT, H', ⟨by have := HK1.out; omega⟩, ⟨by (with_reducible repeat (first | apply Kd.S_alloc | apply Kd.S_drewN | apply Kd.S_drew)); exact HO150.out⟩, ⟨TK BK143.out⟩, ⟨TK BK144.out⟩, ⟨TB2 GE143.out GE144.out⟩⟩
    ·rw [if_neg c8] at H
     exact absurd H (by simp)
   ·rw [if_neg c6] at H
    have c6b0 : decide (x8_1 < a2) = false := decide_eq_false c6
    clear c6
    obtain rfl := Option.some.inj H
    go_wp2
    go_ret
    exact ⟨_, TR, by (with_reducible repeat (first | apply Kd.S_alloc | apply Kd.S_drewN | apply Kd.S_drew)); exact HO_7.out, TB2 GE143.out GE144.out⟩
/-! ### saronref05_less: function 95 -/
mutual
def saronref05_less.l0 : Nat → List (List Int) → List (List Int) → List (S97) → Int → Option ((List (S97)))
 | 0, _, _, _, _ => none
 | k + 1, x0, x1, x5, x6 => if x6 < (x0.length : Int) then (if 0 ≤ x6 then (saronref05_less.l1 k x0 x1 x5 x6 (rd_L1 x0 x6) 0) else (none)) else (some x5)
def saronref05_less.l1 : Nat → List (List Int) → List (List Int) → List (S97) → Int → List Int → Int → Option ((List (S97)))
 | 0, _, _, _, _, _, _ => none
 | k + 1, x0, x1, x5, x6, x7, x8 => if x8 < (x7.length : Int) then (if 0 ≤ x6 then (if x6 < (x1.length : Int) then (if 0 ≤ x8 then ((saronref00_Where.f k (rd_L1 x1 x6) (rd x7 x8)).bind fun t154 => (if t154 < 0 then (if x5.length < 8796093022208 then (saronref05_less.l1 k x0 x1 (x5 ++ [(⟨x6, rd x7 x8⟩ : S97)]) x6 x7 (wrap64 (x8 + 1))) else (none)) else (saronref05_less.l1 k x0 x1 x5 x6 x7 (wrap64 (x8 + 1))))) else (none)) else (none)) else (none)) else (saronref05_less.l0 k x0 x1 x5 (wrap64 (x6 + 1)))
end
def saronref05_less.f (k : Nat) (l0 : List (List Int)) (l1 : List (List Int)) : Option ((List (S97))) := saronref05_less.l0 k l0 l1 ([] : List (S97)) 0
theorem saronref05_less.mono_l : ∀ k, (∀ y0 y1 y2 y3, LeO (saronref05_less.l0 k y0 y1 y2 y3) (saronref05_less.l0 (k + 1) y0 y1 y2 y3)) ∧ (∀ y0 y1 y2 y3 y4 y5, LeO (saronref05_less.l1 k y0 y1 y2 y3 y4 y5) (saronref05_less.l1 (k + 1) y0 y1 y2 y3 y4 y5))
 | 0 => ⟨fun _ _ _ _ r h => by simp [saronref05_less.l0] at h, fun _ _ _ _ _ _ r h => by simp [saronref05_less.l1] at h⟩
 | k + 1 => by
  obtain ⟨ih0, ih1⟩ := saronref05_less.mono_l k
  refine ⟨?_, ?_⟩
  ·intro y0 y1 y2 y3
   unfold saronref05_less.l0
   repeat' first
   | (with_reducible exact ih0 _ _ _ _)
   | (with_reducible exact ih1 _ _ _ _ _ _)
   | (with_reducible exact saronref00_Where.mono _ _ _)
   | (with_reducible exact LeO.refl _)
   | (with_reducible exact LeO.none _)
   | (with_reducible refine LeO.ite ?_ ?_)
   | (with_reducible refine LeO.bind ?_ (fun _ => ?_))
   | exact ih0 _ _ _ _
   | exact ih1 _ _ _ _ _ _
   | exact saronref00_Where.mono _ _ _
   | exact LeO.none _
   | refine LeO.ite ?_ ?_
   | refine LeO.bind ?_ (fun _ => ?_)
  ·intro y0 y1 y2 y3 y4 y5
   unfold saronref05_less.l1
   repeat' first
   | (with_reducible exact ih0 _ _ _ _)
   | (with_reducible exact ih1 _ _ _ _ _ _)
   | (with_reducible exact saronref00_Where.mono _ _ _)
   | (with_reducible exact LeO.refl _)
   | (with_reducible exact LeO.none _)
   | (with_reducible refine LeO.ite ?_ ?_)
   | (with_reducible refine LeO.bind ?_ (fun _ => ?_))
   | exact ih0 _ _ _ _
   | exact ih1 _ _ _ _ _ _
   | exact saronref00_Where.mono _ _ _
   | exact LeO.none _
   | refine LeO.ite ?_ ?_
   | refine LeO.bind ?_ (fun _ => ?_)
theorem saronref05_less.mono : ∀ a0 a1 k, LeO (saronref05_less.f k a0 a1) (saronref05_less.f (k + 1) a0 a1) := by
 intro a0 a1 k
 obtain ⟨ih0, ih1⟩ := saronref05_less.mono_l k
 unfold saronref05_less.f
 repeat' first
   | (with_reducible exact ih0 _ _ _ _)
   | (with_reducible exact ih1 _ _ _ _ _ _)
   | (with_reducible exact saronref00_Where.mono _ _ _)
   | (with_reducible exact LeO.refl _)
   | (with_reducible exact LeO.none _)
   | (with_reducible refine LeO.ite ?_ ?_)
   | (with_reducible refine LeO.bind ?_ (fun _ => ?_))
   | exact ih0 _ _ _ _
   | exact ih1 _ _ _ _ _ _
   | exact saronref00_Where.mono _ _ _
   | exact LeO.none _
   | refine LeO.ite ?_ ?_
   | refine LeO.bind ?_ (fun _ => ?_)
set_option maxHeartbeats 8000000 in
set_option maxRecDepth 100000 in
theorem saronref05_less.calls (k : Nat) (A0 : Option Addr) (c0 : Nat) (l0 : List (List Int)) (A1 : Option Addr) (c1 : Nat) (l1 : List (List Int)) (r : List (S97)) (w : World) (hr0 : Kd.C (Kd.slice 3 (Kd.int .i64)) w A0 l0.length l0) (hc0 : l0.length ≤ c0) (hr1 : Kd.C (Kd.slice 3 (Kd.int .i64)) w A1 l1.length l1) (hc1 : l1.length ≤ c1) (h : saronref05_less.f k l0 l1 = some r) :
  Calls Tryd.prog 95 #[.slice A0 l0.length c0, .slice A1 l1.length c1] w fun e w' => ∃ v0_ : Value, e = .returned (v0_) ∧ Kd.R k97 97 w' w.heap.size (fun _ => True) v0_ r ∧ Below w.heap.size w w' := by
 have hu97 := Tryd.underlying97
 have HR0 := Aside0.mk hr0
 have HC0 := Aside0.mk hc0
 clear hr0 hc0
 have HR1 := Aside0.mk hr1
 have HC1 := Aside0.mk hc1
 clear hr1 hc1
 have HB := Aside0.mk (Below.refl w.heap.size w)
 have H : (saronref05_less.l0 k l0 l1 ([] : List (S97)) 0) = some r := h
 clear h
 have H' := Aside0.mk H
 clear H
 go_enter Tryd.func95, Tryd.ntmps95
 go_wp2
 repeat (go_quiet (fail); try go_wp2)
 go_loopg [5, 6] k (fun kq v5 v6 w' => ∃ (x5_1 : List (S97)) (x6_1 : Int), v6 = .int .i64 x6_1 ∧ Aside0 (saronref05_less.l0 kq l0 l1 x5_1 x6_1 = some r) ∧ Aside0 (kq ≤ k) ∧ Aside0 (Kd.R k97 97 w' w.heap.size (fun _ => True) v5 x5_1) ∧ Aside0 (Below w.heap.size w w'))
 case atStart => exact ⟨(([] : List (S97))), (0), TT, H', ⟨Nat.le_refl _⟩, ⟨by first | exact Kd.R_nil _ _ _ _ _ | exact Kd.N_nil _ _ _ _ _ | exact Kd.V_nil _ _ _ _ _ | exact Kd.Q_nil _ _ _ _ _ | exact Kd.S_nil _ _ _ _ _⟩, ⟨TB⟩⟩
 case round => as_aux_lemma =>
  clear H'
  try clear c1
  try clear p2
  obtain ⟨x5_1, x6_1, rfl, HA, HK1, HO_5, HB⟩ := hrel
  cases gk with
  | zero => exact absurd HA.out (by simp [saronref05_less.l0])
  | succ k1 =>
   have H := HA.out
   clear HA
   simp only [saronref05_less.l0] at H
   by_cases c3 : x6_1 < (l0.length : Int)
   ·rw [if_pos c3] at H
    have c3b0 : decide (x6_1 < (l0.length : Int)) = true := decide_eq_true c3
    clear c3
    by_cases c4 : 0 ≤ x6_1
    ·rw [if_pos c4] at H
     have c4b0 : decide (0 ≤ x6_1) = true := decide_eq_true c4
     clear c4
     have H' := Aside0.mk H
     clear H
     have p151 : 0 ≤ (x6_1 : Int) := of_decide_eq_true TA
     have q151 : x6_1 < (l0.length : Int) := of_decide_eq_true TA
     obtain ⟨ad151, A151_0, c151_0, e151, hx151_0, hl151_0, hi151_0⟩ := at_L1 HR0.out x6_1 p151 q151
     cases e151
     replace hx151_0 := hx HB.out hx151_0
     have HR151_0 := Aside0.mk hi151_0
     have HC151_0 := Aside0.mk hl151_0
     clear hi151_0 hl151_0
     replace p151 := eq_true p151
     replace q151 := eq_true q151
     go_wp2
     repeat (go_quiet (fail); try go_wp2)
     go_loopg [5, 8] k1 (fun kq v5 v8 w' => ∃ (x5_2 : List (S97)) (x8_2 : Int), v8 = .int .i64 x8_2 ∧ Aside0 (saronref05_less.l1 kq l0 l1 x5_2 x6_1 (rd_L1 l0 x6_1) x8_2 = some r) ∧ Aside0 (kq ≤ k1) ∧ Aside0 (Kd.R k97 97 w' w.heap.size (fun _ => True) v5 x5_2) ∧ Aside0 (Below w.heap.size w w'))
     case atStart => exact ⟨(x5_1), (0), TT, H', ⟨Nat.le_refl _⟩, ⟨by (with_reducible repeat (first | apply Kd.R_alloc | apply Kd.R_drewN | apply Kd.R_drew)); exact HO_5.out⟩, ⟨TB⟩⟩
     case round => as_aux_lemma =>
      clear H'
      try clear c1
      try clear p1
      try clear q1
      try clear hx1
      try clear p2
      try clear c3
      try clear c3b0
      try clear c4
      try clear c4b0
      try clear hx151_0
      try clear p151
      try clear p2
      try clear q151
      obtain ⟨x5_2, x8_2, rfl, HA, HK2, HO_5, HB⟩ := hrel
      cases gk with
      | zero => exact absurd HA.out (by simp [saronref05_less.l1])
      | succ k2 =>
       have H := HA.out
       clear HA
       simp only [saronref05_less.l1] at H
       by_cases c5 : x8_2 < ((rd_L1 l0 x6_1).length : Int)
       ·rw [if_pos c5] at H
        have c5b0 : decide (x8_2 < ((rd_L1 l0 x6_1).length : Int)) = true := decide_eq_true c5
        clear c5
        by_cases c6 : 0 ≤ x6_1
        ·rw [if_pos c6] at H
         have c6b0 : decide (0 ≤ x6_1) = true := decide_eq_true c6
         clear c6
         by_cases c7 : x6_1 < (l1.length : Int)
         ·rw [if_pos c7] at H
          have c7b0 : decide (x6_1 < (l1.length : Int)) = true := decide_eq_true c7
          clear c7
          by_cases c8 : 0 ≤ x8_2
          ·rw [if_pos c8] at H
           have c8b0 : decide (0 ≤ x8_2) = true := decide_eq_true c8
           clear c8
           replace H := Option.bind_eq_some_iff.mp H
           obtain ⟨t154, A90, H⟩ := H
           replace H : (if t154 < 0 then (if x5_2.length < 8796093022208 then (saronref05_less.l1 k2 l0 l1 (x5_2 ++ [(⟨x6_1, rd (rd_L1 l0 x6_1) x8_2⟩ : S97)]) x6_1 (rd_L1 l0 x6_1) (wrap64 (x8_2 + 1))) else (none)) else (saronref05_less.l1 k2 l0 l1 x5_2 x6_1 (rd_L1 l0 x6_1) (wrap64 (x8_2 + 1)))) = some r := H
           have A9 := Aside0.mk A90
           clear A90
           by_cases c10 : t154 < 0
           ·rw [if_pos c10] at H
            have c10b0 : decide (t154 < 0) = true := decide_eq_true c10
            clear c10
            by_cases c11 : x5_2.length < 8796093022208
            ·rw [if_pos c11] at H
             have LMc11 := Aside0.mk c11
             clear c11
             obtain ⟨y156, hy156⟩ : ∃ y_ : List (S97), y_ = (x5_2 ++ [(⟨x6_1, rd (rd_L1 l0 x6_1) x8_2⟩ : S97)]) := ⟨_, rfl⟩
             replace H : (saronref05_less.l1 k2 l0 l1 y156 x6_1 (rd_L1 l0 x6_1) (wrap64 (x8_2 + 1))) = some r := by first | (rw [hy156]; with_reducible exact H) | (have H2_ := (Option.bind_some _ _).symm.trans H; rw [hy156]; with_reducible exact H2_) | (have H2_ := (Option.bind_some _ _).symm.trans H; with_reducible exact H2_) | with_reducible exact H | (rw [hy156]; exact H) | exact H
             have Ny156 := Aside0.mk hy156
             clear hy156
             have H' := Aside0.mk H
             clear H
             have p152 : 0 ≤ (x6_1 : Int) := of_decide_eq_true TA
             have q152 : x6_1 < (l1.length : Int) := of_decide_eq_true TA
             obtain ⟨ad152, A152_0, c152_0, e152, hx152_0, hl152_0, hi152_0⟩ := at_L1 HR1.out x6_1 p152 q152
             cases e152
             replace hx152_0 := hx HB.out hx152_0
             have HR152_0 := Aside0.mk hi152_0
             have HC152_0 := Aside0.mk hl152_0
             clear hi152_0 hl152_0
             replace p152 := eq_true p152
             replace q152 := eq_true q152
             have p153 : 0 ≤ (x8_2 : Int) := of_decide_eq_true TA
             have q153 : x8_2 < ((rd_L1 l0 x6_1).length : Int) := of_decide_eq_true TA
             obtain ⟨ad153, e153, hx153_0⟩ := Kd.at_int HR151_0.out x8_2 p153 q153
             cases e153
             replace hx153_0 := hx HB.out hx153_0
             replace p153 := eq_true p153
             replace q153 := eq_true q153
             go_wp2_with (first | (go_at_call 42; (with_reducible refine (saronref00_Where.calls k2 _ _ (rd_L1 l1 x6_1) (rd (rd_L1 l0 x6_1) x8_2) t154 _ ?side1 ?side2 A9.out).mono ?_); (case side1 => exact TC HR152_0.out); (case side2 => exact HC152_0.out); rintro e w' ⟨rfl, ⟨nd, rfl⟩⟩; (try first | exact ⟨rfl, _, World.drewN_drewN _ _ _⟩ | exact ⟨rfl, _, Eq.trans (World.drewN_drewN _ _ _) (congrArg (World.drewN _) (Nat.add_assoc _ _ _))⟩); have p155 : 0 ≤ (x8_2 : Int) := of_decide_eq_true TA; have q155 : x8_2 < ((rd_L1 l0 x6_1).length : Int) := of_decide_eq_true TA; obtain ⟨ad155, e155, hx155_0⟩ := Kd.at_int HR151_0.out x8_2 p155 q155; obtain rfl : ad153 = ad155 := (by injection e155); replace hx155_0 := hx HB.out hx155_0; replace p155 := eq_true p155; replace q155 := eq_true q155) | ((with_reducible refine gate_builtin (b := .append) (xs := #[.tmp 35, .tmp 42]) rfl ?_); at_builtin; refine Kd.R_append k97 (w0 := w) w.heap.size rfl (.tmp 35) (.tmp 42) 50 97 (.agg #[(.int .i64 0), (.int .i64 0)]) 16 rfl Tryd.underlying50 info97 rfl (by decide) (by omega) u5 x5_2 (⟨x6_1, rd (rd_L1 l0 x6_1) x8_2⟩ : S97) [.int .i64 x6_1, .int .i64 (rd (rd_L1 l0 x6_1) x8_2)] (fun _ => True) (fun _ => False) rfl rfl ?aP (fun _ hk => hk.elim) ?aF ?aO ?aB ?aS ?aL ?_; (case aP => exact k97_mkM _ _ _ (⟨x6_1, rd (rd_L1 l0 x6_1) x8_2⟩ : S97)); (case aB => exact TB); (case aF => exact (fun _ _ => trivial)); (case aO => exact (TRo HO_5.out)); (case aS => exact (below_size TB)); (case aL => have := LMc11.out; omega); intro v157 w12 ho hb hg hat; rw [← Ny156.out] at ho; have HO158 := Aside0.mk (ho); replace HB := Aside0.mk (hb); clear HO_5; clear ho hb hg hat))
             repeat (go_quiet (first | (go_at_call 42; (with_reducible refine (saronref00_Where.calls k2 _ _ (rd_L1 l1 x6_1) (rd (rd_L1 l0 x6_1) x8_2) t154 _ ?side1 ?side2 A9.out).mono ?_); (case side1 => exact TC HR152_0.out); (case side2 => exact HC152_0.out); rintro e w' ⟨rfl, ⟨nd, rfl⟩⟩; (try first | exact ⟨rfl, _, World.drewN_drewN _ _ _⟩ | exact ⟨rfl, _, Eq.trans (World.drewN_drewN _ _ _) (congrArg (World.drewN _) (Nat.add_assoc _ _ _))⟩); have p155 : 0 ≤ (x8_2 : Int) := of_decide_eq_true TA; have q155 : x8_2 < ((rd_L1 l0 x6_1).length : Int) := of_decide_eq_true TA; obtain ⟨ad155, e155, hx155_0⟩ := Kd.at_int HR151_0.out x8_2 p155 q155; obtain rfl : ad153 = ad155 := (by injection e155); replace hx155_0 := hx HB.out hx155_0; replace p155 := eq_true p155; replace q155 := eq_true q155) | ((with_reducible refine gate_builtin (b := .append) (xs := #[.tmp 35, .tmp 42]) rfl ?_); at_builtin; refine Kd.R_append k97 (w0 := w) w.heap.size rfl (.tmp 35) (.tmp 42) 50 97 (.agg #[(.int .i64 0), (.int .i64 0)]) 16 rfl Tryd.underlying50 info97 rfl (by decide) (by omega) u5 x5_2 (⟨x6_1, rd (rd_L1 l0 x6_1) x8_2⟩ : S97) [.int .i64 x6_1, .int .i64 (rd (rd_L1 l0 x6_1) x8_2)] (fun _ => True) (fun _ => False) rfl rfl ?aP (fun _ hk => hk.elim) ?aF ?aO ?aB ?aS ?aL ?_; (case aP => exact k97_mkM _ _ _ (⟨x6_1, rd (rd_L1 l0 x6_1) x8_2⟩ : S97)); (case aB => exact TB); (case aF => exact (fun _ _ => trivial)); (case aO => exact (TRo HO_5.out)); (case aS => exact (below_size TB)); (case aL => have := LMc11.out; omega); intro v157 w12 ho hb hg hat; rw [← Ny156.out] at ho; have HO158 := Aside0.mk (ho); replace HB := Aside0.mk (hb); clear HO_5; clear ho hb hg hat)); try go_wp2_with (first | (go_at_call 42; (with_reducible refine (saronref00_Where.calls k2 _ _ (rd_L1 l1 x6_1) (rd (rd_L1 l0 x6_1) x8_2) t154 _ ?side1 ?side2 A9.out).mono ?_); (case side1 => exact TC HR152_0.out); (case side2 => exact HC152_0.out); rintro e w' ⟨rfl, ⟨nd, rfl⟩⟩; (try first | exact ⟨rfl, _, World.drewN_drewN _ _ _⟩ | exact ⟨rfl, _, Eq.trans (World.drewN_drewN _ _ _) (congrArg (World.drewN _) (Nat.add_assoc _ _ _))⟩); have p155 : 0 ≤ (x8_2 : Int) := of_decide_eq_true TA; have q155 : x8_2 < ((rd_L1 l0 x6_1).length : Int) := of_decide_eq_true TA; obtain ⟨ad155, e155, hx155_0⟩ := Kd.at_int HR151_0.out x8_2 p155 q155; obtain rfl : ad153 = ad155 := (by injection e155); replace hx155_0 := hx HB.out hx155_0; replace p155 := eq_true p155; replace q155 := eq_true q155) | ((with_reducible refine gate_builtin (b := .append) (xs := #[.tmp 35, .tmp 42]) rfl ?_); at_builtin; refine Kd.R_append k97 (w0 := w) w.heap.size rfl (.tmp 35) (.tmp 42) 50 97 (.agg #[(.int .i64 0), (.int .i64 0)]) 16 rfl Tryd.underlying50 info97 rfl (by decide) (by omega) u5 x5_2 (⟨x6_1, rd (rd_L1 l0 x6_1) x8_2⟩ : S97) [.int .i64 x6_1, .int .i64 (rd (rd_L1 l0 x6_1) x8_2)] (fun _ => True) (fun _ => False) rfl rfl ?aP (fun _ hk => hk.elim) ?aF ?aO ?aB ?aS ?aL ?_; (case aP => exact k97_mkM _ _ _ (⟨x6_1, rd (rd_L1 l0 x6_1) x8_2⟩ : S97)); (case aB => exact TB); (case aF => exact (fun _ _ => trivial)); (case aO => exact (TRo HO_5.out)); (case aS => exact (below_size TB)); (case aL => have := LMc11.out; omega); intro v157 w12 ho hb hg hat; rw [← Ny156.out] at ho; have HO158 := Aside0.mk (ho); replace HB := Aside0.mk (hb); clear HO_5; clear ho hb hg hat)))
             go_roundg k2
             case measure => have := HK1.out; have := HK2.out; omega
             case rel => exact ⟨(y156), (wrap64 (x8_2 + 1)), TT, H', ⟨by have := HK1.out; have := HK2.out; omega⟩, ⟨by (with_reducible repeat (first | apply Kd.R_alloc | apply Kd.R_drewN | apply Kd.R_drew)); exact HO158.out⟩, ⟨TB⟩⟩
            ·rw [if_neg c11] at H
             exact absurd H (by simp)
           ·rw [if_neg c10] at H
            have c10b0 : decide (t154 < 0) = false := decide_eq_false c10
            clear c10
            have H' := Aside0.mk H
            clear H
            have p152 : 0 ≤ (x6_1 : Int) := of_decide_eq_true TA
            have q152 : x6_1 < (l1.length : Int) := of_decide_eq_true TA
            obtain ⟨ad152, A152_0, c152_0, e152, hx152_0, hl152_0, hi152_0⟩ := at_L1 HR1.out x6_1 p152 q152
            cases e152
            replace hx152_0 := hx HB.out hx152_0
            have HR152_0 := Aside0.mk hi152_0
            have HC152_0 := Aside0.mk hl152_0
            clear hi152_0 hl152_0
            replace p152 := eq_true p152
            replace q152 := eq_true q152
            have p153 : 0 ≤ (x8_2 : Int) := of_decide_eq_true TA
            have q153 : x8_2 < ((rd_L1 l0 x6_1).length : Int) := of_decide_eq_true TA
            obtain ⟨ad153, e153, hx153_0⟩ := Kd.at_int HR151_0.out x8_2 p153 q153
            cases e153
            replace hx153_0 := hx HB.out hx153_0
            replace p153 := eq_true p153
            replace q153 := eq_true q153
            go_wp2_with (first | (go_at_call 42; (with_reducible refine (saronref00_Where.calls k2 _ _ (rd_L1 l1 x6_1) (rd (rd_L1 l0 x6_1) x8_2) t154 _ ?side1 ?side2 A9.out).mono ?_); (case side1 => exact TC HR152_0.out); (case side2 => exact HC152_0.out); rintro e w' ⟨rfl, ⟨nd, rfl⟩⟩; (try first | exact ⟨rfl, _, World.drewN_drewN _ _ _⟩ | exact ⟨rfl, _, Eq.trans (World.drewN_drewN _ _ _) (congrArg (World.drewN _) (Nat.add_assoc _ _ _))⟩)))
            repeat (go_quiet (first | (go_at_call 42; (with_reducible refine (saronref00_Where.calls k2 _ _ (rd_L1 l1 x6_1) (rd (rd_L1 l0 x6_1) x8_2) t154 _ ?side1 ?side2 A9.out).mono ?_); (case side1 => exact TC HR152_0.out); (case side2 => exact HC152_0.out); rintro e w' ⟨rfl, ⟨nd, rfl⟩⟩; (try first | exact ⟨rfl, _, World.drewN_drewN _ _ _⟩ | exact ⟨rfl, _, Eq.trans (World.drewN_drewN _ _ _) (congrArg (World.drewN _) (Nat.add_assoc _ _ _))⟩))); try go_wp2_with (first | (go_at_call 42; (with_reducible refine (saronref00_Where.calls k2 _ _ (rd_L1 l1 x6_1) (rd (rd_L1 l0 x6_1) x8_2) t154 _ ?side1 ?side2 A9.out).mono ?_); (case side1 => exact TC HR152_0.out); (case side2 => exact HC152_0.out); rintro e w' ⟨rfl, ⟨nd, rfl⟩⟩; (try first | exact ⟨rfl, _, World.drewN_drewN _ _ _⟩ | exact ⟨rfl, _, Eq.trans (World.drewN_drewN _ _ _) (congrArg (World.drewN _) (Nat.add_assoc _ _ _))⟩))))
            go_roundg k2
            case measure => have := HK1.out; have := HK2.out; omega
            case rel => exact ⟨(x5_2), (wrap64 (x8_2 + 1)), TT, H', ⟨by have := HK1.out; have := HK2.out; omega⟩, ⟨by (with_reducible repeat (first | apply Kd.R_alloc | apply Kd.R_drewN | apply Kd.R_drew)); exact HO_5.out⟩, ⟨TB⟩⟩
          ·rw [if_neg c8] at H
           exact absurd H (by simp)
         ·rw [if_neg c7] at H
          exact absurd H (by simp)
        ·rw [if_neg c6] at H
         exact absurd H (by simp)
       ·rw [if_neg c5] at H
        have c5b0 : decide (x8_2 < ((rd_L1 l0 x6_1).length : Int)) = false := decide_eq_false c5
        clear c5
        have H' := Aside0.mk H
        clear H
        go_wp2
        repeat (go_quiet (fail); try go_wp2)
        go_roundg k2
        case measure => have := HK1.out; have := HK2.out; omega
        case rel => exact ⟨(x5_2), (wrap64 (x6_1 + 1)), TT, H', ⟨by have := HK1.out; have := HK2.out; omega⟩, ⟨by (with_reducible repeat (first | apply Kd.R_alloc | apply Kd.R_drewN | apply Kd.R_drew)); exact HO_5.out⟩, ⟨TB⟩⟩
    ·rw [if_neg c4] at H
     exact absurd H (by simp)
   ·rw [if_neg c3] at H
    have c3b0 : decide (x6_1 < (l0.length : Int)) = false := decide_eq_false c3
    clear c3
    obtain rfl := Option.some.inj H
    go_wp2
    repeat (go_quiet (fail); try go_wp2)
    go_ret
    exact ⟨_, TR, by (with_reducible repeat (first | apply Kd.R_alloc | apply Kd.R_drewN | apply Kd.R_drew)); exact HO_5.out, TB⟩
/-! ### saronref05_missing: function 80 -/
def saronref05_missing.f (k : Nat) (a0_0 : Int) (l0_1 : List (S63)) (a1_0 : Int) (a1_1 : Int) (l2 : List (List Int)) : Option ((List (S97)) × Bool) := (saronref05_passage.f k a0_0 l0_1 a1_0 a1_1 (l2.length : Int)).bind fun t161 => ((saronref05_less.f k t161 l2).bind fun t164 => ((saronref05_less.f k l2 t161).bind fun t167 => (some (t164, ((t167.length : Int) == 0)))))
theorem saronref05_missing.mono : ∀ a0 a1 a2 a3 a4 k, LeO (saronref05_missing.f k a0 a1 a2 a3 a4) (saronref05_missing.f (k + 1) a0 a1 a2 a3 a4) := by
 intro a0 a1 a2 a3 a4 k
 unfold saronref05_missing.f
 repeat' first
   | (with_reducible exact saronref05_less.mono _ _ _)
   | (with_reducible exact saronref05_passage.mono _ _ _ _ _ _)
   | (with_reducible exact LeO.refl _)
   | (with_reducible exact LeO.none _)
   | (with_reducible refine LeO.ite ?_ ?_)
   | (with_reducible refine LeO.bind ?_ (fun _ => ?_))
   | exact saronref05_less.mono _ _ _
   | exact saronref05_passage.mono _ _ _ _ _ _
   | exact LeO.none _
   | refine LeO.ite ?_ ?_
   | refine LeO.bind ?_ (fun _ => ?_)
set_option maxHeartbeats 8000000 in
set_option maxRecDepth 100000 in
theorem saronref05_missing.calls (k : Nat) (a0_0 : Int) (A0_1 : Option Addr) (c0_1 : Nat) (l0_1 : List (S63)) (a1_0 : Int) (a1_1 : Int) (A2 : Option Addr) (c2 : Nat) (l2 : List (List Int)) (r1 : List (S97)) (r2 : Bool) (w : World) (hr0_1 : Kd.C k63 w A0_1 l0_1.length l0_1) (hc0_1 : l0_1.length ≤ c0_1) (hr2 : Kd.C (Kd.slice 3 (Kd.int .i64)) w A2 l2.length l2) (hc2 : l2.length ≤ c2) (h : saronref05_missing.f k a0_0 l0_1 a1_0 a1_1 l2 = some (r1, r2)) :
  Calls Tryd.prog 80 #[.agg #[.int .i64 a0_0, .slice A0_1 l0_1.length c0_1], .agg #[.int .i64 a1_0, .int .i64 a1_1], .slice A2 l2.length c2] w fun e w' => ∃ v0_ : Value, e = .returned (.tuple #[v0_, .bool r2]) ∧ Kd.R k97 97 w' w.heap.size (fun _ => True) v0_ r1 ∧ Below w.heap.size w w' := by
 have hu24 := Tryd.underlying24
 have hu38 := Tryd.underlying38
 have HR0_1 := Aside0.mk hr0_1
 have HC0_1 := Aside0.mk hc0_1
 clear hr0_1 hc0_1
 have HR2 := Aside0.mk hr2
 have HC2 := Aside0.mk hc2
 clear hr2 hc2
 have HB := Aside0.mk (Below.refl w.heap.size w)
 have H : ((saronref05_passage.f k a0_0 l0_1 a1_0 a1_1 (l2.length : Int)).bind fun t161 => ((saronref05_less.f k t161 l2).bind fun t164 => ((saronref05_less.f k l2 t161).bind fun t167 => (some (t164, ((t167.length : Int) == 0)))))) = some (r1, r2) := h
 clear h
 replace H := Option.bind_eq_some_iff.mp H
 obtain ⟨t161, A40, H⟩ := H
 replace H : ((saronref05_less.f k t161 l2).bind fun t164 => ((saronref05_less.f k l2 t161).bind fun t167 => (some (t164, ((t167.length : Int) == 0))))) = some (r1, r2) := H
 have A4 := Aside0.mk A40
 clear A40
 replace H := Option.bind_eq_some_iff.mp H
 obtain ⟨t164, A50, H⟩ := H
 replace H : ((saronref05_less.f k l2 t161).bind fun t167 => (some (t164, ((t167.length : Int) == 0)))) = some (r1, r2) := H
 have A5 := Aside0.mk A50
 clear A50
 replace H := Option.bind_eq_some_iff.mp H
 obtain ⟨t167, A60, H⟩ := H
 replace H : (some (t164, ((t167.length : Int) == 0))) = some (r1, r2) := H
 have A6 := Aside0.mk A60
 clear A60
 simp only [Option.some.injEq, Prod.mk.injEq] at H
 obtain ⟨rfl, rfl⟩ := H
 go_enter Tryd.func80, Tryd.ntmps80
 go_wp2_with (first | ((with_reducible refine gate_dst (N := 3) rfl ?_); refine box_event ?hg (N := 3) ?hd (cs := #[.int .i64 a0_0, .slice A0_1 l0_1.length c0_1]) (t := 24) ?hr ?_; (case hd => rfl); (case hg => rfl); (case hr => exact TS); intro gb159 hg w7 hbox hb; have BK159 := Aside0.mk (hbox); have GW159 := Aside0.mk ((TG : w.heap.size ≤ gb159)); have GE159 := Aside0.mk ((TG : w.heap.size ≤ gb159)); replace HB := Aside0.mk (below_step TB hb); clear hb hbox hg) | ((with_reducible refine gate_dst (N := 4) rfl ?_); refine box_event ?hg (N := 4) ?hd (cs := #[.int .i64 a1_0, .int .i64 a1_1]) (t := 38) ?hr ?_; (case hd => rfl); (case hg => rfl); (case hr => exact TS); intro gb160 hg w8 hbox hb; have BK160 := Aside0.mk (hbox); have GW160 := Aside0.mk ((TG1 GE159.out : w.heap.size ≤ gb160)); have GE160 := Aside0.mk ((TG1 GE159.out : w.heap.size ≤ gb160)); have NB159_160 := Aside0.mk ((by rw [hg]; exact Nat.ne_of_lt (blk_lt (g := gb159) (o := .cells #[.int .i64 a0_0, .slice A0_1 l0_1.length c0_1] 24 (0, 0)) (TK BK159.out)) : gb159 ≠ gb160)); have NB160_159 := Aside0.mk ((by rw [hg]; exact Nat.ne_of_gt (blk_lt (g := gb159) (o := .cells #[.int .i64 a0_0, .slice A0_1 l0_1.length c0_1] 24 (0, 0)) (TK BK159.out)) : gb160 ≠ gb159)); replace BK159 := Aside0.mk (TKb hb BK159.out); replace HB := Aside0.mk (below_step (TB1 GE159.out) hb); clear hb hbox hg; have hnb9 := NB159_160.out; have hnc9 := NB160_159.out; have hcz10_0 := cz BK159.out 0; have hcz10_1 := cz BK159.out 1; have hfz10_0 := fz BK159.out 0; have hfz10_1 := fz BK159.out 1; have hcz11_0 := cz BK160.out 0; have hcz11_1 := cz BK160.out 1; have hfz11_0 := fz BK160.out 0; have hfz11_1 := fz BK160.out 1) | ((with_reducible refine gate_callee (f := 73) rfl ?_); refine goesL_ (some 13) rfl rfl Tryd.func73 (by kernel_rfl) rfl #[.agg #[.int .i64 a0_0, .slice A0_1 l0_1.length c0_1], .agg #[.int .i64 a1_0, .int .i64 a1_1], .int .i64 (l2.length : Int)] rfl TM ?_; (with_reducible refine (saronref05_passage.calls k a0_0 _ _ l0_1 a1_0 a1_1 (l2.length : Int) t161 _ ?side1 ?side2 A4.out).mono ?_); (case side1 => exact TC HR0_1.out); (case side2 => exact HC0_1.out); rintro e w12 ⟨v162, rfl, ho0, hb⟩; refine ⟨_, rfl, ?_⟩; have HO163 := Aside0.mk (Kd.S_lower ho0 (below_size (TB2 GE159.out GE160.out))); replace BK159 := Aside0.mk (TKb hb BK159.out); replace BK160 := Aside0.mk (TKb hb BK160.out); replace HB := Aside0.mk (below_step (TB2 GE159.out GE160.out) hb); (try clear hb); (try clear hb2); (try clear hk); (try clear hi); (try clear ho0); obtain ⟨Ao13, co13, eo13⟩ := Kd.S_slice HO163.out; subst eo13) | ((with_reducible refine gate_callee (f := 95) rfl ?_); refine goesL_ (some 16) rfl rfl Tryd.func95 (by kernel_rfl) rfl #[.slice Ao13 t161.length co13, .slice A2 l2.length c2] rfl TM ?_; (with_reducible refine (saronref05_less.calls k _ _ t161 _ _ l2 t164 _ ?side1 ?side2 ?side3 ?side4 A5.out).mono ?_); (case side1 => exact TE (Kd.S_reads' HO163.out).2.2); (case side2 => exact (Kd.S_reads' HO163.out).2.1); (case side3 => exact TC HR2.out); (case side4 => exact HC2.out); rintro e w14 ⟨v165, rfl, ho0, hb⟩; refine ⟨_, rfl, ?_⟩; have HO166 := Aside0.mk (Kd.R_lower ho0 (below_size (TB2 GE159.out GE160.out))); replace HO163 := Aside0.mk (Kd.S_below (TSo HO163.out) hb); replace BK159 := Aside0.mk (TKb hb BK159.out); replace BK160 := Aside0.mk (TKb hb BK160.out); replace HB := Aside0.mk (below_step (TB2 GE159.out GE160.out) hb); (try clear hb); (try clear hb2); (try clear hk); (try clear hi); (try clear ho0)) | ((with_reducible refine gate_callee (f := 95) rfl ?_); refine goesL_ (some 19) rfl rfl Tryd.func95 (by kernel_rfl) rfl #[.slice A2 l2.length c2, .slice Ao13 t161.length co13] rfl TM ?_; (with_reducible refine (saronref05_less.calls k _ _ l2 _ _ t161 t167 _ ?side1 ?side2 ?side3 ?side4 A6.out).mono ?_); (case side1 => exact TC HR2.out); (case side2 => exact HC2.out); (case side3 => exact TE (Kd.S_reads' HO163.out).2.2); (case side4 => exact (Kd.S_reads' HO163.out).2.1); rintro e w15 ⟨v168, rfl, ho0, hb⟩; refine ⟨_, rfl, ?_⟩; have HO169 := Aside0.mk (Kd.R_lower (Kd.R_new' ho0 (Kd.R_lt (TRo HO166.out))) (below_size (TB2 GE159.out GE160.out))); replace HO163 := Aside0.mk (Kd.S_below (TSo HO163.out) hb); replace HO166 := Aside0.mk (Kd.R_elder' (TRo HO166.out) (Kd.R_base ho0) hb); replace BK159 := Aside0.mk (TKb hb BK159.out); replace BK160 := Aside0.mk (TKb hb BK160.out); replace HB := Aside0.mk (below_step (TB2 GE159.out GE160.out) hb); (try clear hb); (try clear hb2); (try clear hk); (try clear hi); (try clear ho0); obtain ⟨Ao16, co16, eo16⟩ := Kd.R_slice HO169.out; subst eo16))
 go_ret2
 exact ⟨_, TR, by (with_reducible repeat (first | apply Kd.R_alloc | apply Kd.R_drewN | apply Kd.R_drew)); exact Kd.R_mono HO166.out (fun _ hk => trivial), TB2 GE159.out GE160.out⟩
/-! ### saronref05_IsHeard: function 78 -/
def saronref05_IsHeard.l0 : Nat → List (List Int) → Bool → Int → Int → List (S63) → Option (Bool)
 | 0, _, _, _, _, _ => none
 | k + 1, x1, x5, x6, x171000, x171001 => if x5 = true then (if x6 < (x1.length : Int) then (if 0 ≤ x6 then ((saronref00_Grows.f k (rd_L1 x1 x6) x171000).bind fun t173 => (saronref05_IsHeard.l0 k x1 t173 (wrap64 (x6 + 1)) x171000 x171001)) else (none)) else (some x5)) else (some x5)
def saronref05_IsHeard.f (k : Nat) (a0_0 : Int) (l0_1 : List (S63)) (l1 : List (List Int)) : Option (Bool) := (saronref00_Sits.f (l1.length : Int) 1 64).bind fun t171 => (saronref05_IsHeard.l0 k l1 t171 0 a0_0 l0_1)
theorem saronref05_IsHeard.mono_l : ∀ k, (∀ y0 y1 y2 y3 y4, LeO (saronref05_IsHeard.l0 k y0 y1 y2 y3 y4) (saronref05_IsHeard.l0 (k + 1) y0 y1 y2 y3 y4))
 | 0 => fun _ _ _ _ _ r h => by simp [saronref05_IsHeard.l0] at h
 | k + 1 => by
  have ih0 := saronref05_IsHeard.mono_l k
  ·intro y0 y1 y2 y3 y4
   unfold saronref05_IsHeard.l0
   repeat' first
   | (with_reducible exact ih0 _ _ _ _ _)
   | (with_reducible exact saronref00_Grows.mono _ _ _)
   | (with_reducible exact LeO.refl _)
   | (with_reducible exact LeO.none _)
   | (with_reducible refine LeO.ite ?_ ?_)
   | (with_reducible refine LeO.bind ?_ (fun _ => ?_))
   | exact ih0 _ _ _ _ _
   | exact saronref00_Grows.mono _ _ _
   | exact LeO.none _
   | refine LeO.ite ?_ ?_
   | refine LeO.bind ?_ (fun _ => ?_)
theorem saronref05_IsHeard.mono : ∀ a0 a1 a2 k, LeO (saronref05_IsHeard.f k a0 a1 a2) (saronref05_IsHeard.f (k + 1) a0 a1 a2) := by
 intro a0 a1 a2 k
 have ih0 := saronref05_IsHeard.mono_l k
 unfold saronref05_IsHeard.f
 repeat' first
   | (with_reducible exact ih0 _ _ _ _ _)
   | (with_reducible exact saronref00_Grows.mono _ _ _)
   | (with_reducible exact LeO.refl _)
   | (with_reducible exact LeO.none _)
   | (with_reducible refine LeO.ite ?_ ?_)
   | (with_reducible refine LeO.bind ?_ (fun _ => ?_))
   | exact ih0 _ _ _ _ _
   | exact saronref00_Grows.mono _ _ _
   | exact LeO.none _
   | refine LeO.ite ?_ ?_
   | refine LeO.bind ?_ (fun _ => ?_)
set_option maxHeartbeats 8000000 in
set_option maxRecDepth 100000 in
theorem saronref05_IsHeard.calls (k : Nat) (a0_0 : Int) (A0_1 : Option Addr) (c0_1 : Nat) (l0_1 : List (S63)) (A1 : Option Addr) (c1 : Nat) (l1 : List (List Int)) (r : Bool) (w : World) (hr0_1 : Kd.C k63 w A0_1 l0_1.length l0_1) (hc0_1 : l0_1.length ≤ c0_1) (hr1 : Kd.C (Kd.slice 3 (Kd.int .i64)) w A1 l1.length l1) (hc1 : l1.length ≤ c1) (h : saronref05_IsHeard.f k a0_0 l0_1 l1 = some r) :
  Calls Tryd.prog 78 #[.agg #[.int .i64 a0_0, .slice A0_1 l0_1.length c0_1], .slice A1 l1.length c1] w fun e w' => e = .returned (.bool r) ∧ Below w.heap.size w w' := by
 have hu24 := Tryd.underlying24
 have HR0_1 := Aside0.mk hr0_1
 have HC0_1 := Aside0.mk hc0_1
 clear hr0_1 hc0_1
 have HR1 := Aside0.mk hr1
 have HC1 := Aside0.mk hc1
 clear hr1 hc1
 have HB := Aside0.mk (Below.refl w.heap.size w)
 have H : ((saronref00_Sits.f (l1.length : Int) 1 64).bind fun t171 => (saronref05_IsHeard.l0 k l1 t171 0 a0_0 l0_1)) = some r := h
 clear h
 replace H := Option.bind_eq_some_iff.mp H
 obtain ⟨t171, A30, H⟩ := H
 replace H : (saronref05_IsHeard.l0 k l1 t171 0 a0_0 l0_1) = some r := H
 have A3 := Aside0.mk A30
 clear A30
 have H' := Aside0.mk H
 clear H
 go_enter Tryd.func78, Tryd.ntmps78
 go_wp2_with (first | ((with_reducible refine gate_dst (N := 2) rfl ?_); (try (refine gate_guard (by rfl) ?_; dsimp only)); refine box_event ?hg (N := 2) ?hd (cs := #[.int .i64 a0_0, .slice A0_1 l0_1.length c0_1]) (t := 24) ?hr ?_; (case hd => rfl); (case hg => rfl); (case hr => exact TS); intro gb170 hg w4 hbox hb; have BK170 := Aside0.mk (hbox); have GW170 := Aside0.mk ((TG : w.heap.size ≤ gb170)); have GE170 := Aside0.mk ((TG : w.heap.size ≤ gb170)); replace HB := Aside0.mk (below_step TB hb); clear hb hbox hg) | (go_at_call 43; (with_reducible refine (saronref00_Sits.calls (l1.length : Int) 1 64 t171 _ A3.out).mono ?_); rintro e w' ⟨rfl, ⟨nd, rfl⟩⟩; (try first | exact ⟨rfl, _, World.drewN_drewN _ _ _⟩ | exact ⟨rfl, _, Eq.trans (World.drewN_drewN _ _ _) (congrArg (World.drewN _) (Nat.add_assoc _ _ _))⟩)))
 repeat (go_quiet (first | ((with_reducible refine gate_dst (N := 2) rfl ?_); (try (refine gate_guard (by rfl) ?_; dsimp only)); refine box_event ?hg (N := 2) ?hd (cs := #[.int .i64 a0_0, .slice A0_1 l0_1.length c0_1]) (t := 24) ?hr ?_; (case hd => rfl); (case hg => rfl); (case hr => exact TS); intro gb170 hg w4 hbox hb; have BK170 := Aside0.mk (hbox); have GW170 := Aside0.mk ((TG : w.heap.size ≤ gb170)); have GE170 := Aside0.mk ((TG : w.heap.size ≤ gb170)); replace HB := Aside0.mk (below_step TB hb); clear hb hbox hg) | (go_at_call 43; (with_reducible refine (saronref00_Sits.calls (l1.length : Int) 1 64 t171 _ A3.out).mono ?_); rintro e w' ⟨rfl, ⟨nd, rfl⟩⟩; (try first | exact ⟨rfl, _, World.drewN_drewN _ _ _⟩ | exact ⟨rfl, _, Eq.trans (World.drewN_drewN _ _ _) (congrArg (World.drewN _) (Nat.add_assoc _ _ _))⟩))); try go_wp2_with (first | ((with_reducible refine gate_dst (N := 2) rfl ?_); (try (refine gate_guard (by rfl) ?_; dsimp only)); refine box_event ?hg (N := 2) ?hd (cs := #[.int .i64 a0_0, .slice A0_1 l0_1.length c0_1]) (t := 24) ?hr ?_; (case hd => rfl); (case hg => rfl); (case hr => exact TS); intro gb170 hg w4 hbox hb; have BK170 := Aside0.mk (hbox); have GW170 := Aside0.mk ((TG : w.heap.size ≤ gb170)); have GE170 := Aside0.mk ((TG : w.heap.size ≤ gb170)); replace HB := Aside0.mk (below_step TB hb); clear hb hbox hg) | (go_at_call 43; (with_reducible refine (saronref00_Sits.calls (l1.length : Int) 1 64 t171 _ A3.out).mono ?_); rintro e w' ⟨rfl, ⟨nd, rfl⟩⟩; (try first | exact ⟨rfl, _, World.drewN_drewN _ _ _⟩ | exact ⟨rfl, _, Eq.trans (World.drewN_drewN _ _ _) (congrArg (World.drewN _) (Nat.add_assoc _ _ _))⟩))))
 go_loopg [5, 6] k (fun kq v5 v6 w' => ∃ (x5_1 : Bool) (x6_1 : Int), v5 = .bool x5_1 ∧ v6 = .int .i64 x6_1 ∧ Aside0 (saronref05_IsHeard.l0 kq l1 x5_1 x6_1 a0_0 l0_1 = some r) ∧ Aside0 (kq ≤ k) ∧ Aside0 (w'.heap[gb170]? = some (.cells #[.int .i64 a0_0, (.slice A0_1 l0_1.length c0_1)] 24 (0, 0))) ∧ Aside0 (Below w.heap.size w w'))
 case atStart => exact ⟨(t171), (0), TT, TT, H', ⟨Nat.le_refl _⟩, ⟨TK BK170.out⟩, ⟨TB1 GE170.out⟩⟩
 case round => as_aux_lemma =>
  clear H'
  try clear c1
  try clear p2
  obtain ⟨x5_1, x6_1, rfl, rfl, HA, HK1, BK170, HB⟩ := hrel
  cases gk with
  | zero => exact absurd HA.out (by simp [saronref05_IsHeard.l0])
  | succ k1 =>
   have H := HA.out
   clear HA
   simp only [saronref05_IsHeard.l0] at H
   by_cases c5 : x5_1 = true
   ·subst c5
    have H1 : (if x6_1 < (l1.length : Int) then (if 0 ≤ x6_1 then ((saronref00_Grows.f k1 (rd_L1 l1 x6_1) a0_0).bind fun t173 => (saronref05_IsHeard.l0 k1 l1 t173 (wrap64 (x6_1 + 1)) a0_0 l0_1)) else (none)) else (some true)) = some r := by rw [if_pos rfl] at H; exact H
    clear H
    have H := H1
    clear H1
    by_cases c6 : x6_1 < (l1.length : Int)
    ·rw [if_pos c6] at H
     have c6b0 : decide (x6_1 < (l1.length : Int)) = true := decide_eq_true c6
     clear c6
     by_cases c7 : 0 ≤ x6_1
     ·rw [if_pos c7] at H
      have c7b0 : decide (0 ≤ x6_1) = true := decide_eq_true c7
      clear c7
      replace H := Option.bind_eq_some_iff.mp H
      obtain ⟨t173, A80, H⟩ := H
      replace H : (saronref05_IsHeard.l0 k1 l1 t173 (wrap64 (x6_1 + 1)) a0_0 l0_1) = some r := H
      have A8 := Aside0.mk A80
      clear A80
      have H' := Aside0.mk H
      clear H
      have p172 : 0 ≤ (x6_1 : Int) := of_decide_eq_true TA
      have q172 : x6_1 < (l1.length : Int) := of_decide_eq_true TA
      obtain ⟨ad172, A172_0, c172_0, e172, hx172_0, hl172_0, hi172_0⟩ := at_L1 HR1.out x6_1 p172 q172
      cases e172
      replace hx172_0 := hx HB.out hx172_0
      have HR172_0 := Aside0.mk hi172_0
      have HC172_0 := Aside0.mk hl172_0
      clear hi172_0 hl172_0
      replace p172 := eq_true p172
      replace q172 := eq_true q172
      have hcz9_0 := cz BK170.out 0
      have hcz9_1 := cz BK170.out 1
      have hfz9_0 := fz BK170.out 0
      have hfz9_1 := fz BK170.out 1
      go_wp2_with (first | (go_at_call 41; (with_reducible refine (saronref00_Grows.calls k1 _ _ (rd_L1 l1 x6_1) a0_0 t173 _ ?side1 ?side2 A8.out).mono ?_); (case side1 => exact TC HR172_0.out); (case side2 => exact HC172_0.out); rintro e w' ⟨rfl, ⟨nd, rfl⟩⟩; (try first | exact ⟨rfl, _, World.drewN_drewN _ _ _⟩ | exact ⟨rfl, _, Eq.trans (World.drewN_drewN _ _ _) (congrArg (World.drewN _) (Nat.add_assoc _ _ _))⟩)))
      repeat (go_quiet (first | (go_at_call 41; (with_reducible refine (saronref00_Grows.calls k1 _ _ (rd_L1 l1 x6_1) a0_0 t173 _ ?side1 ?side2 A8.out).mono ?_); (case side1 => exact TC HR172_0.out); (case side2 => exact HC172_0.out); rintro e w' ⟨rfl, ⟨nd, rfl⟩⟩; (try first | exact ⟨rfl, _, World.drewN_drewN _ _ _⟩ | exact ⟨rfl, _, Eq.trans (World.drewN_drewN _ _ _) (congrArg (World.drewN _) (Nat.add_assoc _ _ _))⟩))); try go_wp2_with (first | (go_at_call 41; (with_reducible refine (saronref00_Grows.calls k1 _ _ (rd_L1 l1 x6_1) a0_0 t173 _ ?side1 ?side2 A8.out).mono ?_); (case side1 => exact TC HR172_0.out); (case side2 => exact HC172_0.out); rintro e w' ⟨rfl, ⟨nd, rfl⟩⟩; (try first | exact ⟨rfl, _, World.drewN_drewN _ _ _⟩ | exact ⟨rfl, _, Eq.trans (World.drewN_drewN _ _ _) (congrArg (World.drewN _) (Nat.add_assoc _ _ _))⟩))))
      go_roundg k1
      case measure => have := HK1.out; omega
      case rel => exact ⟨(t173), (wrap64 (x6_1 + 1)), TT, TT, H', ⟨by have := HK1.out; omega⟩, ⟨TK BK170.out⟩, ⟨TB1 GE170.out⟩⟩
     ·rw [if_neg c7] at H
      exact absurd H (by simp)
    ·rw [if_neg c6] at H
     have c6b0 : decide (x6_1 < (l1.length : Int)) = false := decide_eq_false c6
     clear c6
     obtain rfl := Option.some.inj H
     go_wp2
     repeat (go_quiet (fail); try go_wp2)
     go_ret
     exact ⟨TR, TB1 GE170.out⟩
   ·replace c5 := Bool.eq_false_iff.mpr c5
    subst c5
    have H1 : (some false) = some r := by rw [if_neg (show ¬ (false = true) by decide)] at H; exact H
    clear H
    have H := H1
    clear H1
    obtain rfl := Option.some.inj H
    go_wp2
    repeat (go_quiet (fail); try go_wp2)
    go_ret
    exact ⟨TR, TB1 GE170.out⟩
end Go.Proofs.YtephecfapclgfaaDoor.PRaspKeys
