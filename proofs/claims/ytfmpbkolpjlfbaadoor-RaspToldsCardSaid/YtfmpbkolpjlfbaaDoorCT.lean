import Derived.Test.YtfmpbkolpjlfbaaDoorC0
import Derived.Test.YtfmpbkolpjlfbaaDoorM0
import Derived.Test.YtfmpbkolpjlfbaaDoorProg
import Derived.Below
import Derived.Deep.Draws
import Derived.Deep.AppendLies
import Derived.Maps.AppendAt
import Derived.OwnWalk
import Derived.Laws.BytesArg
import Derived.Laws.MakeOwn
import Derived.Laws.OwnMore
import Derived.Deep.OwnRows
import Derived.Tactics
import Derived.Lib.ConvBytes
import Derived.Laws.Slices
import Derived.WalkKit
import Derived.KernelRfl
import Derived.RowKit3
import Derived.Deep.LoopGhost
import Derived.Deep.QuietTactic
import Derived.BigQuiet
import Derived.WideLaws
import Derived.Deep.DeepCutAuto
import Derived.Deep.CutBlock
import Derived.Deep.RegionHeld3
import Derived.Laws.Rows
import Derived.Lib.AppendStr
import Derived.ArgAppend
import Derived.Laws.IdiomCopy
import Derived.OrdersHeld
import Derived.Laws.BitsLemmas
import Derived.RowKit
set_option linter.unusedVariables false
set_option linter.unusedSimpArgs false
namespace Go.Proofs.YtfmpbkolpjlfbaaDoor.PRaspKeys
open Go.RowKit Go.Proofs.YtfmpbkolpjlfbaaDoorW.PrintWords Go.Proofs.YtfmpbkolpjlfbaaDoorW.PrintLast Go.Proofs.YtfmpbkolpjlfbaaDoorW.PrintMore Go.Proofs.YtfmpbkolpjlfbaaDoor.M
attribute [local go_sem] max2_int min2_int max_two min_two max_three min_three max_four min_four   -- for this text's walks alone
theorem info38 : (Tryd.prog.info? 38).map (fun i => (i.zero, i.size, i.bytes)) = some (some (.slice none 0 0), 1, 24) := by kernel_rfl
/-! #### struct type 24 -/
/-! #### struct type 57 -/
/-! #### struct type 69 -/
end Go.Proofs.YtfmpbkolpjlfbaaDoor.PRaspKeys
namespace Go.Proofs.YtfmpbkolpjlfbaaDoor.PRaspKeys
open Go.RowKit Go.Proofs.YtfmpbkolpjlfbaaDoorW.PrintWords Go.Proofs.YtfmpbkolpjlfbaaDoorW.PrintLast Go.Proofs.YtfmpbkolpjlfbaaDoorW.PrintMore Go.Proofs.YtfmpbkolpjlfbaaDoor.M
attribute [local go_sem] max2_int min2_int max_two min_two max_three min_three max_four min_four   -- for this text's walks alone
/-! ### saronref03_Told: function 35 -/
mutual
def saronref03_Told.j1 : Nat → List Int → Bool → List (S57) → Int → Int → List (S69) → Option ((List (List Int)) × Int)
 | 0, _, _, _, _, _, _ => none
 | k + 1, x1, x6, x117000, x117001, x117002, x117003 => (saronref03_asked.f k x117000 x117001 x117002 x117003 x6).bind fun t120 => (if t120 = 0 then (saronref03_Told.l1 k x1 ([] : List (List Int)) 1 x117000 x117001 x117002 x117003) else (some (([] : List (List Int)), t120)))
def saronref03_Told.l1 : Nat → List Int → List (List Int) → Int → List (S57) → Int → Int → List (S69) → Option ((List (List Int)) × Int)
 | 0, _, _, _, _, _, _, _ => none
 | k + 1, x1, x9, x10, x117000, x117001, x117002, x117003 => if x10 < (x1.length : Int) then (saronref03_Told.l2 k x1 x9 x10 ([] : List Int) 0 x117000 x117001 x117002 x117003) else (some (x9, 0))
def saronref03_Told.l2 : Nat → List Int → List (List Int) → Int → List Int → Int → List (S57) → Int → Int → List (S69) → Option ((List (List Int)) × Int)
 | 0, _, _, _, _, _, _, _, _, _ => none
 | k + 1, x1, x9, x10, x11, x12, x117000, x117001, x117002, x117003 => if x12 < (x117000.length : Int) then (if 0 ≤ x12 then (if 0 ≤ x10 then (if x10 < (x1.length : Int) then (if 0 ≤ (wrap64 (x10 - 1)) then (if (wrap64 (x10 - 1)) < (x1.length : Int) then ((saronref00_Bears.f ((rd_T57 x117000 x12).f0.f0) ((rd_T57 x117000 x12).f0.f1) (wrap64 ((rd x1 x10) - (rd x1 (wrap64 (x10 - 1)))))).bind fun t124 => (if t124 = true then (if x11.length < 17592186044416 then (saronref03_Told.l2 k x1 x9 x10 (x11 ++ [x12]) (wrap64 (x12 + 1)) x117000 x117001 x117002 x117003) else (none)) else (saronref03_Told.l2 k x1 x9 x10 x11 (wrap64 (x12 + 1)) x117000 x117001 x117002 x117003))) else (none)) else (none)) else (none)) else (none)) else (none)) else (if (x11.length : Int) = 0 then (some (([] : List (List Int)), 4)) else (if x9.length < 5864062014805 then (saronref03_Told.l1 k x1 (x9 ++ [x11]) (wrap64 (x10 + 1)) x117000 x117001 x117002 x117003) else (none)))
def saronref03_Told.l0 : Nat → List Int → Bool → Int → List (S57) → Int → Int → List (S69) → Option ((List (List Int)) × Int)
 | 0, _, _, _, _, _, _, _ => none
 | k + 1, x1, x6, x7, x117000, x117001, x117002, x117003 => if x6 = true then (if x7 < (x1.length : Int) then (if 0 ≤ x7 then ((saronref00_Sits.f (rd x1 x7) (-60) 60).bind fun t119 => (saronref03_Told.l0 k x1 t119 (wrap64 (x7 + 1)) x117000 x117001 x117002 x117003)) else (none)) else (saronref03_Told.j1 k x1 x6 x117000 x117001 x117002 x117003)) else (saronref03_Told.j1 k x1 x6 x117000 x117001 x117002 x117003)
end
def saronref03_Told.f (k : Nat) (l0_0 : List (S57)) (a0_1 : Int) (a0_2 : Int) (l0_3 : List (S69)) (l1 : List Int) : Option ((List (List Int)) × Int) := (saronref00_Sits.f (l1.length : Int) 1 31).bind fun t117 => (saronref03_Told.l0 k l1 t117 0 l0_0 a0_1 a0_2 l0_3)
theorem saronref03_Told.mono_l : ∀ k, (∀ y0 y1 y2 y3 y4 y5, LeO (saronref03_Told.j1 k y0 y1 y2 y3 y4 y5) (saronref03_Told.j1 (k + 1) y0 y1 y2 y3 y4 y5)) ∧ (∀ y0 y1 y2 y3 y4 y5 y6, LeO (saronref03_Told.l1 k y0 y1 y2 y3 y4 y5 y6) (saronref03_Told.l1 (k + 1) y0 y1 y2 y3 y4 y5 y6)) ∧ (∀ y0 y1 y2 y3 y4 y5 y6 y7 y8, LeO (saronref03_Told.l2 k y0 y1 y2 y3 y4 y5 y6 y7 y8) (saronref03_Told.l2 (k + 1) y0 y1 y2 y3 y4 y5 y6 y7 y8)) ∧ (∀ y0 y1 y2 y3 y4 y5 y6, LeO (saronref03_Told.l0 k y0 y1 y2 y3 y4 y5 y6) (saronref03_Told.l0 (k + 1) y0 y1 y2 y3 y4 y5 y6))
 | 0 => ⟨fun _ _ _ _ _ _ r h => by simp [saronref03_Told.j1] at h, fun _ _ _ _ _ _ _ r h => by simp [saronref03_Told.l1] at h, fun _ _ _ _ _ _ _ _ _ r h => by simp [saronref03_Told.l2] at h, fun _ _ _ _ _ _ _ r h => by simp [saronref03_Told.l0] at h⟩
 | k + 1 => by
  obtain ⟨ih0, ih1, ih2, ih3⟩ := saronref03_Told.mono_l k
  refine ⟨?_, ?_, ?_, ?_⟩
  ·intro y0 y1 y2 y3 y4 y5
   unfold saronref03_Told.j1
   repeat' first
   | (with_reducible exact ih0 _ _ _ _ _ _)
   | (with_reducible exact ih1 _ _ _ _ _ _ _)
   | (with_reducible exact ih2 _ _ _ _ _ _ _ _ _)
   | (with_reducible exact ih3 _ _ _ _ _ _ _)
   | (with_reducible exact saronref03_asked.mono _ _ _ _ _ _)
   | (with_reducible exact LeO.refl _)
   | (with_reducible exact LeO.none _)
   | (with_reducible refine LeO.ite ?_ ?_)
   | (with_reducible refine LeO.bind ?_ (fun _ => ?_))
   | exact ih0 _ _ _ _ _ _
   | exact ih1 _ _ _ _ _ _ _
   | exact ih2 _ _ _ _ _ _ _ _ _
   | exact ih3 _ _ _ _ _ _ _
   | exact saronref03_asked.mono _ _ _ _ _ _
   | exact LeO.none _
   | refine LeO.ite ?_ ?_
   | refine LeO.bind ?_ (fun _ => ?_)
  ·intro y0 y1 y2 y3 y4 y5 y6
   unfold saronref03_Told.l1
   repeat' first
   | (with_reducible exact ih0 _ _ _ _ _ _)
   | (with_reducible exact ih1 _ _ _ _ _ _ _)
   | (with_reducible exact ih2 _ _ _ _ _ _ _ _ _)
   | (with_reducible exact ih3 _ _ _ _ _ _ _)
   | (with_reducible exact saronref03_asked.mono _ _ _ _ _ _)
   | (with_reducible exact LeO.refl _)
   | (with_reducible exact LeO.none _)
   | (with_reducible refine LeO.ite ?_ ?_)
   | (with_reducible refine LeO.bind ?_ (fun _ => ?_))
   | exact ih0 _ _ _ _ _ _
   | exact ih1 _ _ _ _ _ _ _
   | exact ih2 _ _ _ _ _ _ _ _ _
   | exact ih3 _ _ _ _ _ _ _
   | exact saronref03_asked.mono _ _ _ _ _ _
   | exact LeO.none _
   | refine LeO.ite ?_ ?_
   | refine LeO.bind ?_ (fun _ => ?_)
  ·intro y0 y1 y2 y3 y4 y5 y6 y7 y8
   unfold saronref03_Told.l2
   repeat' first
   | (with_reducible exact ih0 _ _ _ _ _ _)
   | (with_reducible exact ih1 _ _ _ _ _ _ _)
   | (with_reducible exact ih2 _ _ _ _ _ _ _ _ _)
   | (with_reducible exact ih3 _ _ _ _ _ _ _)
   | (with_reducible exact saronref03_asked.mono _ _ _ _ _ _)
   | (with_reducible exact LeO.refl _)
   | (with_reducible exact LeO.none _)
   | (with_reducible refine LeO.ite ?_ ?_)
   | (with_reducible refine LeO.bind ?_ (fun _ => ?_))
   | exact ih0 _ _ _ _ _ _
   | exact ih1 _ _ _ _ _ _ _
   | exact ih2 _ _ _ _ _ _ _ _ _
   | exact ih3 _ _ _ _ _ _ _
   | exact saronref03_asked.mono _ _ _ _ _ _
   | exact LeO.none _
   | refine LeO.ite ?_ ?_
   | refine LeO.bind ?_ (fun _ => ?_)
  ·intro y0 y1 y2 y3 y4 y5 y6
   unfold saronref03_Told.l0
   repeat' first
   | (with_reducible exact ih0 _ _ _ _ _ _)
   | (with_reducible exact ih1 _ _ _ _ _ _ _)
   | (with_reducible exact ih2 _ _ _ _ _ _ _ _ _)
   | (with_reducible exact ih3 _ _ _ _ _ _ _)
   | (with_reducible exact saronref03_asked.mono _ _ _ _ _ _)
   | (with_reducible exact LeO.refl _)
   | (with_reducible exact LeO.none _)
   | (with_reducible refine LeO.ite ?_ ?_)
   | (with_reducible refine LeO.bind ?_ (fun _ => ?_))
   | exact ih0 _ _ _ _ _ _
   | exact ih1 _ _ _ _ _ _ _
   | exact ih2 _ _ _ _ _ _ _ _ _
   | exact ih3 _ _ _ _ _ _ _
   | exact saronref03_asked.mono _ _ _ _ _ _
   | exact LeO.none _
   | refine LeO.ite ?_ ?_
   | refine LeO.bind ?_ (fun _ => ?_)
theorem saronref03_Told.mono : ∀ a0 a1 a2 a3 a4 k, LeO (saronref03_Told.f k a0 a1 a2 a3 a4) (saronref03_Told.f (k + 1) a0 a1 a2 a3 a4) := by
 intro a0 a1 a2 a3 a4 k
 obtain ⟨ih0, ih1, ih2, ih3⟩ := saronref03_Told.mono_l k
 unfold saronref03_Told.f
 repeat' first
   | (with_reducible exact ih0 _ _ _ _ _ _)
   | (with_reducible exact ih1 _ _ _ _ _ _ _)
   | (with_reducible exact ih2 _ _ _ _ _ _ _ _ _)
   | (with_reducible exact ih3 _ _ _ _ _ _ _)
   | (with_reducible exact saronref03_asked.mono _ _ _ _ _ _)
   | (with_reducible exact LeO.refl _)
   | (with_reducible exact LeO.none _)
   | (with_reducible refine LeO.ite ?_ ?_)
   | (with_reducible refine LeO.bind ?_ (fun _ => ?_))
   | exact ih0 _ _ _ _ _ _
   | exact ih1 _ _ _ _ _ _ _
   | exact ih2 _ _ _ _ _ _ _ _ _
   | exact ih3 _ _ _ _ _ _ _
   | exact saronref03_asked.mono _ _ _ _ _ _
   | exact LeO.none _
   | refine LeO.ite ?_ ?_
   | refine LeO.bind ?_ (fun _ => ?_)
def saronref03_Told.T17 : Bool × List (List Nat × List Nat) := (true, [([], []), ([0], [0]), ([], []), ([1, 2], [1, 2]), ([3], [3]), ([4], [4]), ([], []), ([], []), ([6, 7], [6, 7]), ([8], [8]), ([], []), ([], []), ([11], [11]), ([10, 12], [10, 12]), ([13], [13]), ([9, 14], [9, 14]), ([5, 15], [5, 15])])
def saronref03_Told.B17 : List Nat := [0, 1, 0, 7, 15, 31, 0, 0, 192, 448, 0, 0, 2048, 7168, 15360, 32704, 65535]
theorem saronref03_Told.tab17 : rtab .any (opsOf Tryd.f35 17) = saronref03_Told.T17 := by kernel_rfl
theorem saronref03_Told.bits17 : waitsOk saronref03_Told.T17.2 saronref03_Told.B17 = true := by kernel_rfl
set_option maxHeartbeats 8000000 in
set_option maxRecDepth 100000 in
theorem saronref03_Told.calls (k : Nat) (A0_0 : Option Addr) (c0_0 : Nat) (l0_0 : List (S57)) (a0_1 : Int) (a0_2 : Int) (A0_3 : Option Addr) (c0_3 : Nat) (l0_3 : List (S69)) (A1 : Option Addr) (c1 : Nat) (l1 : List Int) (r1 : List (List Int)) (r2 : Int) (w : World) (hr0_0 : Kd.C k57 w A0_0 l0_0.length l0_0) (hc0_0 : l0_0.length ≤ c0_0) (hr0_3 : Kd.C k69 w A0_3 l0_3.length l0_3) (hc0_3 : l0_3.length ≤ c0_3) (hr1 : Kd.C (Kd.int .i64) w A1 l1.length l1) (hc1 : l1.length ≤ c1) (h : saronref03_Told.f k l0_0 a0_1 a0_2 l0_3 l1 = some (r1, r2)) :
  Calls Tryd.prog 35 #[.agg #[.slice A0_0 l0_0.length c0_0, .int .i64 a0_1, .int .i64 a0_2, .slice A0_3 l0_3.length c0_3], .slice A1 l1.length c1] w fun e w' => ∃ v0_ : Value, e = .returned (.tuple #[v0_, .int .i64 r2]) ∧ Kd.S (Kd.slice 3 (Kd.int .i64)) 38 w' w.heap.size (fun _ => True) v0_ r1 ∧ Below w.heap.size w w' := by
 have hu27 := Tryd.underlying27
 have hu24 := Tryd.underlying24
 have HR0_0 := Aside0.mk hr0_0
 have HC0_0 := Aside0.mk hc0_0
 clear hr0_0 hc0_0
 have HR0_3 := Aside0.mk hr0_3
 have HC0_3 := Aside0.mk hc0_3
 clear hr0_3 hc0_3
 have HR1 := Aside0.mk hr1
 have HC1 := Aside0.mk hc1
 clear hr1 hc1
 have HB := Aside0.mk (Below.refl w.heap.size w)
 have H : ((saronref00_Sits.f (l1.length : Int) 1 31).bind fun t117 => (saronref03_Told.l0 k l1 t117 0 l0_0 a0_1 a0_2 l0_3)) = some (r1, r2) := h
 clear h
 replace H := Option.bind_eq_some_iff.mp H
 obtain ⟨t117, A30, H⟩ := H
 replace H : (saronref03_Told.l0 k l1 t117 0 l0_0 a0_1 a0_2 l0_3) = some (r1, r2) := H
 have A3 := Aside0.mk A30
 clear A30
 have HC4 := Aside0.mk H
 clear H
 go_enter Tryd.func35, Tryd.ntmps35
 go_upto_block 0 with (first | ((with_reducible refine gate_dst (N := 2) rfl ?_); (try (refine gate_guard (by rfl) ?_; dsimp only)); refine box_event ?hg (N := 2) ?hd (cs := #[.slice A0_0 l0_0.length c0_0, .int .i64 a0_1, .int .i64 a0_2, .slice A0_3 l0_3.length c0_3]) (t := 27) ?hr ?_; (case hd => rfl); (case hg => rfl); (case hr => exact TS); intro gb116 hg w5 hbox hb; have BK116 := Aside0.mk (hbox); have GW116 := Aside0.mk ((TG : w.heap.size ≤ gb116)); have GE116 := Aside0.mk ((TG : w.heap.size ≤ gb116)); replace HB := Aside0.mk (below_step TB hb); clear hb hbox hg) | ((with_reducible refine gate_callee (f := 39) rfl ?_); refine goesL_ (some 15) rfl rfl Tryd.func39 (by kernel_rfl) rfl #[.int .i64 (l1.length : Int), .int .i64 1, .int .i64 31] rfl TM ?_; (with_reducible refine (saronref00_Sits.calls (l1.length : Int) 1 31 t117 _ A3.out).mono ?_); rintro e w' ⟨rfl, ⟨nd, rfl⟩⟩; refine ⟨_, rfl, ?_⟩))
 (try simp only [Act.put, lA, lZ, lS])
 go_cut [6] (fun v6 wc => ∃ (kq : Nat) (x6_3 : Bool), v6 = .bool x6_3 ∧ Aside0 (saronref03_Told.j1 kq l1 x6_3 l0_0 a0_1 a0_2 l0_3 = some (r1, r2)) ∧ Aside0 (kq ≤ k) ∧ Aside0 (wc.heap[gb116]? = some (.cells #[(.slice A0_0 l0_0.length c0_0), .int .i64 a0_1, .int .i64 a0_2, (.slice A0_3 l0_3.length c0_3)] 27 (0, 0))) ∧ Aside0 (Below w.heap.size w wc))
 case first =>
  have H := HC4.out
  clear HC4
  have H' := Aside0.mk H
  clear H
  go_wp2
  go_loopg [6, 7] k (fun kq v6 v7 w' => ∃ (x6_1 : Bool) (x7_1 : Int), v6 = .bool x6_1 ∧ v7 = .int .i64 x7_1 ∧ Aside0 (saronref03_Told.l0 kq l1 x6_1 x7_1 l0_0 a0_1 a0_2 l0_3 = some (r1, r2)) ∧ Aside0 (kq ≤ k) ∧ Aside0 (w'.heap[gb116]? = some (.cells #[(.slice A0_0 l0_0.length c0_0), .int .i64 a0_1, .int .i64 a0_2, (.slice A0_3 l0_3.length c0_3)] 27 (0, 0))) ∧ Aside0 (Below w.heap.size w w'))
  case atStart => exact ⟨(t117), (0), TT, TT, H', ⟨Nat.le_refl _⟩, ⟨TK BK116.out⟩, ⟨TB1 GE116.out⟩⟩
  case round =>
   clear H'
   try clear c1
   try clear p2
   try clear c3
   obtain ⟨x6_1, x7_1, rfl, rfl, HA, HK1, BK116, HB⟩ := hrel
   cases gk with
   | zero => exact absurd HA.out (by simp [saronref03_Told.l0])
   | succ k1 =>
    have H := HA.out
    clear HA
    simp only [saronref03_Told.l0] at H
    by_cases c6 : x6_1 = true
    ·subst c6
     have H1 : (if x7_1 < (l1.length : Int) then (if 0 ≤ x7_1 then ((saronref00_Sits.f (rd l1 x7_1) (-60) 60).bind fun t119 => (saronref03_Told.l0 k1 l1 t119 (wrap64 (x7_1 + 1)) l0_0 a0_1 a0_2 l0_3)) else (none)) else (saronref03_Told.j1 k1 l1 true l0_0 a0_1 a0_2 l0_3)) = some (r1, r2) := by rw [if_pos rfl] at H; exact H
     clear H
     have H := H1
     clear H1
     by_cases c7 : x7_1 < (l1.length : Int)
     ·rw [if_pos c7] at H
      have c7b0 : decide (x7_1 < (l1.length : Int)) = true := decide_eq_true c7
      clear c7
      (first | rw [c7b0] | (simp only [i64_w, i32_w]; rw [c7b0]) | skip)
      by_cases c8 : 0 ≤ x7_1
      ·rw [if_pos c8] at H
       have c8b0 : decide (0 ≤ x7_1) = true := decide_eq_true c8
       clear c8
       replace H := Option.bind_eq_some_iff.mp H
       obtain ⟨t119, A90, H⟩ := H
       replace H : (saronref03_Told.l0 k1 l1 t119 (wrap64 (x7_1 + 1)) l0_0 a0_1 a0_2 l0_3) = some (r1, r2) := H
       have A9 := Aside0.mk A90
       clear A90
       have H' := Aside0.mk H
       clear H
       have p118 : 0 ≤ (x7_1 : Int) := of_decide_eq_true TA
       have q118 : x7_1 < (l1.length : Int) := of_decide_eq_true TA
       obtain ⟨ad118, e118, hx118_0⟩ := Kd.at_int HR1.out x7_1 p118 q118
       cases e118
       replace hx118_0 := hx HB.out hx118_0
       replace p118 := eq_true p118
       replace q118 := eq_true q118
       go_wp2_with (first | ((with_reducible refine gate_callee (f := 39) rfl ?_); refine goesL_ (some 29) rfl rfl Tryd.func39 (by kernel_rfl) rfl #[.int .i64 (rd l1 x7_1), .int .i64 (-60), .int .i64 60] rfl TM ?_; (with_reducible refine (saronref00_Sits.calls (rd l1 x7_1) (-60) 60 t119 _ A9.out).mono ?_); rintro e w' ⟨rfl, ⟨nd, rfl⟩⟩; refine ⟨_, rfl, ?_⟩))
       go_roundg k1
       case measure => have := HK1.out; omega
       case rel => exact ⟨(t119), (wrap64 (x7_1 + 1)), TT, TT, H', ⟨by have := HK1.out; omega⟩, ⟨TK BK116.out⟩, ⟨TB1 GE116.out⟩⟩
      ·rw [if_neg c8] at H
       exact absurd H (by simp)
     ·rw [if_neg c7] at H
      have c7b0 : decide (x7_1 < (l1.length : Int)) = false := decide_eq_false c7
      clear c7
      (first | rw [c7b0] | (simp only [i64_w, i32_w]; rw [c7b0]) | skip)
      have H' := Aside0.mk H
      clear H
      go_wp2
      go_meet
      case rel => exact ⟨_, (true), TT, H', ⟨by have := HK1.out; first | omega | exact Nat.le_refl _⟩, ⟨TK BK116.out⟩, ⟨TB1 GE116.out⟩⟩
    ·replace c6 := Bool.eq_false_iff.mpr c6
     subst c6
     have H1 : (saronref03_Told.j1 k1 l1 false l0_0 a0_1 a0_2 l0_3) = some (r1, r2) := by rw [if_neg (show ¬ (false = true) by decide)] at H; exact H
     clear H
     have H := H1
     clear H1
     have H' := Aside0.mk H
     clear H
     go_wp2
     go_meet
     case rel => exact ⟨_, (false), TT, H', ⟨by have := HK1.out; first | omega | exact Nat.le_refl _⟩, ⟨TK BK116.out⟩, ⟨TB1 GE116.out⟩⟩
 case rest =>
  clear HC4
  try clear c1
  try clear p1
  try clear q1
  try clear hx1
  try clear p2
  try clear c3
  try clear c6
  try clear p6
  try clear c7
  try clear c7b0
  try clear c8
  try clear c8b0
  try clear hx118_0
  try clear p118
  try clear p2
  try clear q118
  obtain ⟨kq, x6_3, rfl, HA, HJ3, BK116, HB⟩ := hcut
  cases kq with
  | zero => exact absurd HA.out (by simp [saronref03_Told.j1])
  | succ kj3 =>
   have H := HA.out
   clear HA
   simp only [saronref03_Told.j1] at H
   replace H := Option.bind_eq_some_iff.mp H
   obtain ⟨t120, A100, H⟩ := H
   replace H : (if t120 = 0 then (saronref03_Told.l1 kj3 l1 ([] : List (List Int)) 1 l0_0 a0_1 a0_2 l0_3) else (some (([] : List (List Int)), t120))) = some (r1, r2) := H
   have A10 := Aside0.mk A100
   clear A100
   by_cases c11 : t120 = 0
   ·rw [if_pos c11] at H
    have c11b0 : (t120 == 0) = true := beq_iff_eq.mpr c11
    have c11b1 : (t120 != 0) = false := bne_eq_false_iff_eq.mpr c11
    clear c11
    have H' := Aside0.mk H
    clear H
    have hcz12_0 := cz BK116.out 0
    have hcz12_1 := cz BK116.out 1
    have hcz12_2 := cz BK116.out 2
    have hcz12_3 := cz BK116.out 3
    have hfz12_0 := fz BK116.out 0
    have hfz12_1 := fz BK116.out 1
    have hfz12_2 := fz BK116.out 2
    have hfz12_3 := fz BK116.out 3
    go_wp2_with (first | ((with_reducible refine gate_callee (f := 54) rfl ?_); refine goesL_ (some 32) rfl rfl Tryd.func54 (by kernel_rfl) rfl #[.agg #[.slice A0_0 l0_0.length c0_0, .int .i64 a0_1, .int .i64 a0_2, .slice A0_3 l0_3.length c0_3], .bool x6_3] rfl TM ?_; (with_reducible refine (saronref03_asked.calls kj3 _ _ l0_0 a0_1 a0_2 _ _ l0_3 x6_3 t120 _ ?side1 ?side2 ?side3 ?side4 A10.out).mono ?_); (case side1 => exact TC HR0_0.out); (case side2 => exact HC0_0.out); (case side3 => exact TC HR0_3.out); (case side4 => exact HC0_3.out); rintro e w13 ⟨rfl, hb⟩; refine ⟨_, rfl, ?_⟩; replace BK116 := Aside0.mk (TKb hb BK116.out); replace HB := Aside0.mk (below_step (TB1 GE116.out) hb); (try clear hb); (try clear hb2); (try clear hk); (try clear hi)))
    go_loopg [9, 10] kj3 (fun kq v9 v10 w' => ∃ (x9_2 : List (List Int)) (x10_2 : Int), v10 = .int .i64 x10_2 ∧ Aside0 (saronref03_Told.l1 kq l1 x9_2 x10_2 l0_0 a0_1 a0_2 l0_3 = some (r1, r2)) ∧ Aside0 (kq ≤ kj3) ∧ Aside0 (Kd.S (Kd.slice 3 (Kd.int .i64)) 38 w' w.heap.size (fun _ => True) v9 x9_2) ∧ Aside0 (w'.heap[gb116]? = some (.cells #[(.slice A0_0 l0_0.length c0_0), .int .i64 a0_1, .int .i64 a0_2, (.slice A0_3 l0_3.length c0_3)] 27 (0, 0))) ∧ Aside0 (Below w.heap.size w w'))
    case atStart => exact ⟨(([] : List (List Int))), (1), TT, H', ⟨Nat.le_refl _⟩, ⟨by first | exact Kd.S_nil _ _ _ _ _ | exact Kd.N_nil _ _ _ _ _ | exact Kd.V_nil _ _ _ _ _ | exact Kd.Q_nil _ _ _ _ _ | exact Kd.R_nil _ _ _ _ _⟩, ⟨TK BK116.out⟩, ⟨TB1 GE116.out⟩⟩
    case round =>
     clear H'
     try clear c1
     try clear p1
     try clear q1
     try clear hx1
     try clear p2
     try clear c3
     try clear c5
     try clear c6
     try clear p6
     try clear c7
     try clear c7b0
     try clear c8
     try clear c8b0
     try clear c11
     try clear c11b0
     try clear c11b1
     try clear p11
     try clear q11
     try clear hx11
     try clear hcz12_0 hcz12_1 hcz12_2 hcz12_3 hfz12_0 hfz12_1 hfz12_2 hfz12_3
     try clear hx118_0
     try clear p1
     try clear p118
     try clear p2
     try clear p6
     try clear q1
     try clear q118
     obtain ⟨x9_2, x10_2, rfl, HA, HK2, HO_9, BK116, HB⟩ := hrel
     cases gk with
     | zero => exact absurd HA.out (by simp [saronref03_Told.l1])
     | succ k2 =>
      have H := HA.out
      clear HA
      simp only [saronref03_Told.l1] at H
      by_cases c14 : x10_2 < (l1.length : Int)
      ·rw [if_pos c14] at H
       have c14b0 : decide (x10_2 < (l1.length : Int)) = true := decide_eq_true c14
       clear c14
       have H' := Aside0.mk H
       clear H
       go_wp2
       go_loopg [11, 12] k2 (fun kq v11 v12 w' => ∃ (x11_3 : List Int) (x12_3 : Int), v12 = .int .i64 x12_3 ∧ Aside0 (saronref03_Told.l2 kq l1 x9_2 x10_2 x11_3 x12_3 l0_0 a0_1 a0_2 l0_3 = some (r1, r2)) ∧ Aside0 (kq ≤ k2) ∧ Aside0 (Kd.S (Kd.slice 3 (Kd.int .i64)) 38 w' w.heap.size (fun k_ => some k_ ≠ (v11 : Value).ownBlock) u9 x9_2) ∧ Aside0 (Kd.R (Kd.int .i64) 3 w' w.heap.size (fun _ => True) v11 x11_3) ∧ Aside0 (w'.heap[gb116]? = some (.cells #[(.slice A0_0 l0_0.length c0_0), .int .i64 a0_1, .int .i64 a0_2, (.slice A0_3 l0_3.length c0_3)] 27 (0, 0))) ∧ Aside0 (Below w.heap.size w w'))
       case atStart => exact ⟨(([] : List Int)), (0), TT, H', ⟨Nat.le_refl _⟩, ⟨by (with_reducible repeat (first | apply Kd.S_alloc | apply Kd.S_drewN | apply Kd.S_drew)); exact Kd.S_mono HO_9.out (fun _ hk => (by simp [Value.ownBlock]))⟩, ⟨by first | exact Kd.R_nil _ _ _ _ _ | exact Kd.N_nil _ _ _ _ _ | exact Kd.V_nil _ _ _ _ _ | exact Kd.Q_nil _ _ _ _ _ | exact Kd.S_nil _ _ _ _ _⟩, ⟨TK BK116.out⟩, ⟨TB1 GE116.out⟩⟩
       case round =>
        clear H'
        try clear c1
        try clear p1
        try clear q1
        try clear hx1
        try clear p2
        try clear c3
        try clear c5
        try clear c6
        try clear p6
        try clear c7
        try clear c7b0
        try clear c8
        try clear c8b0
        try clear c11
        try clear c11b0
        try clear c11b1
        try clear p11
        try clear q11
        try clear hx11
        try clear c14
        try clear c14b0
        try clear hcz12_0 hcz12_1 hcz12_2 hcz12_3 hfz12_0 hfz12_1 hfz12_2 hfz12_3
        try clear hx118_0
        try clear p1
        try clear p11
        try clear p118
        try clear p2
        try clear p6
        try clear q1
        try clear q11
        try clear q118
        obtain ⟨x11_3, x12_3, rfl, HA, HK3, HO_9, HO_11, BK116, HB⟩ := hrel
        cases gk with
        | zero => exact absurd HA.out (by simp [saronref03_Told.l2])
        | succ k3 =>
         have H := HA.out
         clear HA
         simp only [saronref03_Told.l2] at H
         by_cases c15 : x12_3 < (l0_0.length : Int)
         ·rw [if_pos c15] at H
          have c15b0 : decide (x12_3 < (l0_0.length : Int)) = true := decide_eq_true c15
          clear c15
          by_cases c16 : 0 ≤ x12_3
          ·rw [if_pos c16] at H
           have c16b0 : decide (0 ≤ x12_3) = true := decide_eq_true c16
           clear c16
           by_cases c17 : 0 ≤ x10_2
           ·rw [if_pos c17] at H
            have c17b0 : decide (0 ≤ x10_2) = true := decide_eq_true c17
            clear c17
            by_cases c18 : x10_2 < (l1.length : Int)
            ·rw [if_pos c18] at H
             have c18b0 : decide (x10_2 < (l1.length : Int)) = true := decide_eq_true c18
             clear c18
             obtain ⟨ji19, hji19⟩ : ∃ j_ : Int, (wrap64 (x10_2 - 1)) = j_ := ⟨_, rfl⟩
             replace H : (if 0 ≤ (ji19) then (if (ji19) < (l1.length : Int) then ((saronref00_Bears.f ((rd_T57 l0_0 x12_3).f0.f0) ((rd_T57 l0_0 x12_3).f0.f1) (wrap64 ((rd l1 x10_2) - (rd l1 (ji19))))).bind fun t124 => (if t124 = true then (if x11_3.length < 17592186044416 then (saronref03_Told.l2 k3 l1 x9_2 x10_2 (x11_3 ++ [x12_3]) (wrap64 (x12_3 + 1)) l0_0 a0_1 a0_2 l0_3) else (none)) else (saronref03_Told.l2 k3 l1 x9_2 x10_2 x11_3 (wrap64 (x12_3 + 1)) l0_0 a0_1 a0_2 l0_3))) else (none)) else (none)) = some (r1, r2) := by first | (rw [hji19] at H; exact H) | (simp only [hji19] at H ⊢; exact H)
             have hji19w : (IntKind.i64.wrap (x10_2 - 1)) = ji19 := (i64_w _).trans hji19
             by_cases c20 : 0 ≤ (ji19)
             ·rw [if_pos c20] at H
              have c20b0 : decide (0 ≤ (ji19)) = true := decide_eq_true c20
              clear c20
              by_cases c21 : (ji19) < (l1.length : Int)
              ·rw [if_pos c21] at H
               have c21b0 : decide ((ji19) < (l1.length : Int)) = true := decide_eq_true c21
               clear c21
               replace H := Option.bind_eq_some_iff.mp H
               obtain ⟨t124, A220, H⟩ := H
               replace H : (if t124 = true then (if x11_3.length < 17592186044416 then (saronref03_Told.l2 k3 l1 x9_2 x10_2 (x11_3 ++ [x12_3]) (wrap64 (x12_3 + 1)) l0_0 a0_1 a0_2 l0_3) else (none)) else (saronref03_Told.l2 k3 l1 x9_2 x10_2 x11_3 (wrap64 (x12_3 + 1)) l0_0 a0_1 a0_2 l0_3)) = some (r1, r2) := H
               have A22 := Aside0.mk A220
               clear A220
               by_cases c23 : t124 = true
               ·subst c23
                have H1 : (if x11_3.length < 17592186044416 then (saronref03_Told.l2 k3 l1 x9_2 x10_2 (x11_3 ++ [x12_3]) (wrap64 (x12_3 + 1)) l0_0 a0_1 a0_2 l0_3) else (none)) = some (r1, r2) := by rw [if_pos rfl] at H; exact H
                clear H
                have H := H1
                clear H1
                by_cases c24 : x11_3.length < 17592186044416
                ·rw [if_pos c24] at H
                 have LMc24 := Aside0.mk c24
                 clear c24
                 obtain ⟨y125, hy125⟩ : ∃ y_ : List Int, y_ = (x11_3 ++ [x12_3]) := ⟨_, rfl⟩
                 replace H : (saronref03_Told.l2 k3 l1 x9_2 x10_2 y125 (wrap64 (x12_3 + 1)) l0_0 a0_1 a0_2 l0_3) = some (r1, r2) := by first | (rw [hy125]; with_reducible exact H) | (have H2_ := (Option.bind_some _ _).symm.trans H; rw [hy125]; with_reducible exact H2_) | (have H2_ := (Option.bind_some _ _).symm.trans H; with_reducible exact H2_) | with_reducible exact H | (rw [hy125]; exact H) | exact H
                 have Ny125 := Aside0.mk hy125
                 clear hy125
                 have H' := Aside0.mk H
                 clear H
                 have hcz25_0 := cz BK116.out 0
                 have hcz25_1 := cz BK116.out 1
                 have hcz25_2 := cz BK116.out 2
                 have hcz25_3 := cz BK116.out 3
                 have hfz25_0 := fz BK116.out 0
                 have hfz25_1 := fz BK116.out 1
                 have hfz25_2 := fz BK116.out 2
                 have hfz25_3 := fz BK116.out 3
                 try go_wp2
                 have n0_ := Aside0.mk (Kd.S_drew HO_9.out)
                 have n1_ := Aside0.mk (Kd.R_drew HO_11.out)
                 have n2_ := Aside0.mk (blk_drew BK116.out)
                 have n3_ := Aside0.mk (below_drew1 HB.out)
                 clear HO_9
                 clear HO_11
                 clear BK116
                 clear HB
                 have HO_9 := n0_
                 have HO_11 := n1_
                 have BK116 := n2_
                 have HB := n3_
                 clear n0_ n1_ n2_ n3_
                 have p121 : 0 ≤ (x12_3 : Int) := of_decide_eq_true TA
                 have q121 : x12_3 < (l0_0.length : Int) := of_decide_eq_true TA
                 obtain ⟨ad121, e121, hx121_0, hx121_1, hx121_2⟩ := at_T57 HR0_0.out x12_3 p121 q121
                 have hw121_2 := hx121_2
                 have hw121_1 := hx121_1
                 have hw121_0 := hx121_0
                 cases e121
                 replace hx121_0 := hx HB.out hx121_0
                 replace hx121_1 := hx HB.out hx121_1
                 replace hx121_2 := hx HB.out hx121_2
                 replace p121 := eq_true p121
                 replace q121 := eq_true q121
                 have p122 : 0 ≤ (x10_2 : Int) := of_decide_eq_true TA
                 have q122 : x10_2 < (l1.length : Int) := of_decide_eq_true TA
                 obtain ⟨ad122, e122, hx122_0⟩ := Kd.at_int HR1.out x10_2 p122 q122
                 have hw122_0 := hx122_0
                 cases e122
                 replace hx122_0 := hx HB.out hx122_0
                 replace p122 := eq_true p122
                 replace q122 := eq_true q122
                 have p123 : 0 ≤ ((ji19) : Int) := of_decide_eq_true TA
                 have q123 : (ji19) < (l1.length : Int) := of_decide_eq_true TA
                 obtain ⟨ad123, e123, hx123_0⟩ := Kd.at_int HR1.out (ji19) p123 q123
                 have hw123_0 := hx123_0
                 obtain rfl : ad122 = ad123 := (by injection e123)
                 replace hx123_0 := hx HB.out hx123_0
                 replace p123 := eq_true p123
                 replace q123 := eq_true q123
                 refine start_ (n := 17) (S := fun w' => w'.cell? ⟨gb116, 0, none⟩ = some (.slice (some ad121) l0_0.length c0_0) ∧ w'.cell? ⟨gb116, 1, none⟩ = some (.int .i64 a0_1) ∧ w'.cell? ⟨gb116, 2, none⟩ = some (.int .i64 a0_2) ∧ w'.cell? ⟨gb116, 3, none⟩ = some (.slice A0_3 l0_3.length c0_3) ∧ w'.cell? (ad121.add ((x12_3).toNat * 3)) = some (.int .i64 ((rd_T57 l0_0 x12_3).f0.f0)) ∧ w'.cell? ⟨(ad121.add ((x12_3).toNat * 3)).block, (ad121.add ((x12_3).toNat * 3)).off + 1, none⟩ = some (.int .i64 ((rd_T57 l0_0 x12_3).f0.f1)) ∧ w'.cell? ⟨(ad121.add ((x12_3).toNat * 3)).block, (ad121.add ((x12_3).toNat * 3)).off + 2, none⟩ = some (.int .i64 ((rd_T57 l0_0 x12_3).f1)) ∧ w'.cell? (ad122.add (x10_2).toNat) = some (.int .i64 (rd l1 x10_2)) ∧ w'.cell? (ad122.add ((ji19)).toNat) = some (.int .i64 (rd l1 (ji19)))) (ds := []) (.replicate 17 false) (by kernel_rfl) rfl rfl ⟨cz BK116.out 0, cz BK116.out 1, cz BK116.out 2, cz BK116.out 3, (hx HB.out hw121_0), (hx HB.out hw121_1), (hx HB.out hw121_2), (hx HB.out hw122_0), (hx HB.out hw123_0)⟩ (fun hHeld => ?_); refine with_tabW saronref03_Told.tab17 saronref03_Told.bits17 (fun HT_ HW_ => ?_)
                 generalize wr.drew = w26 at HO_9 HO_11 BK116 HB hx121_0 hx121_1 hx121_2 hx122_0 hx123_0 hHeld ⊢
                 refine pT 0 49 (bt 17 1) (k := ?_)
                 refine pT 2 51 (bt 17 5) (k := ?_)
                 refine pT 6 55 (bt 17 69) (k := ?_)
                 refine pT 7 56 (bt 17 197) (k := ?_)
                 refine pT 8 57 (bt 17 453) (k := ?_)
                 refine pT 10 59 (bt 17 1477) (k := ?_)
                 refine pT 11 60 (bt 17 3525) (k := ?_)
                 refine pT 12 61 (bt 17 7621) (k := ?_)
                 refine pT 13 62 (bt 17 15813) (k := ?_)
                 refine tT9 1 50 (bt 17 15815) hHeld (k := ?_)
                 refine pT 3 52 (bt 17 15823) (k := ?_)
                 refine pT 4 53 (bt 17 15839) (k := ?_)
                 refine tT9 5 54 (bt 17 15871) hHeld (k := ?_)
                 refine tT9 9 58 (bt 17 16383) hHeld (k := ?_)
                 refine tT9 14 63 (bt 17 32767) hHeld (k := ?_)
                 refine pT 15 64 (bt 17 65535) (k := ?_)
                 refine one_ (i := 16) (N := some 65) (bt 17 131071) rfl rfl (one_of HT_.out (by kernel_rfl)) (by decide) (fun K hK => ?_)
                 refine goes_ Tryd.func40 (by kernel_rfl) rfl #[.agg #[.int .i64 ((rd_T57 l0_0 x12_3).f0.f0), .int .i64 ((rd_T57 l0_0 x12_3).f0.f1)], .int .i64 (wrap64 ((rd l1 x10_2) - (rd l1 (ji19))))] (by rfl) rfl rfl (by (try simp only [lM, mC, mN]); first | done | (simp only [hji19]; rfl) | rfl | (simp only [List.length_drop, List.length_take]; rfl)) ?_
                 with_reducible refine (saronref00_Bears.calls ((rd_T57 l0_0 x12_3).f0.f0) ((rd_T57 l0_0 x12_3).f0.f1) (wrap64 ((rd l1 x10_2) - (rd l1 (ji19)))) true _ A22.out).mono ?_
                 rintro e w27 ⟨rfl, hb⟩
                 refine ⟨_, rfl, ?_⟩
                 have n0_ := Aside0.mk (Kd.S_below (TSo HO_9.out) hb)
                 have n1_ := Aside0.mk (Kd.R_below (TRo HO_11.out) hb)
                 have n2_ := Aside0.mk (TKb hb BK116.out)
                 have n3_ := Aside0.mk (below_step (TB1 GE116.out) hb)
                 clear HO_9
                 clear HO_11
                 clear BK116
                 clear HB
                 have HO_9 := n0_
                 have HO_11 := n1_
                 have BK116 := n2_
                 have HB := n3_
                 clear n0_ n1_ n2_ n3_
                 (try clear hb)
                 (try clear hb2)
                 (try clear hk)
                 (try clear hi)
                 refine hK.out _ _ ⟨cz BK116.out 0, cz BK116.out 1, cz BK116.out 2, cz BK116.out 3, (hx HB.out hw121_0), (hx HB.out hw121_1), (hx HB.out hw121_2), (hx HB.out hw122_0), (hx HB.out hw123_0)⟩ (fun hHeld => ?_)
                 clear hK K
                 refine norm_ (a' := ?_) ?_ ?_
                 rotate_left
                 ·show Act.put _ (some 65) _ = _
                  simp only [Act.put, lA, lZ, lS, i64_w, i32_w]
                  rfl
                 refine done_ (done_of HT_.out (by kernel_rfl)) ?_
                 try go_wp2_with (first | ((with_reducible refine gate_builtin (b := .append) (xs := #[.tmp 66, .tmp 68]) rfl ?_); (try (refine gate_guard (by rfl) ?_; dsimp only)); at_builtin; refine Kd.R_append (Kd.int .i64) (w0 := w) w.heap.size rfl (.tmp 66) (.tmp 68) 38 3 (.int .i64 0) 8 rfl Tryd.underlying38 info3 rfl (by decide) (by omega) u11 x11_3 x12_3 [.int .i64 x12_3] (fun _ => True) (fun _ => False) rfl rfl ?aP (fun _ hk => hk.elim) ?aF ?aO ?aB ?aS ?aL ?_; (case aP => exact rfl); (case aB => exact (TB1 GE116.out)); (case aF => exact (fun _ _ => trivial)); (case aO => exact (TRo HO_11.out)); (case aS => exact (below_size (TB1 GE116.out))); (case aL => have := LMc24.out; omega); intro v126 w28 ho hb hg hat; rw [← Ny125.out] at ho; have HO127 := Aside0.mk (ho); replace HO_9 := Aside0.mk (Kd.S_after (ok := (fun _ => True)) (by (with_reducible repeat (first | apply Kd.S_alloc | apply Kd.S_drewN | apply Kd.S_drew)); exact Kd.S_mono HO_9.out (fun _ hk => ⟨trivial, hk⟩)) hg hat); replace BK116 := Aside0.mk (blk_grown (g := gb116) (o := .cells #[.slice (some ad121) l0_0.length c0_0, .int .i64 a0_1, .int .i64 a0_2, .slice A0_3 l0_3.length c0_3] 27 (0, 0)) (TK BK116.out) hg (Kd.R_ne HO_11.out BK116.out (by decide))); replace HB := Aside0.mk (hb); clear HO_11; clear ho hb hg hat))
                 go_roundg k3
                 case measure => have := HJ3.out; have := HK2.out; have := HK3.out; omega
                 case rel => exact ⟨(y125), (wrap64 (x12_3 + 1)), TT, H', ⟨by have := HJ3.out; have := HK2.out; have := HK3.out; omega⟩, ⟨by (with_reducible repeat (first | apply Kd.S_alloc | apply Kd.S_drewN | apply Kd.S_drew)); exact Kd.S_mono HO_9.out (fun _ hk => hk.2)⟩, ⟨by (with_reducible repeat (first | apply Kd.R_alloc | apply Kd.R_drewN | apply Kd.R_drew)); exact HO127.out⟩, ⟨TK BK116.out⟩, ⟨TB1 GE116.out⟩⟩
                ·rw [if_neg c24] at H
                 exact absurd H (by simp)
               ·replace c23 := Bool.eq_false_iff.mpr c23
                subst c23
                have H1 : (saronref03_Told.l2 k3 l1 x9_2 x10_2 x11_3 (wrap64 (x12_3 + 1)) l0_0 a0_1 a0_2 l0_3) = some (r1, r2) := by rw [if_neg (show ¬ (false = true) by decide)] at H; exact H
                clear H
                have H := H1
                clear H1
                have H' := Aside0.mk H
                clear H
                have hcz29_0 := cz BK116.out 0
                have hcz29_1 := cz BK116.out 1
                have hcz29_2 := cz BK116.out 2
                have hcz29_3 := cz BK116.out 3
                have hfz29_0 := fz BK116.out 0
                have hfz29_1 := fz BK116.out 1
                have hfz29_2 := fz BK116.out 2
                have hfz29_3 := fz BK116.out 3
                try go_wp2
                have n0_ := Aside0.mk (Kd.S_drew HO_9.out)
                have n1_ := Aside0.mk (Kd.R_drew HO_11.out)
                have n2_ := Aside0.mk (blk_drew BK116.out)
                have n3_ := Aside0.mk (below_drew1 HB.out)
                clear HO_9
                clear HO_11
                clear BK116
                clear HB
                have HO_9 := n0_
                have HO_11 := n1_
                have BK116 := n2_
                have HB := n3_
                clear n0_ n1_ n2_ n3_
                have p121 : 0 ≤ (x12_3 : Int) := of_decide_eq_true TA
                have q121 : x12_3 < (l0_0.length : Int) := of_decide_eq_true TA
                obtain ⟨ad121, e121, hx121_0, hx121_1, hx121_2⟩ := at_T57 HR0_0.out x12_3 p121 q121
                have hw121_2 := hx121_2
                have hw121_1 := hx121_1
                have hw121_0 := hx121_0
                cases e121
                replace hx121_0 := hx HB.out hx121_0
                replace hx121_1 := hx HB.out hx121_1
                replace hx121_2 := hx HB.out hx121_2
                replace p121 := eq_true p121
                replace q121 := eq_true q121
                have p122 : 0 ≤ (x10_2 : Int) := of_decide_eq_true TA
                have q122 : x10_2 < (l1.length : Int) := of_decide_eq_true TA
                obtain ⟨ad122, e122, hx122_0⟩ := Kd.at_int HR1.out x10_2 p122 q122
                have hw122_0 := hx122_0
                cases e122
                replace hx122_0 := hx HB.out hx122_0
                replace p122 := eq_true p122
                replace q122 := eq_true q122
                have p123 : 0 ≤ ((ji19) : Int) := of_decide_eq_true TA
                have q123 : (ji19) < (l1.length : Int) := of_decide_eq_true TA
                obtain ⟨ad123, e123, hx123_0⟩ := Kd.at_int HR1.out (ji19) p123 q123
                have hw123_0 := hx123_0
                obtain rfl : ad122 = ad123 := (by injection e123)
                replace hx123_0 := hx HB.out hx123_0
                replace p123 := eq_true p123
                replace q123 := eq_true q123
                refine start_ (n := 17) (S := fun w' => w'.cell? ⟨gb116, 0, none⟩ = some (.slice (some ad121) l0_0.length c0_0) ∧ w'.cell? ⟨gb116, 1, none⟩ = some (.int .i64 a0_1) ∧ w'.cell? ⟨gb116, 2, none⟩ = some (.int .i64 a0_2) ∧ w'.cell? ⟨gb116, 3, none⟩ = some (.slice A0_3 l0_3.length c0_3) ∧ w'.cell? (ad121.add ((x12_3).toNat * 3)) = some (.int .i64 ((rd_T57 l0_0 x12_3).f0.f0)) ∧ w'.cell? ⟨(ad121.add ((x12_3).toNat * 3)).block, (ad121.add ((x12_3).toNat * 3)).off + 1, none⟩ = some (.int .i64 ((rd_T57 l0_0 x12_3).f0.f1)) ∧ w'.cell? ⟨(ad121.add ((x12_3).toNat * 3)).block, (ad121.add ((x12_3).toNat * 3)).off + 2, none⟩ = some (.int .i64 ((rd_T57 l0_0 x12_3).f1)) ∧ w'.cell? (ad122.add (x10_2).toNat) = some (.int .i64 (rd l1 x10_2)) ∧ w'.cell? (ad122.add ((ji19)).toNat) = some (.int .i64 (rd l1 (ji19)))) (ds := []) (.replicate 17 false) (by kernel_rfl) rfl rfl ⟨cz BK116.out 0, cz BK116.out 1, cz BK116.out 2, cz BK116.out 3, (hx HB.out hw121_0), (hx HB.out hw121_1), (hx HB.out hw121_2), (hx HB.out hw122_0), (hx HB.out hw123_0)⟩ (fun hHeld => ?_); refine with_tabW saronref03_Told.tab17 saronref03_Told.bits17 (fun HT_ HW_ => ?_)
                generalize wr.drew = w30 at HO_9 HO_11 BK116 HB hx121_0 hx121_1 hx121_2 hx122_0 hx123_0 hHeld ⊢
                refine pT 0 49 (bt 17 1) (k := ?_)
                refine pT 2 51 (bt 17 5) (k := ?_)
                refine pT 6 55 (bt 17 69) (k := ?_)
                refine pT 7 56 (bt 17 197) (k := ?_)
                refine pT 8 57 (bt 17 453) (k := ?_)
                refine pT 10 59 (bt 17 1477) (k := ?_)
                refine pT 11 60 (bt 17 3525) (k := ?_)
                refine pT 12 61 (bt 17 7621) (k := ?_)
                refine pT 13 62 (bt 17 15813) (k := ?_)
                refine tT9 1 50 (bt 17 15815) hHeld (k := ?_)
                refine pT 3 52 (bt 17 15823) (k := ?_)
                refine pT 4 53 (bt 17 15839) (k := ?_)
                refine tT9 5 54 (bt 17 15871) hHeld (k := ?_)
                refine tT9 9 58 (bt 17 16383) hHeld (k := ?_)
                refine tT9 14 63 (bt 17 32767) hHeld (k := ?_)
                refine pT 15 64 (bt 17 65535) (k := ?_)
                refine one_ (i := 16) (N := some 65) (bt 17 131071) rfl rfl (one_of HT_.out (by kernel_rfl)) (by decide) (fun K hK => ?_)
                refine goes_ Tryd.func40 (by kernel_rfl) rfl #[.agg #[.int .i64 ((rd_T57 l0_0 x12_3).f0.f0), .int .i64 ((rd_T57 l0_0 x12_3).f0.f1)], .int .i64 (wrap64 ((rd l1 x10_2) - (rd l1 (ji19))))] (by rfl) rfl rfl (by (try simp only [lM, mC, mN]); first | done | (simp only [hji19]; rfl) | rfl | (simp only [List.length_drop, List.length_take]; rfl)) ?_
                with_reducible refine (saronref00_Bears.calls ((rd_T57 l0_0 x12_3).f0.f0) ((rd_T57 l0_0 x12_3).f0.f1) (wrap64 ((rd l1 x10_2) - (rd l1 (ji19)))) false _ A22.out).mono ?_
                rintro e w31 ⟨rfl, hb⟩
                refine ⟨_, rfl, ?_⟩
                have n0_ := Aside0.mk (Kd.S_below (TSo HO_9.out) hb)
                have n1_ := Aside0.mk (Kd.R_below (TRo HO_11.out) hb)
                have n2_ := Aside0.mk (TKb hb BK116.out)
                have n3_ := Aside0.mk (below_step (TB1 GE116.out) hb)
                clear HO_9
                clear HO_11
                clear BK116
                clear HB
                have HO_9 := n0_
                have HO_11 := n1_
                have BK116 := n2_
                have HB := n3_
                clear n0_ n1_ n2_ n3_
                (try clear hb)
                (try clear hb2)
                (try clear hk)
                (try clear hi)
                refine hK.out _ _ ⟨cz BK116.out 0, cz BK116.out 1, cz BK116.out 2, cz BK116.out 3, (hx HB.out hw121_0), (hx HB.out hw121_1), (hx HB.out hw121_2), (hx HB.out hw122_0), (hx HB.out hw123_0)⟩ (fun hHeld => ?_)
                clear hK K
                refine norm_ (a' := ?_) ?_ ?_
                rotate_left
                ·show Act.put _ (some 65) _ = _
                 simp only [Act.put, lA, lZ, lS, i64_w, i32_w]
                 rfl
                refine done_ (done_of HT_.out (by kernel_rfl)) ?_
                try go_wp2
                go_roundg k3
                case measure => have := HJ3.out; have := HK2.out; have := HK3.out; omega
                case rel => exact ⟨(x11_3), (wrap64 (x12_3 + 1)), TT, H', ⟨by have := HJ3.out; have := HK2.out; have := HK3.out; omega⟩, ⟨by (with_reducible repeat (first | apply Kd.S_alloc | apply Kd.S_drewN | apply Kd.S_drew)); exact HO_9.out⟩, ⟨by (with_reducible repeat (first | apply Kd.R_alloc | apply Kd.R_drewN | apply Kd.R_drew)); exact HO_11.out⟩, ⟨TK BK116.out⟩, ⟨TB1 GE116.out⟩⟩
              ·rw [if_neg c21] at H
               exact absurd H (by simp)
             ·rw [if_neg c20] at H
              exact absurd H (by simp)
            ·rw [if_neg c18] at H
             exact absurd H (by simp)
           ·rw [if_neg c17] at H
            exact absurd H (by simp)
          ·rw [if_neg c16] at H
           exact absurd H (by simp)
         ·rw [if_neg c15] at H
          have c15b0 : decide (x12_3 < (l0_0.length : Int)) = false := decide_eq_false c15
          clear c15
          by_cases c32 : (x11_3.length : Int) = 0
          ·rw [if_pos c32] at H
           have c32b0 : ((x11_3.length : Int) == 0) = true := beq_iff_eq.mpr c32
           have c32b1 : ((x11_3.length : Int) != 0) = false := bne_eq_false_iff_eq.mpr c32
           clear c32
           simp only [Option.some.injEq, Prod.mk.injEq] at H
           obtain ⟨rfl, rfl⟩ := H
           have hcz33_0 := cz BK116.out 0
           have hcz33_1 := cz BK116.out 1
           have hcz33_2 := cz BK116.out 2
           have hcz33_3 := cz BK116.out 3
           have hfz33_0 := fz BK116.out 0
           have hfz33_1 := fz BK116.out 1
           have hfz33_2 := fz BK116.out 2
           have hfz33_3 := fz BK116.out 3
           obtain ⟨Ao34, co34, eo34⟩ := Kd.R_slice HO_11.out
           subst eo34
           go_wp2
           go_ret2
           exact ⟨_, TR, by first | exact Kd.S_nil _ _ _ _ _ | exact Kd.N_nil _ _ _ _ _ | exact Kd.V_nil _ _ _ _ _ | exact Kd.Q_nil _ _ _ _ _ | exact Kd.R_nil _ _ _ _ _, TB1 GE116.out⟩
          ·rw [if_neg c32] at H
           have c32b0 : ((x11_3.length : Int) == 0) = false := beq_eq_false_iff_ne.mpr c32
           have c32b1 : ((x11_3.length : Int) != 0) = true := bne_iff_ne.mpr c32
           have c32b2 : ¬ (x11_3 = []) := fun h_ => c32 (by rw [h_]; rfl)
           by_cases c35 : x9_2.length < 5864062014805
           ·rw [if_pos c35] at H
            have LMc35 := Aside0.mk c35
            clear c35
            obtain ⟨y128, hy128⟩ : ∃ y_ : List (List Int), y_ = (x9_2 ++ [x11_3]) := ⟨_, rfl⟩
            replace H : (saronref03_Told.l1 k3 l1 y128 (wrap64 (x10_2 + 1)) l0_0 a0_1 a0_2 l0_3) = some (r1, r2) := by first | (rw [hy128]; with_reducible exact H) | (have H2_ := (Option.bind_some _ _).symm.trans H; rw [hy128]; with_reducible exact H2_) | (have H2_ := (Option.bind_some _ _).symm.trans H; with_reducible exact H2_) | with_reducible exact H | (rw [hy128]; exact H) | exact H
            have Ny128 := Aside0.mk hy128
            clear hy128
            have H' := Aside0.mk H
            clear H
            have hcz36_0 := cz BK116.out 0
            have hcz36_1 := cz BK116.out 1
            have hcz36_2 := cz BK116.out 2
            have hcz36_3 := cz BK116.out 3
            have hfz36_0 := fz BK116.out 0
            have hfz36_1 := fz BK116.out 1
            have hfz36_2 := fz BK116.out 2
            have hfz36_3 := fz BK116.out 3
            obtain ⟨Ao37, co37, eo37⟩ := Kd.R_slice HO_11.out
            subst eo37
            go_wp2_with (first | ((with_reducible refine gate_builtin (b := .append) (xs := #[.tmp 73, .tmp 75]) rfl ?_); (try (refine gate_guard (by rfl) ?_; dsimp only)); at_builtin; refine Kd.S_append (Kd.slice 3 (Kd.int .i64)) (w0 := w) w.heap.size rfl (.tmp 73) (.tmp 75) 46 38 (.slice none 0 0) 24 rfl Tryd.underlying46 info38 rfl (by decide) (by omega) u9 x9_2 x11_3 [.slice Ao37 x11_3.length co37] (fun _ => True) (fun k_ => some k_ = (.slice Ao37 x11_3.length co37 : Value).ownBlock) rfl rfl ?aP (fun k_ hk_ => ((Kd.R_mono (ok' := fun k_ => ((fun _ => True)) k_ ∧ some k_ ≠ (u9 : Value).ownBlock) (Kd.R_apart' (HO_11.out) (Kd.S_typed HO_9.out) (by decide)) (fun k_ hk => ⟨trivial, hk.2⟩))).1 k_ hk_.symm) ?aF ?aO ?aB ?aS ?aL ?_; (case aP => exact Kd.M_row (Kd.R_mono (Kd.R_tight rfl (Kd.R_mono (ok' := fun k_ => ((fun _ => True)) k_ ∧ some k_ ≠ (u9 : Value).ownBlock) (Kd.R_apart' (HO_11.out) (Kd.S_typed HO_9.out) (by decide)) (fun k_ hk => ⟨trivial, hk.2⟩))) (fun _ h_ => h_))); (case aB => exact (TB1 GE116.out)); (case aF => exact (fun _ _ => trivial)); (case aO => exact (by (with_reducible repeat (first | apply Kd.S_alloc | apply Kd.S_drewN | apply Kd.S_drew)); exact Kd.S_mono HO_9.out (fun k_ hk => ⟨trivial, fun e_ => hk e_⟩))); (case aS => exact (below_size (TB1 GE116.out))); (case aL => have := LMc35.out; omega); intro v129 w38 ho hb hg hat; rw [← Ny128.out] at ho; have HO130 := Aside0.mk (ho); replace BK116 := Aside0.mk (blk_grown (g := gb116) (o := .cells #[.slice A0_0 l0_0.length c0_0, .int .i64 a0_1, .int .i64 a0_2, .slice A0_3 l0_3.length c0_3] 27 (0, 0)) (TK BK116.out) hg (Kd.S_ne HO_9.out BK116.out (by decide))); replace HB := Aside0.mk (hb); clear HO_9 HO_11; clear ho hb hg hat))
            go_roundg k3
            case measure => have := HJ3.out; have := HK2.out; have := HK3.out; omega
            case rel => exact ⟨(y128), (wrap64 (x10_2 + 1)), TT, H', ⟨by have := HJ3.out; have := HK2.out; have := HK3.out; omega⟩, ⟨by (with_reducible repeat (first | apply Kd.S_alloc | apply Kd.S_drewN | apply Kd.S_drew)); exact HO130.out⟩, ⟨TK BK116.out⟩, ⟨TB1 GE116.out⟩⟩
           ·rw [if_neg c35] at H
            exact absurd H (by simp)
      ·rw [if_neg c14] at H
       have c14b0 : decide (x10_2 < (l1.length : Int)) = false := decide_eq_false c14
       clear c14
       simp only [Option.some.injEq, Prod.mk.injEq] at H
       obtain ⟨rfl, rfl⟩ := H
       go_wp2
       go_ret2
       exact ⟨_, TR, by (with_reducible repeat (first | apply Kd.S_alloc | apply Kd.S_drewN | apply Kd.S_drew)); exact HO_9.out, TB1 GE116.out⟩
   ·rw [if_neg c11] at H
    have c11b0 : (t120 == 0) = false := beq_eq_false_iff_ne.mpr c11
    have c11b1 : (t120 != 0) = true := bne_iff_ne.mpr c11
    simp only [Option.some.injEq, Prod.mk.injEq] at H
    obtain ⟨rfl, rfl⟩ := H
    have hcz39_0 := cz BK116.out 0
    have hcz39_1 := cz BK116.out 1
    have hcz39_2 := cz BK116.out 2
    have hcz39_3 := cz BK116.out 3
    have hfz39_0 := fz BK116.out 0
    have hfz39_1 := fz BK116.out 1
    have hfz39_2 := fz BK116.out 2
    have hfz39_3 := fz BK116.out 3
    go_wp2_with (first | ((with_reducible refine gate_callee (f := 54) rfl ?_); refine goesL_ (some 32) rfl rfl Tryd.func54 (by kernel_rfl) rfl #[.agg #[.slice A0_0 l0_0.length c0_0, .int .i64 a0_1, .int .i64 a0_2, .slice A0_3 l0_3.length c0_3], .bool x6_3] rfl TM ?_; (with_reducible refine (saronref03_asked.calls kj3 _ _ l0_0 a0_1 a0_2 _ _ l0_3 x6_3 t120 _ ?side1 ?side2 ?side3 ?side4 A10.out).mono ?_); (case side1 => exact TC HR0_0.out); (case side2 => exact HC0_0.out); (case side3 => exact TC HR0_3.out); (case side4 => exact HC0_3.out); rintro e w40 ⟨rfl, hb⟩; refine ⟨_, rfl, ?_⟩; replace BK116 := Aside0.mk (TKb hb BK116.out); replace HB := Aside0.mk (below_step (TB1 GE116.out) hb); (try clear hb); (try clear hb2); (try clear hk); (try clear hi)))
    go_ret2
    exact ⟨_, TR, by first | exact Kd.S_nil _ _ _ _ _ | exact Kd.N_nil _ _ _ _ _ | exact Kd.V_nil _ _ _ _ _ | exact Kd.Q_nil _ _ _ _ _ | exact Kd.R_nil _ _ _ _ _, TB1 GE116.out⟩
end Go.Proofs.YtfmpbkolpjlfbaaDoor.PRaspKeys
