import Derived.Test.YtfmpbkolpjlfbaaDoorC0
import Derived.Test.YtfmpbkolpjlfbaaDoorM0
import Derived.Test.YtfmpbkolpjlfbaaDoorProg
import Derived.Below
import Derived.Deep.Draws
import Derived.Deep.AppendLies
import Derived.Maps.AppendAt
import Derived.OwnWalk
import Derived.Laws.BytesArg
import Derived.Laws.MakeOwn
import Derived.Laws.OwnMore
import Derived.Deep.OwnRows
import Derived.Tactics
import Derived.Lib.ConvBytes
import Derived.Laws.Slices
import Derived.WalkKit
import Derived.KernelRfl
import Derived.RowKit3
import Derived.Deep.LoopGhost
import Derived.Deep.QuietTactic
import Derived.BigQuiet
import Derived.WideLaws
import Derived.Deep.DeepCutAuto
import Derived.Deep.CutBlock
import Derived.Deep.RegionHeld3
import Derived.Laws.Rows
import Derived.Lib.AppendStr
import Derived.ArgAppend
import Derived.Laws.IdiomCopy
import Derived.OrdersHeld
import Derived.Laws.BitsLemmas
import Derived.RowKit
set_option linter.unusedVariables false
set_option linter.unusedSimpArgs false
namespace Go.Proofs.YtfmpbkolpjlfbaaDoor.PRaspKeys
open Go.RowKit Go.Proofs.YtfmpbkolpjlfbaaDoorW.PrintWords Go.Proofs.YtfmpbkolpjlfbaaDoorW.PrintLast Go.Proofs.YtfmpbkolpjlfbaaDoorW.PrintMore Go.Proofs.YtfmpbkolpjlfbaaDoor.M
attribute [local go_sem] max2_int min2_int max_two min_two max_three min_three max_four min_four   -- for this text's walks alone
/-! #### struct type 24 -/
/-! #### struct type 57 -/
/-! #### struct type 69 -/
/-! #### struct type 93 -/
end Go.Proofs.YtfmpbkolpjlfbaaDoor.PRaspKeys
namespace Go.Proofs.YtfmpbkolpjlfbaaDoor.PRaspKeys
open Go.RowKit Go.Proofs.YtfmpbkolpjlfbaaDoorW.PrintWords Go.Proofs.YtfmpbkolpjlfbaaDoorW.PrintLast Go.Proofs.YtfmpbkolpjlfbaaDoorW.PrintMore Go.Proofs.YtfmpbkolpjlfbaaDoor.M
attribute [local go_sem] max2_int min2_int max_two min_two max_three min_three max_four min_four   -- for this text's walks alone
/-! ### saronref03_Play: function 33 -/
mutual
def saronref03_Play.j0 : Nat → Int → Int → List Int → Int → List (S57) → Int → Int → List (S69) → Option (List Int × Int × Int)
 | 0, _, _, _, _, _, _, _, _ => none
 | k + 1, x1, x2, x3, x11, x140000, x140001, x140002, x140003 => if x11 = 0 then ((saronref03_rows.f k x140000 x140001 x140002 x140003 true).bind fun t145 => (if 0 ≤ x1 then (if x1 < (x140003.length : Int) then (if 0 ≤ ((rd_T69 x140003 x1).f1) then (if ((rd_T69 x140003 x1).f1) < (t145.length : Int) then ((saronref03_row_at.f ((rd_T93 t145 ((rd_T69 x140003 x1).f1)).f0) x2).bind fun t150 => (if t150 = 1000 then (some (([] : List Int), 0, 4)) else (saronref03_Play.l0 k x2 x3 t145 ((rd_T69 x140003 x1).f1) ([] : List Int) x140000 x140001 x140002 x140003))) else (none)) else (none)) else (none)) else (none))) else (some (([] : List Int), 0, x11))
def saronref03_Play.l0 : Nat → Int → List Int → List (S93) → Int → List Int → List (S57) → Int → Int → List (S69) → Option (List Int × Int × Int)
 | 0, _, _, _, _, _, _, _, _, _ => none
 | k + 1, x2, x3, x12, x13, x14, x140000, x140001, x140002, x140003 => (saronref00_Bears.f x140001 x140002 x2).bind fun t151 => (if t151 = true then (if (x14.length : Int) < (x3.length : Int) then (some (([] : List Int), 0, 32)) else (some (x14, x2, 0))) else ((saronref03_best.f k x140000 x140001 x140002 x140003 x12 x2 x13 true).bind fun bt152 => (if 0 ≤ bt152.1 then (if bt152.1 < (x140000.length : Int) then (if (x14.length : Int) = (x3.length : Int) then (some (([] : List Int), 0, 32)) else (if 0 ≤ (x14.length : Int) then (if (x14.length : Int) < (x3.length : Int) then ((saronref00_Bears.f ((rd_T57 x140000 bt152.1).f0.f0) ((rd_T57 x140000 bt152.1).f0.f1) (rd x3 (x14.length : Int))).bind fun t157 => (if t157 = true then (if x14.length < 17592186044416 then (saronref03_Play.l0 k (wrap64 (x2 + (rd x3 (x14.length : Int)))) x3 x12 (wrap64 (x13 - ((rd_T57 x140000 bt152.1).f1))) (x14 ++ [bt152.1]) x140000 x140001 x140002 x140003) else (none)) else (some (([] : List Int), 0, 32)))) else (none)) else (none))) else (none)) else (none))))
end
def saronref03_Play.f (k : Nat) (l0_0 : List (S57)) (a0_1 : Int) (a0_2 : Int) (l0_3 : List (S69)) (a1 : Int) (a2 : Int) (l3 : List Int) : Option (List Int × Int × Int) := (saronref00_Sits.f a1 0 (wrap64 ((l0_3.length : Int) - 1))).bind fun t140 => (if t140 = true then (if 0 ≤ a1 then (if a1 < (l0_3.length : Int) then ((saronref00_Bears.f ((rd_T69 l0_3 a1).f0.f0) ((rd_T69 l0_3 a1).f0.f1) a2).bind fun t142 => ((saronref03_asked.f k l0_0 a0_1 a0_2 l0_3 t142).bind fun t143 => (saronref03_Play.j0 k a1 a2 l3 t143 l0_0 a0_1 a0_2 l0_3))) else (none)) else (none)) else ((saronref03_asked.f k l0_0 a0_1 a0_2 l0_3 false).bind fun t144 => (saronref03_Play.j0 k a1 a2 l3 t144 l0_0 a0_1 a0_2 l0_3)))
theorem saronref03_Play.mono_l : ∀ k, (∀ y0 y1 y2 y3 y4 y5 y6 y7, LeO (saronref03_Play.j0 k y0 y1 y2 y3 y4 y5 y6 y7) (saronref03_Play.j0 (k + 1) y0 y1 y2 y3 y4 y5 y6 y7)) ∧ (∀ y0 y1 y2 y3 y4 y5 y6 y7 y8, LeO (saronref03_Play.l0 k y0 y1 y2 y3 y4 y5 y6 y7 y8) (saronref03_Play.l0 (k + 1) y0 y1 y2 y3 y4 y5 y6 y7 y8))
 | 0 => ⟨fun _ _ _ _ _ _ _ _ r h => by simp [saronref03_Play.j0] at h, fun _ _ _ _ _ _ _ _ _ r h => by simp [saronref03_Play.l0] at h⟩
 | k + 1 => by
  obtain ⟨ih0, ih1⟩ := saronref03_Play.mono_l k
  refine ⟨?_, ?_⟩
  ·intro y0 y1 y2 y3 y4 y5 y6 y7
   unfold saronref03_Play.j0
   repeat' first
   | (with_reducible exact ih0 _ _ _ _ _ _ _ _)
   | (with_reducible exact ih1 _ _ _ _ _ _ _ _ _)
   | (with_reducible exact saronref03_asked.mono _ _ _ _ _ _)
   | (with_reducible exact saronref03_best.mono _ _ _ _ _ _ _ _ _)
   | (with_reducible exact saronref03_rows.mono _ _ _ _ _ _)
   | (with_reducible exact LeO.refl _)
   | (with_reducible exact LeO.none _)
   | (with_reducible refine LeO.ite ?_ ?_)
   | (with_reducible refine LeO.bind ?_ (fun _ => ?_))
   | exact ih0 _ _ _ _ _ _ _ _
   | exact ih1 _ _ _ _ _ _ _ _ _
   | exact saronref03_asked.mono _ _ _ _ _ _
   | exact saronref03_best.mono _ _ _ _ _ _ _ _ _
   | exact saronref03_rows.mono _ _ _ _ _ _
   | exact LeO.none _
   | refine LeO.ite ?_ ?_
   | refine LeO.bind ?_ (fun _ => ?_)
  ·intro y0 y1 y2 y3 y4 y5 y6 y7 y8
   unfold saronref03_Play.l0
   repeat' first
   | (with_reducible exact ih0 _ _ _ _ _ _ _ _)
   | (with_reducible exact ih1 _ _ _ _ _ _ _ _ _)
   | (with_reducible exact saronref03_asked.mono _ _ _ _ _ _)
   | (with_reducible exact saronref03_best.mono _ _ _ _ _ _ _ _ _)
   | (with_reducible exact saronref03_rows.mono _ _ _ _ _ _)
   | (with_reducible exact LeO.refl _)
   | (with_reducible exact LeO.none _)
   | (with_reducible refine LeO.ite ?_ ?_)
   | (with_reducible refine LeO.bind ?_ (fun _ => ?_))
   | exact ih0 _ _ _ _ _ _ _ _
   | exact ih1 _ _ _ _ _ _ _ _ _
   | exact saronref03_asked.mono _ _ _ _ _ _
   | exact saronref03_best.mono _ _ _ _ _ _ _ _ _
   | exact saronref03_rows.mono _ _ _ _ _ _
   | exact LeO.none _
   | refine LeO.ite ?_ ?_
   | refine LeO.bind ?_ (fun _ => ?_)
theorem saronref03_Play.mono : ∀ a0 a1 a2 a3 a4 a5 a6 k, LeO (saronref03_Play.f k a0 a1 a2 a3 a4 a5 a6) (saronref03_Play.f (k + 1) a0 a1 a2 a3 a4 a5 a6) := by
 intro a0 a1 a2 a3 a4 a5 a6 k
 obtain ⟨ih0, ih1⟩ := saronref03_Play.mono_l k
 unfold saronref03_Play.f
 repeat' first
   | (with_reducible exact ih0 _ _ _ _ _ _ _ _)
   | (with_reducible exact ih1 _ _ _ _ _ _ _ _ _)
   | (with_reducible exact saronref03_asked.mono _ _ _ _ _ _)
   | (with_reducible exact saronref03_best.mono _ _ _ _ _ _ _ _ _)
   | (with_reducible exact saronref03_rows.mono _ _ _ _ _ _)
   | (with_reducible exact LeO.refl _)
   | (with_reducible exact LeO.none _)
   | (with_reducible refine LeO.ite ?_ ?_)
   | (with_reducible refine LeO.bind ?_ (fun _ => ?_))
   | exact ih0 _ _ _ _ _ _ _ _
   | exact ih1 _ _ _ _ _ _ _ _ _
   | exact saronref03_asked.mono _ _ _ _ _ _
   | exact saronref03_best.mono _ _ _ _ _ _ _ _ _
   | exact saronref03_rows.mono _ _ _ _ _ _
   | exact LeO.none _
   | refine LeO.ite ?_ ?_
   | refine LeO.bind ?_ (fun _ => ?_)
def saronref03_Play.T1 : Bool × List (List Nat × List Nat) := (true, [([], []), ([], []), ([], []), ([2], [2]), ([3], [3]), ([4], [4]), ([1, 5], [1, 5]), ([6, 6], [6]), ([7], [7]), ([8, 7], [7, 8]), ([7], [7]), ([9, 10, 7], [7, 9, 10]), ([11, 7], [7, 11]), ([12, 7], [7, 12]), ([7], [7]), ([13, 14, 7, 7], [7, 13, 14]), ([7, 15], [7, 15]), ([0, 16, 15], [0, 16]), ([17, 17, 0, 1, 2, 3, 4, 5, 6, 7, 8, 9, 10, 11, 12, 13, 14, 15, 16, 17], [17])])
def saronref03_Play.B1 : List Nat := [0, 0, 0, 4, 12, 28, 62, 126, 254, 510, 254, 2046, 4094, 8190, 254, 32766, 65534, 131071, 262143]
theorem saronref03_Play.tab1 : rtab .any (opsOf Tryd.f33 1) = saronref03_Play.T1 := by kernel_rfl
theorem saronref03_Play.bits1 : waitsOk saronref03_Play.T1.2 saronref03_Play.B1 = true := by kernel_rfl
def saronref03_Play.T12 : Bool × List (List Nat × List Nat) := (true, [([], []), ([0], [0]), ([], []), ([2], [2]), ([1, 3], [1, 3]), ([4], [4]), ([5], [5]), ([6, 5], [5, 6]), ([5], [5]), ([5], [5]), ([9, 5], [5, 9]), ([8, 10, 5], [5, 8, 10]), ([11, 5], [5, 11]), ([7, 12, 5, 5], [5, 7, 12]), ([13, 5], [5, 13]), ([5, 14], [5, 14])])
def saronref03_Play.B12 : List Nat := [0, 1, 0, 4, 15, 31, 63, 127, 63, 63, 575, 1855, 3903, 8191, 16383, 32767]
theorem saronref03_Play.tab12 : rtab .any (opsOf Tryd.f33 12) = saronref03_Play.T12 := by kernel_rfl
theorem saronref03_Play.bits12 : waitsOk saronref03_Play.T12.2 saronref03_Play.B12 = true := by kernel_rfl
def saronref03_Play.T14 : Bool × List (List Nat × List Nat) := (true, [([], []), ([], []), ([], []), ([2], [2]), ([1, 3], [1, 3]), ([4], [4]), ([0, 5], [0, 5]), ([], []), ([], []), ([8], [8]), ([7, 9], [7, 9]), ([6, 0, 1, 2, 3, 4, 5, 6], [0, 6]), ([10, 11, 0, 1, 2, 3, 4, 5, 6, 7, 8, 9, 10, 11], [7, 10])])
def saronref03_Play.B14 : List Nat := [0, 0, 0, 4, 14, 30, 63, 0, 0, 256, 896, 127, 4095]
theorem saronref03_Play.tab14 : rtab .any (opsOf Tryd.f33 14) = saronref03_Play.T14 := by kernel_rfl
theorem saronref03_Play.bits14 : waitsOk saronref03_Play.T14.2 saronref03_Play.B14 = true := by kernel_rfl
set_option maxHeartbeats 8000000 in
set_option maxRecDepth 100000 in
theorem saronref03_Play.calls (k : Nat) (A0_0 : Option Addr) (c0_0 : Nat) (l0_0 : List (S57)) (a0_1 : Int) (a0_2 : Int) (A0_3 : Option Addr) (c0_3 : Nat) (l0_3 : List (S69)) (a1 : Int) (a2 : Int) (A3 : Option Addr) (c3 : Nat) (l3 : List Int) (r1 : List Int) (r2 : Int) (r3 : Int) (w : World) (hr0_0 : Kd.C k57 w A0_0 l0_0.length l0_0) (hc0_0 : l0_0.length ≤ c0_0) (hr0_3 : Kd.C k69 w A0_3 l0_3.length l0_3) (hc0_3 : l0_3.length ≤ c0_3) (hr3 : Kd.C (Kd.int .i64) w A3 l3.length l3) (hc3 : l3.length ≤ c3) (h : saronref03_Play.f k l0_0 a0_1 a0_2 l0_3 a1 a2 l3 = some (r1, r2, r3)) :
  Calls Tryd.prog 33 #[.agg #[.slice A0_0 l0_0.length c0_0, .int .i64 a0_1, .int .i64 a0_2, .slice A0_3 l0_3.length c0_3], .int .i64 a1, .int .i64 a2, .slice A3 l3.length c3] w fun e w' => ∃ v0_ : Value, e = .returned (.tuple #[v0_, .int .i64 r2, .int .i64 r3]) ∧ Kd.R (Kd.int .i64) 3 w' w.heap.size (fun _ => True) v0_ r1 ∧ Below w.heap.size w w' := by
 have hu27 := Tryd.underlying27
 have hu24 := Tryd.underlying24
 have hu93 := Tryd.underlying93
 have hu57 := Tryd.underlying57
 have HR0_0 := Aside0.mk hr0_0
 have HC0_0 := Aside0.mk hc0_0
 clear hr0_0 hc0_0
 have HR0_3 := Aside0.mk hr0_3
 have HC0_3 := Aside0.mk hc0_3
 clear hr0_3 hc0_3
 have HR3 := Aside0.mk hr3
 have HC3 := Aside0.mk hc3
 clear hr3 hc3
 have HB := Aside0.mk (Below.refl w.heap.size w)
 have H : ((saronref00_Sits.f a1 0 (wrap64 ((l0_3.length : Int) - 1))).bind fun t140 => (if t140 = true then (if 0 ≤ a1 then (if a1 < (l0_3.length : Int) then ((saronref00_Bears.f ((rd_T69 l0_3 a1).f0.f0) ((rd_T69 l0_3 a1).f0.f1) a2).bind fun t142 => ((saronref03_asked.f k l0_0 a0_1 a0_2 l0_3 t142).bind fun t143 => (saronref03_Play.j0 k a1 a2 l3 t143 l0_0 a0_1 a0_2 l0_3))) else (none)) else (none)) else ((saronref03_asked.f k l0_0 a0_1 a0_2 l0_3 false).bind fun t144 => (saronref03_Play.j0 k a1 a2 l3 t144 l0_0 a0_1 a0_2 l0_3)))) = some (r1, r2, r3) := h
 clear h
 have HC5 := Aside0.mk H
 clear H
 go_enter Tryd.func33, Tryd.ntmps33
 go_upto_region 1 with (first | ((with_reducible refine gate_dst (N := 4) rfl ?_); (try (refine gate_guard (by rfl) ?_; dsimp only)); refine box_event ?hg (N := 4) ?hd (cs := #[.slice A0_0 l0_0.length c0_0, .int .i64 a0_1, .int .i64 a0_2, .slice A0_3 l0_3.length c0_3]) (t := 27) ?hr ?_; (case hd => rfl); (case hg => rfl); (case hr => exact TS); intro gb139 hg w6 hbox hb; have BK139 := Aside0.mk (hbox); have GW139 := Aside0.mk ((TG : w.heap.size ≤ gb139)); have GE139 := Aside0.mk ((TG : w.heap.size ≤ gb139)); replace HB := Aside0.mk (below_step TB hb); clear hb hbox hg))
 (try simp only [Act.put, lA, lZ, lS])
 go_cut [11] (fun v11 wc => ∃ (kq : Nat) (x11_4 : Int), v11 = .int .i64 x11_4 ∧ Aside0 (saronref03_Play.j0 kq a1 a2 l3 x11_4 l0_0 a0_1 a0_2 l0_3 = some (r1, r2, r3)) ∧ Aside0 (kq ≤ k) ∧ Aside0 (wc.heap[gb139]? = some (.cells #[(.slice A0_0 l0_0.length c0_0), .int .i64 a0_1, .int .i64 a0_2, (.slice A0_3 l0_3.length c0_3)] 27 (0, 0))) ∧ Aside0 (Below w.heap.size w wc))
 case first =>
  have H := HC5.out
  clear HC5
  replace H := Option.bind_eq_some_iff.mp H
  obtain ⟨t140, A70, H⟩ := H
  replace H : (if t140 = true then (if 0 ≤ a1 then (if a1 < (l0_3.length : Int) then ((saronref00_Bears.f ((rd_T69 l0_3 a1).f0.f0) ((rd_T69 l0_3 a1).f0.f1) a2).bind fun t142 => ((saronref03_asked.f k l0_0 a0_1 a0_2 l0_3 t142).bind fun t143 => (saronref03_Play.j0 k a1 a2 l3 t143 l0_0 a0_1 a0_2 l0_3))) else (none)) else (none)) else ((saronref03_asked.f k l0_0 a0_1 a0_2 l0_3 false).bind fun t144 => (saronref03_Play.j0 k a1 a2 l3 t144 l0_0 a0_1 a0_2 l0_3))) = some (r1, r2, r3) := H
  have A7 := Aside0.mk A70
  clear A70
  by_cases c8 : t140 = true
  ·subst c8
   have H1 : (if 0 ≤ a1 then (if a1 < (l0_3.length : Int) then ((saronref00_Bears.f ((rd_T69 l0_3 a1).f0.f0) ((rd_T69 l0_3 a1).f0.f1) a2).bind fun t142 => ((saronref03_asked.f k l0_0 a0_1 a0_2 l0_3 t142).bind fun t143 => (saronref03_Play.j0 k a1 a2 l3 t143 l0_0 a0_1 a0_2 l0_3))) else (none)) else (none)) = some (r1, r2, r3) := by rw [if_pos rfl] at H; exact H
   clear H
   have H := H1
   clear H1
   by_cases c9 : 0 ≤ a1
   ·rw [if_pos c9] at H
    have c9b0 : decide (0 ≤ a1) = true := decide_eq_true c9
    clear c9
    (first | rw [c9b0] | (simp only [i64_w, i32_w]; rw [c9b0]) | skip)
    by_cases c10 : a1 < (l0_3.length : Int)
    ·rw [if_pos c10] at H
     have c10b0 : decide (a1 < (l0_3.length : Int)) = true := decide_eq_true c10
     clear c10
     replace H := Option.bind_eq_some_iff.mp H
     obtain ⟨t142, A110, H⟩ := H
     replace H : ((saronref03_asked.f k l0_0 a0_1 a0_2 l0_3 t142).bind fun t143 => (saronref03_Play.j0 k a1 a2 l3 t143 l0_0 a0_1 a0_2 l0_3)) = some (r1, r2, r3) := H
     have A11 := Aside0.mk A110
     clear A110
     replace H := Option.bind_eq_some_iff.mp H
     obtain ⟨t143, A120, H⟩ := H
     replace H : (saronref03_Play.j0 k a1 a2 l3 t143 l0_0 a0_1 a0_2 l0_3) = some (r1, r2, r3) := H
     have A12 := Aside0.mk A120
     clear A120
     have H' := Aside0.mk H
     clear H
     try go_wp2
     have n0_ := Aside0.mk (blk_drew BK139.out)
     have n1_ := Aside0.mk (below_drew1 HB.out)
     clear BK139
     clear HB
     have BK139 := n0_
     have HB := n1_
     clear n0_ n1_
     have p141 : 0 ≤ (a1 : Int) := of_decide_eq_true TA
     have q141 : a1 < (l0_3.length : Int) := of_decide_eq_true TA
     obtain ⟨ad141, e141, hx141_0, hx141_1, hx141_2⟩ := at_T69 HR0_3.out a1 p141 q141
     have hw141_2 := hx141_2
     have hw141_1 := hx141_1
     have hw141_0 := hx141_0
     cases e141
     replace hx141_0 := (HB.out.cell  (World.block_lt_of_cell? w _ hx141_0)).trans hx141_0
     replace hx141_1 := (HB.out.cell  (World.block_lt_of_cell? w _ hx141_1)).trans hx141_1
     replace hx141_2 := (HB.out.cell  (World.block_lt_of_cell? w _ hx141_2)).trans hx141_2
     replace p141 := eq_true p141
     replace q141 := eq_true q141
     refine start_ (n := 19) (S := fun w' => w'.cell? ⟨gb139, 0, none⟩ = some (.slice A0_0 l0_0.length c0_0) ∧ w'.cell? ⟨gb139, 1, none⟩ = some (.int .i64 a0_1) ∧ w'.cell? ⟨gb139, 2, none⟩ = some (.int .i64 a0_2) ∧ w'.cell? ⟨gb139, 3, none⟩ = some (.slice (some ad141) l0_3.length c0_3) ∧ w'.cell? (ad141.add ((a1).toNat * 3)) = some (.int .i64 ((rd_T69 l0_3 a1).f0.f0)) ∧ w'.cell? ⟨(ad141.add ((a1).toNat * 3)).block, (ad141.add ((a1).toNat * 3)).off + 1, none⟩ = some (.int .i64 ((rd_T69 l0_3 a1).f0.f1)) ∧ w'.cell? ⟨(ad141.add ((a1).toNat * 3)).block, (ad141.add ((a1).toNat * 3)).off + 2, none⟩ = some (.int .i64 ((rd_T69 l0_3 a1).f1))) (ds := []) (.replicate 19 false) (by kernel_rfl) rfl rfl ⟨cz BK139.out 0, cz BK139.out 1, cz BK139.out 2, cz BK139.out 3, ((HB.out.cell  (World.block_lt_of_cell? w _ hw141_0)).trans hw141_0), ((HB.out.cell  (World.block_lt_of_cell? w _ hw141_1)).trans hw141_1), ((HB.out.cell  (World.block_lt_of_cell? w _ hw141_2)).trans hw141_2)⟩ (fun hHeld => ?_); refine with_tabW saronref03_Play.tab1 saronref03_Play.bits1 (fun HT_ HW_ => ?_)
     generalize w6.drew = w13 at BK139 HB hx141_0 hx141_1 hx141_2 hHeld ⊢
     refine pT 1 19 (bt 19 2) (k := ?_)
     refine pT 2 20 (bt 19 6) (k := ?_)
     refine tT7 0 18 (bt 19 7) hHeld (k := ?_)
     refine tT7 3 21 (bt 19 15) hHeld (k := ?_)
     refine pT 4 22 (bt 19 31) (k := ?_)
     refine pT 5 23 (bt 19 63) (k := ?_)
     refine one_ (i := 6) (N := some 24) (bt 19 127) rfl rfl (one_of HT_.out (by kernel_rfl)) (by decide) (fun K hK => ?_)
     refine goes_ Tryd.func39 (by kernel_rfl) rfl #[.int .i64 a1, .int .i64 0, .int .i64 (wrap64 ((l0_3.length : Int) - 1))] (by rfl) rfl rfl TM ?_
     with_reducible refine (saronref00_Sits.calls a1 0 (wrap64 ((l0_3.length : Int) - 1)) true _ A7.out).mono ?_
     rintro e w' ⟨rfl, ⟨nd, rfl⟩⟩
     refine ⟨_, rfl, ?_⟩
     refine hK.out _ _ ⟨cz BK139.out 0, cz BK139.out 1, cz BK139.out 2, cz BK139.out 3, ((HB.out.cell  (World.block_lt_of_cell? w _ hw141_0)).trans hw141_0), ((HB.out.cell  (World.block_lt_of_cell? w _ hw141_1)).trans hw141_1), ((HB.out.cell  (World.block_lt_of_cell? w _ hw141_2)).trans hw141_2)⟩ (fun hHeld => ?_)
     clear hK K
     refine norm_ (a' := ?_) ?_ ?_
     rotate_left
     ·show Act.put _ (some 24) _ = _
      simp only [Act.put, lA, lZ, lS, i64_w, i32_w]
      rfl
     refine pT 7 25 (bt 19 255) (k := ?_)
     refine pT 8 26 (bt 19 511) (k := ?_)
     refine pT 10 28 (bt 19 1535) (k := ?_)
     refine pT 14 32 (bt 19 17919) (k := ?_)
     refine tT7 9 27 (bt 19 18431) hHeld (k := ?_)
     refine pT 11 29 (bt 19 20479) (k := ?_)
     refine pT 12 30 (bt 19 24575) (k := ?_)
     refine tT7 13 31 (bt 19 32767) hHeld (k := ?_)
     refine one_ (i := 15) (N := some 33) (bt 19 65535) rfl rfl (one_of HT_.out (by kernel_rfl)) (by decide) (fun K hK => ?_)
     refine goes_ Tryd.func40 (by kernel_rfl) rfl #[.agg #[.int .i64 ((rd_T69 l0_3 a1).f0.f0), .int .i64 ((rd_T69 l0_3 a1).f0.f1)], .int .i64 a2] (by rfl) rfl rfl TM ?_
     with_reducible refine (saronref00_Bears.calls ((rd_T69 l0_3 a1).f0.f0) ((rd_T69 l0_3 a1).f0.f1) a2 t142 _ A11.out).mono ?_
     rintro e w14 ⟨rfl, hb⟩
     refine ⟨_, rfl, ?_⟩
     have n0_ := Aside0.mk (blk_below (g := gb139) (o := .cells #[.slice A0_0 l0_0.length c0_0, .int .i64 a0_1, .int .i64 a0_2, .slice (some ad141) l0_3.length c0_3] 27 (0, 0)) (by (with_reducible repeat (first | refine blk_drewN ?_ _ | refine blk_drew ?_ | refine blk_alloc ?_ _)); exact BK139.out) hb)
     have n1_ := Aside0.mk (below_step (TB1 GE139.out) hb)
     clear BK139
     clear HB
     have BK139 := n0_
     have HB := n1_
     clear n0_ n1_
     (try clear hb)
     (try clear hb2)
     (try clear hk)
     (try clear hi)
     refine hK.out _ _ ⟨cz BK139.out 0, cz BK139.out 1, cz BK139.out 2, cz BK139.out 3, ((HB.out.cell  (World.block_lt_of_cell? w _ hw141_0)).trans hw141_0), ((HB.out.cell  (World.block_lt_of_cell? w _ hw141_1)).trans hw141_1), ((HB.out.cell  (World.block_lt_of_cell? w _ hw141_2)).trans hw141_2)⟩ (fun hHeld => ?_)
     clear hK K
     refine norm_ (a' := ?_) ?_ ?_
     rotate_left
     ·show Act.put _ (some 33) _ = _
      simp only [Act.put, lA, lZ, lS, i64_w, i32_w]
      rfl
     refine pT 16 34 (bt 19 131071) (k := ?_)
     refine one_ (i := 17) (N := some 35) (bt 19 262143) rfl rfl (one_of HT_.out (by kernel_rfl)) (by decide) (fun K hK => ?_)
     refine goes_ Tryd.func54 (by kernel_rfl) rfl #[.agg #[.slice A0_0 l0_0.length c0_0, .int .i64 a0_1, .int .i64 a0_2, .slice (some ad141) l0_3.length c0_3], .bool t142] (by rfl) rfl rfl TM ?_
     with_reducible refine (saronref03_asked.calls k _ _ l0_0 a0_1 a0_2 _ _ l0_3 t142 t143 _ ?side1 ?side2 ?side3 ?side4 A12.out).mono ?_
     (case side1 => exact TC HR0_0.out)
     (case side2 => exact HC0_0.out)
     (case side3 => exact TC HR0_3.out)
     (case side4 => exact HC0_3.out)
     rintro e w15 ⟨rfl, hb⟩
     refine ⟨_, rfl, ?_⟩
     have n0_ := Aside0.mk (blk_below (g := gb139) (o := .cells #[.slice A0_0 l0_0.length c0_0, .int .i64 a0_1, .int .i64 a0_2, .slice (some ad141) l0_3.length c0_3] 27 (0, 0)) (by (with_reducible repeat (first | refine blk_drewN ?_ _ | refine blk_drew ?_ | refine blk_alloc ?_ _)); exact BK139.out) hb)
     have n1_ := Aside0.mk (below_step (TB1 GE139.out) hb)
     clear BK139
     clear HB
     have BK139 := n0_
     have HB := n1_
     clear n0_ n1_
     (try clear hb)
     (try clear hb2)
     (try clear hk)
     (try clear hi)
     refine hK.out _ _ ⟨cz BK139.out 0, cz BK139.out 1, cz BK139.out 2, cz BK139.out 3, ((HB.out.cell  (World.block_lt_of_cell? w _ hw141_0)).trans hw141_0), ((HB.out.cell  (World.block_lt_of_cell? w _ hw141_1)).trans hw141_1), ((HB.out.cell  (World.block_lt_of_cell? w _ hw141_2)).trans hw141_2)⟩ (fun hHeld => ?_)
     clear hK K
     refine norm_ (a' := ?_) ?_ ?_
     rotate_left
     ·show Act.put _ (some 35) _ = _
      simp only [Act.put, lA, lZ, lS, i64_w, i32_w]
      rfl
     refine pT 18 11 (bt 19 524287) (k := ?_)
     refine done_ (done_of HT_.out (by kernel_rfl)) ?_
     try go_wp2
     go_meet
     case rel => exact ⟨_, (t143), TT, H', ⟨by first | omega | exact Nat.le_refl _⟩, ⟨by (with_reducible repeat (first | refine blk_drewN ?_ _ | refine blk_drew ?_ | refine blk_alloc ?_ _)); exact BK139.out⟩, ⟨TB1 GE139.out⟩⟩
    ·rw [if_neg c10] at H
     exact absurd H (by simp)
   ·rw [if_neg c9] at H
    exact absurd H (by simp)
  ·replace c8 := Bool.eq_false_iff.mpr c8
   subst c8
   have H1 : ((saronref03_asked.f k l0_0 a0_1 a0_2 l0_3 false).bind fun t144 => (saronref03_Play.j0 k a1 a2 l3 t144 l0_0 a0_1 a0_2 l0_3)) = some (r1, r2, r3) := by rw [if_neg (show ¬ (false = true) by decide)] at H; exact H
   clear H
   have H := H1
   clear H1
   replace H := Option.bind_eq_some_iff.mp H
   obtain ⟨t144, A160, H⟩ := H
   replace H : (saronref03_Play.j0 k a1 a2 l3 t144 l0_0 a0_1 a0_2 l0_3) = some (r1, r2, r3) := H
   have A16 := Aside0.mk A160
   clear A160
   have H' := Aside0.mk H
   clear H
   try go_wp2
   have n0_ := Aside0.mk (blk_drew BK139.out)
   have n1_ := Aside0.mk (below_drew1 HB.out)
   clear BK139
   clear HB
   have BK139 := n0_
   have HB := n1_
   clear n0_ n1_
   refine start_ (n := 19) (S := fun w' => w'.cell? ⟨gb139, 0, none⟩ = some (.slice A0_0 l0_0.length c0_0) ∧ w'.cell? ⟨gb139, 1, none⟩ = some (.int .i64 a0_1) ∧ w'.cell? ⟨gb139, 2, none⟩ = some (.int .i64 a0_2) ∧ w'.cell? ⟨gb139, 3, none⟩ = some (.slice A0_3 l0_3.length c0_3)) (ds := []) (.replicate 19 false) (by kernel_rfl) rfl rfl ⟨cz BK139.out 0, cz BK139.out 1, cz BK139.out 2, cz BK139.out 3⟩ (fun hHeld => ?_); refine with_tabW saronref03_Play.tab1 saronref03_Play.bits1 (fun HT_ HW_ => ?_)
   generalize w6.drew = w17 at BK139 HB hHeld ⊢
   refine pT 1 19 (bt 19 2) (k := ?_)
   refine pT 2 20 (bt 19 6) (k := ?_)
   refine tT4 0 18 (bt 19 7) hHeld (k := ?_)
   refine tT4 3 21 (bt 19 15) hHeld (k := ?_)
   refine pT 4 22 (bt 19 31) (k := ?_)
   refine pT 5 23 (bt 19 63) (k := ?_)
   refine one_ (i := 6) (N := some 24) (bt 19 127) rfl rfl (one_of HT_.out (by kernel_rfl)) (by decide) (fun K hK => ?_)
   refine goes_ Tryd.func39 (by kernel_rfl) rfl #[.int .i64 a1, .int .i64 0, .int .i64 (wrap64 ((l0_3.length : Int) - 1))] (by rfl) rfl rfl TM ?_
   with_reducible refine (saronref00_Sits.calls a1 0 (wrap64 ((l0_3.length : Int) - 1)) false _ A7.out).mono ?_
   rintro e w' ⟨rfl, ⟨nd, rfl⟩⟩
   refine ⟨_, rfl, ?_⟩
   refine hK.out _ _ ⟨cz BK139.out 0, cz BK139.out 1, cz BK139.out 2, cz BK139.out 3⟩ (fun hHeld => ?_)
   clear hK K
   refine norm_ (a' := ?_) ?_ ?_
   rotate_left
   ·show Act.put _ (some 24) _ = _
    simp only [Act.put, lA, lZ, lS, i64_w, i32_w]
    rfl
   refine pT 7 25 (bt 19 255) (k := ?_)
   refine pU 8 26 (bt 19 511) (k := ?_)
   refine pU 9 27 (bt 19 1023) (k := ?_)
   refine pU 10 28 (bt 19 2047) (k := ?_)
   refine pU 11 29 (bt 19 4095) (k := ?_)
   refine pU 12 30 (bt 19 8191) (k := ?_)
   refine pU 13 31 (bt 19 16383) (k := ?_)
   refine pU 14 32 (bt 19 32767) (k := ?_)
   refine pU 15 33 (bt 19 65535) (k := ?_)
   refine pT 16 34 (bt 19 131071) (k := ?_)
   refine one_ (i := 17) (N := some 35) (bt 19 262143) rfl rfl (one_of HT_.out (by kernel_rfl)) (by decide) (fun K hK => ?_)
   refine goes_ Tryd.func54 (by kernel_rfl) rfl #[.agg #[.slice A0_0 l0_0.length c0_0, .int .i64 a0_1, .int .i64 a0_2, .slice A0_3 l0_3.length c0_3], .bool false] (by rfl) rfl rfl TM ?_
   with_reducible refine (saronref03_asked.calls k _ _ l0_0 a0_1 a0_2 _ _ l0_3 false t144 _ ?side1 ?side2 ?side3 ?side4 A16.out).mono ?_
   (case side1 => exact TD HR0_0.out (TB1 GE139.out))
   (case side2 => exact HC0_0.out)
   (case side3 => exact TD HR0_3.out (TB1 GE139.out))
   (case side4 => exact HC0_3.out)
   rintro e w18 ⟨rfl, hb⟩
   refine ⟨_, rfl, ?_⟩
   have n0_ := Aside0.mk (blk_below (g := gb139) (o := .cells #[.slice A0_0 l0_0.length c0_0, .int .i64 a0_1, .int .i64 a0_2, .slice A0_3 l0_3.length c0_3] 27 (0, 0)) (by (with_reducible repeat (first | refine blk_drewN ?_ _ | refine blk_drew ?_ | refine blk_alloc ?_ _)); exact BK139.out) hb)
   have n1_ := Aside0.mk (below_step (TB1 GE139.out) hb)
   clear BK139
   clear HB
   have BK139 := n0_
   have HB := n1_
   clear n0_ n1_
   (try clear hb)
   (try clear hb2)
   (try clear hk)
   (try clear hi)
   refine hK.out _ _ ⟨cz BK139.out 0, cz BK139.out 1, cz BK139.out 2, cz BK139.out 3⟩ (fun hHeld => ?_)
   clear hK K
   refine norm_ (a' := ?_) ?_ ?_
   rotate_left
   ·show Act.put _ (some 35) _ = _
    simp only [Act.put, lA, lZ, lS, i64_w, i32_w]
    rfl
   refine pT 18 11 (bt 19 524287) (k := ?_)
   refine done_ (done_of HT_.out (by kernel_rfl)) ?_
   try go_wp2
   go_meet
   case rel => exact ⟨_, (t144), TT, H', ⟨by first | omega | exact Nat.le_refl _⟩, ⟨by (with_reducible repeat (first | refine blk_drewN ?_ _ | refine blk_drew ?_ | refine blk_alloc ?_ _)); exact BK139.out⟩, ⟨TB1 GE139.out⟩⟩
 case rest =>
  clear HC5
  try clear c1
  try clear p1
  try clear q1
  try clear hx1
  try clear p2
  try clear c3
  try clear c4
  try clear c5
  try clear p6
  try clear c8
  try clear c9
  try clear c9b0
  try clear c10
  try clear c10b0
  try clear p14
  try clear q14
  try clear hx14
  try clear hx141_0
  try clear hx141_1
  try clear hx141_2
  try clear p141
  try clear q141
  obtain ⟨kq, x11_4, rfl, HA, HJ4, BK139, HB⟩ := hcut
  cases kq with
  | zero => exact absurd HA.out (by simp [saronref03_Play.j0])
  | succ kj4 =>
   have H := HA.out
   clear HA
   simp only [saronref03_Play.j0] at H
   by_cases c19 : x11_4 = 0
   ·rw [if_pos c19] at H
    have c19b0 : (x11_4 == 0) = true := beq_iff_eq.mpr c19
    have c19b1 : (x11_4 != 0) = false := bne_eq_false_iff_eq.mpr c19
    clear c19
    replace H := Option.bind_eq_some_iff.mp H
    obtain ⟨t145, A200, H⟩ := H
    replace H : (if 0 ≤ a1 then (if a1 < (l0_3.length : Int) then (if 0 ≤ ((rd_T69 l0_3 a1).f1) then (if ((rd_T69 l0_3 a1).f1) < (t145.length : Int) then ((saronref03_row_at.f ((rd_T93 t145 ((rd_T69 l0_3 a1).f1)).f0) a2).bind fun t150 => (if t150 = 1000 then (some (([] : List Int), 0, 4)) else (saronref03_Play.l0 kj4 a2 l3 t145 ((rd_T69 l0_3 a1).f1) ([] : List Int) l0_0 a0_1 a0_2 l0_3))) else (none)) else (none)) else (none)) else (none)) = some (r1, r2, r3) := H
    have A20 := Aside0.mk A200
    clear A200
    by_cases c21 : 0 ≤ a1
    ·rw [if_pos c21] at H
     have c21b0 : decide (0 ≤ a1) = true := decide_eq_true c21
     clear c21
     by_cases c22 : a1 < (l0_3.length : Int)
     ·rw [if_pos c22] at H
      have c22b0 : decide (a1 < (l0_3.length : Int)) = true := decide_eq_true c22
      clear c22
      by_cases c23 : 0 ≤ ((rd_T69 l0_3 a1).f1)
      ·rw [if_pos c23] at H
       have c23b0 : decide (0 ≤ ((rd_T69 l0_3 a1).f1)) = true := decide_eq_true c23
       clear c23
       by_cases c24 : ((rd_T69 l0_3 a1).f1) < (t145.length : Int)
       ·rw [if_pos c24] at H
        have c24b0 : decide (((rd_T69 l0_3 a1).f1) < (t145.length : Int)) = true := decide_eq_true c24
        clear c24
        replace H := Option.bind_eq_some_iff.mp H
        obtain ⟨t150, A250, H⟩ := H
        replace H : (if t150 = 1000 then (some (([] : List Int), 0, 4)) else (saronref03_Play.l0 kj4 a2 l3 t145 ((rd_T69 l0_3 a1).f1) ([] : List Int) l0_0 a0_1 a0_2 l0_3)) = some (r1, r2, r3) := H
        have A25 := Aside0.mk A250
        clear A250
        by_cases c26 : t150 = 1000
        ·rw [if_pos c26] at H
         have c26b0 : (t150 == 1000) = true := beq_iff_eq.mpr c26
         have c26b1 : (t150 != 1000) = false := bne_eq_false_iff_eq.mpr c26
         clear c26
         simp only [Option.some.injEq, Prod.mk.injEq] at H
         obtain ⟨rfl, rfl, rfl⟩ := H
         have hcz27_0 := cz BK139.out 0
         have hcz27_1 := cz BK139.out 1
         have hcz27_2 := cz BK139.out 2
         have hcz27_3 := cz BK139.out 3
         have hfz27_0 := fz BK139.out 0
         have hfz27_1 := fz BK139.out 1
         have hfz27_2 := fz BK139.out 2
         have hfz27_3 := fz BK139.out 3
         go_wp2_with (first | ((with_reducible refine gate_callee (f := 57) rfl ?_); refine goesL_ (some 40) rfl rfl Tryd.func57 (by kernel_rfl) rfl #[.agg #[.slice A0_0 l0_0.length c0_0, .int .i64 a0_1, .int .i64 a0_2, .slice A0_3 l0_3.length c0_3], .bool true] rfl TM ?_; (with_reducible refine (saronref03_rows.calls kj4 _ _ l0_0 a0_1 a0_2 _ _ l0_3 true t145 _ ?side1 ?side2 ?side3 ?side4 A20.out).mono ?_); (case side1 => exact TC HR0_0.out); (case side2 => exact HC0_0.out); (case side3 => exact TC HR0_3.out); (case side4 => exact HC0_3.out); rintro e w28 ⟨v146, rfl, ho0, hb⟩; refine ⟨_, rfl, ?_⟩; have HO147 := Aside0.mk (Kd.S_lower ho0 (below_size (TB1 GE139.out))); replace BK139 := Aside0.mk (blk_below (g := gb139) (o := .cells #[.slice A0_0 l0_0.length c0_0, .int .i64 a0_1, .int .i64 a0_2, .slice A0_3 l0_3.length c0_3] 27 (0, 0)) (by (with_reducible repeat (first | refine blk_drewN ?_ _ | refine blk_drew ?_ | refine blk_alloc ?_ _)); exact BK139.out) hb); replace HB := Aside0.mk (below_step (TB1 GE139.out) hb); (try clear hb); (try clear hb2); (try clear hk); (try clear hi); (try clear ho0); have hcz29_0 := cz BK139.out 0; have hcz29_1 := cz BK139.out 1; have hcz29_2 := cz BK139.out 2; have hcz29_3 := cz BK139.out 3; have hfz29_0 := fz BK139.out 0; have hfz29_1 := fz BK139.out 1; have hfz29_2 := fz BK139.out 2; have hfz29_3 := fz BK139.out 3; have p148 : 0 ≤ (a1 : Int) := of_decide_eq_true TA; have q148 : a1 < (l0_3.length : Int) := of_decide_eq_true TA; obtain ⟨ad148, e148, hx148_0, hx148_1, hx148_2⟩ := at_T69 HR0_3.out a1 p148 q148; cases e148; replace hx148_0 := (HB.out.cell  (World.block_lt_of_cell? w _ hx148_0)).trans hx148_0; replace hx148_1 := (HB.out.cell  (World.block_lt_of_cell? w _ hx148_1)).trans hx148_1; replace hx148_2 := (HB.out.cell  (World.block_lt_of_cell? w _ hx148_2)).trans hx148_2; replace p148 := eq_true p148; replace q148 := eq_true q148; obtain ⟨Ao30, co30, eo30⟩ := Kd.S_slice HO147.out; subst eo30; have p149 : 0 ≤ (((rd_T69 l0_3 a1).f1) : Int) := of_decide_eq_true TA; have q149 : ((rd_T69 l0_3 a1).f1) < (t145.length : Int) := of_decide_eq_true TA; obtain ⟨ad149, A149_0, c149_0, e149, hx149_0, hl149_0, hi149_0⟩ := at_T93 (Kd.S_reads' HO147.out).2.2 ((rd_T69 l0_3 a1).f1) p149 q149; cases e149; obtain ⟨ce149, hce149, hMe149, hcc149⟩ := Kd.S_get HO147.out z93 ((rd_T69 l0_3 a1).f1) p149 (by first | exact q149 | exact of_decide_eq_true TA | (have e_ := (Kd.S_reads' HO147.out).1; omega)); obtain ⟨ve149_0, rfl, ge149_0⟩ := k93_openM hMe149; have hv149_0 := hcc149 0 _ rfl; rw [Nat.add_zero, show (k93).sz = 1 from rfl, Nat.mul_one] at hv149_0; replace hv149_0 := Option.some.inj (hv149_0.symm.trans hx149_0); rw [hv149_0] at ge149_0; have HL149_0 := Aside0.mk (show Kd.R (Kd.int .i64) 3 _ _ _ _ ((rd_T93 t145 ((rd_T69 l0_3 a1).f1)).f0) from ge149_0); clear hv149_0 ge149_0; clear hcc149 hce149; have HR149_0 := Aside0.mk hi149_0; have HC149_0 := Aside0.mk hl149_0; clear hi149_0 hl149_0; replace p149 := eq_true p149; replace q149 := eq_true q149) | ((with_reducible refine gate_callee (f := 61) rfl ?_); refine goesL_ (some 52) rfl rfl Tryd.func61 (by kernel_rfl) rfl #[.agg #[.slice A149_0 ((rd_T93 t145 ((rd_T69 l0_3 a1).f1)).f0).length c149_0], .int .i64 a2] rfl TM ?_; (with_reducible refine (saronref03_row_at.calls _ _ ((rd_T93 t145 ((rd_T69 l0_3 a1).f1)).f0) a2 t150 _ ?side1 ?side2 A25.out).mono ?_); (case side1 => repeat (first | exact (by repeat (first | (with_reducible exact HR149_0.out) | (with_reducible refine Kd.C_alloc ?_ _) | (with_reducible refine Kd.C_drewN ?_ _) | (with_reducible refine Kd.C_drew ?_) | exact HR149_0.out)) | (with_reducible refine Kd.C_alloc ?_ _) | (with_reducible refine Kd.C_drewN ?_ _) | (with_reducible refine Kd.C_drew ?_))); (case side2 => exact HC149_0.out); rintro e w31 ⟨rfl, hb⟩; refine ⟨_, rfl, ?_⟩; replace HO147 := Aside0.mk (Kd.S_below (TSo HO147.out) hb); replace HL149_0 := Aside0.mk (Kd.R_below (TRo HL149_0.out) hb); replace BK139 := Aside0.mk (blk_below (g := gb139) (o := .cells #[.slice A0_0 l0_0.length c0_0, .int .i64 a0_1, .int .i64 a0_2, .slice (some ad148) l0_3.length c0_3] 27 (0, 0)) (by (with_reducible repeat (first | refine blk_drewN ?_ _ | refine blk_drew ?_ | refine blk_alloc ?_ _)); exact BK139.out) hb); replace HR149_0 := Aside0.mk (Kd.C_below (by repeat (first | (with_reducible exact HR149_0.out) | (with_reducible refine Kd.C_alloc ?_ _) | (with_reducible refine Kd.C_drewN ?_ _) | (with_reducible refine Kd.C_drew ?_) | exact HR149_0.out)) hb); replace HB := Aside0.mk (below_step (TB1 GE139.out) hb); (try clear hb); (try clear hb2); (try clear hk); (try clear hi)))
         go_ret3
         exact ⟨_, TR, by first | exact Kd.R_nil _ _ _ _ _ | exact Kd.N_nil _ _ _ _ _ | exact Kd.V_nil _ _ _ _ _ | exact Kd.Q_nil _ _ _ _ _ | exact Kd.S_nil _ _ _ _ _, TB1 GE139.out⟩
        ·rw [if_neg c26] at H
         have c26b0 : (t150 == 1000) = false := beq_eq_false_iff_ne.mpr c26
         have c26b1 : (t150 != 1000) = true := bne_iff_ne.mpr c26
         have H' := Aside0.mk H
         clear H
         have hcz32_0 := cz BK139.out 0
         have hcz32_1 := cz BK139.out 1
         have hcz32_2 := cz BK139.out 2
         have hcz32_3 := cz BK139.out 3
         have hfz32_0 := fz BK139.out 0
         have hfz32_1 := fz BK139.out 1
         have hfz32_2 := fz BK139.out 2
         have hfz32_3 := fz BK139.out 3
         go_wp2_with (first | ((with_reducible refine gate_callee (f := 57) rfl ?_); refine goesL_ (some 40) rfl rfl Tryd.func57 (by kernel_rfl) rfl #[.agg #[.slice A0_0 l0_0.length c0_0, .int .i64 a0_1, .int .i64 a0_2, .slice A0_3 l0_3.length c0_3], .bool true] rfl TM ?_; (with_reducible refine (saronref03_rows.calls kj4 _ _ l0_0 a0_1 a0_2 _ _ l0_3 true t145 _ ?side1 ?side2 ?side3 ?side4 A20.out).mono ?_); (case side1 => exact TC HR0_0.out); (case side2 => exact HC0_0.out); (case side3 => exact TC HR0_3.out); (case side4 => exact HC0_3.out); rintro e w33 ⟨v146, rfl, ho0, hb⟩; refine ⟨_, rfl, ?_⟩; have HO147 := Aside0.mk (Kd.S_lower ho0 (below_size (TB1 GE139.out))); replace BK139 := Aside0.mk (blk_below (g := gb139) (o := .cells #[.slice A0_0 l0_0.length c0_0, .int .i64 a0_1, .int .i64 a0_2, .slice A0_3 l0_3.length c0_3] 27 (0, 0)) (by (with_reducible repeat (first | refine blk_drewN ?_ _ | refine blk_drew ?_ | refine blk_alloc ?_ _)); exact BK139.out) hb); replace HB := Aside0.mk (below_step (TB1 GE139.out) hb); (try clear hb); (try clear hb2); (try clear hk); (try clear hi); (try clear ho0); have hcz34_0 := cz BK139.out 0; have hcz34_1 := cz BK139.out 1; have hcz34_2 := cz BK139.out 2; have hcz34_3 := cz BK139.out 3; have hfz34_0 := fz BK139.out 0; have hfz34_1 := fz BK139.out 1; have hfz34_2 := fz BK139.out 2; have hfz34_3 := fz BK139.out 3; have p148 : 0 ≤ (a1 : Int) := of_decide_eq_true TA; have q148 : a1 < (l0_3.length : Int) := of_decide_eq_true TA; obtain ⟨ad148, e148, hx148_0, hx148_1, hx148_2⟩ := at_T69 HR0_3.out a1 p148 q148; cases e148; replace hx148_0 := (HB.out.cell  (World.block_lt_of_cell? w _ hx148_0)).trans hx148_0; replace hx148_1 := (HB.out.cell  (World.block_lt_of_cell? w _ hx148_1)).trans hx148_1; replace hx148_2 := (HB.out.cell  (World.block_lt_of_cell? w _ hx148_2)).trans hx148_2; replace p148 := eq_true p148; replace q148 := eq_true q148; obtain ⟨Ao35, co35, eo35⟩ := Kd.S_slice HO147.out; subst eo35; have p149 : 0 ≤ (((rd_T69 l0_3 a1).f1) : Int) := of_decide_eq_true TA; have q149 : ((rd_T69 l0_3 a1).f1) < (t145.length : Int) := of_decide_eq_true TA; obtain ⟨ad149, A149_0, c149_0, e149, hx149_0, hl149_0, hi149_0⟩ := at_T93 (Kd.S_reads' HO147.out).2.2 ((rd_T69 l0_3 a1).f1) p149 q149; cases e149; obtain ⟨ce149, hce149, hMe149, hcc149⟩ := Kd.S_get HO147.out z93 ((rd_T69 l0_3 a1).f1) p149 (by first | exact q149 | exact of_decide_eq_true TA | (have e_ := (Kd.S_reads' HO147.out).1; omega)); obtain ⟨ve149_0, rfl, ge149_0⟩ := k93_openM hMe149; have hv149_0 := hcc149 0 _ rfl; rw [Nat.add_zero, show (k93).sz = 1 from rfl, Nat.mul_one] at hv149_0; replace hv149_0 := Option.some.inj (hv149_0.symm.trans hx149_0); rw [hv149_0] at ge149_0; have HL149_0 := Aside0.mk (show Kd.R (Kd.int .i64) 3 _ _ _ _ ((rd_T93 t145 ((rd_T69 l0_3 a1).f1)).f0) from ge149_0); clear hv149_0 ge149_0; clear hcc149 hce149; have HR149_0 := Aside0.mk hi149_0; have HC149_0 := Aside0.mk hl149_0; clear hi149_0 hl149_0; replace p149 := eq_true p149; replace q149 := eq_true q149) | ((with_reducible refine gate_callee (f := 61) rfl ?_); refine goesL_ (some 52) rfl rfl Tryd.func61 (by kernel_rfl) rfl #[.agg #[.slice A149_0 ((rd_T93 t145 ((rd_T69 l0_3 a1).f1)).f0).length c149_0], .int .i64 a2] rfl TM ?_; (with_reducible refine (saronref03_row_at.calls _ _ ((rd_T93 t145 ((rd_T69 l0_3 a1).f1)).f0) a2 t150 _ ?side1 ?side2 A25.out).mono ?_); (case side1 => repeat (first | exact (by repeat (first | (with_reducible exact HR149_0.out) | (with_reducible refine Kd.C_alloc ?_ _) | (with_reducible refine Kd.C_drewN ?_ _) | (with_reducible refine Kd.C_drew ?_) | exact HR149_0.out)) | (with_reducible refine Kd.C_alloc ?_ _) | (with_reducible refine Kd.C_drewN ?_ _) | (with_reducible refine Kd.C_drew ?_))); (case side2 => exact HC149_0.out); rintro e w36 ⟨rfl, hb⟩; refine ⟨_, rfl, ?_⟩; replace HO147 := Aside0.mk (Kd.S_below (TSo HO147.out) hb); replace HL149_0 := Aside0.mk (Kd.R_below (TRo HL149_0.out) hb); replace BK139 := Aside0.mk (blk_below (g := gb139) (o := .cells #[.slice A0_0 l0_0.length c0_0, .int .i64 a0_1, .int .i64 a0_2, .slice (some ad148) l0_3.length c0_3] 27 (0, 0)) (by (with_reducible repeat (first | refine blk_drewN ?_ _ | refine blk_drew ?_ | refine blk_alloc ?_ _)); exact BK139.out) hb); replace HR149_0 := Aside0.mk (Kd.C_below (by repeat (first | (with_reducible exact HR149_0.out) | (with_reducible refine Kd.C_alloc ?_ _) | (with_reducible refine Kd.C_drewN ?_ _) | (with_reducible refine Kd.C_drew ?_) | exact HR149_0.out)) hb); replace HB := Aside0.mk (below_step (TB1 GE139.out) hb); (try clear hb); (try clear hb2); (try clear hk); (try clear hi)))
         go_loopg [2, 13, 14] kj4 (fun kq v2 v13 v14 w' => ∃ (x2_2 : Int) (x13_2 : Int) (x14_2 : List Int), v2 = .int .i64 x2_2 ∧ v13 = .int .i64 x13_2 ∧ Aside0 (saronref03_Play.l0 kq x2_2 l3 t145 x13_2 x14_2 l0_0 a0_1 a0_2 l0_3 = some (r1, r2, r3)) ∧ Aside0 (kq ≤ kj4) ∧ Aside0 (Kd.S k93 93 w' w.heap.size (fun k_ => some k_ ≠ (v14 : Value).ownBlock) (.slice (some ad149) t145.length co35) t145) ∧ Aside0 (Kd.R (Kd.int .i64) 3 w' w.heap.size (fun _ => True) v14 x14_2) ∧ Aside0 (w'.heap[gb139]? = some (.cells #[(.slice A0_0 l0_0.length c0_0), .int .i64 a0_1, .int .i64 a0_2, (.slice (some ad148) l0_3.length c0_3)] 27 (0, 0))) ∧ Aside0 (Below w.heap.size w w'))
         case atStart => exact ⟨(a2), ((rd_T69 l0_3 a1).f1), (([] : List Int)), TT, TT, H', ⟨Nat.le_refl _⟩, ⟨by (with_reducible repeat (first | apply Kd.S_alloc | apply Kd.S_drewN | apply Kd.S_drew)); exact Kd.S_mono HO147.out (fun _ hk => (by simp [Value.ownBlock]))⟩, ⟨by first | exact Kd.R_nil _ _ _ _ _ | exact Kd.N_nil _ _ _ _ _ | exact Kd.V_nil _ _ _ _ _ | exact Kd.Q_nil _ _ _ _ _ | exact Kd.S_nil _ _ _ _ _⟩, ⟨by (with_reducible repeat (first | refine blk_drewN ?_ _ | refine blk_drew ?_ | refine blk_alloc ?_ _)); exact BK139.out⟩, ⟨TB1 GE139.out⟩⟩
         case round =>
          clear H'
          try clear c1
          try clear p1
          try clear q1
          try clear hx1
          try clear c2
          try clear p2
          try clear c3
          try clear c4
          try clear c5
          try clear c6
          try clear p6
          try clear c8
          try clear c9
          try clear c9b0
          try clear c10
          try clear c10b0
          try clear c14
          try clear p14
          try clear q14
          try clear hx14
          try clear c19
          try clear c19b0
          try clear c19b1
          try clear c21
          try clear c21b0
          try clear c22
          try clear c22b0
          try clear c23
          try clear c23b0
          try clear c24
          try clear c24b0
          try clear c26
          try clear c26b0
          try clear c26b1
          try clear c33
          try clear hcz27_0 hcz27_1 hcz27_2 hcz27_3
          try clear hcz29_0 hcz29_1 hcz29_2 hcz29_3
          try clear hcz32_0 hcz32_1 hcz32_2 hcz32_3
          try clear hcz34_0 hcz34_1 hcz34_2 hcz34_3
          try clear hfz27_0 hfz27_1 hfz27_2 hfz27_3
          try clear hfz29_0 hfz29_1 hfz29_2 hfz29_3
          try clear hfz32_0 hfz32_1 hfz32_2 hfz32_3
          try clear hfz34_0 hfz34_1 hfz34_2 hfz34_3
          try clear hx141_0
          try clear hx141_1
          try clear hx141_2
          try clear hx148_0
          try clear hx148_1
          try clear hx148_2
          try clear hx149_0
          try clear p1
          try clear p14
          try clear p141
          try clear p148
          try clear p149
          try clear p2
          try clear p6
          try clear q1
          try clear q14
          try clear q141
          try clear q148
          try clear q149
          obtain ⟨x2_2, x13_2, x14_2, rfl, rfl, HA, HK2, HO_12, HO_14, BK139, HB⟩ := hrel
          cases gk with
          | zero => exact absurd HA.out (by simp [saronref03_Play.l0])
          | succ k2 =>
           have H := HA.out
           clear HA
           simp only [saronref03_Play.l0] at H
           replace H := Option.bind_eq_some_iff.mp H
           obtain ⟨t151, A370, H⟩ := H
           replace H : (if t151 = true then (if (x14_2.length : Int) < (l3.length : Int) then (some (([] : List Int), 0, 32)) else (some (x14_2, x2_2, 0))) else ((saronref03_best.f k2 l0_0 a0_1 a0_2 l0_3 t145 x2_2 x13_2 true).bind fun bt152 => (if 0 ≤ bt152.1 then (if bt152.1 < (l0_0.length : Int) then (if (x14_2.length : Int) = (l3.length : Int) then (some (([] : List Int), 0, 32)) else (if 0 ≤ (x14_2.length : Int) then (if (x14_2.length : Int) < (l3.length : Int) then ((saronref00_Bears.f ((rd_T57 l0_0 bt152.1).f0.f0) ((rd_T57 l0_0 bt152.1).f0.f1) (rd l3 (x14_2.length : Int))).bind fun t157 => (if t157 = true then (if x14_2.length < 17592186044416 then (saronref03_Play.l0 k2 (wrap64 (x2_2 + (rd l3 (x14_2.length : Int)))) l3 t145 (wrap64 (x13_2 - ((rd_T57 l0_0 bt152.1).f1))) (x14_2 ++ [bt152.1]) l0_0 a0_1 a0_2 l0_3) else (none)) else (some (([] : List Int), 0, 32)))) else (none)) else (none))) else (none)) else (none)))) = some (r1, r2, r3) := H
           have A37 := Aside0.mk A370
           clear A370
           by_cases c38 : t151 = true
           ·subst c38
            have H1 : (if (x14_2.length : Int) < (l3.length : Int) then (some (([] : List Int), 0, 32)) else (some (x14_2, x2_2, 0))) = some (r1, r2, r3) := by rw [if_pos rfl] at H; exact H
            clear H
            have H := H1
            clear H1
            by_cases c39 : (x14_2.length : Int) < (l3.length : Int)
            ·rw [if_pos c39] at H
             have c39b0 : decide ((x14_2.length : Int) < (l3.length : Int)) = true := decide_eq_true c39
             have c39b1 : decide (x14_2.length < l3.length) = true := decide_eq_true (Int.ofNat_lt.mp c39)
             clear c39
             simp only [Option.some.injEq, Prod.mk.injEq] at H
             obtain ⟨rfl, rfl, rfl⟩ := H
             have hcz40_0 := cz BK139.out 0
             have hcz40_1 := cz BK139.out 1
             have hcz40_2 := cz BK139.out 2
             have hcz40_3 := cz BK139.out 3
             have hfz40_0 := fz BK139.out 0
             have hfz40_1 := fz BK139.out 1
             have hfz40_2 := fz BK139.out 2
             have hfz40_3 := fz BK139.out 3
             go_wp2_with (first | ((with_reducible refine gate_callee (f := 40) rfl ?_); refine goesL_ (some 57) rfl rfl Tryd.func40 (by kernel_rfl) rfl #[.agg #[.int .i64 a0_1, .int .i64 a0_2], .int .i64 x2_2] rfl TM ?_; (with_reducible refine (saronref00_Bears.calls a0_1 a0_2 x2_2 true _ A37.out).mono ?_); rintro e w41 ⟨rfl, hb⟩; refine ⟨_, rfl, ?_⟩; replace HO_12 := Aside0.mk (Kd.S_below (TSo HO_12.out) hb); replace HO_14 := Aside0.mk (Kd.R_below (TRo HO_14.out) hb); replace BK139 := Aside0.mk (blk_below (g := gb139) (o := .cells #[.slice A0_0 l0_0.length c0_0, .int .i64 a0_1, .int .i64 a0_2, .slice (some ad148) l0_3.length c0_3] 27 (0, 0)) (by (with_reducible repeat (first | refine blk_drewN ?_ _ | refine blk_drew ?_ | refine blk_alloc ?_ _)); exact BK139.out) hb); replace HB := Aside0.mk (below_step (TB1 GE139.out) hb); (try clear hb); (try clear hb2); (try clear hk); (try clear hi); obtain ⟨Ao42, co42, eo42⟩ := Kd.R_slice HO_14.out; subst eo42))
             go_ret3
             exact ⟨_, TR, by first | exact Kd.R_nil _ _ _ _ _ | exact Kd.N_nil _ _ _ _ _ | exact Kd.V_nil _ _ _ _ _ | exact Kd.Q_nil _ _ _ _ _ | exact Kd.S_nil _ _ _ _ _, TB1 GE139.out⟩
            ·rw [if_neg c39] at H
             have c39b0 : decide ((x14_2.length : Int) < (l3.length : Int)) = false := decide_eq_false c39
             have c39b1 : decide (x14_2.length < l3.length) = false := decide_eq_false (fun h => c39 (Int.ofNat_lt.mpr h))
             clear c39
             simp only [Option.some.injEq, Prod.mk.injEq] at H
             obtain ⟨rfl, rfl, rfl⟩ := H
             have hcz43_0 := cz BK139.out 0
             have hcz43_1 := cz BK139.out 1
             have hcz43_2 := cz BK139.out 2
             have hcz43_3 := cz BK139.out 3
             have hfz43_0 := fz BK139.out 0
             have hfz43_1 := fz BK139.out 1
             have hfz43_2 := fz BK139.out 2
             have hfz43_3 := fz BK139.out 3
             go_wp2_with (first | ((with_reducible refine gate_callee (f := 40) rfl ?_); refine goesL_ (some 57) rfl rfl Tryd.func40 (by kernel_rfl) rfl #[.agg #[.int .i64 a0_1, .int .i64 a0_2], .int .i64 x2_2] rfl TM ?_; (with_reducible refine (saronref00_Bears.calls a0_1 a0_2 x2_2 true _ A37.out).mono ?_); rintro e w44 ⟨rfl, hb⟩; refine ⟨_, rfl, ?_⟩; replace HO_12 := Aside0.mk (Kd.S_below (TSo HO_12.out) hb); replace HO_14 := Aside0.mk (Kd.R_below (TRo HO_14.out) hb); replace BK139 := Aside0.mk (blk_below (g := gb139) (o := .cells #[.slice A0_0 l0_0.length c0_0, .int .i64 a0_1, .int .i64 a0_2, .slice (some ad148) l0_3.length c0_3] 27 (0, 0)) (by (with_reducible repeat (first | refine blk_drewN ?_ _ | refine blk_drew ?_ | refine blk_alloc ?_ _)); exact BK139.out) hb); replace HB := Aside0.mk (below_step (TB1 GE139.out) hb); (try clear hb); (try clear hb2); (try clear hk); (try clear hi); obtain ⟨Ao45, co45, eo45⟩ := Kd.R_slice HO_14.out; subst eo45))
             go_ret3
             exact ⟨_, TR, by (with_reducible repeat (first | apply Kd.R_alloc | apply Kd.R_drewN | apply Kd.R_drew)); exact HO_14.out, TB1 GE139.out⟩
           ·replace c38 := Bool.eq_false_iff.mpr c38
            subst c38
            have H1 : ((saronref03_best.f k2 l0_0 a0_1 a0_2 l0_3 t145 x2_2 x13_2 true).bind fun bt152 => (if 0 ≤ bt152.1 then (if bt152.1 < (l0_0.length : Int) then (if (x14_2.length : Int) = (l3.length : Int) then (some (([] : List Int), 0, 32)) else (if 0 ≤ (x14_2.length : Int) then (if (x14_2.length : Int) < (l3.length : Int) then ((saronref00_Bears.f ((rd_T57 l0_0 bt152.1).f0.f0) ((rd_T57 l0_0 bt152.1).f0.f1) (rd l3 (x14_2.length : Int))).bind fun t157 => (if t157 = true then (if x14_2.length < 17592186044416 then (saronref03_Play.l0 k2 (wrap64 (x2_2 + (rd l3 (x14_2.length : Int)))) l3 t145 (wrap64 (x13_2 - ((rd_T57 l0_0 bt152.1).f1))) (x14_2 ++ [bt152.1]) l0_0 a0_1 a0_2 l0_3) else (none)) else (some (([] : List Int), 0, 32)))) else (none)) else (none))) else (none)) else (none))) = some (r1, r2, r3) := by rw [if_neg (show ¬ (false = true) by decide)] at H; exact H
            clear H
            have H := H1
            clear H1
            replace H := Option.bind_eq_some_iff.mp H
            obtain ⟨⟨t152, t153⟩, A460, H⟩ := H
            replace H : (if 0 ≤ t152 then (if t152 < (l0_0.length : Int) then (if (x14_2.length : Int) = (l3.length : Int) then (some (([] : List Int), 0, 32)) else (if 0 ≤ (x14_2.length : Int) then (if (x14_2.length : Int) < (l3.length : Int) then ((saronref00_Bears.f ((rd_T57 l0_0 t152).f0.f0) ((rd_T57 l0_0 t152).f0.f1) (rd l3 (x14_2.length : Int))).bind fun t157 => (if t157 = true then (if x14_2.length < 17592186044416 then (saronref03_Play.l0 k2 (wrap64 (x2_2 + (rd l3 (x14_2.length : Int)))) l3 t145 (wrap64 (x13_2 - ((rd_T57 l0_0 t152).f1))) (x14_2 ++ [t152]) l0_0 a0_1 a0_2 l0_3) else (none)) else (some (([] : List Int), 0, 32)))) else (none)) else (none))) else (none)) else (none)) = some (r1, r2, r3) := H
            have A46 := Aside0.mk A460
            clear A460
            by_cases c47 : 0 ≤ t152
            ·rw [if_pos c47] at H
             have c47b0 : decide (0 ≤ t152) = true := decide_eq_true c47
             clear c47
             by_cases c48 : t152 < (l0_0.length : Int)
             ·rw [if_pos c48] at H
              have c48b0 : decide (t152 < (l0_0.length : Int)) = true := decide_eq_true c48
              clear c48
              by_cases c49 : (x14_2.length : Int) = (l3.length : Int)
              ·rw [if_pos c49] at H
               have c49b0 : ((x14_2.length : Int) == (l3.length : Int)) = true := beq_iff_eq.mpr c49
               have c49b1 : ((x14_2.length : Int) != (l3.length : Int)) = false := bne_eq_false_iff_eq.mpr c49
               have c49b2 : (x14_2.length == l3.length) = true := by first | simpa using c49 | (simp at c49 ⊢; omega)
               clear c49
               simp only [Option.some.injEq, Prod.mk.injEq] at H
               obtain ⟨rfl, rfl, rfl⟩ := H
               have hcz50_0 := cz BK139.out 0
               have hcz50_1 := cz BK139.out 1
               have hcz50_2 := cz BK139.out 2
               have hcz50_3 := cz BK139.out 3
               have hfz50_0 := fz BK139.out 0
               have hfz50_1 := fz BK139.out 1
               have hfz50_2 := fz BK139.out 2
               have hfz50_3 := fz BK139.out 3
               try go_wp2_with (first | ((with_reducible refine gate_callee (f := 40) rfl ?_); refine goesL_ (some 57) rfl rfl Tryd.func40 (by kernel_rfl) rfl #[.agg #[.int .i64 a0_1, .int .i64 a0_2], .int .i64 x2_2] rfl TM ?_; (with_reducible refine (saronref00_Bears.calls a0_1 a0_2 x2_2 false _ A37.out).mono ?_); rintro e w51 ⟨rfl, hb⟩; refine ⟨_, rfl, ?_⟩; replace HO_12 := Aside0.mk (Kd.S_below (TSo HO_12.out) hb); replace HO_14 := Aside0.mk (Kd.R_below (TRo HO_14.out) hb); replace BK139 := Aside0.mk (blk_below (g := gb139) (o := .cells #[.slice A0_0 l0_0.length c0_0, .int .i64 a0_1, .int .i64 a0_2, .slice (some ad148) l0_3.length c0_3] 27 (0, 0)) (by (with_reducible repeat (first | refine blk_drewN ?_ _ | refine blk_drew ?_ | refine blk_alloc ?_ _)); exact BK139.out) hb); replace HB := Aside0.mk (below_step (TB1 GE139.out) hb); (try clear hb); (try clear hb2); (try clear hk); (try clear hi); have hcz52_0 := cz BK139.out 0; have hcz52_1 := cz BK139.out 1; have hcz52_2 := cz BK139.out 2; have hcz52_3 := cz BK139.out 3; have hfz52_0 := fz BK139.out 0; have hfz52_1 := fz BK139.out 1; have hfz52_2 := fz BK139.out 2; have hfz52_3 := fz BK139.out 3) | ((with_reducible refine gate_callee (f := 56) rfl ?_); refine goesL_ (some 64) rfl rfl Tryd.func56 (by kernel_rfl) rfl #[.agg #[.slice A0_0 l0_0.length c0_0, .int .i64 a0_1, .int .i64 a0_2, .slice (some ad148) l0_3.length c0_3], .slice (some ad149) t145.length co35, .int .i64 x2_2, .int .i64 x13_2, .bool true] rfl TM ?_; (with_reducible refine (saronref03_best.calls k2 _ _ l0_0 a0_1 a0_2 _ _ l0_3 _ _ t145 x2_2 x13_2 true t152 t153 _ ?side1 ?side2 ?side3 ?side4 ?side5 ?side6 A46.out).mono ?_); (case side1 => exact TC HR0_0.out); (case side2 => exact HC0_0.out); (case side3 => exact TC HR0_3.out); (case side4 => exact HC0_3.out); (case side5 => exact TE (Kd.S_reads' HO_12.out).2.2); (case side6 => exact (Kd.S_reads' HO_12.out).2.1); rintro e w53 ⟨rfl, hb⟩; refine ⟨_, rfl, ?_⟩; replace HO_12 := Aside0.mk (Kd.S_below (TSo HO_12.out) hb); replace HO_14 := Aside0.mk (Kd.R_below (TRo HO_14.out) hb); replace BK139 := Aside0.mk (blk_below (g := gb139) (o := .cells #[.slice A0_0 l0_0.length c0_0, .int .i64 a0_1, .int .i64 a0_2, .slice (some ad148) l0_3.length c0_3] 27 (0, 0)) (by (with_reducible repeat (first | refine blk_drewN ?_ _ | refine blk_drew ?_ | refine blk_alloc ?_ _)); exact BK139.out) hb); replace HB := Aside0.mk (below_step (TB1 GE139.out) hb); (try clear hb); (try clear hb2); (try clear hk); (try clear hi); have hcz54_0 := cz BK139.out 0; have hcz54_1 := cz BK139.out 1; have hcz54_2 := cz BK139.out 2; have hcz54_3 := cz BK139.out 3; have hfz54_0 := fz BK139.out 0; have hfz54_1 := fz BK139.out 1; have hfz54_2 := fz BK139.out 2; have hfz54_3 := fz BK139.out 3; have p154 : 0 ≤ (t152 : Int) := of_decide_eq_true TA; have q154 : t152 < (l0_0.length : Int) := of_decide_eq_true TA; obtain ⟨ad154, e154, hx154_0, hx154_1, hx154_2⟩ := at_T57 HR0_0.out t152 p154 q154; cases e154; replace hx154_0 := (HB.out.cell  (World.block_lt_of_cell? w _ hx154_0)).trans hx154_0; replace hx154_1 := (HB.out.cell  (World.block_lt_of_cell? w _ hx154_1)).trans hx154_1; replace hx154_2 := (HB.out.cell  (World.block_lt_of_cell? w _ hx154_2)).trans hx154_2; replace p154 := eq_true p154; replace q154 := eq_true q154) | ((with_reducible refine gate_dst (N := 17) rfl ?_); (try (refine gate_guard (by rfl) ?_; dsimp only)); refine box_event ?hg (N := 17) ?hd (cs := #[.int .i64 0, .int .i64 0, .int .i64 0]) (t := 57) ?hr ?_; (case hd => rfl); (case hg => rfl); (case hr => exact TS); intro gb155 hg w55 hbox hb; have BK155 := Aside0.mk (hbox); have GW155 := Aside0.mk ((TG1 GE139.out : w.heap.size ≤ gb155)); have GE155 := Aside0.mk ((TG1 GE139.out : w.heap.size ≤ gb155)); have NB139_155 := Aside0.mk ((by rw [hg]; exact Nat.ne_of_lt (blk_lt (g := gb139) (o := .cells #[.slice (some ad154) l0_0.length c0_0, .int .i64 a0_1, .int .i64 a0_2, .slice (some ad148) l0_3.length c0_3] 27 (0, 0)) (by (with_reducible repeat (first | refine blk_drewN ?_ _ | refine blk_drew ?_ | refine blk_alloc ?_ _)); exact BK139.out)) : gb139 ≠ gb155)); have NB155_139 := Aside0.mk ((by rw [hg]; exact Nat.ne_of_gt (blk_lt (g := gb139) (o := .cells #[.slice (some ad154) l0_0.length c0_0, .int .i64 a0_1, .int .i64 a0_2, .slice (some ad148) l0_3.length c0_3] 27 (0, 0)) (by (with_reducible repeat (first | refine blk_drewN ?_ _ | refine blk_drew ?_ | refine blk_alloc ?_ _)); exact BK139.out)) : gb155 ≠ gb139)); replace HO_12 := Aside0.mk (Kd.S_below (TSo HO_12.out) hb); replace HO_14 := Aside0.mk (Kd.R_below (TRo HO_14.out) hb); replace BK139 := Aside0.mk (blk_below (g := gb139) (o := .cells #[.slice (some ad154) l0_0.length c0_0, .int .i64 a0_1, .int .i64 a0_2, .slice (some ad148) l0_3.length c0_3] 27 (0, 0)) (by (with_reducible repeat (first | refine blk_drewN ?_ _ | refine blk_drew ?_ | refine blk_alloc ?_ _)); exact BK139.out) hb); replace HB := Aside0.mk (below_step (TB1 GE139.out) hb); clear hb hbox hg; have hnb56 := NB155_139.out; have hnc56 := NB139_155.out; have hcz57_0 := cz BK155.out 0; have hcz57_1 := cz BK155.out 1; have hcz57_2 := cz BK155.out 2; have hfz57_0 := fz BK155.out 0; have hfz57_1 := fz BK155.out 1; have hfz57_2 := fz BK155.out 2))
               have n0_ : Aside0 (Kd.S k93 93 (((w55.setCell ⟨gb155, 0, none⟩ (.int .i64 ((rd_T57 l0_0 t152).f0.f0))).setCell ⟨gb155, 1, none⟩ (.int .i64 ((rd_T57 l0_0 t152).f0.f1))).setCell ⟨gb155, 2, none⟩ (.int .i64 ((rd_T57 l0_0 t152).f1))) w.heap.size (fun k_ => some k_ ≠ (u14 : Value).ownBlock) (.slice (some ad149) t145.length co35) t145) := ⟨by (with_reducible repeat (first | apply Kd.S_alloc | apply Kd.S_drewN | apply Kd.S_drew)); exact Kd.S_mono (Kd.S_far (p := ⟨gb155, 2, none⟩) (Kd.S_far (p := ⟨gb155, 1, none⟩) (Kd.S_far (p := ⟨gb155, 0, none⟩) (Kd.S_types HO_12.out BK155.out (by decide)) (fun _ hk => hk.2) (.int .i64 ((rd_T57 l0_0 t152).f0.f0))) (fun _ hk => hk.2) (.int .i64 ((rd_T57 l0_0 t152).f0.f1))) (fun _ hk => hk.2) (.int .i64 ((rd_T57 l0_0 t152).f1))) (fun _ hk => hk.1)⟩
               have n1_ : Aside0 (Kd.R (Kd.int .i64) 3 (((w55.setCell ⟨gb155, 0, none⟩ (.int .i64 ((rd_T57 l0_0 t152).f0.f0))).setCell ⟨gb155, 1, none⟩ (.int .i64 ((rd_T57 l0_0 t152).f0.f1))).setCell ⟨gb155, 2, none⟩ (.int .i64 ((rd_T57 l0_0 t152).f1))) w.heap.size (fun _ => True) u14 x14_2) := ⟨by (with_reducible repeat (first | apply Kd.R_alloc | apply Kd.R_drewN | apply Kd.R_drew)); exact Kd.R_mono (Kd.R_far (p := ⟨gb155, 2, none⟩) (Kd.R_far (p := ⟨gb155, 1, none⟩) (Kd.R_far (p := ⟨gb155, 0, none⟩) (Kd.R_types HO_14.out BK155.out (by decide)) (fun _ hk => hk.2) (.int .i64 ((rd_T57 l0_0 t152).f0.f0))) (fun _ hk => hk.2) (.int .i64 ((rd_T57 l0_0 t152).f0.f1))) (fun _ hk => hk.2) (.int .i64 ((rd_T57 l0_0 t152).f1))) (fun _ hk => trivial)⟩
               have n2_ : Aside0 ((((w55.setCell ⟨gb155, 0, none⟩ (.int .i64 ((rd_T57 l0_0 t152).f0.f0))).setCell ⟨gb155, 1, none⟩ (.int .i64 ((rd_T57 l0_0 t152).f0.f1))).setCell ⟨gb155, 2, none⟩ (.int .i64 ((rd_T57 l0_0 t152).f1))).heap[gb139]? = some (.cells #[.slice (some ad154) l0_0.length c0_0, .int .i64 a0_1, .int .i64 a0_2, .slice (some ad148) l0_3.length c0_3] 27 (0, 0))) := ⟨by (with_reducible repeat (first | refine blk_drewN ?_ _ | refine blk_drew ?_ | refine blk_alloc ?_ _)); refine blk_far ?_ NB139_155.out _; (with_reducible repeat (first | refine blk_drewN ?_ _ | refine blk_drew ?_ | refine blk_alloc ?_ _)); refine blk_far ?_ NB139_155.out _; (with_reducible repeat (first | refine blk_drewN ?_ _ | refine blk_drew ?_ | refine blk_alloc ?_ _)); refine blk_far ?_ NB139_155.out _; (with_reducible repeat (first | refine blk_drewN ?_ _ | refine blk_drew ?_ | refine blk_alloc ?_ _)); exact BK139.out⟩
               have n3_ : Aside0 ((((w55.setCell ⟨gb155, 0, none⟩ (.int .i64 ((rd_T57 l0_0 t152).f0.f0))).setCell ⟨gb155, 1, none⟩ (.int .i64 ((rd_T57 l0_0 t152).f0.f1))).setCell ⟨gb155, 2, none⟩ (.int .i64 ((rd_T57 l0_0 t152).f1))).heap[gb155]? = some (.cells #[.int .i64 ((rd_T57 l0_0 t152).f0.f0), .int .i64 ((rd_T57 l0_0 t152).f0.f1), .int .i64 ((rd_T57 l0_0 t152).f1)] 57 (0, 0))) := ⟨by (with_reducible repeat (first | refine blk_drewN ?_ _ | refine blk_drew ?_ | refine blk_alloc ?_ _)); refine blk_put (cs := #[.int .i64 ((rd_T57 l0_0 t152).f0.f0), .int .i64 ((rd_T57 l0_0 t152).f0.f1), .int .i64 0]) ?_ 2 _ rfl; (with_reducible repeat (first | refine blk_drewN ?_ _ | refine blk_drew ?_ | refine blk_alloc ?_ _)); refine blk_put (cs := #[.int .i64 ((rd_T57 l0_0 t152).f0.f0), .int .i64 0, .int .i64 0]) ?_ 1 _ rfl; (with_reducible repeat (first | refine blk_drewN ?_ _ | refine blk_drew ?_ | refine blk_alloc ?_ _)); refine blk_put (cs := #[.int .i64 0, .int .i64 0, .int .i64 0]) ?_ 0 _ rfl; (with_reducible repeat (first | refine blk_drewN ?_ _ | refine blk_drew ?_ | refine blk_alloc ?_ _)); exact BK155.out⟩
               have n4_ : Aside0 (Below w.heap.size w (((w55.setCell ⟨gb155, 0, none⟩ (.int .i64 ((rd_T57 l0_0 t152).f0.f0))).setCell ⟨gb155, 1, none⟩ (.int .i64 ((rd_T57 l0_0 t152).f0.f1))).setCell ⟨gb155, 2, none⟩ (.int .i64 ((rd_T57 l0_0 t152).f1)))) := ⟨TB2 GE139.out GE155.out⟩
               (try clear HO_12)
               (try clear HO_14)
               (try clear BK139)
               (try clear BK155)
               (try clear HB)
               generalize (((w55.setCell ⟨gb155, 0, none⟩ (.int .i64 ((rd_T57 l0_0 t152).f0.f0))).setCell ⟨gb155, 1, none⟩ (.int .i64 ((rd_T57 l0_0 t152).f0.f1))).setCell ⟨gb155, 2, none⟩ (.int .i64 ((rd_T57 l0_0 t152).f1))) = w58 at n0_ n1_ n2_ n3_ n4_ ⊢
               have HO_12 := n0_
               have HO_14 := n1_
               have BK139 := n2_
               have BK155 := n3_
               have HB := n4_
               clear n0_ n1_ n2_ n3_ n4_
               have n0_ := Aside0.mk (Kd.S_drew HO_12.out)
               have n1_ := Aside0.mk (Kd.R_drew HO_14.out)
               have n2_ := Aside0.mk (blk_drew BK139.out)
               have n3_ := Aside0.mk (blk_drew BK155.out)
               have n4_ := Aside0.mk (below_drew1 HB.out)
               clear HO_12
               clear HO_14
               clear BK139
               clear BK155
               clear HB
               have HO_12 := n0_
               have HO_14 := n1_
               have BK139 := n2_
               have BK155 := n3_
               have HB := n4_
               clear n0_ n1_ n2_ n3_ n4_
               obtain ⟨Ao60, co60, eo60⟩ := Kd.R_slice HO_14.out
               (first | subst eo60 | (injection eo60 with f1_ f2_ f3_; have f4_ := f1_.symm; have f5_ := f3_.symm; clear f1_ f2_ f3_; subst f4_; subst f5_))
               refine start_ (n := 16) (S := fun w' => True) (ds := []) (.replicate 16 false) (by kernel_rfl) rfl rfl trivial (fun hHeld => ?_); refine with_tabW saronref03_Play.tab12 saronref03_Play.bits12 (fun HT_ HW_ => ?_)
               generalize w58.drew = w59 at HO_12 HO_14 BK139 BK155 HB hHeld ⊢
               refine pT 0 72 (bt 16 1) (k := ?_)
               refine pT 1 73 (bt 16 3) (k := ?_)
               refine pT 2 74 (bt 16 7) (k := ?_)
               refine pT 3 75 (bt 16 15) (k := ?_)
               refine pT 4 76 (bt 16 31) (k := ?_)
               refine pT 5 77 (bt 16 63) (k := ?_)
               refine pU 6 78 (bt 16 127) (k := ?_)
               refine pU 7 79 (bt 16 255) (k := ?_)
               refine pU 8 80 (bt 16 511) (k := ?_)
               refine pU 9 81 (bt 16 1023) (k := ?_)
               refine pU 10 82 (bt 16 2047) (k := ?_)
               refine pU 11 83 (bt 16 4095) (k := ?_)
               refine pU 12 84 (bt 16 8191) (k := ?_)
               refine pU 13 85 (bt 16 16383) (k := ?_)
               refine pU 14 86 (bt 16 32767) (k := ?_)
               refine pT 15 87 (bt 16 65535) (k := ?_)
               refine done_ (done_of HT_.out (by kernel_rfl)) ?_
               try go_wp2
               go_ret3
               exact ⟨_, TR, by first | exact Kd.R_nil _ _ _ _ _ | exact Kd.N_nil _ _ _ _ _ | exact Kd.V_nil _ _ _ _ _ | exact Kd.Q_nil _ _ _ _ _ | exact Kd.S_nil _ _ _ _ _, TB2 GE139.out GE155.out⟩
              ·rw [if_neg c49] at H
               have c49b0 : ((x14_2.length : Int) == (l3.length : Int)) = false := beq_eq_false_iff_ne.mpr c49
               have c49b1 : ((x14_2.length : Int) != (l3.length : Int)) = true := bne_iff_ne.mpr c49
               have c49b2 : (x14_2.length == l3.length) = false := by first | simpa using c49 | (simp at c49 ⊢; omega)
               by_cases c61 : 0 ≤ (x14_2.length : Int)
               ·rw [if_pos c61] at H
                have c61b0 : decide (0 ≤ (x14_2.length : Int)) = true := decide_eq_true c61
                have c61b1 : decide (0 ≤ x14_2.length) = true := decide_eq_true (by omega)
                clear c61
                by_cases c62 : (x14_2.length : Int) < (l3.length : Int)
                ·rw [if_pos c62] at H
                 have c62b0 : decide ((x14_2.length : Int) < (l3.length : Int)) = true := decide_eq_true c62
                 have c62b1 : decide (x14_2.length < l3.length) = true := decide_eq_true (Int.ofNat_lt.mp c62)
                 clear c62
                 replace H := Option.bind_eq_some_iff.mp H
                 obtain ⟨t157, A630, H⟩ := H
                 replace H : (if t157 = true then (if x14_2.length < 17592186044416 then (saronref03_Play.l0 k2 (wrap64 (x2_2 + (rd l3 (x14_2.length : Int)))) l3 t145 (wrap64 (x13_2 - ((rd_T57 l0_0 t152).f1))) (x14_2 ++ [t152]) l0_0 a0_1 a0_2 l0_3) else (none)) else (some (([] : List Int), 0, 32))) = some (r1, r2, r3) := H
                 have A63 := Aside0.mk A630
                 clear A630
                 by_cases c64 : t157 = true
                 ·subst c64
                  have H1 : (if x14_2.length < 17592186044416 then (saronref03_Play.l0 k2 (wrap64 (x2_2 + (rd l3 (x14_2.length : Int)))) l3 t145 (wrap64 (x13_2 - ((rd_T57 l0_0 t152).f1))) (x14_2 ++ [t152]) l0_0 a0_1 a0_2 l0_3) else (none)) = some (r1, r2, r3) := by rw [if_pos rfl] at H; exact H
                  clear H
                  have H := H1
                  clear H1
                  by_cases c65 : x14_2.length < 17592186044416
                  ·rw [if_pos c65] at H
                   have LMc65 := Aside0.mk c65
                   clear c65
                   obtain ⟨y159, hy159⟩ : ∃ y_ : List Int, y_ = (x14_2 ++ [t152]) := ⟨_, rfl⟩
                   replace H : (saronref03_Play.l0 k2 (wrap64 (x2_2 + (rd l3 (x14_2.length : Int)))) l3 t145 (wrap64 (x13_2 - ((rd_T57 l0_0 t152).f1))) y159 l0_0 a0_1 a0_2 l0_3) = some (r1, r2, r3) := by first | (rw [hy159]; with_reducible exact H) | (have H2_ := (Option.bind_some _ _).symm.trans H; rw [hy159]; with_reducible exact H2_) | (have H2_ := (Option.bind_some _ _).symm.trans H; with_reducible exact H2_) | with_reducible exact H | (rw [hy159]; exact H) | exact H
                   have Ny159 := Aside0.mk hy159
                   clear hy159
                   have H' := Aside0.mk H
                   clear H
                   have hcz66_0 := cz BK139.out 0
                   have hcz66_1 := cz BK139.out 1
                   have hcz66_2 := cz BK139.out 2
                   have hcz66_3 := cz BK139.out 3
                   have hfz66_0 := fz BK139.out 0
                   have hfz66_1 := fz BK139.out 1
                   have hfz66_2 := fz BK139.out 2
                   have hfz66_3 := fz BK139.out 3
                   try go_wp2_with (first | ((with_reducible refine gate_callee (f := 40) rfl ?_); refine goesL_ (some 57) rfl rfl Tryd.func40 (by kernel_rfl) rfl #[.agg #[.int .i64 a0_1, .int .i64 a0_2], .int .i64 x2_2] rfl TM ?_; (with_reducible refine (saronref00_Bears.calls a0_1 a0_2 x2_2 false _ A37.out).mono ?_); rintro e w67 ⟨rfl, hb⟩; refine ⟨_, rfl, ?_⟩; replace HO_12 := Aside0.mk (Kd.S_below (TSo HO_12.out) hb); replace HO_14 := Aside0.mk (Kd.R_below (TRo HO_14.out) hb); replace BK139 := Aside0.mk (blk_below (g := gb139) (o := .cells #[.slice A0_0 l0_0.length c0_0, .int .i64 a0_1, .int .i64 a0_2, .slice (some ad148) l0_3.length c0_3] 27 (0, 0)) (by (with_reducible repeat (first | refine blk_drewN ?_ _ | refine blk_drew ?_ | refine blk_alloc ?_ _)); exact BK139.out) hb); replace HB := Aside0.mk (below_step (TB1 GE139.out) hb); (try clear hb); (try clear hb2); (try clear hk); (try clear hi); have hcz68_0 := cz BK139.out 0; have hcz68_1 := cz BK139.out 1; have hcz68_2 := cz BK139.out 2; have hcz68_3 := cz BK139.out 3; have hfz68_0 := fz BK139.out 0; have hfz68_1 := fz BK139.out 1; have hfz68_2 := fz BK139.out 2; have hfz68_3 := fz BK139.out 3) | ((with_reducible refine gate_callee (f := 56) rfl ?_); refine goesL_ (some 64) rfl rfl Tryd.func56 (by kernel_rfl) rfl #[.agg #[.slice A0_0 l0_0.length c0_0, .int .i64 a0_1, .int .i64 a0_2, .slice (some ad148) l0_3.length c0_3], .slice (some ad149) t145.length co35, .int .i64 x2_2, .int .i64 x13_2, .bool true] rfl TM ?_; (with_reducible refine (saronref03_best.calls k2 _ _ l0_0 a0_1 a0_2 _ _ l0_3 _ _ t145 x2_2 x13_2 true t152 t153 _ ?side1 ?side2 ?side3 ?side4 ?side5 ?side6 A46.out).mono ?_); (case side1 => exact TC HR0_0.out); (case side2 => exact HC0_0.out); (case side3 => exact TC HR0_3.out); (case side4 => exact HC0_3.out); (case side5 => exact TE (Kd.S_reads' HO_12.out).2.2); (case side6 => exact (Kd.S_reads' HO_12.out).2.1); rintro e w69 ⟨rfl, hb⟩; refine ⟨_, rfl, ?_⟩; replace HO_12 := Aside0.mk (Kd.S_below (TSo HO_12.out) hb); replace HO_14 := Aside0.mk (Kd.R_below (TRo HO_14.out) hb); replace BK139 := Aside0.mk (blk_below (g := gb139) (o := .cells #[.slice A0_0 l0_0.length c0_0, .int .i64 a0_1, .int .i64 a0_2, .slice (some ad148) l0_3.length c0_3] 27 (0, 0)) (by (with_reducible repeat (first | refine blk_drewN ?_ _ | refine blk_drew ?_ | refine blk_alloc ?_ _)); exact BK139.out) hb); replace HB := Aside0.mk (below_step (TB1 GE139.out) hb); (try clear hb); (try clear hb2); (try clear hk); (try clear hi); have hcz70_0 := cz BK139.out 0; have hcz70_1 := cz BK139.out 1; have hcz70_2 := cz BK139.out 2; have hcz70_3 := cz BK139.out 3; have hfz70_0 := fz BK139.out 0; have hfz70_1 := fz BK139.out 1; have hfz70_2 := fz BK139.out 2; have hfz70_3 := fz BK139.out 3; have p154 : 0 ≤ (t152 : Int) := of_decide_eq_true TA; have q154 : t152 < (l0_0.length : Int) := of_decide_eq_true TA; obtain ⟨ad154, e154, hx154_0, hx154_1, hx154_2⟩ := at_T57 HR0_0.out t152 p154 q154; cases e154; replace hx154_0 := (HB.out.cell  (World.block_lt_of_cell? w _ hx154_0)).trans hx154_0; replace hx154_1 := (HB.out.cell  (World.block_lt_of_cell? w _ hx154_1)).trans hx154_1; replace hx154_2 := (HB.out.cell  (World.block_lt_of_cell? w _ hx154_2)).trans hx154_2; replace p154 := eq_true p154; replace q154 := eq_true q154) | ((with_reducible refine gate_dst (N := 17) rfl ?_); (try (refine gate_guard (by rfl) ?_; dsimp only)); refine box_event ?hg (N := 17) ?hd (cs := #[.int .i64 0, .int .i64 0, .int .i64 0]) (t := 57) ?hr ?_; (case hd => rfl); (case hg => rfl); (case hr => exact TS); intro gb155 hg w71 hbox hb; have BK155 := Aside0.mk (hbox); have GW155 := Aside0.mk ((TG1 GE139.out : w.heap.size ≤ gb155)); have GE155 := Aside0.mk ((TG1 GE139.out : w.heap.size ≤ gb155)); have NB139_155 := Aside0.mk ((by rw [hg]; exact Nat.ne_of_lt (blk_lt (g := gb139) (o := .cells #[.slice (some ad154) l0_0.length c0_0, .int .i64 a0_1, .int .i64 a0_2, .slice (some ad148) l0_3.length c0_3] 27 (0, 0)) (by (with_reducible repeat (first | refine blk_drewN ?_ _ | refine blk_drew ?_ | refine blk_alloc ?_ _)); exact BK139.out)) : gb139 ≠ gb155)); have NB155_139 := Aside0.mk ((by rw [hg]; exact Nat.ne_of_gt (blk_lt (g := gb139) (o := .cells #[.slice (some ad154) l0_0.length c0_0, .int .i64 a0_1, .int .i64 a0_2, .slice (some ad148) l0_3.length c0_3] 27 (0, 0)) (by (with_reducible repeat (first | refine blk_drewN ?_ _ | refine blk_drew ?_ | refine blk_alloc ?_ _)); exact BK139.out)) : gb155 ≠ gb139)); replace HO_12 := Aside0.mk (Kd.S_below (TSo HO_12.out) hb); replace HO_14 := Aside0.mk (Kd.R_below (TRo HO_14.out) hb); replace BK139 := Aside0.mk (blk_below (g := gb139) (o := .cells #[.slice (some ad154) l0_0.length c0_0, .int .i64 a0_1, .int .i64 a0_2, .slice (some ad148) l0_3.length c0_3] 27 (0, 0)) (by (with_reducible repeat (first | refine blk_drewN ?_ _ | refine blk_drew ?_ | refine blk_alloc ?_ _)); exact BK139.out) hb); replace HB := Aside0.mk (below_step (TB1 GE139.out) hb); clear hb hbox hg; have hnb72 := NB155_139.out; have hnc72 := NB139_155.out; have hcz73_0 := cz BK155.out 0; have hcz73_1 := cz BK155.out 1; have hcz73_2 := cz BK155.out 2; have hfz73_0 := fz BK155.out 0; have hfz73_1 := fz BK155.out 1; have hfz73_2 := fz BK155.out 2))
                   have n0_ : Aside0 (Kd.S k93 93 (((w71.setCell ⟨gb155, 0, none⟩ (.int .i64 ((rd_T57 l0_0 t152).f0.f0))).setCell ⟨gb155, 1, none⟩ (.int .i64 ((rd_T57 l0_0 t152).f0.f1))).setCell ⟨gb155, 2, none⟩ (.int .i64 ((rd_T57 l0_0 t152).f1))) w.heap.size (fun k_ => some k_ ≠ (u14 : Value).ownBlock) (.slice (some ad149) t145.length co35) t145) := ⟨by (with_reducible repeat (first | apply Kd.S_alloc | apply Kd.S_drewN | apply Kd.S_drew)); exact Kd.S_mono (Kd.S_far (p := ⟨gb155, 2, none⟩) (Kd.S_far (p := ⟨gb155, 1, none⟩) (Kd.S_far (p := ⟨gb155, 0, none⟩) (Kd.S_types HO_12.out BK155.out (by decide)) (fun _ hk => hk.2) (.int .i64 ((rd_T57 l0_0 t152).f0.f0))) (fun _ hk => hk.2) (.int .i64 ((rd_T57 l0_0 t152).f0.f1))) (fun _ hk => hk.2) (.int .i64 ((rd_T57 l0_0 t152).f1))) (fun _ hk => hk.1)⟩
                   have n1_ : Aside0 (Kd.R (Kd.int .i64) 3 (((w71.setCell ⟨gb155, 0, none⟩ (.int .i64 ((rd_T57 l0_0 t152).f0.f0))).setCell ⟨gb155, 1, none⟩ (.int .i64 ((rd_T57 l0_0 t152).f0.f1))).setCell ⟨gb155, 2, none⟩ (.int .i64 ((rd_T57 l0_0 t152).f1))) w.heap.size (fun _ => True) u14 x14_2) := ⟨by (with_reducible repeat (first | apply Kd.R_alloc | apply Kd.R_drewN | apply Kd.R_drew)); exact Kd.R_mono (Kd.R_far (p := ⟨gb155, 2, none⟩) (Kd.R_far (p := ⟨gb155, 1, none⟩) (Kd.R_far (p := ⟨gb155, 0, none⟩) (Kd.R_types HO_14.out BK155.out (by decide)) (fun _ hk => hk.2) (.int .i64 ((rd_T57 l0_0 t152).f0.f0))) (fun _ hk => hk.2) (.int .i64 ((rd_T57 l0_0 t152).f0.f1))) (fun _ hk => hk.2) (.int .i64 ((rd_T57 l0_0 t152).f1))) (fun _ hk => trivial)⟩
                   have n2_ : Aside0 ((((w71.setCell ⟨gb155, 0, none⟩ (.int .i64 ((rd_T57 l0_0 t152).f0.f0))).setCell ⟨gb155, 1, none⟩ (.int .i64 ((rd_T57 l0_0 t152).f0.f1))).setCell ⟨gb155, 2, none⟩ (.int .i64 ((rd_T57 l0_0 t152).f1))).heap[gb139]? = some (.cells #[.slice (some ad154) l0_0.length c0_0, .int .i64 a0_1, .int .i64 a0_2, .slice (some ad148) l0_3.length c0_3] 27 (0, 0))) := ⟨by (with_reducible repeat (first | refine blk_drewN ?_ _ | refine blk_drew ?_ | refine blk_alloc ?_ _)); refine blk_far ?_ NB139_155.out _; (with_reducible repeat (first | refine blk_drewN ?_ _ | refine blk_drew ?_ | refine blk_alloc ?_ _)); refine blk_far ?_ NB139_155.out _; (with_reducible repeat (first | refine blk_drewN ?_ _ | refine blk_drew ?_ | refine blk_alloc ?_ _)); refine blk_far ?_ NB139_155.out _; (with_reducible repeat (first | refine blk_drewN ?_ _ | refine blk_drew ?_ | refine blk_alloc ?_ _)); exact BK139.out⟩
                   have n3_ : Aside0 ((((w71.setCell ⟨gb155, 0, none⟩ (.int .i64 ((rd_T57 l0_0 t152).f0.f0))).setCell ⟨gb155, 1, none⟩ (.int .i64 ((rd_T57 l0_0 t152).f0.f1))).setCell ⟨gb155, 2, none⟩ (.int .i64 ((rd_T57 l0_0 t152).f1))).heap[gb155]? = some (.cells #[.int .i64 ((rd_T57 l0_0 t152).f0.f0), .int .i64 ((rd_T57 l0_0 t152).f0.f1), .int .i64 ((rd_T57 l0_0 t152).f1)] 57 (0, 0))) := ⟨by (with_reducible repeat (first | refine blk_drewN ?_ _ | refine blk_drew ?_ | refine blk_alloc ?_ _)); refine blk_put (cs := #[.int .i64 ((rd_T57 l0_0 t152).f0.f0), .int .i64 ((rd_T57 l0_0 t152).f0.f1), .int .i64 0]) ?_ 2 _ rfl; (with_reducible repeat (first | refine blk_drewN ?_ _ | refine blk_drew ?_ | refine blk_alloc ?_ _)); refine blk_put (cs := #[.int .i64 ((rd_T57 l0_0 t152).f0.f0), .int .i64 0, .int .i64 0]) ?_ 1 _ rfl; (with_reducible repeat (first | refine blk_drewN ?_ _ | refine blk_drew ?_ | refine blk_alloc ?_ _)); refine blk_put (cs := #[.int .i64 0, .int .i64 0, .int .i64 0]) ?_ 0 _ rfl; (with_reducible repeat (first | refine blk_drewN ?_ _ | refine blk_drew ?_ | refine blk_alloc ?_ _)); exact BK155.out⟩
                   have n4_ : Aside0 (Below w.heap.size w (((w71.setCell ⟨gb155, 0, none⟩ (.int .i64 ((rd_T57 l0_0 t152).f0.f0))).setCell ⟨gb155, 1, none⟩ (.int .i64 ((rd_T57 l0_0 t152).f0.f1))).setCell ⟨gb155, 2, none⟩ (.int .i64 ((rd_T57 l0_0 t152).f1)))) := ⟨TB2 GE139.out GE155.out⟩
                   (try clear HO_12)
                   (try clear HO_14)
                   (try clear BK139)
                   (try clear BK155)
                   (try clear HB)
                   generalize (((w71.setCell ⟨gb155, 0, none⟩ (.int .i64 ((rd_T57 l0_0 t152).f0.f0))).setCell ⟨gb155, 1, none⟩ (.int .i64 ((rd_T57 l0_0 t152).f0.f1))).setCell ⟨gb155, 2, none⟩ (.int .i64 ((rd_T57 l0_0 t152).f1))) = w74 at n0_ n1_ n2_ n3_ n4_ ⊢
                   have HO_12 := n0_
                   have HO_14 := n1_
                   have BK139 := n2_
                   have BK155 := n3_
                   have HB := n4_
                   clear n0_ n1_ n2_ n3_ n4_
                   have n0_ := Aside0.mk (Kd.S_drew HO_12.out)
                   have n1_ := Aside0.mk (Kd.R_drew HO_14.out)
                   have n2_ := Aside0.mk (blk_drew BK139.out)
                   have n3_ := Aside0.mk (blk_drew BK155.out)
                   have n4_ := Aside0.mk (below_drew1 HB.out)
                   clear HO_12
                   clear HO_14
                   clear BK139
                   clear BK155
                   clear HB
                   have HO_12 := n0_
                   have HO_14 := n1_
                   have BK139 := n2_
                   have BK155 := n3_
                   have HB := n4_
                   clear n0_ n1_ n2_ n3_ n4_
                   obtain ⟨Ao76, co76, eo76⟩ := Kd.R_slice HO_14.out
                   (first | subst eo76 | (injection eo76 with f1_ f2_ f3_; have f4_ := f1_.symm; have f5_ := f3_.symm; clear f1_ f2_ f3_; subst f4_; subst f5_))
                   have p156 : 0 ≤ ((x14_2.length : Int) : Int) := of_decide_eq_true TA
                   have q156 : (x14_2.length : Int) < (l3.length : Int) := of_decide_eq_true TA
                   obtain ⟨ad156, e156, hx156_0⟩ := Kd.at_int HR3.out (x14_2.length : Int) p156 q156
                   have hw156_0 := hx156_0
                   cases e156
                   replace hx156_0 := (HB.out.cell  (World.block_lt_of_cell? w _ hx156_0)).trans hx156_0
                   (try simp only [Go.IntWalk.toNatUp] at hx156_0)
                   replace p156 := eq_true p156
                   replace q156 := eq_true q156
                   refine start_ (n := 16) (S := fun w' => w'.cell? ⟨gb155, 0, none⟩ = some (.int .i64 ((rd_T57 l0_0 t152).f0.f0)) ∧ w'.cell? ⟨gb155, 1, none⟩ = some (.int .i64 ((rd_T57 l0_0 t152).f0.f1)) ∧ w'.cell? ⟨gb155, 2, none⟩ = some (.int .i64 ((rd_T57 l0_0 t152).f1)) ∧ w'.cell? (ad156.add x14_2.length) = some (.int .i64 (rd l3 (x14_2.length : Int)))) (ds := []) (.replicate 16 false) (by kernel_rfl) rfl rfl ⟨cz BK155.out 0, cz BK155.out 1, cz BK155.out 2, ((HB.out.cell  (World.block_lt_of_cell? w _ hw156_0)).trans hw156_0)⟩ (fun hHeld => ?_); refine with_tabW saronref03_Play.tab12 saronref03_Play.bits12 (fun HT_ HW_ => ?_)
                   generalize w74.drew = w75 at HO_12 HO_14 BK139 BK155 HB hx156_0 hHeld ⊢
                   refine pT 0 72 (bt 16 1) (k := ?_)
                   refine pT 1 73 (bt 16 3) (k := ?_)
                   refine pT 2 74 (bt 16 7) (k := ?_)
                   refine pT 3 75 (bt 16 15) (k := ?_)
                   refine pT 4 76 (bt 16 31) (k := ?_)
                   refine pT 5 77 (bt 16 63) (k := ?_)
                   refine pT 6 78 (bt 16 127) (k := ?_)
                   refine pT 8 80 (bt 16 383) (k := ?_)
                   refine pT 9 81 (bt 16 895) (k := ?_)
                   refine pT 10 82 (bt 16 1919) (k := ?_)
                   refine pT 11 83 (bt 16 3967) (k := ?_)
                   refine tT4 7 79 (bt 16 4095) hHeld (k := ?_)
                   refine tT4 12 84 (bt 16 8191) hHeld (k := ?_)
                   refine one_ (i := 13) (N := some 85) (bt 16 16383) rfl rfl (one_of HT_.out (by kernel_rfl)) (by decide) (fun K hK => ?_)
                   refine goes_ Tryd.func40 (by kernel_rfl) rfl #[.agg #[.int .i64 ((rd_T57 l0_0 t152).f0.f0), .int .i64 ((rd_T57 l0_0 t152).f0.f1)], .int .i64 (rd l3 (x14_2.length : Int))] (by rfl) rfl rfl TM ?_
                   with_reducible refine (saronref00_Bears.calls ((rd_T57 l0_0 t152).f0.f0) ((rd_T57 l0_0 t152).f0.f1) (rd l3 (x14_2.length : Int)) true _ A63.out).mono ?_
                   rintro e w77 ⟨rfl, hb⟩
                   refine ⟨_, rfl, ?_⟩
                   have n0_ := Aside0.mk (Kd.S_below (TSo HO_12.out) hb)
                   have n1_ := Aside0.mk (Kd.R_below (TRo HO_14.out) hb)
                   have n2_ := Aside0.mk (blk_below (g := gb139) (o := .cells #[.slice (some ad154) l0_0.length c0_0, .int .i64 a0_1, .int .i64 a0_2, .slice (some ad148) l0_3.length c0_3] 27 (0, 0)) (by (with_reducible repeat (first | refine blk_drewN ?_ _ | refine blk_drew ?_ | refine blk_alloc ?_ _)); exact BK139.out) hb)
                   have n3_ := Aside0.mk (blk_below (g := gb155) (o := .cells #[.int .i64 ((rd_T57 l0_0 t152).f0.f0), .int .i64 ((rd_T57 l0_0 t152).f0.f1), .int .i64 ((rd_T57 l0_0 t152).f1)] 57 (0, 0)) (by (with_reducible repeat (first | refine blk_drewN ?_ _ | refine blk_drew ?_ | refine blk_alloc ?_ _)); exact BK155.out) hb)
                   have n4_ := Aside0.mk (below_step (TB2 GE139.out GE155.out) hb)
                   clear HO_12
                   clear HO_14
                   clear BK139
                   clear BK155
                   clear HB
                   have HO_12 := n0_
                   have HO_14 := n1_
                   have BK139 := n2_
                   have BK155 := n3_
                   have HB := n4_
                   clear n0_ n1_ n2_ n3_ n4_
                   (try clear hb)
                   (try clear hb2)
                   (try clear hk)
                   (try clear hi)
                   refine hK.out _ _ ⟨cz BK155.out 0, cz BK155.out 1, cz BK155.out 2, ((HB.out.cell  (World.block_lt_of_cell? w _ hw156_0)).trans hw156_0)⟩ (fun hHeld => ?_)
                   clear hK K
                   refine norm_ (a' := ?_) ?_ ?_
                   rotate_left
                   ·show Act.put _ (some 85) _ = _
                    simp only [Act.put, lA, lZ, lS, i64_w, i32_w]
                    rfl
                   refine pT 14 86 (bt 16 32767) (k := ?_)
                   refine pT 15 87 (bt 16 65535) (k := ?_)
                   refine done_ (done_of HT_.out (by kernel_rfl)) ?_
                   try go_wp2
                   have n0_ := Aside0.mk (Kd.S_drew HO_12.out)
                   have n1_ := Aside0.mk (Kd.R_drew HO_14.out)
                   have n2_ := Aside0.mk (blk_drew BK139.out)
                   have n3_ := Aside0.mk (blk_drew BK155.out)
                   have n4_ := Aside0.mk (below_drew1 HB.out)
                   clear HO_12
                   clear HO_14
                   clear BK139
                   clear BK155
                   clear HB
                   have HO_12 := n0_
                   have HO_14 := n1_
                   have BK139 := n2_
                   have BK155 := n3_
                   have HB := n4_
                   clear n0_ n1_ n2_ n3_ n4_
                   have p158 : 0 ≤ ((x14_2.length : Int) : Int) := of_decide_eq_true TA
                   have q158 : (x14_2.length : Int) < (l3.length : Int) := of_decide_eq_true TA
                   obtain ⟨ad158, e158, hx158_0⟩ := Kd.at_int HR3.out (x14_2.length : Int) p158 q158
                   have hw158_0 := hx158_0
                   obtain rfl : ad156 = ad158 := (by injection e158)
                   replace hx158_0 := (HB.out.cell  (World.block_lt_of_cell? w _ hx158_0)).trans hx158_0
                   (try simp only [Go.IntWalk.toNatUp] at hx158_0)
                   replace p158 := eq_true p158
                   replace q158 := eq_true q158
                   refine start_ (n := 13) (S := fun w' => w'.cell? ⟨gb155, 0, none⟩ = some (.int .i64 ((rd_T57 l0_0 t152).f0.f0)) ∧ w'.cell? ⟨gb155, 1, none⟩ = some (.int .i64 ((rd_T57 l0_0 t152).f0.f1)) ∧ w'.cell? ⟨gb155, 2, none⟩ = some (.int .i64 ((rd_T57 l0_0 t152).f1)) ∧ w'.cell? (ad156.add x14_2.length) = some (.int .i64 (rd l3 (x14_2.length : Int)))) (ds := []) (.replicate 13 false) (by kernel_rfl) rfl rfl ⟨cz BK155.out 0, cz BK155.out 1, cz BK155.out 2, ((HB.out.cell  (World.block_lt_of_cell? w _ hw158_0)).trans hw158_0)⟩ (fun hHeld => ?_); refine with_tabW saronref03_Play.tab14 saronref03_Play.bits14 (fun HT_ HW_ => ?_)
                   generalize w77.drew = w78 at HO_12 HO_14 BK139 BK155 HB hx158_0 hHeld ⊢
                   refine pT 0 88 (bt 13 1) (k := ?_)
                   refine pT 1 89 (bt 13 3) (k := ?_)
                   refine pT 2 90 (bt 13 7) (k := ?_)
                   refine pT 3 91 (bt 13 15) (k := ?_)
                   refine pT 4 92 (bt 13 31) (k := ?_)
                   refine pT 7 95 (bt 13 159) (k := ?_)
                   refine pT 8 96 (bt 13 415) (k := ?_)
                   refine tT4 5 93 (bt 13 447) hHeld (k := ?_)
                   refine pT 6 94 (bt 13 511) (k := ?_)
                   refine pT 11 2 (bt 13 2559) (k := ?_)
                   refine tT4 9 97 (bt 13 3071) hHeld (k := ?_)
                   refine pT 10 98 (bt 13 4095) (k := ?_)
                   refine pT 12 13 (bt 13 8191) (k := ?_)
                   refine done_ (done_of HT_.out (by kernel_rfl)) ?_
                   try go_wp2_with (first | ((with_reducible refine gate_builtin (b := .append) (xs := #[.tmp 99, .tmp 101]) rfl ?_); (try (refine gate_guard (by rfl) ?_; dsimp only)); at_builtin; refine Kd.R_append (Kd.int .i64) (w0 := w) w.heap.size rfl (.tmp 99) (.tmp 101) 38 3 (.int .i64 0) 8 rfl Tryd.underlying38 info3 rfl (by decide) (by omega) (.slice Ao76 x14_2.length co76) x14_2 t152 [.int .i64 t152] (fun _ => True) (fun _ => False) rfl rfl ?aP (fun _ hk => hk.elim) ?aF ?aO ?aB ?aS ?aL ?_; (case aP => exact rfl); (case aB => exact (TB2 GE139.out GE155.out)); (case aF => exact (fun _ _ => trivial)); (case aO => exact (TRo HO_14.out)); (case aS => exact (below_size (TB2 GE139.out GE155.out))); (case aL => have := LMc65.out; omega); intro v160 w79 ho hb hg hat; rw [← Ny159.out] at ho; have HO161 := Aside0.mk (ho); replace HO_12 := Aside0.mk (Kd.S_after (ok := (fun _ => True)) (by (with_reducible repeat (first | apply Kd.S_alloc | apply Kd.S_drewN | apply Kd.S_drew)); exact Kd.S_mono HO_12.out (fun _ hk => ⟨trivial, hk⟩)) hg hat); replace BK139 := Aside0.mk (blk_grown (g := gb139) (o := .cells #[.slice (some ad154) l0_0.length c0_0, .int .i64 a0_1, .int .i64 a0_2, .slice (some ad148) l0_3.length c0_3] 27 (0, 0)) (by (with_reducible repeat (first | refine blk_drewN ?_ _ | refine blk_drew ?_ | refine blk_alloc ?_ _)); exact BK139.out) hg (Kd.R_ne HO_14.out BK139.out (by decide))); replace BK155 := Aside0.mk (blk_grown (g := gb155) (o := .cells #[.int .i64 ((rd_T57 l0_0 t152).f0.f0), .int .i64 ((rd_T57 l0_0 t152).f0.f1), .int .i64 ((rd_T57 l0_0 t152).f1)] 57 (0, 0)) (by (with_reducible repeat (first | refine blk_drewN ?_ _ | refine blk_drew ?_ | refine blk_alloc ?_ _)); exact BK155.out) hg (Kd.R_ne HO_14.out BK155.out (by decide))); replace HB := Aside0.mk (hb); clear HO_14; clear ho hb hg hat))
                   go_roundg k2
                   case measure => have := HJ4.out; have := HK2.out; omega
                   case rel => exact ⟨(wrap64 (x2_2 + (rd l3 (x14_2.length : Int)))), (wrap64 (x13_2 - ((rd_T57 l0_0 t152).f1))), (y159), TT, TT, H', ⟨by have := HJ4.out; have := HK2.out; omega⟩, ⟨by (with_reducible repeat (first | apply Kd.S_alloc | apply Kd.S_drewN | apply Kd.S_drew)); exact Kd.S_mono HO_12.out (fun _ hk => hk.2)⟩, ⟨by (with_reducible repeat (first | apply Kd.R_alloc | apply Kd.R_drewN | apply Kd.R_drew)); exact HO161.out⟩, ⟨by (with_reducible repeat (first | refine blk_drewN ?_ _ | refine blk_drew ?_ | refine blk_alloc ?_ _)); exact BK139.out⟩, ⟨TB2 GE139.out GE155.out⟩⟩
                  ·rw [if_neg c65] at H
                   exact absurd H (by simp)
                 ·replace c64 := Bool.eq_false_iff.mpr c64
                  subst c64
                  have H1 : (some (([] : List Int), 0, 32)) = some (r1, r2, r3) := by rw [if_neg (show ¬ (false = true) by decide)] at H; exact H
                  clear H
                  have H := H1
                  clear H1
                  simp only [Option.some.injEq, Prod.mk.injEq] at H
                  obtain ⟨rfl, rfl, rfl⟩ := H
                  have hcz80_0 := cz BK139.out 0
                  have hcz80_1 := cz BK139.out 1
                  have hcz80_2 := cz BK139.out 2
                  have hcz80_3 := cz BK139.out 3
                  have hfz80_0 := fz BK139.out 0
                  have hfz80_1 := fz BK139.out 1
                  have hfz80_2 := fz BK139.out 2
                  have hfz80_3 := fz BK139.out 3
                  try go_wp2_with (first | ((with_reducible refine gate_callee (f := 40) rfl ?_); refine goesL_ (some 57) rfl rfl Tryd.func40 (by kernel_rfl) rfl #[.agg #[.int .i64 a0_1, .int .i64 a0_2], .int .i64 x2_2] rfl TM ?_; (with_reducible refine (saronref00_Bears.calls a0_1 a0_2 x2_2 false _ A37.out).mono ?_); rintro e w81 ⟨rfl, hb⟩; refine ⟨_, rfl, ?_⟩; replace HO_12 := Aside0.mk (Kd.S_below (TSo HO_12.out) hb); replace HO_14 := Aside0.mk (Kd.R_below (TRo HO_14.out) hb); replace BK139 := Aside0.mk (blk_below (g := gb139) (o := .cells #[.slice A0_0 l0_0.length c0_0, .int .i64 a0_1, .int .i64 a0_2, .slice (some ad148) l0_3.length c0_3] 27 (0, 0)) (by (with_reducible repeat (first | refine blk_drewN ?_ _ | refine blk_drew ?_ | refine blk_alloc ?_ _)); exact BK139.out) hb); replace HB := Aside0.mk (below_step (TB1 GE139.out) hb); (try clear hb); (try clear hb2); (try clear hk); (try clear hi); have hcz82_0 := cz BK139.out 0; have hcz82_1 := cz BK139.out 1; have hcz82_2 := cz BK139.out 2; have hcz82_3 := cz BK139.out 3; have hfz82_0 := fz BK139.out 0; have hfz82_1 := fz BK139.out 1; have hfz82_2 := fz BK139.out 2; have hfz82_3 := fz BK139.out 3) | ((with_reducible refine gate_callee (f := 56) rfl ?_); refine goesL_ (some 64) rfl rfl Tryd.func56 (by kernel_rfl) rfl #[.agg #[.slice A0_0 l0_0.length c0_0, .int .i64 a0_1, .int .i64 a0_2, .slice (some ad148) l0_3.length c0_3], .slice (some ad149) t145.length co35, .int .i64 x2_2, .int .i64 x13_2, .bool true] rfl TM ?_; (with_reducible refine (saronref03_best.calls k2 _ _ l0_0 a0_1 a0_2 _ _ l0_3 _ _ t145 x2_2 x13_2 true t152 t153 _ ?side1 ?side2 ?side3 ?side4 ?side5 ?side6 A46.out).mono ?_); (case side1 => exact TC HR0_0.out); (case side2 => exact HC0_0.out); (case side3 => exact TC HR0_3.out); (case side4 => exact HC0_3.out); (case side5 => exact TE (Kd.S_reads' HO_12.out).2.2); (case side6 => exact (Kd.S_reads' HO_12.out).2.1); rintro e w83 ⟨rfl, hb⟩; refine ⟨_, rfl, ?_⟩; replace HO_12 := Aside0.mk (Kd.S_below (TSo HO_12.out) hb); replace HO_14 := Aside0.mk (Kd.R_below (TRo HO_14.out) hb); replace BK139 := Aside0.mk (blk_below (g := gb139) (o := .cells #[.slice A0_0 l0_0.length c0_0, .int .i64 a0_1, .int .i64 a0_2, .slice (some ad148) l0_3.length c0_3] 27 (0, 0)) (by (with_reducible repeat (first | refine blk_drewN ?_ _ | refine blk_drew ?_ | refine blk_alloc ?_ _)); exact BK139.out) hb); replace HB := Aside0.mk (below_step (TB1 GE139.out) hb); (try clear hb); (try clear hb2); (try clear hk); (try clear hi); have hcz84_0 := cz BK139.out 0; have hcz84_1 := cz BK139.out 1; have hcz84_2 := cz BK139.out 2; have hcz84_3 := cz BK139.out 3; have hfz84_0 := fz BK139.out 0; have hfz84_1 := fz BK139.out 1; have hfz84_2 := fz BK139.out 2; have hfz84_3 := fz BK139.out 3; have p154 : 0 ≤ (t152 : Int) := of_decide_eq_true TA; have q154 : t152 < (l0_0.length : Int) := of_decide_eq_true TA; obtain ⟨ad154, e154, hx154_0, hx154_1, hx154_2⟩ := at_T57 HR0_0.out t152 p154 q154; cases e154; replace hx154_0 := (HB.out.cell  (World.block_lt_of_cell? w _ hx154_0)).trans hx154_0; replace hx154_1 := (HB.out.cell  (World.block_lt_of_cell? w _ hx154_1)).trans hx154_1; replace hx154_2 := (HB.out.cell  (World.block_lt_of_cell? w _ hx154_2)).trans hx154_2; replace p154 := eq_true p154; replace q154 := eq_true q154) | ((with_reducible refine gate_dst (N := 17) rfl ?_); (try (refine gate_guard (by rfl) ?_; dsimp only)); refine box_event ?hg (N := 17) ?hd (cs := #[.int .i64 0, .int .i64 0, .int .i64 0]) (t := 57) ?hr ?_; (case hd => rfl); (case hg => rfl); (case hr => exact TS); intro gb155 hg w85 hbox hb; have BK155 := Aside0.mk (hbox); have GW155 := Aside0.mk ((TG1 GE139.out : w.heap.size ≤ gb155)); have GE155 := Aside0.mk ((TG1 GE139.out : w.heap.size ≤ gb155)); have NB139_155 := Aside0.mk ((by rw [hg]; exact Nat.ne_of_lt (blk_lt (g := gb139) (o := .cells #[.slice (some ad154) l0_0.length c0_0, .int .i64 a0_1, .int .i64 a0_2, .slice (some ad148) l0_3.length c0_3] 27 (0, 0)) (by (with_reducible repeat (first | refine blk_drewN ?_ _ | refine blk_drew ?_ | refine blk_alloc ?_ _)); exact BK139.out)) : gb139 ≠ gb155)); have NB155_139 := Aside0.mk ((by rw [hg]; exact Nat.ne_of_gt (blk_lt (g := gb139) (o := .cells #[.slice (some ad154) l0_0.length c0_0, .int .i64 a0_1, .int .i64 a0_2, .slice (some ad148) l0_3.length c0_3] 27 (0, 0)) (by (with_reducible repeat (first | refine blk_drewN ?_ _ | refine blk_drew ?_ | refine blk_alloc ?_ _)); exact BK139.out)) : gb155 ≠ gb139)); replace HO_12 := Aside0.mk (Kd.S_below (TSo HO_12.out) hb); replace HO_14 := Aside0.mk (Kd.R_below (TRo HO_14.out) hb); replace BK139 := Aside0.mk (blk_below (g := gb139) (o := .cells #[.slice (some ad154) l0_0.length c0_0, .int .i64 a0_1, .int .i64 a0_2, .slice (some ad148) l0_3.length c0_3] 27 (0, 0)) (by (with_reducible repeat (first | refine blk_drewN ?_ _ | refine blk_drew ?_ | refine blk_alloc ?_ _)); exact BK139.out) hb); replace HB := Aside0.mk (below_step (TB1 GE139.out) hb); clear hb hbox hg; have hnb86 := NB155_139.out; have hnc86 := NB139_155.out; have hcz87_0 := cz BK155.out 0; have hcz87_1 := cz BK155.out 1; have hcz87_2 := cz BK155.out 2; have hfz87_0 := fz BK155.out 0; have hfz87_1 := fz BK155.out 1; have hfz87_2 := fz BK155.out 2))
                  have n0_ : Aside0 (Kd.S k93 93 (((w85.setCell ⟨gb155, 0, none⟩ (.int .i64 ((rd_T57 l0_0 t152).f0.f0))).setCell ⟨gb155, 1, none⟩ (.int .i64 ((rd_T57 l0_0 t152).f0.f1))).setCell ⟨gb155, 2, none⟩ (.int .i64 ((rd_T57 l0_0 t152).f1))) w.heap.size (fun k_ => some k_ ≠ (u14 : Value).ownBlock) (.slice (some ad149) t145.length co35) t145) := ⟨by (with_reducible repeat (first | apply Kd.S_alloc | apply Kd.S_drewN | apply Kd.S_drew)); exact Kd.S_mono (Kd.S_far (p := ⟨gb155, 2, none⟩) (Kd.S_far (p := ⟨gb155, 1, none⟩) (Kd.S_far (p := ⟨gb155, 0, none⟩) (Kd.S_types HO_12.out BK155.out (by decide)) (fun _ hk => hk.2) (.int .i64 ((rd_T57 l0_0 t152).f0.f0))) (fun _ hk => hk.2) (.int .i64 ((rd_T57 l0_0 t152).f0.f1))) (fun _ hk => hk.2) (.int .i64 ((rd_T57 l0_0 t152).f1))) (fun _ hk => hk.1)⟩
                  have n1_ : Aside0 (Kd.R (Kd.int .i64) 3 (((w85.setCell ⟨gb155, 0, none⟩ (.int .i64 ((rd_T57 l0_0 t152).f0.f0))).setCell ⟨gb155, 1, none⟩ (.int .i64 ((rd_T57 l0_0 t152).f0.f1))).setCell ⟨gb155, 2, none⟩ (.int .i64 ((rd_T57 l0_0 t152).f1))) w.heap.size (fun _ => True) u14 x14_2) := ⟨by (with_reducible repeat (first | apply Kd.R_alloc | apply Kd.R_drewN | apply Kd.R_drew)); exact Kd.R_mono (Kd.R_far (p := ⟨gb155, 2, none⟩) (Kd.R_far (p := ⟨gb155, 1, none⟩) (Kd.R_far (p := ⟨gb155, 0, none⟩) (Kd.R_types HO_14.out BK155.out (by decide)) (fun _ hk => hk.2) (.int .i64 ((rd_T57 l0_0 t152).f0.f0))) (fun _ hk => hk.2) (.int .i64 ((rd_T57 l0_0 t152).f0.f1))) (fun _ hk => hk.2) (.int .i64 ((rd_T57 l0_0 t152).f1))) (fun _ hk => trivial)⟩
                  have n2_ : Aside0 ((((w85.setCell ⟨gb155, 0, none⟩ (.int .i64 ((rd_T57 l0_0 t152).f0.f0))).setCell ⟨gb155, 1, none⟩ (.int .i64 ((rd_T57 l0_0 t152).f0.f1))).setCell ⟨gb155, 2, none⟩ (.int .i64 ((rd_T57 l0_0 t152).f1))).heap[gb139]? = some (.cells #[.slice (some ad154) l0_0.length c0_0, .int .i64 a0_1, .int .i64 a0_2, .slice (some ad148) l0_3.length c0_3] 27 (0, 0))) := ⟨by (with_reducible repeat (first | refine blk_drewN ?_ _ | refine blk_drew ?_ | refine blk_alloc ?_ _)); refine blk_far ?_ NB139_155.out _; (with_reducible repeat (first | refine blk_drewN ?_ _ | refine blk_drew ?_ | refine blk_alloc ?_ _)); refine blk_far ?_ NB139_155.out _; (with_reducible repeat (first | refine blk_drewN ?_ _ | refine blk_drew ?_ | refine blk_alloc ?_ _)); refine blk_far ?_ NB139_155.out _; (with_reducible repeat (first | refine blk_drewN ?_ _ | refine blk_drew ?_ | refine blk_alloc ?_ _)); exact BK139.out⟩
                  have n3_ : Aside0 ((((w85.setCell ⟨gb155, 0, none⟩ (.int .i64 ((rd_T57 l0_0 t152).f0.f0))).setCell ⟨gb155, 1, none⟩ (.int .i64 ((rd_T57 l0_0 t152).f0.f1))).setCell ⟨gb155, 2, none⟩ (.int .i64 ((rd_T57 l0_0 t152).f1))).heap[gb155]? = some (.cells #[.int .i64 ((rd_T57 l0_0 t152).f0.f0), .int .i64 ((rd_T57 l0_0 t152).f0.f1), .int .i64 ((rd_T57 l0_0 t152).f1)] 57 (0, 0))) := ⟨by (with_reducible repeat (first | refine blk_drewN ?_ _ | refine blk_drew ?_ | refine blk_alloc ?_ _)); refine blk_put (cs := #[.int .i64 ((rd_T57 l0_0 t152).f0.f0), .int .i64 ((rd_T57 l0_0 t152).f0.f1), .int .i64 0]) ?_ 2 _ rfl; (with_reducible repeat (first | refine blk_drewN ?_ _ | refine blk_drew ?_ | refine blk_alloc ?_ _)); refine blk_put (cs := #[.int .i64 ((rd_T57 l0_0 t152).f0.f0), .int .i64 0, .int .i64 0]) ?_ 1 _ rfl; (with_reducible repeat (first | refine blk_drewN ?_ _ | refine blk_drew ?_ | refine blk_alloc ?_ _)); refine blk_put (cs := #[.int .i64 0, .int .i64 0, .int .i64 0]) ?_ 0 _ rfl; (with_reducible repeat (first | refine blk_drewN ?_ _ | refine blk_drew ?_ | refine blk_alloc ?_ _)); exact BK155.out⟩
                  have n4_ : Aside0 (Below w.heap.size w (((w85.setCell ⟨gb155, 0, none⟩ (.int .i64 ((rd_T57 l0_0 t152).f0.f0))).setCell ⟨gb155, 1, none⟩ (.int .i64 ((rd_T57 l0_0 t152).f0.f1))).setCell ⟨gb155, 2, none⟩ (.int .i64 ((rd_T57 l0_0 t152).f1)))) := ⟨TB2 GE139.out GE155.out⟩
                  (try clear HO_12)
                  (try clear HO_14)
                  (try clear BK139)
                  (try clear BK155)
                  (try clear HB)
                  generalize (((w85.setCell ⟨gb155, 0, none⟩ (.int .i64 ((rd_T57 l0_0 t152).f0.f0))).setCell ⟨gb155, 1, none⟩ (.int .i64 ((rd_T57 l0_0 t152).f0.f1))).setCell ⟨gb155, 2, none⟩ (.int .i64 ((rd_T57 l0_0 t152).f1))) = w88 at n0_ n1_ n2_ n3_ n4_ ⊢
                  have HO_12 := n0_
                  have HO_14 := n1_
                  have BK139 := n2_
                  have BK155 := n3_
                  have HB := n4_
                  clear n0_ n1_ n2_ n3_ n4_
                  have n0_ := Aside0.mk (Kd.S_drew HO_12.out)
                  have n1_ := Aside0.mk (Kd.R_drew HO_14.out)
                  have n2_ := Aside0.mk (blk_drew BK139.out)
                  have n3_ := Aside0.mk (blk_drew BK155.out)
                  have n4_ := Aside0.mk (below_drew1 HB.out)
                  clear HO_12
                  clear HO_14
                  clear BK139
                  clear BK155
                  clear HB
                  have HO_12 := n0_
                  have HO_14 := n1_
                  have BK139 := n2_
                  have BK155 := n3_
                  have HB := n4_
                  clear n0_ n1_ n2_ n3_ n4_
                  obtain ⟨Ao90, co90, eo90⟩ := Kd.R_slice HO_14.out
                  (first | subst eo90 | (injection eo90 with f1_ f2_ f3_; have f4_ := f1_.symm; have f5_ := f3_.symm; clear f1_ f2_ f3_; subst f4_; subst f5_))
                  have p156 : 0 ≤ ((x14_2.length : Int) : Int) := of_decide_eq_true TA
                  have q156 : (x14_2.length : Int) < (l3.length : Int) := of_decide_eq_true TA
                  obtain ⟨ad156, e156, hx156_0⟩ := Kd.at_int HR3.out (x14_2.length : Int) p156 q156
                  have hw156_0 := hx156_0
                  cases e156
                  replace hx156_0 := (HB.out.cell  (World.block_lt_of_cell? w _ hx156_0)).trans hx156_0
                  (try simp only [Go.IntWalk.toNatUp] at hx156_0)
                  replace p156 := eq_true p156
                  replace q156 := eq_true q156
                  refine start_ (n := 16) (S := fun w' => w'.cell? ⟨gb155, 0, none⟩ = some (.int .i64 ((rd_T57 l0_0 t152).f0.f0)) ∧ w'.cell? ⟨gb155, 1, none⟩ = some (.int .i64 ((rd_T57 l0_0 t152).f0.f1)) ∧ w'.cell? ⟨gb155, 2, none⟩ = some (.int .i64 ((rd_T57 l0_0 t152).f1)) ∧ w'.cell? (ad156.add x14_2.length) = some (.int .i64 (rd l3 (x14_2.length : Int)))) (ds := []) (.replicate 16 false) (by kernel_rfl) rfl rfl ⟨cz BK155.out 0, cz BK155.out 1, cz BK155.out 2, ((HB.out.cell  (World.block_lt_of_cell? w _ hw156_0)).trans hw156_0)⟩ (fun hHeld => ?_); refine with_tabW saronref03_Play.tab12 saronref03_Play.bits12 (fun HT_ HW_ => ?_)
                  generalize w88.drew = w89 at HO_12 HO_14 BK139 BK155 HB hx156_0 hHeld ⊢
                  refine pT 0 72 (bt 16 1) (k := ?_)
                  refine pT 1 73 (bt 16 3) (k := ?_)
                  refine pT 2 74 (bt 16 7) (k := ?_)
                  refine pT 3 75 (bt 16 15) (k := ?_)
                  refine pT 4 76 (bt 16 31) (k := ?_)
                  refine pT 5 77 (bt 16 63) (k := ?_)
                  refine pT 6 78 (bt 16 127) (k := ?_)
                  refine pT 8 80 (bt 16 383) (k := ?_)
                  refine pT 9 81 (bt 16 895) (k := ?_)
                  refine pT 10 82 (bt 16 1919) (k := ?_)
                  refine pT 11 83 (bt 16 3967) (k := ?_)
                  refine tT4 7 79 (bt 16 4095) hHeld (k := ?_)
                  refine tT4 12 84 (bt 16 8191) hHeld (k := ?_)
                  refine one_ (i := 13) (N := some 85) (bt 16 16383) rfl rfl (one_of HT_.out (by kernel_rfl)) (by decide) (fun K hK => ?_)
                  refine goes_ Tryd.func40 (by kernel_rfl) rfl #[.agg #[.int .i64 ((rd_T57 l0_0 t152).f0.f0), .int .i64 ((rd_T57 l0_0 t152).f0.f1)], .int .i64 (rd l3 (x14_2.length : Int))] (by rfl) rfl rfl TM ?_
                  with_reducible refine (saronref00_Bears.calls ((rd_T57 l0_0 t152).f0.f0) ((rd_T57 l0_0 t152).f0.f1) (rd l3 (x14_2.length : Int)) false _ A63.out).mono ?_
                  rintro e w91 ⟨rfl, hb⟩
                  refine ⟨_, rfl, ?_⟩
                  have n0_ := Aside0.mk (Kd.S_below (TSo HO_12.out) hb)
                  have n1_ := Aside0.mk (Kd.R_below (TRo HO_14.out) hb)
                  have n2_ := Aside0.mk (blk_below (g := gb139) (o := .cells #[.slice (some ad154) l0_0.length c0_0, .int .i64 a0_1, .int .i64 a0_2, .slice (some ad148) l0_3.length c0_3] 27 (0, 0)) (by (with_reducible repeat (first | refine blk_drewN ?_ _ | refine blk_drew ?_ | refine blk_alloc ?_ _)); exact BK139.out) hb)
                  have n3_ := Aside0.mk (blk_below (g := gb155) (o := .cells #[.int .i64 ((rd_T57 l0_0 t152).f0.f0), .int .i64 ((rd_T57 l0_0 t152).f0.f1), .int .i64 ((rd_T57 l0_0 t152).f1)] 57 (0, 0)) (by (with_reducible repeat (first | refine blk_drewN ?_ _ | refine blk_drew ?_ | refine blk_alloc ?_ _)); exact BK155.out) hb)
                  have n4_ := Aside0.mk (below_step (TB2 GE139.out GE155.out) hb)
                  clear HO_12
                  clear HO_14
                  clear BK139
                  clear BK155
                  clear HB
                  have HO_12 := n0_
                  have HO_14 := n1_
                  have BK139 := n2_
                  have BK155 := n3_
                  have HB := n4_
                  clear n0_ n1_ n2_ n3_ n4_
                  (try clear hb)
                  (try clear hb2)
                  (try clear hk)
                  (try clear hi)
                  refine hK.out _ _ ⟨cz BK155.out 0, cz BK155.out 1, cz BK155.out 2, ((HB.out.cell  (World.block_lt_of_cell? w _ hw156_0)).trans hw156_0)⟩ (fun hHeld => ?_)
                  clear hK K
                  refine norm_ (a' := ?_) ?_ ?_
                  rotate_left
                  ·show Act.put _ (some 85) _ = _
                   simp only [Act.put, lA, lZ, lS, i64_w, i32_w]
                   rfl
                  refine pT 14 86 (bt 16 32767) (k := ?_)
                  refine pT 15 87 (bt 16 65535) (k := ?_)
                  refine done_ (done_of HT_.out (by kernel_rfl)) ?_
                  try go_wp2
                  go_ret3
                  exact ⟨_, TR, by first | exact Kd.R_nil _ _ _ _ _ | exact Kd.N_nil _ _ _ _ _ | exact Kd.V_nil _ _ _ _ _ | exact Kd.Q_nil _ _ _ _ _ | exact Kd.S_nil _ _ _ _ _, TB2 GE139.out GE155.out⟩
                ·rw [if_neg c62] at H
                 exact absurd H (by simp)
               ·rw [if_neg c61] at H
                exact absurd H (by simp)
             ·rw [if_neg c48] at H
              exact absurd H (by simp)
            ·rw [if_neg c47] at H
             exact absurd H (by simp)
       ·rw [if_neg c24] at H
        exact absurd H (by simp)
      ·rw [if_neg c23] at H
       exact absurd H (by simp)
     ·rw [if_neg c22] at H
      exact absurd H (by simp)
    ·rw [if_neg c21] at H
     exact absurd H (by simp)
   ·rw [if_neg c19] at H
    have c19b0 : (x11_4 == 0) = false := beq_eq_false_iff_ne.mpr c19
    have c19b1 : (x11_4 != 0) = true := bne_iff_ne.mpr c19
    simp only [Option.some.injEq, Prod.mk.injEq] at H
    obtain ⟨rfl, rfl, rfl⟩ := H
    go_wp2
    go_ret3
    exact ⟨_, TR, by first | exact Kd.R_nil _ _ _ _ _ | exact Kd.N_nil _ _ _ _ _ | exact Kd.V_nil _ _ _ _ _ | exact Kd.Q_nil _ _ _ _ _ | exact Kd.S_nil _ _ _ _ _, TB1 GE139.out⟩
end Go.Proofs.YtfmpbkolpjlfbaaDoor.PRaspKeys
