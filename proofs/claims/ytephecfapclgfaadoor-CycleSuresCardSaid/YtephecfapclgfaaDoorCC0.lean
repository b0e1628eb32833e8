import Derived.Test.YtephecfapclgfaaDoorC0
import Derived.Test.YtephecfapclgfaaDoorM0
import Derived.Test.YtephecfapclgfaaDoorProg
import Derived.Below
import Derived.Deep.Draws
import Derived.Deep.AppendLies
import Derived.Maps.AppendAt
import Derived.OwnWalk
import Derived.Laws.BytesArg
import Derived.Laws.MakeOwn
import Derived.Laws.OwnMore
import Derived.Deep.OwnRows
import Derived.Tactics
import Derived.Lib.ConvBytes
import Derived.Laws.Slices
import Derived.WalkKit
import Derived.KernelRfl
import Derived.RowKit3
import Derived.Deep.LoopGhost
import Derived.Deep.QuietTactic
import Derived.BigQuiet
import Derived.WideLaws
import Derived.Deep.DeepCutAuto
import Derived.Deep.CutBlock
import Derived.Deep.RegionHeld3
import Derived.Laws.Rows
import Derived.Lib.AppendStr
import Derived.ArgAppend
import Derived.Laws.IdiomCopy
import Derived.OrdersHeld
import Derived.Laws.BitsLemmas
import Derived.RowKit
set_option linter.unusedVariables false
set_option linter.unusedSimpArgs false
namespace Go.Proofs.YtephecfapclgfaaDoor.PRaspKeys
open Go.RowKit Go.Proofs.YtephecfapclgfaaDoorW.PrintWords Go.Proofs.YtephecfapclgfaaDoorW.PrintLast Go.Proofs.YtephecfapclgfaaDoorW.PrintMore Go.Proofs.YtephecfapclgfaaDoor.M
attribute [local go_sem] max2_int min2_int max_two min_two max_three min_three max_four min_four   -- for this text's walks alone
theorem info39 : (Tryd.prog.info? 39).map (fun i => (i.zero, i.size, i.bytes)) = some (some (.slice none 0 0), 1, 24) := by kernel_rfl
/-! #### struct type 63 -/
/-! #### struct type 38 -/
/-! #### struct type 97 -/
end Go.Proofs.YtephecfapclgfaaDoor.PRaspKeys
namespace Go.Proofs.YtephecfapclgfaaDoor.PRaspKeys
open Go.RowKit Go.Proofs.YtephecfapclgfaaDoorW.PrintWords Go.Proofs.YtephecfapclgfaaDoorW.PrintLast Go.Proofs.YtephecfapclgfaaDoorW.PrintMore Go.Proofs.YtephecfapclgfaaDoor.M
attribute [local go_sem] max2_int min2_int max_two min_two max_three min_three max_four min_four   -- for this text's walks alone
/-! ### saronref05_confused: function 87 -/
mutual
def saronref05_confused.l0 : Nat → Int → Int → List (S38) → List (List (List Int)) → Int → Int → List (S63) → Option (Int × Int × Int × Int × Bool)
 | 0, _, _, _, _, _, _, _ => none
 | k + 1, x1, x2, x9, x10, x11, x132000, x132001 => if x11 < (x9.length : Int) then (if 0 ≤ x11 then ((saronref05_passage.f k x132000 x132001 ((rd_T38 x9 x11).f0) ((rd_T38 x9 x11).f1) x2).bind fun t138 => (if x10.length < 5864062014805 then (saronref05_confused.l0 k x1 x2 x9 (x10 ++ [t138]) (wrap64 (x11 + 1)) x132000 x132001) else (none))) else (none)) else (saronref05_confused.l1 k x1 x9 x10 0)
def saronref05_confused.l1 : Nat → Int → List (S38) → List (List (List Int)) → Int → Option (Int × Int × Int × Int × Bool)
 | 0, _, _, _, _ => none
 | k + 1, x1, x9, x10, x12 => if x12 < (x9.length : Int) then (saronref05_confused.l2 k x1 x9 x10 x12 (wrap64 (x12 + 1))) else (some (0, 0, 0, 0, false))
def saronref05_confused.l2 : Nat → Int → List (S38) → List (List (List Int)) → Int → Int → Option (Int × Int × Int × Int × Bool)
 | 0, _, _, _, _, _ => none
 | k + 1, x1, x9, x10, x12, x13 => if x13 < (x9.length : Int) then (if 0 ≤ x12 then (if x12 < (x10.length : Int) then (if 0 ≤ x13 then (if x13 < (x10.length : Int) then ((saronref05_less.f k (rd_L2 x10 x12) (rd_L2 x10 x13)).bind fun t146 => (if (t146.length : Int) ≤ x1 then ((saronref05_less.f k (rd_L2 x10 x13) (rd_L2 x10 x12)).bind fun t151 => (if (t151.length : Int) ≤ x1 then (if x12 < (x9.length : Int) then (some ((rd_T38 x9 x12).f0, (rd_T38 x9 x12).f1, (rd_T38 x9 x13).f0, (rd_T38 x9 x13).f1, true)) else (none)) else (saronref05_confused.l2 k x1 x9 x10 x12 (wrap64 (x13 + 1))))) else (saronref05_confused.l2 k x1 x9 x10 x12 (wrap64 (x13 + 1))))) else (none)) else (none)) else (none)) else (none)) else (saronref05_confused.l1 k x1 x9 x10 (wrap64 (x12 + 1)))
end
def saronref05_confused.f (k : Nat) (a0_0 : Int) (l0_1 : List (S63)) (a1 : Int) (a2 : Int) : Option (Int × Int × Int × Int × Bool) := (saronref05_spots.f k a0_0 l0_1).bind fun t134 => (saronref05_confused.l0 k a1 a2 t134 ([] : List (List (List Int))) 0 a0_0 l0_1)
theorem saronref05_confused.mono_l : ∀ k, (∀ y0 y1 y2 y3 y4 y5 y6, LeO (saronref05_confused.l0 k y0 y1 y2 y3 y4 y5 y6) (saronref05_confused.l0 (k + 1) y0 y1 y2 y3 y4 y5 y6)) ∧ (∀ y0 y1 y2 y3, LeO (saronref05_confused.l1 k y0 y1 y2 y3) (saronref05_confused.l1 (k + 1) y0 y1 y2 y3)) ∧ (∀ y0 y1 y2 y3 y4, LeO (saronref05_confused.l2 k y0 y1 y2 y3 y4) (saronref05_confused.l2 (k + 1) y0 y1 y2 y3 y4))
 | 0 => ⟨fun _ _ _ _ _ _ _ r h => by simp [saronref05_confused.l0] at h, fun _ _ _ _ r h => by simp [saronref05_confused.l1] at h, fun _ _ _ _ _ r h => by simp [saronref05_confused.l2] at h⟩
 | k + 1 => by
  obtain ⟨ih0, ih1, ih2⟩ := saronref05_confused.mono_l k
  refine ⟨?_, ?_, ?_⟩
  ·intro y0 y1 y2 y3 y4 y5 y6
   unfold saronref05_confused.l0
   repeat' first
   | (with_reducible exact ih0 _ _ _ _ _ _ _)
   | (with_reducible exact ih1 _ _ _ _)
   | (with_reducible exact ih2 _ _ _ _ _)
   | (with_reducible exact saronref05_less.mono _ _ _)
   | (with_reducible exact saronref05_passage.mono _ _ _ _ _ _)
   | (with_reducible exact saronref05_spots.mono _ _ _)
   | (with_reducible exact LeO.refl _)
   | (with_reducible exact LeO.none _)
   | (with_reducible refine LeO.ite ?_ ?_)
   | (with_reducible refine LeO.bind ?_ (fun _ => ?_))
   | exact ih0 _ _ _ _ _ _ _
   | exact ih1 _ _ _ _
   | exact ih2 _ _ _ _ _
   | exact saronref05_less.mono _ _ _
   | exact saronref05_passage.mono _ _ _ _ _ _
   | exact saronref05_spots.mono _ _ _
   | exact LeO.none _
   | refine LeO.ite ?_ ?_
   | refine LeO.bind ?_ (fun _ => ?_)
  ·intro y0 y1 y2 y3
   unfold saronref05_confused.l1
   repeat' first
   | (with_reducible exact ih0 _ _ _ _ _ _ _)
   | (with_reducible exact ih1 _ _ _ _)
   | (with_reducible exact ih2 _ _ _ _ _)
   | (with_reducible exact saronref05_less.mono _ _ _)
   | (with_reducible exact saronref05_passage.mono _ _ _ _ _ _)
   | (with_reducible exact saronref05_spots.mono _ _ _)
   | (with_reducible exact LeO.refl _)
   | (with_reducible exact LeO.none _)
   | (with_reducible refine LeO.ite ?_ ?_)
   | (with_reducible refine LeO.bind ?_ (fun _ => ?_))
   | exact ih0 _ _ _ _ _ _ _
   | exact ih1 _ _ _ _
   | exact ih2 _ _ _ _ _
   | exact saronref05_less.mono _ _ _
   | exact saronref05_passage.mono _ _ _ _ _ _
   | exact saronref05_spots.mono _ _ _
   | exact LeO.none _
   | refine LeO.ite ?_ ?_
   | refine LeO.bind ?_ (fun _ => ?_)
  ·intro y0 y1 y2 y3 y4
   unfold saronref05_confused.l2
   repeat' first
   | (with_reducible exact ih0 _ _ _ _ _ _ _)
   | (with_reducible exact ih1 _ _ _ _)
   | (with_reducible exact ih2 _ _ _ _ _)
   | (with_reducible exact saronref05_less.mono _ _ _)
   | (with_reducible exact saronref05_passage.mono _ _ _ _ _ _)
   | (with_reducible exact saronref05_spots.mono _ _ _)
   | (with_reducible exact LeO.refl _)
   | (with_reducible exact LeO.none _)
   | (with_reducible refine LeO.ite ?_ ?_)
   | (with_reducible refine LeO.bind ?_ (fun _ => ?_))
   | exact ih0 _ _ _ _ _ _ _
   | exact ih1 _ _ _ _
   | exact ih2 _ _ _ _ _
   | exact saronref05_less.mono _ _ _
   | exact saronref05_passage.mono _ _ _ _ _ _
   | exact saronref05_spots.mono _ _ _
   | exact LeO.none _
   | refine LeO.ite ?_ ?_
   | refine LeO.bind ?_ (fun _ => ?_)
theorem saronref05_confused.mono : ∀ a0 a1 a2 a3 k, LeO (saronref05_confused.f k a0 a1 a2 a3) (saronref05_confused.f (k + 1) a0 a1 a2 a3) := by
 intro a0 a1 a2 a3 k
 obtain ⟨ih0, ih1, ih2⟩ := saronref05_confused.mono_l k
 unfold saronref05_confused.f
 repeat' first
   | (with_reducible exact ih0 _ _ _ _ _ _ _)
   | (with_reducible exact ih1 _ _ _ _)
   | (with_reducible exact ih2 _ _ _ _ _)
   | (with_reducible exact saronref05_less.mono _ _ _)
   | (with_reducible exact saronref05_passage.mono _ _ _ _ _ _)
   | (with_reducible exact saronref05_spots.mono _ _ _)
   | (with_reducible exact LeO.refl _)
   | (with_reducible exact LeO.none _)
   | (with_reducible refine LeO.ite ?_ ?_)
   | (with_reducible refine LeO.bind ?_ (fun _ => ?_))
   | exact ih0 _ _ _ _ _ _ _
   | exact ih1 _ _ _ _
   | exact ih2 _ _ _ _ _
   | exact saronref05_less.mono _ _ _
   | exact saronref05_passage.mono _ _ _ _ _ _
   | exact saronref05_spots.mono _ _ _
   | exact LeO.none _
   | refine LeO.ite ?_ ?_
   | refine LeO.bind ?_ (fun _ => ?_)
def saronref05_confused.T6 : Bool × List (List Nat × List Nat) := (true, [([], []), ([], []), ([], []), ([], []), ([2, 3], [2, 3]), ([4], [4]), ([], []), ([1, 5, 6], [1, 5, 6]), ([7], [7]), ([0, 8, 7], [0, 8]), ([9, 9, 0, 1, 2, 3, 4, 5, 6, 7, 8, 9], [0, 9])])
def saronref05_confused.B6 : List Nat := [0, 0, 0, 0, 12, 28, 0, 126, 254, 511, 1023]
theorem saronref05_confused.tab6 : rtab .any (opsOf Tryd.f87 6) = saronref05_confused.T6 := by kernel_rfl
theorem saronref05_confused.bits6 : waitsOk saronref05_confused.T6.2 saronref05_confused.B6 = true := by kernel_rfl
def saronref05_confused.T13 : Bool × List (List Nat × List Nat) := (true, [([], []), ([], []), ([0, 1], [0, 1]), ([2], [2]), ([], []), ([], []), ([4, 5], [4, 5]), ([6], [6]), ([3, 7], [3, 7]), ([8], [8]), ([], []), ([9, 10], [9, 10]), ([11, 8], [11]), ([12], [12]), ([12], [12]), ([13, 14, 12], [12, 13, 14]), ([15, 12], [12, 15]), ([12], [12]), ([12], [12]), ([17, 18, 12], [12, 17, 18]), ([19, 12], [12, 19]), ([16, 20, 12, 12], [12, 16, 20]), ([21, 12], [12, 21]), ([12], [12]), ([22, 23, 12], [12, 22, 23]), ([12, 24], [12, 24])])
def saronref05_confused.B13 : List Nat := [0, 0, 3, 7, 0, 0, 48, 112, 255, 511, 0, 2047, 4095, 8191, 8191, 32767, 65535, 8191, 8191, 401407, 925695, 2097151, 4194303, 8191, 16777215, 33554431]
theorem saronref05_confused.tab13 : rtab .any (opsOf Tryd.f87 13) = saronref05_confused.T13 := by kernel_rfl
theorem saronref05_confused.bits13 : waitsOk saronref05_confused.T13.2 saronref05_confused.B13 = true := by kernel_rfl
def saronref05_confused.T14 : Bool × List (List Nat × List Nat) := (true, [([], []), ([], []), ([0, 1], [0, 1]), ([2], [2]), ([], []), ([], []), ([4, 5], [4, 5]), ([6], [6]), ([3, 0, 1, 2, 3], [3]), ([7, 8, 0, 1, 2, 3, 4, 5, 6, 7, 8], [7]), ([9, 0, 1, 2, 3, 4, 5, 6, 7, 8, 9], [])])
def saronref05_confused.B14 : List Nat := [0, 0, 3, 7, 0, 0, 48, 112, 15, 511, 1023]
theorem saronref05_confused.tab14 : rtab .any (opsOf Tryd.f87 14) = saronref05_confused.T14 := by kernel_rfl
theorem saronref05_confused.bits14 : waitsOk saronref05_confused.T14.2 saronref05_confused.B14 = true := by kernel_rfl
set_option maxHeartbeats 40000000 in
set_option maxRecDepth 100000 in
theorem saronref05_confused.calls (k : Nat) (a0_0 : Int) (A0_1 : Option Addr) (c0_1 : Nat) (l0_1 : List (S63)) (a1 : Int) (a2 : Int) (r1 : Int) (r2 : Int) (r3 : Int) (r4 : Int) (r5 : Bool) (w : World) (hr0_1 : Kd.C k63 w A0_1 l0_1.length l0_1) (hc0_1 : l0_1.length ≤ c0_1) (h : saronref05_confused.f k a0_0 l0_1 a1 a2 = some (r1, r2, r3, r4, r5)) :
  Calls Tryd.prog 87 #[.agg #[.int .i64 a0_0, .slice A0_1 l0_1.length c0_1], .int .i64 a1, .int .i64 a2] w fun e w' => e = .returned (.tuple #[.agg #[.int .i64 r1, .int .i64 r2], .agg #[.int .i64 r3, .int .i64 r4], .bool r5]) ∧ Below w.heap.size w w' := by
 have hu24 := Tryd.underlying24
 have hu38 := Tryd.underlying38
 have HR0_1 := Aside0.mk hr0_1
 have HC0_1 := Aside0.mk hc0_1
 clear hr0_1 hc0_1
 have HB := Aside0.mk (Below.refl w.heap.size w)
 have H : ((saronref05_spots.f k a0_0 l0_1).bind fun t134 => (saronref05_confused.l0 k a1 a2 t134 ([] : List (List (List Int))) 0 a0_0 l0_1)) = some (r1, r2, r3, r4, r5) := h
 clear h
 replace H := Option.bind_eq_some_iff.mp H
 obtain ⟨t134, A40, H⟩ := H
 replace H : (saronref05_confused.l0 k a1 a2 t134 ([] : List (List (List Int))) 0 a0_0 l0_1) = some (r1, r2, r3, r4, r5) := H
 have A4 := Aside0.mk A40
 clear A40
 have H' := Aside0.mk H
 clear H
 go_enter Tryd.func87, Tryd.ntmps87
 go_wp2_with (first | ((with_reducible refine gate_dst (N := 3) rfl ?_); (try (refine gate_guard (by rfl) ?_; dsimp only)); refine box_event ?hg (N := 3) ?hd (cs := #[.int .i64 a0_0, .slice A0_1 l0_1.length c0_1]) (t := 24) ?hr ?_; (case hd => rfl); (case hg => rfl); (case hr => exact TS); intro gb131 hg w5 hbox hb; have BK131 := Aside0.mk (hbox); have GW131 := Aside0.mk ((TG : w.heap.size ≤ gb131)); have GE131 := Aside0.mk ((TG : w.heap.size ≤ gb131)); replace HB := Aside0.mk (below_step TB hb); clear hb hbox hg) | ((with_reducible refine gate_dst (N := 6) rfl ?_); (try (refine gate_guard (by rfl) ?_; dsimp only)); refine box_event ?hg (N := 6) ?hd (cs := #[.int .i64 0, .int .i64 0]) (t := 38) ?hr ?_; (case hd => rfl); (case hg => rfl); (case hr => exact TS); intro gb132 hg w6 hbox hb; have BK132 := Aside0.mk (hbox); have GW132 := Aside0.mk ((TG1 GE131.out : w.heap.size ≤ gb132)); have GE132 := Aside0.mk ((TG1 GE131.out : w.heap.size ≤ gb132)); have NB131_132 := Aside0.mk ((by rw [hg]; exact Nat.ne_of_lt (blk_lt (g := gb131) (o := .cells #[.int .i64 a0_0, .slice A0_1 l0_1.length c0_1] 24 (0, 0)) (TK BK131.out)) : gb131 ≠ gb132)); have NB132_131 := Aside0.mk ((by rw [hg]; exact Nat.ne_of_gt (blk_lt (g := gb131) (o := .cells #[.int .i64 a0_0, .slice A0_1 l0_1.length c0_1] 24 (0, 0)) (TK BK131.out)) : gb132 ≠ gb131)); replace BK131 := Aside0.mk (TKb hb BK131.out); replace HB := Aside0.mk (below_step (TB1 GE131.out) hb); clear hb hbox hg) | ((with_reducible refine gate_dst (N := 7) rfl ?_); (try (refine gate_guard (by rfl) ?_; dsimp only)); refine box_event ?hg (N := 7) ?hd (cs := #[.int .i64 0, .int .i64 0]) (t := 38) ?hr ?_; (case hd => rfl); (case hg => rfl); (case hr => exact TS); intro gb133 hg w7 hbox hb; have BK133 := Aside0.mk (hbox); have GW133 := Aside0.mk ((TG2 GE131.out GE132.out : w.heap.size ≤ gb133)); have GE133 := Aside0.mk ((TG2 GE131.out GE132.out : w.heap.size ≤ gb133)); have NB131_133 := Aside0.mk ((by rw [hg]; exact Nat.ne_of_lt (blk_lt (g := gb131) (o := .cells #[.int .i64 a0_0, .slice A0_1 l0_1.length c0_1] 24 (0, 0)) (TK BK131.out)) : gb131 ≠ gb133)); have NB133_131 := Aside0.mk ((by rw [hg]; exact Nat.ne_of_gt (blk_lt (g := gb131) (o := .cells #[.int .i64 a0_0, .slice A0_1 l0_1.length c0_1] 24 (0, 0)) (TK BK131.out)) : gb133 ≠ gb131)); have NB132_133 := Aside0.mk ((by rw [hg]; exact Nat.ne_of_lt (blk_lt (g := gb132) (o := .cells #[.int .i64 0, .int .i64 0] 38 (0, 0)) (TK BK132.out)) : gb132 ≠ gb133)); have NB133_132 := Aside0.mk ((by rw [hg]; exact Nat.ne_of_gt (blk_lt (g := gb132) (o := .cells #[.int .i64 0, .int .i64 0] 38 (0, 0)) (TK BK132.out)) : gb133 ≠ gb132)); replace BK131 := Aside0.mk (TKb hb BK131.out); replace BK132 := Aside0.mk (TKb hb BK132.out); replace HB := Aside0.mk (below_step (TB2 GE131.out GE132.out) hb); clear hb hbox hg; have hnb8 := NB131_132.out; have hnc8 := NB132_131.out; have hnb9 := NB131_133.out; have hnc9 := NB133_131.out; have hcz10_0 := cz BK131.out 0; have hcz10_1 := cz BK131.out 1; have hfz10_0 := fz BK131.out 0; have hfz10_1 := fz BK131.out 1) | ((with_reducible refine gate_callee (f := 79) rfl ?_); refine goesL_ (some 15) rfl rfl Tryd.func79 (by kernel_rfl) rfl #[.agg #[.int .i64 a0_0, .slice A0_1 l0_1.length c0_1]] rfl TM ?_; (with_reducible refine (saronref05_spots.calls k a0_0 _ _ l0_1 t134 _ ?side1 ?side2 A4.out).mono ?_); (case side1 => exact TC HR0_1.out); (case side2 => exact HC0_1.out); rintro e w11 ⟨v135, rfl, ho0, hb⟩; refine ⟨_, rfl, ?_⟩; have HO136 := Aside0.mk (Kd.R_lower (Kd.R_newB (Kd.R_newB ho0 (g := gb132) (o := .cells #[.int .i64 0, .int .i64 0] 38 (0, 0)) (TK BK132.out)) (g := gb133) (o := .cells #[.int .i64 0, .int .i64 0] 38 (0, 0)) (TK BK133.out)) (below_size (TB3 GE131.out GE132.out GE133.out))); replace BK131 := Aside0.mk (TKb hb BK131.out); replace BK132 := Aside0.mk (TKb hb BK132.out); replace BK133 := Aside0.mk (TKb hb BK133.out); replace HB := Aside0.mk (below_step (TB3 GE131.out GE132.out GE133.out) hb); (try clear hb); (try clear hb2); (try clear hk); (try clear hi); (try clear ho0)))
 go_loopg [10, 11] k (fun kq v10 v11 w' => ∃ (x10_1 : List (List (List Int))) (x11_1 : Int), v11 = .int .i64 x11_1 ∧ Aside0 (saronref05_confused.l0 kq a1 a2 t134 x10_1 x11_1 a0_0 l0_1 = some (r1, r2, r3, r4, r5)) ∧ Aside0 (kq ≤ k) ∧ Aside0 (Kd.R k38 38 w' w.heap.size (fun k_ => k_ ≠ gb132 ∧ k_ ≠ gb133) v135 t134) ∧ Aside0 (Kd.R (Kd.slice 26 (Kd.slice 3 (Kd.int .i64))) 39 w' w.heap.size (fun _ => True) v10 x10_1) ∧ Aside0 (w'.heap[gb131]? = some (.cells #[.int .i64 a0_0, (.slice A0_1 l0_1.length c0_1)] 24 (0, 0))) ∧ Aside0 (w'.heap[gb132]? = some (.cells #[.int .i64 0, .int .i64 0] 38 (0, 0))) ∧ Aside0 (w'.heap[gb133]? = some (.cells #[.int .i64 0, .int .i64 0] 38 (0, 0))) ∧ Aside0 (Below w.heap.size w w'))
 case atStart => exact ⟨(([] : List (List (List Int)))), (0), TT, H', ⟨Nat.le_refl _⟩, ⟨by (with_reducible repeat (first | apply Kd.R_alloc | apply Kd.R_drewN | apply Kd.R_drew)); exact Kd.R_mono HO136.out (fun _ hk => ⟨hk.1.2, hk.2⟩)⟩, ⟨by first | exact Kd.R_nil _ _ _ _ _ | exact Kd.N_nil _ _ _ _ _ | exact Kd.V_nil _ _ _ _ _ | exact Kd.Q_nil _ _ _ _ _ | exact Kd.S_nil _ _ _ _ _⟩, ⟨TK BK131.out⟩, ⟨TK BK132.out⟩, ⟨TK BK133.out⟩, ⟨TB3 GE131.out GE132.out GE133.out⟩⟩
 case round => as_aux_lemma =>
  clear H'
  try clear p2
  try clear c7
  try clear c8
  try clear c9
  try clear hcz10_0 hcz10_1 hfz10_0 hfz10_1
  obtain ⟨x10_1, x11_1, rfl, HA, HK1, HO_9, HO_10, BK131, BK132, BK133, HB⟩ := hrel
  cases gk with
  | zero => exact absurd HA.out (by simp [saronref05_confused.l0])
  | succ k1 =>
   have H := HA.out
   clear HA
   simp only [saronref05_confused.l0] at H
   by_cases c12 : x11_1 < (t134.length : Int)
   ·rw [if_pos c12] at H
    have c12b0 : decide (x11_1 < (t134.length : Int)) = true := decide_eq_true c12
    clear c12
    by_cases c13 : 0 ≤ x11_1
    ·rw [if_pos c13] at H
     have c13b0 : decide (0 ≤ x11_1) = true := decide_eq_true c13
     clear c13
     replace H := Option.bind_eq_some_iff.mp H
     obtain ⟨t138, A140, H⟩ := H
     replace H : (if x10_1.length < 5864062014805 then (saronref05_confused.l0 k1 a1 a2 t134 (x10_1 ++ [t138]) (wrap64 (x11_1 + 1)) a0_0 l0_1) else (none)) = some (r1, r2, r3, r4, r5) := H
     have A14 := Aside0.mk A140
     clear A140
     by_cases c15 : x10_1.length < 5864062014805
     ·rw [if_pos c15] at H
      have LMc15 := Aside0.mk c15
      clear c15
      obtain ⟨y141, hy141⟩ : ∃ y_ : List (List (List Int)), y_ = (x10_1 ++ [t138]) := ⟨_, rfl⟩
      replace H : (saronref05_confused.l0 k1 a1 a2 t134 y141 (wrap64 (x11_1 + 1)) a0_0 l0_1) = some (r1, r2, r3, r4, r5) := by first | (rw [hy141]; with_reducible exact H) | (have H2_ := (Option.bind_some _ _).symm.trans H; rw [hy141]; with_reducible exact H2_) | (have H2_ := (Option.bind_some _ _).symm.trans H; with_reducible exact H2_) | with_reducible exact H | (rw [hy141]; exact H) | exact H
      have Ny141 := Aside0.mk hy141
      clear hy141
      have H' := Aside0.mk H
      clear H
      obtain ⟨Ao16, co16, eo16⟩ := Kd.R_slice HO_9.out
      subst eo16
      try go_wp2
      have n0_ := Aside0.mk (Kd.R_drew HO_9.out)
      have n1_ := Aside0.mk (Kd.R_drew HO_10.out)
      have n2_ := Aside0.mk (blk_drew BK131.out)
      have n3_ := Aside0.mk (blk_drew BK132.out)
      have n4_ := Aside0.mk (blk_drew BK133.out)
      have n5_ := Aside0.mk (below_drew1 HB.out)
      clear HO_9
      clear HO_10
      clear BK131
      clear BK132
      clear BK133
      clear HB
      have HO_9 := n0_
      have HO_10 := n1_
      have BK131 := n2_
      have BK132 := n3_
      have BK133 := n4_
      have HB := n5_
      clear n0_ n1_ n2_ n3_ n4_ n5_
      have p137 : 0 ≤ (x11_1 : Int) := of_decide_eq_true TA
      have q137 : x11_1 < (t134.length : Int) := of_decide_eq_true TA
      obtain ⟨ad137, e137, hx137_0, hx137_1⟩ := at_T38 (Kd.R_reads' HO_9.out).2.2 x11_1 p137 q137
      cases e137
      replace p137 := eq_true p137
      replace q137 := eq_true q137
      refine start_ (n := 11) (S := fun w' => w'.cell? ⟨gb131, 0, none⟩ = some (.int .i64 a0_0) ∧ w'.cell? ⟨gb131, 1, none⟩ = some (.slice A0_1 l0_1.length c0_1) ∧ w'.cell? (ad137.add ((x11_1).toNat * 2)) = some (.int .i64 ((rd_T38 t134 x11_1).f0)) ∧ w'.cell? ⟨(ad137.add ((x11_1).toNat * 2)).block, (ad137.add ((x11_1).toNat * 2)).off + 1, none⟩ = some (.int .i64 ((rd_T38 t134 x11_1).f1))) (ds := [8, 9]) (.replicate 11 false) (by kernel_rfl) rfl rfl ⟨cz BK131.out 0, cz BK131.out 1, hx137_0, hx137_1⟩ (fun hHeld => ?_); refine with_tabW saronref05_confused.tab6 saronref05_confused.bits6 (fun HT_ HW_ => ?_)
      generalize wr.drew = w17 at HO_9 HO_10 BK131 BK132 BK133 HB hx137_0 hx137_1 hHeld ⊢
      refine pT 0 22 (bt 11 1) (k := ?_)
      refine pT 2 24 (bt 11 5) (k := ?_)
      refine pT 3 25 (bt 11 13) (k := ?_)
      refine pT 4 26 (bt 11 29) (k := ?_)
      refine pT 6 28 (bt 11 93) (k := ?_)
      refine tT4 1 23 (bt 11 95) hHeld (k := ?_)
      refine tT4 5 27 (bt 11 127) hHeld (k := ?_)
      refine one_ (i := 7) (N := some 29) (bt 11 255) rfl rfl (one_of HT_.out (by kernel_rfl)) (by decide) (fun K hK => ?_)
      refine goes_ Tryd.func73 (by kernel_rfl) rfl #[.agg #[.int .i64 a0_0, .slice A0_1 l0_1.length c0_1], .agg #[.int .i64 ((rd_T38 t134 x11_1).f0), .int .i64 ((rd_T38 t134 x11_1).f1)], .int .i64 a2] (by rfl) rfl rfl TM ?_
      with_reducible refine (saronref05_passage.calls k1 a0_0 _ _ l0_1 ((rd_T38 t134 x11_1).f0) ((rd_T38 t134 x11_1).f1) a2 t138 _ ?side1 ?side2 A14.out).mono ?_
      (case side1 => exact TC HR0_1.out)
      (case side2 => exact HC0_1.out)
      rintro e w18 ⟨v139, rfl, ho0, hb⟩
      have HS2_ := (hb.cell (World.block_lt_of_cell? _ _ (hHeld.2.2.1))).trans (hHeld.2.2.1)
      have HS3_ := (hb.cell (World.block_lt_of_cell? _ _ (hHeld.2.2.2))).trans (hHeld.2.2.2)
      refine ⟨_, rfl, ?_⟩
      have n0_ := Aside0.mk (Kd.R_below (TRo HO_9.out) hb)
      have n1_ := Aside0.mk (Kd.R_elder' (TRo HO_10.out) (Kd.S_base ho0) hb)
      have n2_ := Aside0.mk (Kd.S_lower ho0 (below_size (TB3 GE131.out GE132.out GE133.out)))
      have n3_ := Aside0.mk (TKb hb BK131.out)
      have n4_ := Aside0.mk (TKb hb BK132.out)
      have n5_ := Aside0.mk (TKb hb BK133.out)
      have n6_ := Aside0.mk (below_step (TB3 GE131.out GE132.out GE133.out) hb)
      clear HO_9
      clear HO_10
      clear BK131
      clear BK132
      clear BK133
      clear HB
      have HO_9 := n0_
      have HO_10 := n1_
      have HO140 := n2_
      have BK131 := n3_
      have BK132 := n4_
      have BK133 := n5_
      have HB := n6_
      clear n0_ n1_ n2_ n3_ n4_ n5_ n6_
      (try clear hb)
      (try clear hb2)
      (try clear hk)
      (try clear hi)
      (try clear ho0)
      obtain ⟨Ao20, co20, eo20⟩ := Kd.S_slice HO140.out
      (first | subst eo20 | (injection eo20 with f1_ f2_ f3_; have f4_ := f1_.symm; have f5_ := f3_.symm; clear f1_ f2_ f3_; subst f4_; subst f5_))
      refine hK.out _ _ ⟨cz BK131.out 0, cz BK131.out 1, HS2_, HS3_⟩ (fun hHeld => ?_)
      clear hK K
      refine norm_ (a' := ?_) ?_ ?_
      rotate_left
      ·show Act.put _ (some 29) _ = _
       simp only [Act.put, lA, lZ, lS, i64_w, i32_w]
       rfl
      refine last_ (i := 8) (N := some 30) (bt 11 511) rfl rfl (one_of HT_.out (by kernel_rfl)) (by decide) (fun K hK => ?_)
      refine value_ (w1 := ?_) (v := ?_) (by rfl) rfl ?_ ?_
      rotate_left 2
      ·go_simp
       constructor
       ·rfl
       ·rfl
      refine hK.out _ _ ?_
      clear hK K
      refine norm_ (a' := ?_) ?_ ?_
      rotate_left
      ·show Act.put _ (some 30) _ = _
       simp only [Act.put, lA, lZ, lS, i64_w, i32_w]
       rfl
      refine last_ (i := 9) (N := some 31) (bt 11 1023) rfl rfl (one_of HT_.out (by kernel_rfl)) (by decide) (fun K hK => ?_)
      refine Kd.R_append_step (Kd.slice 26 (Kd.slice 3 (Kd.int .i64))) (w0 := w) w.heap.size (by rfl) (.tmp 22) (.tmp 30) 130 39 (.slice none 0 0) 24 rfl Tryd.underlying130 info39 rfl (by decide) (by omega) u10 x10_1 t138 [.slice Ao20 t138.length co20] (fun _ => True) (fun k_ => ((fun _ => True)) k_ ∧ some k_ ≠ (u10 : Value).ownBlock) rfl rfl ?aP (fun _ hk => hk) ?aF ?aO ?aB ?aS ?aL ?_
      (case aP => exact Kd.M_row (Kd.R_mono (Kd.R_apart' ((Kd.S_R HO140.out)) (Kd.R_typed HO_10.out) (by decide)) (fun k_ hk => ⟨trivial, hk.2⟩)))
      (case aB => exact (TB3 GE131.out GE132.out GE133.out))
      (case aF => exact (fun _ _ => trivial))
      (case aO => exact (by (with_reducible repeat (first | apply Kd.R_alloc | apply Kd.R_drewN | apply Kd.R_drew)); exact Kd.R_mono HO_10.out (fun _ hk => trivial)))
      (case aS => exact (below_size (TB3 GE131.out GE132.out GE133.out)))
      (case aL => have := LMc15.out; omega)
      intro v142 w19 ho hb hg hat
      rw [← Ny141.out] at ho
      have n0_ := Aside0.mk (Kd.R_over' (TRo HO_9.out) (Kd.R_typed (TRo HO_10.out)) (by decide) hg)
      have n1_ := Aside0.mk (blk_grown (g := gb131) (o := .cells #[.int .i64 a0_0, .slice A0_1 l0_1.length c0_1] 24 (0, 0)) (TK BK131.out) hg (Kd.R_ne HO_10.out BK131.out (by decide)))
      have n2_ := Aside0.mk (blk_grown (g := gb132) (o := .cells #[.int .i64 0, .int .i64 0] 38 (0, 0)) (TK BK132.out) hg (Kd.R_ne HO_10.out BK132.out (by decide)))
      have n3_ := Aside0.mk (blk_grown (g := gb133) (o := .cells #[.int .i64 0, .int .i64 0] 38 (0, 0)) (TK BK133.out) hg (Kd.R_ne HO_10.out BK133.out (by decide)))
      have n4_ := Aside0.mk (hb)
      have n5_ := Aside0.mk (ho)
      clear HO_9
      clear BK131
      clear BK132
      clear BK133
      clear HB
      clear HO_10
      clear HO140
      have HO_9 := n0_
      have BK131 := n1_
      have BK132 := n2_
      have BK133 := n3_
      have HB := n4_
      have HO143 := n5_
      clear n0_ n1_ n2_ n3_ n4_ n5_
      clear ho hb hg hat
      refine hK.out _ _ ?_
      clear hK K
      refine norm_ (a' := ?_) ?_ ?_
      rotate_left
      ·show Act.put _ (some 31) _ = _
       simp only [Act.put, lA, lZ, lS, i64_w, i32_w]
       rfl
      refine pT 10 10 (bt 11 2047) (k := ?_)
      refine done_ (done_of HT_.out (by kernel_rfl)) ?_
      try go_wp2
      go_roundg k1
      case measure => have := HK1.out; omega
      case rel => exact ⟨(y141), (wrap64 (x11_1 + 1)), TT, H', ⟨by have := HK1.out; omega⟩, ⟨by (with_reducible repeat (first | apply Kd.R_alloc | apply Kd.R_drewN | apply Kd.R_drew)); exact HO_9.out⟩, ⟨by (with_reducible repeat (first | apply Kd.R_alloc | apply Kd.R_drewN | apply Kd.R_drew)); exact HO143.out⟩, ⟨TK BK131.out⟩, ⟨TK BK132.out⟩, ⟨TK BK133.out⟩, ⟨TB3 GE131.out GE132.out GE133.out⟩⟩
     ·rw [if_neg c15] at H
      exact absurd H (by simp)
    ·rw [if_neg c13] at H
     exact absurd H (by simp)
   ·rw [if_neg c12] at H
    have c12b0 : decide (x11_1 < (t134.length : Int)) = false := decide_eq_false c12
    clear c12
    have H' := Aside0.mk H
    clear H
    obtain ⟨Ao21, co21, eo21⟩ := Kd.R_slice HO_9.out
    subst eo21
    go_wp2
    go_loopg [12] k1 (fun kq v12 w' => ∃ (x12_2 : Int) (x133000_2 : Int) (x133001_2 : Int) (x134000_2 : Int) (x134001_2 : Int), v12 = .int .i64 x12_2 ∧ Aside0 (saronref05_confused.l1 kq a1 t134 x10_1 x12_2 = some (r1, r2, r3, r4, r5)) ∧ Aside0 (kq ≤ k1) ∧ Aside0 (Kd.R k38 38 w' w.heap.size (fun k_ => k_ ≠ gb132 ∧ k_ ≠ gb133) (.slice Ao21 t134.length co21) t134) ∧ Aside0 (Kd.R (Kd.slice 26 (Kd.slice 3 (Kd.int .i64))) 39 w' w.heap.size (fun _ => True) u10 x10_1) ∧ Aside0 (w'.heap[gb131]? = some (.cells #[.int .i64 a0_0, (.slice A0_1 l0_1.length c0_1)] 24 (0, 0))) ∧ Aside0 (w'.heap[gb132]? = some (.cells #[.int .i64 x133000_2, .int .i64 x133001_2] 38 (0, 0))) ∧ Aside0 (w'.heap[gb133]? = some (.cells #[.int .i64 x134000_2, .int .i64 x134001_2] 38 (0, 0))) ∧ Aside0 (Below w.heap.size w w'))
    case atStart => exact ⟨(0), (0), (0), (0), (0), TT, H', ⟨Nat.le_refl _⟩, ⟨by (with_reducible repeat (first | apply Kd.R_alloc | apply Kd.R_drewN | apply Kd.R_drew)); exact HO_9.out⟩, ⟨by (with_reducible repeat (first | apply Kd.R_alloc | apply Kd.R_drewN | apply Kd.R_drew)); exact HO_10.out⟩, ⟨TK BK131.out⟩, ⟨TK BK132.out⟩, ⟨TK BK133.out⟩, ⟨TB3 GE131.out GE132.out GE133.out⟩⟩
    case round => as_aux_lemma =>
     clear H'
     try clear c1
     try clear p1
     try clear q1
     try clear hx1
     try clear p2
     try clear p6
     try clear c7
     try clear c8
     try clear c9
     try clear c12
     try clear c12b0
     try clear c13
     try clear c13b0
     try clear p13
     try clear q13
     try clear hx13
     try clear c15
     try clear hcz10_0 hcz10_1 hfz10_0 hfz10_1
     try clear hx137_0
     try clear hx137_1
     try clear p137
     try clear p2
     try clear q137
     obtain ⟨x12_2, x133000_2, x133001_2, x134000_2, x134001_2, rfl, HA, HK2, HO_9, HO_10, BK131, BK132, BK133, HB⟩ := hrel
     cases gk with
     | zero => exact absurd HA.out (by simp [saronref05_confused.l1])
     | succ k2 =>
      have H := HA.out
      clear HA
      simp only [saronref05_confused.l1] at H
      by_cases c22 : x12_2 < (t134.length : Int)
      ·rw [if_pos c22] at H
       have c22b0 : decide (x12_2 < (t134.length : Int)) = true := decide_eq_true c22
       clear c22
       have H' := Aside0.mk H
       clear H
       go_wp2
       go_loopg [13] k2 (fun kq v13 w' => ∃ (x13_3 : Int) (x133000_3 : Int) (x133001_3 : Int) (x134000_3 : Int) (x134001_3 : Int), v13 = .int .i64 x13_3 ∧ Aside0 (saronref05_confused.l2 kq a1 t134 x10_1 x12_2 x13_3 = some (r1, r2, r3, r4, r5)) ∧ Aside0 (kq ≤ k2) ∧ Aside0 (Kd.R k38 38 w' w.heap.size (fun k_ => k_ ≠ gb132 ∧ k_ ≠ gb133) (.slice Ao21 t134.length co21) t134) ∧ Aside0 (Kd.R (Kd.slice 26 (Kd.slice 3 (Kd.int .i64))) 39 w' w.heap.size (fun _ => True) u10 x10_1) ∧ Aside0 (w'.heap[gb131]? = some (.cells #[.int .i64 a0_0, (.slice A0_1 l0_1.length c0_1)] 24 (0, 0))) ∧ Aside0 (w'.heap[gb132]? = some (.cells #[.int .i64 x133000_3, .int .i64 x133001_3] 38 (0, 0))) ∧ Aside0 (w'.heap[gb133]? = some (.cells #[.int .i64 x134000_3, .int .i64 x134001_3] 38 (0, 0))) ∧ Aside0 (Below w.heap.size w w'))
       case atStart => exact ⟨(wrap64 (x12_2 + 1)), (x133000_2), (x133001_2), (x134000_2), (x134001_2), TT, H', ⟨Nat.le_refl _⟩, ⟨by (with_reducible repeat (first | apply Kd.R_alloc | apply Kd.R_drewN | apply Kd.R_drew)); exact HO_9.out⟩, ⟨by (with_reducible repeat (first | apply Kd.R_alloc | apply Kd.R_drewN | apply Kd.R_drew)); exact HO_10.out⟩, ⟨TK BK131.out⟩, ⟨TK BK132.out⟩, ⟨TK BK133.out⟩, ⟨TB3 GE131.out GE132.out GE133.out⟩⟩
       case round => as_aux_lemma =>
        clear H'
        try clear c1
        try clear p1
        try clear q1
        try clear hx1
        try clear c2
        try clear p2
        try clear p6
        try clear c7
        try clear c8
        try clear c9
        try clear c12
        try clear c12b0
        try clear c13
        try clear c13b0
        try clear p13
        try clear q13
        try clear hx13
        try clear c15
        try clear c22
        try clear c22b0
        try clear hcz10_0 hcz10_1 hfz10_0 hfz10_1
        try clear hx137_0
        try clear hx137_1
        try clear p1
        try clear p13
        try clear p137
        try clear p2
        try clear p6
        try clear q1
        try clear q13
        try clear q137
        obtain ⟨x13_3, x133000_3, x133001_3, x134000_3, x134001_3, rfl, HA, HK3, HO_9, HO_10, BK131, BK132, BK133, HB⟩ := hrel
        cases gk with
        | zero => exact absurd HA.out (by simp [saronref05_confused.l2])
        | succ k3 =>
         have H := HA.out
         clear HA
         simp only [saronref05_confused.l2] at H
         by_cases c23 : x13_3 < (t134.length : Int)
         ·rw [if_pos c23] at H
          have c23b0 : decide (x13_3 < (t134.length : Int)) = true := decide_eq_true c23
          clear c23
          by_cases c24 : 0 ≤ x12_2
          ·rw [if_pos c24] at H
           have c24b0 : decide (0 ≤ x12_2) = true := decide_eq_true c24
           clear c24
           by_cases c25 : x12_2 < (x10_1.length : Int)
           ·rw [if_pos c25] at H
            have c25b0 : decide (x12_2 < (x10_1.length : Int)) = true := decide_eq_true c25
            clear c25
            by_cases c26 : 0 ≤ x13_3
            ·rw [if_pos c26] at H
             have c26b0 : decide (0 ≤ x13_3) = true := decide_eq_true c26
             clear c26
             by_cases c27 : x13_3 < (x10_1.length : Int)
             ·rw [if_pos c27] at H
              have c27b0 : decide (x13_3 < (x10_1.length : Int)) = true := decide_eq_true c27
              clear c27
              replace H := Option.bind_eq_some_iff.mp H
              obtain ⟨t146, A280, H⟩ := H
              replace H : (if (t146.length : Int) ≤ a1 then ((saronref05_less.f k3 (rd_L2 x10_1 x13_3) (rd_L2 x10_1 x12_2)).bind fun t151 => (if (t151.length : Int) ≤ a1 then (if x12_2 < (t134.length : Int) then (some ((rd_T38 t134 x12_2).f0, (rd_T38 t134 x12_2).f1, (rd_T38 t134 x13_3).f0, (rd_T38 t134 x13_3).f1, true)) else (none)) else (saronref05_confused.l2 k3 a1 t134 x10_1 x12_2 (wrap64 (x13_3 + 1))))) else (saronref05_confused.l2 k3 a1 t134 x10_1 x12_2 (wrap64 (x13_3 + 1)))) = some (r1, r2, r3, r4, r5) := H
              have A28 := Aside0.mk A280
              clear A280
              by_cases c29 : (t146.length : Int) ≤ a1
              ·rw [if_pos c29] at H
               have c29b0 : decide ((t146.length : Int) ≤ a1) = true := decide_eq_true c29
               clear c29
               replace H := Option.bind_eq_some_iff.mp H
               obtain ⟨t151, A300, H⟩ := H
               replace H : (if (t151.length : Int) ≤ a1 then (if x12_2 < (t134.length : Int) then (some ((rd_T38 t134 x12_2).f0, (rd_T38 t134 x12_2).f1, (rd_T38 t134 x13_3).f0, (rd_T38 t134 x13_3).f1, true)) else (none)) else (saronref05_confused.l2 k3 a1 t134 x10_1 x12_2 (wrap64 (x13_3 + 1)))) = some (r1, r2, r3, r4, r5) := H
               have A30 := Aside0.mk A300
               clear A300
               by_cases c31 : (t151.length : Int) ≤ a1
               ·rw [if_pos c31] at H
                have c31b0 : decide ((t151.length : Int) ≤ a1) = true := decide_eq_true c31
                clear c31
                by_cases c32 : x12_2 < (t134.length : Int)
                ·rw [if_pos c32] at H
                 have c32b0 : decide (x12_2 < (t134.length : Int)) = true := decide_eq_true c32
                 clear c32
                 simp only [Option.some.injEq, Prod.mk.injEq] at H
                 obtain ⟨rfl, rfl, rfl, rfl, rfl⟩ := H
                 try go_wp2
                 have n0_ := Aside0.mk (Kd.R_drew HO_9.out)
                 have n1_ := Aside0.mk (Kd.R_drew HO_10.out)
                 have n2_ := Aside0.mk (blk_drew BK131.out)
                 have n3_ := Aside0.mk (blk_drew BK132.out)
                 have n4_ := Aside0.mk (blk_drew BK133.out)
                 have n5_ := Aside0.mk (below_drew1 HB.out)
                 clear HO_9
                 clear HO_10
                 clear BK131
                 clear BK132
                 clear BK133
                 clear HB
                 have HO_9 := n0_
                 have HO_10 := n1_
                 have BK131 := n2_
                 have BK132 := n3_
                 have BK133 := n4_
                 have HB := n5_
                 clear n0_ n1_ n2_ n3_ n4_ n5_
                 obtain ⟨Ao34, co34, eo34⟩ := Kd.R_slice HO_10.out
                 (first | subst eo34 | (injection eo34 with f1_ f2_ f3_; have f4_ := f1_.symm; have f5_ := f3_.symm; clear f1_ f2_ f3_; subst f4_; subst f5_))
                 have p144 : 0 ≤ (x12_2 : Int) := of_decide_eq_true TA
                 have q144 : x12_2 < (x10_1.length : Int) := of_decide_eq_true TA
                 obtain ⟨ad144, A144_0, c144_0, e144, hx144_0, hl144_0, hi144_0⟩ := at_L2 (Kd.R_reads' HO_10.out).2.2 x12_2 p144 q144
                 cases e144
                 obtain ⟨ce144, hce144, hMe144, hcc144⟩ := Kd.R_get HO_10.out [] x12_2 p144 (by first | exact q144 | exact of_decide_eq_true TA | (have e_ := (Kd.R_reads' HO_10.out).1; omega))
                 obtain ⟨ve144_0, rfl, ge144_0⟩ := hMe144
                 have hv144_0 := hcc144 0 _ rfl
                 rw [Nat.add_zero, show ((Kd.slice 26 (Kd.slice 3 (Kd.int .i64)))).sz = 1 from rfl, Nat.mul_one] at hv144_0
                 replace hv144_0 := Option.some.inj (hv144_0.symm.trans hx144_0)
                 rw [hv144_0] at ge144_0
                 have HL144_0 := Aside0.mk (show Kd.R (Kd.slice 3 (Kd.int .i64)) 26 _ _ _ _ (rd_L2 x10_1 x12_2) from ge144_0)
                 clear hv144_0 ge144_0
                 clear hcc144 hce144
                 have HR144_0 := Aside0.mk hi144_0
                 have HC144_0 := Aside0.mk hl144_0
                 clear hi144_0 hl144_0
                 replace p144 := eq_true p144
                 replace q144 := eq_true q144
                 have p145 : 0 ≤ (x13_3 : Int) := of_decide_eq_true TA
                 have q145 : x13_3 < (x10_1.length : Int) := of_decide_eq_true TA
                 obtain ⟨ad145, A145_0, c145_0, e145, hx145_0, hl145_0, hi145_0⟩ := at_L2 (Kd.R_reads' HO_10.out).2.2 x13_3 p145 q145
                 obtain rfl : ad144 = ad145 := (by injection e145)
                 obtain ⟨ce145, hce145, hMe145, hcc145⟩ := Kd.R_get HO_10.out [] x13_3 p145 (by first | exact q145 | exact of_decide_eq_true TA | (have e_ := (Kd.R_reads' HO_10.out).1; omega))
                 obtain ⟨ve145_0, rfl, ge145_0⟩ := hMe145
                 have hv145_0 := hcc145 0 _ rfl
                 rw [Nat.add_zero, show ((Kd.slice 26 (Kd.slice 3 (Kd.int .i64)))).sz = 1 from rfl, Nat.mul_one] at hv145_0
                 replace hv145_0 := Option.some.inj (hv145_0.symm.trans hx145_0)
                 rw [hv145_0] at ge145_0
                 have HL145_0 := Aside0.mk (show Kd.R (Kd.slice 3 (Kd.int .i64)) 26 _ _ _ _ (rd_L2 x10_1 x13_3) from ge145_0)
                 clear hv145_0 ge145_0
                 clear hcc145 hce145
                 have HR145_0 := Aside0.mk hi145_0
                 have HC145_0 := Aside0.mk hl145_0
                 clear hi145_0 hl145_0
                 replace p145 := eq_true p145
                 replace q145 := eq_true q145
                 have p149 : 0 ≤ (x13_3 : Int) := of_decide_eq_true TA
                 have q149 : x13_3 < (x10_1.length : Int) := of_decide_eq_true TA
                 obtain ⟨ad149, A149_0, c149_0, e149, hx149_0, hl149_0, hi149_0⟩ := at_L2 (Kd.R_reads' HO_10.out).2.2 x13_3 p149 q149
                 obtain rfl : ad144 = ad149 := (by injection e149)
                 obtain ⟨ce149, hce149, hMe149, hcc149⟩ := Kd.R_get HO_10.out [] x13_3 p149 (by first | exact q149 | exact of_decide_eq_true TA | (have e_ := (Kd.R_reads' HO_10.out).1; omega))
                 obtain ⟨ve149_0, rfl, ge149_0⟩ := hMe149
                 have hv149_0 := hcc149 0 _ rfl
                 rw [Nat.add_zero, show ((Kd.slice 26 (Kd.slice 3 (Kd.int .i64)))).sz = 1 from rfl, Nat.mul_one] at hv149_0
                 replace hv149_0 := Option.some.inj (hv149_0.symm.trans hx149_0)
                 rw [hv149_0] at ge149_0
                 have HL149_0 := Aside0.mk (show Kd.R (Kd.slice 3 (Kd.int .i64)) 26 _ _ _ _ (rd_L2 x10_1 x13_3) from ge149_0)
                 clear hv149_0 ge149_0
                 clear hcc149 hce149
                 have HR149_0 := Aside0.mk hi149_0
                 have HC149_0 := Aside0.mk hl149_0
                 clear hi149_0 hl149_0
                 replace p149 := eq_true p149
                 replace q149 := eq_true q149
                 have p150 : 0 ≤ (x12_2 : Int) := of_decide_eq_true TA
                 have q150 : x12_2 < (x10_1.length : Int) := of_decide_eq_true TA
                 obtain ⟨ad150, A150_0, c150_0, e150, hx150_0, hl150_0, hi150_0⟩ := at_L2 (Kd.R_reads' HO_10.out).2.2 x12_2 p150 q150
                 obtain rfl : ad144 = ad150 := (by injection e150)
                 obtain ⟨ce150, hce150, hMe150, hcc150⟩ := Kd.R_get HO_10.out [] x12_2 p150 (by first | exact q150 | exact of_decide_eq_true TA | (have e_ := (Kd.R_reads' HO_10.out).1; omega))
                 obtain ⟨ve150_0, rfl, ge150_0⟩ := hMe150
                 have hv150_0 := hcc150 0 _ rfl
                 rw [Nat.add_zero, show ((Kd.slice 26 (Kd.slice 3 (Kd.int .i64)))).sz = 1 from rfl, Nat.mul_one] at hv150_0
                 replace hv150_0 := Option.some.inj (hv150_0.symm.trans hx150_0)
                 rw [hv150_0] at ge150_0
                 have HL150_0 := Aside0.mk (show Kd.R (Kd.slice 3 (Kd.int .i64)) 26 _ _ _ _ (rd_L2 x10_1 x12_2) from ge150_0)
                 clear hv150_0 ge150_0
                 clear hcc150 hce150
                 have HR150_0 := Aside0.mk hi150_0
                 have HC150_0 := Aside0.mk hl150_0
                 clear hi150_0 hl150_0
                 replace p150 := eq_true p150
                 replace q150 := eq_true q150
                 refine start_ (n := 26) (S := fun w' => w'.cell? (ad144.add (x12_2).toNat) = some (.slice A144_0 (rd_L2 x10_1 x12_2).length c144_0) ∧ w'.cell? (ad144.add (x13_3).toNat) = some (.slice A145_0 (rd_L2 x10_1 x13_3).length c145_0) ∧ w'.cell? (ad144.add (x13_3).toNat) = some (.slice A149_0 (rd_L2 x10_1 x13_3).length c149_0) ∧ w'.cell? (ad144.add (x12_2).toNat) = some (.slice A150_0 (rd_L2 x10_1 x12_2).length c150_0)) (ds := []) (.replicate 26 false) (by kernel_rfl) rfl rfl ⟨hx144_0, hx145_0, hx149_0, hx150_0⟩ (fun hHeld => ?_); refine with_tabW saronref05_confused.tab13 saronref05_confused.bits13 (fun HT_ HW_ => ?_)
                 generalize wr.drew = w33 at HO_9 HO_10 BK131 BK132 BK133 HB HL144_0 HL145_0 HL149_0 HL150_0 HR144_0 HR145_0 HR149_0 HR150_0 hx144_0 hx145_0 hx149_0 hx150_0 hHeld ⊢
                 refine pT 0 46 (bt 26 1) (k := ?_)
                 refine pT 1 47 (bt 26 3) (k := ?_)
                 refine pT 2 48 (bt 26 7) (k := ?_)
                 refine pT 4 50 (bt 26 23) (k := ?_)
                 refine pT 5 51 (bt 26 55) (k := ?_)
                 refine pT 6 52 (bt 26 119) (k := ?_)
                 refine pT 10 56 (bt 26 1143) (k := ?_)
                 refine tT4 3 49 (bt 26 1151) hHeld (k := ?_)
                 refine tT4 7 53 (bt 26 1279) hHeld (k := ?_)
                 refine one_ (i := 8) (N := some 54) (bt 26 1535) rfl rfl (one_of HT_.out (by kernel_rfl)) (by decide) (fun K hK => ?_)
                 refine goes_ Tryd.func95 (by kernel_rfl) rfl #[.slice A144_0 (rd_L2 x10_1 x12_2).length c144_0, .slice A145_0 (rd_L2 x10_1 x13_3).length c145_0] (by rfl) rfl rfl TM ?_
                 with_reducible refine (saronref05_less.calls k3 _ _ (rd_L2 x10_1 x12_2) _ _ (rd_L2 x10_1 x13_3) t146 _ ?side1 ?side2 ?side3 ?side4 A28.out).mono ?_
                 (case side1 => repeat (first | exact (by repeat (first | (with_reducible exact HR144_0.out) | (with_reducible refine Kd.C_alloc ?_ _) | (with_reducible refine Kd.C_drewN ?_ _) | (with_reducible refine Kd.C_drew ?_) | exact HR144_0.out)) | (with_reducible refine Kd.C_alloc ?_ _) | (with_reducible refine Kd.C_drewN ?_ _) | (with_reducible refine Kd.C_drew ?_)))
                 (case side2 => exact HC144_0.out)
                 (case side3 => repeat (first | exact (by repeat (first | (with_reducible exact HR145_0.out) | (with_reducible refine Kd.C_alloc ?_ _) | (with_reducible refine Kd.C_drewN ?_ _) | (with_reducible refine Kd.C_drew ?_) | exact HR145_0.out)) | (with_reducible refine Kd.C_alloc ?_ _) | (with_reducible refine Kd.C_drewN ?_ _) | (with_reducible refine Kd.C_drew ?_)))
                 (case side4 => exact HC145_0.out)
                 rintro e w35 ⟨v147, rfl, ho0, hb⟩
                 have HS0_ := (hb.cell (World.block_lt_of_cell? _ _ (hHeld.1))).trans (hHeld.1)
                 have HS1_ := (hb.cell (World.block_lt_of_cell? _ _ (hHeld.2.1))).trans (hHeld.2.1)
                 have HS2_ := (hb.cell (World.block_lt_of_cell? _ _ (hHeld.2.2.1))).trans (hHeld.2.2.1)
                 have HS3_ := (hb.cell (World.block_lt_of_cell? _ _ (hHeld.2.2.2))).trans (hHeld.2.2.2)
                 refine ⟨_, rfl, ?_⟩
                 have n0_ := Aside0.mk (Kd.R_below (TRo HO_9.out) hb)
                 have n1_ := Aside0.mk (Kd.R_below (TRo HO_10.out) hb)
                 have n2_ := Aside0.mk (Kd.R_below (TRo HL144_0.out) hb)
                 have n3_ := Aside0.mk (Kd.R_below (TRo HL145_0.out) hb)
                 have n4_ := Aside0.mk (Kd.R_lower ho0 (below_size (TB3 GE131.out GE132.out GE133.out)))
                 have n5_ := Aside0.mk (TKb hb BK131.out)
                 have n6_ := Aside0.mk (TKb hb BK132.out)
                 have n7_ := Aside0.mk (TKb hb BK133.out)
                 have n8_ := Aside0.mk (Kd.C_below (by repeat (first | (with_reducible exact HR144_0.out) | (with_reducible refine Kd.C_alloc ?_ _) | (with_reducible refine Kd.C_drewN ?_ _) | (with_reducible refine Kd.C_drew ?_) | exact HR144_0.out)) hb)
                 have n9_ := Aside0.mk (Kd.C_below (by repeat (first | (with_reducible exact HR145_0.out) | (with_reducible refine Kd.C_alloc ?_ _) | (with_reducible refine Kd.C_drewN ?_ _) | (with_reducible refine Kd.C_drew ?_) | exact HR145_0.out)) hb)
                 have n10_ := Aside0.mk (below_step (TB3 GE131.out GE132.out GE133.out) hb)
                 clear HO_9
                 clear HO_10
                 clear HL144_0
                 clear HL145_0
                 clear BK131
                 clear BK132
                 clear BK133
                 clear HR144_0
                 clear HR145_0
                 clear HB
                 have HO_9 := n0_
                 have HO_10 := n1_
                 have HL144_0 := n2_
                 have HL145_0 := n3_
                 have HO148 := n4_
                 have BK131 := n5_
                 have BK132 := n6_
                 have BK133 := n7_
                 have HR144_0 := n8_
                 have HR145_0 := n9_
                 have HB := n10_
                 clear n0_ n1_ n2_ n3_ n4_ n5_ n6_ n7_ n8_ n9_ n10_
                 (try clear hb)
                 (try clear hb2)
                 (try clear hk)
                 (try clear hi)
                 (try clear ho0)
                 obtain ⟨Ao36, co36, eo36⟩ := Kd.R_slice HO148.out
                 (first | subst eo36 | (injection eo36 with f1_ f2_ f3_; have f4_ := f1_.symm; have f5_ := f3_.symm; clear f1_ f2_ f3_; subst f4_; subst f5_))
                 refine hK.out _ _ ⟨HS0_, HS1_, HS2_, HS3_⟩ (fun hHeld => ?_)
                 clear hK K
                 refine norm_ (a' := ?_) ?_ ?_
                 rotate_left
                 ·show Act.put _ (some 54) _ = _
                  simp only [Act.put, lA, lZ, lS, i64_w, i32_w]
                  rfl
                 refine pT 9 55 (bt 26 2047) (k := ?_)
                 refine pT 11 57 (bt 26 4095) (k := ?_)
                 refine pT 12 58 (bt 26 8191) (k := ?_)
                 refine pT 13 59 (bt 26 16383) (k := ?_)
                 refine pT 14 60 (bt 26 32767) (k := ?_)
                 refine pT 15 61 (bt 26 65535) (k := ?_)
                 refine pT 17 63 (bt 26 196607) (k := ?_)
                 refine pT 18 64 (bt 26 458751) (k := ?_)
                 refine pT 19 65 (bt 26 983039) (k := ?_)
                 refine pT 23 69 (bt 26 9371647) (k := ?_)
                 refine tT4 16 62 (bt 26 9437183) hHeld (k := ?_)
                 refine tT4 20 66 (bt 26 10485759) hHeld (k := ?_)
                 refine one_ (i := 21) (N := some 67) (bt 26 12582911) rfl rfl (one_of HT_.out (by kernel_rfl)) (by decide) (fun K hK => ?_)
                 have e1_ := Option.some.inj (hHeld.2.2.1.symm.trans hHeld.2.1)
                 have e2_ := Option.some.inj (hHeld.2.2.2.symm.trans hHeld.1)
                 injection e1_ with f1_ f2_ f3_
                 injection e2_ with f4_ f5_ f6_
                 subst f1_ f3_ f4_ f6_
                 have HR149_0 := HR145_0
                 have HR150_0 := HR144_0
                 have HL149_0 := HL145_0
                 have HL150_0 := HL144_0
                 refine goes_ Tryd.func95 (by kernel_rfl) rfl #[.slice A149_0 (rd_L2 x10_1 x13_3).length c149_0, .slice A150_0 (rd_L2 x10_1 x12_2).length c150_0] (by rfl) rfl rfl TM ?_
                 with_reducible refine (saronref05_less.calls k3 _ _ (rd_L2 x10_1 x13_3) _ _ (rd_L2 x10_1 x12_2) t151 _ ?side1 ?side2 ?side3 ?side4 A30.out).mono ?_
                 (case side1 => repeat (first | exact (by repeat (first | (with_reducible exact HR149_0.out) | (with_reducible refine Kd.C_alloc ?_ _) | (with_reducible refine Kd.C_drewN ?_ _) | (with_reducible refine Kd.C_drew ?_) | exact HR149_0.out)) | (with_reducible refine Kd.C_alloc ?_ _) | (with_reducible refine Kd.C_drewN ?_ _) | (with_reducible refine Kd.C_drew ?_)))
                 (case side2 => exact HC149_0.out)
                 (case side3 => repeat (first | exact (by repeat (first | (with_reducible exact HR150_0.out) | (with_reducible refine Kd.C_alloc ?_ _) | (with_reducible refine Kd.C_drewN ?_ _) | (with_reducible refine Kd.C_drew ?_) | exact HR150_0.out)) | (with_reducible refine Kd.C_alloc ?_ _) | (with_reducible refine Kd.C_drewN ?_ _) | (with_reducible refine Kd.C_drew ?_)))
                 (case side4 => exact HC150_0.out)
                 rintro e w37 ⟨v152, rfl, ho0, hb⟩
                 have HS0_ := (hb.cell (World.block_lt_of_cell? _ _ (hHeld.1))).trans (hHeld.1)
                 have HS1_ := (hb.cell (World.block_lt_of_cell? _ _ (hHeld.2.1))).trans (hHeld.2.1)
                 have HS2_ := (hb.cell (World.block_lt_of_cell? _ _ (hHeld.2.2.1))).trans (hHeld.2.2.1)
                 have HS3_ := (hb.cell (World.block_lt_of_cell? _ _ (hHeld.2.2.2))).trans (hHeld.2.2.2)
                 refine ⟨_, rfl, ?_⟩
                 have n0_ := Aside0.mk (Kd.R_below (TRo HO_9.out) hb)
                 have n1_ := Aside0.mk (Kd.R_below (TRo HO_10.out) hb)
                 have n2_ := Aside0.mk (Kd.R_below (TRo HL144_0.out) hb)
                 have n3_ := Aside0.mk (Kd.R_below (TRo HL145_0.out) hb)
                 have n4_ := Aside0.mk (Kd.R_elder' (TRo HO148.out) (Kd.R_base ho0) hb)
                 have n5_ := Aside0.mk (Kd.R_below (TRo HL149_0.out) hb)
                 have n6_ := Aside0.mk (Kd.R_below (TRo HL150_0.out) hb)
                 have n7_ := Aside0.mk (Kd.R_lower (Kd.R_new' ho0 (Kd.R_lt (TRo HO148.out))) (below_size (TB3 GE131.out GE132.out GE133.out)))
                 have n8_ := Aside0.mk (TKb hb BK131.out)
                 have n9_ := Aside0.mk (TKb hb BK132.out)
                 have n10_ := Aside0.mk (TKb hb BK133.out)
                 have n11_ := Aside0.mk (Kd.C_below (by repeat (first | (with_reducible exact HR144_0.out) | (with_reducible refine Kd.C_alloc ?_ _) | (with_reducible refine Kd.C_drewN ?_ _) | (with_reducible refine Kd.C_drew ?_) | exact HR144_0.out)) hb)
                 have n12_ := Aside0.mk (Kd.C_below (by repeat (first | (with_reducible exact HR145_0.out) | (with_reducible refine Kd.C_alloc ?_ _) | (with_reducible refine Kd.C_drewN ?_ _) | (with_reducible refine Kd.C_drew ?_) | exact HR145_0.out)) hb)
                 have n13_ := Aside0.mk (Kd.C_below (by repeat (first | (with_reducible exact HR149_0.out) | (with_reducible refine Kd.C_alloc ?_ _) | (with_reducible refine Kd.C_drewN ?_ _) | (with_reducible refine Kd.C_drew ?_) | exact HR149_0.out)) hb)
                 have n14_ := Aside0.mk (Kd.C_below (by repeat (first | (with_reducible exact HR150_0.out) | (with_reducible refine Kd.C_alloc ?_ _) | (with_reducible refine Kd.C_drewN ?_ _) | (with_reducible refine Kd.C_drew ?_) | exact HR150_0.out)) hb)
                 have n15_ := Aside0.mk (below_step (TB3 GE131.out GE132.out GE133.out) hb)
                 clear HO_9
                 clear HO_10
                 clear HL144_0
                 clear HL145_0
                 clear HO148
                 clear HL149_0
                 clear HL150_0
                 clear BK131
                 clear BK132
                 clear BK133
                 clear HR144_0
                 clear HR145_0
                 clear HR149_0
                 clear HR150_0
                 clear HB
                 have HO_9 := n0_
                 have HO_10 := n1_
                 have HL144_0 := n2_
                 have HL145_0 := n3_
                 have HO148 := n4_
                 have HL149_0 := n5_
                 have HL150_0 := n6_
                 have HO153 := n7_
                 have BK131 := n8_
                 have BK132 := n9_
                 have BK133 := n10_
                 have HR144_0 := n11_
                 have HR145_0 := n12_
                 have HR149_0 := n13_
                 have HR150_0 := n14_
                 have HB := n15_
                 clear n0_ n1_ n2_ n3_ n4_ n5_ n6_ n7_ n8_ n9_ n10_ n11_ n12_ n13_ n14_ n15_
                 (try clear hb)
                 (try clear hb2)
                 (try clear hk)
                 (try clear hi)
                 (try clear ho0)
                 obtain ⟨Ao38, co38, eo38⟩ := Kd.R_slice HO153.out
                 (first | subst eo38 | (injection eo38 with f1_ f2_ f3_; have f4_ := f1_.symm; have f5_ := f3_.symm; clear f1_ f2_ f3_; subst f4_; subst f5_))
                 refine hK.out _ _ ⟨HS0_, HS1_, HS2_, HS3_⟩ (fun hHeld => ?_)
                 clear hK K
                 refine norm_ (a' := ?_) ?_ ?_
                 rotate_left
                 ·show Act.put _ (some 67) _ = _
                  simp only [Act.put, lA, lZ, lS, i64_w, i32_w]
                  rfl
                 refine pT 22 68 (bt 26 16777215) (k := ?_)
                 refine pT 24 70 (bt 26 33554431) (k := ?_)
                 refine pT 25 71 (bt 26 67108863) (k := ?_)
                 refine done_ (done_of HT_.out (by kernel_rfl)) ?_
                 try go_wp2
                 have n0_ := Aside0.mk (Kd.R_drew HO_9.out)
                 have n1_ := Aside0.mk (Kd.R_drew HO_10.out)
                 have n2_ := Aside0.mk (Kd.R_drew HL144_0.out)
                 have n3_ := Aside0.mk (Kd.R_drew HL145_0.out)
                 have n4_ := Aside0.mk (Kd.R_drew HO148.out)
                 have n5_ := Aside0.mk (Kd.R_drew HL149_0.out)
                 have n6_ := Aside0.mk (Kd.R_drew HL150_0.out)
                 have n7_ := Aside0.mk (Kd.R_drew HO153.out)
                 have n8_ := Aside0.mk (blk_drew BK131.out)
                 have n9_ := Aside0.mk (blk_drew BK132.out)
                 have n10_ := Aside0.mk (blk_drew BK133.out)
                 have n11_ := Aside0.mk (Kd.C_drew HR144_0.out)
                 have n12_ := Aside0.mk (Kd.C_drew HR145_0.out)
                 have n13_ := Aside0.mk (Kd.C_drew HR149_0.out)
                 have n14_ := Aside0.mk (Kd.C_drew HR150_0.out)
                 have n15_ := Aside0.mk (below_drew1 HB.out)
                 clear HO_9
                 clear HO_10
                 clear HL144_0
                 clear HL145_0
                 clear HO148
                 clear HL149_0
                 clear HL150_0
                 clear HO153
                 clear BK131
                 clear BK132
                 clear BK133
                 clear HR144_0
                 clear HR145_0
                 clear HR149_0
                 clear HR150_0
                 clear HB
                 have HO_9 := n0_
                 have HO_10 := n1_
                 have HL144_0 := n2_
                 have HL145_0 := n3_
                 have HO148 := n4_
                 have HL149_0 := n5_
                 have HL150_0 := n6_
                 have HO153 := n7_
                 have BK131 := n8_
                 have BK132 := n9_
                 have BK133 := n10_
                 have HR144_0 := n11_
                 have HR145_0 := n12_
                 have HR149_0 := n13_
                 have HR150_0 := n14_
                 have HB := n15_
                 clear n0_ n1_ n2_ n3_ n4_ n5_ n6_ n7_ n8_ n9_ n10_ n11_ n12_ n13_ n14_ n15_
                 have p154 : 0 ≤ (x12_2 : Int) := of_decide_eq_true TA
                 have q154 : x12_2 < (t134.length : Int) := of_decide_eq_true TA
                 obtain ⟨ad154, e154, hx154_0, hx154_1⟩ := at_T38 (Kd.R_reads' HO_9.out).2.2 x12_2 p154 q154
                 cases e154
                 replace p154 := eq_true p154
                 replace q154 := eq_true q154
                 have p155 : 0 ≤ (x13_3 : Int) := of_decide_eq_true TA
                 have q155 : x13_3 < (t134.length : Int) := of_decide_eq_true TA
                 obtain ⟨ad155, e155, hx155_0, hx155_1⟩ := at_T38 (Kd.R_reads' HO_9.out).2.2 x13_3 p155 q155
                 obtain rfl : ad154 = ad155 := (by injection e155)
                 replace p155 := eq_true p155
                 replace q155 := eq_true q155
                 refine start_ (n := 11) (S := fun w' => w'.cell? (ad154.add ((x12_2).toNat * 2)) = some (.int .i64 ((rd_T38 t134 x12_2).f0)) ∧ w'.cell? ⟨(ad154.add ((x12_2).toNat * 2)).block, (ad154.add ((x12_2).toNat * 2)).off + 1, none⟩ = some (.int .i64 ((rd_T38 t134 x12_2).f1)) ∧ w'.cell? (ad154.add ((x13_3).toNat * 2)) = some (.int .i64 ((rd_T38 t134 x13_3).f0)) ∧ w'.cell? ⟨(ad154.add ((x13_3).toNat * 2)).block, (ad154.add ((x13_3).toNat * 2)).off + 1, none⟩ = some (.int .i64 ((rd_T38 t134 x13_3).f1))) (ds := []) (.replicate 11 false) (by kernel_rfl) rfl rfl ⟨hx154_0, hx154_1, hx155_0, hx155_1⟩ (fun hHeld => ?_); refine with_tabW saronref05_confused.tab14 saronref05_confused.bits14 (fun HT_ HW_ => ?_)
                 generalize w37.drew = w39 at HO_9 HO_10 HL144_0 HL145_0 HO148 HL149_0 HL150_0 HO153 BK131 BK132 BK133 HR144_0 HR145_0 HR149_0 HR150_0 HB hx154_0 hx154_1 hx155_0 hx155_1 hHeld ⊢
                 refine pT 0 72 (bt 11 1) (k := ?_)
                 refine pT 1 73 (bt 11 3) (k := ?_)
                 refine pT 2 74 (bt 11 7) (k := ?_)
                 refine pT 4 76 (bt 11 23) (k := ?_)
                 refine pT 5 77 (bt 11 55) (k := ?_)
                 refine pT 6 78 (bt 11 119) (k := ?_)
                 refine tT4 3 75 (bt 11 127) hHeld (k := ?_)
                 refine tT4 7 79 (bt 11 255) hHeld (k := ?_)
                 refine one_ (i := 8) (N := none) (bt 11 511) rfl rfl (one_of HT_.out (by kernel_rfl)) (by decide) (fun K hK => ?_)
                 have hs40 : w39.cell? ⟨gb132, 0, none⟩ = some (.int .i64 x133000_3) := cz BK132.out 0
                 have hfs40 := fz BK132.out 0
                 have hns40_0 := NB131_132.out
                 have hns40_2 := NB133_132.out
                 have hms40_0 := NB132_131.out
                 have hms40_2 := NB132_133.out
                 have hs41 : w39.cell? ⟨gb132, 1, none⟩ = some (.int .i64 x133001_3) := cz BK132.out 1
                 have hfs41 := fz BK132.out 1
                 have hns41_0 := NB131_132.out
                 have hns41_2 := NB133_132.out
                 have hms41_0 := NB132_131.out
                 have hms41_2 := NB132_133.out
                 refine skip_ (w1 := ?_) (by rfl) rfl ?_ ?_
                 rotate_left
                 ·go_simp
                  rfl
                 refine hK.out _ _ ⟨((cell_far (p := ⟨gb132, _, none⟩) (by first | exact Kd.own_blk (Kd.R_away HO_9.out (fun _ hk => hk.1)) | (rw [add_block]; exact Kd.own_blk (Kd.R_away HO_9.out (fun _ hk => hk.1))) | (show (Addr.add _ _).block ≠ _; rw [add_block]; exact Kd.own_blk (Kd.R_away HO_9.out (fun _ hk => hk.1))) | (dsimp only; exact Kd.own_blk (Kd.R_away HO_9.out (fun _ hk => hk.1)))) _).trans (((cell_far (p := ⟨gb132, _, none⟩) (by first | exact Kd.own_blk (Kd.R_away HO_9.out (fun _ hk => hk.1)) | (rw [add_block]; exact Kd.own_blk (Kd.R_away HO_9.out (fun _ hk => hk.1))) | (show (Addr.add _ _).block ≠ _; rw [add_block]; exact Kd.own_blk (Kd.R_away HO_9.out (fun _ hk => hk.1))) | (dsimp only; exact Kd.own_blk (Kd.R_away HO_9.out (fun _ hk => hk.1)))) _).trans (hHeld.1)))), ((cell_far (p := ⟨gb132, _, none⟩) (by first | exact Kd.own_blk (Kd.R_away HO_9.out (fun _ hk => hk.1)) | (rw [add_block]; exact Kd.own_blk (Kd.R_away HO_9.out (fun _ hk => hk.1))) | (show (Addr.add _ _).block ≠ _; rw [add_block]; exact Kd.own_blk (Kd.R_away HO_9.out (fun _ hk => hk.1))) | (dsimp only; exact Kd.own_blk (Kd.R_away HO_9.out (fun _ hk => hk.1)))) _).trans (((cell_far (p := ⟨gb132, _, none⟩) (by first | exact Kd.own_blk (Kd.R_away HO_9.out (fun _ hk => hk.1)) | (rw [add_block]; exact Kd.own_blk (Kd.R_away HO_9.out (fun _ hk => hk.1))) | (show (Addr.add _ _).block ≠ _; rw [add_block]; exact Kd.own_blk (Kd.R_away HO_9.out (fun _ hk => hk.1))) | (dsimp only; exact Kd.own_blk (Kd.R_away HO_9.out (fun _ hk => hk.1)))) _).trans (hHeld.2.1)))), ((cell_far (p := ⟨gb132, _, none⟩) (by first | exact Kd.own_blk (Kd.R_away HO_9.out (fun _ hk => hk.1)) | (rw [add_block]; exact Kd.own_blk (Kd.R_away HO_9.out (fun _ hk => hk.1))) | (show (Addr.add _ _).block ≠ _; rw [add_block]; exact Kd.own_blk (Kd.R_away HO_9.out (fun _ hk => hk.1))) | (dsimp only; exact Kd.own_blk (Kd.R_away HO_9.out (fun _ hk => hk.1)))) _).trans (((cell_far (p := ⟨gb132, _, none⟩) (by first | exact Kd.own_blk (Kd.R_away HO_9.out (fun _ hk => hk.1)) | (rw [add_block]; exact Kd.own_blk (Kd.R_away HO_9.out (fun _ hk => hk.1))) | (show (Addr.add _ _).block ≠ _; rw [add_block]; exact Kd.own_blk (Kd.R_away HO_9.out (fun _ hk => hk.1))) | (dsimp only; exact Kd.own_blk (Kd.R_away HO_9.out (fun _ hk => hk.1)))) _).trans (hHeld.2.2.1)))), ((cell_far (p := ⟨gb132, _, none⟩) (by first | exact Kd.own_blk (Kd.R_away HO_9.out (fun _ hk => hk.1)) | (rw [add_block]; exact Kd.own_blk (Kd.R_away HO_9.out (fun _ hk => hk.1))) | (show (Addr.add _ _).block ≠ _; rw [add_block]; exact Kd.own_blk (Kd.R_away HO_9.out (fun _ hk => hk.1))) | (dsimp only; exact Kd.own_blk (Kd.R_away HO_9.out (fun _ hk => hk.1)))) _).trans (((cell_far (p := ⟨gb132, _, none⟩) (by first | exact Kd.own_blk (Kd.R_away HO_9.out (fun _ hk => hk.1)) | (rw [add_block]; exact Kd.own_blk (Kd.R_away HO_9.out (fun _ hk => hk.1))) | (show (Addr.add _ _).block ≠ _; rw [add_block]; exact Kd.own_blk (Kd.R_away HO_9.out (fun _ hk => hk.1))) | (dsimp only; exact Kd.own_blk (Kd.R_away HO_9.out (fun _ hk => hk.1)))) _).trans (hHeld.2.2.2))))⟩ (fun hHeld => ?_)
                 clear hK K
                 refine one_ (i := 9) (N := none) (bt 11 1023) rfl rfl (one_of HT_.out (by kernel_rfl)) (by decide) (fun K hK => ?_)
                 have hs42 : w39.cell? ⟨gb133, 0, none⟩ = some (.int .i64 x134000_3) := cz BK133.out 0
                 have hfs42 := fz BK133.out 0
                 have hns42_0 := NB131_133.out
                 have hns42_1 := NB132_133.out
                 have hms42_0 := NB133_131.out
                 have hms42_1 := NB133_132.out
                 have hs43 : w39.cell? ⟨gb133, 1, none⟩ = some (.int .i64 x134001_3) := cz BK133.out 1
                 have hfs43 := fz BK133.out 1
                 have hns43_0 := NB131_133.out
                 have hns43_1 := NB132_133.out
                 have hms43_0 := NB133_131.out
                 have hms43_1 := NB133_132.out
                 refine skip_ (w1 := ?_) (by rfl) rfl ?_ ?_
                 rotate_left
                 ·go_simp
                  rfl
                 refine hK.out _ _ ⟨((cell_far (p := ⟨gb133, _, none⟩) (by first | exact Kd.own_blk (Kd.R_away HO_9.out (fun _ hk => hk.2)) | (rw [add_block]; exact Kd.own_blk (Kd.R_away HO_9.out (fun _ hk => hk.2))) | (show (Addr.add _ _).block ≠ _; rw [add_block]; exact Kd.own_blk (Kd.R_away HO_9.out (fun _ hk => hk.2))) | (dsimp only; exact Kd.own_blk (Kd.R_away HO_9.out (fun _ hk => hk.2)))) _).trans (((cell_far (p := ⟨gb133, _, none⟩) (by first | exact Kd.own_blk (Kd.R_away HO_9.out (fun _ hk => hk.2)) | (rw [add_block]; exact Kd.own_blk (Kd.R_away HO_9.out (fun _ hk => hk.2))) | (show (Addr.add _ _).block ≠ _; rw [add_block]; exact Kd.own_blk (Kd.R_away HO_9.out (fun _ hk => hk.2))) | (dsimp only; exact Kd.own_blk (Kd.R_away HO_9.out (fun _ hk => hk.2)))) _).trans (hHeld.1)))), ((cell_far (p := ⟨gb133, _, none⟩) (by first | exact Kd.own_blk (Kd.R_away HO_9.out (fun _ hk => hk.2)) | (rw [add_block]; exact Kd.own_blk (Kd.R_away HO_9.out (fun _ hk => hk.2))) | (show (Addr.add _ _).block ≠ _; rw [add_block]; exact Kd.own_blk (Kd.R_away HO_9.out (fun _ hk => hk.2))) | (dsimp only; exact Kd.own_blk (Kd.R_away HO_9.out (fun _ hk => hk.2)))) _).trans (((cell_far (p := ⟨gb133, _, none⟩) (by first | exact Kd.own_blk (Kd.R_away HO_9.out (fun _ hk => hk.2)) | (rw [add_block]; exact Kd.own_blk (Kd.R_away HO_9.out (fun _ hk => hk.2))) | (show (Addr.add _ _).block ≠ _; rw [add_block]; exact Kd.own_blk (Kd.R_away HO_9.out (fun _ hk => hk.2))) | (dsimp only; exact Kd.own_blk (Kd.R_away HO_9.out (fun _ hk => hk.2)))) _).trans (hHeld.2.1)))), ((cell_far (p := ⟨gb133, _, none⟩) (by first | exact Kd.own_blk (Kd.R_away HO_9.out (fun _ hk => hk.2)) | (rw [add_block]; exact Kd.own_blk (Kd.R_away HO_9.out (fun _ hk => hk.2))) | (show (Addr.add _ _).block ≠ _; rw [add_block]; exact Kd.own_blk (Kd.R_away HO_9.out (fun _ hk => hk.2))) | (dsimp only; exact Kd.own_blk (Kd.R_away HO_9.out (fun _ hk => hk.2)))) _).trans (((cell_far (p := ⟨gb133, _, none⟩) (by first | exact Kd.own_blk (Kd.R_away HO_9.out (fun _ hk => hk.2)) | (rw [add_block]; exact Kd.own_blk (Kd.R_away HO_9.out (fun _ hk => hk.2))) | (show (Addr.add _ _).block ≠ _; rw [add_block]; exact Kd.own_blk (Kd.R_away HO_9.out (fun _ hk => hk.2))) | (dsimp only; exact Kd.own_blk (Kd.R_away HO_9.out (fun _ hk => hk.2)))) _).trans (hHeld.2.2.1)))), ((cell_far (p := ⟨gb133, _, none⟩) (by first | exact Kd.own_blk (Kd.R_away HO_9.out (fun _ hk => hk.2)) | (rw [add_block]; exact Kd.own_blk (Kd.R_away HO_9.out (fun _ hk => hk.2))) | (show (Addr.add _ _).block ≠ _; rw [add_block]; exact Kd.own_blk (Kd.R_away HO_9.out (fun _ hk => hk.2))) | (dsimp only; exact Kd.own_blk (Kd.R_away HO_9.out (fun _ hk => hk.2)))) _).trans (((cell_far (p := ⟨gb133, _, none⟩) (by first | exact Kd.own_blk (Kd.R_away HO_9.out (fun _ hk => hk.2)) | (rw [add_block]; exact Kd.own_blk (Kd.R_away HO_9.out (fun _ hk => hk.2))) | (show (Addr.add _ _).block ≠ _; rw [add_block]; exact Kd.own_blk (Kd.R_away HO_9.out (fun _ hk => hk.2))) | (dsimp only; exact Kd.own_blk (Kd.R_away HO_9.out (fun _ hk => hk.2)))) _).trans (hHeld.2.2.2))))⟩ (fun hHeld => ?_)
                 clear hK K
                 refine pT 10 8 (bt 11 2047) (k := ?_)
                 refine done_ (done_of HT_.out (by kernel_rfl)) ?_
                 try go_wp2
                 refine bodyPost_ret (results_list (rs := [.cell 6 38, .cell 7 38, .tmp 8]) rfl (by simp) (.cell gb132 38 #[.int .i64 ((rd_T38 t134 x12_2).f0), .int .i64 ((rd_T38 t134 x12_2).f1)] (0, 0) _ rfl (by (with_reducible repeat (first | refine blk_drewN ?_ _ | refine blk_drew ?_ | refine blk_alloc ?_ _)); refine blk_far ?_ NB132_133.out _; (with_reducible repeat (first | refine blk_drewN ?_ _ | refine blk_drew ?_ | refine blk_alloc ?_ _)); refine blk_far ?_ NB132_133.out _; (with_reducible repeat (first | refine blk_drewN ?_ _ | refine blk_drew ?_ | refine blk_alloc ?_ _)); refine blk_put (cs := #[.int .i64 ((rd_T38 t134 x12_2).f0), .int .i64 x133001_3]) ?_ 1 _ rfl; (with_reducible repeat (first | refine blk_drewN ?_ _ | refine blk_drew ?_ | refine blk_alloc ?_ _)); refine blk_put (cs := #[.int .i64 x133000_3, .int .i64 x133001_3]) ?_ 0 _ rfl; (with_reducible repeat (first | refine blk_drewN ?_ _ | refine blk_drew ?_ | refine blk_alloc ?_ _)); exact BK132.out) Tryd.underlying38 rfl (by kernel_rfl) (.cell gb133 38 #[.int .i64 ((rd_T38 t134 x13_3).f0), .int .i64 ((rd_T38 t134 x13_3).f1)] (0, 0) _ rfl (by (with_reducible repeat (first | refine blk_drewN ?_ _ | refine blk_drew ?_ | refine blk_alloc ?_ _)); refine blk_put (cs := #[.int .i64 ((rd_T38 t134 x13_3).f0), .int .i64 x134001_3]) ?_ 1 _ rfl; (with_reducible repeat (first | refine blk_drewN ?_ _ | refine blk_drew ?_ | refine blk_alloc ?_ _)); refine blk_put (cs := #[.int .i64 x134000_3, .int .i64 x134001_3]) ?_ 0 _ rfl; (with_reducible repeat (first | refine blk_drewN ?_ _ | refine blk_drew ?_ | refine blk_alloc ?_ _)); refine blk_far ?_ NB133_132.out _; (with_reducible repeat (first | refine blk_drewN ?_ _ | refine blk_drew ?_ | refine blk_alloc ?_ _)); refine blk_far ?_ NB133_132.out _; (with_reducible repeat (first | refine blk_drewN ?_ _ | refine blk_drew ?_ | refine blk_alloc ?_ _)); exact BK133.out) Tryd.underlying38 rfl (by kernel_rfl) (.tmp .nil)))) rfl ?_
                 exact ⟨TR, TB3 GE131.out GE132.out GE133.out⟩
                ·rw [if_neg c32] at H
                 exact absurd H (by simp)
               ·rw [if_neg c31] at H
                have c31b0 : decide ((t151.length : Int) ≤ a1) = false := decide_eq_false c31
                clear c31
                have H' := Aside0.mk H
                clear H
                try go_wp2
                have n0_ := Aside0.mk (Kd.R_drew HO_9.out)
                have n1_ := Aside0.mk (Kd.R_drew HO_10.out)
                have n2_ := Aside0.mk (blk_drew BK131.out)
                have n3_ := Aside0.mk (blk_drew BK132.out)
                have n4_ := Aside0.mk (blk_drew BK133.out)
                have n5_ := Aside0.mk (below_drew1 HB.out)
                clear HO_9
                clear HO_10
                clear BK131
                clear BK132
                clear BK133
                clear HB
                have HO_9 := n0_
                have HO_10 := n1_
                have BK131 := n2_
                have BK132 := n3_
                have BK133 := n4_
                have HB := n5_
                clear n0_ n1_ n2_ n3_ n4_ n5_
                obtain ⟨Ao45, co45, eo45⟩ := Kd.R_slice HO_10.out
                (first | subst eo45 | (injection eo45 with f1_ f2_ f3_; have f4_ := f1_.symm; have f5_ := f3_.symm; clear f1_ f2_ f3_; subst f4_; subst f5_))
                have p144 : 0 ≤ (x12_2 : Int) := of_decide_eq_true TA
                have q144 : x12_2 < (x10_1.length : Int) := of_decide_eq_true TA
                obtain ⟨ad144, A144_0, c144_0, e144, hx144_0, hl144_0, hi144_0⟩ := at_L2 (Kd.R_reads' HO_10.out).2.2 x12_2 p144 q144
                cases e144
                obtain ⟨ce144, hce144, hMe144, hcc144⟩ := Kd.R_get HO_10.out [] x12_2 p144 (by first | exact q144 | exact of_decide_eq_true TA | (have e_ := (Kd.R_reads' HO_10.out).1; omega))
                obtain ⟨ve144_0, rfl, ge144_0⟩ := hMe144
                have hv144_0 := hcc144 0 _ rfl
                rw [Nat.add_zero, show ((Kd.slice 26 (Kd.slice 3 (Kd.int .i64)))).sz = 1 from rfl, Nat.mul_one] at hv144_0
                replace hv144_0 := Option.some.inj (hv144_0.symm.trans hx144_0)
                rw [hv144_0] at ge144_0
                have HL144_0 := Aside0.mk (show Kd.R (Kd.slice 3 (Kd.int .i64)) 26 _ _ _ _ (rd_L2 x10_1 x12_2) from ge144_0)
                clear hv144_0 ge144_0
                clear hcc144 hce144
                have HR144_0 := Aside0.mk hi144_0
                have HC144_0 := Aside0.mk hl144_0
                clear hi144_0 hl144_0
                replace p144 := eq_true p144
                replace q144 := eq_true q144
                have p145 : 0 ≤ (x13_3 : Int) := of_decide_eq_true TA
                have q145 : x13_3 < (x10_1.length : Int) := of_decide_eq_true TA
                obtain ⟨ad145, A145_0, c145_0, e145, hx145_0, hl145_0, hi145_0⟩ := at_L2 (Kd.R_reads' HO_10.out).2.2 x13_3 p145 q145
                obtain rfl : ad144 = ad145 := (by injection e145)
                obtain ⟨ce145, hce145, hMe145, hcc145⟩ := Kd.R_get HO_10.out [] x13_3 p145 (by first | exact q145 | exact of_decide_eq_true TA | (have e_ := (Kd.R_reads' HO_10.out).1; omega))
                obtain ⟨ve145_0, rfl, ge145_0⟩ := hMe145
                have hv145_0 := hcc145 0 _ rfl
                rw [Nat.add_zero, show ((Kd.slice 26 (Kd.slice 3 (Kd.int .i64)))).sz = 1 from rfl, Nat.mul_one] at hv145_0
                replace hv145_0 := Option.some.inj (hv145_0.symm.trans hx145_0)
                rw [hv145_0] at ge145_0
                have HL145_0 := Aside0.mk (show Kd.R (Kd.slice 3 (Kd.int .i64)) 26 _ _ _ _ (rd_L2 x10_1 x13_3) from ge145_0)
                clear hv145_0 ge145_0
                clear hcc145 hce145
                have HR145_0 := Aside0.mk hi145_0
                have HC145_0 := Aside0.mk hl145_0
                clear hi145_0 hl145_0
                replace p145 := eq_true p145
                replace q145 := eq_true q145
                have p149 : 0 ≤ (x13_3 : Int) := of_decide_eq_true TA
                have q149 : x13_3 < (x10_1.length : Int) := of_decide_eq_true TA
                obtain ⟨ad149, A149_0, c149_0, e149, hx149_0, hl149_0, hi149_0⟩ := at_L2 (Kd.R_reads' HO_10.out).2.2 x13_3 p149 q149
                obtain rfl : ad144 = ad149 := (by injection e149)
                obtain ⟨ce149, hce149, hMe149, hcc149⟩ := Kd.R_get HO_10.out [] x13_3 p149 (by first | exact q149 | exact of_decide_eq_true TA | (have e_ := (Kd.R_reads' HO_10.out).1; omega))
                obtain ⟨ve149_0, rfl, ge149_0⟩ := hMe149
                have hv149_0 := hcc149 0 _ rfl
                rw [Nat.add_zero, show ((Kd.slice 26 (Kd.slice 3 (Kd.int .i64)))).sz = 1 from rfl, Nat.mul_one] at hv149_0
                replace hv149_0 := Option.some.inj (hv149_0.symm.trans hx149_0)
                rw [hv149_0] at ge149_0
                have HL149_0 := Aside0.mk (show Kd.R (Kd.slice 3 (Kd.int .i64)) 26 _ _ _ _ (rd_L2 x10_1 x13_3) from ge149_0)
                clear hv149_0 ge149_0
                clear hcc149 hce149
                have HR149_0 := Aside0.mk hi149_0
                have HC149_0 := Aside0.mk hl149_0
                clear hi149_0 hl149_0
                replace p149 := eq_true p149
                replace q149 := eq_true q149
                have p150 : 0 ≤ (x12_2 : Int) := of_decide_eq_true TA
                have q150 : x12_2 < (x10_1.length : Int) := of_decide_eq_true TA
                obtain ⟨ad150, A150_0, c150_0, e150, hx150_0, hl150_0, hi150_0⟩ := at_L2 (Kd.R_reads' HO_10.out).2.2 x12_2 p150 q150
                obtain rfl : ad144 = ad150 := (by injection e150)
                obtain ⟨ce150, hce150, hMe150, hcc150⟩ := Kd.R_get HO_10.out [] x12_2 p150 (by first | exact q150 | exact of_decide_eq_true TA | (have e_ := (Kd.R_reads' HO_10.out).1; omega))
                obtain ⟨ve150_0, rfl, ge150_0⟩ := hMe150
                have hv150_0 := hcc150 0 _ rfl
                rw [Nat.add_zero, show ((Kd.slice 26 (Kd.slice 3 (Kd.int .i64)))).sz = 1 from rfl, Nat.mul_one] at hv150_0
                replace hv150_0 := Option.some.inj (hv150_0.symm.trans hx150_0)
                rw [hv150_0] at ge150_0
                have HL150_0 := Aside0.mk (show Kd.R (Kd.slice 3 (Kd.int .i64)) 26 _ _ _ _ (rd_L2 x10_1 x12_2) from ge150_0)
                clear hv150_0 ge150_0
                clear hcc150 hce150
                have HR150_0 := Aside0.mk hi150_0
                have HC150_0 := Aside0.mk hl150_0
                clear hi150_0 hl150_0
                replace p150 := eq_true p150
                replace q150 := eq_true q150
                refine start_ (n := 26) (S := fun w' => w'.cell? (ad144.add (x12_2).toNat) = some (.slice A144_0 (rd_L2 x10_1 x12_2).length c144_0) ∧ w'.cell? (ad144.add (x13_3).toNat) = some (.slice A145_0 (rd_L2 x10_1 x13_3).length c145_0) ∧ w'.cell? (ad144.add (x13_3).toNat) = some (.slice A149_0 (rd_L2 x10_1 x13_3).length c149_0) ∧ w'.cell? (ad144.add (x12_2).toNat) = some (.slice A150_0 (rd_L2 x10_1 x12_2).length c150_0)) (ds := []) (.replicate 26 false) (by kernel_rfl) rfl rfl ⟨hx144_0, hx145_0, hx149_0, hx150_0⟩ (fun hHeld => ?_); refine with_tabW saronref05_confused.tab13 saronref05_confused.bits13 (fun HT_ HW_ => ?_)
                generalize wr.drew = w44 at HO_9 HO_10 BK131 BK132 BK133 HB HL144_0 HL145_0 HL149_0 HL150_0 HR144_0 HR145_0 HR149_0 HR150_0 hx144_0 hx145_0 hx149_0 hx150_0 hHeld ⊢
                refine pT 0 46 (bt 26 1) (k := ?_)
                refine pT 1 47 (bt 26 3) (k := ?_)
                refine pT 2 48 (bt 26 7) (k := ?_)
                refine pT 4 50 (bt 26 23) (k := ?_)
                refine pT 5 51 (bt 26 55) (k := ?_)
                refine pT 6 52 (bt 26 119) (k := ?_)
                refine pT 10 56 (bt 26 1143) (k := ?_)
                refine tT4 3 49 (bt 26 1151) hHeld (k := ?_)
                refine tT4 7 53 (bt 26 1279) hHeld (k := ?_)
                refine one_ (i := 8) (N := some 54) (bt 26 1535) rfl rfl (one_of HT_.out (by kernel_rfl)) (by decide) (fun K hK => ?_)
                refine goes_ Tryd.func95 (by kernel_rfl) rfl #[.slice A144_0 (rd_L2 x10_1 x12_2).length c144_0, .slice A145_0 (rd_L2 x10_1 x13_3).length c145_0] (by rfl) rfl rfl TM ?_
                with_reducible refine (saronref05_less.calls k3 _ _ (rd_L2 x10_1 x12_2) _ _ (rd_L2 x10_1 x13_3) t146 _ ?side1 ?side2 ?side3 ?side4 A28.out).mono ?_
                (case side1 => repeat (first | exact (by repeat (first | (with_reducible exact HR144_0.out) | (with_reducible refine Kd.C_alloc ?_ _) | (with_reducible refine Kd.C_drewN ?_ _) | (with_reducible refine Kd.C_drew ?_) | exact HR144_0.out)) | (with_reducible refine Kd.C_alloc ?_ _) | (with_reducible refine Kd.C_drewN ?_ _) | (with_reducible refine Kd.C_drew ?_)))
                (case side2 => exact HC144_0.out)
                (case side3 => repeat (first | exact (by repeat (first | (with_reducible exact HR145_0.out) | (with_reducible refine Kd.C_alloc ?_ _) | (with_reducible refine Kd.C_drewN ?_ _) | (with_reducible refine Kd.C_drew ?_) | exact HR145_0.out)) | (with_reducible refine Kd.C_alloc ?_ _) | (with_reducible refine Kd.C_drewN ?_ _) | (with_reducible refine Kd.C_drew ?_)))
                (case side4 => exact HC145_0.out)
                rintro e w46 ⟨v147, rfl, ho0, hb⟩
                have HS0_ := (hb.cell (World.block_lt_of_cell? _ _ (hHeld.1))).trans (hHeld.1)
                have HS1_ := (hb.cell (World.block_lt_of_cell? _ _ (hHeld.2.1))).trans (hHeld.2.1)
                have HS2_ := (hb.cell (World.block_lt_of_cell? _ _ (hHeld.2.2.1))).trans (hHeld.2.2.1)
                have HS3_ := (hb.cell (World.block_lt_of_cell? _ _ (hHeld.2.2.2))).trans (hHeld.2.2.2)
                refine ⟨_, rfl, ?_⟩
                have n0_ := Aside0.mk (Kd.R_below (TRo HO_9.out) hb)
                have n1_ := Aside0.mk (Kd.R_below (TRo HO_10.out) hb)
                have n2_ := Aside0.mk (Kd.R_below (TRo HL144_0.out) hb)
                have n3_ := Aside0.mk (Kd.R_below (TRo HL145_0.out) hb)
                have n4_ := Aside0.mk (Kd.R_lower ho0 (below_size (TB3 GE131.out GE132.out GE133.out)))
                have n5_ := Aside0.mk (TKb hb BK131.out)
                have n6_ := Aside0.mk (TKb hb BK132.out)
                have n7_ := Aside0.mk (TKb hb BK133.out)
                have n8_ := Aside0.mk (Kd.C_below (by repeat (first | (with_reducible exact HR144_0.out) | (with_reducible refine Kd.C_alloc ?_ _) | (with_reducible refine Kd.C_drewN ?_ _) | (with_reducible refine Kd.C_drew ?_) | exact HR144_0.out)) hb)
                have n9_ := Aside0.mk (Kd.C_below (by repeat (first | (with_reducible exact HR145_0.out) | (with_reducible refine Kd.C_alloc ?_ _) | (with_reducible refine Kd.C_drewN ?_ _) | (with_reducible refine Kd.C_drew ?_) | exact HR145_0.out)) hb)
                have n10_ := Aside0.mk (below_step (TB3 GE131.out GE132.out GE133.out) hb)
                clear HO_9
                clear HO_10
                clear HL144_0
                clear HL145_0
                clear BK131
                clear BK132
                clear BK133
                clear HR144_0
                clear HR145_0
                clear HB
                have HO_9 := n0_
                have HO_10 := n1_
                have HL144_0 := n2_
                have HL145_0 := n3_
                have HO148 := n4_
                have BK131 := n5_
                have BK132 := n6_
                have BK133 := n7_
                have HR144_0 := n8_
                have HR145_0 := n9_
                have HB := n10_
                clear n0_ n1_ n2_ n3_ n4_ n5_ n6_ n7_ n8_ n9_ n10_
                (try clear hb)
                (try clear hb2)
                (try clear hk)
                (try clear hi)
                (try clear ho0)
                obtain ⟨Ao47, co47, eo47⟩ := Kd.R_slice HO148.out
                (first | subst eo47 | (injection eo47 with f1_ f2_ f3_; have f4_ := f1_.symm; have f5_ := f3_.symm; clear f1_ f2_ f3_; subst f4_; subst f5_))
                refine hK.out _ _ ⟨HS0_, HS1_, HS2_, HS3_⟩ (fun hHeld => ?_)
                clear hK K
                refine norm_ (a' := ?_) ?_ ?_
                rotate_left
                ·show Act.put _ (some 54) _ = _
                 simp only [Act.put, lA, lZ, lS, i64_w, i32_w]
                 rfl
                refine pT 9 55 (bt 26 2047) (k := ?_)
                refine pT 11 57 (bt 26 4095) (k := ?_)
                refine pT 12 58 (bt 26 8191) (k := ?_)
                refine pT 13 59 (bt 26 16383) (k := ?_)
                refine pT 14 60 (bt 26 32767) (k := ?_)
                refine pT 15 61 (bt 26 65535) (k := ?_)
                refine pT 17 63 (bt 26 196607) (k := ?_)
                refine pT 18 64 (bt 26 458751) (k := ?_)
                refine pT 19 65 (bt 26 983039) (k := ?_)
                refine pT 23 69 (bt 26 9371647) (k := ?_)
                refine tT4 16 62 (bt 26 9437183) hHeld (k := ?_)
                refine tT4 20 66 (bt 26 10485759) hHeld (k := ?_)
                refine one_ (i := 21) (N := some 67) (bt 26 12582911) rfl rfl (one_of HT_.out (by kernel_rfl)) (by decide) (fun K hK => ?_)
                have e1_ := Option.some.inj (hHeld.2.2.1.symm.trans hHeld.2.1)
                have e2_ := Option.some.inj (hHeld.2.2.2.symm.trans hHeld.1)
                injection e1_ with f1_ f2_ f3_
                injection e2_ with f4_ f5_ f6_
                subst f1_ f3_ f4_ f6_
                have HR149_0 := HR145_0
                have HR150_0 := HR144_0
                have HL149_0 := HL145_0
                have HL150_0 := HL144_0
                refine goes_ Tryd.func95 (by kernel_rfl) rfl #[.slice A149_0 (rd_L2 x10_1 x13_3).length c149_0, .slice A150_0 (rd_L2 x10_1 x12_2).length c150_0] (by rfl) rfl rfl TM ?_
                with_reducible refine (saronref05_less.calls k3 _ _ (rd_L2 x10_1 x13_3) _ _ (rd_L2 x10_1 x12_2) t151 _ ?side1 ?side2 ?side3 ?side4 A30.out).mono ?_
                (case side1 => repeat (first | exact (by repeat (first | (with_reducible exact HR149_0.out) | (with_reducible refine Kd.C_alloc ?_ _) | (with_reducible refine Kd.C_drewN ?_ _) | (with_reducible refine Kd.C_drew ?_) | exact HR149_0.out)) | (with_reducible refine Kd.C_alloc ?_ _) | (with_reducible refine Kd.C_drewN ?_ _) | (with_reducible refine Kd.C_drew ?_)))
                (case side2 => exact HC149_0.out)
                (case side3 => repeat (first | exact (by repeat (first | (with_reducible exact HR150_0.out) | (with_reducible refine Kd.C_alloc ?_ _) | (with_reducible refine Kd.C_drewN ?_ _) | (with_reducible refine Kd.C_drew ?_) | exact HR150_0.out)) | (with_reducible refine Kd.C_alloc ?_ _) | (with_reducible refine Kd.C_drewN ?_ _) | (with_reducible refine Kd.C_drew ?_)))
                (case side4 => exact HC150_0.out)
                rintro e w48 ⟨v152, rfl, ho0, hb⟩
                have HS0_ := (hb.cell (World.block_lt_of_cell? _ _ (hHeld.1))).trans (hHeld.1)
                have HS1_ := (hb.cell (World.block_lt_of_cell? _ _ (hHeld.2.1))).trans (hHeld.2.1)
                have HS2_ := (hb.cell (World.block_lt_of_cell? _ _ (hHeld.2.2.1))).trans (hHeld.2.2.1)
                have HS3_ := (hb.cell (World.block_lt_of_cell? _ _ (hHeld.2.2.2))).trans (hHeld.2.2.2)
                refine ⟨_, rfl, ?_⟩
                have n0_ := Aside0.mk (Kd.R_below (TRo HO_9.out) hb)
                have n1_ := Aside0.mk (Kd.R_below (TRo HO_10.out) hb)
                have n2_ := Aside0.mk (Kd.R_below (TRo HL144_0.out) hb)
                have n3_ := Aside0.mk (Kd.R_below (TRo HL145_0.out) hb)
                have n4_ := Aside0.mk (Kd.R_elder' (TRo HO148.out) (Kd.R_base ho0) hb)
                have n5_ := Aside0.mk (Kd.R_below (TRo HL149_0.out) hb)
                have n6_ := Aside0.mk (Kd.R_below (TRo HL150_0.out) hb)
                have n7_ := Aside0.mk (Kd.R_lower (Kd.R_new' ho0 (Kd.R_lt (TRo HO148.out))) (below_size (TB3 GE131.out GE132.out GE133.out)))
                have n8_ := Aside0.mk (TKb hb BK131.out)
                have n9_ := Aside0.mk (TKb hb BK132.out)
                have n10_ := Aside0.mk (TKb hb BK133.out)
                have n11_ := Aside0.mk (Kd.C_below (by repeat (first | (with_reducible exact HR144_0.out) | (with_reducible refine Kd.C_alloc ?_ _) | (with_reducible refine Kd.C_drewN ?_ _) | (with_reducible refine Kd.C_drew ?_) | exact HR144_0.out)) hb)
                have n12_ := Aside0.mk (Kd.C_below (by repeat (first | (with_reducible exact HR145_0.out) | (with_reducible refine Kd.C_alloc ?_ _) | (with_reducible refine Kd.C_drewN ?_ _) | (with_reducible refine Kd.C_drew ?_) | exact HR145_0.out)) hb)
                have n13_ := Aside0.mk (Kd.C_below (by repeat (first | (with_reducible exact HR149_0.out) | (with_reducible refine Kd.C_alloc ?_ _) | (with_reducible refine Kd.C_drewN ?_ _) | (with_reducible refine Kd.C_drew ?_) | exact HR149_0.out)) hb)
                have n14_ := Aside0.mk (Kd.C_below (by repeat (first | (with_reducible exact HR150_0.out) | (with_reducible refine Kd.C_alloc ?_ _) | (with_reducible refine Kd.C_drewN ?_ _) | (with_reducible refine Kd.C_drew ?_) | exact HR150_0.out)) hb)
                have n15_ := Aside0.mk (below_step (TB3 GE131.out GE132.out GE133.out) hb)
                clear HO_9
                clear HO_10
                clear HL144_0
                clear HL145_0
                clear HO148
                clear HL149_0
                clear HL150_0
                clear BK131
                clear BK132
                clear BK133
                clear HR144_0
                clear HR145_0
                clear HR149_0
                clear HR150_0
                clear HB
                have HO_9 := n0_
                have HO_10 := n1_
                have HL144_0 := n2_
                have HL145_0 := n3_
                have HO148 := n4_
                have HL149_0 := n5_
                have HL150_0 := n6_
                have HO153 := n7_
                have BK131 := n8_
                have BK132 := n9_
                have BK133 := n10_
                have HR144_0 := n11_
                have HR145_0 := n12_
                have HR149_0 := n13_
                have HR150_0 := n14_
                have HB := n15_
                clear n0_ n1_ n2_ n3_ n4_ n5_ n6_ n7_ n8_ n9_ n10_ n11_ n12_ n13_ n14_ n15_
                (try clear hb)
                (try clear hb2)
                (try clear hk)
                (try clear hi)
                (try clear ho0)
                obtain ⟨Ao49, co49, eo49⟩ := Kd.R_slice HO153.out
                (first | subst eo49 | (injection eo49 with f1_ f2_ f3_; have f4_ := f1_.symm; have f5_ := f3_.symm; clear f1_ f2_ f3_; subst f4_; subst f5_))
                refine hK.out _ _ ⟨HS0_, HS1_, HS2_, HS3_⟩ (fun hHeld => ?_)
                clear hK K
                refine norm_ (a' := ?_) ?_ ?_
                rotate_left
                ·show Act.put _ (some 67) _ = _
                 simp only [Act.put, lA, lZ, lS, i64_w, i32_w]
                 rfl
                refine pT 22 68 (bt 26 16777215) (k := ?_)
                refine pT 24 70 (bt 26 33554431) (k := ?_)
                refine pT 25 71 (bt 26 67108863) (k := ?_)
                refine done_ (done_of HT_.out (by kernel_rfl)) ?_
                try go_wp2
                go_roundg k3
                case measure => have := HK1.out; have := HK2.out; have := HK3.out; omega
                case rel => exact ⟨(wrap64 (x13_3 + 1)), (x133000_3), (x133001_3), (x134000_3), (x134001_3), TT, H', ⟨by have := HK1.out; have := HK2.out; have := HK3.out; omega⟩, ⟨by (with_reducible repeat (first | apply Kd.R_alloc | apply Kd.R_drewN | apply Kd.R_drew)); exact HO_9.out⟩, ⟨by (with_reducible repeat (first | apply Kd.R_alloc | apply Kd.R_drewN | apply Kd.R_drew)); exact HO_10.out⟩, ⟨TK BK131.out⟩, ⟨TK BK132.out⟩, ⟨TK BK133.out⟩, ⟨TB3 GE131.out GE132.out GE133.out⟩⟩
              ·rw [if_neg c29] at H
               have c29b0 : decide ((t146.length : Int) ≤ a1) = false := decide_eq_false c29
               clear c29
               have H' := Aside0.mk H
               clear H
               try go_wp2
               have n0_ := Aside0.mk (Kd.R_drew HO_9.out)
               have n1_ := Aside0.mk (Kd.R_drew HO_10.out)
               have n2_ := Aside0.mk (blk_drew BK131.out)
               have n3_ := Aside0.mk (blk_drew BK132.out)
               have n4_ := Aside0.mk (blk_drew BK133.out)
               have n5_ := Aside0.mk (below_drew1 HB.out)
               clear HO_9
               clear HO_10
               clear BK131
               clear BK132
               clear BK133
               clear HB
               have HO_9 := n0_
               have HO_10 := n1_
               have BK131 := n2_
               have BK132 := n3_
               have BK133 := n4_
               have HB := n5_
               clear n0_ n1_ n2_ n3_ n4_ n5_
               obtain ⟨Ao51, co51, eo51⟩ := Kd.R_slice HO_10.out
               (first | subst eo51 | (injection eo51 with f1_ f2_ f3_; have f4_ := f1_.symm; have f5_ := f3_.symm; clear f1_ f2_ f3_; subst f4_; subst f5_))
               have p144 : 0 ≤ (x12_2 : Int) := of_decide_eq_true TA
               have q144 : x12_2 < (x10_1.length : Int) := of_decide_eq_true TA
               obtain ⟨ad144, A144_0, c144_0, e144, hx144_0, hl144_0, hi144_0⟩ := at_L2 (Kd.R_reads' HO_10.out).2.2 x12_2 p144 q144
               cases e144
               obtain ⟨ce144, hce144, hMe144, hcc144⟩ := Kd.R_get HO_10.out [] x12_2 p144 (by first | exact q144 | exact of_decide_eq_true TA | (have e_ := (Kd.R_reads' HO_10.out).1; omega))
               obtain ⟨ve144_0, rfl, ge144_0⟩ := hMe144
               have hv144_0 := hcc144 0 _ rfl
               rw [Nat.add_zero, show ((Kd.slice 26 (Kd.slice 3 (Kd.int .i64)))).sz = 1 from rfl, Nat.mul_one] at hv144_0
               replace hv144_0 := Option.some.inj (hv144_0.symm.trans hx144_0)
               rw [hv144_0] at ge144_0
               have HL144_0 := Aside0.mk (show Kd.R (Kd.slice 3 (Kd.int .i64)) 26 _ _ _ _ (rd_L2 x10_1 x12_2) from ge144_0)
               clear hv144_0 ge144_0
               clear hcc144 hce144
               have HR144_0 := Aside0.mk hi144_0
               have HC144_0 := Aside0.mk hl144_0
               clear hi144_0 hl144_0
               replace p144 := eq_true p144
               replace q144 := eq_true q144
               have p145 : 0 ≤ (x13_3 : Int) := of_decide_eq_true TA
               have q145 : x13_3 < (x10_1.length : Int) := of_decide_eq_true TA
               obtain ⟨ad145, A145_0, c145_0, e145, hx145_0, hl145_0, hi145_0⟩ := at_L2 (Kd.R_reads' HO_10.out).2.2 x13_3 p145 q145
               obtain rfl : ad144 = ad145 := (by injection e145)
               obtain ⟨ce145, hce145, hMe145, hcc145⟩ := Kd.R_get HO_10.out [] x13_3 p145 (by first | exact q145 | exact of_decide_eq_true TA | (have e_ := (Kd.R_reads' HO_10.out).1; omega))
               obtain ⟨ve145_0, rfl, ge145_0⟩ := hMe145
               have hv145_0 := hcc145 0 _ rfl
               rw [Nat.add_zero, show ((Kd.slice 26 (Kd.slice 3 (Kd.int .i64)))).sz = 1 from rfl, Nat.mul_one] at hv145_0
               replace hv145_0 := Option.some.inj (hv145_0.symm.trans hx145_0)
               rw [hv145_0] at ge145_0
               have HL145_0 := Aside0.mk (show Kd.R (Kd.slice 3 (Kd.int .i64)) 26 _ _ _ _ (rd_L2 x10_1 x13_3) from ge145_0)
               clear hv145_0 ge145_0
               clear hcc145 hce145
               have HR145_0 := Aside0.mk hi145_0
               have HC145_0 := Aside0.mk hl145_0
               clear hi145_0 hl145_0
               replace p145 := eq_true p145
               replace q145 := eq_true q145
               refine start_ (n := 26) (S := fun w' => w'.cell? (ad144.add (x12_2).toNat) = some (.slice A144_0 (rd_L2 x10_1 x12_2).length c144_0) ∧ w'.cell? (ad144.add (x13_3).toNat) = some (.slice A145_0 (rd_L2 x10_1 x13_3).length c145_0)) (ds := []) (.replicate 26 false) (by kernel_rfl) rfl rfl ⟨hx144_0, hx145_0⟩ (fun hHeld => ?_); refine with_tabW saronref05_confused.tab13 saronref05_confused.bits13 (fun HT_ HW_ => ?_)
               generalize wr.drew = w50 at HO_9 HO_10 BK131 BK132 BK133 HB HL144_0 HL145_0 HR144_0 HR145_0 hx144_0 hx145_0 hHeld ⊢
               refine pT 0 46 (bt 26 1) (k := ?_)
               refine pT 1 47 (bt 26 3) (k := ?_)
               refine pT 2 48 (bt 26 7) (k := ?_)
               refine pT 4 50 (bt 26 23) (k := ?_)
               refine pT 5 51 (bt 26 55) (k := ?_)
               refine pT 6 52 (bt 26 119) (k := ?_)
               refine pT 10 56 (bt 26 1143) (k := ?_)
               refine tT2 3 49 (bt 26 1151) hHeld (k := ?_)
               refine tT2 7 53 (bt 26 1279) hHeld (k := ?_)
               refine one_ (i := 8) (N := some 54) (bt 26 1535) rfl rfl (one_of HT_.out (by kernel_rfl)) (by decide) (fun K hK => ?_)
               refine goes_ Tryd.func95 (by kernel_rfl) rfl #[.slice A144_0 (rd_L2 x10_1 x12_2).length c144_0, .slice A145_0 (rd_L2 x10_1 x13_3).length c145_0] (by rfl) rfl rfl TM ?_
               with_reducible refine (saronref05_less.calls k3 _ _ (rd_L2 x10_1 x12_2) _ _ (rd_L2 x10_1 x13_3) t146 _ ?side1 ?side2 ?side3 ?side4 A28.out).mono ?_
               (case side1 => repeat (first | exact (by repeat (first | (with_reducible exact HR144_0.out) | (with_reducible refine Kd.C_alloc ?_ _) | (with_reducible refine Kd.C_drewN ?_ _) | (with_reducible refine Kd.C_drew ?_) | exact HR144_0.out)) | (with_reducible refine Kd.C_alloc ?_ _) | (with_reducible refine Kd.C_drewN ?_ _) | (with_reducible refine Kd.C_drew ?_)))
               (case side2 => exact HC144_0.out)
               (case side3 => repeat (first | exact (by repeat (first | (with_reducible exact HR145_0.out) | (with_reducible refine Kd.C_alloc ?_ _) | (with_reducible refine Kd.C_drewN ?_ _) | (with_reducible refine Kd.C_drew ?_) | exact HR145_0.out)) | (with_reducible refine Kd.C_alloc ?_ _) | (with_reducible refine Kd.C_drewN ?_ _) | (with_reducible refine Kd.C_drew ?_)))
               (case side4 => exact HC145_0.out)
               rintro e w52 ⟨v147, rfl, ho0, hb⟩
               have HS0_ := (hb.cell (World.block_lt_of_cell? _ _ (hHeld.1))).trans (hHeld.1)
               have HS1_ := (hb.cell (World.block_lt_of_cell? _ _ (hHeld.2))).trans (hHeld.2)
               refine ⟨_, rfl, ?_⟩
               have n0_ := Aside0.mk (Kd.R_below (TRo HO_9.out) hb)
               have n1_ := Aside0.mk (Kd.R_below (TRo HO_10.out) hb)
               have n2_ := Aside0.mk (Kd.R_below (TRo HL144_0.out) hb)
               have n3_ := Aside0.mk (Kd.R_below (TRo HL145_0.out) hb)
               have n4_ := Aside0.mk (Kd.R_lower ho0 (below_size (TB3 GE131.out GE132.out GE133.out)))
               have n5_ := Aside0.mk (TKb hb BK131.out)
               have n6_ := Aside0.mk (TKb hb BK132.out)
               have n7_ := Aside0.mk (TKb hb BK133.out)
               have n8_ := Aside0.mk (Kd.C_below (by repeat (first | (with_reducible exact HR144_0.out) | (with_reducible refine Kd.C_alloc ?_ _) | (with_reducible refine Kd.C_drewN ?_ _) | (with_reducible refine Kd.C_drew ?_) | exact HR144_0.out)) hb)
               have n9_ := Aside0.mk (Kd.C_below (by repeat (first | (with_reducible exact HR145_0.out) | (with_reducible refine Kd.C_alloc ?_ _) | (with_reducible refine Kd.C_drewN ?_ _) | (with_reducible refine Kd.C_drew ?_) | exact HR145_0.out)) hb)
               have n10_ := Aside0.mk (below_step (TB3 GE131.out GE132.out GE133.out) hb)
               clear HO_9
               clear HO_10
               clear HL144_0
               clear HL145_0
               clear BK131
               clear BK132
               clear BK133
               clear HR144_0
               clear HR145_0
               clear HB
               have HO_9 := n0_
               have HO_10 := n1_
               have HL144_0 := n2_
               have HL145_0 := n3_
               have HO148 := n4_
               have BK131 := n5_
               have BK132 := n6_
               have BK133 := n7_
               have HR144_0 := n8_
               have HR145_0 := n9_
               have HB := n10_
               clear n0_ n1_ n2_ n3_ n4_ n5_ n6_ n7_ n8_ n9_ n10_
               (try clear hb)
               (try clear hb2)
               (try clear hk)
               (try clear hi)
               (try clear ho0)
               obtain ⟨Ao53, co53, eo53⟩ := Kd.R_slice HO148.out
               (first | subst eo53 | (injection eo53 with f1_ f2_ f3_; have f4_ := f1_.symm; have f5_ := f3_.symm; clear f1_ f2_ f3_; subst f4_; subst f5_))
               refine hK.out _ _ ⟨HS0_, HS1_⟩ (fun hHeld => ?_)
               clear hK K
               refine norm_ (a' := ?_) ?_ ?_
               rotate_left
               ·show Act.put _ (some 54) _ = _
                simp only [Act.put, lA, lZ, lS, i64_w, i32_w]
                rfl
               refine pT 9 55 (bt 26 2047) (k := ?_)
               refine pT 11 57 (bt 26 4095) (k := ?_)
               refine pT 12 58 (bt 26 8191) (k := ?_)
               refine pU 13 59 (bt 26 16383) (k := ?_)
               refine pU 14 60 (bt 26 32767) (k := ?_)
               refine pU 15 61 (bt 26 65535) (k := ?_)
               refine pU 16 62 (bt 26 131071) (k := ?_)
               refine pU 17 63 (bt 26 262143) (k := ?_)
               refine pU 18 64 (bt 26 524287) (k := ?_)
               refine pU 19 65 (bt 26 1048575) (k := ?_)
               refine pU 20 66 (bt 26 2097151) (k := ?_)
               refine pU 21 67 (bt 26 4194303) (k := ?_)
               refine pU 22 68 (bt 26 8388607) (k := ?_)
               refine pU 23 69 (bt 26 16777215) (k := ?_)
               refine pU 24 70 (bt 26 33554431) (k := ?_)
               refine pT 25 71 (bt 26 67108863) (k := ?_)
               refine done_ (done_of HT_.out (by kernel_rfl)) ?_
               try go_wp2
               go_roundg k3
               case measure => have := HK1.out; have := HK2.out; have := HK3.out; omega
               case rel => exact ⟨(wrap64 (x13_3 + 1)), (x133000_3), (x133001_3), (x134000_3), (x134001_3), TT, H', ⟨by have := HK1.out; have := HK2.out; have := HK3.out; omega⟩, ⟨by (with_reducible repeat (first | apply Kd.R_alloc | apply Kd.R_drewN | apply Kd.R_drew)); exact HO_9.out⟩, ⟨by (with_reducible repeat (first | apply Kd.R_alloc | apply Kd.R_drewN | apply Kd.R_drew)); exact HO_10.out⟩, ⟨TK BK131.out⟩, ⟨TK BK132.out⟩, ⟨TK BK133.out⟩, ⟨TB3 GE131.out GE132.out GE133.out⟩⟩
             ·rw [if_neg c27] at H
              exact absurd H (by simp)
            ·rw [if_neg c26] at H
             exact absurd H (by simp)
           ·rw [if_neg c25] at H
            exact absurd H (by simp)
          ·rw [if_neg c24] at H
           exact absurd H (by simp)
         ·rw [if_neg c23] at H
          have c23b0 : decide (x13_3 < (t134.length : Int)) = false := decide_eq_false c23
          clear c23
          have H' := Aside0.mk H
          clear H
          go_wp2
          go_roundg k3
          case measure => have := HK1.out; have := HK2.out; have := HK3.out; omega
          case rel => exact ⟨(wrap64 (x12_2 + 1)), (x133000_3), (x133001_3), (x134000_3), (x134001_3), TT, H', ⟨by have := HK1.out; have := HK2.out; have := HK3.out; omega⟩, ⟨by (with_reducible repeat (first | apply Kd.R_alloc | apply Kd.R_drewN | apply Kd.R_drew)); exact HO_9.out⟩, ⟨by (with_reducible repeat (first | apply Kd.R_alloc | apply Kd.R_drewN | apply Kd.R_drew)); exact HO_10.out⟩, ⟨TK BK131.out⟩, ⟨TK BK132.out⟩, ⟨TK BK133.out⟩, ⟨TB3 GE131.out GE132.out GE133.out⟩⟩
      ·rw [if_neg c22] at H
       have c22b0 : decide (x12_2 < (t134.length : Int)) = false := decide_eq_false c22
       clear c22
       simp only [Option.some.injEq, Prod.mk.injEq] at H
       obtain ⟨rfl, rfl, rfl, rfl, rfl⟩ := H
       have hnb54 := NB132_131.out
       have hnc54 := NB131_132.out
       have hnb55 := NB132_133.out
       have hnc55 := NB133_132.out
       have hcz56_0 := cz BK132.out 0
       have hcz56_1 := cz BK132.out 1
       have hfz56_0 := fz BK132.out 0
       have hfz56_1 := fz BK132.out 1
       have hnb57 := NB133_131.out
       have hnc57 := NB131_133.out
       have hcz58_0 := cz BK133.out 0
       have hcz58_1 := cz BK133.out 1
       have hfz58_0 := fz BK133.out 0
       have hfz58_1 := fz BK133.out 1
       go_wp2
       refine bodyPost_ret (results_list (rs := [.cell 6 38, .cell 7 38, .tmp 8]) rfl (by simp) (.cell gb132 38 #[.int .i64 0, .int .i64 0] (0, 0) _ rfl (by (with_reducible repeat (first | refine blk_drewN ?_ _ | refine blk_drew ?_ | refine blk_alloc ?_ _)); refine blk_far ?_ NB132_133.out _; (with_reducible repeat (first | refine blk_drewN ?_ _ | refine blk_drew ?_ | refine blk_alloc ?_ _)); refine blk_far ?_ NB132_133.out _; (with_reducible repeat (first | refine blk_drewN ?_ _ | refine blk_drew ?_ | refine blk_alloc ?_ _)); refine blk_put (cs := #[.int .i64 0, .int .i64 x133001_2]) ?_ 1 _ rfl; (with_reducible repeat (first | refine blk_drewN ?_ _ | refine blk_drew ?_ | refine blk_alloc ?_ _)); refine blk_put (cs := #[.int .i64 x133000_2, .int .i64 x133001_2]) ?_ 0 _ rfl; (with_reducible repeat (first | refine blk_drewN ?_ _ | refine blk_drew ?_ | refine blk_alloc ?_ _)); exact BK132.out) Tryd.underlying38 rfl (by kernel_rfl) (.cell gb133 38 #[.int .i64 0, .int .i64 0] (0, 0) _ rfl (by (with_reducible repeat (first | refine blk_drewN ?_ _ | refine blk_drew ?_ | refine blk_alloc ?_ _)); refine blk_put (cs := #[.int .i64 0, .int .i64 x134001_2]) ?_ 1 _ rfl; (with_reducible repeat (first | refine blk_drewN ?_ _ | refine blk_drew ?_ | refine blk_alloc ?_ _)); refine blk_put (cs := #[.int .i64 x134000_2, .int .i64 x134001_2]) ?_ 0 _ rfl; (with_reducible repeat (first | refine blk_drewN ?_ _ | refine blk_drew ?_ | refine blk_alloc ?_ _)); refine blk_far ?_ NB133_132.out _; (with_reducible repeat (first | refine blk_drewN ?_ _ | refine blk_drew ?_ | refine blk_alloc ?_ _)); refine blk_far ?_ NB133_132.out _; (with_reducible repeat (first | refine blk_drewN ?_ _ | refine blk_drew ?_ | refine blk_alloc ?_ _)); exact BK133.out) Tryd.underlying38 rfl (by kernel_rfl) (.tmp .nil)))) rfl ?_
       exact ⟨TR, TB3 GE131.out GE132.out GE133.out⟩
end Go.Proofs.YtephecfapclgfaaDoor.PRaspKeys
