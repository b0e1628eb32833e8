import Derived.Test.YtfmpbkolpjlfbaaDoorC0
import Derived.Test.YtfmpbkolpjlfbaaDoorM0
import Derived.Test.YtfmpbkolpjlfbaaDoorProg
import Derived.Below
import Derived.Deep.Draws
import Derived.Deep.AppendLies
import Derived.Maps.AppendAt
import Derived.OwnWalk
import Derived.Laws.BytesArg
import Derived.Laws.MakeOwn
import Derived.Laws.OwnMore
import Derived.Deep.OwnRows
import Derived.Tactics
import Derived.Lib.ConvBytes
import Derived.Laws.Slices
import Derived.WalkKit
import Derived.KernelRfl
import Derived.RowKit3
import Derived.Deep.LoopGhost
import Derived.Deep.QuietTactic
import Derived.BigQuiet
import Derived.WideLaws
import Derived.Deep.DeepCutAuto
import Derived.Deep.CutBlock
import Derived.Deep.RegionHeld3
import Derived.Laws.Rows
import Derived.Lib.AppendStr
import Derived.ArgAppend
import Derived.Laws.IdiomCopy
import Derived.OrdersHeld
import Derived.Laws.BitsLemmas
import Derived.RowKit
set_option linter.unusedVariables false
set_option linter.unusedSimpArgs false
namespace Go.Proofs.YtfmpbkolpjlfbaaDoor.PRaspKeys
open Go.RowKit Go.Proofs.YtfmpbkolpjlfbaaDoorW.PrintWords Go.Proofs.YtfmpbkolpjlfbaaDoorW.PrintLast Go.Proofs.YtfmpbkolpjlfbaaDoorW.PrintMore Go.Proofs.YtfmpbkolpjlfbaaDoor.M
attribute [local go_sem] max2_int min2_int max_two min_two max_three min_three max_four min_four   -- for this text's walks alone
/-! #### struct type 24 -/
/-! #### struct type 57 -/
/-! #### struct type 69 -/
/-! #### struct type 93 -/
end Go.Proofs.YtfmpbkolpjlfbaaDoor.PRaspKeys
namespace Go.Proofs.YtfmpbkolpjlfbaaDoor.PRaspKeys
open Go.RowKit Go.Proofs.YtfmpbkolpjlfbaaDoorW.PrintWords Go.Proofs.YtfmpbkolpjlfbaaDoorW.PrintLast Go.Proofs.YtfmpbkolpjlfbaaDoorW.PrintMore Go.Proofs.YtfmpbkolpjlfbaaDoor.M
attribute [local go_sem] max2_int min2_int max_two min_two max_three min_three max_four min_four   -- for this text's walks alone
/-! ### saronref03_strokes: function 63 -/
def saronref03_strokes.l0 : Nat → List (S93) → Int → Int → Int → Int → Int → Option (Int)
 | 0, _, _, _, _, _, _ => none
 | k + 1, x1, x8, x9, x142000, x142001, x142002 => if x9 ≤ x142001 then (if 0 ≤ x142002 then (if x142002 < (x1.length : Int) then ((saronref03_row_at.f ((rd_T93 x1 x142002).f0) x9).bind fun t143 => (saronref03_strokes.l0 k x1 (mx x8 t143) (wrap64 (x9 + 1)) x142000 x142001 x142002)) else (none)) else (none)) else (some x8)
def saronref03_strokes.f (k : Nat) (l0_0 : List (S57)) (a0_1 : Int) (a0_2 : Int) (l0_3 : List (S69)) (l1 : List (S93)) (a2 : Int) : Option (Int) := if 0 ≤ a2 then (if a2 < (l0_3.length : Int) then (saronref03_strokes.l0 k l1 0 ((rd_T69 l0_3 a2).f0.f0) ((rd_T69 l0_3 a2).f0.f0) ((rd_T69 l0_3 a2).f0.f1) ((rd_T69 l0_3 a2).f1)) else (none)) else (none)
theorem saronref03_strokes.mono_l : ∀ k, (∀ y0 y1 y2 y3 y4 y5, LeO (saronref03_strokes.l0 k y0 y1 y2 y3 y4 y5) (saronref03_strokes.l0 (k + 1) y0 y1 y2 y3 y4 y5))
 | 0 => fun _ _ _ _ _ _ r h => by simp [saronref03_strokes.l0] at h
 | k + 1 => by
  have ih0 := saronref03_strokes.mono_l k
  ·intro y0 y1 y2 y3 y4 y5
   unfold saronref03_strokes.l0
   repeat' first
   | (with_reducible exact ih0 _ _ _ _ _ _)
   | (with_reducible exact LeO.refl _)
   | (with_reducible exact LeO.none _)
   | (with_reducible refine LeO.ite ?_ ?_)
   | (with_reducible refine LeO.bind ?_ (fun _ => ?_))
   | exact ih0 _ _ _ _ _ _
   | exact LeO.none _
   | refine LeO.ite ?_ ?_
   | refine LeO.bind ?_ (fun _ => ?_)
theorem saronref03_strokes.mono : ∀ a0 a1 a2 a3 a4 a5 k, LeO (saronref03_strokes.f k a0 a1 a2 a3 a4 a5) (saronref03_strokes.f (k + 1) a0 a1 a2 a3 a4 a5) := by
 intro a0 a1 a2 a3 a4 a5 k
 have ih0 := saronref03_strokes.mono_l k
 unfold saronref03_strokes.f
 repeat' first
   | (with_reducible exact ih0 _ _ _ _ _ _)
   | (with_reducible exact LeO.refl _)
   | (with_reducible exact LeO.none _)
   | (with_reducible refine LeO.ite ?_ ?_)
   | (with_reducible refine LeO.bind ?_ (fun _ => ?_))
   | exact ih0 _ _ _ _ _ _
   | exact LeO.none _
   | refine LeO.ite ?_ ?_
   | refine LeO.bind ?_ (fun _ => ?_)
set_option maxHeartbeats 8000000 in
set_option maxRecDepth 100000 in
theorem saronref03_strokes.calls (k : Nat) (A0_0 : Option Addr) (c0_0 : Nat) (l0_0 : List (S57)) (a0_1 : Int) (a0_2 : Int) (A0_3 : Option Addr) (c0_3 : Nat) (l0_3 : List (S69)) (A1 : Option Addr) (c1 : Nat) (l1 : List (S93)) (a2 : Int) (r : Int) (w : World) (hr0_0 : Kd.C k57 w A0_0 l0_0.length l0_0) (hc0_0 : l0_0.length ≤ c0_0) (hr0_3 : Kd.C k69 w A0_3 l0_3.length l0_3) (hc0_3 : l0_3.length ≤ c0_3) (hr1 : Kd.C k93 w A1 l1.length l1) (hc1 : l1.length ≤ c1) (h : saronref03_strokes.f k l0_0 a0_1 a0_2 l0_3 l1 a2 = some r) :
  Calls Tryd.prog 63 #[.agg #[.slice A0_0 l0_0.length c0_0, .int .i64 a0_1, .int .i64 a0_2, .slice A0_3 l0_3.length c0_3], .slice A1 l1.length c1, .int .i64 a2] w fun e w' => e = .returned (.int .i64 r) ∧ Below w.heap.size w w' := by
 have hu27 := Tryd.underlying27
 have hu69 := Tryd.underlying69
 have hu93 := Tryd.underlying93
 have HR0_0 := Aside0.mk hr0_0
 have HC0_0 := Aside0.mk hc0_0
 clear hr0_0 hc0_0
 have HR0_3 := Aside0.mk hr0_3
 have HC0_3 := Aside0.mk hc0_3
 clear hr0_3 hc0_3
 have HR1 := Aside0.mk hr1
 have HC1 := Aside0.mk hc1
 clear hr1 hc1
 have HB := Aside0.mk (Below.refl w.heap.size w)
 have H : (if 0 ≤ a2 then (if a2 < (l0_3.length : Int) then (saronref03_strokes.l0 k l1 0 ((rd_T69 l0_3 a2).f0.f0) ((rd_T69 l0_3 a2).f0.f0) ((rd_T69 l0_3 a2).f0.f1) ((rd_T69 l0_3 a2).f1)) else (none)) else (none)) = some r := h
 clear h
 by_cases c4 : 0 ≤ a2
 ·rw [if_pos c4] at H
  have c4b0 : decide (0 ≤ a2) = true := decide_eq_true c4
  clear c4
  by_cases c5 : a2 < (l0_3.length : Int)
  ·rw [if_pos c5] at H
   have c5b0 : decide (a2 < (l0_3.length : Int)) = true := decide_eq_true c5
   clear c5
   have H' := Aside0.mk H
   clear H
   go_enter Tryd.func63, Tryd.ntmps63
   go_wp2_with (first | ((with_reducible refine gate_dst (N := 3) rfl ?_); refine box_event ?hg (N := 3) ?hd (cs := #[.slice A0_0 l0_0.length c0_0, .int .i64 a0_1, .int .i64 a0_2, .slice A0_3 l0_3.length c0_3]) (t := 27) ?hr ?_; (case hd => rfl); (case hg => rfl); (case hr => exact TS); intro gb139 hg w6 hbox hb; have BK139 := Aside0.mk (hbox); have GW139 := Aside0.mk ((TG : w.heap.size ≤ gb139)); have GE139 := Aside0.mk ((TG : w.heap.size ≤ gb139)); replace HB := Aside0.mk (below_step TB hb); clear hb hbox hg; have hcz7_0 := cz BK139.out 0; have hcz7_1 := cz BK139.out 1; have hcz7_2 := cz BK139.out 2; have hcz7_3 := cz BK139.out 3; have hfz7_0 := fz BK139.out 0; have hfz7_1 := fz BK139.out 1; have hfz7_2 := fz BK139.out 2; have hfz7_3 := fz BK139.out 3; have p140 : 0 ≤ (a2 : Int) := of_decide_eq_true TA; have q140 : a2 < (l0_3.length : Int) := of_decide_eq_true TA; obtain ⟨ad140, e140, hx140_0, hx140_1, hx140_2⟩ := at_T69 HR0_3.out a2 p140 q140; cases e140; replace hx140_0 := hx HB.out hx140_0; replace hx140_1 := hx HB.out hx140_1; replace hx140_2 := hx HB.out hx140_2; replace p140 := eq_true p140; replace q140 := eq_true q140) | ((with_reducible refine gate_dst (N := 7) rfl ?_); refine box_event ?hg (N := 7) ?hd (cs := #[.int .i64 0, .int .i64 0, .int .i64 0]) (t := 69) ?hr ?_; (case hd => rfl); (case hg => rfl); (case hr => exact TS); intro gb141 hg w8 hbox hb; have BK141 := Aside0.mk (hbox); have GW141 := Aside0.mk ((TG1 GE139.out : w.heap.size ≤ gb141)); have GE141 := Aside0.mk ((TG1 GE139.out : w.heap.size ≤ gb141)); have NB139_141 := Aside0.mk ((by rw [hg]; exact Nat.ne_of_lt (blk_lt (g := gb139) (o := .cells #[.slice A0_0 l0_0.length c0_0, .int .i64 a0_1, .int .i64 a0_2, .slice (some ad140) l0_3.length c0_3] 27 (0, 0)) (TK BK139.out)) : gb139 ≠ gb141)); have NB141_139 := Aside0.mk ((by rw [hg]; exact Nat.ne_of_gt (blk_lt (g := gb139) (o := .cells #[.slice A0_0 l0_0.length c0_0, .int .i64 a0_1, .int .i64 a0_2, .slice (some ad140) l0_3.length c0_3] 27 (0, 0)) (TK BK139.out)) : gb141 ≠ gb139)); replace BK139 := Aside0.mk (TKb hb BK139.out); replace HB := Aside0.mk (below_step (TB1 GE139.out) hb); clear hb hbox hg; have hnb9 := NB141_139.out; have hnc9 := NB139_141.out; have hcz10_0 := cz BK141.out 0; have hcz10_1 := cz BK141.out 1; have hcz10_2 := cz BK141.out 2; have hfz10_0 := fz BK141.out 0; have hfz10_1 := fz BK141.out 1; have hfz10_2 := fz BK141.out 2))
   go_loopg [8, 9] k (fun kq v8 v9 w' => ∃ (x8_1 : Int) (x9_1 : Int), v8 = .int .i64 x8_1 ∧ v9 = .int .i64 x9_1 ∧ Aside0 (saronref03_strokes.l0 kq l1 x8_1 x9_1 ((rd_T69 l0_3 a2).f0.f0) ((rd_T69 l0_3 a2).f0.f1) ((rd_T69 l0_3 a2).f1) = some r) ∧ Aside0 (kq ≤ k) ∧ Aside0 (w'.heap[gb139]? = some (.cells #[(.slice A0_0 l0_0.length c0_0), .int .i64 a0_1, .int .i64 a0_2, (.slice (some ad140) l0_3.length c0_3)] 27 (0, 0))) ∧ Aside0 (w'.heap[gb141]? = some (.cells #[.int .i64 ((rd_T69 l0_3 a2).f0.f0), .int .i64 ((rd_T69 l0_3 a2).f0.f1), .int .i64 ((rd_T69 l0_3 a2).f1)] 69 (0, 0))) ∧ Aside0 (Below w.heap.size w w'))
   case atStart => exact ⟨(0), ((rd_T69 l0_3 a2).f0.f0), TT, TT, H', ⟨Nat.le_refl _⟩, ⟨by (with_reducible repeat (first | refine blk_drewN ?_ _ | refine blk_drew ?_ | refine blk_alloc ?_ _)); refine blk_far ?_ NB139_141.out _; (with_reducible repeat (first | refine blk_drewN ?_ _ | refine blk_drew ?_ | refine blk_alloc ?_ _)); refine blk_far ?_ NB139_141.out _; (with_reducible repeat (first | refine blk_drewN ?_ _ | refine blk_drew ?_ | refine blk_alloc ?_ _)); refine blk_far ?_ NB139_141.out _; (with_reducible repeat (first | refine blk_drewN ?_ _ | refine blk_drew ?_ | refine blk_alloc ?_ _)); exact BK139.out⟩, ⟨by (with_reducible repeat (first | refine blk_drewN ?_ _ | refine blk_drew ?_ | refine blk_alloc ?_ _)); refine blk_put (cs := #[.int .i64 ((rd_T69 l0_3 a2).f0.f0), .int .i64 ((rd_T69 l0_3 a2).f0.f1), .int .i64 0]) ?_ 2 _ rfl; (with_reducible repeat (first | refine blk_drewN ?_ _ | refine blk_drew ?_ | refine blk_alloc ?_ _)); refine blk_put (cs := #[.int .i64 ((rd_T69 l0_3 a2).f0.f0), .int .i64 0, .int .i64 0]) ?_ 1 _ rfl; (with_reducible repeat (first | refine blk_drewN ?_ _ | refine blk_drew ?_ | refine blk_alloc ?_ _)); refine blk_put (cs := #[.int .i64 0, .int .i64 0, .int .i64 0]) ?_ 0 _ rfl; (with_reducible repeat (first | refine blk_drewN ?_ _ | refine blk_drew ?_ | refine blk_alloc ?_ _)); exact BK141.out⟩, ⟨TB2 GE139.out GE141.out⟩⟩
   case round =>
    clear H'
    try clear c1
    try clear p1
    try clear q1
    try clear hx1
    try clear p2
    try clear c4
    try clear c4b0
    try clear c5
    try clear c5b0
    try clear c6
    try clear c9
    try clear hcz10_0 hcz10_1 hcz10_2
    try clear hcz7_0 hcz7_1 hcz7_2 hcz7_3
    try clear hfz10_0 hfz10_1 hfz10_2
    try clear hfz7_0 hfz7_1 hfz7_2 hfz7_3
    try clear hx140_0
    try clear hx140_1
    try clear hx140_2
    try clear p140
    try clear q140
    obtain ⟨x8_1, x9_1, rfl, rfl, HA, HK1, BK139, BK141, HB⟩ := hrel
    cases gk with
    | zero => exact absurd HA.out (by simp [saronref03_strokes.l0])
    | succ k1 =>
     have H := HA.out
     clear HA
     simp only [saronref03_strokes.l0] at H
     by_cases c11 : x9_1 ≤ ((rd_T69 l0_3 a2).f0.f1)
     ·rw [if_pos c11] at H
      have c11b0 : decide (x9_1 ≤ ((rd_T69 l0_3 a2).f0.f1)) = true := decide_eq_true c11
      clear c11
      by_cases c12 : 0 ≤ ((rd_T69 l0_3 a2).f1)
      ·rw [if_pos c12] at H
       have c12b0 : decide (0 ≤ ((rd_T69 l0_3 a2).f1)) = true := decide_eq_true c12
       clear c12
       by_cases c13 : ((rd_T69 l0_3 a2).f1) < (l1.length : Int)
       ·rw [if_pos c13] at H
        have c13b0 : decide (((rd_T69 l0_3 a2).f1) < (l1.length : Int)) = true := decide_eq_true c13
        clear c13
        replace H := Option.bind_eq_some_iff.mp H
        obtain ⟨t143, A140, H⟩ := H
        replace H : (saronref03_strokes.l0 k1 l1 (mx x8_1 t143) (wrap64 (x9_1 + 1)) ((rd_T69 l0_3 a2).f0.f0) ((rd_T69 l0_3 a2).f0.f1) ((rd_T69 l0_3 a2).f1)) = some r := H
        have A14 := Aside0.mk A140
        clear A140
        obtain ⟨ji15, hji15⟩ : ∃ j_ : Int, (mx x8_1 t143) = j_ := ⟨_, rfl⟩
        replace H : (saronref03_strokes.l0 k1 l1 ji15 (wrap64 (x9_1 + 1)) ((rd_T69 l0_3 a2).f0.f0) ((rd_T69 l0_3 a2).f0.f1) ((rd_T69 l0_3 a2).f1)) = some r := by first | (rw [hji15] at H; exact H) | (simp only [hji15] at H ⊢; exact H)
        (try rw [hji15] at A14)
        have hji15_ : (if x8_1 < t143 then t143 else x8_1) = ji15 := hji15
        have H' := Aside0.mk H
        clear H
        have hnb16 := NB141_139.out
        have hnc16 := NB139_141.out
        have hcz17_0 := cz BK141.out 0
        have hcz17_1 := cz BK141.out 1
        have hcz17_2 := cz BK141.out 2
        have hfz17_0 := fz BK141.out 0
        have hfz17_1 := fz BK141.out 1
        have hfz17_2 := fz BK141.out 2
        have p142 : 0 ≤ (((rd_T69 l0_3 a2).f1) : Int) := of_decide_eq_true TA
        have q142 : ((rd_T69 l0_3 a2).f1) < (l1.length : Int) := of_decide_eq_true TA
        obtain ⟨ad142, A142_0, c142_0, e142, hx142_0, hl142_0, hi142_0⟩ := at_T93 HR1.out ((rd_T69 l0_3 a2).f1) p142 q142
        cases e142
        replace hx142_0 := hx HB.out hx142_0
        have HR142_0 := Aside0.mk hi142_0
        have HC142_0 := Aside0.mk hl142_0
        clear hi142_0 hl142_0
        replace p142 := eq_true p142
        replace q142 := eq_true q142
        go_wp2_with (first | ((with_reducible refine gate_callee (f := 61) rfl ?_); refine goesL_ (some 32) rfl rfl Tryd.func61 (by kernel_rfl) rfl #[.agg #[.slice A142_0 ((rd_T93 l1 ((rd_T69 l0_3 a2).f1)).f0).length c142_0], .int .i64 x9_1] rfl TM ?_; (with_reducible refine (saronref03_row_at.calls _ _ ((rd_T93 l1 ((rd_T69 l0_3 a2).f1)).f0) x9_1 t143 _ ?side1 ?side2 A14.out).mono ?_); (case side1 => exact TC HR142_0.out); (case side2 => exact HC142_0.out); rintro e w18 ⟨rfl, hb⟩; refine ⟨_, rfl, ?_⟩; replace BK139 := Aside0.mk (TKb hb BK139.out); replace BK141 := Aside0.mk (TKb hb BK141.out); replace HB := Aside0.mk (below_step (TB2 GE139.out GE141.out) hb); (try clear hb); (try clear hb2); (try clear hk); (try clear hi)))
        go_roundg k1
        case measure => have := HK1.out; omega
        case rel => exact ⟨(ji15), (wrap64 (x9_1 + 1)), (by first | rfl | (simp; done) | (simp only [← hji15] <;> (first | rfl | simp)) | (simp [*]; done)), TT, H', ⟨by have := HK1.out; omega⟩, ⟨TK BK139.out⟩, ⟨TK BK141.out⟩, ⟨TB2 GE139.out GE141.out⟩⟩
       ·rw [if_neg c13] at H
        exact absurd H (by simp)
      ·rw [if_neg c12] at H
       exact absurd H (by simp)
     ·rw [if_neg c11] at H
      have c11b0 : decide (x9_1 ≤ ((rd_T69 l0_3 a2).f0.f1)) = false := decide_eq_false c11
      clear c11
      obtain rfl := Option.some.inj H
      have hnb19 := NB141_139.out
      have hnc19 := NB139_141.out
      have hcz20_0 := cz BK141.out 0
      have hcz20_1 := cz BK141.out 1
      have hcz20_2 := cz BK141.out 2
      have hfz20_0 := fz BK141.out 0
      have hfz20_1 := fz BK141.out 1
      have hfz20_2 := fz BK141.out 2
      go_wp2
      go_ret
      exact ⟨TR, TB2 GE139.out GE141.out⟩
  ·rw [if_neg c5] at H
   exact absurd H (by simp)
 ·rw [if_neg c4] at H
  exact absurd H (by simp)
/-! ### saronref03_Strokes: function 24 -/
def saronref03_Strokes.f (k : Nat) (l0_0 : List (S57)) (a0_1 : Int) (a0_2 : Int) (l0_3 : List (S69)) (a1 : Int) : Option (Int × Int) := (saronref00_Sits.f a1 0 (wrap64 ((l0_3.length : Int) - 1))).bind fun t145 => ((saronref03_asked.f k l0_0 a0_1 a0_2 l0_3 t145).bind fun t146 => (if t146 = 0 then ((saronref03_rows.f k l0_0 a0_1 a0_2 l0_3 true).bind fun t147 => ((saronref03_strokes.f k l0_0 a0_1 a0_2 l0_3 t147 a1).bind fun t150 => (if t150 = 1000 then (some (0, 4)) else (some (t150, 0))))) else (some (0, t146))))
theorem saronref03_Strokes.mono : ∀ a0 a1 a2 a3 a4 k, LeO (saronref03_Strokes.f k a0 a1 a2 a3 a4) (saronref03_Strokes.f (k + 1) a0 a1 a2 a3 a4) := by
 intro a0 a1 a2 a3 a4 k
 unfold saronref03_Strokes.f
 repeat' first
   | (with_reducible exact saronref03_asked.mono _ _ _ _ _ _)
   | (with_reducible exact saronref03_rows.mono _ _ _ _ _ _)
   | (with_reducible exact saronref03_strokes.mono _ _ _ _ _ _ _)
   | (with_reducible exact LeO.refl _)
   | (with_reducible exact LeO.none _)
   | (with_reducible refine LeO.ite ?_ ?_)
   | (with_reducible refine LeO.bind ?_ (fun _ => ?_))
   | exact saronref03_asked.mono _ _ _ _ _ _
   | exact saronref03_rows.mono _ _ _ _ _ _
   | exact saronref03_strokes.mono _ _ _ _ _ _ _
   | exact LeO.none _
   | refine LeO.ite ?_ ?_
   | refine LeO.bind ?_ (fun _ => ?_)
def saronref03_Strokes.T1 : Bool × List (List Nat × List Nat) := (true, [([], []), ([], []), ([], []), ([2], [2]), ([3], [3]), ([4], [4]), ([1, 5], [1, 5]), ([0, 6, 6], [0, 6]), ([7, 7, 0, 1, 2, 3, 4, 5, 6, 7], [7])])
def saronref03_Strokes.B1 : List Nat := [0, 0, 0, 4, 12, 28, 62, 127, 255]
theorem saronref03_Strokes.tab1 : rtab .any (opsOf Tryd.f24 1) = saronref03_Strokes.T1 := by kernel_rfl
theorem saronref03_Strokes.bits1 : waitsOk saronref03_Strokes.T1.2 saronref03_Strokes.B1 = true := by kernel_rfl
set_option maxHeartbeats 8000000 in
set_option maxRecDepth 100000 in
theorem saronref03_Strokes.calls (k : Nat) (A0_0 : Option Addr) (c0_0 : Nat) (l0_0 : List (S57)) (a0_1 : Int) (a0_2 : Int) (A0_3 : Option Addr) (c0_3 : Nat) (l0_3 : List (S69)) (a1 : Int) (r1 : Int) (r2 : Int) (w : World) (hr0_0 : Kd.C k57 w A0_0 l0_0.length l0_0) (hc0_0 : l0_0.length ≤ c0_0) (hr0_3 : Kd.C k69 w A0_3 l0_3.length l0_3) (hc0_3 : l0_3.length ≤ c0_3) (h : saronref03_Strokes.f k l0_0 a0_1 a0_2 l0_3 a1 = some (r1, r2)) :
  Calls Tryd.prog 24 #[.agg #[.slice A0_0 l0_0.length c0_0, .int .i64 a0_1, .int .i64 a0_2, .slice A0_3 l0_3.length c0_3], .int .i64 a1] w fun e w' => e = .returned (.tuple #[.int .i64 r1, .int .i64 r2]) ∧ Below w.heap.size w w' := by
 have hu27 := Tryd.underlying27
 have HR0_0 := Aside0.mk hr0_0
 have HC0_0 := Aside0.mk hc0_0
 clear hr0_0 hc0_0
 have HR0_3 := Aside0.mk hr0_3
 have HC0_3 := Aside0.mk hc0_3
 clear hr0_3 hc0_3
 have HB := Aside0.mk (Below.refl w.heap.size w)
 have H : ((saronref00_Sits.f a1 0 (wrap64 ((l0_3.length : Int) - 1))).bind fun t145 => ((saronref03_asked.f k l0_0 a0_1 a0_2 l0_3 t145).bind fun t146 => (if t146 = 0 then ((saronref03_rows.f k l0_0 a0_1 a0_2 l0_3 true).bind fun t147 => ((saronref03_strokes.f k l0_0 a0_1 a0_2 l0_3 t147 a1).bind fun t150 => (if t150 = 1000 then (some (0, 4)) else (some (t150, 0))))) else (some (0, t146))))) = some (r1, r2) := h
 clear h
 replace H := Option.bind_eq_some_iff.mp H
 obtain ⟨t145, A30, H⟩ := H
 replace H : ((saronref03_asked.f k l0_0 a0_1 a0_2 l0_3 t145).bind fun t146 => (if t146 = 0 then ((saronref03_rows.f k l0_0 a0_1 a0_2 l0_3 true).bind fun t147 => ((saronref03_strokes.f k l0_0 a0_1 a0_2 l0_3 t147 a1).bind fun t150 => (if t150 = 1000 then (some (0, 4)) else (some (t150, 0))))) else (some (0, t146)))) = some (r1, r2) := H
 have A3 := Aside0.mk A30
 clear A30
 replace H := Option.bind_eq_some_iff.mp H
 obtain ⟨t146, A40, H⟩ := H
 replace H : (if t146 = 0 then ((saronref03_rows.f k l0_0 a0_1 a0_2 l0_3 true).bind fun t147 => ((saronref03_strokes.f k l0_0 a0_1 a0_2 l0_3 t147 a1).bind fun t150 => (if t150 = 1000 then (some (0, 4)) else (some (t150, 0))))) else (some (0, t146))) = some (r1, r2) := H
 have A4 := Aside0.mk A40
 clear A40
 by_cases c5 : t146 = 0
 ·rw [if_pos c5] at H
  have c5b0 : (t146 == 0) = true := beq_iff_eq.mpr c5
  have c5b1 : (t146 != 0) = false := bne_eq_false_iff_eq.mpr c5
  clear c5
  replace H := Option.bind_eq_some_iff.mp H
  obtain ⟨t147, A60, H⟩ := H
  replace H : ((saronref03_strokes.f k l0_0 a0_1 a0_2 l0_3 t147 a1).bind fun t150 => (if t150 = 1000 then (some (0, 4)) else (some (t150, 0)))) = some (r1, r2) := H
  have A6 := Aside0.mk A60
  clear A60
  replace H := Option.bind_eq_some_iff.mp H
  obtain ⟨t150, A70, H⟩ := H
  replace H : (if t150 = 1000 then (some (0, 4)) else (some (t150, 0))) = some (r1, r2) := H
  have A7 := Aside0.mk A70
  clear A70
  by_cases c8 : t150 = 1000
  ·rw [if_pos c8] at H
   have c8b0 : (t150 == 1000) = true := beq_iff_eq.mpr c8
   have c8b1 : (t150 != 1000) = false := bne_eq_false_iff_eq.mpr c8
   clear c8
   simp only [Option.some.injEq, Prod.mk.injEq] at H
   obtain ⟨rfl, rfl⟩ := H
   go_enter Tryd.func24, Tryd.ntmps24
   try go_wp2_with (first | ((with_reducible refine gate_dst (N := 2) rfl ?_); refine box_event ?hg (N := 2) ?hd (cs := #[.slice A0_0 l0_0.length c0_0, .int .i64 a0_1, .int .i64 a0_2, .slice A0_3 l0_3.length c0_3]) (t := 27) ?hr ?_; (case hd => rfl); (case hg => rfl); (case hr => exact TS); intro gb144 hg w9 hbox hb; have BK144 := Aside0.mk (hbox); have GW144 := Aside0.mk ((TG : w.heap.size ≤ gb144)); have GE144 := Aside0.mk ((TG : w.heap.size ≤ gb144)); replace HB := Aside0.mk (below_step TB hb); clear hb hbox hg))
   have n0_ := Aside0.mk (blk_drew BK144.out)
   have n1_ := Aside0.mk (below_drew1 HB.out)
   clear BK144
   clear HB
   have BK144 := n0_
   have HB := n1_
   clear n0_ n1_
   refine start_ (n := 9) (S := fun w' => w'.cell? ⟨gb144, 0, none⟩ = some (.slice A0_0 l0_0.length c0_0) ∧ w'.cell? ⟨gb144, 1, none⟩ = some (.int .i64 a0_1) ∧ w'.cell? ⟨gb144, 2, none⟩ = some (.int .i64 a0_2) ∧ w'.cell? ⟨gb144, 3, none⟩ = some (.slice A0_3 l0_3.length c0_3)) (ds := []) (.replicate 9 false) (by kernel_rfl) rfl rfl ⟨cz BK144.out 0, cz BK144.out 1, cz BK144.out 2, cz BK144.out 3⟩ (fun hHeld => ?_); refine with_tabW saronref03_Strokes.tab1 saronref03_Strokes.bits1 (fun HT_ HW_ => ?_)
   generalize w9.drew = w10 at BK144 HB hHeld ⊢
   refine pT 1 9 (bt 9 2) (k := ?_)
   refine pT 2 10 (bt 9 6) (k := ?_)
   refine tT4 0 8 (bt 9 7) hHeld (k := ?_)
   refine tT4 3 11 (bt 9 15) hHeld (k := ?_)
   refine pT 4 12 (bt 9 31) (k := ?_)
   refine pT 5 13 (bt 9 63) (k := ?_)
   refine one_ (i := 6) (N := some 14) (bt 9 127) rfl rfl (one_of HT_.out (by kernel_rfl)) (by decide) (fun K hK => ?_)
   refine goes_ Tryd.func39 (by kernel_rfl) rfl #[.int .i64 a1, .int .i64 0, .int .i64 (wrap64 ((l0_3.length : Int) - 1))] (by rfl) rfl rfl TM ?_
   with_reducible refine (saronref00_Sits.calls a1 0 (wrap64 ((l0_3.length : Int) - 1)) t145 _ A3.out).mono ?_
   rintro e w' ⟨rfl, ⟨nd, rfl⟩⟩
   refine ⟨_, rfl, ?_⟩
   refine hK.out _ _ ⟨cz BK144.out 0, cz BK144.out 1, cz BK144.out 2, cz BK144.out 3⟩ (fun hHeld => ?_)
   clear hK K
   refine norm_ (a' := ?_) ?_ ?_
   rotate_left
   ·show Act.put _ (some 14) _ = _
    simp only [Act.put, lA, lZ, lS, i64_w, i32_w]
    rfl
   refine one_ (i := 7) (N := some 15) (bt 9 255) rfl rfl (one_of HT_.out (by kernel_rfl)) (by decide) (fun K hK => ?_)
   refine goes_ Tryd.func54 (by kernel_rfl) rfl #[.agg #[.slice A0_0 l0_0.length c0_0, .int .i64 a0_1, .int .i64 a0_2, .slice A0_3 l0_3.length c0_3], .bool t145] (by rfl) rfl rfl TM ?_
   with_reducible refine (saronref03_asked.calls k _ _ l0_0 a0_1 a0_2 _ _ l0_3 t145 t146 _ ?side1 ?side2 ?side3 ?side4 A4.out).mono ?_
   (case side1 => exact TD HR0_0.out (TB1 GE144.out))
   (case side2 => exact HC0_0.out)
   (case side3 => exact TD HR0_3.out (TB1 GE144.out))
   (case side4 => exact HC0_3.out)
   rintro e w11 ⟨rfl, hb⟩
   refine ⟨_, rfl, ?_⟩
   have n0_ := Aside0.mk (TKb hb BK144.out)
   have n1_ := Aside0.mk (below_step (TB1 GE144.out) hb)
   clear BK144
   clear HB
   have BK144 := n0_
   have HB := n1_
   clear n0_ n1_
   (try clear hb)
   (try clear hb2)
   (try clear hk)
   (try clear hi)
   refine hK.out _ _ ⟨cz BK144.out 0, cz BK144.out 1, cz BK144.out 2, cz BK144.out 3⟩ (fun hHeld => ?_)
   clear hK K
   refine norm_ (a' := ?_) ?_ ?_
   rotate_left
   ·show Act.put _ (some 15) _ = _
    simp only [Act.put, lA, lZ, lS, i64_w, i32_w]
    rfl
   refine pT 8 6 (bt 9 511) (k := ?_)
   refine done_ (done_of HT_.out (by kernel_rfl)) ?_
   try go_wp2
   have n0_ := Aside0.mk (blk_drew BK144.out)
   have n1_ := Aside0.mk (below_drew1 HB.out)
   clear BK144
   clear HB
   have BK144 := n0_
   have HB := n1_
   clear n0_ n1_
   refine start_ (n := 6) (S := fun w' => w'.cell? ⟨gb144, 0, none⟩ = some (.slice A0_0 l0_0.length c0_0) ∧ w'.cell? ⟨gb144, 1, none⟩ = some (.int .i64 a0_1) ∧ w'.cell? ⟨gb144, 2, none⟩ = some (.int .i64 a0_2) ∧ w'.cell? ⟨gb144, 3, none⟩ = some (.slice A0_3 l0_3.length c0_3)) (ds := []) (.replicate 6 false) (by kernel_rfl) rfl rfl ⟨cz BK144.out 0, cz BK144.out 1, cz BK144.out 2, cz BK144.out 3⟩ (fun hHeld => ?_)
   generalize w11.drew = w12 at BK144 HB hHeld ⊢
   refine pu 3 22 (bt 6 8) (k := ?_)
   refine tk4 0 19 (bt 6 9) hHeld (k := ?_)
   refine tk4 1 20 (bt 6 11) hHeld (k := ?_)
   refine oN 2 21 (bt 6 15) (h := fun K hK => ?_)
   refine goes_ Tryd.func57 (by kernel_rfl) rfl #[.agg #[.slice A0_0 l0_0.length c0_0, .int .i64 a0_1, .int .i64 a0_2, .slice A0_3 l0_3.length c0_3], .bool true] (by rfl) rfl rfl TM ?_
   with_reducible refine (saronref03_rows.calls k _ _ l0_0 a0_1 a0_2 _ _ l0_3 true t147 _ ?side1 ?side2 ?side3 ?side4 A6.out).mono ?_
   (case side1 => exact TC HR0_0.out)
   (case side2 => exact HC0_0.out)
   (case side3 => exact TC HR0_3.out)
   (case side4 => exact HC0_3.out)
   rintro e w13 ⟨v148, rfl, ho0, hb⟩
   refine ⟨_, rfl, ?_⟩
   have n0_ := Aside0.mk (Kd.S_lower ho0 (below_size (TB1 GE144.out)))
   have n1_ := Aside0.mk (TKb hb BK144.out)
   have n2_ := Aside0.mk (below_step (TB1 GE144.out) hb)
   clear BK144
   clear HB
   have HO149 := n0_
   have BK144 := n1_
   have HB := n2_
   clear n0_ n1_ n2_
   (try clear hb)
   (try clear hb2)
   (try clear hk)
   (try clear hi)
   (try clear ho0)
   obtain ⟨Ao14, co14, eo14⟩ := Kd.S_slice HO149.out
   (first | subst eo14 | (injection eo14 with f1_ f2_ f3_; have f4_ := f1_.symm; have f5_ := f3_.symm; clear f1_ f2_ f3_; subst f4_; subst f5_))
   refine hK.out _ _ ⟨cz BK144.out 0, cz BK144.out 1, cz BK144.out 2, cz BK144.out 3⟩ (fun hHeld => ?_)
   clear hK K
   refine norm_ (a' := ?_) ?_ ?_
   rotate_left
   ·show Act.put _ (some 21) _ = _
    simp only [Act.put, lA, lZ, lS, i64_w, i32_w]
    rfl
   refine oN 4 23 (bt 6 31) (h := fun K hK => ?_)
   refine goes_ Tryd.func63 (by kernel_rfl) rfl #[.agg #[.slice A0_0 l0_0.length c0_0, .int .i64 a0_1, .int .i64 a0_2, .slice A0_3 l0_3.length c0_3], .slice Ao14 t147.length co14, .int .i64 a1] (by rfl) rfl rfl TM ?_
   with_reducible refine (saronref03_strokes.calls k _ _ l0_0 a0_1 a0_2 _ _ l0_3 _ _ t147 a1 t150 _ ?side1 ?side2 ?side3 ?side4 ?side5 ?side6 A7.out).mono ?_
   (case side1 => exact TC HR0_0.out)
   (case side2 => exact HC0_0.out)
   (case side3 => exact TC HR0_3.out)
   (case side4 => exact HC0_3.out)
   (case side5 => exact TE (Kd.S_reads' HO149.out).2.2)
   (case side6 => exact (Kd.S_reads' HO149.out).2.1)
   rintro e w15 ⟨rfl, hb⟩
   refine ⟨_, rfl, ?_⟩
   have n0_ := Aside0.mk (Kd.S_below (TSo HO149.out) hb)
   have n1_ := Aside0.mk (TKb hb BK144.out)
   have n2_ := Aside0.mk (below_step (TB1 GE144.out) hb)
   clear HO149
   clear BK144
   clear HB
   have HO149 := n0_
   have BK144 := n1_
   have HB := n2_
   clear n0_ n1_ n2_
   (try clear hb)
   (try clear hb2)
   (try clear hk)
   (try clear hi)
   refine hK.out _ _ ⟨cz BK144.out 0, cz BK144.out 1, cz BK144.out 2, cz BK144.out 3⟩ (fun hHeld => ?_)
   clear hK K
   refine norm_ (a' := ?_) ?_ ?_
   rotate_left
   ·show Act.put _ (some 23) _ = _
    simp only [Act.put, lA, lZ, lS, i64_w, i32_w]
    rfl
   refine pu 5 7 (bt 6 63) (k := ?_)
   refine done_ (by kernel_rfl) ?_
   try go_wp2
   go_ret2
   exact ⟨TR, TB1 GE144.out⟩
  ·rw [if_neg c8] at H
   have c8b0 : (t150 == 1000) = false := beq_eq_false_iff_ne.mpr c8
   have c8b1 : (t150 != 1000) = true := bne_iff_ne.mpr c8
   simp only [Option.some.injEq, Prod.mk.injEq] at H
   obtain ⟨rfl, rfl⟩ := H
   go_enter Tryd.func24, Tryd.ntmps24
   try go_wp2_with (first | ((with_reducible refine gate_dst (N := 2) rfl ?_); refine box_event ?hg (N := 2) ?hd (cs := #[.slice A0_0 l0_0.length c0_0, .int .i64 a0_1, .int .i64 a0_2, .slice A0_3 l0_3.length c0_3]) (t := 27) ?hr ?_; (case hd => rfl); (case hg => rfl); (case hr => exact TS); intro gb144 hg w16 hbox hb; have BK144 := Aside0.mk (hbox); have GW144 := Aside0.mk ((TG : w.heap.size ≤ gb144)); have GE144 := Aside0.mk ((TG : w.heap.size ≤ gb144)); replace HB := Aside0.mk (below_step TB hb); clear hb hbox hg))
   have n0_ := Aside0.mk (blk_drew BK144.out)
   have n1_ := Aside0.mk (below_drew1 HB.out)
   clear BK144
   clear HB
   have BK144 := n0_
   have HB := n1_
   clear n0_ n1_
   refine start_ (n := 9) (S := fun w' => w'.cell? ⟨gb144, 0, none⟩ = some (.slice A0_0 l0_0.length c0_0) ∧ w'.cell? ⟨gb144, 1, none⟩ = some (.int .i64 a0_1) ∧ w'.cell? ⟨gb144, 2, none⟩ = some (.int .i64 a0_2) ∧ w'.cell? ⟨gb144, 3, none⟩ = some (.slice A0_3 l0_3.length c0_3)) (ds := []) (.replicate 9 false) (by kernel_rfl) rfl rfl ⟨cz BK144.out 0, cz BK144.out 1, cz BK144.out 2, cz BK144.out 3⟩ (fun hHeld => ?_); refine with_tabW saronref03_Strokes.tab1 saronref03_Strokes.bits1 (fun HT_ HW_ => ?_)
   generalize w16.drew = w17 at BK144 HB hHeld ⊢
   refine pT 1 9 (bt 9 2) (k := ?_)
   refine pT 2 10 (bt 9 6) (k := ?_)
   refine tT4 0 8 (bt 9 7) hHeld (k := ?_)
   refine tT4 3 11 (bt 9 15) hHeld (k := ?_)
   refine pT 4 12 (bt 9 31) (k := ?_)
   refine pT 5 13 (bt 9 63) (k := ?_)
   refine one_ (i := 6) (N := some 14) (bt 9 127) rfl rfl (one_of HT_.out (by kernel_rfl)) (by decide) (fun K hK => ?_)
   refine goes_ Tryd.func39 (by kernel_rfl) rfl #[.int .i64 a1, .int .i64 0, .int .i64 (wrap64 ((l0_3.length : Int) - 1))] (by rfl) rfl rfl TM ?_
   with_reducible refine (saronref00_Sits.calls a1 0 (wrap64 ((l0_3.length : Int) - 1)) t145 _ A3.out).mono ?_
   rintro e w' ⟨rfl, ⟨nd, rfl⟩⟩
   refine ⟨_, rfl, ?_⟩
   refine hK.out _ _ ⟨cz BK144.out 0, cz BK144.out 1, cz BK144.out 2, cz BK144.out 3⟩ (fun hHeld => ?_)
   clear hK K
   refine norm_ (a' := ?_) ?_ ?_
   rotate_left
   ·show Act.put _ (some 14) _ = _
    simp only [Act.put, lA, lZ, lS, i64_w, i32_w]
    rfl
   refine one_ (i := 7) (N := some 15) (bt 9 255) rfl rfl (one_of HT_.out (by kernel_rfl)) (by decide) (fun K hK => ?_)
   refine goes_ Tryd.func54 (by kernel_rfl) rfl #[.agg #[.slice A0_0 l0_0.length c0_0, .int .i64 a0_1, .int .i64 a0_2, .slice A0_3 l0_3.length c0_3], .bool t145] (by rfl) rfl rfl TM ?_
   with_reducible refine (saronref03_asked.calls k _ _ l0_0 a0_1 a0_2 _ _ l0_3 t145 t146 _ ?side1 ?side2 ?side3 ?side4 A4.out).mono ?_
   (case side1 => exact TD HR0_0.out (TB1 GE144.out))
   (case side2 => exact HC0_0.out)
   (case side3 => exact TD HR0_3.out (TB1 GE144.out))
   (case side4 => exact HC0_3.out)
   rintro e w18 ⟨rfl, hb⟩
   refine ⟨_, rfl, ?_⟩
   have n0_ := Aside0.mk (TKb hb BK144.out)
   have n1_ := Aside0.mk (below_step (TB1 GE144.out) hb)
   clear BK144
   clear HB
   have BK144 := n0_
   have HB := n1_
   clear n0_ n1_
   (try clear hb)
   (try clear hb2)
   (try clear hk)
   (try clear hi)
   refine hK.out _ _ ⟨cz BK144.out 0, cz BK144.out 1, cz BK144.out 2, cz BK144.out 3⟩ (fun hHeld => ?_)
   clear hK K
   refine norm_ (a' := ?_) ?_ ?_
   rotate_left
   ·show Act.put _ (some 15) _ = _
    simp only [Act.put, lA, lZ, lS, i64_w, i32_w]
    rfl
   refine pT 8 6 (bt 9 511) (k := ?_)
   refine done_ (done_of HT_.out (by kernel_rfl)) ?_
   try go_wp2
   have n0_ := Aside0.mk (blk_drew BK144.out)
   have n1_ := Aside0.mk (below_drew1 HB.out)
   clear BK144
   clear HB
   have BK144 := n0_
   have HB := n1_
   clear n0_ n1_
   refine start_ (n := 6) (S := fun w' => w'.cell? ⟨gb144, 0, none⟩ = some (.slice A0_0 l0_0.length c0_0) ∧ w'.cell? ⟨gb144, 1, none⟩ = some (.int .i64 a0_1) ∧ w'.cell? ⟨gb144, 2, none⟩ = some (.int .i64 a0_2) ∧ w'.cell? ⟨gb144, 3, none⟩ = some (.slice A0_3 l0_3.length c0_3)) (ds := []) (.replicate 6 false) (by kernel_rfl) rfl rfl ⟨cz BK144.out 0, cz BK144.out 1, cz BK144.out 2, cz BK144.out 3⟩ (fun hHeld => ?_)
   generalize w18.drew = w19 at BK144 HB hHeld ⊢
   refine pu 3 22 (bt 6 8) (k := ?_)
   refine tk4 0 19 (bt 6 9) hHeld (k := ?_)
   refine tk4 1 20 (bt 6 11) hHeld (k := ?_)
   refine oN 2 21 (bt 6 15) (h := fun K hK => ?_)
   refine goes_ Tryd.func57 (by kernel_rfl) rfl #[.agg #[.slice A0_0 l0_0.length c0_0, .int .i64 a0_1, .int .i64 a0_2, .slice A0_3 l0_3.length c0_3], .bool true] (by rfl) rfl rfl TM ?_
   with_reducible refine (saronref03_rows.calls k _ _ l0_0 a0_1 a0_2 _ _ l0_3 true t147 _ ?side1 ?side2 ?side3 ?side4 A6.out).mono ?_
   (case side1 => exact TC HR0_0.out)
   (case side2 => exact HC0_0.out)
   (case side3 => exact TC HR0_3.out)
   (case side4 => exact HC0_3.out)
   rintro e w20 ⟨v148, rfl, ho0, hb⟩
   refine ⟨_, rfl, ?_⟩
   have n0_ := Aside0.mk (Kd.S_lower ho0 (below_size (TB1 GE144.out)))
   have n1_ := Aside0.mk (TKb hb BK144.out)
   have n2_ := Aside0.mk (below_step (TB1 GE144.out) hb)
   clear BK144
   clear HB
   have HO149 := n0_
   have BK144 := n1_
   have HB := n2_
   clear n0_ n1_ n2_
   (try clear hb)
   (try clear hb2)
   (try clear hk)
   (try clear hi)
   (try clear ho0)
   obtain ⟨Ao21, co21, eo21⟩ := Kd.S_slice HO149.out
   (first | subst eo21 | (injection eo21 with f1_ f2_ f3_; have f4_ := f1_.symm; have f5_ := f3_.symm; clear f1_ f2_ f3_; subst f4_; subst f5_))
   refine hK.out _ _ ⟨cz BK144.out 0, cz BK144.out 1, cz BK144.out 2, cz BK144.out 3⟩ (fun hHeld => ?_)
   clear hK K
   refine norm_ (a' := ?_) ?_ ?_
   rotate_left
   ·show Act.put _ (some 21) _ = _
    simp only [Act.put, lA, lZ, lS, i64_w, i32_w]
    rfl
   refine oN 4 23 (bt 6 31) (h := fun K hK => ?_)
   refine goes_ Tryd.func63 (by kernel_rfl) rfl #[.agg #[.slice A0_0 l0_0.length c0_0, .int .i64 a0_1, .int .i64 a0_2, .slice A0_3 l0_3.length c0_3], .slice Ao21 t147.length co21, .int .i64 a1] (by rfl) rfl rfl TM ?_
   with_reducible refine (saronref03_strokes.calls k _ _ l0_0 a0_1 a0_2 _ _ l0_3 _ _ t147 a1 t150 _ ?side1 ?side2 ?side3 ?side4 ?side5 ?side6 A7.out).mono ?_
   (case side1 => exact TC HR0_0.out)
   (case side2 => exact HC0_0.out)
   (case side3 => exact TC HR0_3.out)
   (case side4 => exact HC0_3.out)
   (case side5 => exact TE (Kd.S_reads' HO149.out).2.2)
   (case side6 => exact (Kd.S_reads' HO149.out).2.1)
   rintro e w22 ⟨rfl, hb⟩
   refine ⟨_, rfl, ?_⟩
   have n0_ := Aside0.mk (Kd.S_below (TSo HO149.out) hb)
   have n1_ := Aside0.mk (TKb hb BK144.out)
   have n2_ := Aside0.mk (below_step (TB1 GE144.out) hb)
   clear HO149
   clear BK144
   clear HB
   have HO149 := n0_
   have BK144 := n1_
   have HB := n2_
   clear n0_ n1_ n2_
   (try clear hb)
   (try clear hb2)
   (try clear hk)
   (try clear hi)
   refine hK.out _ _ ⟨cz BK144.out 0, cz BK144.out 1, cz BK144.out 2, cz BK144.out 3⟩ (fun hHeld => ?_)
   clear hK K
   refine norm_ (a' := ?_) ?_ ?_
   rotate_left
   ·show Act.put _ (some 23) _ = _
    simp only [Act.put, lA, lZ, lS, i64_w, i32_w]
    rfl
   refine pu 5 7 (bt 6 63) (k := ?_)
   refine done_ (by kernel_rfl) ?_
   try go_wp2
   go_ret2
   exact ⟨TR, TB1 GE144.out⟩
 ·rw [if_neg c5] at H
  have c5b0 : (t146 == 0) = false := beq_eq_false_iff_ne.mpr c5
  have c5b1 : (t146 != 0) = true := bne_iff_ne.mpr c5
  simp only [Option.some.injEq, Prod.mk.injEq] at H
  obtain ⟨rfl, rfl⟩ := H
  go_enter Tryd.func24, Tryd.ntmps24
  try go_wp2_with (first | ((with_reducible refine gate_dst (N := 2) rfl ?_); refine box_event ?hg (N := 2) ?hd (cs := #[.slice A0_0 l0_0.length c0_0, .int .i64 a0_1, .int .i64 a0_2, .slice A0_3 l0_3.length c0_3]) (t := 27) ?hr ?_; (case hd => rfl); (case hg => rfl); (case hr => exact TS); intro gb144 hg w23 hbox hb; have BK144 := Aside0.mk (hbox); have GW144 := Aside0.mk ((TG : w.heap.size ≤ gb144)); have GE144 := Aside0.mk ((TG : w.heap.size ≤ gb144)); replace HB := Aside0.mk (below_step TB hb); clear hb hbox hg))
  have n0_ := Aside0.mk (blk_drew BK144.out)
  have n1_ := Aside0.mk (below_drew1 HB.out)
  clear BK144
  clear HB
  have BK144 := n0_
  have HB := n1_
  clear n0_ n1_
  refine start_ (n := 9) (S := fun w' => w'.cell? ⟨gb144, 0, none⟩ = some (.slice A0_0 l0_0.length c0_0) ∧ w'.cell? ⟨gb144, 1, none⟩ = some (.int .i64 a0_1) ∧ w'.cell? ⟨gb144, 2, none⟩ = some (.int .i64 a0_2) ∧ w'.cell? ⟨gb144, 3, none⟩ = some (.slice A0_3 l0_3.length c0_3)) (ds := []) (.replicate 9 false) (by kernel_rfl) rfl rfl ⟨cz BK144.out 0, cz BK144.out 1, cz BK144.out 2, cz BK144.out 3⟩ (fun hHeld => ?_); refine with_tabW saronref03_Strokes.tab1 saronref03_Strokes.bits1 (fun HT_ HW_ => ?_)
  generalize w23.drew = w24 at BK144 HB hHeld ⊢
  refine pT 1 9 (bt 9 2) (k := ?_)
  refine pT 2 10 (bt 9 6) (k := ?_)
  refine tT4 0 8 (bt 9 7) hHeld (k := ?_)
  refine tT4 3 11 (bt 9 15) hHeld (k := ?_)
  refine pT 4 12 (bt 9 31) (k := ?_)
  refine pT 5 13 (bt 9 63) (k := ?_)
  refine one_ (i := 6) (N := some 14) (bt 9 127) rfl rfl (one_of HT_.out (by kernel_rfl)) (by decide) (fun K hK => ?_)
  refine goes_ Tryd.func39 (by kernel_rfl) rfl #[.int .i64 a1, .int .i64 0, .int .i64 (wrap64 ((l0_3.length : Int) - 1))] (by rfl) rfl rfl TM ?_
  with_reducible refine (saronref00_Sits.calls a1 0 (wrap64 ((l0_3.length : Int) - 1)) t145 _ A3.out).mono ?_
  rintro e w' ⟨rfl, ⟨nd, rfl⟩⟩
  refine ⟨_, rfl, ?_⟩
  refine hK.out _ _ ⟨cz BK144.out 0, cz BK144.out 1, cz BK144.out 2, cz BK144.out 3⟩ (fun hHeld => ?_)
  clear hK K
  refine norm_ (a' := ?_) ?_ ?_
  rotate_left
  ·show Act.put _ (some 14) _ = _
   simp only [Act.put, lA, lZ, lS, i64_w, i32_w]
   rfl
  refine one_ (i := 7) (N := some 15) (bt 9 255) rfl rfl (one_of HT_.out (by kernel_rfl)) (by decide) (fun K hK => ?_)
  refine goes_ Tryd.func54 (by kernel_rfl) rfl #[.agg #[.slice A0_0 l0_0.length c0_0, .int .i64 a0_1, .int .i64 a0_2, .slice A0_3 l0_3.length c0_3], .bool t145] (by rfl) rfl rfl TM ?_
  with_reducible refine (saronref03_asked.calls k _ _ l0_0 a0_1 a0_2 _ _ l0_3 t145 t146 _ ?side1 ?side2 ?side3 ?side4 A4.out).mono ?_
  (case side1 => exact TD HR0_0.out (TB1 GE144.out))
  (case side2 => exact HC0_0.out)
  (case side3 => exact TD HR0_3.out (TB1 GE144.out))
  (case side4 => exact HC0_3.out)
  rintro e w25 ⟨rfl, hb⟩
  refine ⟨_, rfl, ?_⟩
  have n0_ := Aside0.mk (TKb hb BK144.out)
  have n1_ := Aside0.mk (below_step (TB1 GE144.out) hb)
  clear BK144
  clear HB
  have BK144 := n0_
  have HB := n1_
  clear n0_ n1_
  (try clear hb)
  (try clear hb2)
  (try clear hk)
  (try clear hi)
  refine hK.out _ _ ⟨cz BK144.out 0, cz BK144.out 1, cz BK144.out 2, cz BK144.out 3⟩ (fun hHeld => ?_)
  clear hK K
  refine norm_ (a' := ?_) ?_ ?_
  rotate_left
  ·show Act.put _ (some 15) _ = _
   simp only [Act.put, lA, lZ, lS, i64_w, i32_w]
   rfl
  refine pT 8 6 (bt 9 511) (k := ?_)
  refine done_ (done_of HT_.out (by kernel_rfl)) ?_
  try go_wp2
  go_ret2
  exact ⟨TR, TB1 GE144.out⟩
end Go.Proofs.YtfmpbkolpjlfbaaDoor.PRaspKeys
namespace Go.Proofs.YtfmpbkolpjlfbaaDoor.PRaspKeys
open Go.RowKit Go.Proofs.YtfmpbkolpjlfbaaDoorW.PrintWords Go.Proofs.YtfmpbkolpjlfbaaDoorW.PrintLast Go.Proofs.YtfmpbkolpjlfbaaDoorW.PrintMore Go.Proofs.YtfmpbkolpjlfbaaDoor.M
attribute [local go_sem] max2_int min2_int max_two min_two max_three min_three max_four min_four   -- for this text's walks alone
/-! ### saronref03_Spoilt: function 26 -/
def saronref03_Spoilt.l0 : Nat → List (S93) → List Int → Int → List (S57) → Int → Int → List (S69) → Option (List Int × Int)
 | 0, _, _, _, _, _, _, _ => none
 | k + 1, x5, x6, x7, x152000, x152001, x152002, x152003 => if x7 < (x152003.length : Int) then ((saronref03_strokes.f k x152000 x152001 x152002 x152003 x5 x7).bind fun t156 => (if t156 = 1000 then (if x6.length < 17592186044416 then (saronref03_Spoilt.l0 k x5 (x6 ++ [x7]) (wrap64 (x7 + 1)) x152000 x152001 x152002 x152003) else (none)) else (saronref03_Spoilt.l0 k x5 x6 (wrap64 (x7 + 1)) x152000 x152001 x152002 x152003))) else (some (x6, 0))
def saronref03_Spoilt.f (k : Nat) (l0_0 : List (S57)) (a0_1 : Int) (a0_2 : Int) (l0_3 : List (S69)) : Option (List Int × Int) := (saronref03_Check.f k l0_0 a0_1 a0_2 l0_3).bind fun t152 => (if t152 = 0 then ((saronref03_rows.f k l0_0 a0_1 a0_2 l0_3 true).bind fun t153 => (saronref03_Spoilt.l0 k t153 ([] : List Int) 0 l0_0 a0_1 a0_2 l0_3)) else (some (([] : List Int), t152)))
theorem saronref03_Spoilt.mono_l : ∀ k, (∀ y0 y1 y2 y3 y4 y5 y6, LeO (saronref03_Spoilt.l0 k y0 y1 y2 y3 y4 y5 y6) (saronref03_Spoilt.l0 (k + 1) y0 y1 y2 y3 y4 y5 y6))
 | 0 => fun _ _ _ _ _ _ _ r h => by simp [saronref03_Spoilt.l0] at h
 | k + 1 => by
  have ih0 := saronref03_Spoilt.mono_l k
  ·intro y0 y1 y2 y3 y4 y5 y6
   unfold saronref03_Spoilt.l0
   repeat' first
   | (with_reducible exact ih0 _ _ _ _ _ _ _)
   | (with_reducible exact saronref03_Check.mono _ _ _ _ _)
   | (with_reducible exact saronref03_rows.mono _ _ _ _ _ _)
   | (with_reducible exact saronref03_strokes.mono _ _ _ _ _ _ _)
   | (with_reducible exact LeO.refl _)
   | (with_reducible exact LeO.none _)
   | (with_reducible refine LeO.ite ?_ ?_)
   | (with_reducible refine LeO.bind ?_ (fun _ => ?_))
   | exact ih0 _ _ _ _ _ _ _
   | exact saronref03_Check.mono _ _ _ _ _
   | exact saronref03_rows.mono _ _ _ _ _ _
   | exact saronref03_strokes.mono _ _ _ _ _ _ _
   | exact LeO.none _
   | refine LeO.ite ?_ ?_
   | refine LeO.bind ?_ (fun _ => ?_)
theorem saronref03_Spoilt.mono : ∀ a0 a1 a2 a3 k, LeO (saronref03_Spoilt.f k a0 a1 a2 a3) (saronref03_Spoilt.f (k + 1) a0 a1 a2 a3) := by
 intro a0 a1 a2 a3 k
 have ih0 := saronref03_Spoilt.mono_l k
 unfold saronref03_Spoilt.f
 repeat' first
   | (with_reducible exact ih0 _ _ _ _ _ _ _)
   | (with_reducible exact saronref03_Check.mono _ _ _ _ _)
   | (with_reducible exact saronref03_rows.mono _ _ _ _ _ _)
   | (with_reducible exact saronref03_strokes.mono _ _ _ _ _ _ _)
   | (with_reducible exact LeO.refl _)
   | (with_reducible exact LeO.none _)
   | (with_reducible refine LeO.ite ?_ ?_)
   | (with_reducible refine LeO.bind ?_ (fun _ => ?_))
   | exact ih0 _ _ _ _ _ _ _
   | exact saronref03_Check.mono _ _ _ _ _
   | exact saronref03_rows.mono _ _ _ _ _ _
   | exact saronref03_strokes.mono _ _ _ _ _ _ _
   | exact LeO.none _
   | refine LeO.ite ?_ ?_
   | refine LeO.bind ?_ (fun _ => ?_)
set_option maxHeartbeats 8000000 in
set_option maxRecDepth 100000 in
theorem saronref03_Spoilt.calls (k : Nat) (A0_0 : Option Addr) (c0_0 : Nat) (l0_0 : List (S57)) (a0_1 : Int) (a0_2 : Int) (A0_3 : Option Addr) (c0_3 : Nat) (l0_3 : List (S69)) (r1 : List Int) (r2 : Int) (w : World) (hr0_0 : Kd.C k57 w A0_0 l0_0.length l0_0) (hc0_0 : l0_0.length ≤ c0_0) (hr0_3 : Kd.C k69 w A0_3 l0_3.length l0_3) (hc0_3 : l0_3.length ≤ c0_3) (h : saronref03_Spoilt.f k l0_0 a0_1 a0_2 l0_3 = some (r1, r2)) :
  Calls Tryd.prog 26 #[.agg #[.slice A0_0 l0_0.length c0_0, .int .i64 a0_1, .int .i64 a0_2, .slice A0_3 l0_3.length c0_3]] w fun e w' => ∃ v0_ : Value, e = .returned (.tuple #[v0_, .int .i64 r2]) ∧ Kd.R (Kd.int .i64) 3 w' w.heap.size (fun _ => True) v0_ r1 ∧ Below w.heap.size w w' := by
 have hu27 := Tryd.underlying27
 have HR0_0 := Aside0.mk hr0_0
 have HC0_0 := Aside0.mk hc0_0
 clear hr0_0 hc0_0
 have HR0_3 := Aside0.mk hr0_3
 have HC0_3 := Aside0.mk hc0_3
 clear hr0_3 hc0_3
 have HB := Aside0.mk (Below.refl w.heap.size w)
 have H : ((saronref03_Check.f k l0_0 a0_1 a0_2 l0_3).bind fun t152 => (if t152 = 0 then ((saronref03_rows.f k l0_0 a0_1 a0_2 l0_3 true).bind fun t153 => (saronref03_Spoilt.l0 k t153 ([] : List Int) 0 l0_0 a0_1 a0_2 l0_3)) else (some (([] : List Int), t152)))) = some (r1, r2) := h
 clear h
 replace H := Option.bind_eq_some_iff.mp H
 obtain ⟨t152, A20, H⟩ := H
 replace H : (if t152 = 0 then ((saronref03_rows.f k l0_0 a0_1 a0_2 l0_3 true).bind fun t153 => (saronref03_Spoilt.l0 k t153 ([] : List Int) 0 l0_0 a0_1 a0_2 l0_3)) else (some (([] : List Int), t152))) = some (r1, r2) := H
 have A2 := Aside0.mk A20
 clear A20
 by_cases c3 : t152 = 0
 ·rw [if_pos c3] at H
  have c3b0 : (t152 == 0) = true := beq_iff_eq.mpr c3
  have c3b1 : (t152 != 0) = false := bne_eq_false_iff_eq.mpr c3
  clear c3
  replace H := Option.bind_eq_some_iff.mp H
  obtain ⟨t153, A40, H⟩ := H
  replace H : (saronref03_Spoilt.l0 k t153 ([] : List Int) 0 l0_0 a0_1 a0_2 l0_3) = some (r1, r2) := H
  have A4 := Aside0.mk A40
  clear A40
  have H' := Aside0.mk H
  clear H
  go_enter Tryd.func26, Tryd.ntmps26
  go_wp2_with (first | ((with_reducible refine gate_dst (N := 1) rfl ?_); refine box_event ?hg (N := 1) ?hd (cs := #[.slice A0_0 l0_0.length c0_0, .int .i64 a0_1, .int .i64 a0_2, .slice A0_3 l0_3.length c0_3]) (t := 27) ?hr ?_; (case hd => rfl); (case hg => rfl); (case hr => exact TS); intro gb151 hg w5 hbox hb; have BK151 := Aside0.mk (hbox); have GW151 := Aside0.mk ((TG : w.heap.size ≤ gb151)); have GE151 := Aside0.mk ((TG : w.heap.size ≤ gb151)); replace HB := Aside0.mk (below_step TB hb); clear hb hbox hg; have hcz6_0 := cz BK151.out 0; have hcz6_1 := cz BK151.out 1; have hcz6_2 := cz BK151.out 2; have hcz6_3 := cz BK151.out 3; have hfz6_0 := fz BK151.out 0; have hfz6_1 := fz BK151.out 1; have hfz6_2 := fz BK151.out 2; have hfz6_3 := fz BK151.out 3) | ((with_reducible refine gate_callee (f := 19) rfl ?_); refine goesL_ (some 9) rfl rfl Tryd.func19 (by kernel_rfl) rfl #[.agg #[.slice A0_0 l0_0.length c0_0, .int .i64 a0_1, .int .i64 a0_2, .slice A0_3 l0_3.length c0_3]] rfl TM ?_; (with_reducible refine (saronref03_Check.calls k _ _ l0_0 a0_1 a0_2 _ _ l0_3 t152 _ ?side1 ?side2 ?side3 ?side4 A2.out).mono ?_); (case side1 => exact TC HR0_0.out); (case side2 => exact HC0_0.out); (case side3 => exact TC HR0_3.out); (case side4 => exact HC0_3.out); rintro e w7 ⟨rfl, hb⟩; refine ⟨_, rfl, ?_⟩; replace BK151 := Aside0.mk (TKb hb BK151.out); replace HB := Aside0.mk (below_step (TB1 GE151.out) hb); (try clear hb); (try clear hb2); (try clear hk); (try clear hi); have hcz8_0 := cz BK151.out 0; have hcz8_1 := cz BK151.out 1; have hcz8_2 := cz BK151.out 2; have hcz8_3 := cz BK151.out 3; have hfz8_0 := fz BK151.out 0; have hfz8_1 := fz BK151.out 1; have hfz8_2 := fz BK151.out 2; have hfz8_3 := fz BK151.out 3) | ((with_reducible refine gate_callee (f := 57) rfl ?_); refine goesL_ (some 14) rfl rfl Tryd.func57 (by kernel_rfl) rfl #[.agg #[.slice A0_0 l0_0.length c0_0, .int .i64 a0_1, .int .i64 a0_2, .slice A0_3 l0_3.length c0_3], .bool true] rfl TM ?_; (with_reducible refine (saronref03_rows.calls k _ _ l0_0 a0_1 a0_2 _ _ l0_3 true t153 _ ?side1 ?side2 ?side3 ?side4 A4.out).mono ?_); (case side1 => exact TC HR0_0.out); (case side2 => exact HC0_0.out); (case side3 => exact TC HR0_3.out); (case side4 => exact HC0_3.out); rintro e w9 ⟨v154, rfl, ho0, hb⟩; refine ⟨_, rfl, ?_⟩; have HO155 := Aside0.mk (Kd.S_lower ho0 (below_size (TB1 GE151.out))); replace BK151 := Aside0.mk (TKb hb BK151.out); replace HB := Aside0.mk (below_step (TB1 GE151.out) hb); (try clear hb); (try clear hb2); (try clear hk); (try clear hi); (try clear ho0)))
  go_loopg [6, 7] k (fun kq v6 v7 w' => ∃ (x6_1 : List Int) (x7_1 : Int), v7 = .int .i64 x7_1 ∧ Aside0 (saronref03_Spoilt.l0 kq t153 x6_1 x7_1 l0_0 a0_1 a0_2 l0_3 = some (r1, r2)) ∧ Aside0 (kq ≤ k) ∧ Aside0 (Kd.S k93 93 w' w.heap.size (fun k_ => some k_ ≠ (v6 : Value).ownBlock) v154 t153) ∧ Aside0 (Kd.R (Kd.int .i64) 3 w' w.heap.size (fun _ => True) v6 x6_1) ∧ Aside0 (w'.heap[gb151]? = some (.cells #[(.slice A0_0 l0_0.length c0_0), .int .i64 a0_1, .int .i64 a0_2, (.slice A0_3 l0_3.length c0_3)] 27 (0, 0))) ∧ Aside0 (Below w.heap.size w w'))
  case atStart => exact ⟨(([] : List Int)), (0), TT, H', ⟨Nat.le_refl _⟩, ⟨by (with_reducible repeat (first | apply Kd.S_alloc | apply Kd.S_drewN | apply Kd.S_drew)); exact Kd.S_mono HO155.out (fun _ hk => (by simp [Value.ownBlock]))⟩, ⟨by first | exact Kd.R_nil _ _ _ _ _ | exact Kd.N_nil _ _ _ _ _ | exact Kd.V_nil _ _ _ _ _ | exact Kd.Q_nil _ _ _ _ _ | exact Kd.S_nil _ _ _ _ _⟩, ⟨TK BK151.out⟩, ⟨TB1 GE151.out⟩⟩
  case round =>
   clear H'
   try clear c1
   try clear c2
   try clear p2
   try clear c3
   try clear c3b0
   try clear c3b1
   try clear c5
   try clear hcz6_0 hcz6_1 hcz6_2 hcz6_3
   try clear hcz8_0 hcz8_1 hcz8_2 hcz8_3
   try clear hfz6_0 hfz6_1 hfz6_2 hfz6_3
   try clear hfz8_0 hfz8_1 hfz8_2 hfz8_3
   obtain ⟨x6_1, x7_1, rfl, HA, HK1, HO_5, HO_6, BK151, HB⟩ := hrel
   cases gk with
   | zero => exact absurd HA.out (by simp [saronref03_Spoilt.l0])
   | succ k1 =>
    have H := HA.out
    clear HA
    simp only [saronref03_Spoilt.l0] at H
    by_cases c10 : x7_1 < (l0_3.length : Int)
    ·rw [if_pos c10] at H
     have c10b0 : decide (x7_1 < (l0_3.length : Int)) = true := decide_eq_true c10
     clear c10
     replace H := Option.bind_eq_some_iff.mp H
     obtain ⟨t156, A110, H⟩ := H
     replace H : (if t156 = 1000 then (if x6_1.length < 17592186044416 then (saronref03_Spoilt.l0 k1 t153 (x6_1 ++ [x7_1]) (wrap64 (x7_1 + 1)) l0_0 a0_1 a0_2 l0_3) else (none)) else (saronref03_Spoilt.l0 k1 t153 x6_1 (wrap64 (x7_1 + 1)) l0_0 a0_1 a0_2 l0_3)) = some (r1, r2) := H
     have A11 := Aside0.mk A110
     clear A110
     by_cases c12 : t156 = 1000
     ·rw [if_pos c12] at H
      have c12b0 : (t156 == 1000) = true := beq_iff_eq.mpr c12
      have c12b1 : (t156 != 1000) = false := bne_eq_false_iff_eq.mpr c12
      clear c12
      by_cases c13 : x6_1.length < 17592186044416
      ·rw [if_pos c13] at H
       have LMc13 := Aside0.mk c13
       clear c13
       obtain ⟨y157, hy157⟩ : ∃ y_ : List Int, y_ = (x6_1 ++ [x7_1]) := ⟨_, rfl⟩
       replace H : (saronref03_Spoilt.l0 k1 t153 y157 (wrap64 (x7_1 + 1)) l0_0 a0_1 a0_2 l0_3) = some (r1, r2) := by first | (rw [hy157]; with_reducible exact H) | (have H2_ := (Option.bind_some _ _).symm.trans H; rw [hy157]; with_reducible exact H2_) | (have H2_ := (Option.bind_some _ _).symm.trans H; with_reducible exact H2_) | with_reducible exact H | (rw [hy157]; exact H) | exact H
       have Ny157 := Aside0.mk hy157
       clear hy157
       have H' := Aside0.mk H
       clear H
       have hcz14_0 := cz BK151.out 0
       have hcz14_1 := cz BK151.out 1
       have hcz14_2 := cz BK151.out 2
       have hcz14_3 := cz BK151.out 3
       have hfz14_0 := fz BK151.out 0
       have hfz14_1 := fz BK151.out 1
       have hfz14_2 := fz BK151.out 2
       have hfz14_3 := fz BK151.out 3
       obtain ⟨Ao15, co15, eo15⟩ := Kd.S_slice HO_5.out
       subst eo15
       go_wp2_with (first | ((with_reducible refine gate_callee (f := 63) rfl ?_); refine goesL_ (some 25) rfl rfl Tryd.func63 (by kernel_rfl) rfl #[.agg #[.slice A0_0 l0_0.length c0_0, .int .i64 a0_1, .int .i64 a0_2, .slice A0_3 l0_3.length c0_3], .slice Ao15 t153.length co15, .int .i64 x7_1] rfl TM ?_; (with_reducible refine (saronref03_strokes.calls k1 _ _ l0_0 a0_1 a0_2 _ _ l0_3 _ _ t153 x7_1 t156 _ ?side1 ?side2 ?side3 ?side4 ?side5 ?side6 A11.out).mono ?_); (case side1 => exact TC HR0_0.out); (case side2 => exact HC0_0.out); (case side3 => exact TC HR0_3.out); (case side4 => exact HC0_3.out); (case side5 => exact TE (Kd.S_reads' HO_5.out).2.2); (case side6 => exact (Kd.S_reads' HO_5.out).2.1); rintro e w16 ⟨rfl, hb⟩; refine ⟨_, rfl, ?_⟩; replace HO_5 := Aside0.mk (Kd.S_below (TSo HO_5.out) hb); replace HO_6 := Aside0.mk (Kd.R_below (TRo HO_6.out) hb); replace BK151 := Aside0.mk (TKb hb BK151.out); replace HB := Aside0.mk (below_step (TB1 GE151.out) hb); (try clear hb); (try clear hb2); (try clear hk); (try clear hi)) | ((with_reducible refine gate_builtin (b := .append) (xs := #[.tmp 27, .tmp 29]) rfl ?_); at_builtin; refine Kd.R_append (Kd.int .i64) (w0 := w) w.heap.size rfl (.tmp 27) (.tmp 29) 38 3 (.int .i64 0) 8 rfl Tryd.underlying38 info3 rfl (by decide) (by omega) u6 x6_1 x7_1 [.int .i64 x7_1] (fun _ => True) (fun _ => False) rfl rfl ?aP (fun _ hk => hk.elim) ?aF ?aO ?aB ?aS ?aL ?_; (case aP => exact rfl); (case aB => exact (TB1 GE151.out)); (case aF => exact (fun _ _ => trivial)); (case aO => exact (TRo HO_6.out)); (case aS => exact (below_size (TB1 GE151.out))); (case aL => have := LMc13.out; omega); intro v158 w17 ho hb hg hat; rw [← Ny157.out] at ho; have HO159 := Aside0.mk (ho); replace HO_5 := Aside0.mk (Kd.S_after (ok := (fun _ => True)) (by (with_reducible repeat (first | apply Kd.S_alloc | apply Kd.S_drewN | apply Kd.S_drew)); exact Kd.S_mono HO_5.out (fun _ hk => ⟨trivial, hk⟩)) hg hat); replace BK151 := Aside0.mk (blk_grown (g := gb151) (o := .cells #[.slice A0_0 l0_0.length c0_0, .int .i64 a0_1, .int .i64 a0_2, .slice A0_3 l0_3.length c0_3] 27 (0, 0)) (TK BK151.out) hg (Kd.R_ne HO_6.out BK151.out (by decide))); replace HB := Aside0.mk (hb); clear HO_6; clear ho hb hg hat))
       go_roundg k1
       case measure => have := HK1.out; omega
       case rel => exact ⟨(y157), (wrap64 (x7_1 + 1)), TT, H', ⟨by have := HK1.out; omega⟩, ⟨by (with_reducible repeat (first | apply Kd.S_alloc | apply Kd.S_drewN | apply Kd.S_drew)); exact Kd.S_mono HO_5.out (fun _ hk => hk.2)⟩, ⟨by (with_reducible repeat (first | apply Kd.R_alloc | apply Kd.R_drewN | apply Kd.R_drew)); exact HO159.out⟩, ⟨TK BK151.out⟩, ⟨TB1 GE151.out⟩⟩
      ·rw [if_neg c13] at H
       exact absurd H (by simp)
     ·rw [if_neg c12] at H
      have c12b0 : (t156 == 1000) = false := beq_eq_false_iff_ne.mpr c12
      have c12b1 : (t156 != 1000) = true := bne_iff_ne.mpr c12
      have H' := Aside0.mk H
      clear H
      have hcz18_0 := cz BK151.out 0
      have hcz18_1 := cz BK151.out 1
      have hcz18_2 := cz BK151.out 2
      have hcz18_3 := cz BK151.out 3
      have hfz18_0 := fz BK151.out 0
      have hfz18_1 := fz BK151.out 1
      have hfz18_2 := fz BK151.out 2
      have hfz18_3 := fz BK151.out 3
      obtain ⟨Ao19, co19, eo19⟩ := Kd.S_slice HO_5.out
      subst eo19
      go_wp2_with (first | ((with_reducible refine gate_callee (f := 63) rfl ?_); refine goesL_ (some 25) rfl rfl Tryd.func63 (by kernel_rfl) rfl #[.agg #[.slice A0_0 l0_0.length c0_0, .int .i64 a0_1, .int .i64 a0_2, .slice A0_3 l0_3.length c0_3], .slice Ao19 t153.length co19, .int .i64 x7_1] rfl TM ?_; (with_reducible refine (saronref03_strokes.calls k1 _ _ l0_0 a0_1 a0_2 _ _ l0_3 _ _ t153 x7_1 t156 _ ?side1 ?side2 ?side3 ?side4 ?side5 ?side6 A11.out).mono ?_); (case side1 => exact TC HR0_0.out); (case side2 => exact HC0_0.out); (case side3 => exact TC HR0_3.out); (case side4 => exact HC0_3.out); (case side5 => exact TE (Kd.S_reads' HO_5.out).2.2); (case side6 => exact (Kd.S_reads' HO_5.out).2.1); rintro e w20 ⟨rfl, hb⟩; refine ⟨_, rfl, ?_⟩; replace HO_5 := Aside0.mk (Kd.S_below (TSo HO_5.out) hb); replace HO_6 := Aside0.mk (Kd.R_below (TRo HO_6.out) hb); replace BK151 := Aside0.mk (TKb hb BK151.out); replace HB := Aside0.mk (below_step (TB1 GE151.out) hb); (try clear hb); (try clear hb2); (try clear hk); (try clear hi)))
      go_roundg k1
      case measure => have := HK1.out; omega
      case rel => exact ⟨(x6_1), (wrap64 (x7_1 + 1)), TT, H', ⟨by have := HK1.out; omega⟩, ⟨by (with_reducible repeat (first | apply Kd.S_alloc | apply Kd.S_drewN | apply Kd.S_drew)); exact HO_5.out⟩, ⟨by (with_reducible repeat (first | apply Kd.R_alloc | apply Kd.R_drewN | apply Kd.R_drew)); exact HO_6.out⟩, ⟨TK BK151.out⟩, ⟨TB1 GE151.out⟩⟩
    ·rw [if_neg c10] at H
     have c10b0 : decide (x7_1 < (l0_3.length : Int)) = false := decide_eq_false c10
     clear c10
     simp only [Option.some.injEq, Prod.mk.injEq] at H
     obtain ⟨rfl, rfl⟩ := H
     have hcz21_0 := cz BK151.out 0
     have hcz21_1 := cz BK151.out 1
     have hcz21_2 := cz BK151.out 2
     have hcz21_3 := cz BK151.out 3
     have hfz21_0 := fz BK151.out 0
     have hfz21_1 := fz BK151.out 1
     have hfz21_2 := fz BK151.out 2
     have hfz21_3 := fz BK151.out 3
     go_wp2
     go_ret2
     exact ⟨_, TR, by (with_reducible repeat (first | apply Kd.R_alloc | apply Kd.R_drewN | apply Kd.R_drew)); exact HO_6.out, TB1 GE151.out⟩
 ·rw [if_neg c3] at H
  have c3b0 : (t152 == 0) = false := beq_eq_false_iff_ne.mpr c3
  have c3b1 : (t152 != 0) = true := bne_iff_ne.mpr c3
  simp only [Option.some.injEq, Prod.mk.injEq] at H
  obtain ⟨rfl, rfl⟩ := H
  go_enter Tryd.func26, Tryd.ntmps26
  go_wp2_with (first | ((with_reducible refine gate_dst (N := 1) rfl ?_); refine box_event ?hg (N := 1) ?hd (cs := #[.slice A0_0 l0_0.length c0_0, .int .i64 a0_1, .int .i64 a0_2, .slice A0_3 l0_3.length c0_3]) (t := 27) ?hr ?_; (case hd => rfl); (case hg => rfl); (case hr => exact TS); intro gb151 hg w22 hbox hb; have BK151 := Aside0.mk (hbox); have GW151 := Aside0.mk ((TG : w.heap.size ≤ gb151)); have GE151 := Aside0.mk ((TG : w.heap.size ≤ gb151)); replace HB := Aside0.mk (below_step TB hb); clear hb hbox hg; have hcz23_0 := cz BK151.out 0; have hcz23_1 := cz BK151.out 1; have hcz23_2 := cz BK151.out 2; have hcz23_3 := cz BK151.out 3; have hfz23_0 := fz BK151.out 0; have hfz23_1 := fz BK151.out 1; have hfz23_2 := fz BK151.out 2; have hfz23_3 := fz BK151.out 3) | ((with_reducible refine gate_callee (f := 19) rfl ?_); refine goesL_ (some 9) rfl rfl Tryd.func19 (by kernel_rfl) rfl #[.agg #[.slice A0_0 l0_0.length c0_0, .int .i64 a0_1, .int .i64 a0_2, .slice A0_3 l0_3.length c0_3]] rfl TM ?_; (with_reducible refine (saronref03_Check.calls k _ _ l0_0 a0_1 a0_2 _ _ l0_3 t152 _ ?side1 ?side2 ?side3 ?side4 A2.out).mono ?_); (case side1 => exact TC HR0_0.out); (case side2 => exact HC0_0.out); (case side3 => exact TC HR0_3.out); (case side4 => exact HC0_3.out); rintro e w24 ⟨rfl, hb⟩; refine ⟨_, rfl, ?_⟩; replace BK151 := Aside0.mk (TKb hb BK151.out); replace HB := Aside0.mk (below_step (TB1 GE151.out) hb); (try clear hb); (try clear hb2); (try clear hk); (try clear hi)))
  go_ret2
  exact ⟨_, TR, by first | exact Kd.R_nil _ _ _ _ _ | exact Kd.N_nil _ _ _ _ _ | exact Kd.V_nil _ _ _ _ _ | exact Kd.Q_nil _ _ _ _ _ | exact Kd.S_nil _ _ _ _ _, TB1 GE151.out⟩
/-! ### saronref03_Total: function 29 -/
def saronref03_Total.l0 : Nat → List (S93) → Int → Int → List (S57) → Int → Int → List (S69) → Option (Int × Int)
 | 0, _, _, _, _, _, _, _ => none
 | k + 1, x5, x6, x7, x161000, x161001, x161002, x161003 => if x7 < (x161003.length : Int) then ((saronref03_strokes.f k x161000 x161001 x161002 x161003 x5 x7).bind fun t165 => (saronref03_Total.l0 k x5 (wrap64 (x6 + t165)) (wrap64 (x7 + 1)) x161000 x161001 x161002 x161003)) else (if x6 ≥ 1000 then (some (0, 4)) else (some (x6, 0)))
def saronref03_Total.f (k : Nat) (l0_0 : List (S57)) (a0_1 : Int) (a0_2 : Int) (l0_3 : List (S69)) : Option (Int × Int) := (saronref03_Check.f k l0_0 a0_1 a0_2 l0_3).bind fun t161 => (if t161 = 0 then ((saronref03_rows.f k l0_0 a0_1 a0_2 l0_3 true).bind fun t162 => (saronref03_Total.l0 k t162 0 0 l0_0 a0_1 a0_2 l0_3)) else (some (0, t161)))
theorem saronref03_Total.mono_l : ∀ k, (∀ y0 y1 y2 y3 y4 y5 y6, LeO (saronref03_Total.l0 k y0 y1 y2 y3 y4 y5 y6) (saronref03_Total.l0 (k + 1) y0 y1 y2 y3 y4 y5 y6))
 | 0 => fun _ _ _ _ _ _ _ r h => by simp [saronref03_Total.l0] at h
 | k + 1 => by
  have ih0 := saronref03_Total.mono_l k
  ·intro y0 y1 y2 y3 y4 y5 y6
   unfold saronref03_Total.l0
   repeat' first
   | (with_reducible exact ih0 _ _ _ _ _ _ _)
   | (with_reducible exact saronref03_Check.mono _ _ _ _ _)
   | (with_reducible exact saronref03_rows.mono _ _ _ _ _ _)
   | (with_reducible exact saronref03_strokes.mono _ _ _ _ _ _ _)
   | (with_reducible exact LeO.refl _)
   | (with_reducible exact LeO.none _)
   | (with_reducible refine LeO.ite ?_ ?_)
   | (with_reducible refine LeO.bind ?_ (fun _ => ?_))
   | exact ih0 _ _ _ _ _ _ _
   | exact saronref03_Check.mono _ _ _ _ _
   | exact saronref03_rows.mono _ _ _ _ _ _
   | exact saronref03_strokes.mono _ _ _ _ _ _ _
   | exact LeO.none _
   | refine LeO.ite ?_ ?_
   | refine LeO.bind ?_ (fun _ => ?_)
theorem saronref03_Total.mono : ∀ a0 a1 a2 a3 k, LeO (saronref03_Total.f k a0 a1 a2 a3) (saronref03_Total.f (k + 1) a0 a1 a2 a3) := by
 intro a0 a1 a2 a3 k
 have ih0 := saronref03_Total.mono_l k
 unfold saronref03_Total.f
 repeat' first
   | (with_reducible exact ih0 _ _ _ _ _ _ _)
   | (with_reducible exact saronref03_Check.mono _ _ _ _ _)
   | (with_reducible exact saronref03_rows.mono _ _ _ _ _ _)
   | (with_reducible exact saronref03_strokes.mono _ _ _ _ _ _ _)
   | (with_reducible exact LeO.refl _)
   | (with_reducible exact LeO.none _)
   | (with_reducible refine LeO.ite ?_ ?_)
   | (with_reducible refine LeO.bind ?_ (fun _ => ?_))
   | exact ih0 _ _ _ _ _ _ _
   | exact saronref03_Check.mono _ _ _ _ _
   | exact saronref03_rows.mono _ _ _ _ _ _
   | exact saronref03_strokes.mono _ _ _ _ _ _ _
   | exact LeO.none _
   | refine LeO.ite ?_ ?_
   | refine LeO.bind ?_ (fun _ => ?_)
set_option maxHeartbeats 8000000 in
set_option maxRecDepth 100000 in
theorem saronref03_Total.calls (k : Nat) (A0_0 : Option Addr) (c0_0 : Nat) (l0_0 : List (S57)) (a0_1 : Int) (a0_2 : Int) (A0_3 : Option Addr) (c0_3 : Nat) (l0_3 : List (S69)) (r1 : Int) (r2 : Int) (w : World) (hr0_0 : Kd.C k57 w A0_0 l0_0.length l0_0) (hc0_0 : l0_0.length ≤ c0_0) (hr0_3 : Kd.C k69 w A0_3 l0_3.length l0_3) (hc0_3 : l0_3.length ≤ c0_3) (h : saronref03_Total.f k l0_0 a0_1 a0_2 l0_3 = some (r1, r2)) :
  Calls Tryd.prog 29 #[.agg #[.slice A0_0 l0_0.length c0_0, .int .i64 a0_1, .int .i64 a0_2, .slice A0_3 l0_3.length c0_3]] w fun e w' => e = .returned (.tuple #[.int .i64 r1, .int .i64 r2]) ∧ Below w.heap.size w w' := by
 have hu27 := Tryd.underlying27
 have HR0_0 := Aside0.mk hr0_0
 have HC0_0 := Aside0.mk hc0_0
 clear hr0_0 hc0_0
 have HR0_3 := Aside0.mk hr0_3
 have HC0_3 := Aside0.mk hc0_3
 clear hr0_3 hc0_3
 have HB := Aside0.mk (Below.refl w.heap.size w)
 have H : ((saronref03_Check.f k l0_0 a0_1 a0_2 l0_3).bind fun t161 => (if t161 = 0 then ((saronref03_rows.f k l0_0 a0_1 a0_2 l0_3 true).bind fun t162 => (saronref03_Total.l0 k t162 0 0 l0_0 a0_1 a0_2 l0_3)) else (some (0, t161)))) = some (r1, r2) := h
 clear h
 replace H := Option.bind_eq_some_iff.mp H
 obtain ⟨t161, A20, H⟩ := H
 replace H : (if t161 = 0 then ((saronref03_rows.f k l0_0 a0_1 a0_2 l0_3 true).bind fun t162 => (saronref03_Total.l0 k t162 0 0 l0_0 a0_1 a0_2 l0_3)) else (some (0, t161))) = some (r1, r2) := H
 have A2 := Aside0.mk A20
 clear A20
 by_cases c3 : t161 = 0
 ·rw [if_pos c3] at H
  have c3b0 : (t161 == 0) = true := beq_iff_eq.mpr c3
  have c3b1 : (t161 != 0) = false := bne_eq_false_iff_eq.mpr c3
  clear c3
  replace H := Option.bind_eq_some_iff.mp H
  obtain ⟨t162, A40, H⟩ := H
  replace H : (saronref03_Total.l0 k t162 0 0 l0_0 a0_1 a0_2 l0_3) = some (r1, r2) := H
  have A4 := Aside0.mk A40
  clear A40
  have H' := Aside0.mk H
  clear H
  go_enter Tryd.func29, Tryd.ntmps29
  go_wp2_with (first | ((with_reducible refine gate_dst (N := 1) rfl ?_); refine box_event ?hg (N := 1) ?hd (cs := #[.slice A0_0 l0_0.length c0_0, .int .i64 a0_1, .int .i64 a0_2, .slice A0_3 l0_3.length c0_3]) (t := 27) ?hr ?_; (case hd => rfl); (case hg => rfl); (case hr => exact TS); intro gb160 hg w5 hbox hb; have BK160 := Aside0.mk (hbox); have GW160 := Aside0.mk ((TG : w.heap.size ≤ gb160)); have GE160 := Aside0.mk ((TG : w.heap.size ≤ gb160)); replace HB := Aside0.mk (below_step TB hb); clear hb hbox hg; have hcz6_0 := cz BK160.out 0; have hcz6_1 := cz BK160.out 1; have hcz6_2 := cz BK160.out 2; have hcz6_3 := cz BK160.out 3; have hfz6_0 := fz BK160.out 0; have hfz6_1 := fz BK160.out 1; have hfz6_2 := fz BK160.out 2; have hfz6_3 := fz BK160.out 3) | ((with_reducible refine gate_callee (f := 19) rfl ?_); refine goesL_ (some 9) rfl rfl Tryd.func19 (by kernel_rfl) rfl #[.agg #[.slice A0_0 l0_0.length c0_0, .int .i64 a0_1, .int .i64 a0_2, .slice A0_3 l0_3.length c0_3]] rfl TM ?_; (with_reducible refine (saronref03_Check.calls k _ _ l0_0 a0_1 a0_2 _ _ l0_3 t161 _ ?side1 ?side2 ?side3 ?side4 A2.out).mono ?_); (case side1 => exact TC HR0_0.out); (case side2 => exact HC0_0.out); (case side3 => exact TC HR0_3.out); (case side4 => exact HC0_3.out); rintro e w7 ⟨rfl, hb⟩; refine ⟨_, rfl, ?_⟩; replace BK160 := Aside0.mk (TKb hb BK160.out); replace HB := Aside0.mk (below_step (TB1 GE160.out) hb); (try clear hb); (try clear hb2); (try clear hk); (try clear hi); have hcz8_0 := cz BK160.out 0; have hcz8_1 := cz BK160.out 1; have hcz8_2 := cz BK160.out 2; have hcz8_3 := cz BK160.out 3; have hfz8_0 := fz BK160.out 0; have hfz8_1 := fz BK160.out 1; have hfz8_2 := fz BK160.out 2; have hfz8_3 := fz BK160.out 3) | ((with_reducible refine gate_callee (f := 57) rfl ?_); refine goesL_ (some 14) rfl rfl Tryd.func57 (by kernel_rfl) rfl #[.agg #[.slice A0_0 l0_0.length c0_0, .int .i64 a0_1, .int .i64 a0_2, .slice A0_3 l0_3.length c0_3], .bool true] rfl TM ?_; (with_reducible refine (saronref03_rows.calls k _ _ l0_0 a0_1 a0_2 _ _ l0_3 true t162 _ ?side1 ?side2 ?side3 ?side4 A4.out).mono ?_); (case side1 => exact TC HR0_0.out); (case side2 => exact HC0_0.out); (case side3 => exact TC HR0_3.out); (case side4 => exact HC0_3.out); rintro e w9 ⟨v163, rfl, ho0, hb⟩; refine ⟨_, rfl, ?_⟩; have HO164 := Aside0.mk (Kd.S_lower ho0 (below_size (TB1 GE160.out))); replace BK160 := Aside0.mk (TKb hb BK160.out); replace HB := Aside0.mk (below_step (TB1 GE160.out) hb); (try clear hb); (try clear hb2); (try clear hk); (try clear hi); (try clear ho0)))
  go_loopg [6, 7] k (fun kq v6 v7 w' => ∃ (x6_1 : Int) (x7_1 : Int), v6 = .int .i64 x6_1 ∧ v7 = .int .i64 x7_1 ∧ Aside0 (saronref03_Total.l0 kq t162 x6_1 x7_1 l0_0 a0_1 a0_2 l0_3 = some (r1, r2)) ∧ Aside0 (kq ≤ k) ∧ Aside0 (Kd.S k93 93 w' w.heap.size (fun _ => True) v163 t162) ∧ Aside0 (w'.heap[gb160]? = some (.cells #[(.slice A0_0 l0_0.length c0_0), .int .i64 a0_1, .int .i64 a0_2, (.slice A0_3 l0_3.length c0_3)] 27 (0, 0))) ∧ Aside0 (Below w.heap.size w w'))
  case atStart => exact ⟨(0), (0), TT, TT, H', ⟨Nat.le_refl _⟩, ⟨by (with_reducible repeat (first | apply Kd.S_alloc | apply Kd.S_drewN | apply Kd.S_drew)); exact HO164.out⟩, ⟨TK BK160.out⟩, ⟨TB1 GE160.out⟩⟩
  case round =>
   clear H'
   try clear c1
   try clear c2
   try clear p2
   try clear c3
   try clear c3b0
   try clear c3b1
   try clear c5
   try clear hcz6_0 hcz6_1 hcz6_2 hcz6_3
   try clear hcz8_0 hcz8_1 hcz8_2 hcz8_3
   try clear hfz6_0 hfz6_1 hfz6_2 hfz6_3
   try clear hfz8_0 hfz8_1 hfz8_2 hfz8_3
   obtain ⟨x6_1, x7_1, rfl, rfl, HA, HK1, HO_5, BK160, HB⟩ := hrel
   cases gk with
   | zero => exact absurd HA.out (by simp [saronref03_Total.l0])
   | succ k1 =>
    have H := HA.out
    clear HA
    simp only [saronref03_Total.l0] at H
    by_cases c10 : x7_1 < (l0_3.length : Int)
    ·rw [if_pos c10] at H
     have c10b0 : decide (x7_1 < (l0_3.length : Int)) = true := decide_eq_true c10
     clear c10
     replace H := Option.bind_eq_some_iff.mp H
     obtain ⟨t165, A110, H⟩ := H
     replace H : (saronref03_Total.l0 k1 t162 (wrap64 (x6_1 + t165)) (wrap64 (x7_1 + 1)) l0_0 a0_1 a0_2 l0_3) = some (r1, r2) := H
     have A11 := Aside0.mk A110
     clear A110
     have H' := Aside0.mk H
     clear H
     have hcz12_0 := cz BK160.out 0
     have hcz12_1 := cz BK160.out 1
     have hcz12_2 := cz BK160.out 2
     have hcz12_3 := cz BK160.out 3
     have hfz12_0 := fz BK160.out 0
     have hfz12_1 := fz BK160.out 1
     have hfz12_2 := fz BK160.out 2
     have hfz12_3 := fz BK160.out 3
     obtain ⟨Ao13, co13, eo13⟩ := Kd.S_slice HO_5.out
     subst eo13
     go_wp2_with (first | ((with_reducible refine gate_callee (f := 63) rfl ?_); refine goesL_ (some 26) rfl rfl Tryd.func63 (by kernel_rfl) rfl #[.agg #[.slice A0_0 l0_0.length c0_0, .int .i64 a0_1, .int .i64 a0_2, .slice A0_3 l0_3.length c0_3], .slice Ao13 t162.length co13, .int .i64 x7_1] rfl TM ?_; (with_reducible refine (saronref03_strokes.calls k1 _ _ l0_0 a0_1 a0_2 _ _ l0_3 _ _ t162 x7_1 t165 _ ?side1 ?side2 ?side3 ?side4 ?side5 ?side6 A11.out).mono ?_); (case side1 => exact TC HR0_0.out); (case side2 => exact HC0_0.out); (case side3 => exact TC HR0_3.out); (case side4 => exact HC0_3.out); (case side5 => exact TE (Kd.S_reads' HO_5.out).2.2); (case side6 => exact (Kd.S_reads' HO_5.out).2.1); rintro e w14 ⟨rfl, hb⟩; refine ⟨_, rfl, ?_⟩; replace HO_5 := Aside0.mk (Kd.S_below (TSo HO_5.out) hb); replace BK160 := Aside0.mk (TKb hb BK160.out); replace HB := Aside0.mk (below_step (TB1 GE160.out) hb); (try clear hb); (try clear hb2); (try clear hk); (try clear hi)))
     go_roundg k1
     case measure => have := HK1.out; omega
     case rel => exact ⟨(wrap64 (x6_1 + t165)), (wrap64 (x7_1 + 1)), TT, TT, H', ⟨by have := HK1.out; omega⟩, ⟨by (with_reducible repeat (first | apply Kd.S_alloc | apply Kd.S_drewN | apply Kd.S_drew)); exact HO_5.out⟩, ⟨TK BK160.out⟩, ⟨TB1 GE160.out⟩⟩
    ·rw [if_neg c10] at H
     have c10b0 : decide (x7_1 < (l0_3.length : Int)) = false := decide_eq_false c10
     clear c10
     by_cases c15 : x6_1 ≥ 1000
     ·rw [if_pos c15] at H
      have c15b0 : decide (1000 ≤ x6_1) = true := decide_eq_true c15
      clear c15
      simp only [Option.some.injEq, Prod.mk.injEq] at H
      obtain ⟨rfl, rfl⟩ := H
      have hcz16_0 := cz BK160.out 0
      have hcz16_1 := cz BK160.out 1
      have hcz16_2 := cz BK160.out 2
      have hcz16_3 := cz BK160.out 3
      have hfz16_0 := fz BK160.out 0
      have hfz16_1 := fz BK160.out 1
      have hfz16_2 := fz BK160.out 2
      have hfz16_3 := fz BK160.out 3
      go_wp2
      go_ret2
      exact ⟨TR, TB1 GE160.out⟩
     ·rw [if_neg c15] at H
      have c15b0 : decide (1000 ≤ x6_1) = false := decide_eq_false c15
      clear c15
      simp only [Option.some.injEq, Prod.mk.injEq] at H
      obtain ⟨rfl, rfl⟩ := H
      have hcz17_0 := cz BK160.out 0
      have hcz17_1 := cz BK160.out 1
      have hcz17_2 := cz BK160.out 2
      have hcz17_3 := cz BK160.out 3
      have hfz17_0 := fz BK160.out 0
      have hfz17_1 := fz BK160.out 1
      have hfz17_2 := fz BK160.out 2
      have hfz17_3 := fz BK160.out 3
      go_wp2
      go_ret2
      exact ⟨TR, TB1 GE160.out⟩
 ·rw [if_neg c3] at H
  have c3b0 : (t161 == 0) = false := beq_eq_false_iff_ne.mpr c3
  have c3b1 : (t161 != 0) = true := bne_iff_ne.mpr c3
  simp only [Option.some.injEq, Prod.mk.injEq] at H
  obtain ⟨rfl, rfl⟩ := H
  go_enter Tryd.func29, Tryd.ntmps29
  go_wp2_with (first | ((with_reducible refine gate_dst (N := 1) rfl ?_); refine box_event ?hg (N := 1) ?hd (cs := #[.slice A0_0 l0_0.length c0_0, .int .i64 a0_1, .int .i64 a0_2, .slice A0_3 l0_3.length c0_3]) (t := 27) ?hr ?_; (case hd => rfl); (case hg => rfl); (case hr => exact TS); intro gb160 hg w18 hbox hb; have BK160 := Aside0.mk (hbox); have GW160 := Aside0.mk ((TG : w.heap.size ≤ gb160)); have GE160 := Aside0.mk ((TG : w.heap.size ≤ gb160)); replace HB := Aside0.mk (below_step TB hb); clear hb hbox hg; have hcz19_0 := cz BK160.out 0; have hcz19_1 := cz BK160.out 1; have hcz19_2 := cz BK160.out 2; have hcz19_3 := cz BK160.out 3; have hfz19_0 := fz BK160.out 0; have hfz19_1 := fz BK160.out 1; have hfz19_2 := fz BK160.out 2; have hfz19_3 := fz BK160.out 3) | ((with_reducible refine gate_callee (f := 19) rfl ?_); refine goesL_ (some 9) rfl rfl Tryd.func19 (by kernel_rfl) rfl #[.agg #[.slice A0_0 l0_0.length c0_0, .int .i64 a0_1, .int .i64 a0_2, .slice A0_3 l0_3.length c0_3]] rfl TM ?_; (with_reducible refine (saronref03_Check.calls k _ _ l0_0 a0_1 a0_2 _ _ l0_3 t161 _ ?side1 ?side2 ?side3 ?side4 A2.out).mono ?_); (case side1 => exact TC HR0_0.out); (case side2 => exact HC0_0.out); (case side3 => exact TC HR0_3.out); (case side4 => exact HC0_3.out); rintro e w20 ⟨rfl, hb⟩; refine ⟨_, rfl, ?_⟩; replace BK160 := Aside0.mk (TKb hb BK160.out); replace HB := Aside0.mk (below_step (TB1 GE160.out) hb); (try clear hb); (try clear hb2); (try clear hk); (try clear hi)))
  go_ret2
  exact ⟨TR, TB1 GE160.out⟩
/-! ### saronref03_Need: function 31 -/
def saronref03_Need.l0 : Nat → Int → List (S93) → Int → Option (Int × Int)
 | 0, _, _, _ => none
 | k + 1, x1, x7, x8 => if x8 ≤ 30 then (if 0 ≤ x8 then (if x8 < (x7.length : Int) then ((saronref03_row_at.f ((rd_T93 x7 x8).f0) x1).bind fun t175 => (if t175 < 1000 then (some (x8, 0)) else (saronref03_Need.l0 k x1 x7 (wrap64 (x8 + 1))))) else (none)) else (none)) else (some (0, 4))
def saronref03_Need.f (k : Nat) (l0_0 : List (S57)) (a0_1 : Int) (a0_2 : Int) (l0_3 : List (S69)) (a1 : Int) : Option (Int × Int) := (saronref03_isState.f a1 0).bind fun t169 => ((saronref03_asked.f k l0_0 a0_1 a0_2 l0_3 t169).bind fun t170 => (if t170 = 0 then ((saronref03_rows.f k l0_0 a0_1 a0_2 l0_3 true).bind fun t171 => (saronref03_Need.l0 k a1 t171 0)) else (some (0, t170))))
theorem saronref03_Need.mono_l : ∀ k, (∀ y0 y1 y2, LeO (saronref03_Need.l0 k y0 y1 y2) (saronref03_Need.l0 (k + 1) y0 y1 y2))
 | 0 => fun _ _ _ r h => by simp [saronref03_Need.l0] at h
 | k + 1 => by
  have ih0 := saronref03_Need.mono_l k
  ·intro y0 y1 y2
   unfold saronref03_Need.l0
   repeat' first
   | (with_reducible exact ih0 _ _ _)
   | (with_reducible exact saronref03_asked.mono _ _ _ _ _ _)
   | (with_reducible exact saronref03_rows.mono _ _ _ _ _ _)
   | (with_reducible exact LeO.refl _)
   | (with_reducible exact LeO.none _)
   | (with_reducible refine LeO.ite ?_ ?_)
   | (with_reducible refine LeO.bind ?_ (fun _ => ?_))
   | exact ih0 _ _ _
   | exact saronref03_asked.mono _ _ _ _ _ _
   | exact saronref03_rows.mono _ _ _ _ _ _
   | exact LeO.none _
   | refine LeO.ite ?_ ?_
   | refine LeO.bind ?_ (fun _ => ?_)
theorem saronref03_Need.mono : ∀ a0 a1 a2 a3 a4 k, LeO (saronref03_Need.f k a0 a1 a2 a3 a4) (saronref03_Need.f (k + 1) a0 a1 a2 a3 a4) := by
 intro a0 a1 a2 a3 a4 k
 have ih0 := saronref03_Need.mono_l k
 unfold saronref03_Need.f
 repeat' first
   | (with_reducible exact ih0 _ _ _)
   | (with_reducible exact saronref03_asked.mono _ _ _ _ _ _)
   | (with_reducible exact saronref03_rows.mono _ _ _ _ _ _)
   | (with_reducible exact LeO.refl _)
   | (with_reducible exact LeO.none _)
   | (with_reducible refine LeO.ite ?_ ?_)
   | (with_reducible refine LeO.bind ?_ (fun _ => ?_))
   | exact ih0 _ _ _
   | exact saronref03_asked.mono _ _ _ _ _ _
   | exact saronref03_rows.mono _ _ _ _ _ _
   | exact LeO.none _
   | refine LeO.ite ?_ ?_
   | refine LeO.bind ?_ (fun _ => ?_)
set_option maxHeartbeats 8000000 in
set_option maxRecDepth 100000 in
theorem saronref03_Need.calls (k : Nat) (A0_0 : Option Addr) (c0_0 : Nat) (l0_0 : List (S57)) (a0_1 : Int) (a0_2 : Int) (A0_3 : Option Addr) (c0_3 : Nat) (l0_3 : List (S69)) (a1 : Int) (r1 : Int) (r2 : Int) (w : World) (hr0_0 : Kd.C k57 w A0_0 l0_0.length l0_0) (hc0_0 : l0_0.length ≤ c0_0) (hr0_3 : Kd.C k69 w A0_3 l0_3.length l0_3) (hc0_3 : l0_3.length ≤ c0_3) (h : saronref03_Need.f k l0_0 a0_1 a0_2 l0_3 a1 = some (r1, r2)) :
  Calls Tryd.prog 31 #[.agg #[.slice A0_0 l0_0.length c0_0, .int .i64 a0_1, .int .i64 a0_2, .slice A0_3 l0_3.length c0_3], .int .i64 a1] w fun e w' => e = .returned (.tuple #[.int .i64 r1, .int .i64 r2]) ∧ Below w.heap.size w w' := by
 have hu27 := Tryd.underlying27
 have hu93 := Tryd.underlying93
 have HR0_0 := Aside0.mk hr0_0
 have HC0_0 := Aside0.mk hc0_0
 clear hr0_0 hc0_0
 have HR0_3 := Aside0.mk hr0_3
 have HC0_3 := Aside0.mk hc0_3
 clear hr0_3 hc0_3
 have HB := Aside0.mk (Below.refl w.heap.size w)
 have H : ((saronref03_isState.f a1 0).bind fun t169 => ((saronref03_asked.f k l0_0 a0_1 a0_2 l0_3 t169).bind fun t170 => (if t170 = 0 then ((saronref03_rows.f k l0_0 a0_1 a0_2 l0_3 true).bind fun t171 => (saronref03_Need.l0 k a1 t171 0)) else (some (0, t170))))) = some (r1, r2) := h
 clear h
 replace H := Option.bind_eq_some_iff.mp H
 obtain ⟨t169, A30, H⟩ := H
 replace H : ((saronref03_asked.f k l0_0 a0_1 a0_2 l0_3 t169).bind fun t170 => (if t170 = 0 then ((saronref03_rows.f k l0_0 a0_1 a0_2 l0_3 true).bind fun t171 => (saronref03_Need.l0 k a1 t171 0)) else (some (0, t170)))) = some (r1, r2) := H
 have A3 := Aside0.mk A30
 clear A30
 replace H := Option.bind_eq_some_iff.mp H
 obtain ⟨t170, A40, H⟩ := H
 replace H : (if t170 = 0 then ((saronref03_rows.f k l0_0 a0_1 a0_2 l0_3 true).bind fun t171 => (saronref03_Need.l0 k a1 t171 0)) else (some (0, t170))) = some (r1, r2) := H
 have A4 := Aside0.mk A40
 clear A40
 by_cases c5 : t170 = 0
 ·rw [if_pos c5] at H
  have c5b0 : (t170 == 0) = true := beq_iff_eq.mpr c5
  have c5b1 : (t170 != 0) = false := bne_eq_false_iff_eq.mpr c5
  clear c5
  replace H := Option.bind_eq_some_iff.mp H
  obtain ⟨t171, A60, H⟩ := H
  replace H : (saronref03_Need.l0 k a1 t171 0) = some (r1, r2) := H
  have A6 := Aside0.mk A60
  clear A60
  have H' := Aside0.mk H
  clear H
  go_enter Tryd.func31, Tryd.ntmps31
  try go_wp2_with (first | ((with_reducible refine gate_dst (N := 2) rfl ?_); refine box_event ?hg (N := 2) ?hd (cs := #[.slice A0_0 l0_0.length c0_0, .int .i64 a0_1, .int .i64 a0_2, .slice A0_3 l0_3.length c0_3]) (t := 27) ?hr ?_; (case hd => rfl); (case hg => rfl); (case hr => exact TS); intro gb168 hg w7 hbox hb; have BK168 := Aside0.mk (hbox); have GW168 := Aside0.mk ((TG : w.heap.size ≤ gb168)); have GE168 := Aside0.mk ((TG : w.heap.size ≤ gb168)); replace HB := Aside0.mk (below_step TB hb); clear hb hbox hg))
  have n0_ := Aside0.mk (blk_drew BK168.out)
  have n1_ := Aside0.mk (below_drew1 HB.out)
  clear BK168
  clear HB
  have BK168 := n0_
  have HB := n1_
  clear n0_ n1_
  refine start_ (n := 5) (S := fun w' => w'.cell? ⟨gb168, 0, none⟩ = some (.slice A0_0 l0_0.length c0_0) ∧ w'.cell? ⟨gb168, 1, none⟩ = some (.int .i64 a0_1) ∧ w'.cell? ⟨gb168, 2, none⟩ = some (.int .i64 a0_2) ∧ w'.cell? ⟨gb168, 3, none⟩ = some (.slice A0_3 l0_3.length c0_3)) (ds := []) (.replicate 5 false) (by kernel_rfl) rfl rfl ⟨cz BK168.out 0, cz BK168.out 1, cz BK168.out 2, cz BK168.out 3⟩ (fun hHeld => ?_)
  generalize w7.drew = w8 at BK168 HB hHeld ⊢
  refine pu 1 10 (bt 5 2) (k := ?_)
  refine tk4 0 9 (bt 5 3) hHeld (k := ?_)
  refine oN 2 11 (bt 5 7) (h := fun K hK => ?_)
  refine goes_ Tryd.func55 (by kernel_rfl) rfl #[.int .i64 a1, .int .i64 0] (by rfl) rfl rfl TM ?_
  with_reducible refine (saronref03_isState.calls a1 0 t169 _ A3.out).mono ?_
  rintro e w' ⟨rfl, ⟨nd, rfl⟩⟩
  refine ⟨_, rfl, ?_⟩
  refine hK.out _ _ ⟨cz BK168.out 0, cz BK168.out 1, cz BK168.out 2, cz BK168.out 3⟩ (fun hHeld => ?_)
  clear hK K
  refine norm_ (a' := ?_) ?_ ?_
  rotate_left
  ·show Act.put _ (some 11) _ = _
   simp only [Act.put, lA, lZ, lS, i64_w, i32_w]
   rfl
  refine oN 3 12 (bt 5 15) (h := fun K hK => ?_)
  refine goes_ Tryd.func54 (by kernel_rfl) rfl #[.agg #[.slice A0_0 l0_0.length c0_0, .int .i64 a0_1, .int .i64 a0_2, .slice A0_3 l0_3.length c0_3], .bool t169] (by rfl) rfl rfl TM ?_
  with_reducible refine (saronref03_asked.calls k _ _ l0_0 a0_1 a0_2 _ _ l0_3 t169 t170 _ ?side1 ?side2 ?side3 ?side4 A4.out).mono ?_
  (case side1 => exact TD HR0_0.out (TB1 GE168.out))
  (case side2 => exact HC0_0.out)
  (case side3 => exact TD HR0_3.out (TB1 GE168.out))
  (case side4 => exact HC0_3.out)
  rintro e w9 ⟨rfl, hb⟩
  refine ⟨_, rfl, ?_⟩
  have n0_ := Aside0.mk (TKb hb BK168.out)
  have n1_ := Aside0.mk (below_step (TB1 GE168.out) hb)
  clear BK168
  clear HB
  have BK168 := n0_
  have HB := n1_
  clear n0_ n1_
  (try clear hb)
  (try clear hb2)
  (try clear hk)
  (try clear hi)
  refine hK.out _ _ ⟨cz BK168.out 0, cz BK168.out 1, cz BK168.out 2, cz BK168.out 3⟩ (fun hHeld => ?_)
  clear hK K
  refine norm_ (a' := ?_) ?_ ?_
  rotate_left
  ·show Act.put _ (some 12) _ = _
   simp only [Act.put, lA, lZ, lS, i64_w, i32_w]
   rfl
  refine pu 4 6 (bt 5 31) (k := ?_)
  refine done_ (by kernel_rfl) ?_
  have hcz10_0 := cz BK168.out 0
  have hcz10_1 := cz BK168.out 1
  have hcz10_2 := cz BK168.out 2
  have hcz10_3 := cz BK168.out 3
  have hfz10_0 := fz BK168.out 0
  have hfz10_1 := fz BK168.out 1
  have hfz10_2 := fz BK168.out 2
  have hfz10_3 := fz BK168.out 3
  try go_wp2_with (first | ((with_reducible refine gate_callee (f := 57) rfl ?_); refine goesL_ (some 17) rfl rfl Tryd.func57 (by kernel_rfl) rfl #[.agg #[.slice A0_0 l0_0.length c0_0, .int .i64 a0_1, .int .i64 a0_2, .slice A0_3 l0_3.length c0_3], .bool true] rfl TM ?_; (with_reducible refine (saronref03_rows.calls k _ _ l0_0 a0_1 a0_2 _ _ l0_3 true t171 _ ?side1 ?side2 ?side3 ?side4 A6.out).mono ?_); (case side1 => exact TC HR0_0.out); (case side2 => exact HC0_0.out); (case side3 => exact TC HR0_3.out); (case side4 => exact HC0_3.out); rintro e w11 ⟨v172, rfl, ho0, hb⟩; refine ⟨_, rfl, ?_⟩; have HO173 := Aside0.mk (Kd.S_lower ho0 (below_size (TB1 GE168.out))); replace BK168 := Aside0.mk (TKb hb BK168.out); replace HB := Aside0.mk (below_step (TB1 GE168.out) hb); (try clear hb); (try clear hb2); (try clear hk); (try clear hi); (try clear ho0)))
  go_loopg [8] k (fun kq v8 w' => ∃ (x8_1 : Int), v8 = .int .i64 x8_1 ∧ Aside0 (saronref03_Need.l0 kq a1 t171 x8_1 = some (r1, r2)) ∧ Aside0 (kq ≤ k) ∧ Aside0 (Kd.S k93 93 w' w.heap.size (fun _ => True) v172 t171) ∧ Aside0 (w'.heap[gb168]? = some (.cells #[(.slice A0_0 l0_0.length c0_0), .int .i64 a0_1, .int .i64 a0_2, (.slice A0_3 l0_3.length c0_3)] 27 (0, 0))) ∧ Aside0 (Below w.heap.size w w'))
  case atStart => exact ⟨(0), TT, H', ⟨Nat.le_refl _⟩, ⟨by (with_reducible repeat (first | apply Kd.S_alloc | apply Kd.S_drewN | apply Kd.S_drew)); exact HO173.out⟩, ⟨TK BK168.out⟩, ⟨TB1 GE168.out⟩⟩
  case round =>
   clear H'
   try clear p2
   try clear c3
   try clear c5
   try clear c5b0
   try clear c5b1
   try clear hcz10_0 hcz10_1 hcz10_2 hcz10_3 hfz10_0 hfz10_1 hfz10_2 hfz10_3
   obtain ⟨x8_1, rfl, HA, HK1, HO_7, BK168, HB⟩ := hrel
   cases gk with
   | zero => exact absurd HA.out (by simp [saronref03_Need.l0])
   | succ k1 =>
    have H := HA.out
    clear HA
    simp only [saronref03_Need.l0] at H
    by_cases c12 : x8_1 ≤ 30
    ·rw [if_pos c12] at H
     have c12b0 : decide (x8_1 ≤ 30) = true := decide_eq_true c12
     clear c12
     by_cases c13 : 0 ≤ x8_1
     ·rw [if_pos c13] at H
      have c13b0 : decide (0 ≤ x8_1) = true := decide_eq_true c13
      clear c13
      by_cases c14 : x8_1 < (t171.length : Int)
      ·rw [if_pos c14] at H
       have c14b0 : decide (x8_1 < (t171.length : Int)) = true := decide_eq_true c14
       clear c14
       replace H := Option.bind_eq_some_iff.mp H
       obtain ⟨t175, A150, H⟩ := H
       replace H : (if t175 < 1000 then (some (x8_1, 0)) else (saronref03_Need.l0 k1 a1 t171 (wrap64 (x8_1 + 1)))) = some (r1, r2) := H
       have A15 := Aside0.mk A150
       clear A150
       by_cases c16 : t175 < 1000
       ·rw [if_pos c16] at H
        have c16b0 : decide (t175 < 1000) = true := decide_eq_true c16
        clear c16
        simp only [Option.some.injEq, Prod.mk.injEq] at H
        obtain ⟨rfl, rfl⟩ := H
        obtain ⟨Ao17, co17, eo17⟩ := Kd.S_slice HO_7.out
        subst eo17
        have p174 : 0 ≤ (x8_1 : Int) := of_decide_eq_true TA
        have q174 : x8_1 < (t171.length : Int) := of_decide_eq_true TA
        obtain ⟨ad174, A174_0, c174_0, e174, hx174_0, hl174_0, hi174_0⟩ := at_T93 (Kd.S_reads' HO_7.out).2.2 x8_1 p174 q174
        cases e174
        obtain ⟨ce174, hce174, hMe174, hcc174⟩ := Kd.S_get HO_7.out z93 x8_1 p174 (by first | exact q174 | exact of_decide_eq_true TA | (have e_ := (Kd.S_reads' HO_7.out).1; omega))
        obtain ⟨ve174_0, rfl, ge174_0⟩ := k93_openM hMe174
        have hv174_0 := hcc174 0 _ rfl
        rw [Nat.add_zero, show (k93).sz = 1 from rfl, Nat.mul_one] at hv174_0
        replace hv174_0 := Option.some.inj (hv174_0.symm.trans hx174_0)
        rw [hv174_0] at ge174_0
        have HL174_0 := Aside0.mk (show Kd.R (Kd.int .i64) 3 _ _ _ _ ((rd_T93 t171 x8_1).f0) from ge174_0)
        clear hv174_0 ge174_0
        clear hcc174 hce174
        have HR174_0 := Aside0.mk hi174_0
        have HC174_0 := Aside0.mk hl174_0
        clear hi174_0 hl174_0
        replace p174 := eq_true p174
        replace q174 := eq_true q174
        go_wp2_with (first | ((with_reducible refine gate_callee (f := 61) rfl ?_); refine goesL_ (some 27) rfl rfl Tryd.func61 (by kernel_rfl) rfl #[.agg #[.slice A174_0 ((rd_T93 t171 x8_1).f0).length c174_0], .int .i64 a1] rfl TM ?_; (with_reducible refine (saronref03_row_at.calls _ _ ((rd_T93 t171 x8_1).f0) a1 t175 _ ?side1 ?side2 A15.out).mono ?_); (case side1 => repeat (first | exact (by repeat (first | (with_reducible exact HR174_0.out) | (with_reducible refine Kd.C_alloc ?_ _) | (with_reducible refine Kd.C_drewN ?_ _) | (with_reducible refine Kd.C_drew ?_) | exact HR174_0.out)) | (with_reducible refine Kd.C_alloc ?_ _) | (with_reducible refine Kd.C_drewN ?_ _) | (with_reducible refine Kd.C_drew ?_))); (case side2 => exact HC174_0.out); rintro e w18 ⟨rfl, hb⟩; refine ⟨_, rfl, ?_⟩; replace HO_7 := Aside0.mk (Kd.S_below (TSo HO_7.out) hb); replace HL174_0 := Aside0.mk (Kd.R_below (TRo HL174_0.out) hb); replace BK168 := Aside0.mk (TKb hb BK168.out); replace HR174_0 := Aside0.mk (Kd.C_below (by repeat (first | (with_reducible exact HR174_0.out) | (with_reducible refine Kd.C_alloc ?_ _) | (with_reducible refine Kd.C_drewN ?_ _) | (with_reducible refine Kd.C_drew ?_) | exact HR174_0.out)) hb); replace HB := Aside0.mk (below_step (TB1 GE168.out) hb); (try clear hb); (try clear hb2); (try clear hk); (try clear hi)))
        go_ret2
        exact ⟨TR, TB1 GE168.out⟩
       ·rw [if_neg c16] at H
        have c16b0 : decide (t175 < 1000) = false := decide_eq_false c16
        clear c16
        have H' := Aside0.mk H
        clear H
        obtain ⟨Ao19, co19, eo19⟩ := Kd.S_slice HO_7.out
        subst eo19
        have p174 : 0 ≤ (x8_1 : Int) := of_decide_eq_true TA
        have q174 : x8_1 < (t171.length : Int) := of_decide_eq_true TA
        obtain ⟨ad174, A174_0, c174_0, e174, hx174_0, hl174_0, hi174_0⟩ := at_T93 (Kd.S_reads' HO_7.out).2.2 x8_1 p174 q174
        cases e174
        obtain ⟨ce174, hce174, hMe174, hcc174⟩ := Kd.S_get HO_7.out z93 x8_1 p174 (by first | exact q174 | exact of_decide_eq_true TA | (have e_ := (Kd.S_reads' HO_7.out).1; omega))
        obtain ⟨ve174_0, rfl, ge174_0⟩ := k93_openM hMe174
        have hv174_0 := hcc174 0 _ rfl
        rw [Nat.add_zero, show (k93).sz = 1 from rfl, Nat.mul_one] at hv174_0
        replace hv174_0 := Option.some.inj (hv174_0.symm.trans hx174_0)
        rw [hv174_0] at ge174_0
        have HL174_0 := Aside0.mk (show Kd.R (Kd.int .i64) 3 _ _ _ _ ((rd_T93 t171 x8_1).f0) from ge174_0)
        clear hv174_0 ge174_0
        clear hcc174 hce174
        have HR174_0 := Aside0.mk hi174_0
        have HC174_0 := Aside0.mk hl174_0
        clear hi174_0 hl174_0
        replace p174 := eq_true p174
        replace q174 := eq_true q174
        go_wp2_with (first | ((with_reducible refine gate_callee (f := 61) rfl ?_); refine goesL_ (some 27) rfl rfl Tryd.func61 (by kernel_rfl) rfl #[.agg #[.slice A174_0 ((rd_T93 t171 x8_1).f0).length c174_0], .int .i64 a1] rfl TM ?_; (with_reducible refine (saronref03_row_at.calls _ _ ((rd_T93 t171 x8_1).f0) a1 t175 _ ?side1 ?side2 A15.out).mono ?_); (case side1 => repeat (first | exact (by repeat (first | (with_reducible exact HR174_0.out) | (with_reducible refine Kd.C_alloc ?_ _) | (with_reducible refine Kd.C_drewN ?_ _) | (with_reducible refine Kd.C_drew ?_) | exact HR174_0.out)) | (with_reducible refine Kd.C_alloc ?_ _) | (with_reducible refine Kd.C_drewN ?_ _) | (with_reducible refine Kd.C_drew ?_))); (case side2 => exact HC174_0.out); rintro e w20 ⟨rfl, hb⟩; refine ⟨_, rfl, ?_⟩; replace HO_7 := Aside0.mk (Kd.S_below (TSo HO_7.out) hb); replace HL174_0 := Aside0.mk (Kd.R_below (TRo HL174_0.out) hb); replace BK168 := Aside0.mk (TKb hb BK168.out); replace HR174_0 := Aside0.mk (Kd.C_below (by repeat (first | (with_reducible exact HR174_0.out) | (with_reducible refine Kd.C_alloc ?_ _) | (with_reducible refine Kd.C_drewN ?_ _) | (with_reducible refine Kd.C_drew ?_) | exact HR174_0.out)) hb); replace HB := Aside0.mk (below_step (TB1 GE168.out) hb); (try clear hb); (try clear hb2); (try clear hk); (try clear hi)))
        go_roundg k1
        case measure => have := HK1.out; omega
        case rel => exact ⟨(wrap64 (x8_1 + 1)), TT, H', ⟨by have := HK1.out; omega⟩, ⟨by (with_reducible repeat (first | apply Kd.S_alloc | apply Kd.S_drewN | apply Kd.S_drew)); exact HO_7.out⟩, ⟨TK BK168.out⟩, ⟨TB1 GE168.out⟩⟩
      ·rw [if_neg c14] at H
       exact absurd H (by simp)
     ·rw [if_neg c13] at H
      exact absurd H (by simp)
    ·rw [if_neg c12] at H
     have c12b0 : decide (x8_1 ≤ 30) = false := decide_eq_false c12
     clear c12
     simp only [Option.some.injEq, Prod.mk.injEq] at H
     obtain ⟨rfl, rfl⟩ := H
     go_wp2
     go_ret2
     exact ⟨TR, TB1 GE168.out⟩
 ·rw [if_neg c5] at H
  have c5b0 : (t170 == 0) = false := beq_eq_false_iff_ne.mpr c5
  have c5b1 : (t170 != 0) = true := bne_iff_ne.mpr c5
  simp only [Option.some.injEq, Prod.mk.injEq] at H
  obtain ⟨rfl, rfl⟩ := H
  go_enter Tryd.func31, Tryd.ntmps31
  try go_wp2_with (first | ((with_reducible refine gate_dst (N := 2) rfl ?_); refine box_event ?hg (N := 2) ?hd (cs := #[.slice A0_0 l0_0.length c0_0, .int .i64 a0_1, .int .i64 a0_2, .slice A0_3 l0_3.length c0_3]) (t := 27) ?hr ?_; (case hd => rfl); (case hg => rfl); (case hr => exact TS); intro gb168 hg w21 hbox hb; have BK168 := Aside0.mk (hbox); have GW168 := Aside0.mk ((TG : w.heap.size ≤ gb168)); have GE168 := Aside0.mk ((TG : w.heap.size ≤ gb168)); replace HB := Aside0.mk (below_step TB hb); clear hb hbox hg))
  have n0_ := Aside0.mk (blk_drew BK168.out)
  have n1_ := Aside0.mk (below_drew1 HB.out)
  clear BK168
  clear HB
  have BK168 := n0_
  have HB := n1_
  clear n0_ n1_
  refine start_ (n := 5) (S := fun w' => w'.cell? ⟨gb168, 0, none⟩ = some (.slice A0_0 l0_0.length c0_0) ∧ w'.cell? ⟨gb168, 1, none⟩ = some (.int .i64 a0_1) ∧ w'.cell? ⟨gb168, 2, none⟩ = some (.int .i64 a0_2) ∧ w'.cell? ⟨gb168, 3, none⟩ = some (.slice A0_3 l0_3.length c0_3)) (ds := []) (.replicate 5 false) (by kernel_rfl) rfl rfl ⟨cz BK168.out 0, cz BK168.out 1, cz BK168.out 2, cz BK168.out 3⟩ (fun hHeld => ?_)
  generalize w21.drew = w22 at BK168 HB hHeld ⊢
  refine pu 1 10 (bt 5 2) (k := ?_)
  refine tk4 0 9 (bt 5 3) hHeld (k := ?_)
  refine oN 2 11 (bt 5 7) (h := fun K hK => ?_)
  refine goes_ Tryd.func55 (by kernel_rfl) rfl #[.int .i64 a1, .int .i64 0] (by rfl) rfl rfl TM ?_
  with_reducible refine (saronref03_isState.calls a1 0 t169 _ A3.out).mono ?_
  rintro e w' ⟨rfl, ⟨nd, rfl⟩⟩
  refine ⟨_, rfl, ?_⟩
  refine hK.out _ _ ⟨cz BK168.out 0, cz BK168.out 1, cz BK168.out 2, cz BK168.out 3⟩ (fun hHeld => ?_)
  clear hK K
  refine norm_ (a' := ?_) ?_ ?_
  rotate_left
  ·show Act.put _ (some 11) _ = _
   simp only [Act.put, lA, lZ, lS, i64_w, i32_w]
   rfl
  refine oN 3 12 (bt 5 15) (h := fun K hK => ?_)
  refine goes_ Tryd.func54 (by kernel_rfl) rfl #[.agg #[.slice A0_0 l0_0.length c0_0, .int .i64 a0_1, .int .i64 a0_2, .slice A0_3 l0_3.length c0_3], .bool t169] (by rfl) rfl rfl TM ?_
  with_reducible refine (saronref03_asked.calls k _ _ l0_0 a0_1 a0_2 _ _ l0_3 t169 t170 _ ?side1 ?side2 ?side3 ?side4 A4.out).mono ?_
  (case side1 => exact TD HR0_0.out (TB1 GE168.out))
  (case side2 => exact HC0_0.out)
  (case side3 => exact TD HR0_3.out (TB1 GE168.out))
  (case side4 => exact HC0_3.out)
  rintro e w23 ⟨rfl, hb⟩
  refine ⟨_, rfl, ?_⟩
  have n0_ := Aside0.mk (TKb hb BK168.out)
  have n1_ := Aside0.mk (below_step (TB1 GE168.out) hb)
  clear BK168
  clear HB
  have BK168 := n0_
  have HB := n1_
  clear n0_ n1_
  (try clear hb)
  (try clear hb2)
  (try clear hk)
  (try clear hi)
  refine hK.out _ _ ⟨cz BK168.out 0, cz BK168.out 1, cz BK168.out 2, cz BK168.out 3⟩ (fun hHeld => ?_)
  clear hK K
  refine norm_ (a' := ?_) ?_ ?_
  rotate_left
  ·show Act.put _ (some 12) _ = _
   simp only [Act.put, lA, lZ, lS, i64_w, i32_w]
   rfl
  refine pu 4 6 (bt 5 31) (k := ?_)
  refine done_ (by kernel_rfl) ?_
  try go_wp2
  go_ret2
  exact ⟨TR, TB1 GE168.out⟩
end Go.Proofs.YtfmpbkolpjlfbaaDoor.PRaspKeys
