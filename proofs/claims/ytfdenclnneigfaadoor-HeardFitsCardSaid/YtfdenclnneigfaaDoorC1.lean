import Derived.Test.YtfdenclnneigfaaDoorC0
import Derived.Test.YtfdenclnneigfaaDoorM0
import Derived.Test.YtfdenclnneigfaaDoorProg
import Derived.Below
import Derived.Deep.Draws
import Derived.Deep.AppendLies
import Derived.Maps.AppendAt
import Derived.OwnWalk
import Derived.Laws.BytesArg
import Derived.Laws.MakeOwn
import Derived.Laws.OwnMore
import Derived.Deep.OwnRows
import Derived.Tactics
import Derived.Lib.ConvBytes
import Derived.Laws.Slices
import Derived.WalkKit
import Derived.KernelRfl
import Derived.RowKit3
import Derived.Deep.LoopGhost
import Derived.Deep.QuietTactic
import Derived.BigQuiet
import Derived.WideLaws
import Derived.Deep.DeepCutAuto
import Derived.Deep.CutBlock
import Derived.Deep.RegionHeld3
import Derived.Laws.Rows
import Derived.Lib.AppendStr
import Derived.ArgAppend
import Derived.Laws.IdiomCopy
import Derived.OrdersHeld
import Derived.Laws.BitsLemmas
import Derived.RowKit
set_option linter.unusedVariables false
set_option linter.unusedSimpArgs false
namespace Go.Proofs.YtfdenclnneigfaaDoor.PRaspKeys
open Go.RowKit Go.Proofs.YtfdenclnneigfaaDoorW.PrintWords Go.Proofs.YtfdenclnneigfaaDoorW.PrintLast Go.Proofs.YtfdenclnneigfaaDoorW.PrintMore Go.Proofs.YtfdenclnneigfaaDoor.M
attribute [local go_sem] max2_int min2_int max_two min_two max_three min_three max_four min_four   -- for this text's walks alone
/-! #### struct type 114 -/
/-! #### struct type 62 -/
end Go.Proofs.YtfdenclnneigfaaDoor.PRaspKeys
namespace Go.Proofs.YtfdenclnneigfaaDoor.PRaspKeys
open Go.RowKit Go.Proofs.YtfdenclnneigfaaDoorW.PrintWords Go.Proofs.YtfdenclnneigfaaDoorW.PrintLast Go.Proofs.YtfdenclnneigfaaDoorW.PrintMore Go.Proofs.YtfdenclnneigfaaDoor.M
attribute [local go_sem] max2_int min2_int max_two min_two max_three min_three max_four min_four   -- for this text's walks alone
/-! ### saronref09_Check: function 17 -/
mutual
def saronref09_Check.j0 : Nat → Bool → Int → List (S114) → List (S62) → Option (Int)
 | 0, _, _, _, _ => none
 | k + 1, x3, x122000, x122001, x122002 => saronref09_Check.l0 k x3 0 x122000 x122001 x122002
def saronref09_Check.l0 : Nat → Bool → Int → Int → List (S114) → List (S62) → Option (Int)
 | 0, _, _, _, _, _ => none
 | k + 1, x3, x4, x122000, x122001, x122002 => if x3 = true then (saronref09_Check.j2 k x3 x4 (decide (x4 < (x122002.length : Int))) x122000 x122001 x122002) else (saronref09_Check.j2 k x3 x4 false x122000 x122001 x122002)
def saronref09_Check.j2 : Nat → Bool → Int → Bool → Int → List (S114) → List (S62) → Option (Int)
 | 0, _, _, _, _, _, _ => none
 | k + 1, x3, x4, x22, x122000, x122001, x122002 => if x22 = true then (if 0 ≤ x4 then (if x4 < (x122002.length : Int) then ((saronref00_Sits.f ((rd_T62 x122002 x4).f0) 0 (wrap64 ((x122001.length : Int) - 1))).bind fun t125 => (if t125 = true then ((saronref09_areTones.f k ((rd_T62 x122002 x4).f1) 1 24).bind fun t127 => (saronref09_Check.l0 k t127 (wrap64 (x4 + 1)) x122000 x122001 x122002)) else (saronref09_Check.l0 k false (wrap64 (x4 + 1)) x122000 x122001 x122002))) else (none)) else (none)) else (if x3 = true then (some 0) else (some 90))
end
def saronref09_Check.f (k : Nat) (a0_0 : Int) (l0_1 : List (S114)) (l0_2 : List (S62)) : Option (Int) := (saronref05_Check.f k a0_0 l0_1).bind fun t122 => (if t122 = 0 then ((saronref00_Sits.f (l0_2.length : Int) 1 6).bind fun t123 => (saronref09_Check.j0 k t123 a0_0 l0_1 l0_2)) else (saronref09_Check.j0 k false a0_0 l0_1 l0_2))
theorem saronref09_Check.mono_l : ∀ k, (∀ y0 y1 y2 y3, LeO (saronref09_Check.j0 k y0 y1 y2 y3) (saronref09_Check.j0 (k + 1) y0 y1 y2 y3)) ∧ (∀ y0 y1 y2 y3 y4, LeO (saronref09_Check.l0 k y0 y1 y2 y3 y4) (saronref09_Check.l0 (k + 1) y0 y1 y2 y3 y4)) ∧ (∀ y0 y1 y2 y3 y4 y5, LeO (saronref09_Check.j2 k y0 y1 y2 y3 y4 y5) (saronref09_Check.j2 (k + 1) y0 y1 y2 y3 y4 y5))
 | 0 => ⟨fun _ _ _ _ r h => by simp [saronref09_Check.j0] at h, fun _ _ _ _ _ r h => by simp [saronref09_Check.l0] at h, fun _ _ _ _ _ _ r h => by simp [saronref09_Check.j2] at h⟩
 | k + 1 => by
  obtain ⟨ih0, ih1, ih2⟩ := saronref09_Check.mono_l k
  refine ⟨?_, ?_, ?_⟩
  ·intro y0 y1 y2 y3
   unfold saronref09_Check.j0
   repeat' first
   | (with_reducible exact ih0 _ _ _ _)
   | (with_reducible exact ih1 _ _ _ _ _)
   | (with_reducible exact ih2 _ _ _ _ _ _)
   | (with_reducible exact saronref05_Check.mono _ _ _)
   | (with_reducible exact saronref09_areTones.mono _ _ _ _)
   | (with_reducible exact LeO.refl _)
   | (with_reducible exact LeO.none _)
   | (with_reducible refine LeO.ite ?_ ?_)
   | (with_reducible refine LeO.bind ?_ (fun _ => ?_))
   | exact ih0 _ _ _ _
   | exact ih1 _ _ _ _ _
   | exact ih2 _ _ _ _ _ _
   | exact saronref05_Check.mono _ _ _
   | exact saronref09_areTones.mono _ _ _ _
   | exact LeO.none _
   | refine LeO.ite ?_ ?_
   | refine LeO.bind ?_ (fun _ => ?_)
  ·intro y0 y1 y2 y3 y4
   unfold saronref09_Check.l0
   repeat' first
   | (with_reducible exact ih0 _ _ _ _)
   | (with_reducible exact ih1 _ _ _ _ _)
   | (with_reducible exact ih2 _ _ _ _ _ _)
   | (with_reducible exact saronref05_Check.mono _ _ _)
   | (with_reducible exact saronref09_areTones.mono _ _ _ _)
   | (with_reducible exact LeO.refl _)
   | (with_reducible exact LeO.none _)
   | (with_reducible refine LeO.ite ?_ ?_)
   | (with_reducible refine LeO.bind ?_ (fun _ => ?_))
   | exact ih0 _ _ _ _
   | exact ih1 _ _ _ _ _
   | exact ih2 _ _ _ _ _ _
   | exact saronref05_Check.mono _ _ _
   | exact saronref09_areTones.mono _ _ _ _
   | exact LeO.none _
   | refine LeO.ite ?_ ?_
   | refine LeO.bind ?_ (fun _ => ?_)
  ·intro y0 y1 y2 y3 y4 y5
   unfold saronref09_Check.j2
   repeat' first
   | (with_reducible exact ih0 _ _ _ _)
   | (with_reducible exact ih1 _ _ _ _ _)
   | (with_reducible exact ih2 _ _ _ _ _ _)
   | (with_reducible exact saronref05_Check.mono _ _ _)
   | (with_reducible exact saronref09_areTones.mono _ _ _ _)
   | (with_reducible exact LeO.refl _)
   | (with_reducible exact LeO.none _)
   | (with_reducible refine LeO.ite ?_ ?_)
   | (with_reducible refine LeO.bind ?_ (fun _ => ?_))
   | exact ih0 _ _ _ _
   | exact ih1 _ _ _ _ _
   | exact ih2 _ _ _ _ _ _
   | exact saronref05_Check.mono _ _ _
   | exact saronref09_areTones.mono _ _ _ _
   | exact LeO.none _
   | refine LeO.ite ?_ ?_
   | refine LeO.bind ?_ (fun _ => ?_)
theorem saronref09_Check.mono : ∀ a0 a1 a2 k, LeO (saronref09_Check.f k a0 a1 a2) (saronref09_Check.f (k + 1) a0 a1 a2) := by
 intro a0 a1 a2 k
 obtain ⟨ih0, ih1, ih2⟩ := saronref09_Check.mono_l k
 unfold saronref09_Check.f
 repeat' first
   | (with_reducible exact ih0 _ _ _ _)
   | (with_reducible exact ih1 _ _ _ _ _)
   | (with_reducible exact ih2 _ _ _ _ _ _)
   | (with_reducible exact saronref05_Check.mono _ _ _)
   | (with_reducible exact saronref09_areTones.mono _ _ _ _)
   | (with_reducible exact LeO.refl _)
   | (with_reducible exact LeO.none _)
   | (with_reducible refine LeO.ite ?_ ?_)
   | (with_reducible refine LeO.bind ?_ (fun _ => ?_))
   | exact ih0 _ _ _ _
   | exact ih1 _ _ _ _ _
   | exact ih2 _ _ _ _ _ _
   | exact saronref05_Check.mono _ _ _
   | exact saronref09_areTones.mono _ _ _ _
   | exact LeO.none _
   | refine LeO.ite ?_ ?_
   | refine LeO.bind ?_ (fun _ => ?_)
set_option maxHeartbeats 8000000 in
set_option maxRecDepth 100000 in
theorem saronref09_Check.calls (k : Nat) (a0_0 : Int) (A0_1 : Option Addr) (c0_1 : Nat) (l0_1 : List (S114)) (A0_2 : Option Addr) (c0_2 : Nat) (l0_2 : List (S62)) (r : Int) (w : World) (hr0_1 : Kd.C k114 w A0_1 l0_1.length l0_1) (hc0_1 : l0_1.length ≤ c0_1) (hr0_2 : Kd.C k62 w A0_2 l0_2.length l0_2) (hc0_2 : l0_2.length ≤ c0_2) (h : saronref09_Check.f k a0_0 l0_1 l0_2 = some r) :
  Calls Tryd.prog 17 #[.agg #[.int .i64 a0_0, .slice A0_1 l0_1.length c0_1, .slice A0_2 l0_2.length c0_2]] w fun e w' => e = .returned (.int .i64 r) ∧ Below w.heap.size w w' := by
 have hu27 := Tryd.underlying27
 have hu24 := Tryd.underlying24
 have HR0_1 := Aside0.mk hr0_1
 have HC0_1 := Aside0.mk hc0_1
 clear hr0_1 hc0_1
 have HR0_2 := Aside0.mk hr0_2
 have HC0_2 := Aside0.mk hc0_2
 clear hr0_2 hc0_2
 have HB := Aside0.mk (Below.refl w.heap.size w)
 have H : ((saronref05_Check.f k a0_0 l0_1).bind fun t122 => (if t122 = 0 then ((saronref00_Sits.f (l0_2.length : Int) 1 6).bind fun t123 => (saronref09_Check.j0 k t123 a0_0 l0_1 l0_2)) else (saronref09_Check.j0 k false a0_0 l0_1 l0_2))) = some r := h
 clear h
 have HC2 := Aside0.mk H
 clear H
 go_enter Tryd.func17, Tryd.ntmps17
 go_upto_region 1 with (first | ((with_reducible refine gate_dst (N := 1) rfl ?_); (try (refine gate_guard (by rfl) ?_; dsimp only)); refine box_event ?hg (N := 1) ?hd (cs := #[.int .i64 a0_0, .slice A0_1 l0_1.length c0_1, .slice A0_2 l0_2.length c0_2]) (t := 27) ?hr ?_; (case hd => rfl); (case hg => rfl); (case hr => exact TS); intro gb121 hg w3 hbox hb; have BK121 := Aside0.mk (hbox); have GW121 := Aside0.mk ((TG : w.heap.size ≤ gb121)); have GE121 := Aside0.mk ((TG : w.heap.size ≤ gb121)); replace HB := Aside0.mk (below_step TB hb); clear hb hbox hg))
 repeat (go_quiet (first | ((with_reducible refine gate_dst (N := 1) rfl ?_); (try (refine gate_guard (by rfl) ?_; dsimp only)); refine box_event ?hg (N := 1) ?hd (cs := #[.int .i64 a0_0, .slice A0_1 l0_1.length c0_1, .slice A0_2 l0_2.length c0_2]) (t := 27) ?hr ?_; (case hd => rfl); (case hg => rfl); (case hr => exact TS); intro gb121 hg w3 hbox hb; have BK121 := Aside0.mk (hbox); have GW121 := Aside0.mk ((TG : w.heap.size ≤ gb121)); have GE121 := Aside0.mk ((TG : w.heap.size ≤ gb121)); replace HB := Aside0.mk (below_step TB hb); clear hb hbox hg)); go_upto_region 1 with (first | ((with_reducible refine gate_dst (N := 1) rfl ?_); (try (refine gate_guard (by rfl) ?_; dsimp only)); refine box_event ?hg (N := 1) ?hd (cs := #[.int .i64 a0_0, .slice A0_1 l0_1.length c0_1, .slice A0_2 l0_2.length c0_2]) (t := 27) ?hr ?_; (case hd => rfl); (case hg => rfl); (case hr => exact TS); intro gb121 hg w3 hbox hb; have BK121 := Aside0.mk (hbox); have GW121 := Aside0.mk ((TG : w.heap.size ≤ gb121)); have GE121 := Aside0.mk ((TG : w.heap.size ≤ gb121)); replace HB := Aside0.mk (below_step TB hb); clear hb hbox hg)))
 (try simp only [Act.put, lA, lZ, lS])
 go_cut [3] (fun v3 wc => ∃ (kq : Nat) (x3_1 : Bool), v3 = .bool x3_1 ∧ Aside0 (saronref09_Check.j0 kq x3_1 a0_0 l0_1 l0_2 = some r) ∧ Aside0 (kq ≤ k) ∧ Aside0 (wc.heap[gb121]? = some (.cells #[.int .i64 a0_0, (.slice A0_1 l0_1.length c0_1), (.slice A0_2 l0_2.length c0_2)] 27 (0, 0))) ∧ Aside0 (Below w.heap.size w wc))
 case first => as_aux_lemma =>
  have H := HC2.out
  clear HC2
  replace H := Option.bind_eq_some_iff.mp H
  obtain ⟨t122, A40, H⟩ := H
  replace H : (if t122 = 0 then ((saronref00_Sits.f (l0_2.length : Int) 1 6).bind fun t123 => (saronref09_Check.j0 k t123 a0_0 l0_1 l0_2)) else (saronref09_Check.j0 k false a0_0 l0_1 l0_2)) = some r := H
  have A4 := Aside0.mk A40
  clear A40
  by_cases c5 : t122 = 0
  ·rw [if_pos c5] at H
   have c5b0 : (t122 == 0) = true := beq_iff_eq.mpr c5
   have c5b1 : (t122 != 0) = false := bne_eq_false_iff_eq.mpr c5
   clear c5
   (first | rw [c5b0] | (simp only [i64_w, i32_w]; rw [c5b0]) | skip)
   replace H := Option.bind_eq_some_iff.mp H
   obtain ⟨t123, A60, H⟩ := H
   replace H : (saronref09_Check.j0 k t123 a0_0 l0_1 l0_2) = some r := H
   have A6 := Aside0.mk A60
   clear A60
   have H' := Aside0.mk H
   clear H
   have hcz7_0 := cz BK121.out 0
   have hcz7_1 := cz BK121.out 1
   have hcz7_2 := cz BK121.out 2
   have hfz7_0 := fz BK121.out 0
   have hfz7_1 := fz BK121.out 1
   have hfz7_2 := fz BK121.out 2
   go_wp2_with (first | (go_at_call 61; (with_reducible refine (saronref05_Check.calls k a0_0 _ _ l0_1 t122 _ ?side1 ?side2 A4.out).mono ?_); (case side1 => exact TC HR0_1.out); (case side2 => exact HC0_1.out); rintro e w8 ⟨rfl, hb⟩; replace BK121 := Aside0.mk (TKb hb BK121.out); replace HB := Aside0.mk (below_step (TB1 GE121.out) hb); (try clear hb); (try clear hb2); (try clear hk); (try clear hi); have hcz9_0 := cz BK121.out 0; have hcz9_1 := cz BK121.out 1; have hcz9_2 := cz BK121.out 2; have hfz9_0 := fz BK121.out 0; have hfz9_1 := fz BK121.out 1; have hfz9_2 := fz BK121.out 2) | (go_at_call 40; (with_reducible refine (saronref00_Sits.calls (l0_2.length : Int) 1 6 t123 _ A6.out).mono ?_); rintro e w' ⟨rfl, ⟨nd, rfl⟩⟩; (try first | exact ⟨rfl, _, World.drewN_drewN _ _ _⟩ | exact ⟨rfl, _, Eq.trans (World.drewN_drewN _ _ _) (congrArg (World.drewN _) (Nat.add_assoc _ _ _))⟩)))
   repeat (go_quiet (first | (go_at_call 61; (with_reducible refine (saronref05_Check.calls k a0_0 _ _ l0_1 t122 _ ?side1 ?side2 A4.out).mono ?_); (case side1 => exact TC HR0_1.out); (case side2 => exact HC0_1.out); rintro e w8 ⟨rfl, hb⟩; replace BK121 := Aside0.mk (TKb hb BK121.out); replace HB := Aside0.mk (below_step (TB1 GE121.out) hb); (try clear hb); (try clear hb2); (try clear hk); (try clear hi); have hcz9_0 := cz BK121.out 0; have hcz9_1 := cz BK121.out 1; have hcz9_2 := cz BK121.out 2; have hfz9_0 := fz BK121.out 0; have hfz9_1 := fz BK121.out 1; have hfz9_2 := fz BK121.out 2) | (go_at_call 40; (with_reducible refine (saronref00_Sits.calls (l0_2.length : Int) 1 6 t123 _ A6.out).mono ?_); rintro e w' ⟨rfl, ⟨nd, rfl⟩⟩; (try first | exact ⟨rfl, _, World.drewN_drewN _ _ _⟩ | exact ⟨rfl, _, Eq.trans (World.drewN_drewN _ _ _) (congrArg (World.drewN _) (Nat.add_assoc _ _ _))⟩))); try go_wp2_with (first | (go_at_call 61; (with_reducible refine (saronref05_Check.calls k a0_0 _ _ l0_1 t122 _ ?side1 ?side2 A4.out).mono ?_); (case side1 => exact TC HR0_1.out); (case side2 => exact HC0_1.out); rintro e w8 ⟨rfl, hb⟩; replace BK121 := Aside0.mk (TKb hb BK121.out); replace HB := Aside0.mk (below_step (TB1 GE121.out) hb); (try clear hb); (try clear hb2); (try clear hk); (try clear hi); have hcz9_0 := cz BK121.out 0; have hcz9_1 := cz BK121.out 1; have hcz9_2 := cz BK121.out 2; have hfz9_0 := fz BK121.out 0; have hfz9_1 := fz BK121.out 1; have hfz9_2 := fz BK121.out 2) | (go_at_call 40; (with_reducible refine (saronref00_Sits.calls (l0_2.length : Int) 1 6 t123 _ A6.out).mono ?_); rintro e w' ⟨rfl, ⟨nd, rfl⟩⟩; (try first | exact ⟨rfl, _, World.drewN_drewN _ _ _⟩ | exact ⟨rfl, _, Eq.trans (World.drewN_drewN _ _ _) (congrArg (World.drewN _) (Nat.add_assoc _ _ _))⟩))))
   go_meet
   case rel => exact ⟨_, (t123), TT, H', ⟨by first | omega | exact Nat.le_refl _⟩, ⟨TK BK121.out⟩, ⟨TB1 GE121.out⟩⟩
  ·rw [if_neg c5] at H
   have c5b0 : (t122 == 0) = false := beq_eq_false_iff_ne.mpr c5
   have c5b1 : (t122 != 0) = true := bne_iff_ne.mpr c5
   (first | rw [c5b0] | (simp only [i64_w, i32_w]; rw [c5b0]) | skip)
   have H' := Aside0.mk H
   clear H
   have hcz10_0 := cz BK121.out 0
   have hcz10_1 := cz BK121.out 1
   have hcz10_2 := cz BK121.out 2
   have hfz10_0 := fz BK121.out 0
   have hfz10_1 := fz BK121.out 1
   have hfz10_2 := fz BK121.out 2
   go_wp2_with (first | (go_at_call 61; (with_reducible refine (saronref05_Check.calls k a0_0 _ _ l0_1 t122 _ ?side1 ?side2 A4.out).mono ?_); (case side1 => exact TC HR0_1.out); (case side2 => exact HC0_1.out); rintro e w11 ⟨rfl, hb⟩; replace BK121 := Aside0.mk (TKb hb BK121.out); replace HB := Aside0.mk (below_step (TB1 GE121.out) hb); (try clear hb); (try clear hb2); (try clear hk); (try clear hi)))
   repeat (go_quiet (first | (go_at_call 61; (with_reducible refine (saronref05_Check.calls k a0_0 _ _ l0_1 t122 _ ?side1 ?side2 A4.out).mono ?_); (case side1 => exact TC HR0_1.out); (case side2 => exact HC0_1.out); rintro e w11 ⟨rfl, hb⟩; replace BK121 := Aside0.mk (TKb hb BK121.out); replace HB := Aside0.mk (below_step (TB1 GE121.out) hb); (try clear hb); (try clear hb2); (try clear hk); (try clear hi))); try go_wp2_with (first | (go_at_call 61; (with_reducible refine (saronref05_Check.calls k a0_0 _ _ l0_1 t122 _ ?side1 ?side2 A4.out).mono ?_); (case side1 => exact TC HR0_1.out); (case side2 => exact HC0_1.out); rintro e w11 ⟨rfl, hb⟩; replace BK121 := Aside0.mk (TKb hb BK121.out); replace HB := Aside0.mk (below_step (TB1 GE121.out) hb); (try clear hb); (try clear hb2); (try clear hk); (try clear hi))))
   go_meet
   case rel => exact ⟨_, (false), TT, H', ⟨by first | omega | exact Nat.le_refl _⟩, ⟨TK BK121.out⟩, ⟨TB1 GE121.out⟩⟩
 case rest => as_aux_lemma =>
  clear HC2
  try clear c1
  try clear p2
  try clear c5
  try clear c5b0
  try clear c5b1
  try clear hcz10_0 hcz10_1 hcz10_2
  try clear hcz7_0 hcz7_1 hcz7_2
  try clear hcz9_0 hcz9_1 hcz9_2
  try clear hfz10_0 hfz10_1 hfz10_2
  try clear hfz7_0 hfz7_1 hfz7_2
  try clear hfz9_0 hfz9_1 hfz9_2
  obtain ⟨kq, x3_1, rfl, HA, HJ1, BK121, HB⟩ := hcut
  cases kq with
  | zero => exact absurd HA.out (by simp [saronref09_Check.j0])
  | succ kj1 =>
   have H := HA.out
   clear HA
   simp only [saronref09_Check.j0] at H
   have H' := Aside0.mk H
   clear H
   go_wp2
   repeat (go_quiet (fail); try go_wp2)
   go_loopg [3, 4] kj1 (fun kq v3 v4 w' => ∃ (x3_2 : Bool) (x4_2 : Int), v3 = .bool x3_2 ∧ v4 = .int .i64 x4_2 ∧ Aside0 (saronref09_Check.l0 kq x3_2 x4_2 a0_0 l0_1 l0_2 = some r) ∧ Aside0 (kq ≤ kj1) ∧ Aside0 (w'.heap[gb121]? = some (.cells #[.int .i64 a0_0, (.slice A0_1 l0_1.length c0_1), (.slice A0_2 l0_2.length c0_2)] 27 (0, 0))) ∧ Aside0 (Below w.heap.size w w'))
   case atStart => exact ⟨(x3_1), (0), TT, TT, H', ⟨Nat.le_refl _⟩, ⟨TK BK121.out⟩, ⟨TB1 GE121.out⟩⟩
   case round => as_aux_lemma =>
    clear H'
    try clear c1
    try clear p2
    try clear c5
    try clear c5b0
    try clear c5b1
    try clear hcz10_0 hcz10_1 hcz10_2
    try clear hcz7_0 hcz7_1 hcz7_2
    try clear hcz9_0 hcz9_1 hcz9_2
    try clear hfz10_0 hfz10_1 hfz10_2
    try clear hfz7_0 hfz7_1 hfz7_2
    try clear hfz9_0 hfz9_1 hfz9_2
    try clear p2
    obtain ⟨x3_2, x4_2, rfl, rfl, HA, HK2, BK121, HB⟩ := hrel
    cases gk with
    | zero => exact absurd HA.out (by simp [saronref09_Check.l0])
    | succ k2 =>
     have H := HA.out
     clear HA
     simp only [saronref09_Check.l0] at H
     have HC12 := Aside0.mk H
     clear H
     go_upto_region 3 with (fail)
     repeat (go_quiet (fail); go_upto_region 3 with (fail))
     go_cut [22] (fun v22 wc => ∃ (kq : Nat) (x22_11 : Bool), v22 = .bool x22_11 ∧ Aside0 (saronref09_Check.j2 kq x3_2 x4_2 x22_11 a0_0 l0_1 l0_2 = some r) ∧ Aside0 (kq ≤ k2) ∧ Aside0 (wc.heap[gb121]? = some (.cells #[.int .i64 a0_0, (.slice A0_1 l0_1.length c0_1), (.slice A0_2 l0_2.length c0_2)] 27 (0, 0))) ∧ Aside0 (Below w.heap.size w wc))
     case first => as_aux_lemma =>
      have H := HC12.out
      clear HC12
      by_cases c13 : x3_2 = true
      ·subst c13
       have H1 : (saronref09_Check.j2 k2 true x4_2 (decide (x4_2 < (l0_2.length : Int))) a0_0 l0_1 l0_2) = some r := by rw [if_pos rfl] at H; exact H
       clear H
       have H := H1
       clear H1
       have H' := Aside0.mk H
       clear H
       have hcz14_0 := cz BK121.out 0
       have hcz14_1 := cz BK121.out 1
       have hcz14_2 := cz BK121.out 2
       have hfz14_0 := fz BK121.out 0
       have hfz14_1 := fz BK121.out 1
       have hfz14_2 := fz BK121.out 2
       go_wp2
       repeat (go_quiet (fail); try go_wp2)
       go_meet
       case rel => exact ⟨_, (decide (x4_2 < (l0_2.length : Int))), TT, H', ⟨by have := HJ1.out; have := HK2.out; first | omega | exact Nat.le_refl _⟩, ⟨TK BK121.out⟩, ⟨TB1 GE121.out⟩⟩
      ·replace c13 := Bool.eq_false_iff.mpr c13
       subst c13
       have H1 : (saronref09_Check.j2 k2 false x4_2 false a0_0 l0_1 l0_2) = some r := by rw [if_neg (show ¬ (false = true) by decide)] at H; exact H
       clear H
       have H := H1
       clear H1
       have H' := Aside0.mk H
       clear H
       go_wp2
       repeat (go_quiet (fail); try go_wp2)
       go_meet
       case rel => exact ⟨_, (false), TT, H', ⟨by have := HJ1.out; have := HK2.out; first | omega | exact Nat.le_refl _⟩, ⟨TK BK121.out⟩, ⟨TB1 GE121.out⟩⟩
     case rest => as_aux_lemma =>
      clear HC12
      try clear c1
      try clear p2
      try clear c5
      try clear c5b0
      try clear c5b1
      try clear c13
      try clear hcz10_0 hcz10_1 hcz10_2
      try clear hcz14_0 hcz14_1 hcz14_2
      try clear hcz7_0 hcz7_1 hcz7_2
      try clear hcz9_0 hcz9_1 hcz9_2
      try clear hfz10_0 hfz10_1 hfz10_2
      try clear hfz14_0 hfz14_1 hfz14_2
      try clear hfz7_0 hfz7_1 hfz7_2
      try clear hfz9_0 hfz9_1 hfz9_2
      try clear p2
      obtain ⟨kq, x22_11, rfl, HA, HJ11, BK121, HB⟩ := hcut
      cases kq with
      | zero => exact absurd HA.out (by simp [saronref09_Check.j2])
      | succ kj11 =>
       have H := HA.out
       clear HA
       simp only [saronref09_Check.j2] at H
       by_cases c15 : x22_11 = true
       ·subst c15
        have H1 : (if 0 ≤ x4_2 then (if x4_2 < (l0_2.length : Int) then ((saronref00_Sits.f ((rd_T62 l0_2 x4_2).f0) 0 (wrap64 ((l0_1.length : Int) - 1))).bind fun t125 => (if t125 = true then ((saronref09_areTones.f kj11 ((rd_T62 l0_2 x4_2).f1) 1 24).bind fun t127 => (saronref09_Check.l0 kj11 t127 (wrap64 (x4_2 + 1)) a0_0 l0_1 l0_2)) else (saronref09_Check.l0 kj11 false (wrap64 (x4_2 + 1)) a0_0 l0_1 l0_2))) else (none)) else (none)) = some r := by rw [if_pos rfl] at H; exact H
        clear H
        have H := H1
        clear H1
        by_cases c16 : 0 ≤ x4_2
        ·rw [if_pos c16] at H
         have c16b0 : decide (0 ≤ x4_2) = true := decide_eq_true c16
         clear c16
         by_cases c17 : x4_2 < (l0_2.length : Int)
         ·rw [if_pos c17] at H
          have c17b0 : decide (x4_2 < (l0_2.length : Int)) = true := decide_eq_true c17
          clear c17
          replace H := Option.bind_eq_some_iff.mp H
          obtain ⟨t125, A180, H⟩ := H
          replace H : (if t125 = true then ((saronref09_areTones.f kj11 ((rd_T62 l0_2 x4_2).f1) 1 24).bind fun t127 => (saronref09_Check.l0 kj11 t127 (wrap64 (x4_2 + 1)) a0_0 l0_1 l0_2)) else (saronref09_Check.l0 kj11 false (wrap64 (x4_2 + 1)) a0_0 l0_1 l0_2)) = some r := H
          have A18 := Aside0.mk A180
          clear A180
          by_cases c19 : t125 = true
          ·subst c19
           have H1 : ((saronref09_areTones.f kj11 ((rd_T62 l0_2 x4_2).f1) 1 24).bind fun t127 => (saronref09_Check.l0 kj11 t127 (wrap64 (x4_2 + 1)) a0_0 l0_1 l0_2)) = some r := by rw [if_pos rfl] at H; exact H
           clear H
           have H := H1
           clear H1
           replace H := Option.bind_eq_some_iff.mp H
           obtain ⟨t127, A200, H⟩ := H
           replace H : (saronref09_Check.l0 kj11 t127 (wrap64 (x4_2 + 1)) a0_0 l0_1 l0_2) = some r := H
           have A20 := Aside0.mk A200
           clear A200
           have H' := Aside0.mk H
           clear H
           have hcz21_0 := cz BK121.out 0
           have hcz21_1 := cz BK121.out 1
           have hcz21_2 := cz BK121.out 2
           have hfz21_0 := fz BK121.out 0
           have hfz21_1 := fz BK121.out 1
           have hfz21_2 := fz BK121.out 2
           have p124 : 0 ≤ (x4_2 : Int) := of_decide_eq_true TA
           have q124 : x4_2 < (l0_2.length : Int) := of_decide_eq_true TA
           obtain ⟨ad124, A124_1, c124_1, e124, hx124_0, hx124_1, hl124_1, hi124_1⟩ := at_T62 HR0_2.out x4_2 p124 q124
           cases e124
           replace hx124_0 := hx HB.out hx124_0
           replace hx124_1 := hx HB.out hx124_1
           have HR124_1 := Aside0.mk hi124_1
           have HC124_1 := Aside0.mk hl124_1
           clear hi124_1 hl124_1
           replace p124 := eq_true p124
           replace q124 := eq_true q124
           go_wp2_with (first | (go_at_call 40; (with_reducible refine (saronref00_Sits.calls ((rd_T62 l0_2 x4_2).f0) 0 (wrap64 ((l0_1.length : Int) - 1)) true _ A18.out).mono ?_); rintro e w' ⟨rfl, ⟨nd, rfl⟩⟩; (try first | exact ⟨rfl, _, World.drewN_drewN _ _ _⟩ | exact ⟨rfl, _, Eq.trans (World.drewN_drewN _ _ _) (congrArg (World.drewN _) (Nat.add_assoc _ _ _))⟩); have p126 : 0 ≤ (x4_2 : Int) := of_decide_eq_true TA; have q126 : x4_2 < (l0_2.length : Int) := of_decide_eq_true TA; obtain ⟨ad126, A126_1, c126_1, e126, hx126_0, hx126_1, hl126_1, hi126_1⟩ := at_T62 HR0_2.out x4_2 p126 q126; obtain rfl : ad124 = ad126 := (by injection e126); replace hx126_0 := hx HB.out hx126_0; replace hx126_1 := hx HB.out hx126_1; have HR126_1 := Aside0.mk hi126_1; have HC126_1 := Aside0.mk hl126_1; clear hi126_1 hl126_1; replace p126 := eq_true p126; replace q126 := eq_true q126; have ea_ := Option.some.inj (hx124_1.symm.trans hx126_1); injection ea_ with ea_ en_ ec_; subst ea_; subst ec_; clear en_) | (go_at_call 62; (with_reducible refine (saronref09_areTones.calls kj11 _ _ ((rd_T62 l0_2 x4_2).f1) 1 24 t127 _ ?side1 ?side2 A20.out).mono ?_); (case side1 => exact TD HR126_1.out (TB1 GE121.out)); (case side2 => exact HC126_1.out); rintro e w' ⟨rfl, ⟨nd, rfl⟩⟩; (try first | exact ⟨rfl, _, World.drewN_drewN _ _ _⟩ | exact ⟨rfl, _, Eq.trans (World.drewN_drewN _ _ _) (congrArg (World.drewN _) (Nat.add_assoc _ _ _))⟩)))
           repeat (go_quiet (first | (go_at_call 40; (with_reducible refine (saronref00_Sits.calls ((rd_T62 l0_2 x4_2).f0) 0 (wrap64 ((l0_1.length : Int) - 1)) true _ A18.out).mono ?_); rintro e w' ⟨rfl, ⟨nd, rfl⟩⟩; (try first | exact ⟨rfl, _, World.drewN_drewN _ _ _⟩ | exact ⟨rfl, _, Eq.trans (World.drewN_drewN _ _ _) (congrArg (World.drewN _) (Nat.add_assoc _ _ _))⟩)) | (go_at_call 62; (with_reducible refine (saronref09_areTones.calls kj11 _ _ ((rd_T62 l0_2 x4_2).f1) 1 24 t127 _ ?side1 ?side2 A20.out).mono ?_); (case side1 => exact TD HR124_1.out (TB1 GE121.out)); (case side2 => exact HC124_1.out); rintro e w' ⟨rfl, ⟨nd, rfl⟩⟩; (try first | exact ⟨rfl, _, World.drewN_drewN _ _ _⟩ | exact ⟨rfl, _, Eq.trans (World.drewN_drewN _ _ _) (congrArg (World.drewN _) (Nat.add_assoc _ _ _))⟩))); try go_wp2_with (first | (go_at_call 40; (with_reducible refine (saronref00_Sits.calls ((rd_T62 l0_2 x4_2).f0) 0 (wrap64 ((l0_1.length : Int) - 1)) true _ A18.out).mono ?_); rintro e w' ⟨rfl, ⟨nd, rfl⟩⟩; (try first | exact ⟨rfl, _, World.drewN_drewN _ _ _⟩ | exact ⟨rfl, _, Eq.trans (World.drewN_drewN _ _ _) (congrArg (World.drewN _) (Nat.add_assoc _ _ _))⟩); have p126 : 0 ≤ (x4_2 : Int) := of_decide_eq_true TA; have q126 : x4_2 < (l0_2.length : Int) := of_decide_eq_true TA; obtain ⟨ad126, A126_1, c126_1, e126, hx126_0, hx126_1, hl126_1, hi126_1⟩ := at_T62 HR0_2.out x4_2 p126 q126; obtain rfl : ad124 = ad126 := (by injection e126); replace hx126_0 := hx HB.out hx126_0; replace hx126_1 := hx HB.out hx126_1; have HR126_1 := Aside0.mk hi126_1; have HC126_1 := Aside0.mk hl126_1; clear hi126_1 hl126_1; replace p126 := eq_true p126; replace q126 := eq_true q126; have ea_ := Option.some.inj (hx124_1.symm.trans hx126_1); injection ea_ with ea_ en_ ec_; subst ea_; subst ec_; clear en_) | (go_at_call 62; (with_reducible refine (saronref09_areTones.calls kj11 _ _ ((rd_T62 l0_2 x4_2).f1) 1 24 t127 _ ?side1 ?side2 A20.out).mono ?_); (case side1 => exact TD HR126_1.out (TB1 GE121.out)); (case side2 => exact HC126_1.out); rintro e w' ⟨rfl, ⟨nd, rfl⟩⟩; (try first | exact ⟨rfl, _, World.drewN_drewN _ _ _⟩ | exact ⟨rfl, _, Eq.trans (World.drewN_drewN _ _ _) (congrArg (World.drewN _) (Nat.add_assoc _ _ _))⟩))))
           go_roundg kj11
           case measure => have := HJ1.out; have := HK2.out; have := HJ11.out; omega
           case rel => exact ⟨(t127), (wrap64 (x4_2 + 1)), TT, TT, H', ⟨by have := HJ1.out; have := HK2.out; have := HJ11.out; omega⟩, ⟨TK BK121.out⟩, ⟨TB1 GE121.out⟩⟩
          ·replace c19 := Bool.eq_false_iff.mpr c19
           subst c19
           have H1 : (saronref09_Check.l0 kj11 false (wrap64 (x4_2 + 1)) a0_0 l0_1 l0_2) = some r := by rw [if_neg (show ¬ (false = true) by decide)] at H; exact H
           clear H
           have H := H1
           clear H1
           have H' := Aside0.mk H
           clear H
           have hcz22_0 := cz BK121.out 0
           have hcz22_1 := cz BK121.out 1
           have hcz22_2 := cz BK121.out 2
           have hfz22_0 := fz BK121.out 0
           have hfz22_1 := fz BK121.out 1
           have hfz22_2 := fz BK121.out 2
           have p124 : 0 ≤ (x4_2 : Int) := of_decide_eq_true TA
           have q124 : x4_2 < (l0_2.length : Int) := of_decide_eq_true TA
           obtain ⟨ad124, A124_1, c124_1, e124, hx124_0, hx124_1, hl124_1, hi124_1⟩ := at_T62 HR0_2.out x4_2 p124 q124
           cases e124
           replace hx124_0 := hx HB.out hx124_0
           replace hx124_1 := hx HB.out hx124_1
           have HR124_1 := Aside0.mk hi124_1
           have HC124_1 := Aside0.mk hl124_1
           clear hi124_1 hl124_1
           replace p124 := eq_true p124
           replace q124 := eq_true q124
           go_wp2_with (first | (go_at_call 40; (with_reducible refine (saronref00_Sits.calls ((rd_T62 l0_2 x4_2).f0) 0 (wrap64 ((l0_1.length : Int) - 1)) false _ A18.out).mono ?_); rintro e w' ⟨rfl, ⟨nd, rfl⟩⟩; (try first | exact ⟨rfl, _, World.drewN_drewN _ _ _⟩ | exact ⟨rfl, _, Eq.trans (World.drewN_drewN _ _ _) (congrArg (World.drewN _) (Nat.add_assoc _ _ _))⟩)))
           repeat (go_quiet (first | (go_at_call 40; (with_reducible refine (saronref00_Sits.calls ((rd_T62 l0_2 x4_2).f0) 0 (wrap64 ((l0_1.length : Int) - 1)) false _ A18.out).mono ?_); rintro e w' ⟨rfl, ⟨nd, rfl⟩⟩; (try first | exact ⟨rfl, _, World.drewN_drewN _ _ _⟩ | exact ⟨rfl, _, Eq.trans (World.drewN_drewN _ _ _) (congrArg (World.drewN _) (Nat.add_assoc _ _ _))⟩))); try go_wp2_with (first | (go_at_call 40; (with_reducible refine (saronref00_Sits.calls ((rd_T62 l0_2 x4_2).f0) 0 (wrap64 ((l0_1.length : Int) - 1)) false _ A18.out).mono ?_); rintro e w' ⟨rfl, ⟨nd, rfl⟩⟩; (try first | exact ⟨rfl, _, World.drewN_drewN _ _ _⟩ | exact ⟨rfl, _, Eq.trans (World.drewN_drewN _ _ _) (congrArg (World.drewN _) (Nat.add_assoc _ _ _))⟩))))
           go_roundg kj11
           case measure => have := HJ1.out; have := HK2.out; have := HJ11.out; omega
           case rel => exact ⟨(false), (wrap64 (x4_2 + 1)), TT, TT, H', ⟨by have := HJ1.out; have := HK2.out; have := HJ11.out; omega⟩, ⟨TK BK121.out⟩, ⟨TB1 GE121.out⟩⟩
         ·rw [if_neg c17] at H
          exact absurd H (by simp)
        ·rw [if_neg c16] at H
         exact absurd H (by simp)
       ·replace c15 := Bool.eq_false_iff.mpr c15
        subst c15
        have H1 : (if x3_2 = true then (some 0) else (some 90)) = some r := by rw [if_neg (show ¬ (false = true) by decide)] at H; exact H
        clear H
        have H := H1
        clear H1
        by_cases c23 : x3_2 = true
        ·subst c23
         have H1 : (some 0) = some r := by rw [if_pos rfl] at H; exact H
         clear H
         have H := H1
         clear H1
         obtain rfl := Option.some.inj H
         go_wp2
         repeat (go_quiet (fail); try go_wp2)
         go_ret
         exact ⟨TR, TB1 GE121.out⟩
        ·replace c23 := Bool.eq_false_iff.mpr c23
         subst c23
         have H1 : (some 90) = some r := by rw [if_neg (show ¬ (false = true) by decide)] at H; exact H
         clear H
         have H := H1
         clear H1
         obtain rfl := Option.some.inj H
         go_wp2
         repeat (go_quiet (fail); try go_wp2)
         go_ret
         exact ⟨TR, TB1 GE121.out⟩
/-! ### saronref09_asked: function 54 -/
def saronref09_asked.f (k : Nat) (a0_0 : Int) (l0_1 : List (S114)) (l0_2 : List (S62)) (a1 : Bool) : Option (Int) := (saronref09_Check.f k a0_0 l0_1 l0_2).bind fun t129 => (if t129 = 0 then (if a1 = true then (some 0) else (some 91)) else (some t129))
theorem saronref09_asked.mono : ∀ a0 a1 a2 a3 k, LeO (saronref09_asked.f k a0 a1 a2 a3) (saronref09_asked.f (k + 1) a0 a1 a2 a3) := by
 intro a0 a1 a2 a3 k
 unfold saronref09_asked.f
 repeat' first
   | (with_reducible exact saronref09_Check.mono _ _ _ _)
   | (with_reducible exact LeO.refl _)
   | (with_reducible exact LeO.none _)
   | (with_reducible refine LeO.ite ?_ ?_)
   | (with_reducible refine LeO.bind ?_ (fun _ => ?_))
   | exact saronref09_Check.mono _ _ _ _
   | exact LeO.none _
   | refine LeO.ite ?_ ?_
   | refine LeO.bind ?_ (fun _ => ?_)
set_option maxHeartbeats 8000000 in
set_option maxRecDepth 100000 in
theorem saronref09_asked.calls (k : Nat) (a0_0 : Int) (A0_1 : Option Addr) (c0_1 : Nat) (l0_1 : List (S114)) (A0_2 : Option Addr) (c0_2 : Nat) (l0_2 : List (S62)) (a1 : Bool) (r : Int) (w : World) (hr0_1 : Kd.C k114 w A0_1 l0_1.length l0_1) (hc0_1 : l0_1.length ≤ c0_1) (hr0_2 : Kd.C k62 w A0_2 l0_2.length l0_2) (hc0_2 : l0_2.length ≤ c0_2) (h : saronref09_asked.f k a0_0 l0_1 l0_2 a1 = some r) :
  Calls Tryd.prog 54 #[.agg #[.int .i64 a0_0, .slice A0_1 l0_1.length c0_1, .slice A0_2 l0_2.length c0_2], .bool a1] w fun e w' => e = .returned (.int .i64 r) ∧ Below w.heap.size w w' := by
 have hu27 := Tryd.underlying27
 have HR0_1 := Aside0.mk hr0_1
 have HC0_1 := Aside0.mk hc0_1
 clear hr0_1 hc0_1
 have HR0_2 := Aside0.mk hr0_2
 have HC0_2 := Aside0.mk hc0_2
 clear hr0_2 hc0_2
 have HB := Aside0.mk (Below.refl w.heap.size w)
 have H : ((saronref09_Check.f k a0_0 l0_1 l0_2).bind fun t129 => (if t129 = 0 then (if a1 = true then (some 0) else (some 91)) else (some t129))) = some r := h
 clear h
 replace H := Option.bind_eq_some_iff.mp H
 obtain ⟨t129, A30, H⟩ := H
 replace H : (if t129 = 0 then (if a1 = true then (some 0) else (some 91)) else (some t129)) = some r := H
 have A3 := Aside0.mk A30
 clear A30
 by_cases c4 : t129 = 0
 ·rw [if_pos c4] at H
  have c4b0 : (t129 == 0) = true := beq_iff_eq.mpr c4
  have c4b1 : (t129 != 0) = false := bne_eq_false_iff_eq.mpr c4
  clear c4
  by_cases c5 : a1 = true
  ·subst c5
   have H1 : (some 0) = some r := by rw [if_pos rfl] at H; exact H
   clear H
   have H := H1
   clear H1
   obtain rfl := Option.some.inj H
   go_enter Tryd.func54, Tryd.ntmps54
   go_wp2_with (first | ((with_reducible refine gate_dst (N := 2) rfl ?_); refine box_event ?hg (N := 2) ?hd (cs := #[.int .i64 a0_0, .slice A0_1 l0_1.length c0_1, .slice A0_2 l0_2.length c0_2]) (t := 27) ?hr ?_; (case hd => rfl); (case hg => rfl); (case hr => exact TS); intro gb128 hg w6 hbox hb; have BK128 := Aside0.mk (hbox); have GW128 := Aside0.mk ((TG : w.heap.size ≤ gb128)); have GE128 := Aside0.mk ((TG : w.heap.size ≤ gb128)); replace HB := Aside0.mk (below_step TB hb); clear hb hbox hg; have hcz7_0 := cz BK128.out 0; have hcz7_1 := cz BK128.out 1; have hcz7_2 := cz BK128.out 2; have hfz7_0 := fz BK128.out 0; have hfz7_1 := fz BK128.out 1; have hfz7_2 := fz BK128.out 2) | ((with_reducible refine gate_callee (f := 17) rfl ?_); refine goesL_ (some 7) rfl rfl Tryd.func17 (by kernel_rfl) rfl #[.agg #[.int .i64 a0_0, .slice A0_1 l0_1.length c0_1, .slice A0_2 l0_2.length c0_2]] rfl TM ?_; (with_reducible refine (saronref09_Check.calls k a0_0 _ _ l0_1 _ _ l0_2 t129 _ ?side1 ?side2 ?side3 ?side4 A3.out).mono ?_); (case side1 => exact TC HR0_1.out); (case side2 => exact HC0_1.out); (case side3 => exact TC HR0_2.out); (case side4 => exact HC0_2.out); rintro e w8 ⟨rfl, hb⟩; refine ⟨_, rfl, ?_⟩; replace BK128 := Aside0.mk (TKb hb BK128.out); replace HB := Aside0.mk (below_step (TB1 GE128.out) hb); (try clear hb); (try clear hb2); (try clear hk); (try clear hi)))
   go_ret
   exact ⟨TR, TB1 GE128.out⟩
  ·replace c5 := Bool.eq_false_iff.mpr c5
   subst c5
   have H1 : (some 91) = some r := by rw [if_neg (show ¬ (false = true) by decide)] at H; exact H
   clear H
   have H := H1
   clear H1
   obtain rfl := Option.some.inj H
   go_enter Tryd.func54, Tryd.ntmps54
   go_wp2_with (first | ((with_reducible refine gate_dst (N := 2) rfl ?_); refine box_event ?hg (N := 2) ?hd (cs := #[.int .i64 a0_0, .slice A0_1 l0_1.length c0_1, .slice A0_2 l0_2.length c0_2]) (t := 27) ?hr ?_; (case hd => rfl); (case hg => rfl); (case hr => exact TS); intro gb128 hg w9 hbox hb; have BK128 := Aside0.mk (hbox); have GW128 := Aside0.mk ((TG : w.heap.size ≤ gb128)); have GE128 := Aside0.mk ((TG : w.heap.size ≤ gb128)); replace HB := Aside0.mk (below_step TB hb); clear hb hbox hg; have hcz10_0 := cz BK128.out 0; have hcz10_1 := cz BK128.out 1; have hcz10_2 := cz BK128.out 2; have hfz10_0 := fz BK128.out 0; have hfz10_1 := fz BK128.out 1; have hfz10_2 := fz BK128.out 2) | ((with_reducible refine gate_callee (f := 17) rfl ?_); refine goesL_ (some 7) rfl rfl Tryd.func17 (by kernel_rfl) rfl #[.agg #[.int .i64 a0_0, .slice A0_1 l0_1.length c0_1, .slice A0_2 l0_2.length c0_2]] rfl TM ?_; (with_reducible refine (saronref09_Check.calls k a0_0 _ _ l0_1 _ _ l0_2 t129 _ ?side1 ?side2 ?side3 ?side4 A3.out).mono ?_); (case side1 => exact TC HR0_1.out); (case side2 => exact HC0_1.out); (case side3 => exact TC HR0_2.out); (case side4 => exact HC0_2.out); rintro e w11 ⟨rfl, hb⟩; refine ⟨_, rfl, ?_⟩; replace BK128 := Aside0.mk (TKb hb BK128.out); replace HB := Aside0.mk (below_step (TB1 GE128.out) hb); (try clear hb); (try clear hb2); (try clear hk); (try clear hi)))
   go_ret
   exact ⟨TR, TB1 GE128.out⟩
 ·rw [if_neg c4] at H
  have c4b0 : (t129 == 0) = false := beq_eq_false_iff_ne.mpr c4
  have c4b1 : (t129 != 0) = true := bne_iff_ne.mpr c4
  obtain rfl := Option.some.inj H
  go_enter Tryd.func54, Tryd.ntmps54
  go_wp2_with (first | ((with_reducible refine gate_dst (N := 2) rfl ?_); refine box_event ?hg (N := 2) ?hd (cs := #[.int .i64 a0_0, .slice A0_1 l0_1.length c0_1, .slice A0_2 l0_2.length c0_2]) (t := 27) ?hr ?_; (case hd => rfl); (case hg => rfl); (case hr => exact TS); intro gb128 hg w12 hbox hb; have BK128 := Aside0.mk (hbox); have GW128 := Aside0.mk ((TG : w.heap.size ≤ gb128)); have GE128 := Aside0.mk ((TG : w.heap.size ≤ gb128)); replace HB := Aside0.mk (below_step TB hb); clear hb hbox hg; have hcz13_0 := cz BK128.out 0; have hcz13_1 := cz BK128.out 1; have hcz13_2 := cz BK128.out 2; have hfz13_0 := fz BK128.out 0; have hfz13_1 := fz BK128.out 1; have hfz13_2 := fz BK128.out 2) | ((with_reducible refine gate_callee (f := 17) rfl ?_); refine goesL_ (some 7) rfl rfl Tryd.func17 (by kernel_rfl) rfl #[.agg #[.int .i64 a0_0, .slice A0_1 l0_1.length c0_1, .slice A0_2 l0_2.length c0_2]] rfl TM ?_; (with_reducible refine (saronref09_Check.calls k a0_0 _ _ l0_1 _ _ l0_2 t129 _ ?side1 ?side2 ?side3 ?side4 A3.out).mono ?_); (case side1 => exact TC HR0_1.out); (case side2 => exact HC0_1.out); (case side3 => exact TC HR0_2.out); (case side4 => exact HC0_2.out); rintro e w14 ⟨rfl, hb⟩; refine ⟨_, rfl, ?_⟩; replace BK128 := Aside0.mk (TKb hb BK128.out); replace HB := Aside0.mk (below_step (TB1 GE128.out) hb); (try clear hb); (try clear hb2); (try clear hk); (try clear hi)))
  go_ret
  exact ⟨TR, TB1 GE128.out⟩
end Go.Proofs.YtfdenclnneigfaaDoor.PRaspKeys
