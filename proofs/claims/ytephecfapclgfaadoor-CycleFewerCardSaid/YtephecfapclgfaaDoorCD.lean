import Derived.Test.YtephecfapclgfaaDoorCS
import Derived.Test.YtephecfapclgfaaDoorM0
import Derived.Test.YtephecfapclgfaaDoorProg
import Derived.Below
import Derived.Deep.Draws
import Derived.Deep.AppendLies
import Derived.Maps.AppendAt
import Derived.OwnWalk
import Derived.Laws.BytesArg
import Derived.Laws.MakeOwn
import Derived.Laws.OwnMore
import Derived.Deep.OwnRows
import Derived.Tactics
import Derived.Lib.ConvBytes
import Derived.Laws.Slices
import Derived.WalkKit
import Derived.KernelRfl
import Derived.RowKit3
import Derived.Deep.LoopGhost
import Derived.Deep.QuietTactic
import Derived.BigQuiet
import Derived.WideLaws
import Derived.Deep.DeepCutAuto
import Derived.Deep.CutBlock
import Derived.Deep.RegionHeld3
import Derived.Laws.Rows
import Derived.Lib.AppendStr
import Derived.ArgAppend
import Derived.Laws.IdiomCopy
import Derived.OrdersHeld
import Derived.Laws.BitsLemmas
import Derived.RowKit
set_option linter.unusedVariables false
set_option linter.unusedSimpArgs false
namespace Go.Proofs.YtephecfapclgfaaDoor.PRaspKeys
open Go.RowKit Go.Proofs.YtephecfapclgfaaDoorW.PrintWords Go.Proofs.YtephecfapclgfaaDoorW.PrintLast Go.Proofs.YtephecfapclgfaaDoorW.PrintMore Go.Proofs.YtephecfapclgfaaDoor.M
attribute [local go_sem] max2_int min2_int max_two min_two max_three min_three max_four min_four   -- for this text's walks alone
theorem info97 : (Tryd.prog.info? 97).map (fun i => (i.zero, i.size, i.bytes)) = some (some (.agg #[(.int .i64 0), (.int .i64 0)]), 2, 16) := by kernel_rfl
/-! #### struct type 63 -/
/-! #### struct type 97 -/
/-! #### struct type 38 -/
end Go.Proofs.YtephecfapclgfaaDoor.PRaspKeys
namespace Go.Proofs.YtephecfapclgfaaDoor.PRaspKeys
open Go.RowKit Go.Proofs.YtephecfapclgfaaDoorW.PrintWords Go.Proofs.YtephecfapclgfaaDoorW.PrintLast Go.Proofs.YtephecfapclgfaaDoorW.PrintMore Go.Proofs.YtephecfapclgfaaDoor.M
attribute [local go_sem] max2_int min2_int max_two min_two max_three min_three max_four min_four   -- for this text's walks alone
end Go.Proofs.YtephecfapclgfaaDoor.PRaspKeys
namespace Go.Proofs.YtephecfapclgfaaDoor.PRaspKeys
open Go.RowKit Go.Proofs.YtephecfapclgfaaDoorW.PrintWords Go.Proofs.YtephecfapclgfaaDoorW.PrintLast Go.Proofs.YtephecfapclgfaaDoorW.PrintMore Go.Proofs.YtephecfapclgfaaDoor.M
attribute [local go_sem] max2_int min2_int max_two min_two max_three min_three max_four min_four   -- for this text's walks alone
/-! ### saronlaw05_sound: function 39 -/
mutual
def saronlaw05_sound.j0 : Nat → Bool → Int → List (S63) → Option (Bool)
 | 0, _, _, _ => none
 | k + 1, x3, x121000, x121001 => saronlaw05_sound.l0 k x3 0 x121000 x121001
def saronlaw05_sound.l0 : Nat → Bool → Int → Int → List (S63) → Option (Bool)
 | 0, _, _, _, _ => none
 | k + 1, x3, x4, x121000, x121001 => if x3 = true then (saronlaw05_sound.j2 k x3 x4 (decide (x4 < (x121001.length : Int))) x121000 x121001) else (saronlaw05_sound.j2 k x3 x4 false x121000 x121001)
def saronlaw05_sound.j2 : Nat → Bool → Int → Bool → Int → List (S63) → Option (Bool)
 | 0, _, _, _, _, _ => none
 | k + 1, x3, x4, x28, x121000, x121001 => if x28 = true then (if 0 ≤ x4 then (if x4 < (x121001.length : Int) then ((saronref00_Sits.f ((rd_T63 x121001 x4).f0) 2 32).bind fun t126 => (if t126 = true then (saronlaw05_sound.j3 k ((((rd_T63 x121001 x4).f1).length : Int) == x121000) x4 x121000 x121001 ((rd_T63 x121001 x4).f0) ((rd_T63 x121001 x4).f1)) else (saronlaw05_sound.j3 k false x4 x121000 x121001 ((rd_T63 x121001 x4).f0) ((rd_T63 x121001 x4).f1)))) else (none)) else (none)) else (some x3)
def saronlaw05_sound.j3 : Nat → Bool → Int → Int → List (S63) → Int → List (List Int) → Option (Bool)
 | 0, _, _, _, _, _, _ => none
 | k + 1, x3, x4, x121000, x121001, x126000, x126001 => saronlaw05_sound.l1 k x3 x4 0 x121000 x121001 x126000 x126001
def saronlaw05_sound.l1 : Nat → Bool → Int → Int → Int → List (S63) → Int → List (List Int) → Option (Bool)
 | 0, _, _, _, _, _, _, _ => none
 | k + 1, x3, x4, x6, x121000, x121001, x126000, x126001 => if x3 = true then (if x6 < x121000 then (if 0 ≤ x6 then (if x6 < (x126001.length : Int) then ((saronref00_Grows.f k (rd_L1 x126001 x6) x126000).bind fun t128 => (saronlaw05_sound.l1 k t128 x4 (wrap64 (x6 + 1)) x121000 x121001 x126000 x126001)) else (none)) else (none)) else (saronlaw05_sound.l0 k x3 (wrap64 (x4 + 1)) x121000 x121001)) else (saronlaw05_sound.l0 k x3 (wrap64 (x4 + 1)) x121000 x121001)
end
def saronlaw05_sound.f (k : Nat) (a0_0 : Int) (l0_1 : List (S63)) : Option (Bool) := (cycle_Check.f k a0_0 l0_1).bind fun t121 => (if t121 = 0 then ((saronref00_Sits.f a0_0 1 5).bind fun t122 => (if t122 = true then ((saronref00_Sits.f (l0_1.length : Int) 1 4).bind fun t123 => (saronlaw05_sound.j0 k t123 a0_0 l0_1)) else (saronlaw05_sound.j0 k false a0_0 l0_1))) else (saronlaw05_sound.j0 k false a0_0 l0_1))
theorem saronlaw05_sound.mono_l : ∀ k, (∀ y0 y1 y2, LeO (saronlaw05_sound.j0 k y0 y1 y2) (saronlaw05_sound.j0 (k + 1) y0 y1 y2)) ∧ (∀ y0 y1 y2 y3, LeO (saronlaw05_sound.l0 k y0 y1 y2 y3) (saronlaw05_sound.l0 (k + 1) y0 y1 y2 y3)) ∧ (∀ y0 y1 y2 y3 y4, LeO (saronlaw05_sound.j2 k y0 y1 y2 y3 y4) (saronlaw05_sound.j2 (k + 1) y0 y1 y2 y3 y4)) ∧ (∀ y0 y1 y2 y3 y4 y5, LeO (saronlaw05_sound.j3 k y0 y1 y2 y3 y4 y5) (saronlaw05_sound.j3 (k + 1) y0 y1 y2 y3 y4 y5)) ∧ (∀ y0 y1 y2 y3 y4 y5 y6, LeO (saronlaw05_sound.l1 k y0 y1 y2 y3 y4 y5 y6) (saronlaw05_sound.l1 (k + 1) y0 y1 y2 y3 y4 y5 y6))
 | 0 => ⟨fun _ _ _ r h => by simp [saronlaw05_sound.j0] at h, fun _ _ _ _ r h => by simp [saronlaw05_sound.l0] at h, fun _ _ _ _ _ r h => by simp [saronlaw05_sound.j2] at h, fun _ _ _ _ _ _ r h => by simp [saronlaw05_sound.j3] at h, fun _ _ _ _ _ _ _ r h => by simp [saronlaw05_sound.l1] at h⟩
 | k + 1 => by
  obtain ⟨ih0, ih1, ih2, ih3, ih4⟩ := saronlaw05_sound.mono_l k
  refine ⟨?_, ?_, ?_, ?_, ?_⟩
  ·intro y0 y1 y2
   unfold saronlaw05_sound.j0
   repeat' first
   | (with_reducible exact ih0 _ _ _)
   | (with_reducible exact ih1 _ _ _ _)
   | (with_reducible exact ih2 _ _ _ _ _)
   | (with_reducible exact ih3 _ _ _ _ _ _)
   | (with_reducible exact ih4 _ _ _ _ _ _ _)
   | (with_reducible exact cycle_Check.mono _ _ _)
   | (with_reducible exact saronref00_Grows.mono _ _ _)
   | (with_reducible exact LeO.refl _)
   | (with_reducible exact LeO.none _)
   | (with_reducible refine LeO.ite ?_ ?_)
   | (with_reducible refine LeO.bind ?_ (fun _ => ?_))
   | exact ih0 _ _ _
   | exact ih1 _ _ _ _
   | exact ih2 _ _ _ _ _
   | exact ih3 _ _ _ _ _ _
   | exact ih4 _ _ _ _ _ _ _
   | exact cycle_Check.mono _ _ _
   | exact saronref00_Grows.mono _ _ _
   | exact LeO.none _
   | refine LeO.ite ?_ ?_
   | refine LeO.bind ?_ (fun _ => ?_)
  ·intro y0 y1 y2 y3
   unfold saronlaw05_sound.l0
   repeat' first
   | (with_reducible exact ih0 _ _ _)
   | (with_reducible exact ih1 _ _ _ _)
   | (with_reducible exact ih2 _ _ _ _ _)
   | (with_reducible exact ih3 _ _ _ _ _ _)
   | (with_reducible exact ih4 _ _ _ _ _ _ _)
   | (with_reducible exact cycle_Check.mono _ _ _)
   | (with_reducible exact saronref00_Grows.mono _ _ _)
   | (with_reducible exact LeO.refl _)
   | (with_reducible exact LeO.none _)
   | (with_reducible refine LeO.ite ?_ ?_)
   | (with_reducible refine LeO.bind ?_ (fun _ => ?_))
   | exact ih0 _ _ _
   | exact ih1 _ _ _ _
   | exact ih2 _ _ _ _ _
   | exact ih3 _ _ _ _ _ _
   | exact ih4 _ _ _ _ _ _ _
   | exact cycle_Check.mono _ _ _
   | exact saronref00_Grows.mono _ _ _
   | exact LeO.none _
   | refine LeO.ite ?_ ?_
   | refine LeO.bind ?_ (fun _ => ?_)
  ·intro y0 y1 y2 y3 y4
   unfold saronlaw05_sound.j2
   repeat' first
   | (with_reducible exact ih0 _ _ _)
   | (with_reducible exact ih1 _ _ _ _)
   | (with_reducible exact ih2 _ _ _ _ _)
   | (with_reducible exact ih3 _ _ _ _ _ _)
   | (with_reducible exact ih4 _ _ _ _ _ _ _)
   | (with_reducible exact cycle_Check.mono _ _ _)
   | (with_reducible exact saronref00_Grows.mono _ _ _)
   | (with_reducible exact LeO.refl _)
   | (with_reducible exact LeO.none _)
   | (with_reducible refine LeO.ite ?_ ?_)
   | (with_reducible refine LeO.bind ?_ (fun _ => ?_))
   | exact ih0 _ _ _
   | exact ih1 _ _ _ _
   | exact ih2 _ _ _ _ _
   | exact ih3 _ _ _ _ _ _
   | exact ih4 _ _ _ _ _ _ _
   | exact cycle_Check.mono _ _ _
   | exact saronref00_Grows.mono _ _ _
   | exact LeO.none _
   | refine LeO.ite ?_ ?_
   | refine LeO.bind ?_ (fun _ => ?_)
  ·intro y0 y1 y2 y3 y4 y5
   unfold saronlaw05_sound.j3
   repeat' first
   | (with_reducible exact ih0 _ _ _)
   | (with_reducible exact ih1 _ _ _ _)
   | (with_reducible exact ih2 _ _ _ _ _)
   | (with_reducible exact ih3 _ _ _ _ _ _)
   | (with_reducible exact ih4 _ _ _ _ _ _ _)
   | (with_reducible exact cycle_Check.mono _ _ _)
   | (with_reducible exact saronref00_Grows.mono _ _ _)
   | (with_reducible exact LeO.refl _)
   | (with_reducible exact LeO.none _)
   | (with_reducible refine LeO.ite ?_ ?_)
   | (with_reducible refine LeO.bind ?_ (fun _ => ?_))
   | exact ih0 _ _ _
   | exact ih1 _ _ _ _
   | exact ih2 _ _ _ _ _
   | exact ih3 _ _ _ _ _ _
   | exact ih4 _ _ _ _ _ _ _
   | exact cycle_Check.mono _ _ _
   | exact saronref00_Grows.mono _ _ _
   | exact LeO.none _
   | refine LeO.ite ?_ ?_
   | refine LeO.bind ?_ (fun _ => ?_)
  ·intro y0 y1 y2 y3 y4 y5 y6
   unfold saronlaw05_sound.l1
   repeat' first
   | (with_reducible exact ih0 _ _ _)
   | (with_reducible exact ih1 _ _ _ _)
   | (with_reducible exact ih2 _ _ _ _ _)
   | (with_reducible exact ih3 _ _ _ _ _ _)
   | (with_reducible exact ih4 _ _ _ _ _ _ _)
   | (with_reducible exact cycle_Check.mono _ _ _)
   | (with_reducible exact saronref00_Grows.mono _ _ _)
   | (with_reducible exact LeO.refl _)
   | (with_reducible exact LeO.none _)
   | (with_reducible refine LeO.ite ?_ ?_)
   | (with_reducible refine LeO.bind ?_ (fun _ => ?_))
   | exact ih0 _ _ _
   | exact ih1 _ _ _ _
   | exact ih2 _ _ _ _ _
   | exact ih3 _ _ _ _ _ _
   | exact ih4 _ _ _ _ _ _ _
   | exact cycle_Check.mono _ _ _
   | exact saronref00_Grows.mono _ _ _
   | exact LeO.none _
   | refine LeO.ite ?_ ?_
   | refine LeO.bind ?_ (fun _ => ?_)
theorem saronlaw05_sound.mono : ∀ a0 a1 k, LeO (saronlaw05_sound.f k a0 a1) (saronlaw05_sound.f (k + 1) a0 a1) := by
 intro a0 a1 k
 obtain ⟨ih0, ih1, ih2, ih3, ih4⟩ := saronlaw05_sound.mono_l k
 unfold saronlaw05_sound.f
 repeat' first
   | (with_reducible exact ih0 _ _ _)
   | (with_reducible exact ih1 _ _ _ _)
   | (with_reducible exact ih2 _ _ _ _ _)
   | (with_reducible exact ih3 _ _ _ _ _ _)
   | (with_reducible exact ih4 _ _ _ _ _ _ _)
   | (with_reducible exact cycle_Check.mono _ _ _)
   | (with_reducible exact saronref00_Grows.mono _ _ _)
   | (with_reducible exact LeO.refl _)
   | (with_reducible exact LeO.none _)
   | (with_reducible refine LeO.ite ?_ ?_)
   | (with_reducible refine LeO.bind ?_ (fun _ => ?_))
   | exact ih0 _ _ _
   | exact ih1 _ _ _ _
   | exact ih2 _ _ _ _ _
   | exact ih3 _ _ _ _ _ _
   | exact ih4 _ _ _ _ _ _ _
   | exact cycle_Check.mono _ _ _
   | exact saronref00_Grows.mono _ _ _
   | exact LeO.none _
   | refine LeO.ite ?_ ?_
   | refine LeO.bind ?_ (fun _ => ?_)
set_option maxHeartbeats 8000000 in
set_option maxRecDepth 100000 in
theorem saronlaw05_sound.calls (k : Nat) (a0_0 : Int) (A0_1 : Option Addr) (c0_1 : Nat) (l0_1 : List (S63)) (r : Bool) (w : World) (hr0_1 : Kd.C k63 w A0_1 l0_1.length l0_1) (hc0_1 : l0_1.length ≤ c0_1) (h : saronlaw05_sound.f k a0_0 l0_1 = some r) :
  Calls Tryd.prog 39 #[.agg #[.int .i64 a0_0, .slice A0_1 l0_1.length c0_1]] w fun e w' => e = .returned (.bool r) ∧ Below w.heap.size w w' := by
 have hu24 := Tryd.underlying24
 have hu63 := Tryd.underlying63
 have HR0_1 := Aside0.mk hr0_1
 have HC0_1 := Aside0.mk hc0_1
 clear hr0_1 hc0_1
 have HB := Aside0.mk (Below.refl w.heap.size w)
 have H : ((cycle_Check.f k a0_0 l0_1).bind fun t121 => (if t121 = 0 then ((saronref00_Sits.f a0_0 1 5).bind fun t122 => (if t122 = true then ((saronref00_Sits.f (l0_1.length : Int) 1 4).bind fun t123 => (saronlaw05_sound.j0 k t123 a0_0 l0_1)) else (saronlaw05_sound.j0 k false a0_0 l0_1))) else (saronlaw05_sound.j0 k false a0_0 l0_1))) = some r := h
 clear h
 have HC2 := Aside0.mk H
 clear H
 go_enter Tryd.func39, Tryd.ntmps39
 go_upto_region 1 with (first | ((with_reducible refine gate_dst (N := 1) rfl ?_); (try (refine gate_guard (by rfl) ?_; dsimp only)); refine box_event ?hg (N := 1) ?hd (cs := #[.int .i64 a0_0, .slice A0_1 l0_1.length c0_1]) (t := 24) ?hr ?_; (case hd => rfl); (case hg => rfl); (case hr => exact TS); intro gb120 hg w3 hbox hb; have BK120 := Aside0.mk (hbox); have GW120 := Aside0.mk ((TG : w.heap.size ≤ gb120)); have GE120 := Aside0.mk ((TG : w.heap.size ≤ gb120)); replace HB := Aside0.mk (below_step TB hb); clear hb hbox hg))
 repeat (go_quiet (first | ((with_reducible refine gate_dst (N := 1) rfl ?_); (try (refine gate_guard (by rfl) ?_; dsimp only)); refine box_event ?hg (N := 1) ?hd (cs := #[.int .i64 a0_0, .slice A0_1 l0_1.length c0_1]) (t := 24) ?hr ?_; (case hd => rfl); (case hg => rfl); (case hr => exact TS); intro gb120 hg w3 hbox hb; have BK120 := Aside0.mk (hbox); have GW120 := Aside0.mk ((TG : w.heap.size ≤ gb120)); have GE120 := Aside0.mk ((TG : w.heap.size ≤ gb120)); replace HB := Aside0.mk (below_step TB hb); clear hb hbox hg)); go_upto_region 1 with (first | ((with_reducible refine gate_dst (N := 1) rfl ?_); (try (refine gate_guard (by rfl) ?_; dsimp only)); refine box_event ?hg (N := 1) ?hd (cs := #[.int .i64 a0_0, .slice A0_1 l0_1.length c0_1]) (t := 24) ?hr ?_; (case hd => rfl); (case hg => rfl); (case hr => exact TS); intro gb120 hg w3 hbox hb; have BK120 := Aside0.mk (hbox); have GW120 := Aside0.mk ((TG : w.heap.size ≤ gb120)); have GE120 := Aside0.mk ((TG : w.heap.size ≤ gb120)); replace HB := Aside0.mk (below_step TB hb); clear hb hbox hg)))
 (try simp only [Act.put, lA, lZ, lS])
 go_cut [3] (fun v3 wc => ∃ (kq : Nat) (x3_1 : Bool), v3 = .bool x3_1 ∧ Aside0 (saronlaw05_sound.j0 kq x3_1 a0_0 l0_1 = some r) ∧ Aside0 (kq ≤ k) ∧ Aside0 (wc.heap[gb120]? = some (.cells #[.int .i64 a0_0, (.slice A0_1 l0_1.length c0_1)] 24 (0, 0))) ∧ Aside0 (Below w.heap.size w wc))
 case first => as_aux_lemma =>
  have H := HC2.out
  clear HC2
  replace H := Option.bind_eq_some_iff.mp H
  obtain ⟨t121, A40, H⟩ := H
  replace H : (if t121 = 0 then ((saronref00_Sits.f a0_0 1 5).bind fun t122 => (if t122 = true then ((saronref00_Sits.f (l0_1.length : Int) 1 4).bind fun t123 => (saronlaw05_sound.j0 k t123 a0_0 l0_1)) else (saronlaw05_sound.j0 k false a0_0 l0_1))) else (saronlaw05_sound.j0 k false a0_0 l0_1)) = some r := H
  have A4 := Aside0.mk A40
  clear A40
  by_cases c5 : t121 = 0
  ·rw [if_pos c5] at H
   have c5b0 : (t121 == 0) = true := beq_iff_eq.mpr c5
   have c5b1 : (t121 != 0) = false := bne_eq_false_iff_eq.mpr c5
   clear c5
   (first | rw [c5b0] | (simp only [i64_w, i32_w]; rw [c5b0]) | skip)
   replace H := Option.bind_eq_some_iff.mp H
   obtain ⟨t122, A60, H⟩ := H
   replace H : (if t122 = true then ((saronref00_Sits.f (l0_1.length : Int) 1 4).bind fun t123 => (saronlaw05_sound.j0 k t123 a0_0 l0_1)) else (saronlaw05_sound.j0 k false a0_0 l0_1)) = some r := H
   have A6 := Aside0.mk A60
   clear A60
   by_cases c7 : t122 = true
   ·subst c7
    have H1 : ((saronref00_Sits.f (l0_1.length : Int) 1 4).bind fun t123 => (saronlaw05_sound.j0 k t123 a0_0 l0_1)) = some r := by rw [if_pos rfl] at H; exact H
    clear H
    have H := H1
    clear H1
    replace H := Option.bind_eq_some_iff.mp H
    obtain ⟨t123, A80, H⟩ := H
    replace H : (saronlaw05_sound.j0 k t123 a0_0 l0_1) = some r := H
    have A8 := Aside0.mk A80
    clear A80
    have H' := Aside0.mk H
    clear H
    have hcz9_0 := cz BK120.out 0
    have hcz9_1 := cz BK120.out 1
    have hfz9_0 := fz BK120.out 0
    have hfz9_1 := fz BK120.out 1
    go_wp2_with (first | (go_at_call 17; (with_reducible refine (cycle_Check.calls k a0_0 _ _ l0_1 t121 _ ?side1 ?side2 A4.out).mono ?_); (case side1 => exact TC HR0_1.out); (case side2 => exact HC0_1.out); rintro e w10 ⟨rfl, hb⟩; replace BK120 := Aside0.mk (TKb hb BK120.out); replace HB := Aside0.mk (below_step (TB1 GE120.out) hb); (try clear hb); (try clear hb2); (try clear hk); (try clear hi); have hcz11_0 := cz BK120.out 0; have hcz11_1 := cz BK120.out 1; have hfz11_0 := fz BK120.out 0; have hfz11_1 := fz BK120.out 1) | (go_at_call 43; (with_reducible refine (saronref00_Sits.calls a0_0 1 5 true _ A6.out).mono ?_); rintro e w' ⟨rfl, ⟨nd, rfl⟩⟩; (try first | exact ⟨rfl, _, World.drewN_drewN _ _ _⟩ | exact ⟨rfl, _, Eq.trans (World.drewN_drewN _ _ _) (congrArg (World.drewN _) (Nat.add_assoc _ _ _))⟩)) | (go_at_call 43; (with_reducible refine (saronref00_Sits.calls (l0_1.length : Int) 1 4 t123 _ A8.out).mono ?_); rintro e w' ⟨rfl, ⟨nd, rfl⟩⟩; (try first | exact ⟨rfl, _, World.drewN_drewN _ _ _⟩ | exact ⟨rfl, _, Eq.trans (World.drewN_drewN _ _ _) (congrArg (World.drewN _) (Nat.add_assoc _ _ _))⟩)))
    repeat (go_quiet (first | (go_at_call 17; (with_reducible refine (cycle_Check.calls k a0_0 _ _ l0_1 t121 _ ?side1 ?side2 A4.out).mono ?_); (case side1 => exact TC HR0_1.out); (case side2 => exact HC0_1.out); rintro e w10 ⟨rfl, hb⟩; replace BK120 := Aside0.mk (TKb hb BK120.out); replace HB := Aside0.mk (below_step (TB1 GE120.out) hb); (try clear hb); (try clear hb2); (try clear hk); (try clear hi); have hcz11_0 := cz BK120.out 0; have hcz11_1 := cz BK120.out 1; have hfz11_0 := fz BK120.out 0; have hfz11_1 := fz BK120.out 1) | (go_at_call 43; (with_reducible refine (saronref00_Sits.calls a0_0 1 5 true _ A6.out).mono ?_); rintro e w' ⟨rfl, ⟨nd, rfl⟩⟩; (try first | exact ⟨rfl, _, World.drewN_drewN _ _ _⟩ | exact ⟨rfl, _, Eq.trans (World.drewN_drewN _ _ _) (congrArg (World.drewN _) (Nat.add_assoc _ _ _))⟩)) | (go_at_call 43; (with_reducible refine (saronref00_Sits.calls (l0_1.length : Int) 1 4 t123 _ A8.out).mono ?_); rintro e w' ⟨rfl, ⟨nd, rfl⟩⟩; (try first | exact ⟨rfl, _, World.drewN_drewN _ _ _⟩ | exact ⟨rfl, _, Eq.trans (World.drewN_drewN _ _ _) (congrArg (World.drewN _) (Nat.add_assoc _ _ _))⟩))); try go_wp2_with (first | (go_at_call 17; (with_reducible refine (cycle_Check.calls k a0_0 _ _ l0_1 t121 _ ?side1 ?side2 A4.out).mono ?_); (case side1 => exact TC HR0_1.out); (case side2 => exact HC0_1.out); rintro e w10 ⟨rfl, hb⟩; replace BK120 := Aside0.mk (TKb hb BK120.out); replace HB := Aside0.mk (below_step (TB1 GE120.out) hb); (try clear hb); (try clear hb2); (try clear hk); (try clear hi); have hcz11_0 := cz BK120.out 0; have hcz11_1 := cz BK120.out 1; have hfz11_0 := fz BK120.out 0; have hfz11_1 := fz BK120.out 1) | (go_at_call 43; (with_reducible refine (saronref00_Sits.calls a0_0 1 5 true _ A6.out).mono ?_); rintro e w' ⟨rfl, ⟨nd, rfl⟩⟩; (try first | exact ⟨rfl, _, World.drewN_drewN _ _ _⟩ | exact ⟨rfl, _, Eq.trans (World.drewN_drewN _ _ _) (congrArg (World.drewN _) (Nat.add_assoc _ _ _))⟩)) | (go_at_call 43; (with_reducible refine (saronref00_Sits.calls (l0_1.length : Int) 1 4 t123 _ A8.out).mono ?_); rintro e w' ⟨rfl, ⟨nd, rfl⟩⟩; (try first | exact ⟨rfl, _, World.drewN_drewN _ _ _⟩ | exact ⟨rfl, _, Eq.trans (World.drewN_drewN _ _ _) (congrArg (World.drewN _) (Nat.add_assoc _ _ _))⟩))))
    go_meet
    case rel => exact ⟨_, (t123), TT, H', ⟨by first | omega | exact Nat.le_refl _⟩, ⟨TK BK120.out⟩, ⟨TB1 GE120.out⟩⟩
   ·replace c7 := Bool.eq_false_iff.mpr c7
    subst c7
    have H1 : (saronlaw05_sound.j0 k false a0_0 l0_1) = some r := by rw [if_neg (show ¬ (false = true) by decide)] at H; exact H
    clear H
    have H := H1
    clear H1
    have H' := Aside0.mk H
    clear H
    have hcz12_0 := cz BK120.out 0
    have hcz12_1 := cz BK120.out 1
    have hfz12_0 := fz BK120.out 0
    have hfz12_1 := fz BK120.out 1
    go_wp2_with (first | (go_at_call 17; (with_reducible refine (cycle_Check.calls k a0_0 _ _ l0_1 t121 _ ?side1 ?side2 A4.out).mono ?_); (case side1 => exact TC HR0_1.out); (case side2 => exact HC0_1.out); rintro e w13 ⟨rfl, hb⟩; replace BK120 := Aside0.mk (TKb hb BK120.out); replace HB := Aside0.mk (below_step (TB1 GE120.out) hb); (try clear hb); (try clear hb2); (try clear hk); (try clear hi); have hcz14_0 := cz BK120.out 0; have hcz14_1 := cz BK120.out 1; have hfz14_0 := fz BK120.out 0; have hfz14_1 := fz BK120.out 1) | (go_at_call 43; (with_reducible refine (saronref00_Sits.calls a0_0 1 5 false _ A6.out).mono ?_); rintro e w' ⟨rfl, ⟨nd, rfl⟩⟩; (try first | exact ⟨rfl, _, World.drewN_drewN _ _ _⟩ | exact ⟨rfl, _, Eq.trans (World.drewN_drewN _ _ _) (congrArg (World.drewN _) (Nat.add_assoc _ _ _))⟩)))
    repeat (go_quiet (first | (go_at_call 17; (with_reducible refine (cycle_Check.calls k a0_0 _ _ l0_1 t121 _ ?side1 ?side2 A4.out).mono ?_); (case side1 => exact TC HR0_1.out); (case side2 => exact HC0_1.out); rintro e w13 ⟨rfl, hb⟩; replace BK120 := Aside0.mk (TKb hb BK120.out); replace HB := Aside0.mk (below_step (TB1 GE120.out) hb); (try clear hb); (try clear hb2); (try clear hk); (try clear hi); have hcz14_0 := cz BK120.out 0; have hcz14_1 := cz BK120.out 1; have hfz14_0 := fz BK120.out 0; have hfz14_1 := fz BK120.out 1) | (go_at_call 43; (with_reducible refine (saronref00_Sits.calls a0_0 1 5 false _ A6.out).mono ?_); rintro e w' ⟨rfl, ⟨nd, rfl⟩⟩; (try first | exact ⟨rfl, _, World.drewN_drewN _ _ _⟩ | exact ⟨rfl, _, Eq.trans (World.drewN_drewN _ _ _) (congrArg (World.drewN _) (Nat.add_assoc _ _ _))⟩))); try go_wp2_with (first | (go_at_call 17; (with_reducible refine (cycle_Check.calls k a0_0 _ _ l0_1 t121 _ ?side1 ?side2 A4.out).mono ?_); (case side1 => exact TC HR0_1.out); (case side2 => exact HC0_1.out); rintro e w13 ⟨rfl, hb⟩; replace BK120 := Aside0.mk (TKb hb BK120.out); replace HB := Aside0.mk (below_step (TB1 GE120.out) hb); (try clear hb); (try clear hb2); (try clear hk); (try clear hi); have hcz14_0 := cz BK120.out 0; have hcz14_1 := cz BK120.out 1; have hfz14_0 := fz BK120.out 0; have hfz14_1 := fz BK120.out 1) | (go_at_call 43; (with_reducible refine (saronref00_Sits.calls a0_0 1 5 false _ A6.out).mono ?_); rintro e w' ⟨rfl, ⟨nd, rfl⟩⟩; (try first | exact ⟨rfl, _, World.drewN_drewN _ _ _⟩ | exact ⟨rfl, _, Eq.trans (World.drewN_drewN _ _ _) (congrArg (World.drewN _) (Nat.add_assoc _ _ _))⟩))))
    go_meet
    case rel => exact ⟨_, (false), TT, H', ⟨by first | omega | exact Nat.le_refl _⟩, ⟨TK BK120.out⟩, ⟨TB1 GE120.out⟩⟩
  ·rw [if_neg c5] at H
   have c5b0 : (t121 == 0) = false := beq_eq_false_iff_ne.mpr c5
   have c5b1 : (t121 != 0) = true := bne_iff_ne.mpr c5
   (first | rw [c5b0] | (simp only [i64_w, i32_w]; rw [c5b0]) | skip)
   have H' := Aside0.mk H
   clear H
   have hcz15_0 := cz BK120.out 0
   have hcz15_1 := cz BK120.out 1
   have hfz15_0 := fz BK120.out 0
   have hfz15_1 := fz BK120.out 1
   go_wp2_with (first | (go_at_call 17; (with_reducible refine (cycle_Check.calls k a0_0 _ _ l0_1 t121 _ ?side1 ?side2 A4.out).mono ?_); (case side1 => exact TC HR0_1.out); (case side2 => exact HC0_1.out); rintro e w16 ⟨rfl, hb⟩; replace BK120 := Aside0.mk (TKb hb BK120.out); replace HB := Aside0.mk (below_step (TB1 GE120.out) hb); (try clear hb); (try clear hb2); (try clear hk); (try clear hi)))
   repeat (go_quiet (first | (go_at_call 17; (with_reducible refine (cycle_Check.calls k a0_0 _ _ l0_1 t121 _ ?side1 ?side2 A4.out).mono ?_); (case side1 => exact TC HR0_1.out); (case side2 => exact HC0_1.out); rintro e w16 ⟨rfl, hb⟩; replace BK120 := Aside0.mk (TKb hb BK120.out); replace HB := Aside0.mk (below_step (TB1 GE120.out) hb); (try clear hb); (try clear hb2); (try clear hk); (try clear hi))); try go_wp2_with (first | (go_at_call 17; (with_reducible refine (cycle_Check.calls k a0_0 _ _ l0_1 t121 _ ?side1 ?side2 A4.out).mono ?_); (case side1 => exact TC HR0_1.out); (case side2 => exact HC0_1.out); rintro e w16 ⟨rfl, hb⟩; replace BK120 := Aside0.mk (TKb hb BK120.out); replace HB := Aside0.mk (below_step (TB1 GE120.out) hb); (try clear hb); (try clear hb2); (try clear hk); (try clear hi))))
   go_meet
   case rel => exact ⟨_, (false), TT, H', ⟨by first | omega | exact Nat.le_refl _⟩, ⟨TK BK120.out⟩, ⟨TB1 GE120.out⟩⟩
 case rest => as_aux_lemma =>
  clear HC2
  try clear p2
  try clear c3
  try clear c5
  try clear c5b0
  try clear c5b1
  try clear c7
  try clear hcz11_0 hcz11_1
  try clear hcz12_0 hcz12_1
  try clear hcz14_0 hcz14_1
  try clear hcz15_0 hcz15_1
  try clear hcz9_0 hcz9_1
  try clear hfz11_0 hfz11_1
  try clear hfz12_0 hfz12_1
  try clear hfz14_0 hfz14_1
  try clear hfz15_0 hfz15_1
  try clear hfz9_0 hfz9_1
  obtain ⟨kq, x3_1, rfl, HA, HJ1, BK120, HB⟩ := hcut
  cases kq with
  | zero => exact absurd HA.out (by simp [saronlaw05_sound.j0])
  | succ kj1 =>
   have H := HA.out
   clear HA
   simp only [saronlaw05_sound.j0] at H
   have H' := Aside0.mk H
   clear H
   go_wp2
   repeat (go_quiet (fail); try go_wp2)
   go_loopg [3, 4] kj1 (fun kq v3 v4 w' => ∃ (x3_2 : Bool) (x4_2 : Int), v3 = .bool x3_2 ∧ v4 = .int .i64 x4_2 ∧ Aside0 (saronlaw05_sound.l0 kq x3_2 x4_2 a0_0 l0_1 = some r) ∧ Aside0 (kq ≤ kj1) ∧ Aside0 (w'.heap[gb120]? = some (.cells #[.int .i64 a0_0, (.slice A0_1 l0_1.length c0_1)] 24 (0, 0))) ∧ Aside0 (Below w.heap.size w w'))
   case atStart => exact ⟨(x3_1), (0), TT, TT, H', ⟨Nat.le_refl _⟩, ⟨TK BK120.out⟩, ⟨TB1 GE120.out⟩⟩
   case round => as_aux_lemma =>
    clear H'
    try clear p2
    try clear c3
    try clear c5
    try clear c5b0
    try clear c5b1
    try clear c7
    try clear hcz11_0 hcz11_1
    try clear hcz12_0 hcz12_1
    try clear hcz14_0 hcz14_1
    try clear hcz15_0 hcz15_1
    try clear hcz9_0 hcz9_1
    try clear hfz11_0 hfz11_1
    try clear hfz12_0 hfz12_1
    try clear hfz14_0 hfz14_1
    try clear hfz15_0 hfz15_1
    try clear hfz9_0 hfz9_1
    try clear p2
    obtain ⟨x3_2, x4_2, rfl, rfl, HA, HK2, BK120, HB⟩ := hrel
    cases gk with
    | zero => exact absurd HA.out (by simp [saronlaw05_sound.l0])
    | succ k2 =>
     have H := HA.out
     clear HA
     simp only [saronlaw05_sound.l0] at H
     have HC17 := Aside0.mk H
     clear H
     go_upto_region 3 with (fail)
     repeat (go_quiet (fail); go_upto_region 3 with (fail))
     go_cut [28] (fun v28 wc => ∃ (kq : Nat) (x28_16 : Bool), v28 = .bool x28_16 ∧ Aside0 (saronlaw05_sound.j2 kq x3_2 x4_2 x28_16 a0_0 l0_1 = some r) ∧ Aside0 (kq ≤ k2) ∧ Aside0 (wc.heap[gb120]? = some (.cells #[.int .i64 a0_0, (.slice A0_1 l0_1.length c0_1)] 24 (0, 0))) ∧ Aside0 (Below w.heap.size w wc))
     case first => as_aux_lemma =>
      have H := HC17.out
      clear HC17
      by_cases c18 : x3_2 = true
      ·subst c18
       have H1 : (saronlaw05_sound.j2 k2 true x4_2 (decide (x4_2 < (l0_1.length : Int))) a0_0 l0_1) = some r := by rw [if_pos rfl] at H; exact H
       clear H
       have H := H1
       clear H1
       have H' := Aside0.mk H
       clear H
       have hcz19_0 := cz BK120.out 0
       have hcz19_1 := cz BK120.out 1
       have hfz19_0 := fz BK120.out 0
       have hfz19_1 := fz BK120.out 1
       go_wp2
       repeat (go_quiet (fail); try go_wp2)
       go_meet
       case rel => exact ⟨_, (decide (x4_2 < (l0_1.length : Int))), TT, H', ⟨by have := HJ1.out; have := HK2.out; first | omega | exact Nat.le_refl _⟩, ⟨TK BK120.out⟩, ⟨TB1 GE120.out⟩⟩
      ·replace c18 := Bool.eq_false_iff.mpr c18
       subst c18
       have H1 : (saronlaw05_sound.j2 k2 false x4_2 false a0_0 l0_1) = some r := by rw [if_neg (show ¬ (false = true) by decide)] at H; exact H
       clear H
       have H := H1
       clear H1
       have H' := Aside0.mk H
       clear H
       go_wp2
       repeat (go_quiet (fail); try go_wp2)
       go_meet
       case rel => exact ⟨_, (false), TT, H', ⟨by have := HJ1.out; have := HK2.out; first | omega | exact Nat.le_refl _⟩, ⟨TK BK120.out⟩, ⟨TB1 GE120.out⟩⟩
     case rest => as_aux_lemma =>
      clear HC17
      try clear c1
      try clear p2
      try clear c3
      try clear c5
      try clear c5b0
      try clear c5b1
      try clear c7
      try clear c18
      try clear hcz11_0 hcz11_1
      try clear hcz12_0 hcz12_1
      try clear hcz14_0 hcz14_1
      try clear hcz15_0 hcz15_1
      try clear hcz19_0 hcz19_1
      try clear hcz9_0 hcz9_1
      try clear hfz11_0 hfz11_1
      try clear hfz12_0 hfz12_1
      try clear hfz14_0 hfz14_1
      try clear hfz15_0 hfz15_1
      try clear hfz19_0 hfz19_1
      try clear hfz9_0 hfz9_1
      try clear p2
      obtain ⟨kq, x28_16, rfl, HA, HJ16, BK120, HB⟩ := hcut
      cases kq with
      | zero => exact absurd HA.out (by simp [saronlaw05_sound.j2])
      | succ kj16 =>
       have H := HA.out
       clear HA
       simp only [saronlaw05_sound.j2] at H
       by_cases c20 : x28_16 = true
       ·subst c20
        have H1 : (if 0 ≤ x4_2 then (if x4_2 < (l0_1.length : Int) then ((saronref00_Sits.f ((rd_T63 l0_1 x4_2).f0) 2 32).bind fun t126 => (if t126 = true then (saronlaw05_sound.j3 kj16 ((((rd_T63 l0_1 x4_2).f1).length : Int) == a0_0) x4_2 a0_0 l0_1 ((rd_T63 l0_1 x4_2).f0) ((rd_T63 l0_1 x4_2).f1)) else (saronlaw05_sound.j3 kj16 false x4_2 a0_0 l0_1 ((rd_T63 l0_1 x4_2).f0) ((rd_T63 l0_1 x4_2).f1)))) else (none)) else (none)) = some r := by rw [if_pos rfl] at H; exact H
        clear H
        have H := H1
        clear H1
        by_cases c21 : 0 ≤ x4_2
        ·rw [if_pos c21] at H
         have c21b0 : decide (0 ≤ x4_2) = true := decide_eq_true c21
         clear c21
         by_cases c22 : x4_2 < (l0_1.length : Int)
         ·rw [if_pos c22] at H
          have c22b0 : decide (x4_2 < (l0_1.length : Int)) = true := decide_eq_true c22
          clear c22
          have HC23 := Aside0.mk H
          clear H
          have hcz24_0 := cz BK120.out 0
          have hcz24_1 := cz BK120.out 1
          have hfz24_0 := fz BK120.out 0
          have hfz24_1 := fz BK120.out 1
          have p124 : 0 ≤ (x4_2 : Int) := of_decide_eq_true TA
          have q124 : x4_2 < (l0_1.length : Int) := of_decide_eq_true TA
          obtain ⟨ad124, A124_1, c124_1, e124, hx124_0, hx124_1, hl124_1, hi124_1⟩ := at_T63 HR0_1.out x4_2 p124 q124
          cases e124
          replace hx124_0 := hx HB.out hx124_0
          replace hx124_1 := hx HB.out hx124_1
          have HR124_1 := Aside0.mk hi124_1
          have HC124_1 := Aside0.mk hl124_1
          clear hi124_1 hl124_1
          replace p124 := eq_true p124
          replace q124 := eq_true q124
          go_upto_region 6 with (first | ((with_reducible refine gate_dst (N := 5) rfl ?_); (try (refine gate_guard (by rfl) ?_; dsimp only)); refine box_event ?hg (N := 5) ?hd (cs := #[.int .i64 0, .slice none 0 0]) (t := 63) ?hr ?_; (case hd => rfl); (case hg => rfl); (case hr => exact TS); intro gb125 hg w25 hbox hb; have BK125 := Aside0.mk (hbox); have GW125 := Aside0.mk ((TG1 GE120.out : w.heap.size ≤ gb125)); have GE125 := Aside0.mk ((TG1 GE120.out : w.heap.size ≤ gb125)); have NB120_125 := Aside0.mk ((by rw [hg]; exact Nat.ne_of_lt (blk_lt (g := gb120) (o := .cells #[.int .i64 a0_0, .slice (some ad124) l0_1.length c0_1] 24 (0, 0)) (TK BK120.out)) : gb120 ≠ gb125)); have NB125_120 := Aside0.mk ((by rw [hg]; exact Nat.ne_of_gt (blk_lt (g := gb120) (o := .cells #[.int .i64 a0_0, .slice (some ad124) l0_1.length c0_1] 24 (0, 0)) (TK BK120.out)) : gb125 ≠ gb120)); replace BK120 := Aside0.mk (TKb hb BK120.out); replace HB := Aside0.mk (below_step (TB1 GE120.out) hb); clear hb hbox hg; have hnb26 := NB125_120.out; have hnc26 := NB120_125.out; have hcz27_0 := cz BK125.out 0; have hcz27_1 := cz BK125.out 1; have hfz27_0 := fz BK125.out 0; have hfz27_1 := fz BK125.out 1))
          repeat (go_quiet (first | ((with_reducible refine gate_dst (N := 5) rfl ?_); (try (refine gate_guard (by rfl) ?_; dsimp only)); refine box_event ?hg (N := 5) ?hd (cs := #[.int .i64 0, .slice none 0 0]) (t := 63) ?hr ?_; (case hd => rfl); (case hg => rfl); (case hr => exact TS); intro gb125 hg w25 hbox hb; have BK125 := Aside0.mk (hbox); have GW125 := Aside0.mk ((TG1 GE120.out : w.heap.size ≤ gb125)); have GE125 := Aside0.mk ((TG1 GE120.out : w.heap.size ≤ gb125)); have NB120_125 := Aside0.mk ((by rw [hg]; exact Nat.ne_of_lt (blk_lt (g := gb120) (o := .cells #[.int .i64 a0_0, .slice (some ad124) l0_1.length c0_1] 24 (0, 0)) (TK BK120.out)) : gb120 ≠ gb125)); have NB125_120 := Aside0.mk ((by rw [hg]; exact Nat.ne_of_gt (blk_lt (g := gb120) (o := .cells #[.int .i64 a0_0, .slice (some ad124) l0_1.length c0_1] 24 (0, 0)) (TK BK120.out)) : gb125 ≠ gb120)); replace BK120 := Aside0.mk (TKb hb BK120.out); replace HB := Aside0.mk (below_step (TB1 GE120.out) hb); clear hb hbox hg; have hnb26 := NB125_120.out; have hnc26 := NB120_125.out; have hcz27_0 := cz BK125.out 0; have hcz27_1 := cz BK125.out 1; have hfz27_0 := fz BK125.out 0; have hfz27_1 := fz BK125.out 1)); go_upto_region 6 with (first | ((with_reducible refine gate_dst (N := 5) rfl ?_); (try (refine gate_guard (by rfl) ?_; dsimp only)); refine box_event ?hg (N := 5) ?hd (cs := #[.int .i64 0, .slice none 0 0]) (t := 63) ?hr ?_; (case hd => rfl); (case hg => rfl); (case hr => exact TS); intro gb125 hg w25 hbox hb; have BK125 := Aside0.mk (hbox); have GW125 := Aside0.mk ((TG1 GE120.out : w.heap.size ≤ gb125)); have GE125 := Aside0.mk ((TG1 GE120.out : w.heap.size ≤ gb125)); have NB120_125 := Aside0.mk ((by rw [hg]; exact Nat.ne_of_lt (blk_lt (g := gb120) (o := .cells #[.int .i64 a0_0, .slice (some ad124) l0_1.length c0_1] 24 (0, 0)) (TK BK120.out)) : gb120 ≠ gb125)); have NB125_120 := Aside0.mk ((by rw [hg]; exact Nat.ne_of_gt (blk_lt (g := gb120) (o := .cells #[.int .i64 a0_0, .slice (some ad124) l0_1.length c0_1] 24 (0, 0)) (TK BK120.out)) : gb125 ≠ gb120)); replace BK120 := Aside0.mk (TKb hb BK120.out); replace HB := Aside0.mk (below_step (TB1 GE120.out) hb); clear hb hbox hg; have hnb26 := NB125_120.out; have hnc26 := NB120_125.out; have hcz27_0 := cz BK125.out 0; have hcz27_1 := cz BK125.out 1; have hfz27_0 := fz BK125.out 0; have hfz27_1 := fz BK125.out 1)))
          (try simp only [Act.put, lA, lZ, lS])
          go_cut [3] (fun v3 wc => ∃ (kq : Nat) (x3_22 : Bool), v3 = .bool x3_22 ∧ Aside0 (saronlaw05_sound.j3 kq x3_22 x4_2 a0_0 l0_1 ((rd_T63 l0_1 x4_2).f0) ((rd_T63 l0_1 x4_2).f1) = some r) ∧ Aside0 (kq ≤ kj16) ∧ Aside0 (wc.heap[gb120]? = some (.cells #[.int .i64 a0_0, (.slice (some ad124) l0_1.length c0_1)] 24 (0, 0))) ∧ Aside0 (wc.heap[gb125]? = some (.cells #[.int .i64 ((rd_T63 l0_1 x4_2).f0), (.slice A124_1 ((rd_T63 l0_1 x4_2).f1).length c124_1)] 63 (0, 0))) ∧ Aside0 (Below w.heap.size w wc))
          case first => as_aux_lemma =>
           have H := HC23.out
           clear HC23
           replace H := Option.bind_eq_some_iff.mp H
           obtain ⟨t126, A280, H⟩ := H
           replace H : (if t126 = true then (saronlaw05_sound.j3 kj16 ((((rd_T63 l0_1 x4_2).f1).length : Int) == a0_0) x4_2 a0_0 l0_1 ((rd_T63 l0_1 x4_2).f0) ((rd_T63 l0_1 x4_2).f1)) else (saronlaw05_sound.j3 kj16 false x4_2 a0_0 l0_1 ((rd_T63 l0_1 x4_2).f0) ((rd_T63 l0_1 x4_2).f1))) = some r := H
           have A28 := Aside0.mk A280
           clear A280
           by_cases c29 : t126 = true
           ·subst c29
            have H1 : (saronlaw05_sound.j3 kj16 ((((rd_T63 l0_1 x4_2).f1).length : Int) == a0_0) x4_2 a0_0 l0_1 ((rd_T63 l0_1 x4_2).f0) ((rd_T63 l0_1 x4_2).f1)) = some r := by rw [if_pos rfl] at H; exact H
            clear H
            have H := H1
            clear H1
            have H' := Aside0.mk H
            clear H
            have hnb30 := NB125_120.out
            have hnc30 := NB120_125.out
            have hcz31_0 := cz BK125.out 0
            have hcz31_1 := cz BK125.out 1
            have hfz31_0 := fz BK125.out 0
            have hfz31_1 := fz BK125.out 1
            go_wp2_with (first | (go_at_call 43; (with_reducible refine (saronref00_Sits.calls ((rd_T63 l0_1 x4_2).f0) 2 32 true _ A28.out).mono ?_); rintro e w' ⟨rfl, ⟨nd, rfl⟩⟩; (try first | exact ⟨rfl, _, World.drewN_drewN _ _ _⟩ | exact ⟨rfl, _, Eq.trans (World.drewN_drewN _ _ _) (congrArg (World.drewN _) (Nat.add_assoc _ _ _))⟩); have hcz32_0 := cz BK120.out 0; have hcz32_1 := cz BK120.out 1; have hfz32_0 := fz BK120.out 0; have hfz32_1 := fz BK120.out 1))
            repeat (go_quiet (first | (go_at_call 43; (with_reducible refine (saronref00_Sits.calls ((rd_T63 l0_1 x4_2).f0) 2 32 true _ A28.out).mono ?_); rintro e w' ⟨rfl, ⟨nd, rfl⟩⟩; (try first | exact ⟨rfl, _, World.drewN_drewN _ _ _⟩ | exact ⟨rfl, _, Eq.trans (World.drewN_drewN _ _ _) (congrArg (World.drewN _) (Nat.add_assoc _ _ _))⟩); have hcz32_0 := cz BK120.out 0; have hcz32_1 := cz BK120.out 1; have hfz32_0 := fz BK120.out 0; have hfz32_1 := fz BK120.out 1)); try go_wp2_with (first | (go_at_call 43; (with_reducible refine (saronref00_Sits.calls ((rd_T63 l0_1 x4_2).f0) 2 32 true _ A28.out).mono ?_); rintro e w' ⟨rfl, ⟨nd, rfl⟩⟩; (try first | exact ⟨rfl, _, World.drewN_drewN _ _ _⟩ | exact ⟨rfl, _, Eq.trans (World.drewN_drewN _ _ _) (congrArg (World.drewN _) (Nat.add_assoc _ _ _))⟩); have hcz32_0 := cz BK120.out 0; have hcz32_1 := cz BK120.out 1; have hfz32_0 := fz BK120.out 0; have hfz32_1 := fz BK120.out 1)))
            go_meet
            case rel => exact ⟨_, (((((rd_T63 l0_1 x4_2).f1).length : Int) == a0_0)), TT, H', ⟨by have := HJ1.out; have := HK2.out; have := HJ16.out; first | omega | exact Nat.le_refl _⟩, ⟨by (with_reducible repeat (first | refine blk_drewN ?_ _ | refine blk_drew ?_ | refine blk_alloc ?_ _)); refine blk_far ?_ NB120_125.out _; (with_reducible repeat (first | refine blk_drewN ?_ _ | refine blk_drew ?_ | refine blk_alloc ?_ _)); refine blk_far ?_ NB120_125.out _; (with_reducible repeat (first | refine blk_drewN ?_ _ | refine blk_drew ?_ | refine blk_alloc ?_ _)); exact BK120.out⟩, ⟨by (with_reducible repeat (first | refine blk_drewN ?_ _ | refine blk_drew ?_ | refine blk_alloc ?_ _)); refine blk_put (cs := #[.int .i64 ((rd_T63 l0_1 x4_2).f0), .slice none 0 0]) ?_ 1 _ rfl; (with_reducible repeat (first | refine blk_drewN ?_ _ | refine blk_drew ?_ | refine blk_alloc ?_ _)); refine blk_put (cs := #[.int .i64 0, .slice none 0 0]) ?_ 0 _ rfl; (with_reducible repeat (first | refine blk_drewN ?_ _ | refine blk_drew ?_ | refine blk_alloc ?_ _)); exact BK125.out⟩, ⟨TB2 GE120.out GE125.out⟩⟩
           ·replace c29 := Bool.eq_false_iff.mpr c29
            subst c29
            have H1 : (saronlaw05_sound.j3 kj16 false x4_2 a0_0 l0_1 ((rd_T63 l0_1 x4_2).f0) ((rd_T63 l0_1 x4_2).f1)) = some r := by rw [if_neg (show ¬ (false = true) by decide)] at H; exact H
            clear H
            have H := H1
            clear H1
            have H' := Aside0.mk H
            clear H
            have hnb33 := NB125_120.out
            have hnc33 := NB120_125.out
            have hcz34_0 := cz BK125.out 0
            have hcz34_1 := cz BK125.out 1
            have hfz34_0 := fz BK125.out 0
            have hfz34_1 := fz BK125.out 1
            go_wp2_with (first | (go_at_call 43; (with_reducible refine (saronref00_Sits.calls ((rd_T63 l0_1 x4_2).f0) 2 32 false _ A28.out).mono ?_); rintro e w' ⟨rfl, ⟨nd, rfl⟩⟩; (try first | exact ⟨rfl, _, World.drewN_drewN _ _ _⟩ | exact ⟨rfl, _, Eq.trans (World.drewN_drewN _ _ _) (congrArg (World.drewN _) (Nat.add_assoc _ _ _))⟩)))
            repeat (go_quiet (first | (go_at_call 43; (with_reducible refine (saronref00_Sits.calls ((rd_T63 l0_1 x4_2).f0) 2 32 false _ A28.out).mono ?_); rintro e w' ⟨rfl, ⟨nd, rfl⟩⟩; (try first | exact ⟨rfl, _, World.drewN_drewN _ _ _⟩ | exact ⟨rfl, _, Eq.trans (World.drewN_drewN _ _ _) (congrArg (World.drewN _) (Nat.add_assoc _ _ _))⟩))); try go_wp2_with (first | (go_at_call 43; (with_reducible refine (saronref00_Sits.calls ((rd_T63 l0_1 x4_2).f0) 2 32 false _ A28.out).mono ?_); rintro e w' ⟨rfl, ⟨nd, rfl⟩⟩; (try first | exact ⟨rfl, _, World.drewN_drewN _ _ _⟩ | exact ⟨rfl, _, Eq.trans (World.drewN_drewN _ _ _) (congrArg (World.drewN _) (Nat.add_assoc _ _ _))⟩))))
            go_meet
            case rel => exact ⟨_, (false), TT, H', ⟨by have := HJ1.out; have := HK2.out; have := HJ16.out; first | omega | exact Nat.le_refl _⟩, ⟨by (with_reducible repeat (first | refine blk_drewN ?_ _ | refine blk_drew ?_ | refine blk_alloc ?_ _)); refine blk_far ?_ NB120_125.out _; (with_reducible repeat (first | refine blk_drewN ?_ _ | refine blk_drew ?_ | refine blk_alloc ?_ _)); refine blk_far ?_ NB120_125.out _; (with_reducible repeat (first | refine blk_drewN ?_ _ | refine blk_drew ?_ | refine blk_alloc ?_ _)); exact BK120.out⟩, ⟨by (with_reducible repeat (first | refine blk_drewN ?_ _ | refine blk_drew ?_ | refine blk_alloc ?_ _)); refine blk_put (cs := #[.int .i64 ((rd_T63 l0_1 x4_2).f0), .slice none 0 0]) ?_ 1 _ rfl; (with_reducible repeat (first | refine blk_drewN ?_ _ | refine blk_drew ?_ | refine blk_alloc ?_ _)); refine blk_put (cs := #[.int .i64 0, .slice none 0 0]) ?_ 0 _ rfl; (with_reducible repeat (first | refine blk_drewN ?_ _ | refine blk_drew ?_ | refine blk_alloc ?_ _)); exact BK125.out⟩, ⟨TB2 GE120.out GE125.out⟩⟩
          case rest => as_aux_lemma =>
           clear HC23
           try clear c1
           try clear p1
           try clear q1
           try clear hx1
           try clear c2
           try clear p2
           try clear c3
           try clear c5
           try clear c5b0
           try clear c5b1
           try clear c7
           try clear c12
           try clear p12
           try clear q12
           try clear hx12
           try clear c18
           try clear c20
           try clear c21
           try clear c21b0
           try clear c22
           try clear c22b0
           try clear c26
           try clear c29
           try clear c30
           try clear c33
           try clear hcz11_0 hcz11_1
           try clear hcz12_0 hcz12_1
           try clear hcz14_0 hcz14_1
           try clear hcz15_0 hcz15_1
           try clear hcz19_0 hcz19_1
           try clear hcz24_0 hcz24_1
           try clear hcz27_0 hcz27_1
           try clear hcz31_0 hcz31_1
           try clear hcz32_0 hcz32_1
           try clear hcz34_0 hcz34_1
           try clear hcz9_0 hcz9_1
           try clear hfz11_0 hfz11_1
           try clear hfz12_0 hfz12_1
           try clear hfz14_0 hfz14_1
           try clear hfz15_0 hfz15_1
           try clear hfz19_0 hfz19_1
           try clear hfz24_0 hfz24_1
           try clear hfz27_0 hfz27_1
           try clear hfz31_0 hfz31_1
           try clear hfz32_0 hfz32_1
           try clear hfz34_0 hfz34_1
           try clear hfz9_0 hfz9_1
           try clear hx124_0
           try clear hx124_1
           try clear p124
           try clear p2
           try clear q124
           obtain ⟨kq, x3_22, rfl, HA, HJ22, BK120, BK125, HB⟩ := hcut
           cases kq with
           | zero => exact absurd HA.out (by simp [saronlaw05_sound.j3])
           | succ kj22 =>
            have H := HA.out
            clear HA
            simp only [saronlaw05_sound.j3] at H
            have H' := Aside0.mk H
            clear H
            go_wp2
            repeat (go_quiet (fail); try go_wp2)
            go_loopg [3, 6] kj22 (fun kq v3 v6 w' => ∃ (x3_5 : Bool) (x6_5 : Int), v3 = .bool x3_5 ∧ v6 = .int .i64 x6_5 ∧ Aside0 (saronlaw05_sound.l1 kq x3_5 x4_2 x6_5 a0_0 l0_1 ((rd_T63 l0_1 x4_2).f0) ((rd_T63 l0_1 x4_2).f1) = some r) ∧ Aside0 (kq ≤ kj22) ∧ Aside0 (w'.heap[gb120]? = some (.cells #[.int .i64 a0_0, (.slice (some ad124) l0_1.length c0_1)] 24 (0, 0))) ∧ Aside0 (w'.heap[gb125]? = some (.cells #[.int .i64 ((rd_T63 l0_1 x4_2).f0), (.slice A124_1 ((rd_T63 l0_1 x4_2).f1).length c124_1)] 63 (0, 0))) ∧ Aside0 (Below w.heap.size w w'))
            case atStart => exact ⟨(x3_22), (0), TT, TT, H', ⟨Nat.le_refl _⟩, ⟨TK BK120.out⟩, ⟨TK BK125.out⟩, ⟨TB2 GE120.out GE125.out⟩⟩
            case round => as_aux_lemma =>
             clear H'
             try clear c1
             try clear p1
             try clear q1
             try clear hx1
             try clear c2
             try clear p2
             try clear c3
             try clear c5
             try clear c5b0
             try clear c5b1
             try clear c7
             try clear c12
             try clear p12
             try clear q12
             try clear hx12
             try clear c18
             try clear c20
             try clear c21
             try clear c21b0
             try clear c22
             try clear c22b0
             try clear c26
             try clear c29
             try clear c30
             try clear c33
             try clear hcz11_0 hcz11_1
             try clear hcz12_0 hcz12_1
             try clear hcz14_0 hcz14_1
             try clear hcz15_0 hcz15_1
             try clear hcz19_0 hcz19_1
             try clear hcz24_0 hcz24_1
             try clear hcz27_0 hcz27_1
             try clear hcz31_0 hcz31_1
             try clear hcz32_0 hcz32_1
             try clear hcz34_0 hcz34_1
             try clear hcz9_0 hcz9_1
             try clear hfz11_0 hfz11_1
             try clear hfz12_0 hfz12_1
             try clear hfz14_0 hfz14_1
             try clear hfz15_0 hfz15_1
             try clear hfz19_0 hfz19_1
             try clear hfz24_0 hfz24_1
             try clear hfz27_0 hfz27_1
             try clear hfz31_0 hfz31_1
             try clear hfz32_0 hfz32_1
             try clear hfz34_0 hfz34_1
             try clear hfz9_0 hfz9_1
             try clear hx124_0
             try clear hx124_1
             try clear p1
             try clear p12
             try clear p124
             try clear p2
             try clear q1
             try clear q12
             try clear q124
             obtain ⟨x3_5, x6_5, rfl, rfl, HA, HK5, BK120, BK125, HB⟩ := hrel
             cases gk with
             | zero => exact absurd HA.out (by simp [saronlaw05_sound.l1])
             | succ k5 =>
              have H := HA.out
              clear HA
              simp only [saronlaw05_sound.l1] at H
              by_cases c35 : x3_5 = true
              ·subst c35
               have H1 : (if x6_5 < a0_0 then (if 0 ≤ x6_5 then (if x6_5 < (((rd_T63 l0_1 x4_2).f1).length : Int) then ((saronref00_Grows.f k5 (rd_L1 ((rd_T63 l0_1 x4_2).f1) x6_5) ((rd_T63 l0_1 x4_2).f0)).bind fun t128 => (saronlaw05_sound.l1 k5 t128 x4_2 (wrap64 (x6_5 + 1)) a0_0 l0_1 ((rd_T63 l0_1 x4_2).f0) ((rd_T63 l0_1 x4_2).f1))) else (none)) else (none)) else (saronlaw05_sound.l0 k5 true (wrap64 (x4_2 + 1)) a0_0 l0_1)) = some r := by rw [if_pos rfl] at H; exact H
               clear H
               have H := H1
               clear H1
               by_cases c36 : x6_5 < a0_0
               ·rw [if_pos c36] at H
                have c36b0 : decide (x6_5 < a0_0) = true := decide_eq_true c36
                clear c36
                by_cases c37 : 0 ≤ x6_5
                ·rw [if_pos c37] at H
                 have c37b0 : decide (0 ≤ x6_5) = true := decide_eq_true c37
                 clear c37
                 by_cases c38 : x6_5 < (((rd_T63 l0_1 x4_2).f1).length : Int)
                 ·rw [if_pos c38] at H
                  have c38b0 : decide (x6_5 < (((rd_T63 l0_1 x4_2).f1).length : Int)) = true := decide_eq_true c38
                  clear c38
                  replace H := Option.bind_eq_some_iff.mp H
                  obtain ⟨t128, A390, H⟩ := H
                  replace H : (saronlaw05_sound.l1 k5 t128 x4_2 (wrap64 (x6_5 + 1)) a0_0 l0_1 ((rd_T63 l0_1 x4_2).f0) ((rd_T63 l0_1 x4_2).f1)) = some r := H
                  have A39 := Aside0.mk A390
                  clear A390
                  have H' := Aside0.mk H
                  clear H
                  have hnb40 := NB120_125.out
                  have hnc40 := NB125_120.out
                  have hcz41_0 := cz BK120.out 0
                  have hcz41_1 := cz BK120.out 1
                  have hfz41_0 := fz BK120.out 0
                  have hfz41_1 := fz BK120.out 1
                  have hcz42_0 := cz BK125.out 0
                  have hcz42_1 := cz BK125.out 1
                  have hfz42_0 := fz BK125.out 0
                  have hfz42_1 := fz BK125.out 1
                  have p127 : 0 ≤ (x6_5 : Int) := of_decide_eq_true TA
                  have q127 : x6_5 < (((rd_T63 l0_1 x4_2).f1).length : Int) := of_decide_eq_true TA
                  obtain ⟨ad127, A127_0, c127_0, e127, hx127_0, hl127_0, hi127_0⟩ := at_L1 HR124_1.out x6_5 p127 q127
                  cases e127
                  replace hx127_0 := hx HB.out hx127_0
                  have HR127_0 := Aside0.mk hi127_0
                  have HC127_0 := Aside0.mk hl127_0
                  clear hi127_0 hl127_0
                  replace p127 := eq_true p127
                  replace q127 := eq_true q127
                  go_wp2_with (first | (go_at_call 41; (with_reducible refine (saronref00_Grows.calls k5 _ _ (rd_L1 ((rd_T63 l0_1 x4_2).f1) x6_5) ((rd_T63 l0_1 x4_2).f0) t128 _ ?side1 ?side2 A39.out).mono ?_); (case side1 => exact TC HR127_0.out); (case side2 => exact HC127_0.out); rintro e w' ⟨rfl, ⟨nd, rfl⟩⟩; (try first | exact ⟨rfl, _, World.drewN_drewN _ _ _⟩ | exact ⟨rfl, _, Eq.trans (World.drewN_drewN _ _ _) (congrArg (World.drewN _) (Nat.add_assoc _ _ _))⟩)))
                  repeat (go_quiet (first | (go_at_call 41; (with_reducible refine (saronref00_Grows.calls k5 _ _ (rd_L1 ((rd_T63 l0_1 x4_2).f1) x6_5) ((rd_T63 l0_1 x4_2).f0) t128 _ ?side1 ?side2 A39.out).mono ?_); (case side1 => exact TC HR127_0.out); (case side2 => exact HC127_0.out); rintro e w' ⟨rfl, ⟨nd, rfl⟩⟩; (try first | exact ⟨rfl, _, World.drewN_drewN _ _ _⟩ | exact ⟨rfl, _, Eq.trans (World.drewN_drewN _ _ _) (congrArg (World.drewN _) (Nat.add_assoc _ _ _))⟩))); try go_wp2_with (first | (go_at_call 41; (with_reducible refine (saronref00_Grows.calls k5 _ _ (rd_L1 ((rd_T63 l0_1 x4_2).f1) x6_5) ((rd_T63 l0_1 x4_2).f0) t128 _ ?side1 ?side2 A39.out).mono ?_); (case side1 => exact TC HR127_0.out); (case side2 => exact HC127_0.out); rintro e w' ⟨rfl, ⟨nd, rfl⟩⟩; (try first | exact ⟨rfl, _, World.drewN_drewN _ _ _⟩ | exact ⟨rfl, _, Eq.trans (World.drewN_drewN _ _ _) (congrArg (World.drewN _) (Nat.add_assoc _ _ _))⟩))))
                  go_roundg k5
                  case measure => have := HJ1.out; have := HK2.out; have := HJ16.out; have := HJ22.out; have := HK5.out; omega
                  case rel => exact ⟨(t128), (wrap64 (x6_5 + 1)), TT, TT, H', ⟨by have := HJ1.out; have := HK2.out; have := HJ16.out; have := HJ22.out; have := HK5.out; omega⟩, ⟨TK BK120.out⟩, ⟨TK BK125.out⟩, ⟨TB2 GE120.out GE125.out⟩⟩
                 ·rw [if_neg c38] at H
                  exact absurd H (by simp)
                ·rw [if_neg c37] at H
                 exact absurd H (by simp)
               ·rw [if_neg c36] at H
                have c36b0 : decide (x6_5 < a0_0) = false := decide_eq_false c36
                clear c36
                have H' := Aside0.mk H
                clear H
                have hnb43 := NB120_125.out
                have hnc43 := NB125_120.out
                have hcz44_0 := cz BK120.out 0
                have hcz44_1 := cz BK120.out 1
                have hfz44_0 := fz BK120.out 0
                have hfz44_1 := fz BK120.out 1
                go_wp2
                repeat (go_quiet (fail); try go_wp2)
                go_roundg k5
                case measure => have := HJ1.out; have := HK2.out; have := HJ16.out; have := HJ22.out; have := HK5.out; omega
                case rel => exact ⟨(true), (wrap64 (x4_2 + 1)), TT, TT, H', ⟨by have := HJ1.out; have := HK2.out; have := HJ16.out; have := HJ22.out; have := HK5.out; omega⟩, ⟨TK BK120.out⟩, ⟨TB2 GE120.out GE125.out⟩⟩
              ·replace c35 := Bool.eq_false_iff.mpr c35
               subst c35
               have H1 : (saronlaw05_sound.l0 k5 false (wrap64 (x4_2 + 1)) a0_0 l0_1) = some r := by rw [if_neg (show ¬ (false = true) by decide)] at H; exact H
               clear H
               have H := H1
               clear H1
               have H' := Aside0.mk H
               clear H
               go_wp2
               repeat (go_quiet (fail); try go_wp2)
               go_roundg k5
               case measure => have := HJ1.out; have := HK2.out; have := HJ16.out; have := HJ22.out; have := HK5.out; omega
               case rel => exact ⟨(false), (wrap64 (x4_2 + 1)), TT, TT, H', ⟨by have := HJ1.out; have := HK2.out; have := HJ16.out; have := HJ22.out; have := HK5.out; omega⟩, ⟨TK BK120.out⟩, ⟨TB2 GE120.out GE125.out⟩⟩
         ·rw [if_neg c22] at H
          exact absurd H (by simp)
        ·rw [if_neg c21] at H
         exact absurd H (by simp)
       ·replace c20 := Bool.eq_false_iff.mpr c20
        subst c20
        have H1 : (some x3_2) = some r := by rw [if_neg (show ¬ (false = true) by decide)] at H; exact H
        clear H
        have H := H1
        clear H1
        obtain rfl := Option.some.inj H
        go_wp2
        repeat (go_quiet (fail); try go_wp2)
        go_ret
        exact ⟨TR, TB1 GE120.out⟩
/-! ### saronref00_Turn: function 40 -/
def saronref00_Turn.f (a0 : Int) (a1 : Int) : Option (Int) := if a1 < 1 then (some 0) else (if a1 = 0 then (none) else (if (Int.tmod a0 a1) < 0 then (some (wrap64 ((Int.tmod a0 a1) + a1))) else (some (Int.tmod a0 a1))))
set_option maxHeartbeats 8000000 in
set_option maxRecDepth 100000 in
theorem saronref00_Turn.calls (a0 : Int) (a1 : Int) (r : Int) (w : World) (h : saronref00_Turn.f a0 a1 = some r) :
  Calls Tryd.prog 40 #[.int .i64 a0, .int .i64 a1] w fun e w' => e = .returned (.int .i64 r) ∧ Drawn0 w w' := by
 have H : (if a1 < 1 then (some 0) else (if a1 = 0 then (none) else (if (Int.tmod a0 a1) < 0 then (some (wrap64 ((Int.tmod a0 a1) + a1))) else (some (Int.tmod a0 a1))))) = some r := h
 clear h
 by_cases c3 : a1 < 1
 ·rw [if_pos c3] at H
  have c3b0 : decide (a1 < 1) = true := decide_eq_true c3
  clear c3
  obtain rfl := Option.some.inj H
  go_enter Tryd.func40, Tryd.ntmps40
  go_wp2
  go_ret
  exact ⟨by first | rfl | (simp; done) | (simp [*]; done), by repeat (first | exact Drawn0.refl _ | apply Drawn0.step)⟩
 ·rw [if_neg c3] at H
  have c3b0 : decide (a1 < 1) = false := decide_eq_false c3
  clear c3
  by_cases c4 : a1 = 0
  ·rw [if_pos c4] at H
   exact absurd H (by simp)
  ·rw [if_neg c4] at H
   have c4b0 : (a1 == 0) = false := beq_eq_false_iff_ne.mpr c4
   have c4b1 : (a1 != 0) = true := bne_iff_ne.mpr c4
   by_cases c5 : (Int.tmod a0 a1) < 0
   ·rw [if_pos c5] at H
    have c5b0 : decide ((Int.tmod a0 a1) < 0) = true := decide_eq_true c5
    clear c5
    obtain rfl := Option.some.inj H
    go_enter Tryd.func40, Tryd.ntmps40
    go_wp2
    go_ret
    exact ⟨by first | rfl | (simp; done) | (simp [*]; done), by repeat (first | exact Drawn0.refl _ | apply Drawn0.step)⟩
   ·rw [if_neg c5] at H
    have c5b0 : decide ((Int.tmod a0 a1) < 0) = false := decide_eq_false c5
    clear c5
    obtain rfl := Option.some.inj H
    go_enter Tryd.func40, Tryd.ntmps40
    go_wp2
    go_ret
    exact ⟨by first | rfl | (simp; done) | (simp [*]; done), by repeat (first | exact Drawn0.refl _ | apply Drawn0.step)⟩
/-! ### saronlaw05_at: function 46 -/
def saronlaw05_at.f (a0 : Int) (a1 : Int) : Option (Int × Int) := some (a0, a1)
set_option maxHeartbeats 8000000 in
set_option maxRecDepth 100000 in
theorem saronlaw05_at.calls (a0 : Int) (a1 : Int) (r1 : Int) (r2 : Int) (w : World) (h : saronlaw05_at.f a0 a1 = some (r1, r2)) :
  Calls Tryd.prog 46 #[.int .i64 a0, .int .i64 a1] w fun e w' => e = .returned (.agg #[.int .i64 r1, .int .i64 r2]) ∧ Below w.heap.size w w' := by
 have hu38 := Tryd.underlying38
 have HB := Aside0.mk (Below.refl w.heap.size w)
 have H : (some (a0, a1)) = some (r1, r2) := h
 clear h
 simp only [Option.some.injEq, Prod.mk.injEq] at H
 obtain ⟨rfl, rfl⟩ := H
 go_enter Tryd.func46, Tryd.ntmps46
 go_wp2_with (first | ((with_reducible refine gate_dst (N := 4) rfl ?_); refine box_event ?hg (N := 4) ?hd (cs := #[.int .i64 0, .int .i64 0]) (t := 38) ?hr ?_; (case hd => rfl); (case hg => rfl); (case hr => exact TS); intro gb129 hg w3 hbox hb; have BK129 := Aside0.mk (hbox); have GW129 := Aside0.mk ((TG : w.heap.size ≤ gb129)); have GE129 := Aside0.mk ((TG : w.heap.size ≤ gb129)); replace HB := Aside0.mk (below_step TB hb); clear hb hbox hg; have hcz4_0 := cz BK129.out 0; have hcz4_1 := cz BK129.out 1; have hfz4_0 := fz BK129.out 0; have hfz4_1 := fz BK129.out 1))
 refine bodyPost_ret (results_cell_row rfl _ _ gb129 38 #[.int .i64 a0, .int .i64 a1] (0, 0) _ rfl (by (with_reducible repeat (first | refine blk_drewN ?_ _ | refine blk_drew ?_ | refine blk_alloc ?_ _)); refine blk_put (cs := #[.int .i64 a0, .int .i64 0]) ?_ 1 _ rfl; (with_reducible repeat (first | refine blk_drewN ?_ _ | refine blk_drew ?_ | refine blk_alloc ?_ _)); refine blk_put (cs := #[.int .i64 0, .int .i64 0]) ?_ 0 _ rfl; (with_reducible repeat (first | refine blk_drewN ?_ _ | refine blk_drew ?_ | refine blk_alloc ?_ _)); exact BK129.out) Tryd.underlying38 rfl (by kernel_rfl)) rfl ?_
 exact ⟨TR, TB1 GE129.out⟩
end Go.Proofs.YtephecfapclgfaaDoor.PRaspKeys
namespace Go.Proofs.YtephecfapclgfaaDoor.PRaspKeys
open Go.RowKit Go.Proofs.YtephecfapclgfaaDoorW.PrintWords Go.Proofs.YtephecfapclgfaaDoorW.PrintLast Go.Proofs.YtephecfapclgfaaDoorW.PrintMore Go.Proofs.YtephecfapclgfaaDoor.M
attribute [local go_sem] max2_int min2_int max_two min_two max_three min_three max_four min_four   -- for this text's walks alone
attribute [local go_sem high] eqA38
/-! ### saronlaw05_spot: function 44 -/
def saronlaw05_spot.f (a0_0 : Int) (l0_1 : List (S63)) (a1_0 : Int) (a1_1 : Int) : Option (Int × Int) := (saronref00_Turn.f a1_0 (l0_1.length : Int)).bind fun t133 => (if 0 ≤ t133 then (if t133 < (l0_1.length : Int) then ((saronref00_Turn.f a1_1 ((rd_T63 l0_1 t133).f0)).bind fun t135 => ((saronlaw05_at.f t133 t135).bind fun bt136 => (some (bt136.1, bt136.2)))) else (none)) else (none))
def saronlaw05_spot.T2 : Bool × List (List Nat × List Nat) := (true, [([], []), ([], []), ([1], [1]), ([], []), ([3], [3]), ([], []), ([4, 5], [4, 5]), ([6], [6]), ([7], [7]), ([2, 8], [2, 8]), ([0, 9, 9], [0, 9]), ([10, 10, 0, 1, 2, 3, 4, 5, 6, 7, 8, 9, 10], [10])])
def saronlaw05_spot.B2 : List Nat := [0, 0, 2, 0, 8, 0, 56, 120, 248, 510, 1023, 2047]
theorem saronlaw05_spot.tab2 : rtab .any (opsOf Tryd.f44 2) = saronlaw05_spot.T2 := by kernel_rfl
theorem saronlaw05_spot.bits2 : waitsOk saronlaw05_spot.T2.2 saronlaw05_spot.B2 = true := by kernel_rfl
set_option maxHeartbeats 8000000 in
set_option maxRecDepth 100000 in
theorem saronlaw05_spot.calls (a0_0 : Int) (A0_1 : Option Addr) (c0_1 : Nat) (l0_1 : List (S63)) (a1_0 : Int) (a1_1 : Int) (r1 : Int) (r2 : Int) (w : World) (hr0_1 : Kd.C k63 w A0_1 l0_1.length l0_1) (hc0_1 : l0_1.length ≤ c0_1) (h : saronlaw05_spot.f a0_0 l0_1 a1_0 a1_1 = some (r1, r2)) :
  Calls Tryd.prog 44 #[.agg #[.int .i64 a0_0, .slice A0_1 l0_1.length c0_1], .agg #[.int .i64 a1_0, .int .i64 a1_1]] w fun e w' => e = .returned (.agg #[.int .i64 r1, .int .i64 r2]) ∧ Below w.heap.size w w' := by
 have hu24 := Tryd.underlying24
 have hu55 := Tryd.underlying55
 have hu38 := Tryd.underlying38
 have HR0_1 := Aside0.mk hr0_1
 have HC0_1 := Aside0.mk hc0_1
 clear hr0_1 hc0_1
 have HB := Aside0.mk (Below.refl w.heap.size w)
 have H : ((saronref00_Turn.f a1_0 (l0_1.length : Int)).bind fun t133 => (if 0 ≤ t133 then (if t133 < (l0_1.length : Int) then ((saronref00_Turn.f a1_1 ((rd_T63 l0_1 t133).f0)).bind fun t135 => ((saronlaw05_at.f t133 t135).bind fun bt136 => (some (bt136.1, bt136.2)))) else (none)) else (none))) = some (r1, r2) := h
 clear h
 replace H := Option.bind_eq_some_iff.mp H
 obtain ⟨t133, A30, H⟩ := H
 replace H : (if 0 ≤ t133 then (if t133 < (l0_1.length : Int) then ((saronref00_Turn.f a1_1 ((rd_T63 l0_1 t133).f0)).bind fun t135 => ((saronlaw05_at.f t133 t135).bind fun bt136 => (some (bt136.1, bt136.2)))) else (none)) else (none)) = some (r1, r2) := H
 have A3 := Aside0.mk A30
 clear A30
 by_cases c4 : 0 ≤ t133
 ·rw [if_pos c4] at H
  have c4b0 : decide (0 ≤ t133) = true := decide_eq_true c4
  clear c4
  by_cases c5 : t133 < (l0_1.length : Int)
  ·rw [if_pos c5] at H
   have c5b0 : decide (t133 < (l0_1.length : Int)) = true := decide_eq_true c5
   clear c5
   replace H := Option.bind_eq_some_iff.mp H
   obtain ⟨t135, A60, H⟩ := H
   replace H : ((saronlaw05_at.f t133 t135).bind fun bt136 => (some (bt136.1, bt136.2))) = some (r1, r2) := H
   have A6 := Aside0.mk A60
   clear A60
   replace H := Option.bind_eq_some_iff.mp H
   obtain ⟨⟨t136, t137⟩, A70, H⟩ := H
   replace H : (some (t136, t137)) = some (r1, r2) := H
   have A7 := Aside0.mk A70
   clear A70
   simp only [Option.some.injEq, Prod.mk.injEq] at H
   obtain ⟨rfl, rfl⟩ := H
   go_enter Tryd.func44, Tryd.ntmps44
   try go_wp2_with (first | ((with_reducible refine gate_dst (N := 2) rfl ?_); refine box_event ?hg (N := 2) ?hd (cs := #[.int .i64 a0_0, .slice A0_1 l0_1.length c0_1]) (t := 24) ?hr ?_; (case hd => rfl); (case hg => rfl); (case hr => exact TS); intro gb130 hg w8 hbox hb; have BK130 := Aside0.mk (hbox); have GW130 := Aside0.mk ((TG : w.heap.size ≤ gb130)); have GE130 := Aside0.mk ((TG : w.heap.size ≤ gb130)); replace HB := Aside0.mk (below_step TB hb); clear hb hbox hg) | ((with_reducible refine gate_dst (N := 3) rfl ?_); refine box_event ?hg (N := 3) ?hd (cs := #[.int .i64 a1_0, .int .i64 a1_1]) (t := 55) ?hr ?_; (case hd => rfl); (case hg => rfl); (case hr => exact TS); intro gb131 hg w9 hbox hb; have BK131 := Aside0.mk (hbox); have GW131 := Aside0.mk ((TG1 GE130.out : w.heap.size ≤ gb131)); have GE131 := Aside0.mk ((TG1 GE130.out : w.heap.size ≤ gb131)); have NB130_131 := Aside0.mk ((by rw [hg]; exact Nat.ne_of_lt (blk_lt (g := gb130) (o := .cells #[.int .i64 a0_0, .slice A0_1 l0_1.length c0_1] 24 (0, 0)) (TK BK130.out)) : gb130 ≠ gb131)); have NB131_130 := Aside0.mk ((by rw [hg]; exact Nat.ne_of_gt (blk_lt (g := gb130) (o := .cells #[.int .i64 a0_0, .slice A0_1 l0_1.length c0_1] 24 (0, 0)) (TK BK130.out)) : gb131 ≠ gb130)); replace BK130 := Aside0.mk (TKb hb BK130.out); replace HB := Aside0.mk (below_step (TB1 GE130.out) hb); clear hb hbox hg) | ((with_reducible refine gate_dst (N := 4) rfl ?_); refine box_event ?hg (N := 4) ?hd (cs := #[.int .i64 0, .int .i64 0]) (t := 38) ?hr ?_; (case hd => rfl); (case hg => rfl); (case hr => exact TS); intro gb132 hg w10 hbox hb; have BK132 := Aside0.mk (hbox); have GW132 := Aside0.mk ((TG2 GE130.out GE131.out : w.heap.size ≤ gb132)); have GE132 := Aside0.mk ((TG2 GE130.out GE131.out : w.heap.size ≤ gb132)); have NB130_132 := Aside0.mk ((by rw [hg]; exact Nat.ne_of_lt (blk_lt (g := gb130) (o := .cells #[.int .i64 a0_0, .slice A0_1 l0_1.length c0_1] 24 (0, 0)) (TK BK130.out)) : gb130 ≠ gb132)); have NB132_130 := Aside0.mk ((by rw [hg]; exact Nat.ne_of_gt (blk_lt (g := gb130) (o := .cells #[.int .i64 a0_0, .slice A0_1 l0_1.length c0_1] 24 (0, 0)) (TK BK130.out)) : gb132 ≠ gb130)); have NB131_132 := Aside0.mk ((by rw [hg]; exact Nat.ne_of_lt (blk_lt (g := gb131) (o := .cells #[.int .i64 a1_0, .int .i64 a1_1] 55 (0, 0)) (TK BK131.out)) : gb131 ≠ gb132)); have NB132_131 := Aside0.mk ((by rw [hg]; exact Nat.ne_of_gt (blk_lt (g := gb131) (o := .cells #[.int .i64 a1_0, .int .i64 a1_1] 55 (0, 0)) (TK BK131.out)) : gb132 ≠ gb131)); replace BK130 := Aside0.mk (TKb hb BK130.out); replace BK131 := Aside0.mk (TKb hb BK131.out); replace HB := Aside0.mk (below_step (TB2 GE130.out GE131.out) hb); clear hb hbox hg; have hnb11 := NB131_130.out; have hnc11 := NB130_131.out; have hnb12 := NB131_132.out; have hnc12 := NB132_131.out; have hcz13_0 := cz BK131.out 0; have hcz13_1 := cz BK131.out 1; have hfz13_0 := fz BK131.out 0; have hfz13_1 := fz BK131.out 1; have hnb14 := NB130_132.out; have hnc14 := NB132_130.out; have hcz15_0 := cz BK130.out 0; have hcz15_1 := cz BK130.out 1; have hfz15_0 := fz BK130.out 0; have hfz15_1 := fz BK130.out 1) | ((with_reducible refine gate_callee (f := 40) rfl ?_); refine goesL_ (some 11) rfl rfl Tryd.func40 (by kernel_rfl) rfl #[.int .i64 a1_0, .int .i64 (l0_1.length : Int)] rfl TM ?_; (with_reducible refine (saronref00_Turn.calls a1_0 (l0_1.length : Int) t133 _ A3.out).mono ?_); rintro e w' ⟨rfl, ⟨nd, rfl⟩⟩; refine ⟨_, rfl, ?_⟩; (try (rw [drewN_self w10]; generalize hq_ : World.drewN w10 _ = w10; have n0_ : Aside0 (w10.heap[gb130]? = some (.cells #[.int .i64 a0_0, .slice A0_1 l0_1.length c0_1] 24 (0, 0))) := ⟨by rw [← hq_]; exact (TK BK130.out)⟩; have n1_ : Aside0 (w10.heap[gb131]? = some (.cells #[.int .i64 a1_0, .int .i64 a1_1] 55 (0, 0))) := ⟨by rw [← hq_]; exact (TK BK131.out)⟩; have n2_ : Aside0 (w10.heap[gb132]? = some (.cells #[.int .i64 0, .int .i64 0] 38 (0, 0))) := ⟨by rw [← hq_]; exact (TK BK132.out)⟩; have n3_ : Aside0 (Below w.heap.size w w10) := ⟨by rw [← hq_]; exact (TB3 GE130.out GE131.out GE132.out)⟩; clear BK130 BK131 BK132 HB hq_; have BK130 := n0_; have BK131 := n1_; have BK132 := n2_; have HB := n3_; clear n0_ n1_ n2_ n3_))))
   have n0_ := Aside0.mk (blk_drew BK130.out)
   have n1_ := Aside0.mk (blk_drew BK131.out)
   have n2_ := Aside0.mk (blk_drew BK132.out)
   have n3_ := Aside0.mk (below_drew1 HB.out)
   clear BK130
   clear BK131
   clear BK132
   clear HB
   have BK130 := n0_
   have BK131 := n1_
   have BK132 := n2_
   have HB := n3_
   clear n0_ n1_ n2_ n3_
   have p134 : 0 ≤ (t133 : Int) := of_decide_eq_true TA
   have q134 : t133 < (l0_1.length : Int) := of_decide_eq_true TA
   obtain ⟨ad134, A134_1, c134_1, e134, hx134_0, hx134_1, hl134_1, hi134_1⟩ := at_T63 HR0_1.out t133 p134 q134
   have hw134_1 := hx134_1
   have hw134_0 := hx134_0
   cases e134
   replace hx134_0 := hx HB.out hx134_0
   replace hx134_1 := hx HB.out hx134_1
   have HR134_1 := Aside0.mk hi134_1
   have HC134_1 := Aside0.mk hl134_1
   clear hi134_1 hl134_1
   replace p134 := eq_true p134
   replace q134 := eq_true q134
   refine start_ (n := 12) (S := fun w' => w'.cell? ⟨gb131, 0, none⟩ = some (.int .i64 a1_0) ∧ w'.cell? ⟨gb131, 1, none⟩ = some (.int .i64 a1_1) ∧ w'.cell? ⟨gb130, 0, none⟩ = some (.int .i64 a0_0) ∧ w'.cell? ⟨gb130, 1, none⟩ = some (.slice (some ad134) l0_1.length c0_1) ∧ w'.cell? (ad134.add ((t133).toNat * 2)) = some (.int .i64 ((rd_T63 l0_1 t133).f0)) ∧ w'.cell? ⟨(ad134.add ((t133).toNat * 2)).block, (ad134.add ((t133).toNat * 2)).off + 1, none⟩ = some (.slice A134_1 ((rd_T63 l0_1 t133).f1).length c134_1)) (ds := []) (.replicate 12 false) (by kernel_rfl) rfl rfl ⟨cz BK131.out 0, cz BK131.out 1, cz BK130.out 0, cz BK130.out 1, (hx HB.out hw134_0), (hx HB.out hw134_1)⟩ (fun hHeld => ?_); refine with_tabW saronlaw05_spot.tab2 saronlaw05_spot.bits2 (fun HT_ HW_ => ?_)
   generalize w10.drew = w16 at BK130 BK131 BK132 HB HR134_1 hx134_0 hx134_1 hHeld ⊢
   refine pT 0 12 (bt 12 1) (k := ?_)
   refine pT 1 13 (bt 12 3) (k := ?_)
   refine pT 3 15 (bt 12 11) (k := ?_)
   refine pT 5 17 (bt 12 43) (k := ?_)
   refine tT6 2 14 (bt 12 47) hHeld (k := ?_)
   refine tT6 4 16 (bt 12 63) hHeld (k := ?_)
   refine pT 6 18 (bt 12 127) (k := ?_)
   refine pT 7 19 (bt 12 255) (k := ?_)
   refine tT6 8 20 (bt 12 511) hHeld (k := ?_)
   refine one_ (i := 9) (N := some 21) (bt 12 1023) rfl rfl (one_of HT_.out (by kernel_rfl)) (by decide) (fun K hK => ?_)
   refine goes_ Tryd.func40 (by kernel_rfl) rfl #[.int .i64 a1_1, .int .i64 ((rd_T63 l0_1 t133).f0)] (by rfl) rfl rfl TM ?_
   with_reducible refine (saronref00_Turn.calls a1_1 ((rd_T63 l0_1 t133).f0) t135 _ A6.out).mono ?_
   rintro e w' ⟨rfl, ⟨nd, rfl⟩⟩
   refine ⟨_, rfl, ?_⟩
   refine hK.out _ _ ⟨cz BK131.out 0, cz BK131.out 1, cz BK130.out 0, cz BK130.out 1, (hx (pw_below_drewN HB.out _) hw134_0), (hx (pw_below_drewN HB.out _) hw134_1)⟩ (fun hHeld => ?_)
   clear hK K
   refine norm_ (a' := ?_) ?_ ?_
   rotate_left
   ·show Act.put _ (some 21) _ = _
    simp only [Act.put, lA, lZ, lS, i64_w, i32_w]
    rfl
   refine one_ (i := 10) (N := some 22) (bt 12 2047) rfl rfl (one_of HT_.out (by kernel_rfl)) (by decide) (fun K hK => ?_)
   refine goes_ Tryd.func46 (by kernel_rfl) rfl #[.int .i64 t133, .int .i64 t135] (by rfl) rfl rfl TM ?_
   with_reducible refine (saronlaw05_at.calls t133 t135 t136 t137 _ A7.out).mono ?_
   rintro e w17 ⟨rfl, hb⟩
   refine ⟨_, rfl, ?_⟩
   have n0_ := Aside0.mk (TKb hb BK130.out)
   have n1_ := Aside0.mk (TKb hb BK131.out)
   have n2_ := Aside0.mk (TKb hb BK132.out)
   have n3_ := Aside0.mk (below_step (TB3 GE130.out GE131.out GE132.out) hb)
   clear BK130
   clear BK131
   clear BK132
   clear HB
   have BK130 := n0_
   have BK131 := n1_
   have BK132 := n2_
   have HB := n3_
   clear n0_ n1_ n2_ n3_
   (try clear hb)
   (try clear hb2)
   (try clear hk)
   (try clear hi)
   refine hK.out _ _ ⟨cz BK131.out 0, cz BK131.out 1, cz BK130.out 0, cz BK130.out 1, (hx HB.out hw134_0), (hx HB.out hw134_1)⟩ (fun hHeld => ?_)
   clear hK K
   refine norm_ (a' := ?_) ?_ ?_
   rotate_left
   ·show Act.put _ (some 22) _ = _
    simp only [Act.put, lA, lZ, lS, i64_w, i32_w]
    rfl
   refine one_ (i := 11) (N := none) (bt 12 4095) rfl rfl (one_of HT_.out (by kernel_rfl)) (by decide) (fun K hK => ?_)
   have hs18 : w17.cell? ⟨gb132, 0, none⟩ = some (.int .i64 0) := cz BK132.out 0
   have hfs18 := fz BK132.out 0
   have hns18_0 := NB130_132.out
   have hns18_1 := NB131_132.out
   have hms18_0 := NB132_130.out
   have hms18_1 := NB132_131.out
   have hs19 : w17.cell? ⟨gb132, 1, none⟩ = some (.int .i64 0) := cz BK132.out 1
   have hfs19 := fz BK132.out 1
   have hns19_0 := NB130_132.out
   have hns19_1 := NB131_132.out
   have hms19_0 := NB132_130.out
   have hms19_1 := NB132_131.out
   refine skip_ (w1 := ?_) (by rfl) rfl ?_ ?_
   rotate_left
   ·go_simp
    rfl
   refine hK.out _ _ ⟨((cell_far (p := ⟨gb132, _, none⟩) NB131_132.out _).trans (((cell_far (p := ⟨gb132, _, none⟩) NB131_132.out _).trans (hHeld.1)))), ((cell_far (p := ⟨gb132, _, none⟩) NB131_132.out _).trans (((cell_far (p := ⟨gb132, _, none⟩) NB131_132.out _).trans (hHeld.2.1)))), ((cell_far (p := ⟨gb132, _, none⟩) NB130_132.out _).trans (((cell_far (p := ⟨gb132, _, none⟩) NB130_132.out _).trans (hHeld.2.2.1)))), ((cell_far (p := ⟨gb132, _, none⟩) NB130_132.out _).trans (((cell_far (p := ⟨gb132, _, none⟩) NB130_132.out _).trans (hHeld.2.2.2.1)))), ((cell_far (p := ⟨gb132, _, none⟩) (by first | exact Nat.ne_of_lt (Nat.lt_of_lt_of_le (TL hw134_0) GW132.out) | (rw [add_block]; exact Nat.ne_of_lt (Nat.lt_of_lt_of_le (TL hw134_0) GW132.out)) | (show (Addr.add _ _).block ≠ _; rw [add_block]; exact Nat.ne_of_lt (Nat.lt_of_lt_of_le (TL hw134_0) GW132.out)) | (dsimp only; exact Nat.ne_of_lt (Nat.lt_of_lt_of_le (TL hw134_0) GW132.out))) _).trans (((cell_far (p := ⟨gb132, _, none⟩) (by first | exact Nat.ne_of_lt (Nat.lt_of_lt_of_le (TL hw134_0) GW132.out) | (rw [add_block]; exact Nat.ne_of_lt (Nat.lt_of_lt_of_le (TL hw134_0) GW132.out)) | (show (Addr.add _ _).block ≠ _; rw [add_block]; exact Nat.ne_of_lt (Nat.lt_of_lt_of_le (TL hw134_0) GW132.out)) | (dsimp only; exact Nat.ne_of_lt (Nat.lt_of_lt_of_le (TL hw134_0) GW132.out))) _).trans (hHeld.2.2.2.2.1)))), ((cell_far (p := ⟨gb132, _, none⟩) (by first | exact Nat.ne_of_lt (Nat.lt_of_lt_of_le (TL hw134_1) GW132.out) | (rw [add_block]; exact Nat.ne_of_lt (Nat.lt_of_lt_of_le (TL hw134_1) GW132.out)) | (show (Addr.add _ _).block ≠ _; rw [add_block]; exact Nat.ne_of_lt (Nat.lt_of_lt_of_le (TL hw134_1) GW132.out)) | (dsimp only; exact Nat.ne_of_lt (Nat.lt_of_lt_of_le (TL hw134_1) GW132.out))) _).trans (((cell_far (p := ⟨gb132, _, none⟩) (by first | exact Nat.ne_of_lt (Nat.lt_of_lt_of_le (TL hw134_1) GW132.out) | (rw [add_block]; exact Nat.ne_of_lt (Nat.lt_of_lt_of_le (TL hw134_1) GW132.out)) | (show (Addr.add _ _).block ≠ _; rw [add_block]; exact Nat.ne_of_lt (Nat.lt_of_lt_of_le (TL hw134_1) GW132.out)) | (dsimp only; exact Nat.ne_of_lt (Nat.lt_of_lt_of_le (TL hw134_1) GW132.out))) _).trans (hHeld.2.2.2.2.2))))⟩ (fun hHeld => ?_)
   clear hK K
   refine done_ (done_of HT_.out (by kernel_rfl)) ?_
   try go_wp2
   refine bodyPost_ret (results_cell_row rfl _ _ gb132 38 #[.int .i64 t136, .int .i64 t137] (0, 0) _ rfl (by (with_reducible repeat (first | refine blk_drewN ?_ _ | refine blk_drew ?_ | refine blk_alloc ?_ _)); refine blk_put (cs := #[.int .i64 t136, .int .i64 0]) ?_ 1 _ rfl; (with_reducible repeat (first | refine blk_drewN ?_ _ | refine blk_drew ?_ | refine blk_alloc ?_ _)); refine blk_put (cs := #[.int .i64 0, .int .i64 0]) ?_ 0 _ rfl; (with_reducible repeat (first | refine blk_drewN ?_ _ | refine blk_drew ?_ | refine blk_alloc ?_ _)); exact BK132.out) Tryd.underlying38 rfl (by kernel_rfl)) rfl ?_
   exact ⟨TR, TB3 GE130.out GE131.out GE132.out⟩
  ·rw [if_neg c5] at H
   exact absurd H (by simp)
 ·rw [if_neg c4] at H
  exact absurd H (by simp)
/-! ### saronref00_Nth: function 90 -/
def saronref00_Nth.f (l0 : List Int) (a1 : Int) : Option (Int) := if (l0.length : Int) = 0 then (some 0) else ((saronref00_Turn.f a1 (l0.length : Int)).bind fun t138 => (if 0 ≤ t138 then (if t138 < (l0.length : Int) then (some (rd l0 t138)) else (none)) else (none)))
set_option maxHeartbeats 8000000 in
set_option maxRecDepth 100000 in
theorem saronref00_Nth.calls (A0 : Option Addr) (c0 : Nat) (l0 : List Int) (a1 : Int) (r : Int) (w : World) (hr0 : Kd.C (Kd.int .i64) w A0 l0.length l0) (hc0 : l0.length ≤ c0) (h : saronref00_Nth.f l0 a1 = some r) :
  Calls Tryd.prog 90 #[.slice A0 l0.length c0, .int .i64 a1] w fun e w' => e = .returned (.int .i64 r) ∧ Drawn0 w w' := by
 have HR0 := Aside0.mk hr0
 have HC0 := Aside0.mk hc0
 clear hr0 hc0
 have H : (if (l0.length : Int) = 0 then (some 0) else ((saronref00_Turn.f a1 (l0.length : Int)).bind fun t138 => (if 0 ≤ t138 then (if t138 < (l0.length : Int) then (some (rd l0 t138)) else (none)) else (none)))) = some r := h
 clear h
 by_cases c3 : (l0.length : Int) = 0
 ·rw [if_pos c3] at H
  have c3b0 : ((l0.length : Int) == 0) = true := beq_iff_eq.mpr c3
  have c3b1 : ((l0.length : Int) != 0) = false := bne_eq_false_iff_eq.mpr c3
  clear c3
  obtain rfl := Option.some.inj H
  go_enter Tryd.func90, Tryd.ntmps90
  go_wp2
  go_ret
  exact ⟨by first | rfl | (simp; done) | (simp [*]; done), by repeat (first | exact Drawn0.refl _ | apply Drawn0.step)⟩
 ·rw [if_neg c3] at H
  have c3b0 : ((l0.length : Int) == 0) = false := beq_eq_false_iff_ne.mpr c3
  have c3b1 : ((l0.length : Int) != 0) = true := bne_iff_ne.mpr c3
  have c3b2 : ¬ (l0 = []) := fun h_ => c3 (by rw [h_]; rfl)
  replace H := Option.bind_eq_some_iff.mp H
  obtain ⟨t138, A40, H⟩ := H
  replace H : (if 0 ≤ t138 then (if t138 < (l0.length : Int) then (some (rd l0 t138)) else (none)) else (none)) = some r := H
  have A4 := Aside0.mk A40
  clear A40
  by_cases c5 : 0 ≤ t138
  ·rw [if_pos c5] at H
   have c5b0 : decide (0 ≤ t138) = true := decide_eq_true c5
   clear c5
   by_cases c6 : t138 < (l0.length : Int)
   ·rw [if_pos c6] at H
    have c6b0 : decide (t138 < (l0.length : Int)) = true := decide_eq_true c6
    clear c6
    obtain rfl := Option.some.inj H
    go_enter Tryd.func90, Tryd.ntmps90
    go_wp2_with (first | ((with_reducible refine gate_callee (f := 40) rfl ?_); refine goesL_ (some 12) rfl rfl Tryd.func40 (by kernel_rfl) rfl #[.int .i64 a1, .int .i64 (l0.length : Int)] rfl TM ?_; (with_reducible refine (saronref00_Turn.calls a1 (l0.length : Int) t138 _ A4.out).mono ?_); rintro e w' ⟨rfl, ⟨nd, rfl⟩⟩; refine ⟨_, rfl, ?_⟩; have p139 : 0 ≤ (t138 : Int) := of_decide_eq_true TA; have q139 : t138 < (l0.length : Int) := of_decide_eq_true TA; obtain ⟨ad139, e139, hx139_0⟩ := Kd.at_int HR0.out t138 p139 q139; cases e139; replace p139 := eq_true p139; replace q139 := eq_true q139))
    go_ret
    exact ⟨by first | rfl | (simp; done) | (simp [*]; done), by repeat (first | exact Drawn0.refl _ | apply Drawn0.step)⟩
   ·rw [if_neg c6] at H
    exact absurd H (by simp)
  ·rw [if_neg c5] at H
   exact absurd H (by simp)
/-! ### saronlaw05_missed: function 45 -/
mutual
def saronlaw05_missed.l0 : Nat → List (List Int) → Int → List Int → List (List Int) → List (S97) → Int → Int → Option ((List (List Int)) × (List (S97)))
 | 0, _, _, _, _, _, _, _ => none
 | k + 1, x0, x1, x2, x8, x9, x10, x11 => if x11 < (x0.length : Int) then (saronlaw05_missed.l1 k x0 x1 x2 x8 x9 x10 x11 ([] : List Int) 0) else (some (x8, x9))
def saronlaw05_missed.l1 : Nat → List (List Int) → Int → List Int → List (List Int) → List (S97) → Int → Int → List Int → Int → Option ((List (List Int)) × (List (S97)))
 | 0, _, _, _, _, _, _, _, _, _ => none
 | k + 1, x0, x1, x2, x8, x9, x10, x11, x12, x13 => if 0 ≤ x11 then (if x11 < (x0.length : Int) then (if x13 < ((rd_L1 x0 x11).length : Int) then (if (x9.length : Int) < x1 then ((saronref00_Nth.f x2 (wrap64 (x10 + 1))).bind fun t144 => ((saronref00_Turn.f t144 3).bind fun t145 => (if t145 = 0 then (if 0 ≤ x13 then (if x9.length < 8796093022208 then (saronlaw05_missed.l1 k x0 x1 x2 x8 (x9 ++ [(⟨x11, rd (rd_L1 x0 x11) x13⟩ : S97)]) (wrap64 (x10 + 1)) x11 x12 (wrap64 (x13 + 1))) else (none)) else (none)) else (if 0 ≤ x13 then (if x12.length < 17592186044416 then (saronlaw05_missed.l1 k x0 x1 x2 x8 x9 (wrap64 (x10 + 1)) x11 (x12 ++ [rd (rd_L1 x0 x11) x13]) (wrap64 (x13 + 1))) else (none)) else (none))))) else (if 0 ≤ x13 then (if x12.length < 17592186044416 then (saronlaw05_missed.l1 k x0 x1 x2 x8 x9 (wrap64 (x10 + 1)) x11 (x12 ++ [rd (rd_L1 x0 x11) x13]) (wrap64 (x13 + 1))) else (none)) else (none))) else (if x8.length < 5864062014805 then (saronlaw05_missed.l0 k x0 x1 x2 (x8 ++ [x12]) x9 x10 (wrap64 (x11 + 1))) else (none))) else (none)) else (none)
end
def saronlaw05_missed.f (k : Nat) (l0 : List (List Int)) (a1 : Int) (l2 : List Int) : Option ((List (List Int)) × (List (S97))) := saronlaw05_missed.l0 k l0 a1 l2 ([] : List (List Int)) ([] : List (S97)) 0 0
theorem saronlaw05_missed.mono_l : ∀ k, (∀ y0 y1 y2 y3 y4 y5 y6, LeO (saronlaw05_missed.l0 k y0 y1 y2 y3 y4 y5 y6) (saronlaw05_missed.l0 (k + 1) y0 y1 y2 y3 y4 y5 y6)) ∧ (∀ y0 y1 y2 y3 y4 y5 y6 y7 y8, LeO (saronlaw05_missed.l1 k y0 y1 y2 y3 y4 y5 y6 y7 y8) (saronlaw05_missed.l1 (k + 1) y0 y1 y2 y3 y4 y5 y6 y7 y8))
 | 0 => ⟨fun _ _ _ _ _ _ _ r h => by simp [saronlaw05_missed.l0] at h, fun _ _ _ _ _ _ _ _ _ r h => by simp [saronlaw05_missed.l1] at h⟩
 | k + 1 => by
  obtain ⟨ih0, ih1⟩ := saronlaw05_missed.mono_l k
  refine ⟨?_, ?_⟩
  ·intro y0 y1 y2 y3 y4 y5 y6
   unfold saronlaw05_missed.l0
   repeat' first
   | (with_reducible exact ih0 _ _ _ _ _ _ _)
   | (with_reducible exact ih1 _ _ _ _ _ _ _ _ _)
   | (with_reducible exact LeO.refl _)
   | (with_reducible exact LeO.none _)
   | (with_reducible refine LeO.ite ?_ ?_)
   | (with_reducible refine LeO.bind ?_ (fun _ => ?_))
   | exact ih0 _ _ _ _ _ _ _
   | exact ih1 _ _ _ _ _ _ _ _ _
   | exact LeO.none _
   | refine LeO.ite ?_ ?_
   | refine LeO.bind ?_ (fun _ => ?_)
  ·intro y0 y1 y2 y3 y4 y5 y6 y7 y8
   unfold saronlaw05_missed.l1
   repeat' first
   | (with_reducible exact ih0 _ _ _ _ _ _ _)
   | (with_reducible exact ih1 _ _ _ _ _ _ _ _ _)
   | (with_reducible exact LeO.refl _)
   | (with_reducible exact LeO.none _)
   | (with_reducible refine LeO.ite ?_ ?_)
   | (with_reducible refine LeO.bind ?_ (fun _ => ?_))
   | exact ih0 _ _ _ _ _ _ _
   | exact ih1 _ _ _ _ _ _ _ _ _
   | exact LeO.none _
   | refine LeO.ite ?_ ?_
   | refine LeO.bind ?_ (fun _ => ?_)
theorem saronlaw05_missed.mono : ∀ a0 a1 a2 k, LeO (saronlaw05_missed.f k a0 a1 a2) (saronlaw05_missed.f (k + 1) a0 a1 a2) := by
 intro a0 a1 a2 k
 obtain ⟨ih0, ih1⟩ := saronlaw05_missed.mono_l k
 unfold saronlaw05_missed.f
 repeat' first
   | (with_reducible exact ih0 _ _ _ _ _ _ _)
   | (with_reducible exact ih1 _ _ _ _ _ _ _ _ _)
   | (with_reducible exact LeO.refl _)
   | (with_reducible exact LeO.none _)
   | (with_reducible refine LeO.ite ?_ ?_)
   | (with_reducible refine LeO.bind ?_ (fun _ => ?_))
   | exact ih0 _ _ _ _ _ _ _
   | exact ih1 _ _ _ _ _ _ _ _ _
   | exact LeO.none _
   | refine LeO.ite ?_ ?_
   | refine LeO.bind ?_ (fun _ => ?_)
set_option maxHeartbeats 8000000 in
set_option maxRecDepth 100000 in
theorem saronlaw05_missed.calls (k : Nat) (A0 : Option Addr) (c0 : Nat) (l0 : List (List Int)) (a1 : Int) (A2 : Option Addr) (c2 : Nat) (l2 : List Int) (r1 : List (List Int)) (r2 : List (S97)) (w : World) (hr0 : Kd.C (Kd.slice 3 (Kd.int .i64)) w A0 l0.length l0) (hc0 : l0.length ≤ c0) (hr2 : Kd.C (Kd.int .i64) w A2 l2.length l2) (hc2 : l2.length ≤ c2) (h : saronlaw05_missed.f k l0 a1 l2 = some (r1, r2)) :
  Calls Tryd.prog 45 #[.slice A0 l0.length c0, .int .i64 a1, .slice A2 l2.length c2] w fun e w' => ∃ v0_ v1_ : Value, e = .returned (.tuple #[v0_, v1_]) ∧ Kd.S (Kd.slice 3 (Kd.int .i64)) 26 w' w.heap.size (fun _ => True) v0_ r1 ∧ Kd.R k97 97 w' w.heap.size (fun _ => True) v1_ r2 ∧ Below w.heap.size w w' := by
 have hu97 := Tryd.underlying97
 have HR0 := Aside0.mk hr0
 have HC0 := Aside0.mk hc0
 clear hr0 hc0
 have HR2 := Aside0.mk hr2
 have HC2 := Aside0.mk hc2
 clear hr2 hc2
 have HB := Aside0.mk (Below.refl w.heap.size w)
 have H : (saronlaw05_missed.l0 k l0 a1 l2 ([] : List (List Int)) ([] : List (S97)) 0 0) = some (r1, r2) := h
 clear h
 have H' := Aside0.mk H
 clear H
 go_enter Tryd.func45, Tryd.ntmps45
 go_wp2
 go_loopg [8, 9, 10, 11] k (fun kq v8 v9 v10 v11 w' => ∃ (x8_1 : List (List Int)) (x9_1 : List (S97)) (x10_1 : Int) (x11_1 : Int), v10 = .int .i64 x10_1 ∧ v11 = .int .i64 x11_1 ∧ Aside0 (saronlaw05_missed.l0 kq l0 a1 l2 x8_1 x9_1 x10_1 x11_1 = some (r1, r2)) ∧ Aside0 (kq ≤ k) ∧ Aside0 (Kd.S (Kd.slice 3 (Kd.int .i64)) 26 w' w.heap.size (fun _ => True) v8 x8_1) ∧ Aside0 (Kd.R k97 97 w' w.heap.size (fun _ => True) v9 x9_1) ∧ Aside0 (Below w.heap.size w w'))
 case atStart => exact ⟨(([] : List (List Int))), (([] : List (S97))), (0), (0), TT, TT, H', ⟨Nat.le_refl _⟩, ⟨by first | exact Kd.S_nil _ _ _ _ _ | exact Kd.N_nil _ _ _ _ _ | exact Kd.V_nil _ _ _ _ _ | exact Kd.Q_nil _ _ _ _ _ | exact Kd.R_nil _ _ _ _ _⟩, ⟨by first | exact Kd.R_nil _ _ _ _ _ | exact Kd.N_nil _ _ _ _ _ | exact Kd.V_nil _ _ _ _ _ | exact Kd.Q_nil _ _ _ _ _ | exact Kd.S_nil _ _ _ _ _⟩, ⟨TB⟩⟩
 case round => as_aux_lemma =>
  clear H'
  try clear c2
  try clear p2
  obtain ⟨x8_1, x9_1, x10_1, x11_1, rfl, rfl, HA, HK1, HO_8, HO_9, HB⟩ := hrel
  cases gk with
  | zero => exact absurd HA.out (by simp [saronlaw05_missed.l0])
  | succ k1 =>
   have H := HA.out
   clear HA
   simp only [saronlaw05_missed.l0] at H
   by_cases c4 : x11_1 < (l0.length : Int)
   ·rw [if_pos c4] at H
    have c4b0 : decide (x11_1 < (l0.length : Int)) = true := decide_eq_true c4
    clear c4
    have H' := Aside0.mk H
    clear H
    go_wp2
    go_loopg [9, 10, 12, 13] k1 (fun kq v9 v10 v12 v13 w' => ∃ (x9_2 : List (S97)) (x10_2 : Int) (x12_2 : List Int) (x13_2 : Int), v10 = .int .i64 x10_2 ∧ v13 = .int .i64 x13_2 ∧ Aside0 (saronlaw05_missed.l1 kq l0 a1 l2 x8_1 x9_2 x10_2 x11_1 x12_2 x13_2 = some (r1, r2)) ∧ Aside0 (kq ≤ k1) ∧ Aside0 (Kd.S (Kd.slice 3 (Kd.int .i64)) 26 w' w.heap.size (fun k_ => some k_ ≠ (v12 : Value).ownBlock) u8 x8_1) ∧ Aside0 (Kd.R k97 97 w' w.heap.size (fun _ => True) v9 x9_2) ∧ Aside0 (Kd.R (Kd.int .i64) 3 w' w.heap.size (fun _ => True) v12 x12_2) ∧ Aside0 (Below w.heap.size w w'))
    case atStart => exact ⟨(x9_1), (x10_1), (([] : List Int)), (0), TT, TT, H', ⟨Nat.le_refl _⟩, ⟨by (with_reducible repeat (first | apply Kd.S_alloc | apply Kd.S_drewN | apply Kd.S_drew)); exact Kd.S_mono HO_8.out (fun _ hk => (by simp [Value.ownBlock]))⟩, ⟨by (with_reducible repeat (first | apply Kd.R_alloc | apply Kd.R_drewN | apply Kd.R_drew)); exact HO_9.out⟩, ⟨by first | exact Kd.R_nil _ _ _ _ _ | exact Kd.N_nil _ _ _ _ _ | exact Kd.V_nil _ _ _ _ _ | exact Kd.Q_nil _ _ _ _ _ | exact Kd.S_nil _ _ _ _ _⟩, ⟨TB⟩⟩
    case round => as_aux_lemma =>
     clear H'
     try clear c2
     try clear p2
     try clear c4
     try clear c4b0
     try clear p2
     obtain ⟨x9_2, x10_2, x12_2, x13_2, rfl, rfl, HA, HK2, HO_8, HO_9, HO_12, HB⟩ := hrel
     cases gk with
     | zero => exact absurd HA.out (by simp [saronlaw05_missed.l1])
     | succ k2 =>
      have H := HA.out
      clear HA
      simp only [saronlaw05_missed.l1] at H
      by_cases c5 : 0 ≤ x11_1
      ·rw [if_pos c5] at H
       have c5b0 : decide (0 ≤ x11_1) = true := decide_eq_true c5
       clear c5
       by_cases c6 : x11_1 < (l0.length : Int)
       ·rw [if_pos c6] at H
        have c6b0 : decide (x11_1 < (l0.length : Int)) = true := decide_eq_true c6
        clear c6
        by_cases c7 : x13_2 < ((rd_L1 l0 x11_1).length : Int)
        ·rw [if_pos c7] at H
         have c7b0 : decide (x13_2 < ((rd_L1 l0 x11_1).length : Int)) = true := decide_eq_true c7
         clear c7
         by_cases c8 : (x9_2.length : Int) < a1
         ·rw [if_pos c8] at H
          have c8b0 : decide ((x9_2.length : Int) < a1) = true := decide_eq_true c8
          clear c8
          replace H := Option.bind_eq_some_iff.mp H
          obtain ⟨t144, A90, H⟩ := H
          replace H : ((saronref00_Turn.f t144 3).bind fun t145 => (if t145 = 0 then (if 0 ≤ x13_2 then (if x9_2.length < 8796093022208 then (saronlaw05_missed.l1 k2 l0 a1 l2 x8_1 (x9_2 ++ [(⟨x11_1, rd (rd_L1 l0 x11_1) x13_2⟩ : S97)]) (wrap64 (x10_2 + 1)) x11_1 x12_2 (wrap64 (x13_2 + 1))) else (none)) else (none)) else (if 0 ≤ x13_2 then (if x12_2.length < 17592186044416 then (saronlaw05_missed.l1 k2 l0 a1 l2 x8_1 x9_2 (wrap64 (x10_2 + 1)) x11_1 (x12_2 ++ [rd (rd_L1 l0 x11_1) x13_2]) (wrap64 (x13_2 + 1))) else (none)) else (none)))) = some (r1, r2) := H
          have A9 := Aside0.mk A90
          clear A90
          replace H := Option.bind_eq_some_iff.mp H
          obtain ⟨t145, A100, H⟩ := H
          replace H : (if t145 = 0 then (if 0 ≤ x13_2 then (if x9_2.length < 8796093022208 then (saronlaw05_missed.l1 k2 l0 a1 l2 x8_1 (x9_2 ++ [(⟨x11_1, rd (rd_L1 l0 x11_1) x13_2⟩ : S97)]) (wrap64 (x10_2 + 1)) x11_1 x12_2 (wrap64 (x13_2 + 1))) else (none)) else (none)) else (if 0 ≤ x13_2 then (if x12_2.length < 17592186044416 then (saronlaw05_missed.l1 k2 l0 a1 l2 x8_1 x9_2 (wrap64 (x10_2 + 1)) x11_1 (x12_2 ++ [rd (rd_L1 l0 x11_1) x13_2]) (wrap64 (x13_2 + 1))) else (none)) else (none))) = some (r1, r2) := H
          have A10 := Aside0.mk A100
          clear A100
          by_cases c11 : t145 = 0
          ·rw [if_pos c11] at H
           have c11b0 : (t145 == 0) = true := beq_iff_eq.mpr c11
           have c11b1 : (t145 != 0) = false := bne_eq_false_iff_eq.mpr c11
           clear c11
           by_cases c12 : 0 ≤ x13_2
           ·rw [if_pos c12] at H
            have c12b0 : decide (0 ≤ x13_2) = true := decide_eq_true c12
            clear c12
            by_cases c13 : x9_2.length < 8796093022208
            ·rw [if_pos c13] at H
             have LMc13 := Aside0.mk c13
             clear c13
             obtain ⟨y148, hy148⟩ : ∃ y_ : List (S97), y_ = (x9_2 ++ [(⟨x11_1, rd (rd_L1 l0 x11_1) x13_2⟩ : S97)]) := ⟨_, rfl⟩
             replace H : (saronlaw05_missed.l1 k2 l0 a1 l2 x8_1 y148 (wrap64 (x10_2 + 1)) x11_1 x12_2 (wrap64 (x13_2 + 1))) = some (r1, r2) := by first | (rw [hy148]; with_reducible exact H) | (have H2_ := (Option.bind_some _ _).symm.trans H; rw [hy148]; with_reducible exact H2_) | (have H2_ := (Option.bind_some _ _).symm.trans H; with_reducible exact H2_) | with_reducible exact H | (rw [hy148]; exact H) | exact H
             have Ny148 := Aside0.mk hy148
             clear hy148
             have H' := Aside0.mk H
             clear H
             have p140 : 0 ≤ (x11_1 : Int) := of_decide_eq_true TA
             have q140 : x11_1 < (l0.length : Int) := of_decide_eq_true TA
             obtain ⟨ad140, A140_0, c140_0, e140, hx140_0, hl140_0, hi140_0⟩ := at_L1 HR0.out x11_1 p140 q140
             cases e140
             replace hx140_0 := hx HB.out hx140_0
             have HR140_0 := Aside0.mk hi140_0
             have HC140_0 := Aside0.mk hl140_0
             clear hi140_0 hl140_0
             replace p140 := eq_true p140
             replace q140 := eq_true q140
             obtain ⟨Ao14, co14, eo14⟩ := Kd.R_slice HO_9.out
             subst eo14
             go_wp2_with (first | (go_at_call 90; (with_reducible refine (saronref00_Nth.calls _ _ l2 (wrap64 (x10_2 + 1)) t144 _ ?side1 ?side2 A9.out).mono ?_); (case side1 => exact TC HR2.out); (case side2 => exact HC2.out); rintro e w' ⟨rfl, ⟨nd, rfl⟩⟩) | (go_at_call 40; (with_reducible refine (saronref00_Turn.calls t144 3 t145 _ A10.out).mono ?_); rintro e w' ⟨rfl, ⟨nd, rfl⟩⟩; have p146 : 0 ≤ (x11_1 : Int) := of_decide_eq_true TA; have q146 : x11_1 < (l0.length : Int) := of_decide_eq_true TA; obtain ⟨ad146, A146_0, c146_0, e146, hx146_0, hl146_0, hi146_0⟩ := at_L1 HR0.out x11_1 p146 q146; obtain rfl : ad140 = ad146 := (by injection e146); replace hx146_0 := hx HB.out hx146_0; have HR146_0 := Aside0.mk hi146_0; have HC146_0 := Aside0.mk hl146_0; clear hi146_0 hl146_0; replace p146 := eq_true p146; replace q146 := eq_true q146; have ea_ := Option.some.inj (hx140_0.symm.trans hx146_0); injection ea_ with ea_ en_ ec_; subst ea_; subst ec_; clear en_; have p147 : 0 ≤ (x13_2 : Int) := of_decide_eq_true TA; have q147 : x13_2 < ((rd_L1 l0 x11_1).length : Int) := of_decide_eq_true TA; obtain ⟨ad147, e147, hx147_0⟩ := Kd.at_int HR146_0.out x13_2 p147 q147; cases e147; replace hx147_0 := hx HB.out hx147_0; replace p147 := eq_true p147; replace q147 := eq_true q147) | ((with_reducible refine gate_builtin (b := .append) (xs := #[.tmp 42, .tmp 52]) rfl ?_); at_builtin; refine Kd.R_append k97 (w0 := w) w.heap.size rfl (.tmp 42) (.tmp 52) 50 97 (.agg #[(.int .i64 0), (.int .i64 0)]) 16 rfl Tryd.underlying50 info97 rfl (by decide) (by omega) (.slice Ao14 x9_2.length co14) x9_2 (⟨x11_1, rd (rd_L1 l0 x11_1) x13_2⟩ : S97) [.int .i64 x11_1, .int .i64 (rd (rd_L1 l0 x11_1) x13_2)] (fun _ => True) (fun _ => False) rfl rfl ?aP (fun _ hk => hk.elim) ?aF ?aO ?aB ?aS ?aL ?_; (case aP => exact k97_mkM _ _ _ (⟨x11_1, rd (rd_L1 l0 x11_1) x13_2⟩ : S97)); (case aB => exact TB); (case aF => exact (fun _ _ => trivial)); (case aO => exact (TRo HO_9.out)); (case aS => exact (below_size TB)); (case aL => have := LMc13.out; omega); intro v149 w15 ho hb hg hat; rw [← Ny148.out] at ho; have HO150 := Aside0.mk (ho); replace HO_8 := Aside0.mk (Kd.S_over' (TSo HO_8.out) (Kd.R_typed (TRo HO_9.out)) (by decide) hg); replace HO_12 := Aside0.mk (Kd.R_over' (TRo HO_12.out) (Kd.R_typed (TRo HO_9.out)) (by decide) hg); replace HB := Aside0.mk (hb); clear HO_9; clear ho hb hg hat))
             go_roundg k2
             case measure => have := HK1.out; have := HK2.out; omega
             case rel => exact ⟨(y148), (wrap64 (x10_2 + 1)), (x12_2), (wrap64 (x13_2 + 1)), TT, TT, H', ⟨by have := HK1.out; have := HK2.out; omega⟩, ⟨by (with_reducible repeat (first | apply Kd.S_alloc | apply Kd.S_drewN | apply Kd.S_drew)); exact HO_8.out⟩, ⟨by (with_reducible repeat (first | apply Kd.R_alloc | apply Kd.R_drewN | apply Kd.R_drew)); exact HO150.out⟩, ⟨by (with_reducible repeat (first | apply Kd.R_alloc | apply Kd.R_drewN | apply Kd.R_drew)); exact HO_12.out⟩, ⟨TB⟩⟩
            ·rw [if_neg c13] at H
             exact absurd H (by simp)
           ·rw [if_neg c12] at H
            exact absurd H (by simp)
          ·rw [if_neg c11] at H
           have c11b0 : (t145 == 0) = false := beq_eq_false_iff_ne.mpr c11
           have c11b1 : (t145 != 0) = true := bne_iff_ne.mpr c11
           by_cases c16 : 0 ≤ x13_2
           ·rw [if_pos c16] at H
            have c16b0 : decide (0 ≤ x13_2) = true := decide_eq_true c16
            clear c16
            by_cases c17 : x12_2.length < 17592186044416
            ·rw [if_pos c17] at H
             have LMc17 := Aside0.mk c17
             clear c17
             obtain ⟨y153, hy153⟩ : ∃ y_ : List Int, y_ = (x12_2 ++ [rd (rd_L1 l0 x11_1) x13_2]) := ⟨_, rfl⟩
             replace H : (saronlaw05_missed.l1 k2 l0 a1 l2 x8_1 x9_2 (wrap64 (x10_2 + 1)) x11_1 y153 (wrap64 (x13_2 + 1))) = some (r1, r2) := by first | (rw [hy153]; with_reducible exact H) | (have H2_ := (Option.bind_some _ _).symm.trans H; rw [hy153]; with_reducible exact H2_) | (have H2_ := (Option.bind_some _ _).symm.trans H; with_reducible exact H2_) | with_reducible exact H | (rw [hy153]; exact H) | exact H
             have Ny153 := Aside0.mk hy153
             clear hy153
             have H' := Aside0.mk H
             clear H
             have p140 : 0 ≤ (x11_1 : Int) := of_decide_eq_true TA
             have q140 : x11_1 < (l0.length : Int) := of_decide_eq_true TA
             obtain ⟨ad140, A140_0, c140_0, e140, hx140_0, hl140_0, hi140_0⟩ := at_L1 HR0.out x11_1 p140 q140
             cases e140
             replace hx140_0 := hx HB.out hx140_0
             have HR140_0 := Aside0.mk hi140_0
             have HC140_0 := Aside0.mk hl140_0
             clear hi140_0 hl140_0
             replace p140 := eq_true p140
             replace q140 := eq_true q140
             obtain ⟨Ao18, co18, eo18⟩ := Kd.R_slice HO_9.out
             subst eo18
             go_wp2_with (first | (go_at_call 90; (with_reducible refine (saronref00_Nth.calls _ _ l2 (wrap64 (x10_2 + 1)) t144 _ ?side1 ?side2 A9.out).mono ?_); (case side1 => exact TC HR2.out); (case side2 => exact HC2.out); rintro e w' ⟨rfl, ⟨nd, rfl⟩⟩) | (go_at_call 40; (with_reducible refine (saronref00_Turn.calls t144 3 t145 _ A10.out).mono ?_); rintro e w' ⟨rfl, ⟨nd, rfl⟩⟩; have p151 : 0 ≤ (x11_1 : Int) := of_decide_eq_true TA; have q151 : x11_1 < (l0.length : Int) := of_decide_eq_true TA; obtain ⟨ad151, A151_0, c151_0, e151, hx151_0, hl151_0, hi151_0⟩ := at_L1 HR0.out x11_1 p151 q151; obtain rfl : ad140 = ad151 := (by injection e151); replace hx151_0 := hx HB.out hx151_0; have HR151_0 := Aside0.mk hi151_0; have HC151_0 := Aside0.mk hl151_0; clear hi151_0 hl151_0; replace p151 := eq_true p151; replace q151 := eq_true q151; have ea_ := Option.some.inj (hx140_0.symm.trans hx151_0); injection ea_ with ea_ en_ ec_; subst ea_; subst ec_; clear en_; have p152 : 0 ≤ (x13_2 : Int) := of_decide_eq_true TA; have q152 : x13_2 < ((rd_L1 l0 x11_1).length : Int) := of_decide_eq_true TA; obtain ⟨ad152, e152, hx152_0⟩ := Kd.at_int HR151_0.out x13_2 p152 q152; cases e152; replace hx152_0 := hx HB.out hx152_0; replace p152 := eq_true p152; replace q152 := eq_true q152) | ((with_reducible refine gate_builtin (b := .append) (xs := #[.tmp 54, .tmp 62]) rfl ?_); at_builtin; refine Kd.R_append (Kd.int .i64) (w0 := w) w.heap.size rfl (.tmp 54) (.tmp 62) 26 3 (.int .i64 0) 8 rfl Tryd.underlying26 info3 rfl (by decide) (by omega) u12 x12_2 (rd (rd_L1 l0 x11_1) x13_2) [.int .i64 (rd (rd_L1 l0 x11_1) x13_2)] (fun _ => True) (fun _ => False) rfl rfl ?aP (fun _ hk => hk.elim) ?aF ?aO ?aB ?aS ?aL ?_; (case aP => exact rfl); (case aB => exact TB); (case aF => exact (fun _ _ => trivial)); (case aO => exact (TRo HO_12.out)); (case aS => exact (below_size TB)); (case aL => have := LMc17.out; omega); intro v154 w19 ho hb hg hat; rw [← Ny153.out] at ho; have HO155 := Aside0.mk (ho); replace HO_8 := Aside0.mk (Kd.S_after (ok := (fun _ => True)) (by (with_reducible repeat (first | apply Kd.S_alloc | apply Kd.S_drewN | apply Kd.S_drew)); exact Kd.S_mono HO_8.out (fun _ hk => ⟨trivial, hk⟩)) hg hat); replace HO_9 := Aside0.mk (Kd.R_over' (TRo HO_9.out) (Kd.R_typed (TRo HO_12.out)) (by decide) hg); replace HB := Aside0.mk (hb); clear HO_12; clear ho hb hg hat))
             go_roundg k2
             case measure => have := HK1.out; have := HK2.out; omega
             case rel => exact ⟨(x9_2), (wrap64 (x10_2 + 1)), (y153), (wrap64 (x13_2 + 1)), TT, TT, H', ⟨by have := HK1.out; have := HK2.out; omega⟩, ⟨by (with_reducible repeat (first | apply Kd.S_alloc | apply Kd.S_drewN | apply Kd.S_drew)); exact Kd.S_mono HO_8.out (fun _ hk => hk.2)⟩, ⟨by (with_reducible repeat (first | apply Kd.R_alloc | apply Kd.R_drewN | apply Kd.R_drew)); exact HO_9.out⟩, ⟨by (with_reducible repeat (first | apply Kd.R_alloc | apply Kd.R_drewN | apply Kd.R_drew)); exact HO155.out⟩, ⟨TB⟩⟩
            ·rw [if_neg c17] at H
             exact absurd H (by simp)
           ·rw [if_neg c16] at H
            exact absurd H (by simp)
         ·rw [if_neg c8] at H
          have c8b0 : decide ((x9_2.length : Int) < a1) = false := decide_eq_false c8
          clear c8
          by_cases c20 : 0 ≤ x13_2
          ·rw [if_pos c20] at H
           have c20b0 : decide (0 ≤ x13_2) = true := decide_eq_true c20
           clear c20
           by_cases c21 : x12_2.length < 17592186044416
           ·rw [if_pos c21] at H
            have LMc21 := Aside0.mk c21
            clear c21
            obtain ⟨y158, hy158⟩ : ∃ y_ : List Int, y_ = (x12_2 ++ [rd (rd_L1 l0 x11_1) x13_2]) := ⟨_, rfl⟩
            replace H : (saronlaw05_missed.l1 k2 l0 a1 l2 x8_1 x9_2 (wrap64 (x10_2 + 1)) x11_1 y158 (wrap64 (x13_2 + 1))) = some (r1, r2) := by first | (rw [hy158]; with_reducible exact H) | (have H2_ := (Option.bind_some _ _).symm.trans H; rw [hy158]; with_reducible exact H2_) | (have H2_ := (Option.bind_some _ _).symm.trans H; with_reducible exact H2_) | with_reducible exact H | (rw [hy158]; exact H) | exact H
            have Ny158 := Aside0.mk hy158
            clear hy158
            have H' := Aside0.mk H
            clear H
            have p140 : 0 ≤ (x11_1 : Int) := of_decide_eq_true TA
            have q140 : x11_1 < (l0.length : Int) := of_decide_eq_true TA
            obtain ⟨ad140, A140_0, c140_0, e140, hx140_0, hl140_0, hi140_0⟩ := at_L1 HR0.out x11_1 p140 q140
            cases e140
            replace hx140_0 := hx HB.out hx140_0
            have HR140_0 := Aside0.mk hi140_0
            have HC140_0 := Aside0.mk hl140_0
            clear hi140_0 hl140_0
            replace p140 := eq_true p140
            replace q140 := eq_true q140
            obtain ⟨Ao22, co22, eo22⟩ := Kd.R_slice HO_9.out
            subst eo22
            have p156 : 0 ≤ (x11_1 : Int) := of_decide_eq_true TA
            have q156 : x11_1 < (l0.length : Int) := of_decide_eq_true TA
            obtain ⟨ad156, A156_0, c156_0, e156, hx156_0, hl156_0, hi156_0⟩ := at_L1 HR0.out x11_1 p156 q156
            obtain rfl : ad140 = ad156 := (by injection e156)
            replace hx156_0 := hx HB.out hx156_0
            have HR156_0 := Aside0.mk hi156_0
            have HC156_0 := Aside0.mk hl156_0
            clear hi156_0 hl156_0
            replace p156 := eq_true p156
            replace q156 := eq_true q156
            have ea_ := Option.some.inj (hx140_0.symm.trans hx156_0)
            injection ea_ with ea_ en_ ec_
            subst ea_
            subst ec_
            clear en_
            have p157 : 0 ≤ (x13_2 : Int) := of_decide_eq_true TA
            have q157 : x13_2 < ((rd_L1 l0 x11_1).length : Int) := of_decide_eq_true TA
            obtain ⟨ad157, e157, hx157_0⟩ := Kd.at_int HR156_0.out x13_2 p157 q157
            cases e157
            replace hx157_0 := hx HB.out hx157_0
            replace p157 := eq_true p157
            replace q157 := eq_true q157
            go_wp2_with (first | ((with_reducible refine gate_builtin (b := .append) (xs := #[.tmp 54, .tmp 62]) rfl ?_); at_builtin; refine Kd.R_append (Kd.int .i64) (w0 := w) w.heap.size rfl (.tmp 54) (.tmp 62) 26 3 (.int .i64 0) 8 rfl Tryd.underlying26 info3 rfl (by decide) (by omega) u12 x12_2 (rd (rd_L1 l0 x11_1) x13_2) [.int .i64 (rd (rd_L1 l0 x11_1) x13_2)] (fun _ => True) (fun _ => False) rfl rfl ?aP (fun _ hk => hk.elim) ?aF ?aO ?aB ?aS ?aL ?_; (case aP => exact rfl); (case aB => exact TB); (case aF => exact (fun _ _ => trivial)); (case aO => exact (TRo HO_12.out)); (case aS => exact (below_size TB)); (case aL => have := LMc21.out; omega); intro v159 w23 ho hb hg hat; rw [← Ny158.out] at ho; have HO160 := Aside0.mk (ho); replace HO_8 := Aside0.mk (Kd.S_after (ok := (fun _ => True)) (by (with_reducible repeat (first | apply Kd.S_alloc | apply Kd.S_drewN | apply Kd.S_drew)); exact Kd.S_mono HO_8.out (fun _ hk => ⟨trivial, hk⟩)) hg hat); replace HO_9 := Aside0.mk (Kd.R_over' (TRo HO_9.out) (Kd.R_typed (TRo HO_12.out)) (by decide) hg); replace HB := Aside0.mk (hb); clear HO_12; clear ho hb hg hat))
            go_roundg k2
            case measure => have := HK1.out; have := HK2.out; omega
            case rel => exact ⟨(x9_2), (wrap64 (x10_2 + 1)), (y158), (wrap64 (x13_2 + 1)), TT, TT, H', ⟨by have := HK1.out; have := HK2.out; omega⟩, ⟨by (with_reducible repeat (first | apply Kd.S_alloc | apply Kd.S_drewN | apply Kd.S_drew)); exact Kd.S_mono HO_8.out (fun _ hk => hk.2)⟩, ⟨by (with_reducible repeat (first | apply Kd.R_alloc | apply Kd.R_drewN | apply Kd.R_drew)); exact HO_9.out⟩, ⟨by (with_reducible repeat (first | apply Kd.R_alloc | apply Kd.R_drewN | apply Kd.R_drew)); exact HO160.out⟩, ⟨TB⟩⟩
           ·rw [if_neg c21] at H
            exact absurd H (by simp)
          ·rw [if_neg c20] at H
           exact absurd H (by simp)
        ·rw [if_neg c7] at H
         have c7b0 : decide (x13_2 < ((rd_L1 l0 x11_1).length : Int)) = false := decide_eq_false c7
         clear c7
         by_cases c24 : x8_1.length < 5864062014805
         ·rw [if_pos c24] at H
          have LMc24 := Aside0.mk c24
          clear c24
          obtain ⟨y141, hy141⟩ : ∃ y_ : List (List Int), y_ = (x8_1 ++ [x12_2]) := ⟨_, rfl⟩
          replace H : (saronlaw05_missed.l0 k2 l0 a1 l2 y141 x9_2 x10_2 (wrap64 (x11_1 + 1))) = some (r1, r2) := by first | (rw [hy141]; with_reducible exact H) | (have H2_ := (Option.bind_some _ _).symm.trans H; rw [hy141]; with_reducible exact H2_) | (have H2_ := (Option.bind_some _ _).symm.trans H; with_reducible exact H2_) | with_reducible exact H | (rw [hy141]; exact H) | exact H
          have Ny141 := Aside0.mk hy141
          clear hy141
          have H' := Aside0.mk H
          clear H
          have p140 : 0 ≤ (x11_1 : Int) := of_decide_eq_true TA
          have q140 : x11_1 < (l0.length : Int) := of_decide_eq_true TA
          obtain ⟨ad140, A140_0, c140_0, e140, hx140_0, hl140_0, hi140_0⟩ := at_L1 HR0.out x11_1 p140 q140
          cases e140
          replace hx140_0 := hx HB.out hx140_0
          have HR140_0 := Aside0.mk hi140_0
          have HC140_0 := Aside0.mk hl140_0
          clear hi140_0 hl140_0
          replace p140 := eq_true p140
          replace q140 := eq_true q140
          obtain ⟨Ao26, co26, eo26⟩ := Kd.R_slice HO_12.out
          subst eo26
          go_wp2_with (first | ((with_reducible refine gate_builtin (b := .append) (xs := #[.tmp 64, .tmp 66]) rfl ?_); at_builtin; refine Kd.S_append (Kd.slice 3 (Kd.int .i64)) (w0 := w) w.heap.size rfl (.tmp 64) (.tmp 66) 39 26 (.slice none 0 0) 24 rfl Tryd.underlying39 info26 rfl (by decide) (by omega) u8 x8_1 x12_2 [.slice Ao26 x12_2.length co26] (fun _ => True) (fun k_ => some k_ = (.slice Ao26 x12_2.length co26 : Value).ownBlock) rfl rfl ?aP (fun k_ hk_ => ((Kd.R_mono (ok' := fun k_ => ((fun _ => True)) k_ ∧ some k_ ≠ (u8 : Value).ownBlock) (Kd.R_apart' (HO_12.out) (Kd.S_typed HO_8.out) (by decide)) (fun k_ hk => ⟨trivial, hk.2⟩))).1 k_ hk_.symm) ?aF ?aO ?aB ?aS ?aL ?_; (case aP => exact Kd.M_row (Kd.R_mono (Kd.R_tight rfl (Kd.R_mono (ok' := fun k_ => ((fun _ => True)) k_ ∧ some k_ ≠ (u8 : Value).ownBlock) (Kd.R_apart' (HO_12.out) (Kd.S_typed HO_8.out) (by decide)) (fun k_ hk => ⟨trivial, hk.2⟩))) (fun _ h_ => h_))); (case aB => exact TB); (case aF => exact (fun _ _ => trivial)); (case aO => exact (by (with_reducible repeat (first | apply Kd.S_alloc | apply Kd.S_drewN | apply Kd.S_drew)); exact Kd.S_mono HO_8.out (fun k_ hk => ⟨trivial, fun e_ => hk e_⟩))); (case aS => exact (below_size TB)); (case aL => have := LMc24.out; omega); intro v142 w25 ho hb hg hat; rw [← Ny141.out] at ho; have HO143 := Aside0.mk (ho); replace HO_9 := Aside0.mk (Kd.R_over' (TRo HO_9.out) (Kd.S_typed (TSo HO_8.out)) (by decide) hg); replace HB := Aside0.mk (hb); clear HO_8 HO_12; clear ho hb hg hat))
          go_roundg k2
          case measure => have := HK1.out; have := HK2.out; omega
          case rel => exact ⟨(y141), (x9_2), (x10_2), (wrap64 (x11_1 + 1)), TT, TT, H', ⟨by have := HK1.out; have := HK2.out; omega⟩, ⟨by (with_reducible repeat (first | apply Kd.S_alloc | apply Kd.S_drewN | apply Kd.S_drew)); exact HO143.out⟩, ⟨by (with_reducible repeat (first | apply Kd.R_alloc | apply Kd.R_drewN | apply Kd.R_drew)); exact HO_9.out⟩, ⟨TB⟩⟩
         ·rw [if_neg c24] at H
          exact absurd H (by simp)
       ·rw [if_neg c6] at H
        exact absurd H (by simp)
      ·rw [if_neg c5] at H
       exact absurd H (by simp)
   ·rw [if_neg c4] at H
    have c4b0 : decide (x11_1 < (l0.length : Int)) = false := decide_eq_false c4
    clear c4
    simp only [Option.some.injEq, Prod.mk.injEq] at H
    obtain ⟨rfl, rfl⟩ := H
    go_wp2
    go_ret2
    exact ⟨_, _, TR, by (with_reducible repeat (first | apply Kd.S_alloc | apply Kd.S_drewN | apply Kd.S_drew)); exact HO_8.out, by (with_reducible repeat (first | apply Kd.R_alloc | apply Kd.R_drewN | apply Kd.R_drew)); exact HO_9.out, TB⟩
/-! ### saronlaw05_within: function 47 -/
mutual
def saronlaw05_within.l0 : Nat → List (S38) → List (S38) → Int → Option (Bool)
 | 0, _, _, _ => none
 | k + 1, x0, x1, x5 => if x5 < (x0.length : Int) then (saronlaw05_within.l1 k x0 x1 x5 false 0) else (some true)
def saronlaw05_within.l1 : Nat → List (S38) → List (S38) → Int → Bool → Int → Option (Bool)
 | 0, _, _, _, _, _ => none
 | k + 1, x0, x1, x5, x6, x7 => if x7 < (x1.length : Int) then (if x6 = true then (saronlaw05_within.l1 k x0 x1 x5 true (wrap64 (x7 + 1))) else (if 0 ≤ x5 then (if x5 < (x0.length : Int) then (if 0 ≤ x7 then (saronlaw05_within.l1 k x0 x1 x5 (((rd_T38 x0 x5).f0) == ((rd_T38 x1 x7).f0) && (((rd_T38 x0 x5).f1) == ((rd_T38 x1 x7).f1))) (wrap64 (x7 + 1))) else (none)) else (none)) else (none))) else (if x6 = true then (saronlaw05_within.l0 k x0 x1 (wrap64 (x5 + 1))) else (some false))
end
def saronlaw05_within.f (k : Nat) (l0 : List (S38)) (l1 : List (S38)) : Option (Bool) := saronlaw05_within.l0 k l0 l1 0
theorem saronlaw05_within.mono_l : ∀ k, (∀ y0 y1 y2, LeO (saronlaw05_within.l0 k y0 y1 y2) (saronlaw05_within.l0 (k + 1) y0 y1 y2)) ∧ (∀ y0 y1 y2 y3 y4, LeO (saronlaw05_within.l1 k y0 y1 y2 y3 y4) (saronlaw05_within.l1 (k + 1) y0 y1 y2 y3 y4))
 | 0 => ⟨fun _ _ _ r h => by simp [saronlaw05_within.l0] at h, fun _ _ _ _ _ r h => by simp [saronlaw05_within.l1] at h⟩
 | k + 1 => by
  obtain ⟨ih0, ih1⟩ := saronlaw05_within.mono_l k
  refine ⟨?_, ?_⟩
  ·intro y0 y1 y2
   unfold saronlaw05_within.l0
   repeat' first
   | (with_reducible exact ih0 _ _ _)
   | (with_reducible exact ih1 _ _ _ _ _)
   | (with_reducible exact LeO.refl _)
   | (with_reducible exact LeO.none _)
   | (with_reducible refine LeO.ite ?_ ?_)
   | (with_reducible refine LeO.bind ?_ (fun _ => ?_))
   | exact ih0 _ _ _
   | exact ih1 _ _ _ _ _
   | exact LeO.none _
   | refine LeO.ite ?_ ?_
   | refine LeO.bind ?_ (fun _ => ?_)
  ·intro y0 y1 y2 y3 y4
   unfold saronlaw05_within.l1
   repeat' first
   | (with_reducible exact ih0 _ _ _)
   | (with_reducible exact ih1 _ _ _ _ _)
   | (with_reducible exact LeO.refl _)
   | (with_reducible exact LeO.none _)
   | (with_reducible refine LeO.ite ?_ ?_)
   | (with_reducible refine LeO.bind ?_ (fun _ => ?_))
   | exact ih0 _ _ _
   | exact ih1 _ _ _ _ _
   | exact LeO.none _
   | refine LeO.ite ?_ ?_
   | refine LeO.bind ?_ (fun _ => ?_)
theorem saronlaw05_within.mono : ∀ a0 a1 k, LeO (saronlaw05_within.f k a0 a1) (saronlaw05_within.f (k + 1) a0 a1) := by
 intro a0 a1 k
 obtain ⟨ih0, ih1⟩ := saronlaw05_within.mono_l k
 unfold saronlaw05_within.f
 repeat' first
   | (with_reducible exact ih0 _ _ _)
   | (with_reducible exact ih1 _ _ _ _ _)
   | (with_reducible exact LeO.refl _)
   | (with_reducible exact LeO.none _)
   | (with_reducible refine LeO.ite ?_ ?_)
   | (with_reducible refine LeO.bind ?_ (fun _ => ?_))
   | exact ih0 _ _ _
   | exact ih1 _ _ _ _ _
   | exact LeO.none _
   | refine LeO.ite ?_ ?_
   | refine LeO.bind ?_ (fun _ => ?_)
set_option maxHeartbeats 8000000 in
set_option maxRecDepth 100000 in
theorem saronlaw05_within.calls (k : Nat) (A0 : Option Addr) (c0 : Nat) (l0 : List (S38)) (A1 : Option Addr) (c1 : Nat) (l1 : List (S38)) (r : Bool) (w : World) (hr0 : Kd.C k38 w A0 l0.length l0) (hc0 : l0.length ≤ c0) (hr1 : Kd.C k38 w A1 l1.length l1) (hc1 : l1.length ≤ c1) (h : saronlaw05_within.f k l0 l1 = some r) :
  Calls Tryd.prog 47 #[.slice A0 l0.length c0, .slice A1 l1.length c1] w fun e w' => e = .returned (.bool r) ∧ Drawn0 w w' := by
 have hu38 := Tryd.underlying38
 have HR0 := Aside0.mk hr0
 have HC0 := Aside0.mk hc0
 clear hr0 hc0
 have HR1 := Aside0.mk hr1
 have HC1 := Aside0.mk hc1
 clear hr1 hc1
 have H : (saronlaw05_within.l0 k l0 l1 0) = some r := h
 clear h
 have H' := Aside0.mk H
 clear H
 go_enter Tryd.func47, Tryd.ntmps47
 go_wp2
 repeat (go_quiet (fail); try go_wp2)
 go_loopg [5] k (fun kq v5 w' => ∃ (x5_1 : Int), v5 = .int .i64 x5_1 ∧ Aside0 (saronlaw05_within.l0 kq l0 l1 x5_1 = some r) ∧ Aside0 (kq ≤ k) ∧ Drawn0 w w')
 case atStart => exact ⟨(0), TT, H', ⟨Nat.le_refl _⟩, by repeat (first | exact Drawn0.refl _ | apply Drawn0.step)⟩
 case round => as_aux_lemma =>
  clear H'
  try clear c1
  try clear p2
  obtain ⟨x5_1, rfl, HA, HK1, ⟨m1, rfl⟩⟩ := hrel
  cases gk with
  | zero => exact absurd HA.out (by simp [saronlaw05_within.l0])
  | succ k1 =>
   have H := HA.out
   clear HA
   simp only [saronlaw05_within.l0] at H
   by_cases c3 : x5_1 < (l0.length : Int)
   ·rw [if_pos c3] at H
    have c3b0 : decide (x5_1 < (l0.length : Int)) = true := decide_eq_true c3
    clear c3
    have H' := Aside0.mk H
    clear H
    go_wp2
    repeat (go_quiet (fail); try go_wp2)
    go_loopg [6, 7] k1 (fun kq v6 v7 w' => ∃ (x6_2 : Bool) (x7_2 : Int), v6 = .bool x6_2 ∧ v7 = .int .i64 x7_2 ∧ Aside0 (saronlaw05_within.l1 kq l0 l1 x5_1 x6_2 x7_2 = some r) ∧ Aside0 (kq ≤ k1) ∧ Drawn0 w w')
    case atStart => exact ⟨(false), (0), TT, TT, H', ⟨Nat.le_refl _⟩, by repeat (first | exact Drawn0.refl _ | apply Drawn0.step)⟩
    case round => as_aux_lemma =>
     clear H'
     try clear c1
     try clear p2
     try clear c3
     try clear c3b0
     try clear p2
     obtain ⟨x6_2, x7_2, rfl, rfl, HA, HK2, ⟨m2, rfl⟩⟩ := hrel
     cases gk with
     | zero => exact absurd HA.out (by simp [saronlaw05_within.l1])
     | succ k2 =>
      have H := HA.out
      clear HA
      simp only [saronlaw05_within.l1] at H
      by_cases c4 : x7_2 < (l1.length : Int)
      ·rw [if_pos c4] at H
       have c4b0 : decide (x7_2 < (l1.length : Int)) = true := decide_eq_true c4
       clear c4
       by_cases c5 : x6_2 = true
       ·subst c5
        have H1 : (saronlaw05_within.l1 k2 l0 l1 x5_1 true (wrap64 (x7_2 + 1))) = some r := by rw [if_pos rfl] at H; exact H
        clear H
        have H := H1
        clear H1
        have H' := Aside0.mk H
        clear H
        go_wp2
        repeat (go_quiet (fail); try go_wp2)
        go_roundg k2
        case measure => have := HK1.out; have := HK2.out; omega
        case rel => exact ⟨(true), (wrap64 (x7_2 + 1)), TT, TT, H', ⟨by have := HK1.out; have := HK2.out; omega⟩, by repeat (first | exact Drawn0.refl _ | apply Drawn0.step)⟩
       ·replace c5 := Bool.eq_false_iff.mpr c5
        subst c5
        have H1 : (if 0 ≤ x5_1 then (if x5_1 < (l0.length : Int) then (if 0 ≤ x7_2 then (saronlaw05_within.l1 k2 l0 l1 x5_1 (((rd_T38 l0 x5_1).f0) == ((rd_T38 l1 x7_2).f0) && (((rd_T38 l0 x5_1).f1) == ((rd_T38 l1 x7_2).f1))) (wrap64 (x7_2 + 1))) else (none)) else (none)) else (none)) = some r := by rw [if_neg (show ¬ (false = true) by decide)] at H; exact H
        clear H
        have H := H1
        clear H1
        by_cases c6 : 0 ≤ x5_1
        ·rw [if_pos c6] at H
         have c6b0 : decide (0 ≤ x5_1) = true := decide_eq_true c6
         clear c6
         by_cases c7 : x5_1 < (l0.length : Int)
         ·rw [if_pos c7] at H
          have c7b0 : decide (x5_1 < (l0.length : Int)) = true := decide_eq_true c7
          clear c7
          by_cases c8 : 0 ≤ x7_2
          ·rw [if_pos c8] at H
           have c8b0 : decide (0 ≤ x7_2) = true := decide_eq_true c8
           clear c8
           have H' := Aside0.mk H
           clear H
           have p161 : 0 ≤ (x5_1 : Int) := of_decide_eq_true TA
           have q161 : x5_1 < (l0.length : Int) := of_decide_eq_true TA
           obtain ⟨ad161, e161, hx161_0, hx161_1⟩ := at_T38 HR0.out x5_1 p161 q161
           cases e161
           replace p161 := eq_true p161
           replace q161 := eq_true q161
           have p162 : 0 ≤ (x7_2 : Int) := of_decide_eq_true TA
           have q162 : x7_2 < (l1.length : Int) := of_decide_eq_true TA
           obtain ⟨ad162, e162, hx162_0, hx162_1⟩ := at_T38 HR1.out x7_2 p162 q162
           cases e162
           replace p162 := eq_true p162
           replace q162 := eq_true q162
           go_wp2
           repeat (go_quiet (fail); try go_wp2)
           go_roundg k2
           case measure => have := HK1.out; have := HK2.out; omega
           case rel => exact ⟨((((rd_T38 l0 x5_1).f0) == ((rd_T38 l1 x7_2).f0) && (((rd_T38 l0 x5_1).f1) == ((rd_T38 l1 x7_2).f1)))), (wrap64 (x7_2 + 1)), TT, TT, H', ⟨by have := HK1.out; have := HK2.out; omega⟩, by repeat (first | exact Drawn0.refl _ | apply Drawn0.step)⟩
          ·rw [if_neg c8] at H
           exact absurd H (by simp)
         ·rw [if_neg c7] at H
          exact absurd H (by simp)
        ·rw [if_neg c6] at H
         exact absurd H (by simp)
      ·rw [if_neg c4] at H
       have c4b0 : decide (x7_2 < (l1.length : Int)) = false := decide_eq_false c4
       clear c4
       by_cases c9 : x6_2 = true
       ·subst c9
        have H1 : (saronlaw05_within.l0 k2 l0 l1 (wrap64 (x5_1 + 1))) = some r := by rw [if_pos rfl] at H; exact H
        clear H
        have H := H1
        clear H1
        have H' := Aside0.mk H
        clear H
        go_wp2
        repeat (go_quiet (fail); try go_wp2)
        go_roundg k2
        case measure => have := HK1.out; have := HK2.out; omega
        case rel => exact ⟨(wrap64 (x5_1 + 1)), TT, H', ⟨by have := HK1.out; have := HK2.out; omega⟩, by repeat (first | exact Drawn0.refl _ | apply Drawn0.step)⟩
       ·replace c9 := Bool.eq_false_iff.mpr c9
        subst c9
        have H1 : (some false) = some r := by rw [if_neg (show ¬ (false = true) by decide)] at H; exact H
        clear H
        have H := H1
        clear H1
        obtain rfl := Option.some.inj H
        go_wp2
        repeat (go_quiet (fail); try go_wp2)
        go_ret
        exact ⟨by first | rfl | (simp; done) | (simp [*]; done), by repeat (first | exact Drawn0.refl _ | apply Drawn0.step)⟩
   ·rw [if_neg c3] at H
    have c3b0 : decide (x5_1 < (l0.length : Int)) = false := decide_eq_false c3
    clear c3
    obtain rfl := Option.some.inj H
    go_wp2
    repeat (go_quiet (fail); try go_wp2)
    go_ret
    exact ⟨by first | rfl | (simp; done) | (simp [*]; done), by repeat (first | exact Drawn0.refl _ | apply Drawn0.step)⟩
/-! ### saronref00_Draw: function 48 -/
def saronref00_Draw.f (a0_0 : Int) (a0_1 : Int) (a1 : Int) : Option (Int) := if a0_1 ≤ a0_0 then (some a0_0) else (if (wrap64 ((wrap64 (a0_1 - a0_0)) + 1)) < 1 then (some (mn (mx a1 a0_0) a0_1)) else ((saronref00_Turn.f a1 (wrap64 ((wrap64 (a0_1 - a0_0)) + 1))).bind fun t164 => (some (wrap64 (a0_0 + t164)))))
set_option maxHeartbeats 8000000 in
set_option maxRecDepth 100000 in
theorem saronref00_Draw.calls (a0_0 : Int) (a0_1 : Int) (a1 : Int) (r : Int) (w : World) (h : saronref00_Draw.f a0_0 a0_1 a1 = some r) :
  Calls Tryd.prog 48 #[.agg #[.int .i64 a0_0, .int .i64 a0_1], .int .i64 a1] w fun e w' => e = .returned (.int .i64 r) ∧ Below w.heap.size w w' := by
 have hu76 := Tryd.underlying76
 have HB := Aside0.mk (Below.refl w.heap.size w)
 have H : (if a0_1 ≤ a0_0 then (some a0_0) else (if (wrap64 ((wrap64 (a0_1 - a0_0)) + 1)) < 1 then (some (mn (mx a1 a0_0) a0_1)) else ((saronref00_Turn.f a1 (wrap64 ((wrap64 (a0_1 - a0_0)) + 1))).bind fun t164 => (some (wrap64 (a0_0 + t164)))))) = some r := h
 clear h
 by_cases c3 : a0_1 ≤ a0_0
 ·rw [if_pos c3] at H
  have c3b0 : decide (a0_1 ≤ a0_0) = true := decide_eq_true c3
  clear c3
  obtain rfl := Option.some.inj H
  go_enter Tryd.func48, Tryd.ntmps48
  go_wp2_with (first | ((with_reducible refine gate_dst (N := 2) rfl ?_); refine box_event ?hg (N := 2) ?hd (cs := #[.int .i64 a0_0, .int .i64 a0_1]) (t := 76) ?hr ?_; (case hd => rfl); (case hg => rfl); (case hr => exact TS); intro gb163 hg w4 hbox hb; have BK163 := Aside0.mk (hbox); have GW163 := Aside0.mk ((TG : w.heap.size ≤ gb163)); have GE163 := Aside0.mk ((TG : w.heap.size ≤ gb163)); replace HB := Aside0.mk (below_step TB hb); clear hb hbox hg; have hcz5_0 := cz BK163.out 0; have hcz5_1 := cz BK163.out 1; have hfz5_0 := fz BK163.out 0; have hfz5_1 := fz BK163.out 1))
  repeat (go_quiet (first | ((with_reducible refine gate_dst (N := 2) rfl ?_); refine box_event ?hg (N := 2) ?hd (cs := #[.int .i64 a0_0, .int .i64 a0_1]) (t := 76) ?hr ?_; (case hd => rfl); (case hg => rfl); (case hr => exact TS); intro gb163 hg w4 hbox hb; have BK163 := Aside0.mk (hbox); have GW163 := Aside0.mk ((TG : w.heap.size ≤ gb163)); have GE163 := Aside0.mk ((TG : w.heap.size ≤ gb163)); replace HB := Aside0.mk (below_step TB hb); clear hb hbox hg; have hcz5_0 := cz BK163.out 0; have hcz5_1 := cz BK163.out 1; have hfz5_0 := fz BK163.out 0; have hfz5_1 := fz BK163.out 1)); try go_wp2_with (first | ((with_reducible refine gate_dst (N := 2) rfl ?_); refine box_event ?hg (N := 2) ?hd (cs := #[.int .i64 a0_0, .int .i64 a0_1]) (t := 76) ?hr ?_; (case hd => rfl); (case hg => rfl); (case hr => exact TS); intro gb163 hg w4 hbox hb; have BK163 := Aside0.mk (hbox); have GW163 := Aside0.mk ((TG : w.heap.size ≤ gb163)); have GE163 := Aside0.mk ((TG : w.heap.size ≤ gb163)); replace HB := Aside0.mk (below_step TB hb); clear hb hbox hg; have hcz5_0 := cz BK163.out 0; have hcz5_1 := cz BK163.out 1; have hfz5_0 := fz BK163.out 0; have hfz5_1 := fz BK163.out 1)))
  go_ret
  exact ⟨TR, TB1 GE163.out⟩
 ·rw [if_neg c3] at H
  have c3b0 : decide (a0_1 ≤ a0_0) = false := decide_eq_false c3
  clear c3
  by_cases c6 : (wrap64 ((wrap64 (a0_1 - a0_0)) + 1)) < 1
  ·rw [if_pos c6] at H
   have c6b0 : decide ((wrap64 ((wrap64 (a0_1 - a0_0)) + 1)) < 1) = true := decide_eq_true c6
   clear c6
   obtain ⟨ji7, hji7⟩ : ∃ j_ : Int, (mx a1 a0_0) = j_ := ⟨_, rfl⟩
   replace H : (some (mn (ji7) a0_1)) = some r := by first | (rw [hji7] at H; exact H) | (simp only [hji7] at H ⊢; exact H)
   have hji7_ : (if a1 < a0_0 then a0_0 else a1) = ji7 := hji7
   obtain ⟨ji8, hji8⟩ : ∃ j_ : Int, (mn (ji7) a0_1) = j_ := ⟨_, rfl⟩
   replace H : (some ji8) = some r := by first | (rw [hji8] at H; exact H) | (simp only [hji8] at H ⊢; exact H)
   have hji8_ : (if a0_1 < (ji7) then a0_1 else (ji7)) = ji8 := hji8
   obtain rfl := Option.some.inj H
   go_enter Tryd.func48, Tryd.ntmps48
   go_wp2_with (first | ((with_reducible refine gate_dst (N := 2) rfl ?_); refine box_event ?hg (N := 2) ?hd (cs := #[.int .i64 a0_0, .int .i64 a0_1]) (t := 76) ?hr ?_; (case hd => rfl); (case hg => rfl); (case hr => exact TS); intro gb163 hg w9 hbox hb; have BK163 := Aside0.mk (hbox); have GW163 := Aside0.mk ((TG : w.heap.size ≤ gb163)); have GE163 := Aside0.mk ((TG : w.heap.size ≤ gb163)); replace HB := Aside0.mk (below_step TB hb); clear hb hbox hg; have hcz10_0 := cz BK163.out 0; have hcz10_1 := cz BK163.out 1; have hfz10_0 := fz BK163.out 0; have hfz10_1 := fz BK163.out 1))
   repeat (go_quiet (first | ((with_reducible refine gate_dst (N := 2) rfl ?_); refine box_event ?hg (N := 2) ?hd (cs := #[.int .i64 a0_0, .int .i64 a0_1]) (t := 76) ?hr ?_; (case hd => rfl); (case hg => rfl); (case hr => exact TS); intro gb163 hg w9 hbox hb; have BK163 := Aside0.mk (hbox); have GW163 := Aside0.mk ((TG : w.heap.size ≤ gb163)); have GE163 := Aside0.mk ((TG : w.heap.size ≤ gb163)); replace HB := Aside0.mk (below_step TB hb); clear hb hbox hg; have hcz10_0 := cz BK163.out 0; have hcz10_1 := cz BK163.out 1; have hfz10_0 := fz BK163.out 0; have hfz10_1 := fz BK163.out 1)); try go_wp2_with (first | ((with_reducible refine gate_dst (N := 2) rfl ?_); refine box_event ?hg (N := 2) ?hd (cs := #[.int .i64 a0_0, .int .i64 a0_1]) (t := 76) ?hr ?_; (case hd => rfl); (case hg => rfl); (case hr => exact TS); intro gb163 hg w9 hbox hb; have BK163 := Aside0.mk (hbox); have GW163 := Aside0.mk ((TG : w.heap.size ≤ gb163)); have GE163 := Aside0.mk ((TG : w.heap.size ≤ gb163)); replace HB := Aside0.mk (below_step TB hb); clear hb hbox hg; have hcz10_0 := cz BK163.out 0; have hcz10_1 := cz BK163.out 1; have hfz10_0 := fz BK163.out 0; have hfz10_1 := fz BK163.out 1)))
   go_ret
   exact ⟨by first | rfl | (simp [errW_none, errW_some] <;> rfl) | (simp only [← hji7, ← hji8]; first | rfl | (simp [errW_none, errW_some] <;> rfl)) | (simp [*, errW_none, errW_some] <;> rfl), TB1 GE163.out⟩
  ·rw [if_neg c6] at H
   have c6b0 : decide ((wrap64 ((wrap64 (a0_1 - a0_0)) + 1)) < 1) = false := decide_eq_false c6
   clear c6
   replace H := Option.bind_eq_some_iff.mp H
   obtain ⟨t164, A110, H⟩ := H
   replace H : (some (wrap64 (a0_0 + t164))) = some r := H
   have A11 := Aside0.mk A110
   clear A110
   obtain rfl := Option.some.inj H
   go_enter Tryd.func48, Tryd.ntmps48
   go_wp2_with (first | ((with_reducible refine gate_dst (N := 2) rfl ?_); refine box_event ?hg (N := 2) ?hd (cs := #[.int .i64 a0_0, .int .i64 a0_1]) (t := 76) ?hr ?_; (case hd => rfl); (case hg => rfl); (case hr => exact TS); intro gb163 hg w12 hbox hb; have BK163 := Aside0.mk (hbox); have GW163 := Aside0.mk ((TG : w.heap.size ≤ gb163)); have GE163 := Aside0.mk ((TG : w.heap.size ≤ gb163)); replace HB := Aside0.mk (below_step TB hb); clear hb hbox hg; have hcz13_0 := cz BK163.out 0; have hcz13_1 := cz BK163.out 1; have hfz13_0 := fz BK163.out 0; have hfz13_1 := fz BK163.out 1) | (go_at_call 40; (with_reducible refine (saronref00_Turn.calls a1 (wrap64 ((wrap64 (a0_1 - a0_0)) + 1)) t164 _ A11.out).mono ?_); rintro e w' ⟨rfl, ⟨nd, rfl⟩⟩; (try first | exact ⟨rfl, _, World.drewN_drewN _ _ _⟩ | exact ⟨rfl, _, Eq.trans (World.drewN_drewN _ _ _) (congrArg (World.drewN _) (Nat.add_assoc _ _ _))⟩)))
   repeat (go_quiet (first | ((with_reducible refine gate_dst (N := 2) rfl ?_); refine box_event ?hg (N := 2) ?hd (cs := #[.int .i64 a0_0, .int .i64 a0_1]) (t := 76) ?hr ?_; (case hd => rfl); (case hg => rfl); (case hr => exact TS); intro gb163 hg w12 hbox hb; have BK163 := Aside0.mk (hbox); have GW163 := Aside0.mk ((TG : w.heap.size ≤ gb163)); have GE163 := Aside0.mk ((TG : w.heap.size ≤ gb163)); replace HB := Aside0.mk (below_step TB hb); clear hb hbox hg; have hcz13_0 := cz BK163.out 0; have hcz13_1 := cz BK163.out 1; have hfz13_0 := fz BK163.out 0; have hfz13_1 := fz BK163.out 1) | (go_at_call 40; (with_reducible refine (saronref00_Turn.calls a1 (wrap64 ((wrap64 (a0_1 - a0_0)) + 1)) t164 _ A11.out).mono ?_); rintro e w' ⟨rfl, ⟨nd, rfl⟩⟩; (try first | exact ⟨rfl, _, World.drewN_drewN _ _ _⟩ | exact ⟨rfl, _, Eq.trans (World.drewN_drewN _ _ _) (congrArg (World.drewN _) (Nat.add_assoc _ _ _))⟩))); try go_wp2_with (first | ((with_reducible refine gate_dst (N := 2) rfl ?_); refine box_event ?hg (N := 2) ?hd (cs := #[.int .i64 a0_0, .int .i64 a0_1]) (t := 76) ?hr ?_; (case hd => rfl); (case hg => rfl); (case hr => exact TS); intro gb163 hg w12 hbox hb; have BK163 := Aside0.mk (hbox); have GW163 := Aside0.mk ((TG : w.heap.size ≤ gb163)); have GE163 := Aside0.mk ((TG : w.heap.size ≤ gb163)); replace HB := Aside0.mk (below_step TB hb); clear hb hbox hg; have hcz13_0 := cz BK163.out 0; have hcz13_1 := cz BK163.out 1; have hfz13_0 := fz BK163.out 0; have hfz13_1 := fz BK163.out 1) | (go_at_call 40; (with_reducible refine (saronref00_Turn.calls a1 (wrap64 ((wrap64 (a0_1 - a0_0)) + 1)) t164 _ A11.out).mono ?_); rintro e w' ⟨rfl, ⟨nd, rfl⟩⟩; (try first | exact ⟨rfl, _, World.drewN_drewN _ _ _⟩ | exact ⟨rfl, _, Eq.trans (World.drewN_drewN _ _ _) (congrArg (World.drewN _) (Nat.add_assoc _ _ _))⟩))))
   go_ret
   exact ⟨TR, TB1 GE163.out⟩
/-! ### saronref00_Band: function 49 -/
def saronref00_Band.f (a0 : Int) (a1 : Int) : Option (Int × Int) := some (a0, a1)
set_option maxHeartbeats 8000000 in
set_option maxRecDepth 100000 in
theorem saronref00_Band.calls (a0 : Int) (a1 : Int) (r1 : Int) (r2 : Int) (w : World) (h : saronref00_Band.f a0 a1 = some (r1, r2)) :
  Calls Tryd.prog 49 #[.int .i64 a0, .int .i64 a1] w fun e w' => e = .returned (.agg #[.int .i64 r1, .int .i64 r2]) ∧ Below w.heap.size w w' := by
 have hu76 := Tryd.underlying76
 have HB := Aside0.mk (Below.refl w.heap.size w)
 have H : (some (a0, a1)) = some (r1, r2) := h
 clear h
 simp only [Option.some.injEq, Prod.mk.injEq] at H
 obtain ⟨rfl, rfl⟩ := H
 go_enter Tryd.func49, Tryd.ntmps49
 go_wp2_with (first | ((with_reducible refine gate_dst (N := 4) rfl ?_); refine box_event ?hg (N := 4) ?hd (cs := #[.int .i64 0, .int .i64 0]) (t := 76) ?hr ?_; (case hd => rfl); (case hg => rfl); (case hr => exact TS); intro gb165 hg w3 hbox hb; have BK165 := Aside0.mk (hbox); have GW165 := Aside0.mk ((TG : w.heap.size ≤ gb165)); have GE165 := Aside0.mk ((TG : w.heap.size ≤ gb165)); replace HB := Aside0.mk (below_step TB hb); clear hb hbox hg; have hcz4_0 := cz BK165.out 0; have hcz4_1 := cz BK165.out 1; have hfz4_0 := fz BK165.out 0; have hfz4_1 := fz BK165.out 1))
 refine bodyPost_ret (results_cell_row rfl _ _ gb165 76 #[.int .i64 a0, .int .i64 a1] (0, 0) _ rfl (by (with_reducible repeat (first | refine blk_drewN ?_ _ | refine blk_drew ?_ | refine blk_alloc ?_ _)); refine blk_put (cs := #[.int .i64 a0, .int .i64 0]) ?_ 1 _ rfl; (with_reducible repeat (first | refine blk_drewN ?_ _ | refine blk_drew ?_ | refine blk_alloc ?_ _)); refine blk_put (cs := #[.int .i64 0, .int .i64 0]) ?_ 0 _ rfl; (with_reducible repeat (first | refine blk_drewN ?_ _ | refine blk_drew ?_ | refine blk_alloc ?_ _)); exact BK165.out) Tryd.underlying76 rfl (by kernel_rfl)) rfl ?_
 exact ⟨TR, TB1 GE165.out⟩
end Go.Proofs.YtephecfapclgfaaDoor.PRaspKeys
