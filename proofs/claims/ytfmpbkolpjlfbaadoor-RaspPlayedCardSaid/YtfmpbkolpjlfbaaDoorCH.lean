import Derived.Test.YtfmpbkolpjlfbaaDoorCS
import Derived.Test.YtfmpbkolpjlfbaaDoorM0
import Derived.Test.YtfmpbkolpjlfbaaDoorProg
import Derived.Below
import Derived.Deep.Draws
import Derived.Deep.AppendLies
import Derived.Maps.AppendAt
import Derived.OwnWalk
import Derived.Laws.BytesArg
import Derived.Laws.MakeOwn
import Derived.Laws.OwnMore
import Derived.Deep.OwnRows
import Derived.Tactics
import Derived.Lib.ConvBytes
import Derived.Laws.Slices
import Derived.WalkKit
import Derived.KernelRfl
import Derived.RowKit3
import Derived.Deep.LoopGhost
import Derived.Deep.QuietTactic
import Derived.BigQuiet
import Derived.WideLaws
import Derived.Deep.DeepCutAuto
import Derived.Deep.CutBlock
import Derived.Deep.RegionHeld3
import Derived.Laws.Rows
import Derived.Lib.AppendStr
import Derived.ArgAppend
import Derived.Laws.IdiomCopy
import Derived.OrdersHeld
import Derived.Laws.BitsLemmas
import Derived.RowKit
set_option linter.unusedVariables false
set_option linter.unusedSimpArgs false
namespace Go.Proofs.YtfmpbkolpjlfbaaDoor.PRaspKeys
open Go.RowKit Go.Proofs.YtfmpbkolpjlfbaaDoorW.PrintWords Go.Proofs.YtfmpbkolpjlfbaaDoorW.PrintLast Go.Proofs.YtfmpbkolpjlfbaaDoorW.PrintMore Go.Proofs.YtfmpbkolpjlfbaaDoor.M
attribute [local go_sem] max2_int min2_int max_two min_two max_three min_three max_four min_four   -- for this text's walks alone
/-! #### struct type 24 -/
/-! #### struct type 57 -/
/-! #### struct type 69 -/
end Go.Proofs.YtfmpbkolpjlfbaaDoor.PRaspKeys
namespace Go.Proofs.YtfmpbkolpjlfbaaDoor.PRaspKeys
open Go.RowKit Go.Proofs.YtfmpbkolpjlfbaaDoorW.PrintWords Go.Proofs.YtfmpbkolpjlfbaaDoorW.PrintLast Go.Proofs.YtfmpbkolpjlfbaaDoorW.PrintMore Go.Proofs.YtfmpbkolpjlfbaaDoor.M
attribute [local go_sem] max2_int min2_int max_two min_two max_three min_three max_four min_four   -- for this text's walks alone
/-! ### saronlaw03_sound: function 37 -/
mutual
def saronlaw03_sound.j0 : Nat → Bool → List (S57) → Int → Int → List (S69) → Option (Bool)
 | 0, _, _, _, _, _ => none
 | k + 1, x3, x115000, x115001, x115002, x115003 => saronlaw03_sound.l0 k x3 0 x115000 x115001 x115002 x115003
def saronlaw03_sound.l0 : Nat → Bool → Int → List (S57) → Int → Int → List (S69) → Option (Bool)
 | 0, _, _, _, _, _, _ => none
 | k + 1, x3, x4, x115000, x115001, x115002, x115003 => if x3 = true then (saronlaw03_sound.j2 k x3 x4 (decide (x4 < (x115000.length : Int))) x115000 x115001 x115002 x115003) else (saronlaw03_sound.j2 k x3 x4 false x115000 x115001 x115002 x115003)
def saronlaw03_sound.j2 : Nat → Bool → Int → Bool → List (S57) → Int → Int → List (S69) → Option (Bool)
 | 0, _, _, _, _, _, _, _ => none
 | k + 1, x3, x4, x33, x115000, x115001, x115002, x115003 => if x33 = true then (if 0 ≤ x4 then (if x4 < (x115000.length : Int) then ((saronref00_Good.f ((rd_T57 x115000 x4).f0.f0) ((rd_T57 x115000 x4).f0.f1) (-30) 30).bind fun t119 => (if t119 = true then ((saronref00_Sits.f ((rd_T57 x115000 x4).f1) 1 10).bind fun t121 => (saronlaw03_sound.l0 k t121 (wrap64 (x4 + 1)) x115000 x115001 x115002 x115003)) else (saronlaw03_sound.l0 k false (wrap64 (x4 + 1)) x115000 x115001 x115002 x115003))) else (none)) else (none)) else (saronlaw03_sound.l1 k x3 0 x115000 x115001 x115002 x115003)
def saronlaw03_sound.l1 : Nat → Bool → Int → List (S57) → Int → Int → List (S69) → Option (Bool)
 | 0, _, _, _, _, _, _ => none
 | k + 1, x3, x5, x115000, x115001, x115002, x115003 => if x3 = true then (saronlaw03_sound.j4 k x3 x5 (decide (x5 < (x115003.length : Int))) x115000 x115001 x115002 x115003) else (saronlaw03_sound.j4 k x3 x5 false x115000 x115001 x115002 x115003)
def saronlaw03_sound.j4 : Nat → Bool → Int → Bool → List (S57) → Int → Int → List (S69) → Option (Bool)
 | 0, _, _, _, _, _, _, _ => none
 | k + 1, x3, x5, x59, x115000, x115001, x115002, x115003 => if x59 = true then (if 0 ≤ x5 then (if x5 < (x115003.length : Int) then ((saronref00_Good.f ((rd_T69 x115003 x5).f0.f0) ((rd_T69 x115003 x5).f0.f1) (-60) 60).bind fun t123 => (if t123 = true then ((saronref00_Sits.f ((rd_T69 x115003 x5).f1) 0 30).bind fun t125 => (saronlaw03_sound.l1 k t125 (wrap64 (x5 + 1)) x115000 x115001 x115002 x115003)) else (saronlaw03_sound.l1 k false (wrap64 (x5 + 1)) x115000 x115001 x115002 x115003))) else (none)) else (none)) else (some x3)
end
def saronlaw03_sound.f (k : Nat) (l0_0 : List (S57)) (a0_1 : Int) (a0_2 : Int) (l0_3 : List (S69)) : Option (Bool) := (rasp_Check.f k l0_0 a0_1 a0_2 l0_3).bind fun t115 => (if t115 = 0 then ((saronref00_Sits.f (l0_0.length : Int) 1 4).bind fun t116 => (if t116 = true then ((saronref00_Good.f a0_1 a0_2 (-60) 60).bind fun t117 => (if t117 = true then (saronlaw03_sound.j0 k (decide ((l0_3.length : Int) ≤ 6)) l0_0 a0_1 a0_2 l0_3) else (saronlaw03_sound.j0 k false l0_0 a0_1 a0_2 l0_3))) else (saronlaw03_sound.j0 k false l0_0 a0_1 a0_2 l0_3))) else (saronlaw03_sound.j0 k false l0_0 a0_1 a0_2 l0_3))
theorem saronlaw03_sound.mono_l : ∀ k, (∀ y0 y1 y2 y3 y4, LeO (saronlaw03_sound.j0 k y0 y1 y2 y3 y4) (saronlaw03_sound.j0 (k + 1) y0 y1 y2 y3 y4)) ∧ (∀ y0 y1 y2 y3 y4 y5, LeO (saronlaw03_sound.l0 k y0 y1 y2 y3 y4 y5) (saronlaw03_sound.l0 (k + 1) y0 y1 y2 y3 y4 y5)) ∧ (∀ y0 y1 y2 y3 y4 y5 y6, LeO (saronlaw03_sound.j2 k y0 y1 y2 y3 y4 y5 y6) (saronlaw03_sound.j2 (k + 1) y0 y1 y2 y3 y4 y5 y6)) ∧ (∀ y0 y1 y2 y3 y4 y5, LeO (saronlaw03_sound.l1 k y0 y1 y2 y3 y4 y5) (saronlaw03_sound.l1 (k + 1) y0 y1 y2 y3 y4 y5)) ∧ (∀ y0 y1 y2 y3 y4 y5 y6, LeO (saronlaw03_sound.j4 k y0 y1 y2 y3 y4 y5 y6) (saronlaw03_sound.j4 (k + 1) y0 y1 y2 y3 y4 y5 y6))
 | 0 => ⟨fun _ _ _ _ _ r h => by simp [saronlaw03_sound.j0] at h, fun _ _ _ _ _ _ r h => by simp [saronlaw03_sound.l0] at h, fun _ _ _ _ _ _ _ r h => by simp [saronlaw03_sound.j2] at h, fun _ _ _ _ _ _ r h => by simp [saronlaw03_sound.l1] at h, fun _ _ _ _ _ _ _ r h => by simp [saronlaw03_sound.j4] at h⟩
 | k + 1 => by
  obtain ⟨ih0, ih1, ih2, ih3, ih4⟩ := saronlaw03_sound.mono_l k
  refine ⟨?_, ?_, ?_, ?_, ?_⟩
  ·intro y0 y1 y2 y3 y4
   unfold saronlaw03_sound.j0
   repeat' first
   | (with_reducible exact ih0 _ _ _ _ _)
   | (with_reducible exact ih1 _ _ _ _ _ _)
   | (with_reducible exact ih2 _ _ _ _ _ _ _)
   | (with_reducible exact ih3 _ _ _ _ _ _)
   | (with_reducible exact ih4 _ _ _ _ _ _ _)
   | (with_reducible exact rasp_Check.mono _ _ _ _ _)
   | (with_reducible exact LeO.refl _)
   | (with_reducible exact LeO.none _)
   | (with_reducible refine LeO.ite ?_ ?_)
   | (with_reducible refine LeO.bind ?_ (fun _ => ?_))
   | exact ih0 _ _ _ _ _
   | exact ih1 _ _ _ _ _ _
   | exact ih2 _ _ _ _ _ _ _
   | exact ih3 _ _ _ _ _ _
   | exact ih4 _ _ _ _ _ _ _
   | exact rasp_Check.mono _ _ _ _ _
   | exact LeO.none _
   | refine LeO.ite ?_ ?_
   | refine LeO.bind ?_ (fun _ => ?_)
  ·intro y0 y1 y2 y3 y4 y5
   unfold saronlaw03_sound.l0
   repeat' first
   | (with_reducible exact ih0 _ _ _ _ _)
   | (with_reducible exact ih1 _ _ _ _ _ _)
   | (with_reducible exact ih2 _ _ _ _ _ _ _)
   | (with_reducible exact ih3 _ _ _ _ _ _)
   | (with_reducible exact ih4 _ _ _ _ _ _ _)
   | (with_reducible exact rasp_Check.mono _ _ _ _ _)
   | (with_reducible exact LeO.refl _)
   | (with_reducible exact LeO.none _)
   | (with_reducible refine LeO.ite ?_ ?_)
   | (with_reducible refine LeO.bind ?_ (fun _ => ?_))
   | exact ih0 _ _ _ _ _
   | exact ih1 _ _ _ _ _ _
   | exact ih2 _ _ _ _ _ _ _
   | exact ih3 _ _ _ _ _ _
   | exact ih4 _ _ _ _ _ _ _
   | exact rasp_Check.mono _ _ _ _ _
   | exact LeO.none _
   | refine LeO.ite ?_ ?_
   | refine LeO.bind ?_ (fun _ => ?_)
  ·intro y0 y1 y2 y3 y4 y5 y6
   unfold saronlaw03_sound.j2
   repeat' first
   | (with_reducible exact ih0 _ _ _ _ _)
   | (with_reducible exact ih1 _ _ _ _ _ _)
   | (with_reducible exact ih2 _ _ _ _ _ _ _)
   | (with_reducible exact ih3 _ _ _ _ _ _)
   | (with_reducible exact ih4 _ _ _ _ _ _ _)
   | (with_reducible exact rasp_Check.mono _ _ _ _ _)
   | (with_reducible exact LeO.refl _)
   | (with_reducible exact LeO.none _)
   | (with_reducible refine LeO.ite ?_ ?_)
   | (with_reducible refine LeO.bind ?_ (fun _ => ?_))
   | exact ih0 _ _ _ _ _
   | exact ih1 _ _ _ _ _ _
   | exact ih2 _ _ _ _ _ _ _
   | exact ih3 _ _ _ _ _ _
   | exact ih4 _ _ _ _ _ _ _
   | exact rasp_Check.mono _ _ _ _ _
   | exact LeO.none _
   | refine LeO.ite ?_ ?_
   | refine LeO.bind ?_ (fun _ => ?_)
  ·intro y0 y1 y2 y3 y4 y5
   unfold saronlaw03_sound.l1
   repeat' first
   | (with_reducible exact ih0 _ _ _ _ _)
   | (with_reducible exact ih1 _ _ _ _ _ _)
   | (with_reducible exact ih2 _ _ _ _ _ _ _)
   | (with_reducible exact ih3 _ _ _ _ _ _)
   | (with_reducible exact ih4 _ _ _ _ _ _ _)
   | (with_reducible exact rasp_Check.mono _ _ _ _ _)
   | (with_reducible exact LeO.refl _)
   | (with_reducible exact LeO.none _)
   | (with_reducible refine LeO.ite ?_ ?_)
   | (with_reducible refine LeO.bind ?_ (fun _ => ?_))
   | exact ih0 _ _ _ _ _
   | exact ih1 _ _ _ _ _ _
   | exact ih2 _ _ _ _ _ _ _
   | exact ih3 _ _ _ _ _ _
   | exact ih4 _ _ _ _ _ _ _
   | exact rasp_Check.mono _ _ _ _ _
   | exact LeO.none _
   | refine LeO.ite ?_ ?_
   | refine LeO.bind ?_ (fun _ => ?_)
  ·intro y0 y1 y2 y3 y4 y5 y6
   unfold saronlaw03_sound.j4
   repeat' first
   | (with_reducible exact ih0 _ _ _ _ _)
   | (with_reducible exact ih1 _ _ _ _ _ _)
   | (with_reducible exact ih2 _ _ _ _ _ _ _)
   | (with_reducible exact ih3 _ _ _ _ _ _)
   | (with_reducible exact ih4 _ _ _ _ _ _ _)
   | (with_reducible exact rasp_Check.mono _ _ _ _ _)
   | (with_reducible exact LeO.refl _)
   | (with_reducible exact LeO.none _)
   | (with_reducible refine LeO.ite ?_ ?_)
   | (with_reducible refine LeO.bind ?_ (fun _ => ?_))
   | exact ih0 _ _ _ _ _
   | exact ih1 _ _ _ _ _ _
   | exact ih2 _ _ _ _ _ _ _
   | exact ih3 _ _ _ _ _ _
   | exact ih4 _ _ _ _ _ _ _
   | exact rasp_Check.mono _ _ _ _ _
   | exact LeO.none _
   | refine LeO.ite ?_ ?_
   | refine LeO.bind ?_ (fun _ => ?_)
theorem saronlaw03_sound.mono : ∀ a0 a1 a2 a3 k, LeO (saronlaw03_sound.f k a0 a1 a2 a3) (saronlaw03_sound.f (k + 1) a0 a1 a2 a3) := by
 intro a0 a1 a2 a3 k
 obtain ⟨ih0, ih1, ih2, ih3, ih4⟩ := saronlaw03_sound.mono_l k
 unfold saronlaw03_sound.f
 repeat' first
   | (with_reducible exact ih0 _ _ _ _ _)
   | (with_reducible exact ih1 _ _ _ _ _ _)
   | (with_reducible exact ih2 _ _ _ _ _ _ _)
   | (with_reducible exact ih3 _ _ _ _ _ _)
   | (with_reducible exact ih4 _ _ _ _ _ _ _)
   | (with_reducible exact rasp_Check.mono _ _ _ _ _)
   | (with_reducible exact LeO.refl _)
   | (with_reducible exact LeO.none _)
   | (with_reducible refine LeO.ite ?_ ?_)
   | (with_reducible refine LeO.bind ?_ (fun _ => ?_))
   | exact ih0 _ _ _ _ _
   | exact ih1 _ _ _ _ _ _
   | exact ih2 _ _ _ _ _ _ _
   | exact ih3 _ _ _ _ _ _
   | exact ih4 _ _ _ _ _ _ _
   | exact rasp_Check.mono _ _ _ _ _
   | exact LeO.none _
   | refine LeO.ite ?_ ?_
   | refine LeO.bind ?_ (fun _ => ?_)
set_option maxHeartbeats 8000000 in
set_option maxRecDepth 100000 in
theorem saronlaw03_sound.calls (k : Nat) (A0_0 : Option Addr) (c0_0 : Nat) (l0_0 : List (S57)) (a0_1 : Int) (a0_2 : Int) (A0_3 : Option Addr) (c0_3 : Nat) (l0_3 : List (S69)) (r : Bool) (w : World) (hr0_0 : Kd.C k57 w A0_0 l0_0.length l0_0) (hc0_0 : l0_0.length ≤ c0_0) (hr0_3 : Kd.C k69 w A0_3 l0_3.length l0_3) (hc0_3 : l0_3.length ≤ c0_3) (h : saronlaw03_sound.f k l0_0 a0_1 a0_2 l0_3 = some r) :
  Calls Tryd.prog 37 #[.agg #[.slice A0_0 l0_0.length c0_0, .int .i64 a0_1, .int .i64 a0_2, .slice A0_3 l0_3.length c0_3]] w fun e w' => e = .returned (.bool r) ∧ Below w.heap.size w w' := by
 have hu27 := Tryd.underlying27
 have hu24 := Tryd.underlying24
 have HR0_0 := Aside0.mk hr0_0
 have HC0_0 := Aside0.mk hc0_0
 clear hr0_0 hc0_0
 have HR0_3 := Aside0.mk hr0_3
 have HC0_3 := Aside0.mk hc0_3
 clear hr0_3 hc0_3
 have HB := Aside0.mk (Below.refl w.heap.size w)
 have H : ((rasp_Check.f k l0_0 a0_1 a0_2 l0_3).bind fun t115 => (if t115 = 0 then ((saronref00_Sits.f (l0_0.length : Int) 1 4).bind fun t116 => (if t116 = true then ((saronref00_Good.f a0_1 a0_2 (-60) 60).bind fun t117 => (if t117 = true then (saronlaw03_sound.j0 k (decide ((l0_3.length : Int) ≤ 6)) l0_0 a0_1 a0_2 l0_3) else (saronlaw03_sound.j0 k false l0_0 a0_1 a0_2 l0_3))) else (saronlaw03_sound.j0 k false l0_0 a0_1 a0_2 l0_3))) else (saronlaw03_sound.j0 k false l0_0 a0_1 a0_2 l0_3))) = some r := h
 clear h
 have HC2 := Aside0.mk H
 clear H
 go_enter Tryd.func37, Tryd.ntmps37
 go_upto_region 1 with (first | ((with_reducible refine gate_dst (N := 1) rfl ?_); (try (refine gate_guard (by rfl) ?_; dsimp only)); refine box_event ?hg (N := 1) ?hd (cs := #[.slice A0_0 l0_0.length c0_0, .int .i64 a0_1, .int .i64 a0_2, .slice A0_3 l0_3.length c0_3]) (t := 27) ?hr ?_; (case hd => rfl); (case hg => rfl); (case hr => exact TS); intro gb114 hg w3 hbox hb; have BK114 := Aside0.mk (hbox); have GW114 := Aside0.mk ((TG : w.heap.size ≤ gb114)); have GE114 := Aside0.mk ((TG : w.heap.size ≤ gb114)); replace HB := Aside0.mk (below_step TB hb); clear hb hbox hg))
 (try simp only [Act.put, lA, lZ, lS])
 go_cut [3] (fun v3 wc => ∃ (kq : Nat) (x3_1 : Bool), v3 = .bool x3_1 ∧ Aside0 (saronlaw03_sound.j0 kq x3_1 l0_0 a0_1 a0_2 l0_3 = some r) ∧ Aside0 (kq ≤ k) ∧ Aside0 (wc.heap[gb114]? = some (.cells #[(.slice A0_0 l0_0.length c0_0), .int .i64 a0_1, .int .i64 a0_2, (.slice A0_3 l0_3.length c0_3)] 27 (0, 0))) ∧ Aside0 (Below w.heap.size w wc))
 case first =>
  have H := HC2.out
  clear HC2
  replace H := Option.bind_eq_some_iff.mp H
  obtain ⟨t115, A40, H⟩ := H
  replace H : (if t115 = 0 then ((saronref00_Sits.f (l0_0.length : Int) 1 4).bind fun t116 => (if t116 = true then ((saronref00_Good.f a0_1 a0_2 (-60) 60).bind fun t117 => (if t117 = true then (saronlaw03_sound.j0 k (decide ((l0_3.length : Int) ≤ 6)) l0_0 a0_1 a0_2 l0_3) else (saronlaw03_sound.j0 k false l0_0 a0_1 a0_2 l0_3))) else (saronlaw03_sound.j0 k false l0_0 a0_1 a0_2 l0_3))) else (saronlaw03_sound.j0 k false l0_0 a0_1 a0_2 l0_3)) = some r := H
  have A4 := Aside0.mk A40
  clear A40
  by_cases c5 : t115 = 0
  ·rw [if_pos c5] at H
   have c5b0 : (t115 == 0) = true := beq_iff_eq.mpr c5
   have c5b1 : (t115 != 0) = false := bne_eq_false_iff_eq.mpr c5
   clear c5
   (first | rw [c5b0] | (simp only [i64_w, i32_w]; rw [c5b0]) | skip)
   replace H := Option.bind_eq_some_iff.mp H
   obtain ⟨t116, A60, H⟩ := H
   replace H : (if t116 = true then ((saronref00_Good.f a0_1 a0_2 (-60) 60).bind fun t117 => (if t117 = true then (saronlaw03_sound.j0 k (decide ((l0_3.length : Int) ≤ 6)) l0_0 a0_1 a0_2 l0_3) else (saronlaw03_sound.j0 k false l0_0 a0_1 a0_2 l0_3))) else (saronlaw03_sound.j0 k false l0_0 a0_1 a0_2 l0_3)) = some r := H
   have A6 := Aside0.mk A60
   clear A60
   by_cases c7 : t116 = true
   ·subst c7
    have H1 : ((saronref00_Good.f a0_1 a0_2 (-60) 60).bind fun t117 => (if t117 = true then (saronlaw03_sound.j0 k (decide ((l0_3.length : Int) ≤ 6)) l0_0 a0_1 a0_2 l0_3) else (saronlaw03_sound.j0 k false l0_0 a0_1 a0_2 l0_3))) = some r := by rw [if_pos rfl] at H; exact H
    clear H
    have H := H1
    clear H1
    replace H := Option.bind_eq_some_iff.mp H
    obtain ⟨t117, A80, H⟩ := H
    replace H : (if t117 = true then (saronlaw03_sound.j0 k (decide ((l0_3.length : Int) ≤ 6)) l0_0 a0_1 a0_2 l0_3) else (saronlaw03_sound.j0 k false l0_0 a0_1 a0_2 l0_3)) = some r := H
    have A8 := Aside0.mk A80
    clear A80
    by_cases c9 : t117 = true
    ·subst c9
     have H1 : (saronlaw03_sound.j0 k (decide ((l0_3.length : Int) ≤ 6)) l0_0 a0_1 a0_2 l0_3) = some r := by rw [if_pos rfl] at H; exact H
     clear H
     have H := H1
     clear H1
     have H' := Aside0.mk H
     clear H
     have hcz10_0 := cz BK114.out 0
     have hcz10_1 := cz BK114.out 1
     have hcz10_2 := cz BK114.out 2
     have hcz10_3 := cz BK114.out 3
     have hfz10_0 := fz BK114.out 0
     have hfz10_1 := fz BK114.out 1
     have hfz10_2 := fz BK114.out 2
     have hfz10_3 := fz BK114.out 3
     go_wp2_with (first | ((with_reducible refine gate_callee (f := 18) rfl ?_); refine goesL_ (some 7) rfl rfl Tryd.func18 (by kernel_rfl) rfl #[.agg #[.slice A0_0 l0_0.length c0_0, .int .i64 a0_1, .int .i64 a0_2, .slice A0_3 l0_3.length c0_3]] rfl TM ?_; (with_reducible refine (rasp_Check.calls k _ _ l0_0 a0_1 a0_2 _ _ l0_3 t115 _ ?side1 ?side2 ?side3 ?side4 A4.out).mono ?_); (case side1 => exact TC HR0_0.out); (case side2 => exact HC0_0.out); (case side3 => exact TC HR0_3.out); (case side4 => exact HC0_3.out); rintro e w11 ⟨rfl, hb⟩; refine ⟨_, rfl, ?_⟩; replace BK114 := Aside0.mk (TKb hb BK114.out); replace HB := Aside0.mk (below_step (TB1 GE114.out) hb); (try clear hb); (try clear hb2); (try clear hk); (try clear hi); have hcz12_0 := cz BK114.out 0; have hcz12_1 := cz BK114.out 1; have hcz12_2 := cz BK114.out 2; have hcz12_3 := cz BK114.out 3; have hfz12_0 := fz BK114.out 0; have hfz12_1 := fz BK114.out 1; have hfz12_2 := fz BK114.out 2; have hfz12_3 := fz BK114.out 3) | (go_at_call 39; (with_reducible refine (saronref00_Sits.calls (l0_0.length : Int) 1 4 true _ A6.out).mono ?_); rintro e w' ⟨rfl, ⟨nd, rfl⟩⟩) | (go_at_call 60; (with_reducible refine (saronref00_Good.calls a0_1 a0_2 (-60) 60 true _ A8.out).mono ?_); rintro e w13 ⟨rfl, hb⟩; replace BK114 := Aside0.mk (TKb hb BK114.out); replace HB := Aside0.mk (below_step (TB1 GE114.out) hb); (try clear hb); (try clear hb2); (try clear hk); (try clear hi); have hcz14_0 := cz BK114.out 0; have hcz14_1 := cz BK114.out 1; have hcz14_2 := cz BK114.out 2; have hcz14_3 := cz BK114.out 3; have hfz14_0 := fz BK114.out 0; have hfz14_1 := fz BK114.out 1; have hfz14_2 := fz BK114.out 2; have hfz14_3 := fz BK114.out 3))
     go_meet
     case rel => exact ⟨_, (decide ((l0_3.length : Int) ≤ 6)), TT, H', ⟨by first | omega | exact Nat.le_refl _⟩, ⟨TK BK114.out⟩, ⟨TB1 GE114.out⟩⟩
    ·replace c9 := Bool.eq_false_iff.mpr c9
     subst c9
     have H1 : (saronlaw03_sound.j0 k false l0_0 a0_1 a0_2 l0_3) = some r := by rw [if_neg (show ¬ (false = true) by decide)] at H; exact H
     clear H
     have H := H1
     clear H1
     have H' := Aside0.mk H
     clear H
     have hcz15_0 := cz BK114.out 0
     have hcz15_1 := cz BK114.out 1
     have hcz15_2 := cz BK114.out 2
     have hcz15_3 := cz BK114.out 3
     have hfz15_0 := fz BK114.out 0
     have hfz15_1 := fz BK114.out 1
     have hfz15_2 := fz BK114.out 2
     have hfz15_3 := fz BK114.out 3
     go_wp2_with (first | ((with_reducible refine gate_callee (f := 18) rfl ?_); refine goesL_ (some 7) rfl rfl Tryd.func18 (by kernel_rfl) rfl #[.agg #[.slice A0_0 l0_0.length c0_0, .int .i64 a0_1, .int .i64 a0_2, .slice A0_3 l0_3.length c0_3]] rfl TM ?_; (with_reducible refine (rasp_Check.calls k _ _ l0_0 a0_1 a0_2 _ _ l0_3 t115 _ ?side1 ?side2 ?side3 ?side4 A4.out).mono ?_); (case side1 => exact TC HR0_0.out); (case side2 => exact HC0_0.out); (case side3 => exact TC HR0_3.out); (case side4 => exact HC0_3.out); rintro e w16 ⟨rfl, hb⟩; refine ⟨_, rfl, ?_⟩; replace BK114 := Aside0.mk (TKb hb BK114.out); replace HB := Aside0.mk (below_step (TB1 GE114.out) hb); (try clear hb); (try clear hb2); (try clear hk); (try clear hi); have hcz17_0 := cz BK114.out 0; have hcz17_1 := cz BK114.out 1; have hcz17_2 := cz BK114.out 2; have hcz17_3 := cz BK114.out 3; have hfz17_0 := fz BK114.out 0; have hfz17_1 := fz BK114.out 1; have hfz17_2 := fz BK114.out 2; have hfz17_3 := fz BK114.out 3) | (go_at_call 39; (with_reducible refine (saronref00_Sits.calls (l0_0.length : Int) 1 4 true _ A6.out).mono ?_); rintro e w' ⟨rfl, ⟨nd, rfl⟩⟩) | (go_at_call 60; (with_reducible refine (saronref00_Good.calls a0_1 a0_2 (-60) 60 false _ A8.out).mono ?_); rintro e w18 ⟨rfl, hb⟩; replace BK114 := Aside0.mk (TKb hb BK114.out); replace HB := Aside0.mk (below_step (TB1 GE114.out) hb); (try clear hb); (try clear hb2); (try clear hk); (try clear hi)))
     go_meet
     case rel => exact ⟨_, (false), TT, H', ⟨by first | omega | exact Nat.le_refl _⟩, ⟨TK BK114.out⟩, ⟨TB1 GE114.out⟩⟩
   ·replace c7 := Bool.eq_false_iff.mpr c7
    subst c7
    have H1 : (saronlaw03_sound.j0 k false l0_0 a0_1 a0_2 l0_3) = some r := by rw [if_neg (show ¬ (false = true) by decide)] at H; exact H
    clear H
    have H := H1
    clear H1
    have H' := Aside0.mk H
    clear H
    have hcz19_0 := cz BK114.out 0
    have hcz19_1 := cz BK114.out 1
    have hcz19_2 := cz BK114.out 2
    have hcz19_3 := cz BK114.out 3
    have hfz19_0 := fz BK114.out 0
    have hfz19_1 := fz BK114.out 1
    have hfz19_2 := fz BK114.out 2
    have hfz19_3 := fz BK114.out 3
    go_wp2_with (first | ((with_reducible refine gate_callee (f := 18) rfl ?_); refine goesL_ (some 7) rfl rfl Tryd.func18 (by kernel_rfl) rfl #[.agg #[.slice A0_0 l0_0.length c0_0, .int .i64 a0_1, .int .i64 a0_2, .slice A0_3 l0_3.length c0_3]] rfl TM ?_; (with_reducible refine (rasp_Check.calls k _ _ l0_0 a0_1 a0_2 _ _ l0_3 t115 _ ?side1 ?side2 ?side3 ?side4 A4.out).mono ?_); (case side1 => exact TC HR0_0.out); (case side2 => exact HC0_0.out); (case side3 => exact TC HR0_3.out); (case side4 => exact HC0_3.out); rintro e w20 ⟨rfl, hb⟩; refine ⟨_, rfl, ?_⟩; replace BK114 := Aside0.mk (TKb hb BK114.out); replace HB := Aside0.mk (below_step (TB1 GE114.out) hb); (try clear hb); (try clear hb2); (try clear hk); (try clear hi); have hcz21_0 := cz BK114.out 0; have hcz21_1 := cz BK114.out 1; have hcz21_2 := cz BK114.out 2; have hcz21_3 := cz BK114.out 3; have hfz21_0 := fz BK114.out 0; have hfz21_1 := fz BK114.out 1; have hfz21_2 := fz BK114.out 2; have hfz21_3 := fz BK114.out 3) | (go_at_call 39; (with_reducible refine (saronref00_Sits.calls (l0_0.length : Int) 1 4 false _ A6.out).mono ?_); rintro e w' ⟨rfl, ⟨nd, rfl⟩⟩))
    go_meet
    case rel => exact ⟨_, (false), TT, H', ⟨by first | omega | exact Nat.le_refl _⟩, ⟨TK BK114.out⟩, ⟨TB1 GE114.out⟩⟩
  ·rw [if_neg c5] at H
   have c5b0 : (t115 == 0) = false := beq_eq_false_iff_ne.mpr c5
   have c5b1 : (t115 != 0) = true := bne_iff_ne.mpr c5
   (first | rw [c5b0] | (simp only [i64_w, i32_w]; rw [c5b0]) | skip)
   have H' := Aside0.mk H
   clear H
   have hcz22_0 := cz BK114.out 0
   have hcz22_1 := cz BK114.out 1
   have hcz22_2 := cz BK114.out 2
   have hcz22_3 := cz BK114.out 3
   have hfz22_0 := fz BK114.out 0
   have hfz22_1 := fz BK114.out 1
   have hfz22_2 := fz BK114.out 2
   have hfz22_3 := fz BK114.out 3
   go_wp2_with (first | ((with_reducible refine gate_callee (f := 18) rfl ?_); refine goesL_ (some 7) rfl rfl Tryd.func18 (by kernel_rfl) rfl #[.agg #[.slice A0_0 l0_0.length c0_0, .int .i64 a0_1, .int .i64 a0_2, .slice A0_3 l0_3.length c0_3]] rfl TM ?_; (with_reducible refine (rasp_Check.calls k _ _ l0_0 a0_1 a0_2 _ _ l0_3 t115 _ ?side1 ?side2 ?side3 ?side4 A4.out).mono ?_); (case side1 => exact TC HR0_0.out); (case side2 => exact HC0_0.out); (case side3 => exact TC HR0_3.out); (case side4 => exact HC0_3.out); rintro e w23 ⟨rfl, hb⟩; refine ⟨_, rfl, ?_⟩; replace BK114 := Aside0.mk (TKb hb BK114.out); replace HB := Aside0.mk (below_step (TB1 GE114.out) hb); (try clear hb); (try clear hb2); (try clear hk); (try clear hi)))
   go_meet
   case rel => exact ⟨_, (false), TT, H', ⟨by first | omega | exact Nat.le_refl _⟩, ⟨TK BK114.out⟩, ⟨TB1 GE114.out⟩⟩
 case rest =>
  clear HC2
  try clear c1
  try clear p2
  try clear c3
  try clear c5
  try clear c5b0
  try clear c5b1
  try clear c7
  try clear c9
  try clear c18
  try clear hcz10_0 hcz10_1 hcz10_2 hcz10_3
  try clear hcz12_0 hcz12_1 hcz12_2 hcz12_3
  try clear hcz14_0 hcz14_1 hcz14_2 hcz14_3
  try clear hcz15_0 hcz15_1 hcz15_2 hcz15_3
  try clear hcz17_0 hcz17_1 hcz17_2 hcz17_3
  try clear hcz19_0 hcz19_1 hcz19_2 hcz19_3
  try clear hcz21_0 hcz21_1 hcz21_2 hcz21_3
  try clear hcz22_0 hcz22_1 hcz22_2 hcz22_3
  try clear hfz10_0 hfz10_1 hfz10_2 hfz10_3
  try clear hfz12_0 hfz12_1 hfz12_2 hfz12_3
  try clear hfz14_0 hfz14_1 hfz14_2 hfz14_3
  try clear hfz15_0 hfz15_1 hfz15_2 hfz15_3
  try clear hfz17_0 hfz17_1 hfz17_2 hfz17_3
  try clear hfz19_0 hfz19_1 hfz19_2 hfz19_3
  try clear hfz21_0 hfz21_1 hfz21_2 hfz21_3
  try clear hfz22_0 hfz22_1 hfz22_2 hfz22_3
  obtain ⟨kq, x3_1, rfl, HA, HJ1, BK114, HB⟩ := hcut
  cases kq with
  | zero => exact absurd HA.out (by simp [saronlaw03_sound.j0])
  | succ kj1 =>
   have H := HA.out
   clear HA
   simp only [saronlaw03_sound.j0] at H
   have H' := Aside0.mk H
   clear H
   go_wp2
   go_loopg [3, 4] kj1 (fun kq v3 v4 w' => ∃ (x3_2 : Bool) (x4_2 : Int), v3 = .bool x3_2 ∧ v4 = .int .i64 x4_2 ∧ Aside0 (saronlaw03_sound.l0 kq x3_2 x4_2 l0_0 a0_1 a0_2 l0_3 = some r) ∧ Aside0 (kq ≤ kj1) ∧ Aside0 (w'.heap[gb114]? = some (.cells #[(.slice A0_0 l0_0.length c0_0), .int .i64 a0_1, .int .i64 a0_2, (.slice A0_3 l0_3.length c0_3)] 27 (0, 0))) ∧ Aside0 (Below w.heap.size w w'))
   case atStart => exact ⟨(x3_1), (0), TT, TT, H', ⟨Nat.le_refl _⟩, ⟨TK BK114.out⟩, ⟨TB1 GE114.out⟩⟩
   case round =>
    clear H'
    try clear c1
    try clear p2
    try clear c3
    try clear c5
    try clear c5b0
    try clear c5b1
    try clear c7
    try clear c9
    try clear c18
    try clear hcz10_0 hcz10_1 hcz10_2 hcz10_3
    try clear hcz12_0 hcz12_1 hcz12_2 hcz12_3
    try clear hcz14_0 hcz14_1 hcz14_2 hcz14_3
    try clear hcz15_0 hcz15_1 hcz15_2 hcz15_3
    try clear hcz17_0 hcz17_1 hcz17_2 hcz17_3
    try clear hcz19_0 hcz19_1 hcz19_2 hcz19_3
    try clear hcz21_0 hcz21_1 hcz21_2 hcz21_3
    try clear hcz22_0 hcz22_1 hcz22_2 hcz22_3
    try clear hfz10_0 hfz10_1 hfz10_2 hfz10_3
    try clear hfz12_0 hfz12_1 hfz12_2 hfz12_3
    try clear hfz14_0 hfz14_1 hfz14_2 hfz14_3
    try clear hfz15_0 hfz15_1 hfz15_2 hfz15_3
    try clear hfz17_0 hfz17_1 hfz17_2 hfz17_3
    try clear hfz19_0 hfz19_1 hfz19_2 hfz19_3
    try clear hfz21_0 hfz21_1 hfz21_2 hfz21_3
    try clear hfz22_0 hfz22_1 hfz22_2 hfz22_3
    try clear p2
    obtain ⟨x3_2, x4_2, rfl, rfl, HA, HK2, BK114, HB⟩ := hrel
    cases gk with
    | zero => exact absurd HA.out (by simp [saronlaw03_sound.l0])
    | succ k2 =>
     have H := HA.out
     clear HA
     simp only [saronlaw03_sound.l0] at H
     have HC24 := Aside0.mk H
     clear H
     go_upto_region 3 with (fail)
     go_cut [33] (fun v33 wc => ∃ (kq : Nat) (x33_23 : Bool), v33 = .bool x33_23 ∧ Aside0 (saronlaw03_sound.j2 kq x3_2 x4_2 x33_23 l0_0 a0_1 a0_2 l0_3 = some r) ∧ Aside0 (kq ≤ k2) ∧ Aside0 (wc.heap[gb114]? = some (.cells #[(.slice A0_0 l0_0.length c0_0), .int .i64 a0_1, .int .i64 a0_2, (.slice A0_3 l0_3.length c0_3)] 27 (0, 0))) ∧ Aside0 (Below w.heap.size w wc))
     case first =>
      have H := HC24.out
      clear HC24
      by_cases c25 : x3_2 = true
      ·subst c25
       have H1 : (saronlaw03_sound.j2 k2 true x4_2 (decide (x4_2 < (l0_0.length : Int))) l0_0 a0_1 a0_2 l0_3) = some r := by rw [if_pos rfl] at H; exact H
       clear H
       have H := H1
       clear H1
       have H' := Aside0.mk H
       clear H
       have hcz26_0 := cz BK114.out 0
       have hcz26_1 := cz BK114.out 1
       have hcz26_2 := cz BK114.out 2
       have hcz26_3 := cz BK114.out 3
       have hfz26_0 := fz BK114.out 0
       have hfz26_1 := fz BK114.out 1
       have hfz26_2 := fz BK114.out 2
       have hfz26_3 := fz BK114.out 3
       go_wp2
       go_meet
       case rel => exact ⟨_, (decide (x4_2 < (l0_0.length : Int))), TT, H', ⟨by have := HJ1.out; have := HK2.out; first | omega | exact Nat.le_refl _⟩, ⟨TK BK114.out⟩, ⟨TB1 GE114.out⟩⟩
      ·replace c25 := Bool.eq_false_iff.mpr c25
       subst c25
       have H1 : (saronlaw03_sound.j2 k2 false x4_2 false l0_0 a0_1 a0_2 l0_3) = some r := by rw [if_neg (show ¬ (false = true) by decide)] at H; exact H
       clear H
       have H := H1
       clear H1
       have H' := Aside0.mk H
       clear H
       go_wp2
       go_meet
       case rel => exact ⟨_, (false), TT, H', ⟨by have := HJ1.out; have := HK2.out; first | omega | exact Nat.le_refl _⟩, ⟨TK BK114.out⟩, ⟨TB1 GE114.out⟩⟩
     case rest =>
      clear HC24
      try clear c1
      try clear c2
      try clear p2
      try clear c3
      try clear c5
      try clear c5b0
      try clear c5b1
      try clear c7
      try clear c9
      try clear c18
      try clear c25
      try clear hcz10_0 hcz10_1 hcz10_2 hcz10_3
      try clear hcz12_0 hcz12_1 hcz12_2 hcz12_3
      try clear hcz14_0 hcz14_1 hcz14_2 hcz14_3
      try clear hcz15_0 hcz15_1 hcz15_2 hcz15_3
      try clear hcz17_0 hcz17_1 hcz17_2 hcz17_3
      try clear hcz19_0 hcz19_1 hcz19_2 hcz19_3
      try clear hcz21_0 hcz21_1 hcz21_2 hcz21_3
      try clear hcz22_0 hcz22_1 hcz22_2 hcz22_3
      try clear hcz26_0 hcz26_1 hcz26_2 hcz26_3
      try clear hfz10_0 hfz10_1 hfz10_2 hfz10_3
      try clear hfz12_0 hfz12_1 hfz12_2 hfz12_3
      try clear hfz14_0 hfz14_1 hfz14_2 hfz14_3
      try clear hfz15_0 hfz15_1 hfz15_2 hfz15_3
      try clear hfz17_0 hfz17_1 hfz17_2 hfz17_3
      try clear hfz19_0 hfz19_1 hfz19_2 hfz19_3
      try clear hfz21_0 hfz21_1 hfz21_2 hfz21_3
      try clear hfz22_0 hfz22_1 hfz22_2 hfz22_3
      try clear hfz26_0 hfz26_1 hfz26_2 hfz26_3
      try clear p2
      obtain ⟨kq, x33_23, rfl, HA, HJ23, BK114, HB⟩ := hcut
      cases kq with
      | zero => exact absurd HA.out (by simp [saronlaw03_sound.j2])
      | succ kj23 =>
       have H := HA.out
       clear HA
       simp only [saronlaw03_sound.j2] at H
       by_cases c27 : x33_23 = true
       ·subst c27
        have H1 : (if 0 ≤ x4_2 then (if x4_2 < (l0_0.length : Int) then ((saronref00_Good.f ((rd_T57 l0_0 x4_2).f0.f0) ((rd_T57 l0_0 x4_2).f0.f1) (-30) 30).bind fun t119 => (if t119 = true then ((saronref00_Sits.f ((rd_T57 l0_0 x4_2).f1) 1 10).bind fun t121 => (saronlaw03_sound.l0 kj23 t121 (wrap64 (x4_2 + 1)) l0_0 a0_1 a0_2 l0_3)) else (saronlaw03_sound.l0 kj23 false (wrap64 (x4_2 + 1)) l0_0 a0_1 a0_2 l0_3))) else (none)) else (none)) = some r := by rw [if_pos rfl] at H; exact H
        clear H
        have H := H1
        clear H1
        by_cases c28 : 0 ≤ x4_2
        ·rw [if_pos c28] at H
         have c28b0 : decide (0 ≤ x4_2) = true := decide_eq_true c28
         clear c28
         by_cases c29 : x4_2 < (l0_0.length : Int)
         ·rw [if_pos c29] at H
          have c29b0 : decide (x4_2 < (l0_0.length : Int)) = true := decide_eq_true c29
          clear c29
          replace H := Option.bind_eq_some_iff.mp H
          obtain ⟨t119, A300, H⟩ := H
          replace H : (if t119 = true then ((saronref00_Sits.f ((rd_T57 l0_0 x4_2).f1) 1 10).bind fun t121 => (saronlaw03_sound.l0 kj23 t121 (wrap64 (x4_2 + 1)) l0_0 a0_1 a0_2 l0_3)) else (saronlaw03_sound.l0 kj23 false (wrap64 (x4_2 + 1)) l0_0 a0_1 a0_2 l0_3)) = some r := H
          have A30 := Aside0.mk A300
          clear A300
          by_cases c31 : t119 = true
          ·subst c31
           have H1 : ((saronref00_Sits.f ((rd_T57 l0_0 x4_2).f1) 1 10).bind fun t121 => (saronlaw03_sound.l0 kj23 t121 (wrap64 (x4_2 + 1)) l0_0 a0_1 a0_2 l0_3)) = some r := by rw [if_pos rfl] at H; exact H
           clear H
           have H := H1
           clear H1
           replace H := Option.bind_eq_some_iff.mp H
           obtain ⟨t121, A320, H⟩ := H
           replace H : (saronlaw03_sound.l0 kj23 t121 (wrap64 (x4_2 + 1)) l0_0 a0_1 a0_2 l0_3) = some r := H
           have A32 := Aside0.mk A320
           clear A320
           have H' := Aside0.mk H
           clear H
           have hcz33_0 := cz BK114.out 0
           have hcz33_1 := cz BK114.out 1
           have hcz33_2 := cz BK114.out 2
           have hcz33_3 := cz BK114.out 3
           have hfz33_0 := fz BK114.out 0
           have hfz33_1 := fz BK114.out 1
           have hfz33_2 := fz BK114.out 2
           have hfz33_3 := fz BK114.out 3
           have p118 : 0 ≤ (x4_2 : Int) := of_decide_eq_true TA
           have q118 : x4_2 < (l0_0.length : Int) := of_decide_eq_true TA
           obtain ⟨ad118, e118, hx118_0, hx118_1, hx118_2⟩ := at_T57 HR0_0.out x4_2 p118 q118
           cases e118
           replace hx118_0 := hx HB.out hx118_0
           replace hx118_1 := hx HB.out hx118_1
           replace hx118_2 := hx HB.out hx118_2
           replace p118 := eq_true p118
           replace q118 := eq_true q118
           go_wp2_with (first | ((with_reducible refine gate_callee (f := 60) rfl ?_); refine goesL_ (some 42) rfl rfl Tryd.func60 (by kernel_rfl) rfl #[.agg #[.int .i64 ((rd_T57 l0_0 x4_2).f0.f0), .int .i64 ((rd_T57 l0_0 x4_2).f0.f1)], .int .i64 (-30), .int .i64 30] rfl TM ?_; (with_reducible refine (saronref00_Good.calls ((rd_T57 l0_0 x4_2).f0.f0) ((rd_T57 l0_0 x4_2).f0.f1) (-30) 30 true _ A30.out).mono ?_); rintro e w34 ⟨rfl, hb⟩; refine ⟨_, rfl, ?_⟩; replace BK114 := Aside0.mk (TKb hb BK114.out); replace HB := Aside0.mk (below_step (TB1 GE114.out) hb); (try clear hb); (try clear hb2); (try clear hk); (try clear hi); have hcz35_0 := cz BK114.out 0; have hcz35_1 := cz BK114.out 1; have hcz35_2 := cz BK114.out 2; have hcz35_3 := cz BK114.out 3; have hfz35_0 := fz BK114.out 0; have hfz35_1 := fz BK114.out 1; have hfz35_2 := fz BK114.out 2; have hfz35_3 := fz BK114.out 3; have p120 : 0 ≤ (x4_2 : Int) := of_decide_eq_true TA; have q120 : x4_2 < (l0_0.length : Int) := of_decide_eq_true TA; obtain ⟨ad120, e120, hx120_0, hx120_1, hx120_2⟩ := at_T57 HR0_0.out x4_2 p120 q120; obtain rfl : ad118 = ad120 := (by injection e120); replace hx120_0 := hx HB.out hx120_0; replace hx120_1 := hx HB.out hx120_1; replace hx120_2 := hx HB.out hx120_2; replace p120 := eq_true p120; replace q120 := eq_true q120) | (go_at_call 39; (with_reducible refine (saronref00_Sits.calls ((rd_T57 l0_0 x4_2).f1) 1 10 t121 _ A32.out).mono ?_); rintro e w' ⟨rfl, ⟨nd, rfl⟩⟩))
           go_roundg kj23
           case measure => have := HJ1.out; have := HK2.out; have := HJ23.out; omega
           case rel => exact ⟨(t121), (wrap64 (x4_2 + 1)), TT, TT, H', ⟨by have := HJ1.out; have := HK2.out; have := HJ23.out; omega⟩, ⟨TK BK114.out⟩, ⟨TB1 GE114.out⟩⟩
          ·replace c31 := Bool.eq_false_iff.mpr c31
           subst c31
           have H1 : (saronlaw03_sound.l0 kj23 false (wrap64 (x4_2 + 1)) l0_0 a0_1 a0_2 l0_3) = some r := by rw [if_neg (show ¬ (false = true) by decide)] at H; exact H
           clear H
           have H := H1
           clear H1
           have H' := Aside0.mk H
           clear H
           have hcz36_0 := cz BK114.out 0
           have hcz36_1 := cz BK114.out 1
           have hcz36_2 := cz BK114.out 2
           have hcz36_3 := cz BK114.out 3
           have hfz36_0 := fz BK114.out 0
           have hfz36_1 := fz BK114.out 1
           have hfz36_2 := fz BK114.out 2
           have hfz36_3 := fz BK114.out 3
           have p118 : 0 ≤ (x4_2 : Int) := of_decide_eq_true TA
           have q118 : x4_2 < (l0_0.length : Int) := of_decide_eq_true TA
           obtain ⟨ad118, e118, hx118_0, hx118_1, hx118_2⟩ := at_T57 HR0_0.out x4_2 p118 q118
           cases e118
           replace hx118_0 := hx HB.out hx118_0
           replace hx118_1 := hx HB.out hx118_1
           replace hx118_2 := hx HB.out hx118_2
           replace p118 := eq_true p118
           replace q118 := eq_true q118
           go_wp2_with (first | ((with_reducible refine gate_callee (f := 60) rfl ?_); refine goesL_ (some 42) rfl rfl Tryd.func60 (by kernel_rfl) rfl #[.agg #[.int .i64 ((rd_T57 l0_0 x4_2).f0.f0), .int .i64 ((rd_T57 l0_0 x4_2).f0.f1)], .int .i64 (-30), .int .i64 30] rfl TM ?_; (with_reducible refine (saronref00_Good.calls ((rd_T57 l0_0 x4_2).f0.f0) ((rd_T57 l0_0 x4_2).f0.f1) (-30) 30 false _ A30.out).mono ?_); rintro e w37 ⟨rfl, hb⟩; refine ⟨_, rfl, ?_⟩; replace BK114 := Aside0.mk (TKb hb BK114.out); replace HB := Aside0.mk (below_step (TB1 GE114.out) hb); (try clear hb); (try clear hb2); (try clear hk); (try clear hi)))
           go_roundg kj23
           case measure => have := HJ1.out; have := HK2.out; have := HJ23.out; omega
           case rel => exact ⟨(false), (wrap64 (x4_2 + 1)), TT, TT, H', ⟨by have := HJ1.out; have := HK2.out; have := HJ23.out; omega⟩, ⟨TK BK114.out⟩, ⟨TB1 GE114.out⟩⟩
         ·rw [if_neg c29] at H
          exact absurd H (by simp)
        ·rw [if_neg c28] at H
         exact absurd H (by simp)
       ·replace c27 := Bool.eq_false_iff.mpr c27
        subst c27
        have H1 : (saronlaw03_sound.l1 kj23 x3_2 0 l0_0 a0_1 a0_2 l0_3) = some r := by rw [if_neg (show ¬ (false = true) by decide)] at H; exact H
        clear H
        have H := H1
        clear H1
        have H' := Aside0.mk H
        clear H
        go_wp2
        go_loopg [3, 5] kj23 (fun kq v3 v5 w' => ∃ (x3_4 : Bool) (x5_4 : Int), v3 = .bool x3_4 ∧ v5 = .int .i64 x5_4 ∧ Aside0 (saronlaw03_sound.l1 kq x3_4 x5_4 l0_0 a0_1 a0_2 l0_3 = some r) ∧ Aside0 (kq ≤ kj23) ∧ Aside0 (w'.heap[gb114]? = some (.cells #[(.slice A0_0 l0_0.length c0_0), .int .i64 a0_1, .int .i64 a0_2, (.slice A0_3 l0_3.length c0_3)] 27 (0, 0))) ∧ Aside0 (Below w.heap.size w w'))
        case atStart => exact ⟨(x3_2), (0), TT, TT, H', ⟨Nat.le_refl _⟩, ⟨TK BK114.out⟩, ⟨TB1 GE114.out⟩⟩
        case round =>
         clear H'
         try clear c1
         try clear p1
         try clear q1
         try clear hx1
         try clear c2
         try clear p2
         try clear c3
         try clear c5
         try clear c5b0
         try clear c5b1
         try clear c6
         try clear p6
         try clear c7
         try clear c9
         try clear p11
         try clear q11
         try clear hx11
         try clear p12
         try clear q12
         try clear hx12
         try clear c18
         try clear c25
         try clear c27
         try clear c28
         try clear c28b0
         try clear c29
         try clear c29b0
         try clear c31
         try clear c37
         try clear hcz10_0 hcz10_1 hcz10_2 hcz10_3
         try clear hcz12_0 hcz12_1 hcz12_2 hcz12_3
         try clear hcz14_0 hcz14_1 hcz14_2 hcz14_3
         try clear hcz15_0 hcz15_1 hcz15_2 hcz15_3
         try clear hcz17_0 hcz17_1 hcz17_2 hcz17_3
         try clear hcz19_0 hcz19_1 hcz19_2 hcz19_3
         try clear hcz21_0 hcz21_1 hcz21_2 hcz21_3
         try clear hcz22_0 hcz22_1 hcz22_2 hcz22_3
         try clear hcz26_0 hcz26_1 hcz26_2 hcz26_3
         try clear hcz33_0 hcz33_1 hcz33_2 hcz33_3
         try clear hcz35_0 hcz35_1 hcz35_2 hcz35_3
         try clear hcz36_0 hcz36_1 hcz36_2 hcz36_3
         try clear hfz10_0 hfz10_1 hfz10_2 hfz10_3
         try clear hfz12_0 hfz12_1 hfz12_2 hfz12_3
         try clear hfz14_0 hfz14_1 hfz14_2 hfz14_3
         try clear hfz15_0 hfz15_1 hfz15_2 hfz15_3
         try clear hfz17_0 hfz17_1 hfz17_2 hfz17_3
         try clear hfz19_0 hfz19_1 hfz19_2 hfz19_3
         try clear hfz21_0 hfz21_1 hfz21_2 hfz21_3
         try clear hfz22_0 hfz22_1 hfz22_2 hfz22_3
         try clear hfz26_0 hfz26_1 hfz26_2 hfz26_3
         try clear hfz33_0 hfz33_1 hfz33_2 hfz33_3
         try clear hfz35_0 hfz35_1 hfz35_2 hfz35_3
         try clear hfz36_0 hfz36_1 hfz36_2 hfz36_3
         try clear hx118_0
         try clear hx118_1
         try clear hx118_2
         try clear hx120_0
         try clear hx120_1
         try clear hx120_2
         try clear p118
         try clear p120
         try clear p2
         try clear q118
         try clear q120
         obtain ⟨x3_4, x5_4, rfl, rfl, HA, HK4, BK114, HB⟩ := hrel
         cases gk with
         | zero => exact absurd HA.out (by simp [saronlaw03_sound.l1])
         | succ k4 =>
          have H := HA.out
          clear HA
          simp only [saronlaw03_sound.l1] at H
          have HC38 := Aside0.mk H
          clear H
          go_upto_region 7 with (fail)
          go_cut [59] (fun v59 wc => ∃ (kq : Nat) (x59_37 : Bool), v59 = .bool x59_37 ∧ Aside0 (saronlaw03_sound.j4 kq x3_4 x5_4 x59_37 l0_0 a0_1 a0_2 l0_3 = some r) ∧ Aside0 (kq ≤ k4) ∧ Aside0 (wc.heap[gb114]? = some (.cells #[(.slice A0_0 l0_0.length c0_0), .int .i64 a0_1, .int .i64 a0_2, (.slice A0_3 l0_3.length c0_3)] 27 (0, 0))) ∧ Aside0 (Below w.heap.size w wc))
          case first =>
           have H := HC38.out
           clear HC38
           by_cases c39 : x3_4 = true
           ·subst c39
            have H1 : (saronlaw03_sound.j4 k4 true x5_4 (decide (x5_4 < (l0_3.length : Int))) l0_0 a0_1 a0_2 l0_3) = some r := by rw [if_pos rfl] at H; exact H
            clear H
            have H := H1
            clear H1
            have H' := Aside0.mk H
            clear H
            have hcz40_0 := cz BK114.out 0
            have hcz40_1 := cz BK114.out 1
            have hcz40_2 := cz BK114.out 2
            have hcz40_3 := cz BK114.out 3
            have hfz40_0 := fz BK114.out 0
            have hfz40_1 := fz BK114.out 1
            have hfz40_2 := fz BK114.out 2
            have hfz40_3 := fz BK114.out 3
            go_wp2
            go_meet
            case rel => exact ⟨_, (decide (x5_4 < (l0_3.length : Int))), TT, H', ⟨by have := HJ1.out; have := HK2.out; have := HJ23.out; have := HK4.out; first | omega | exact Nat.le_refl _⟩, ⟨TK BK114.out⟩, ⟨TB1 GE114.out⟩⟩
           ·replace c39 := Bool.eq_false_iff.mpr c39
            subst c39
            have H1 : (saronlaw03_sound.j4 k4 false x5_4 false l0_0 a0_1 a0_2 l0_3) = some r := by rw [if_neg (show ¬ (false = true) by decide)] at H; exact H
            clear H
            have H := H1
            clear H1
            have H' := Aside0.mk H
            clear H
            go_wp2
            go_meet
            case rel => exact ⟨_, (false), TT, H', ⟨by have := HJ1.out; have := HK2.out; have := HJ23.out; have := HK4.out; first | omega | exact Nat.le_refl _⟩, ⟨TK BK114.out⟩, ⟨TB1 GE114.out⟩⟩
          case rest =>
           clear HC38
           try clear c1
           try clear p1
           try clear q1
           try clear hx1
           try clear c2
           try clear p2
           try clear c3
           try clear c5
           try clear c5b0
           try clear c5b1
           try clear c6
           try clear p6
           try clear c7
           try clear c9
           try clear p11
           try clear q11
           try clear hx11
           try clear p12
           try clear q12
           try clear hx12
           try clear c18
           try clear c25
           try clear c27
           try clear c28
           try clear c28b0
           try clear c29
           try clear c29b0
           try clear c31
           try clear c37
           try clear c39
           try clear hcz10_0 hcz10_1 hcz10_2 hcz10_3
           try clear hcz12_0 hcz12_1 hcz12_2 hcz12_3
           try clear hcz14_0 hcz14_1 hcz14_2 hcz14_3
           try clear hcz15_0 hcz15_1 hcz15_2 hcz15_3
           try clear hcz17_0 hcz17_1 hcz17_2 hcz17_3
           try clear hcz19_0 hcz19_1 hcz19_2 hcz19_3
           try clear hcz21_0 hcz21_1 hcz21_2 hcz21_3
           try clear hcz22_0 hcz22_1 hcz22_2 hcz22_3
           try clear hcz26_0 hcz26_1 hcz26_2 hcz26_3
           try clear hcz33_0 hcz33_1 hcz33_2 hcz33_3
           try clear hcz35_0 hcz35_1 hcz35_2 hcz35_3
           try clear hcz36_0 hcz36_1 hcz36_2 hcz36_3
           try clear hcz40_0 hcz40_1 hcz40_2 hcz40_3
           try clear hfz10_0 hfz10_1 hfz10_2 hfz10_3
           try clear hfz12_0 hfz12_1 hfz12_2 hfz12_3
           try clear hfz14_0 hfz14_1 hfz14_2 hfz14_3
           try clear hfz15_0 hfz15_1 hfz15_2 hfz15_3
           try clear hfz17_0 hfz17_1 hfz17_2 hfz17_3
           try clear hfz19_0 hfz19_1 hfz19_2 hfz19_3
           try clear hfz21_0 hfz21_1 hfz21_2 hfz21_3
           try clear hfz22_0 hfz22_1 hfz22_2 hfz22_3
           try clear hfz26_0 hfz26_1 hfz26_2 hfz26_3
           try clear hfz33_0 hfz33_1 hfz33_2 hfz33_3
           try clear hfz35_0 hfz35_1 hfz35_2 hfz35_3
           try clear hfz36_0 hfz36_1 hfz36_2 hfz36_3
           try clear hfz40_0 hfz40_1 hfz40_2 hfz40_3
           try clear hx118_0
           try clear hx118_1
           try clear hx118_2
           try clear hx120_0
           try clear hx120_1
           try clear hx120_2
           try clear p1
           try clear p11
           try clear p118
           try clear p12
           try clear p120
           try clear p2
           try clear p6
           try clear q1
           try clear q11
           try clear q118
           try clear q12
           try clear q120
           obtain ⟨kq, x59_37, rfl, HA, HJ37, BK114, HB⟩ := hcut
           cases kq with
           | zero => exact absurd HA.out (by simp [saronlaw03_sound.j4])
           | succ kj37 =>
            have H := HA.out
            clear HA
            simp only [saronlaw03_sound.j4] at H
            by_cases c41 : x59_37 = true
            ·subst c41
             have H1 : (if 0 ≤ x5_4 then (if x5_4 < (l0_3.length : Int) then ((saronref00_Good.f ((rd_T69 l0_3 x5_4).f0.f0) ((rd_T69 l0_3 x5_4).f0.f1) (-60) 60).bind fun t123 => (if t123 = true then ((saronref00_Sits.f ((rd_T69 l0_3 x5_4).f1) 0 30).bind fun t125 => (saronlaw03_sound.l1 kj37 t125 (wrap64 (x5_4 + 1)) l0_0 a0_1 a0_2 l0_3)) else (saronlaw03_sound.l1 kj37 false (wrap64 (x5_4 + 1)) l0_0 a0_1 a0_2 l0_3))) else (none)) else (none)) = some r := by rw [if_pos rfl] at H; exact H
             clear H
             have H := H1
             clear H1
             by_cases c42 : 0 ≤ x5_4
             ·rw [if_pos c42] at H
              have c42b0 : decide (0 ≤ x5_4) = true := decide_eq_true c42
              clear c42
              by_cases c43 : x5_4 < (l0_3.length : Int)
              ·rw [if_pos c43] at H
               have c43b0 : decide (x5_4 < (l0_3.length : Int)) = true := decide_eq_true c43
               clear c43
               replace H := Option.bind_eq_some_iff.mp H
               obtain ⟨t123, A440, H⟩ := H
               replace H : (if t123 = true then ((saronref00_Sits.f ((rd_T69 l0_3 x5_4).f1) 0 30).bind fun t125 => (saronlaw03_sound.l1 kj37 t125 (wrap64 (x5_4 + 1)) l0_0 a0_1 a0_2 l0_3)) else (saronlaw03_sound.l1 kj37 false (wrap64 (x5_4 + 1)) l0_0 a0_1 a0_2 l0_3)) = some r := H
               have A44 := Aside0.mk A440
               clear A440
               by_cases c45 : t123 = true
               ·subst c45
                have H1 : ((saronref00_Sits.f ((rd_T69 l0_3 x5_4).f1) 0 30).bind fun t125 => (saronlaw03_sound.l1 kj37 t125 (wrap64 (x5_4 + 1)) l0_0 a0_1 a0_2 l0_3)) = some r := by rw [if_pos rfl] at H; exact H
                clear H
                have H := H1
                clear H1
                replace H := Option.bind_eq_some_iff.mp H
                obtain ⟨t125, A460, H⟩ := H
                replace H : (saronlaw03_sound.l1 kj37 t125 (wrap64 (x5_4 + 1)) l0_0 a0_1 a0_2 l0_3) = some r := H
                have A46 := Aside0.mk A460
                clear A460
                have H' := Aside0.mk H
                clear H
                have hcz47_0 := cz BK114.out 0
                have hcz47_1 := cz BK114.out 1
                have hcz47_2 := cz BK114.out 2
                have hcz47_3 := cz BK114.out 3
                have hfz47_0 := fz BK114.out 0
                have hfz47_1 := fz BK114.out 1
                have hfz47_2 := fz BK114.out 2
                have hfz47_3 := fz BK114.out 3
                have p122 : 0 ≤ (x5_4 : Int) := of_decide_eq_true TA
                have q122 : x5_4 < (l0_3.length : Int) := of_decide_eq_true TA
                obtain ⟨ad122, e122, hx122_0, hx122_1, hx122_2⟩ := at_T69 HR0_3.out x5_4 p122 q122
                cases e122
                replace hx122_0 := hx HB.out hx122_0
                replace hx122_1 := hx HB.out hx122_1
                replace hx122_2 := hx HB.out hx122_2
                replace p122 := eq_true p122
                replace q122 := eq_true q122
                go_wp2_with (first | ((with_reducible refine gate_callee (f := 60) rfl ?_); refine goesL_ (some 68) rfl rfl Tryd.func60 (by kernel_rfl) rfl #[.agg #[.int .i64 ((rd_T69 l0_3 x5_4).f0.f0), .int .i64 ((rd_T69 l0_3 x5_4).f0.f1)], .int .i64 (-60), .int .i64 60] rfl TM ?_; (with_reducible refine (saronref00_Good.calls ((rd_T69 l0_3 x5_4).f0.f0) ((rd_T69 l0_3 x5_4).f0.f1) (-60) 60 true _ A44.out).mono ?_); rintro e w48 ⟨rfl, hb⟩; refine ⟨_, rfl, ?_⟩; replace BK114 := Aside0.mk (TKb hb BK114.out); replace HB := Aside0.mk (below_step (TB1 GE114.out) hb); (try clear hb); (try clear hb2); (try clear hk); (try clear hi); have hcz49_0 := cz BK114.out 0; have hcz49_1 := cz BK114.out 1; have hcz49_2 := cz BK114.out 2; have hcz49_3 := cz BK114.out 3; have hfz49_0 := fz BK114.out 0; have hfz49_1 := fz BK114.out 1; have hfz49_2 := fz BK114.out 2; have hfz49_3 := fz BK114.out 3; have p124 : 0 ≤ (x5_4 : Int) := of_decide_eq_true TA; have q124 : x5_4 < (l0_3.length : Int) := of_decide_eq_true TA; obtain ⟨ad124, e124, hx124_0, hx124_1, hx124_2⟩ := at_T69 HR0_3.out x5_4 p124 q124; obtain rfl : ad122 = ad124 := (by injection e124); replace hx124_0 := hx HB.out hx124_0; replace hx124_1 := hx HB.out hx124_1; replace hx124_2 := hx HB.out hx124_2; replace p124 := eq_true p124; replace q124 := eq_true q124) | (go_at_call 39; (with_reducible refine (saronref00_Sits.calls ((rd_T69 l0_3 x5_4).f1) 0 30 t125 _ A46.out).mono ?_); rintro e w' ⟨rfl, ⟨nd, rfl⟩⟩))
                go_roundg kj37
                case measure => have := HJ1.out; have := HK2.out; have := HJ23.out; have := HK4.out; have := HJ37.out; omega
                case rel => exact ⟨(t125), (wrap64 (x5_4 + 1)), TT, TT, H', ⟨by have := HJ1.out; have := HK2.out; have := HJ23.out; have := HK4.out; have := HJ37.out; omega⟩, ⟨TK BK114.out⟩, ⟨TB1 GE114.out⟩⟩
               ·replace c45 := Bool.eq_false_iff.mpr c45
                subst c45
                have H1 : (saronlaw03_sound.l1 kj37 false (wrap64 (x5_4 + 1)) l0_0 a0_1 a0_2 l0_3) = some r := by rw [if_neg (show ¬ (false = true) by decide)] at H; exact H
                clear H
                have H := H1
                clear H1
                have H' := Aside0.mk H
                clear H
                have hcz50_0 := cz BK114.out 0
                have hcz50_1 := cz BK114.out 1
                have hcz50_2 := cz BK114.out 2
                have hcz50_3 := cz BK114.out 3
                have hfz50_0 := fz BK114.out 0
                have hfz50_1 := fz BK114.out 1
                have hfz50_2 := fz BK114.out 2
                have hfz50_3 := fz BK114.out 3
                have p122 : 0 ≤ (x5_4 : Int) := of_decide_eq_true TA
                have q122 : x5_4 < (l0_3.length : Int) := of_decide_eq_true TA
                obtain ⟨ad122, e122, hx122_0, hx122_1, hx122_2⟩ := at_T69 HR0_3.out x5_4 p122 q122
                cases e122
                replace hx122_0 := hx HB.out hx122_0
                replace hx122_1 := hx HB.out hx122_1
                replace hx122_2 := hx HB.out hx122_2
                replace p122 := eq_true p122
                replace q122 := eq_true q122
                go_wp2_with (first | ((with_reducible refine gate_callee (f := 60) rfl ?_); refine goesL_ (some 68) rfl rfl Tryd.func60 (by kernel_rfl) rfl #[.agg #[.int .i64 ((rd_T69 l0_3 x5_4).f0.f0), .int .i64 ((rd_T69 l0_3 x5_4).f0.f1)], .int .i64 (-60), .int .i64 60] rfl TM ?_; (with_reducible refine (saronref00_Good.calls ((rd_T69 l0_3 x5_4).f0.f0) ((rd_T69 l0_3 x5_4).f0.f1) (-60) 60 false _ A44.out).mono ?_); rintro e w51 ⟨rfl, hb⟩; refine ⟨_, rfl, ?_⟩; replace BK114 := Aside0.mk (TKb hb BK114.out); replace HB := Aside0.mk (below_step (TB1 GE114.out) hb); (try clear hb); (try clear hb2); (try clear hk); (try clear hi)))
                go_roundg kj37
                case measure => have := HJ1.out; have := HK2.out; have := HJ23.out; have := HK4.out; have := HJ37.out; omega
                case rel => exact ⟨(false), (wrap64 (x5_4 + 1)), TT, TT, H', ⟨by have := HJ1.out; have := HK2.out; have := HJ23.out; have := HK4.out; have := HJ37.out; omega⟩, ⟨TK BK114.out⟩, ⟨TB1 GE114.out⟩⟩
              ·rw [if_neg c43] at H
               exact absurd H (by simp)
             ·rw [if_neg c42] at H
              exact absurd H (by simp)
            ·replace c41 := Bool.eq_false_iff.mpr c41
             subst c41
             have H1 : (some x3_4) = some r := by rw [if_neg (show ¬ (false = true) by decide)] at H; exact H
             clear H
             have H := H1
             clear H1
             obtain rfl := Option.some.inj H
             go_wp2
             go_ret
             exact ⟨TR, TB1 GE114.out⟩
end Go.Proofs.YtfmpbkolpjlfbaaDoor.PRaspKeys
namespace Go.Proofs.YtfmpbkolpjlfbaaDoor.PRaspKeys
open Go.RowKit Go.Proofs.YtfmpbkolpjlfbaaDoorW.PrintWords Go.Proofs.YtfmpbkolpjlfbaaDoorW.PrintLast Go.Proofs.YtfmpbkolpjlfbaaDoorW.PrintMore Go.Proofs.YtfmpbkolpjlfbaaDoor.M
attribute [local go_sem] max2_int min2_int max_two min_two max_three min_three max_four min_four   -- for this text's walks alone
/-! ### saronref00_Turn: function 45 -/
def saronref00_Turn.f (a0 : Int) (a1 : Int) : Option (Int) := if a1 < 1 then (some 0) else (if a1 = 0 then (none) else (if (Int.tmod a0 a1) < 0 then (some (wrap64 ((Int.tmod a0 a1) + a1))) else (some (Int.tmod a0 a1))))
set_option maxHeartbeats 8000000 in
set_option maxRecDepth 100000 in
theorem saronref00_Turn.calls (a0 : Int) (a1 : Int) (r : Int) (w : World) (h : saronref00_Turn.f a0 a1 = some r) :
  Calls Tryd.prog 45 #[.int .i64 a0, .int .i64 a1] w fun e w' => e = .returned (.int .i64 r) ∧ Drawn0 w w' := by
 have H : (if a1 < 1 then (some 0) else (if a1 = 0 then (none) else (if (Int.tmod a0 a1) < 0 then (some (wrap64 ((Int.tmod a0 a1) + a1))) else (some (Int.tmod a0 a1))))) = some r := h
 clear h
 by_cases c3 : a1 < 1
 ·rw [if_pos c3] at H
  have c3b0 : decide (a1 < 1) = true := decide_eq_true c3
  clear c3
  obtain rfl := Option.some.inj H
  go_enter Tryd.func45, Tryd.ntmps45
  go_wp2
  go_ret
  exact ⟨by first | rfl | (simp; done) | (simp [*]; done), by repeat (first | exact Drawn0.refl _ | apply Drawn0.step)⟩
 ·rw [if_neg c3] at H
  have c3b0 : decide (a1 < 1) = false := decide_eq_false c3
  clear c3
  by_cases c4 : a1 = 0
  ·rw [if_pos c4] at H
   exact absurd H (by simp)
  ·rw [if_neg c4] at H
   have c4b0 : (a1 == 0) = false := beq_eq_false_iff_ne.mpr c4
   have c4b1 : (a1 != 0) = true := bne_iff_ne.mpr c4
   by_cases c5 : (Int.tmod a0 a1) < 0
   ·rw [if_pos c5] at H
    have c5b0 : decide ((Int.tmod a0 a1) < 0) = true := decide_eq_true c5
    clear c5
    obtain rfl := Option.some.inj H
    go_enter Tryd.func45, Tryd.ntmps45
    go_wp2
    go_ret
    exact ⟨by first | rfl | (simp; done) | (simp [*]; done), by repeat (first | exact Drawn0.refl _ | apply Drawn0.step)⟩
   ·rw [if_neg c5] at H
    have c5b0 : decide ((Int.tmod a0 a1) < 0) = false := decide_eq_false c5
    clear c5
    obtain rfl := Option.some.inj H
    go_enter Tryd.func45, Tryd.ntmps45
    go_wp2
    go_ret
    exact ⟨by first | rfl | (simp; done) | (simp [*]; done), by repeat (first | exact Drawn0.refl _ | apply Drawn0.step)⟩
/-! ### saronlaw03_state: function 38 -/
def saronlaw03_state.f (a0_0 : Int) (a0_1 : Int) : Option (Int × Int) := (saronref00_Turn.f a0_0 121).bind fun t127 => ((saronref00_Turn.f a0_1 31).bind fun t128 => (some (wrap64 (t127 - 60), t128)))
set_option maxHeartbeats 8000000 in
set_option maxRecDepth 100000 in
theorem saronlaw03_state.calls (a0_0 : Int) (a0_1 : Int) (r1 : Int) (r2 : Int) (w : World) (h : saronlaw03_state.f a0_0 a0_1 = some (r1, r2)) :
  Calls Tryd.prog 38 #[.agg #[.int .i64 a0_0, .int .i64 a0_1]] w fun e w' => e = .returned (.tuple #[.int .i64 r1, .int .i64 r2]) ∧ Below w.heap.size w w' := by
 have hu28 := Tryd.underlying28
 have HB := Aside0.mk (Below.refl w.heap.size w)
 have H : ((saronref00_Turn.f a0_0 121).bind fun t127 => ((saronref00_Turn.f a0_1 31).bind fun t128 => (some (wrap64 (t127 - 60), t128)))) = some (r1, r2) := h
 clear h
 replace H := Option.bind_eq_some_iff.mp H
 obtain ⟨t127, A20, H⟩ := H
 replace H : ((saronref00_Turn.f a0_1 31).bind fun t128 => (some (wrap64 (t127 - 60), t128))) = some (r1, r2) := H
 have A2 := Aside0.mk A20
 clear A20
 replace H := Option.bind_eq_some_iff.mp H
 obtain ⟨t128, A30, H⟩ := H
 replace H : (some (wrap64 (t127 - 60), t128)) = some (r1, r2) := H
 have A3 := Aside0.mk A30
 clear A30
 simp only [Option.some.injEq, Prod.mk.injEq] at H
 obtain ⟨rfl, rfl⟩ := H
 go_enter Tryd.func38, Tryd.ntmps38
 go_wp2_with (first | ((with_reducible refine gate_dst (N := 1) rfl ?_); refine box_event ?hg (N := 1) ?hd (cs := #[.int .i64 a0_0, .int .i64 a0_1]) (t := 28) ?hr ?_; (case hd => rfl); (case hg => rfl); (case hr => exact TS); intro gb126 hg w4 hbox hb; have BK126 := Aside0.mk (hbox); have GW126 := Aside0.mk ((TG : w.heap.size ≤ gb126)); have GE126 := Aside0.mk ((TG : w.heap.size ≤ gb126)); replace HB := Aside0.mk (below_step TB hb); clear hb hbox hg; have hcz5_0 := cz BK126.out 0; have hcz5_1 := cz BK126.out 1; have hfz5_0 := fz BK126.out 0; have hfz5_1 := fz BK126.out 1) | (go_at_call 45; (with_reducible refine (saronref00_Turn.calls a0_0 121 t127 _ A2.out).mono ?_); rintro e w' ⟨rfl, ⟨nd, rfl⟩⟩; (try first | exact ⟨rfl, _, World.drewN_drewN _ _ _⟩ | exact ⟨rfl, _, Eq.trans (World.drewN_drewN _ _ _) (congrArg (World.drewN _) (Nat.add_assoc _ _ _))⟩)) | (go_at_call 45; (with_reducible refine (saronref00_Turn.calls a0_1 31 t128 _ A3.out).mono ?_); rintro e w' ⟨rfl, ⟨nd, rfl⟩⟩; (try first | exact ⟨rfl, _, World.drewN_drewN _ _ _⟩ | exact ⟨rfl, _, Eq.trans (World.drewN_drewN _ _ _) (congrArg (World.drewN _) (Nat.add_assoc _ _ _))⟩)))
 repeat (go_quiet (first | ((with_reducible refine gate_dst (N := 1) rfl ?_); refine box_event ?hg (N := 1) ?hd (cs := #[.int .i64 a0_0, .int .i64 a0_1]) (t := 28) ?hr ?_; (case hd => rfl); (case hg => rfl); (case hr => exact TS); intro gb126 hg w4 hbox hb; have BK126 := Aside0.mk (hbox); have GW126 := Aside0.mk ((TG : w.heap.size ≤ gb126)); have GE126 := Aside0.mk ((TG : w.heap.size ≤ gb126)); replace HB := Aside0.mk (below_step TB hb); clear hb hbox hg; have hcz5_0 := cz BK126.out 0; have hcz5_1 := cz BK126.out 1; have hfz5_0 := fz BK126.out 0; have hfz5_1 := fz BK126.out 1) | (go_at_call 45; (with_reducible refine (saronref00_Turn.calls a0_0 121 t127 _ A2.out).mono ?_); rintro e w' ⟨rfl, ⟨nd, rfl⟩⟩; (try first | exact ⟨rfl, _, World.drewN_drewN _ _ _⟩ | exact ⟨rfl, _, Eq.trans (World.drewN_drewN _ _ _) (congrArg (World.drewN _) (Nat.add_assoc _ _ _))⟩)) | (go_at_call 45; (with_reducible refine (saronref00_Turn.calls a0_1 31 t128 _ A3.out).mono ?_); rintro e w' ⟨rfl, ⟨nd, rfl⟩⟩; (try first | exact ⟨rfl, _, World.drewN_drewN _ _ _⟩ | exact ⟨rfl, _, Eq.trans (World.drewN_drewN _ _ _) (congrArg (World.drewN _) (Nat.add_assoc _ _ _))⟩))); try go_wp2_with (first | ((with_reducible refine gate_dst (N := 1) rfl ?_); refine box_event ?hg (N := 1) ?hd (cs := #[.int .i64 a0_0, .int .i64 a0_1]) (t := 28) ?hr ?_; (case hd => rfl); (case hg => rfl); (case hr => exact TS); intro gb126 hg w4 hbox hb; have BK126 := Aside0.mk (hbox); have GW126 := Aside0.mk ((TG : w.heap.size ≤ gb126)); have GE126 := Aside0.mk ((TG : w.heap.size ≤ gb126)); replace HB := Aside0.mk (below_step TB hb); clear hb hbox hg; have hcz5_0 := cz BK126.out 0; have hcz5_1 := cz BK126.out 1; have hfz5_0 := fz BK126.out 0; have hfz5_1 := fz BK126.out 1) | (go_at_call 45; (with_reducible refine (saronref00_Turn.calls a0_0 121 t127 _ A2.out).mono ?_); rintro e w' ⟨rfl, ⟨nd, rfl⟩⟩; (try first | exact ⟨rfl, _, World.drewN_drewN _ _ _⟩ | exact ⟨rfl, _, Eq.trans (World.drewN_drewN _ _ _) (congrArg (World.drewN _) (Nat.add_assoc _ _ _))⟩)) | (go_at_call 45; (with_reducible refine (saronref00_Turn.calls a0_1 31 t128 _ A3.out).mono ?_); rintro e w' ⟨rfl, ⟨nd, rfl⟩⟩; (try first | exact ⟨rfl, _, World.drewN_drewN _ _ _⟩ | exact ⟨rfl, _, Eq.trans (World.drewN_drewN _ _ _) (congrArg (World.drewN _) (Nat.add_assoc _ _ _))⟩))))
 go_ret2
 exact ⟨TR, TB1 GE126.out⟩
/-! ### saronref00_Draw: function 41 -/
def saronref00_Draw.f (a0_0 : Int) (a0_1 : Int) (a1 : Int) : Option (Int) := if a0_1 ≤ a0_0 then (some a0_0) else (if (wrap64 ((wrap64 (a0_1 - a0_0)) + 1)) < 1 then (some (mn (mx a1 a0_0) a0_1)) else ((saronref00_Turn.f a1 (wrap64 ((wrap64 (a0_1 - a0_0)) + 1))).bind fun t132 => (some (wrap64 (a0_0 + t132)))))
set_option maxHeartbeats 8000000 in
set_option maxRecDepth 100000 in
theorem saronref00_Draw.calls (a0_0 : Int) (a0_1 : Int) (a1 : Int) (r : Int) (w : World) (h : saronref00_Draw.f a0_0 a0_1 a1 = some r) :
  Calls Tryd.prog 41 #[.agg #[.int .i64 a0_0, .int .i64 a0_1], .int .i64 a1] w fun e w' => e = .returned (.int .i64 r) ∧ Below w.heap.size w w' := by
 have hu24 := Tryd.underlying24
 have HB := Aside0.mk (Below.refl w.heap.size w)
 have H : (if a0_1 ≤ a0_0 then (some a0_0) else (if (wrap64 ((wrap64 (a0_1 - a0_0)) + 1)) < 1 then (some (mn (mx a1 a0_0) a0_1)) else ((saronref00_Turn.f a1 (wrap64 ((wrap64 (a0_1 - a0_0)) + 1))).bind fun t132 => (some (wrap64 (a0_0 + t132)))))) = some r := h
 clear h
 by_cases c3 : a0_1 ≤ a0_0
 ·rw [if_pos c3] at H
  have c3b0 : decide (a0_1 ≤ a0_0) = true := decide_eq_true c3
  clear c3
  obtain rfl := Option.some.inj H
  go_enter Tryd.func41, Tryd.ntmps41
  go_wp2_with (first | ((with_reducible refine gate_dst (N := 2) rfl ?_); refine box_event ?hg (N := 2) ?hd (cs := #[.int .i64 a0_0, .int .i64 a0_1]) (t := 24) ?hr ?_; (case hd => rfl); (case hg => rfl); (case hr => exact TS); intro gb131 hg w4 hbox hb; have BK131 := Aside0.mk (hbox); have GW131 := Aside0.mk ((TG : w.heap.size ≤ gb131)); have GE131 := Aside0.mk ((TG : w.heap.size ≤ gb131)); replace HB := Aside0.mk (below_step TB hb); clear hb hbox hg; have hcz5_0 := cz BK131.out 0; have hcz5_1 := cz BK131.out 1; have hfz5_0 := fz BK131.out 0; have hfz5_1 := fz BK131.out 1))
  repeat (go_quiet (first | ((with_reducible refine gate_dst (N := 2) rfl ?_); refine box_event ?hg (N := 2) ?hd (cs := #[.int .i64 a0_0, .int .i64 a0_1]) (t := 24) ?hr ?_; (case hd => rfl); (case hg => rfl); (case hr => exact TS); intro gb131 hg w4 hbox hb; have BK131 := Aside0.mk (hbox); have GW131 := Aside0.mk ((TG : w.heap.size ≤ gb131)); have GE131 := Aside0.mk ((TG : w.heap.size ≤ gb131)); replace HB := Aside0.mk (below_step TB hb); clear hb hbox hg; have hcz5_0 := cz BK131.out 0; have hcz5_1 := cz BK131.out 1; have hfz5_0 := fz BK131.out 0; have hfz5_1 := fz BK131.out 1)); try go_wp2_with (first | ((with_reducible refine gate_dst (N := 2) rfl ?_); refine box_event ?hg (N := 2) ?hd (cs := #[.int .i64 a0_0, .int .i64 a0_1]) (t := 24) ?hr ?_; (case hd => rfl); (case hg => rfl); (case hr => exact TS); intro gb131 hg w4 hbox hb; have BK131 := Aside0.mk (hbox); have GW131 := Aside0.mk ((TG : w.heap.size ≤ gb131)); have GE131 := Aside0.mk ((TG : w.heap.size ≤ gb131)); replace HB := Aside0.mk (below_step TB hb); clear hb hbox hg; have hcz5_0 := cz BK131.out 0; have hcz5_1 := cz BK131.out 1; have hfz5_0 := fz BK131.out 0; have hfz5_1 := fz BK131.out 1)))
  go_ret
  exact ⟨TR, TB1 GE131.out⟩
 ·rw [if_neg c3] at H
  have c3b0 : decide (a0_1 ≤ a0_0) = false := decide_eq_false c3
  clear c3
  by_cases c6 : (wrap64 ((wrap64 (a0_1 - a0_0)) + 1)) < 1
  ·rw [if_pos c6] at H
   have c6b0 : decide ((wrap64 ((wrap64 (a0_1 - a0_0)) + 1)) < 1) = true := decide_eq_true c6
   clear c6
   obtain ⟨ji7, hji7⟩ : ∃ j_ : Int, (mx a1 a0_0) = j_ := ⟨_, rfl⟩
   replace H : (some (mn (ji7) a0_1)) = some r := by first | (rw [hji7] at H; exact H) | (simp only [hji7] at H ⊢; exact H)
   have hji7_ : (if a1 < a0_0 then a0_0 else a1) = ji7 := hji7
   obtain ⟨ji8, hji8⟩ : ∃ j_ : Int, (mn (ji7) a0_1) = j_ := ⟨_, rfl⟩
   replace H : (some ji8) = some r := by first | (rw [hji8] at H; exact H) | (simp only [hji8] at H ⊢; exact H)
   have hji8_ : (if a0_1 < (ji7) then a0_1 else (ji7)) = ji8 := hji8
   obtain rfl := Option.some.inj H
   go_enter Tryd.func41, Tryd.ntmps41
   go_wp2_with (first | ((with_reducible refine gate_dst (N := 2) rfl ?_); refine box_event ?hg (N := 2) ?hd (cs := #[.int .i64 a0_0, .int .i64 a0_1]) (t := 24) ?hr ?_; (case hd => rfl); (case hg => rfl); (case hr => exact TS); intro gb131 hg w9 hbox hb; have BK131 := Aside0.mk (hbox); have GW131 := Aside0.mk ((TG : w.heap.size ≤ gb131)); have GE131 := Aside0.mk ((TG : w.heap.size ≤ gb131)); replace HB := Aside0.mk (below_step TB hb); clear hb hbox hg; have hcz10_0 := cz BK131.out 0; have hcz10_1 := cz BK131.out 1; have hfz10_0 := fz BK131.out 0; have hfz10_1 := fz BK131.out 1))
   repeat (go_quiet (first | ((with_reducible refine gate_dst (N := 2) rfl ?_); refine box_event ?hg (N := 2) ?hd (cs := #[.int .i64 a0_0, .int .i64 a0_1]) (t := 24) ?hr ?_; (case hd => rfl); (case hg => rfl); (case hr => exact TS); intro gb131 hg w9 hbox hb; have BK131 := Aside0.mk (hbox); have GW131 := Aside0.mk ((TG : w.heap.size ≤ gb131)); have GE131 := Aside0.mk ((TG : w.heap.size ≤ gb131)); replace HB := Aside0.mk (below_step TB hb); clear hb hbox hg; have hcz10_0 := cz BK131.out 0; have hcz10_1 := cz BK131.out 1; have hfz10_0 := fz BK131.out 0; have hfz10_1 := fz BK131.out 1)); try go_wp2_with (first | ((with_reducible refine gate_dst (N := 2) rfl ?_); refine box_event ?hg (N := 2) ?hd (cs := #[.int .i64 a0_0, .int .i64 a0_1]) (t := 24) ?hr ?_; (case hd => rfl); (case hg => rfl); (case hr => exact TS); intro gb131 hg w9 hbox hb; have BK131 := Aside0.mk (hbox); have GW131 := Aside0.mk ((TG : w.heap.size ≤ gb131)); have GE131 := Aside0.mk ((TG : w.heap.size ≤ gb131)); replace HB := Aside0.mk (below_step TB hb); clear hb hbox hg; have hcz10_0 := cz BK131.out 0; have hcz10_1 := cz BK131.out 1; have hfz10_0 := fz BK131.out 0; have hfz10_1 := fz BK131.out 1)))
   go_ret
   exact ⟨by first | rfl | (simp [errW_none, errW_some] <;> rfl) | (simp only [← hji7, ← hji8]; first | rfl | (simp [errW_none, errW_some] <;> rfl)) | (simp [*, errW_none, errW_some] <;> rfl), TB1 GE131.out⟩
  ·rw [if_neg c6] at H
   have c6b0 : decide ((wrap64 ((wrap64 (a0_1 - a0_0)) + 1)) < 1) = false := decide_eq_false c6
   clear c6
   replace H := Option.bind_eq_some_iff.mp H
   obtain ⟨t132, A110, H⟩ := H
   replace H : (some (wrap64 (a0_0 + t132))) = some r := H
   have A11 := Aside0.mk A110
   clear A110
   obtain rfl := Option.some.inj H
   go_enter Tryd.func41, Tryd.ntmps41
   go_wp2_with (first | ((with_reducible refine gate_dst (N := 2) rfl ?_); refine box_event ?hg (N := 2) ?hd (cs := #[.int .i64 a0_0, .int .i64 a0_1]) (t := 24) ?hr ?_; (case hd => rfl); (case hg => rfl); (case hr => exact TS); intro gb131 hg w12 hbox hb; have BK131 := Aside0.mk (hbox); have GW131 := Aside0.mk ((TG : w.heap.size ≤ gb131)); have GE131 := Aside0.mk ((TG : w.heap.size ≤ gb131)); replace HB := Aside0.mk (below_step TB hb); clear hb hbox hg; have hcz13_0 := cz BK131.out 0; have hcz13_1 := cz BK131.out 1; have hfz13_0 := fz BK131.out 0; have hfz13_1 := fz BK131.out 1) | (go_at_call 45; (with_reducible refine (saronref00_Turn.calls a1 (wrap64 ((wrap64 (a0_1 - a0_0)) + 1)) t132 _ A11.out).mono ?_); rintro e w' ⟨rfl, ⟨nd, rfl⟩⟩; (try first | exact ⟨rfl, _, World.drewN_drewN _ _ _⟩ | exact ⟨rfl, _, Eq.trans (World.drewN_drewN _ _ _) (congrArg (World.drewN _) (Nat.add_assoc _ _ _))⟩)))
   repeat (go_quiet (first | ((with_reducible refine gate_dst (N := 2) rfl ?_); refine box_event ?hg (N := 2) ?hd (cs := #[.int .i64 a0_0, .int .i64 a0_1]) (t := 24) ?hr ?_; (case hd => rfl); (case hg => rfl); (case hr => exact TS); intro gb131 hg w12 hbox hb; have BK131 := Aside0.mk (hbox); have GW131 := Aside0.mk ((TG : w.heap.size ≤ gb131)); have GE131 := Aside0.mk ((TG : w.heap.size ≤ gb131)); replace HB := Aside0.mk (below_step TB hb); clear hb hbox hg; have hcz13_0 := cz BK131.out 0; have hcz13_1 := cz BK131.out 1; have hfz13_0 := fz BK131.out 0; have hfz13_1 := fz BK131.out 1) | (go_at_call 45; (with_reducible refine (saronref00_Turn.calls a1 (wrap64 ((wrap64 (a0_1 - a0_0)) + 1)) t132 _ A11.out).mono ?_); rintro e w' ⟨rfl, ⟨nd, rfl⟩⟩; (try first | exact ⟨rfl, _, World.drewN_drewN _ _ _⟩ | exact ⟨rfl, _, Eq.trans (World.drewN_drewN _ _ _) (congrArg (World.drewN _) (Nat.add_assoc _ _ _))⟩))); try go_wp2_with (first | ((with_reducible refine gate_dst (N := 2) rfl ?_); refine box_event ?hg (N := 2) ?hd (cs := #[.int .i64 a0_0, .int .i64 a0_1]) (t := 24) ?hr ?_; (case hd => rfl); (case hg => rfl); (case hr => exact TS); intro gb131 hg w12 hbox hb; have BK131 := Aside0.mk (hbox); have GW131 := Aside0.mk ((TG : w.heap.size ≤ gb131)); have GE131 := Aside0.mk ((TG : w.heap.size ≤ gb131)); replace HB := Aside0.mk (below_step TB hb); clear hb hbox hg; have hcz13_0 := cz BK131.out 0; have hcz13_1 := cz BK131.out 1; have hfz13_0 := fz BK131.out 0; have hfz13_1 := fz BK131.out 1) | (go_at_call 45; (with_reducible refine (saronref00_Turn.calls a1 (wrap64 ((wrap64 (a0_1 - a0_0)) + 1)) t132 _ A11.out).mono ?_); rintro e w' ⟨rfl, ⟨nd, rfl⟩⟩; (try first | exact ⟨rfl, _, World.drewN_drewN _ _ _⟩ | exact ⟨rfl, _, Eq.trans (World.drewN_drewN _ _ _) (congrArg (World.drewN _) (Nat.add_assoc _ _ _))⟩))))
   go_ret
   exact ⟨TR, TB1 GE131.out⟩
/-! ### saronref00_Nth: function 42 -/
def saronref00_Nth.f (l0 : List Int) (a1 : Int) : Option (Int) := if (l0.length : Int) = 0 then (some 0) else ((saronref00_Turn.f a1 (l0.length : Int)).bind fun t133 => (if 0 ≤ t133 then (if t133 < (l0.length : Int) then (some (rd l0 t133)) else (none)) else (none)))
set_option maxHeartbeats 8000000 in
set_option maxRecDepth 100000 in
theorem saronref00_Nth.calls (A0 : Option Addr) (c0 : Nat) (l0 : List Int) (a1 : Int) (r : Int) (w : World) (hr0 : Kd.C (Kd.int .i64) w A0 l0.length l0) (hc0 : l0.length ≤ c0) (h : saronref00_Nth.f l0 a1 = some r) :
  Calls Tryd.prog 42 #[.slice A0 l0.length c0, .int .i64 a1] w fun e w' => e = .returned (.int .i64 r) ∧ Drawn0 w w' := by
 have HR0 := Aside0.mk hr0
 have HC0 := Aside0.mk hc0
 clear hr0 hc0
 have H : (if (l0.length : Int) = 0 then (some 0) else ((saronref00_Turn.f a1 (l0.length : Int)).bind fun t133 => (if 0 ≤ t133 then (if t133 < (l0.length : Int) then (some (rd l0 t133)) else (none)) else (none)))) = some r := h
 clear h
 by_cases c3 : (l0.length : Int) = 0
 ·rw [if_pos c3] at H
  have c3b0 : ((l0.length : Int) == 0) = true := beq_iff_eq.mpr c3
  have c3b1 : ((l0.length : Int) != 0) = false := bne_eq_false_iff_eq.mpr c3
  clear c3
  obtain rfl := Option.some.inj H
  go_enter Tryd.func42, Tryd.ntmps42
  go_wp2
  go_ret
  exact ⟨by first | rfl | (simp; done) | (simp [*]; done), by repeat (first | exact Drawn0.refl _ | apply Drawn0.step)⟩
 ·rw [if_neg c3] at H
  have c3b0 : ((l0.length : Int) == 0) = false := beq_eq_false_iff_ne.mpr c3
  have c3b1 : ((l0.length : Int) != 0) = true := bne_iff_ne.mpr c3
  have c3b2 : ¬ (l0 = []) := fun h_ => c3 (by rw [h_]; rfl)
  replace H := Option.bind_eq_some_iff.mp H
  obtain ⟨t133, A40, H⟩ := H
  replace H : (if 0 ≤ t133 then (if t133 < (l0.length : Int) then (some (rd l0 t133)) else (none)) else (none)) = some r := H
  have A4 := Aside0.mk A40
  clear A40
  by_cases c5 : 0 ≤ t133
  ·rw [if_pos c5] at H
   have c5b0 : decide (0 ≤ t133) = true := decide_eq_true c5
   clear c5
   by_cases c6 : t133 < (l0.length : Int)
   ·rw [if_pos c6] at H
    have c6b0 : decide (t133 < (l0.length : Int)) = true := decide_eq_true c6
    clear c6
    obtain rfl := Option.some.inj H
    go_enter Tryd.func42, Tryd.ntmps42
    go_wp2_with (first | ((with_reducible refine gate_callee (f := 45) rfl ?_); refine goesL_ (some 12) rfl rfl Tryd.func45 (by kernel_rfl) rfl #[.int .i64 a1, .int .i64 (l0.length : Int)] rfl TM ?_; (with_reducible refine (saronref00_Turn.calls a1 (l0.length : Int) t133 _ A4.out).mono ?_); rintro e w' ⟨rfl, ⟨nd, rfl⟩⟩; refine ⟨_, rfl, ?_⟩; have p134 : 0 ≤ (t133 : Int) := of_decide_eq_true TA; have q134 : t133 < (l0.length : Int) := of_decide_eq_true TA; obtain ⟨ad134, e134, hx134_0⟩ := Kd.at_int HR0.out t133 p134 q134; cases e134; replace p134 := eq_true p134; replace q134 := eq_true q134))
    go_ret
    exact ⟨by first | rfl | (simp; done) | (simp [*]; done), by repeat (first | exact Drawn0.refl _ | apply Drawn0.step)⟩
   ·rw [if_neg c6] at H
    exact absurd H (by simp)
  ·rw [if_neg c5] at H
   exact absurd H (by simp)
end Go.Proofs.YtfmpbkolpjlfbaaDoor.PRaspKeys
