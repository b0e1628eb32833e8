import Derived.Test.YtfdenclnneigfaaDoorCS
import Derived.Test.YtfdenclnneigfaaDoorS30
import Derived.Test.YtfdenclnneigfaaDoorHF
import Derived.Test.YtfdenclnneigfaaDoorM0
import Derived.Test.YtfdenclnneigfaaDoorProg
import Derived.Below
import Derived.Deep.Draws
import Derived.Deep.AppendLies
import Derived.Maps.AppendAt
import Derived.OwnWalk
import Derived.Laws.BytesArg
import Derived.Laws.MakeOwn
import Derived.Laws.OwnMore
import Derived.Deep.OwnRows
import Derived.Tactics
import Derived.Lib.ConvBytes
import Derived.Laws.Slices
import Derived.WalkKit
import Derived.KernelRfl
import Derived.RowKit3
import Derived.Deep.LoopGhost
import Derived.Deep.QuietTactic
import Derived.BigQuiet
import Derived.WideLaws
import Derived.Deep.DeepCutAuto
import Derived.Deep.CutBlock
import Derived.Deep.RegionHeld3
import Derived.Laws.Rows
import Derived.Lib.AppendStr
import Derived.ArgAppend
import Derived.Laws.IdiomCopy
import Derived.OrdersHeld
import Derived.Laws.BitsLemmas
import Derived.RowKit
set_option linter.unusedVariables false
set_option linter.unusedSimpArgs false
namespace Go.Proofs.YtfdenclnneigfaaDoor.PRaspKeys
open Go.RowKit Go.Proofs.YtfdenclnneigfaaDoorW.PrintWords Go.Proofs.YtfdenclnneigfaaDoorW.PrintLast Go.Proofs.YtfdenclnneigfaaDoorW.PrintMore Go.Proofs.YtfdenclnneigfaaDoor.M
attribute [local go_sem] max2_int min2_int max_two min_two max_three min_three max_four min_four   -- for this text's walks alone
end Go.Proofs.YtfdenclnneigfaaDoor.PRaspKeys
namespace Go.Proofs.YtfdenclnneigfaaDoor.PRaspKeys
open Go.RowKit Go.Proofs.YtfdenclnneigfaaDoorW.PrintWords Go.Proofs.YtfdenclnneigfaaDoorW.PrintLast Go.Proofs.YtfdenclnneigfaaDoorW.PrintMore Go.Proofs.YtfdenclnneigfaaDoor.M
attribute [local go_sem] max2_int min2_int max_two min_two max_three min_three max_four min_four   -- for this text's walks alone
/-! ### saronlaw09_fair: function 41 -/
mutual
def saronlaw09_fair.j0 : Nat → Bool → List Int → List Int → Int → Int → Option (Bool)
 | 0, _, _, _, _, _ => none
 | k + 1, x3, x105000, x105001, x105002, x105003 => saronlaw09_fair.l0 k x3 0 x105000 x105001 x105002 x105003
def saronlaw09_fair.l0 : Nat → Bool → Int → List Int → List Int → Int → Int → Option (Bool)
 | 0, _, _, _, _, _, _ => none
 | k + 1, x3, x4, x105000, x105001, x105002, x105003 => if x3 = true then (if x4 < (x105000.length : Int) then (if 0 ≤ x4 then ((saronref00_Sits.f (rd x105000 x4) 0 6).bind fun t110 => (saronlaw09_fair.l0 k t110 (wrap64 (x4 + 1)) x105000 x105001 x105002 x105003)) else (none)) else (some x3)) else (some x3)
end
def saronlaw09_fair.f (k : Nat) (l0_0 : List Int) (l0_1 : List Int) (a0_2 : Int) (a0_3 : Int) : Option (Bool) := (saronref00_Sits.f (l0_0.length : Int) 1 24).bind fun t105 => (if t105 = true then ((saronref00_Grows.f k l0_1 (l0_0.length : Int)).bind fun t106 => (if t106 = true then ((saronref00_Sits.f a0_2 0 6).bind fun t107 => (if t107 = true then ((saronref00_Sits.f a0_3 0 6).bind fun t108 => (saronlaw09_fair.j0 k t108 l0_0 l0_1 a0_2 a0_3)) else (saronlaw09_fair.j0 k false l0_0 l0_1 a0_2 a0_3))) else (saronlaw09_fair.j0 k false l0_0 l0_1 a0_2 a0_3))) else (saronlaw09_fair.j0 k false l0_0 l0_1 a0_2 a0_3))
theorem saronlaw09_fair.mono_l : ∀ k, (∀ y0 y1 y2 y3 y4, LeO (saronlaw09_fair.j0 k y0 y1 y2 y3 y4) (saronlaw09_fair.j0 (k + 1) y0 y1 y2 y3 y4)) ∧ (∀ y0 y1 y2 y3 y4 y5, LeO (saronlaw09_fair.l0 k y0 y1 y2 y3 y4 y5) (saronlaw09_fair.l0 (k + 1) y0 y1 y2 y3 y4 y5))
 | 0 => ⟨fun _ _ _ _ _ r h => by simp [saronlaw09_fair.j0] at h, fun _ _ _ _ _ _ r h => by simp [saronlaw09_fair.l0] at h⟩
 | k + 1 => by
  obtain ⟨ih0, ih1⟩ := saronlaw09_fair.mono_l k
  refine ⟨?_, ?_⟩
  ·intro y0 y1 y2 y3 y4
   unfold saronlaw09_fair.j0
   repeat' first
   | (with_reducible exact ih0 _ _ _ _ _)
   | (with_reducible exact ih1 _ _ _ _ _ _)
   | (with_reducible exact saronref00_Grows.mono _ _ _)
   | (with_reducible exact LeO.refl _)
   | (with_reducible exact LeO.none _)
   | (with_reducible refine LeO.ite ?_ ?_)
   | (with_reducible refine LeO.bind ?_ (fun _ => ?_))
   | exact ih0 _ _ _ _ _
   | exact ih1 _ _ _ _ _ _
   | exact saronref00_Grows.mono _ _ _
   | exact LeO.none _
   | refine LeO.ite ?_ ?_
   | refine LeO.bind ?_ (fun _ => ?_)
  intro y0 y1 y2 y3 y4 y5
  unfold saronlaw09_fair.l0
  repeat' first
  | (with_reducible exact ih0 _ _ _ _ _)
  | (with_reducible exact ih1 _ _ _ _ _ _)
  | (with_reducible exact saronref00_Grows.mono _ _ _)
  | (with_reducible exact LeO.refl _)
  | (with_reducible exact LeO.none _)
  | (with_reducible refine LeO.ite ?_ ?_)
  | (with_reducible refine LeO.bind ?_ (fun _ => ?_))
  | exact ih0 _ _ _ _ _
  | exact ih1 _ _ _ _ _ _
  | exact saronref00_Grows.mono _ _ _
  | exact LeO.none _
  | refine LeO.ite ?_ ?_
  | refine LeO.bind ?_ (fun _ => ?_)
theorem saronlaw09_fair.mono : ∀ a0 a1 a2 a3 k, LeO (saronlaw09_fair.f k a0 a1 a2 a3) (saronlaw09_fair.f (k + 1) a0 a1 a2 a3) := by
 intro a0 a1 a2 a3 k
 obtain ⟨ih0, ih1⟩ := saronlaw09_fair.mono_l k
 unfold saronlaw09_fair.f
 repeat' first
   | (with_reducible exact ih0 _ _ _ _ _)
   | (with_reducible exact ih1 _ _ _ _ _ _)
   | (with_reducible exact saronref00_Grows.mono _ _ _)
   | (with_reducible exact LeO.refl _)
   | (with_reducible exact LeO.none _)
   | (with_reducible refine LeO.ite ?_ ?_)
   | (with_reducible refine LeO.bind ?_ (fun _ => ?_))
   | exact ih0 _ _ _ _ _
   | exact ih1 _ _ _ _ _ _
   | exact saronref00_Grows.mono _ _ _
   | exact LeO.none _
   | refine LeO.ite ?_ ?_
   | refine LeO.bind ?_ (fun _ => ?_)
set_option maxHeartbeats 8000000 in
set_option maxRecDepth 100000 in
theorem saronlaw09_fair.calls (k : Nat) (A0_0 : Option Addr) (c0_0 : Nat) (l0_0 : List Int) (A0_1 : Option Addr) (c0_1 : Nat) (l0_1 : List Int) (a0_2 : Int) (a0_3 : Int) (r : Bool) (w : World) (hr0_0 : Kd.C (Kd.int .i64) w A0_0 l0_0.length l0_0) (hc0_0 : l0_0.length ≤ c0_0) (hr0_1 : Kd.C (Kd.int .i64) w A0_1 l0_1.length l0_1) (hc0_1 : l0_1.length ≤ c0_1) (h : saronlaw09_fair.f k l0_0 l0_1 a0_2 a0_3 = some r) :
  Calls Tryd.prog 41 #[.agg #[.slice A0_0 l0_0.length c0_0, .slice A0_1 l0_1.length c0_1, .int .i64 a0_2, .int .i64 a0_3]] w fun e w' => e = .returned (.bool r) ∧ Below w.heap.size w w' := by
 have hu30 := Tryd.underlying30
 have HR0_0 := Aside0.mk hr0_0
 have HC0_0 := Aside0.mk hc0_0
 clear hr0_0 hc0_0
 have HR0_1 := Aside0.mk hr0_1
 have HC0_1 := Aside0.mk hc0_1
 clear hr0_1 hc0_1
 have HB := Aside0.mk (Below.refl w.heap.size w)
 have H : ((saronref00_Sits.f (l0_0.length : Int) 1 24).bind fun t105 => (if t105 = true then ((saronref00_Grows.f k l0_1 (l0_0.length : Int)).bind fun t106 => (if t106 = true then ((saronref00_Sits.f a0_2 0 6).bind fun t107 => (if t107 = true then ((saronref00_Sits.f a0_3 0 6).bind fun t108 => (saronlaw09_fair.j0 k t108 l0_0 l0_1 a0_2 a0_3)) else (saronlaw09_fair.j0 k false l0_0 l0_1 a0_2 a0_3))) else (saronlaw09_fair.j0 k false l0_0 l0_1 a0_2 a0_3))) else (saronlaw09_fair.j0 k false l0_0 l0_1 a0_2 a0_3))) = some r := h
 clear h
 have HC2 := Aside0.mk H
 clear H
 go_enter Tryd.func41, Tryd.ntmps41
 go_upto_region 1 with (first | ((with_reducible refine gate_dst (N := 1) rfl ?_); (try (refine gate_guard (by rfl) ?_; dsimp only)); refine box_event ?hg (N := 1) ?hd (cs := #[.slice A0_0 l0_0.length c0_0, .slice A0_1 l0_1.length c0_1, .int .i64 a0_2, .int .i64 a0_3]) (t := 30) ?hr ?_; (case hd => rfl); (case hg => rfl); (case hr => exact TS); intro gb104 hg w3 hbox hb; have BK104 := Aside0.mk (hbox); have GW104 := Aside0.mk ((TG : w.heap.size ≤ gb104)); have GE104 := Aside0.mk ((TG : w.heap.size ≤ gb104)); replace HB := Aside0.mk (below_step TB hb); clear hb hbox hg))
 (try simp only [Act.put, lA, lZ, lS])
 go_cut [3] (fun v3 wc => ∃ (kq : Nat) (x3_1 : Bool), v3 = .bool x3_1 ∧ Aside0 (saronlaw09_fair.j0 kq x3_1 l0_0 l0_1 a0_2 a0_3 = some r) ∧ Aside0 (kq ≤ k) ∧ Aside0 (wc.heap[gb104]? = some (.cells #[(.slice A0_0 l0_0.length c0_0), (.slice A0_1 l0_1.length c0_1), .int .i64 a0_2, .int .i64 a0_3] 30 (0, 0))) ∧ Aside0 (Below w.heap.size w wc))
 case first => as_aux_lemma =>
  have H := HC2.out
  clear HC2
  replace H := Option.bind_eq_some_iff.mp H
  obtain ⟨t105, A40, H⟩ := H
  replace H : (if t105 = true then ((saronref00_Grows.f k l0_1 (l0_0.length : Int)).bind fun t106 => (if t106 = true then ((saronref00_Sits.f a0_2 0 6).bind fun t107 => (if t107 = true then ((saronref00_Sits.f a0_3 0 6).bind fun t108 => (saronlaw09_fair.j0 k t108 l0_0 l0_1 a0_2 a0_3)) else (saronlaw09_fair.j0 k false l0_0 l0_1 a0_2 a0_3))) else (saronlaw09_fair.j0 k false l0_0 l0_1 a0_2 a0_3))) else (saronlaw09_fair.j0 k false l0_0 l0_1 a0_2 a0_3)) = some r := H
  have A4 := Aside0.mk A40
  clear A40
  by_cases c5 : t105 = true
  rotate_left
  ·replace c5 := Bool.eq_false_iff.mpr c5
   subst c5
   have H1 : (saronlaw09_fair.j0 k false l0_0 l0_1 a0_2 a0_3) = some r := by rw [if_neg (show ¬ (false = true) by decide)] at H; exact H
   clear H
   have H := H1
   clear H1
   have H' := Aside0.mk H
   clear H
   have hcz14_0 := cz BK104.out 0
   have hcz14_1 := cz BK104.out 1
   have hcz14_2 := cz BK104.out 2
   have hcz14_3 := cz BK104.out 3
   have hfz14_0 := fz BK104.out 0
   have hfz14_1 := fz BK104.out 1
   have hfz14_2 := fz BK104.out 2
   have hfz14_3 := fz BK104.out 3
   go_wp2_with (first | ((with_reducible refine gate_callee (f := 40) rfl ?_); refine goesL_ (some 8) rfl rfl Tryd.func40 (by kernel_rfl) rfl #[.int .i64 (l0_0.length : Int), .int .i64 1, .int .i64 24] rfl TM ?_; (with_reducible refine (saronref00_Sits.calls (l0_0.length : Int) 1 24 false _ A4.out).mono ?_); rintro e w' ⟨rfl, ⟨nd, rfl⟩⟩; refine ⟨_, rfl, ?_⟩))
   go_meet
   case rel => exact ⟨_, (false), TT, H', ⟨by first | omega | exact Nat.le_refl _⟩, ⟨TK BK104.out⟩, ⟨TB1 GE104.out⟩⟩
  subst c5
  have H1 : ((saronref00_Grows.f k l0_1 (l0_0.length : Int)).bind fun t106 => (if t106 = true then ((saronref00_Sits.f a0_2 0 6).bind fun t107 => (if t107 = true then ((saronref00_Sits.f a0_3 0 6).bind fun t108 => (saronlaw09_fair.j0 k t108 l0_0 l0_1 a0_2 a0_3)) else (saronlaw09_fair.j0 k false l0_0 l0_1 a0_2 a0_3))) else (saronlaw09_fair.j0 k false l0_0 l0_1 a0_2 a0_3))) = some r := by rw [if_pos rfl] at H; exact H
  clear H
  have H := H1
  clear H1
  replace H := Option.bind_eq_some_iff.mp H
  obtain ⟨t106, A60, H⟩ := H
  replace H : (if t106 = true then ((saronref00_Sits.f a0_2 0 6).bind fun t107 => (if t107 = true then ((saronref00_Sits.f a0_3 0 6).bind fun t108 => (saronlaw09_fair.j0 k t108 l0_0 l0_1 a0_2 a0_3)) else (saronlaw09_fair.j0 k false l0_0 l0_1 a0_2 a0_3))) else (saronlaw09_fair.j0 k false l0_0 l0_1 a0_2 a0_3)) = some r := H
  have A6 := Aside0.mk A60
  clear A60
  by_cases c7 : t106 = true
  rotate_left
  ·replace c7 := Bool.eq_false_iff.mpr c7
   subst c7
   have H1 : (saronlaw09_fair.j0 k false l0_0 l0_1 a0_2 a0_3) = some r := by rw [if_neg (show ¬ (false = true) by decide)] at H; exact H
   clear H
   have H := H1
   clear H1
   have H' := Aside0.mk H
   clear H
   have hcz13_0 := cz BK104.out 0
   have hcz13_1 := cz BK104.out 1
   have hcz13_2 := cz BK104.out 2
   have hcz13_3 := cz BK104.out 3
   have hfz13_0 := fz BK104.out 0
   have hfz13_1 := fz BK104.out 1
   have hfz13_2 := fz BK104.out 2
   have hfz13_3 := fz BK104.out 3
   go_wp2_with (first | ((with_reducible refine gate_callee (f := 40) rfl ?_); refine goesL_ (some 8) rfl rfl Tryd.func40 (by kernel_rfl) rfl #[.int .i64 (l0_0.length : Int), .int .i64 1, .int .i64 24] rfl TM ?_; (with_reducible refine (saronref00_Sits.calls (l0_0.length : Int) 1 24 true _ A4.out).mono ?_); rintro e w' ⟨rfl, ⟨nd, rfl⟩⟩; refine ⟨_, rfl, ?_⟩) | (go_at_call 42; (with_reducible refine (saronref00_Grows.calls k _ _ l0_1 (l0_0.length : Int) false _ ?side1 ?side2 A6.out).mono ?_); (case side1 => exact TD HR0_1.out (TB1 GE104.out)); (case side2 => exact HC0_1.out); rintro e w' ⟨rfl, ⟨nd, rfl⟩⟩))
   go_meet
   case rel => exact ⟨_, (false), TT, H', ⟨by first | omega | exact Nat.le_refl _⟩, ⟨TK BK104.out⟩, ⟨TB1 GE104.out⟩⟩
  subst c7
  have H1 : ((saronref00_Sits.f a0_2 0 6).bind fun t107 => (if t107 = true then ((saronref00_Sits.f a0_3 0 6).bind fun t108 => (saronlaw09_fair.j0 k t108 l0_0 l0_1 a0_2 a0_3)) else (saronlaw09_fair.j0 k false l0_0 l0_1 a0_2 a0_3))) = some r := by rw [if_pos rfl] at H; exact H
  clear H
  have H := H1
  clear H1
  replace H := Option.bind_eq_some_iff.mp H
  obtain ⟨t107, A80, H⟩ := H
  replace H : (if t107 = true then ((saronref00_Sits.f a0_3 0 6).bind fun t108 => (saronlaw09_fair.j0 k t108 l0_0 l0_1 a0_2 a0_3)) else (saronlaw09_fair.j0 k false l0_0 l0_1 a0_2 a0_3)) = some r := H
  have A8 := Aside0.mk A80
  clear A80
  by_cases c9 : t107 = true
  rotate_left
  ·replace c9 := Bool.eq_false_iff.mpr c9
   subst c9
   have H1 : (saronlaw09_fair.j0 k false l0_0 l0_1 a0_2 a0_3) = some r := by rw [if_neg (show ¬ (false = true) by decide)] at H; exact H
   clear H
   have H := H1
   clear H1
   have H' := Aside0.mk H
   clear H
   have hcz12_0 := cz BK104.out 0
   have hcz12_1 := cz BK104.out 1
   have hcz12_2 := cz BK104.out 2
   have hcz12_3 := cz BK104.out 3
   have hfz12_0 := fz BK104.out 0
   have hfz12_1 := fz BK104.out 1
   have hfz12_2 := fz BK104.out 2
   have hfz12_3 := fz BK104.out 3
   go_wp2_with (first | ((with_reducible refine gate_callee (f := 40) rfl ?_); refine goesL_ (some 8) rfl rfl Tryd.func40 (by kernel_rfl) rfl #[.int .i64 (l0_0.length : Int), .int .i64 1, .int .i64 24] rfl TM ?_; (with_reducible refine (saronref00_Sits.calls (l0_0.length : Int) 1 24 true _ A4.out).mono ?_); rintro e w' ⟨rfl, ⟨nd, rfl⟩⟩; refine ⟨_, rfl, ?_⟩) | (go_at_call 42; (with_reducible refine (saronref00_Grows.calls k _ _ l0_1 (l0_0.length : Int) true _ ?side1 ?side2 A6.out).mono ?_); (case side1 => exact TD HR0_1.out (TB1 GE104.out)); (case side2 => exact HC0_1.out); rintro e w' ⟨rfl, ⟨nd, rfl⟩⟩) | (go_at_call 40; (with_reducible refine (saronref00_Sits.calls a0_2 0 6 false _ A8.out).mono ?_); rintro e w' ⟨rfl, ⟨nd, rfl⟩⟩))
   go_meet
   case rel => exact ⟨_, (false), TT, H', ⟨by first | omega | exact Nat.le_refl _⟩, ⟨TK BK104.out⟩, ⟨TB1 GE104.out⟩⟩
  subst c9
  have H1 : ((saronref00_Sits.f a0_3 0 6).bind fun t108 => (saronlaw09_fair.j0 k t108 l0_0 l0_1 a0_2 a0_3)) = some r := by rw [if_pos rfl] at H; exact H
  clear H
  have H := H1
  clear H1
  replace H := Option.bind_eq_some_iff.mp H
  obtain ⟨t108, A100, H⟩ := H
  replace H : (saronlaw09_fair.j0 k t108 l0_0 l0_1 a0_2 a0_3) = some r := H
  have A10 := Aside0.mk A100
  clear A100
  have H' := Aside0.mk H
  clear H
  have hcz11_0 := cz BK104.out 0
  have hcz11_1 := cz BK104.out 1
  have hcz11_2 := cz BK104.out 2
  have hcz11_3 := cz BK104.out 3
  have hfz11_0 := fz BK104.out 0
  have hfz11_1 := fz BK104.out 1
  have hfz11_2 := fz BK104.out 2
  have hfz11_3 := fz BK104.out 3
  go_wp2_with (first | ((with_reducible refine gate_callee (f := 40) rfl ?_); refine goesL_ (some 8) rfl rfl Tryd.func40 (by kernel_rfl) rfl #[.int .i64 (l0_0.length : Int), .int .i64 1, .int .i64 24] rfl TM ?_; (with_reducible refine (saronref00_Sits.calls (l0_0.length : Int) 1 24 true _ A4.out).mono ?_); rintro e w' ⟨rfl, ⟨nd, rfl⟩⟩; refine ⟨_, rfl, ?_⟩) | (go_at_call 42; (with_reducible refine (saronref00_Grows.calls k _ _ l0_1 (l0_0.length : Int) true _ ?side1 ?side2 A6.out).mono ?_); (case side1 => exact TD HR0_1.out (TB1 GE104.out)); (case side2 => exact HC0_1.out); rintro e w' ⟨rfl, ⟨nd, rfl⟩⟩) | (go_at_call 40; (with_reducible refine (saronref00_Sits.calls a0_2 0 6 true _ A8.out).mono ?_); rintro e w' ⟨rfl, ⟨nd, rfl⟩⟩) | (go_at_call 40; (with_reducible refine (saronref00_Sits.calls a0_3 0 6 t108 _ A10.out).mono ?_); rintro e w' ⟨rfl, ⟨nd, rfl⟩⟩))
  go_meet
  case rel => exact ⟨_, (t108), TT, H', ⟨by first | omega | exact Nat.le_refl _⟩, ⟨TK BK104.out⟩, ⟨TB1 GE104.out⟩⟩
 case rest => as_aux_lemma =>
  clear HC2
  try clear p2
  try clear c4
  try clear c5
  try clear c7
  try clear c9
  try clear hcz11_0 hcz11_1 hcz11_2 hcz11_3
  try clear hcz12_0 hcz12_1 hcz12_2 hcz12_3
  try clear hcz13_0 hcz13_1 hcz13_2 hcz13_3
  try clear hcz14_0 hcz14_1 hcz14_2 hcz14_3
  try clear hfz11_0 hfz11_1 hfz11_2 hfz11_3
  try clear hfz12_0 hfz12_1 hfz12_2 hfz12_3
  try clear hfz13_0 hfz13_1 hfz13_2 hfz13_3
  try clear hfz14_0 hfz14_1 hfz14_2 hfz14_3
  obtain ⟨kq, x3_1, rfl, HA, HJ1, BK104, HB⟩ := hcut
  cases kq with
  | zero => exact absurd HA.out (by simp [saronlaw09_fair.j0])
  | succ kj1 =>
   have H := HA.out
   clear HA
   simp only [saronlaw09_fair.j0] at H
   have H' := Aside0.mk H
   clear H
   go_wp2
   go_loopg [3, 4] kj1 (fun kq v3 v4 w' => ∃ (x3_2 : Bool) (x4_2 : Int), v3 = .bool x3_2 ∧ v4 = .int .i64 x4_2 ∧ Aside0 (saronlaw09_fair.l0 kq x3_2 x4_2 l0_0 l0_1 a0_2 a0_3 = some r) ∧ Aside0 (kq ≤ kj1) ∧ Aside0 (w'.heap[gb104]? = some (.cells #[(.slice A0_0 l0_0.length c0_0), (.slice A0_1 l0_1.length c0_1), .int .i64 a0_2, .int .i64 a0_3] 30 (0, 0))) ∧ Aside0 (Below w.heap.size w w'))
   case atStart => exact ⟨(x3_1), (0), TT, TT, H', ⟨Nat.le_refl _⟩, ⟨TK BK104.out⟩, ⟨TB1 GE104.out⟩⟩
   case round => as_aux_lemma =>
    clear H'
    try clear p2
    try clear c4
    try clear c5
    try clear c7
    try clear c9
    try clear hcz11_0 hcz11_1 hcz11_2 hcz11_3
    try clear hcz12_0 hcz12_1 hcz12_2 hcz12_3
    try clear hcz13_0 hcz13_1 hcz13_2 hcz13_3
    try clear hcz14_0 hcz14_1 hcz14_2 hcz14_3
    try clear hfz11_0 hfz11_1 hfz11_2 hfz11_3
    try clear hfz12_0 hfz12_1 hfz12_2 hfz12_3
    try clear hfz13_0 hfz13_1 hfz13_2 hfz13_3
    try clear hfz14_0 hfz14_1 hfz14_2 hfz14_3
    try clear p2
    obtain ⟨x3_2, x4_2, rfl, rfl, HA, HK2, BK104, HB⟩ := hrel
    cases gk with
    | zero => exact absurd HA.out (by simp [saronlaw09_fair.l0])
    | succ k2 =>
     have H := HA.out
     clear HA
     simp only [saronlaw09_fair.l0] at H
     by_cases c15 : x3_2 = true
     rotate_left
     ·replace c15 := Bool.eq_false_iff.mpr c15
      subst c15
      have H1 : (some false) = some r := by rw [if_neg (show ¬ (false = true) by decide)] at H; exact H
      clear H
      have H := H1
      clear H1
      obtain rfl := Option.some.inj H
      go_wp2
      go_ret
      exact ⟨TR, TB1 GE104.out⟩
     subst c15
     have H1 : (if x4_2 < (l0_0.length : Int) then (if 0 ≤ x4_2 then ((saronref00_Sits.f (rd l0_0 x4_2) 0 6).bind fun t110 => (saronlaw09_fair.l0 k2 t110 (wrap64 (x4_2 + 1)) l0_0 l0_1 a0_2 a0_3)) else (none)) else (some true)) = some r := by rw [if_pos rfl] at H; exact H
     clear H
     have H := H1
     clear H1
     by_cases c16 : x4_2 < (l0_0.length : Int)
     rotate_left
     ·rw [if_neg c16] at H
      have c16b0 : decide (x4_2 < (l0_0.length : Int)) = false := decide_eq_false c16
      clear c16
      obtain rfl := Option.some.inj H
      have hcz20_0 := cz BK104.out 0
      have hcz20_1 := cz BK104.out 1
      have hcz20_2 := cz BK104.out 2
      have hcz20_3 := cz BK104.out 3
      have hfz20_0 := fz BK104.out 0
      have hfz20_1 := fz BK104.out 1
      have hfz20_2 := fz BK104.out 2
      have hfz20_3 := fz BK104.out 3
      go_wp2
      go_ret
      exact ⟨TR, TB1 GE104.out⟩
     rw [if_pos c16] at H
     have c16b0 : decide (x4_2 < (l0_0.length : Int)) = true := decide_eq_true c16
     clear c16
     by_cases c17 : 0 ≤ x4_2
     rotate_left
     ·rw [if_neg c17] at H
      exact absurd H (by simp)
     rw [if_pos c17] at H
     have c17b0 : decide (0 ≤ x4_2) = true := decide_eq_true c17
     clear c17
     replace H := Option.bind_eq_some_iff.mp H
     obtain ⟨t110, A180, H⟩ := H
     replace H : (saronlaw09_fair.l0 k2 t110 (wrap64 (x4_2 + 1)) l0_0 l0_1 a0_2 a0_3) = some r := H
     have A18 := Aside0.mk A180
     clear A180
     have H' := Aside0.mk H
     clear H
     have hcz19_0 := cz BK104.out 0
     have hcz19_1 := cz BK104.out 1
     have hcz19_2 := cz BK104.out 2
     have hcz19_3 := cz BK104.out 3
     have hfz19_0 := fz BK104.out 0
     have hfz19_1 := fz BK104.out 1
     have hfz19_2 := fz BK104.out 2
     have hfz19_3 := fz BK104.out 3
     have p109 : 0 ≤ (x4_2 : Int) := of_decide_eq_true TA
     have q109 : x4_2 < (l0_0.length : Int) := of_decide_eq_true TA
     obtain ⟨ad109, e109, hx109_0⟩ := Kd.at_int HR0_0.out x4_2 p109 q109
     cases e109
     replace hx109_0 := hx HB.out hx109_0
     replace p109 := eq_true p109
     replace q109 := eq_true q109
     go_wp2_with (first | ((with_reducible refine gate_callee (f := 40) rfl ?_); refine goesL_ (some 42) rfl rfl Tryd.func40 (by kernel_rfl) rfl #[.int .i64 (rd l0_0 x4_2), .int .i64 0, .int .i64 6] rfl TM ?_; (with_reducible refine (saronref00_Sits.calls (rd l0_0 x4_2) 0 6 t110 _ A18.out).mono ?_); rintro e w' ⟨rfl, ⟨nd, rfl⟩⟩; refine ⟨_, rfl, ?_⟩))
     go_roundg k2
     case measure => have := HJ1.out; have := HK2.out; omega
     case rel => exact ⟨(t110), (wrap64 (x4_2 + 1)), TT, TT, H', ⟨by have := HJ1.out; have := HK2.out; omega⟩, ⟨TK BK104.out⟩, ⟨TB1 GE104.out⟩⟩
end Go.Proofs.YtfdenclnneigfaaDoor.PRaspKeys
