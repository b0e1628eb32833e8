import Derived.Test.YtfmpbkolpjlfbaaDoorG5
import Derived.Test.YtfmpbkolpjlfbaaDoorCS
import Derived.Test.YtfmpbkolpjlfbaaDoorCH
import Derived.Test.YtfmpbkolpjlfbaaDoorM0
import Derived.Test.YtfmpbkolpjlfbaaDoorProg
import Derived.Below
import Derived.Deep.Draws
import Derived.Deep.AppendLies
import Derived.Maps.AppendAt
import Derived.OwnWalk
import Derived.Laws.BytesArg
import Derived.Laws.MakeOwn
import Derived.Laws.OwnMore
import Derived.Deep.OwnRows
import Derived.Tactics
import Derived.Lib.ConvBytes
import Derived.Laws.Slices
import Derived.WalkKit
import Derived.KernelRfl
import Derived.RowKit3
import Derived.Deep.LoopGhost
import Derived.Deep.QuietTactic
import Derived.BigQuiet
import Derived.WideLaws
import Derived.Deep.DeepCutAuto
import Derived.Deep.CutBlock
import Derived.Deep.RegionHeld3
import Derived.Laws.Rows
import Derived.Lib.AppendStr
import Derived.ArgAppend
import Derived.Laws.IdiomCopy
import Derived.OrdersHeld
import Derived.Laws.BitsLemmas
import Derived.RowKit
set_option linter.unusedVariables false
set_option linter.unusedSimpArgs false
namespace Go.Proofs.YtfmpbkolpjlfbaaDoor.PRaspKeys
open Go.RowKit Go.Proofs.YtfmpbkolpjlfbaaDoorW.PrintWords Go.Proofs.YtfmpbkolpjlfbaaDoorW.PrintLast Go.Proofs.YtfmpbkolpjlfbaaDoorW.PrintMore Go.Proofs.YtfmpbkolpjlfbaaDoor.M
attribute [local go_sem] max2_int min2_int max_two min_two max_three min_three max_four min_four   -- for this text's walks alone
/-! #### struct type 24 -/
/-! #### struct type 57 -/
/-! #### struct type 69 -/
end Go.Proofs.YtfmpbkolpjlfbaaDoor.PRaspKeys
namespace Go.Proofs.YtfmpbkolpjlfbaaDoor.PRaspKeys
open Go.RowKit Go.Proofs.YtfmpbkolpjlfbaaDoorW.PrintWords Go.Proofs.YtfmpbkolpjlfbaaDoorW.PrintLast Go.Proofs.YtfmpbkolpjlfbaaDoorW.PrintMore Go.Proofs.YtfmpbkolpjlfbaaDoor.M
attribute [local go_sem] max2_int min2_int max_two min_two max_three min_three max_four min_four   -- for this text's walks alone
/-! ### saronlaw03_after: function 43 -/
mutual
def saronlaw03_after.l0 : Nat → Int → Int → Int → Int → List (S57) → Int → Int → List (S69) → Int → Int → Int → Option (Int × Bool)
 | 0, _, _, _, _, _, _, _, _, _, _, _ => none
 | k + 1, x2, x3, x10, x11, x185000, x185001, x185002, x185003, x186000, x186001, x186002 => if x11 ≤ x186001 then (if x186002 > x3 then (saronlaw03_after.j1 k x2 x3 x10 x11 true x185000 x185001 x185002 x185003 x186000 x186001 x186002) else ((saronref00_Sits.f (wrap64 (x2 + x11)) (-60) 60).bind fun t186 => (saronlaw03_after.j1 k x2 x3 x10 x11 (!t186) x185000 x185001 x185002 x185003 x186000 x186001 x186002))) else (some (x10, false))
def saronlaw03_after.j1 : Nat → Int → Int → Int → Int → Bool → List (S57) → Int → Int → List (S69) → Int → Int → Int → Option (Int × Bool)
 | 0, _, _, _, _, _, _, _, _, _, _, _, _ => none
 | k + 1, x2, x3, x10, x11, x35, x185000, x185001, x185002, x185003, x186000, x186001, x186002 => if x35 = true then (some (0, true)) else ((rasp_Next.f x185000 x185001 x185002 x185003 (wrap64 (x2 + x11)) (wrap64 (x3 - x186002))).bind fun bt187 => (if bt187.2.2 = 0 then (saronlaw03_after.l0 k x2 x3 (mx x10 bt187.2.1) (wrap64 (x11 + 1)) x185000 x185001 x185002 x185003 x186000 x186001 x186002) else (some (0, true))))
end
def saronlaw03_after.f (k : Nat) (l0_0 : List (S57)) (a0_1 : Int) (a0_2 : Int) (l0_3 : List (S69)) (a1_0 : Int) (a1_1 : Int) (a1_2 : Int) (a2 : Int) (a3 : Int) : Option (Int × Bool) := saronlaw03_after.l0 k a2 a3 0 a1_0 l0_0 a0_1 a0_2 l0_3 a1_0 a1_1 a1_2
theorem saronlaw03_after.mono_l : ∀ k, (∀ y0 y1 y2 y3 y4 y5 y6 y7 y8 y9 y10, LeO (saronlaw03_after.l0 k y0 y1 y2 y3 y4 y5 y6 y7 y8 y9 y10) (saronlaw03_after.l0 (k + 1) y0 y1 y2 y3 y4 y5 y6 y7 y8 y9 y10)) ∧ (∀ y0 y1 y2 y3 y4 y5 y6 y7 y8 y9 y10 y11, LeO (saronlaw03_after.j1 k y0 y1 y2 y3 y4 y5 y6 y7 y8 y9 y10 y11) (saronlaw03_after.j1 (k + 1) y0 y1 y2 y3 y4 y5 y6 y7 y8 y9 y10 y11))
 | 0 => ⟨fun _ _ _ _ _ _ _ _ _ _ _ r h => by simp [saronlaw03_after.l0] at h, fun _ _ _ _ _ _ _ _ _ _ _ _ r h => by simp [saronlaw03_after.j1] at h⟩
 | k + 1 => by
  obtain ⟨ih0, ih1⟩ := saronlaw03_after.mono_l k
  refine ⟨?_, ?_⟩
  ·intro y0 y1 y2 y3 y4 y5 y6 y7 y8 y9 y10
   unfold saronlaw03_after.l0
   repeat' first
   | (with_reducible exact ih0 _ _ _ _ _ _ _ _ _ _ _)
   | (with_reducible exact ih1 _ _ _ _ _ _ _ _ _ _ _ _)
   | (with_reducible exact LeO.refl _)
   | (with_reducible exact LeO.none _)
   | (with_reducible refine LeO.ite ?_ ?_)
   | (with_reducible refine LeO.bind ?_ (fun _ => ?_))
   | exact ih0 _ _ _ _ _ _ _ _ _ _ _
   | exact ih1 _ _ _ _ _ _ _ _ _ _ _ _
   | exact LeO.none _
   | refine LeO.ite ?_ ?_
   | refine LeO.bind ?_ (fun _ => ?_)
  ·intro y0 y1 y2 y3 y4 y5 y6 y7 y8 y9 y10 y11
   unfold saronlaw03_after.j1
   repeat' first
   | (with_reducible exact ih0 _ _ _ _ _ _ _ _ _ _ _)
   | (with_reducible exact ih1 _ _ _ _ _ _ _ _ _ _ _ _)
   | (with_reducible exact LeO.refl _)
   | (with_reducible exact LeO.none _)
   | (with_reducible refine LeO.ite ?_ ?_)
   | (with_reducible refine LeO.bind ?_ (fun _ => ?_))
   | exact ih0 _ _ _ _ _ _ _ _ _ _ _
   | exact ih1 _ _ _ _ _ _ _ _ _ _ _ _
   | exact LeO.none _
   | refine LeO.ite ?_ ?_
   | refine LeO.bind ?_ (fun _ => ?_)
theorem saronlaw03_after.mono : ∀ a0 a1 a2 a3 a4 a5 a6 a7 a8 k, LeO (saronlaw03_after.f k a0 a1 a2 a3 a4 a5 a6 a7 a8) (saronlaw03_after.f (k + 1) a0 a1 a2 a3 a4 a5 a6 a7 a8) := by
 intro a0 a1 a2 a3 a4 a5 a6 a7 a8 k
 obtain ⟨ih0, ih1⟩ := saronlaw03_after.mono_l k
 unfold saronlaw03_after.f
 repeat' first
   | (with_reducible exact ih0 _ _ _ _ _ _ _ _ _ _ _)
   | (with_reducible exact ih1 _ _ _ _ _ _ _ _ _ _ _ _)
   | (with_reducible exact LeO.refl _)
   | (with_reducible exact LeO.none _)
   | (with_reducible refine LeO.ite ?_ ?_)
   | (with_reducible refine LeO.bind ?_ (fun _ => ?_))
   | exact ih0 _ _ _ _ _ _ _ _ _ _ _
   | exact ih1 _ _ _ _ _ _ _ _ _ _ _ _
   | exact LeO.none _
   | refine LeO.ite ?_ ?_
   | refine LeO.bind ?_ (fun _ => ?_)
set_option maxHeartbeats 8000000 in
set_option maxRecDepth 100000 in
theorem saronlaw03_after.calls (k : Nat) (A0_0 : Option Addr) (c0_0 : Nat) (l0_0 : List (S57)) (a0_1 : Int) (a0_2 : Int) (A0_3 : Option Addr) (c0_3 : Nat) (l0_3 : List (S69)) (a1_0 : Int) (a1_1 : Int) (a1_2 : Int) (a2 : Int) (a3 : Int) (r1 : Int) (r2 : Bool) (w : World) (hr0_0 : Kd.C k57 w A0_0 l0_0.length l0_0) (hc0_0 : l0_0.length ≤ c0_0) (hr0_3 : Kd.C k69 w A0_3 l0_3.length l0_3) (hc0_3 : l0_3.length ≤ c0_3) (hG : Glob w) (h : saronlaw03_after.f k l0_0 a0_1 a0_2 l0_3 a1_0 a1_1 a1_2 a2 a3 = some (r1, r2)) :
  Calls Tryd.prog 43 #[.agg #[.slice A0_0 l0_0.length c0_0, .int .i64 a0_1, .int .i64 a0_2, .slice A0_3 l0_3.length c0_3], .agg #[.int .i64 a1_0, .int .i64 a1_1, .int .i64 a1_2], .int .i64 a2, .int .i64 a3] w fun e w' => e = .returned (.tuple #[.int .i64 r1, .bool r2]) ∧ Below w.heap.size w w' := by
 have hu27 := Tryd.underlying27
 have hu57 := Tryd.underlying57
 have HR0_0 := Aside0.mk hr0_0
 have HC0_0 := Aside0.mk hc0_0
 clear hr0_0 hc0_0
 have HR0_3 := Aside0.mk hr0_3
 have HC0_3 := Aside0.mk hc0_3
 clear hr0_3 hc0_3
 have HB := Aside0.mk (Below.refl w.heap.size w)
 have HG := Aside0.mk hG
 clear hG
 have H : (saronlaw03_after.l0 k a2 a3 0 a1_0 l0_0 a0_1 a0_2 l0_3 a1_0 a1_1 a1_2) = some (r1, r2) := h
 clear h
 have H' := Aside0.mk H
 clear H
 go_enter Tryd.func43, Tryd.ntmps43
 go_wp2_with (first | ((with_reducible refine gate_dst (N := 4) rfl ?_); refine box_event ?hg (N := 4) ?hd (cs := #[.slice A0_0 l0_0.length c0_0, .int .i64 a0_1, .int .i64 a0_2, .slice A0_3 l0_3.length c0_3]) (t := 27) ?hr ?_; (case hd => rfl); (case hg => rfl); (case hr => exact TS); intro gb184 hg w5 hbox hb; have BK184 := Aside0.mk (hbox); have GW184 := Aside0.mk ((TG : w.heap.size ≤ gb184)); have GE184 := Aside0.mk ((TG : w.heap.size ≤ gb184)); replace HB := Aside0.mk (below_step TB hb); clear hb hbox hg) | ((with_reducible refine gate_dst (N := 5) rfl ?_); refine box_event ?hg (N := 5) ?hd (cs := #[.int .i64 a1_0, .int .i64 a1_1, .int .i64 a1_2]) (t := 57) ?hr ?_; (case hd => rfl); (case hg => rfl); (case hr => exact TS); intro gb185 hg w6 hbox hb; have BK185 := Aside0.mk (hbox); have GW185 := Aside0.mk ((TG1 GE184.out : w.heap.size ≤ gb185)); have GE185 := Aside0.mk ((TG1 GE184.out : w.heap.size ≤ gb185)); have NB184_185 := Aside0.mk ((by rw [hg]; exact Nat.ne_of_lt (blk_lt (g := gb184) (o := .cells #[.slice A0_0 l0_0.length c0_0, .int .i64 a0_1, .int .i64 a0_2, .slice A0_3 l0_3.length c0_3] 27 (0, 0)) (TK BK184.out)) : gb184 ≠ gb185)); have NB185_184 := Aside0.mk ((by rw [hg]; exact Nat.ne_of_gt (blk_lt (g := gb184) (o := .cells #[.slice A0_0 l0_0.length c0_0, .int .i64 a0_1, .int .i64 a0_2, .slice A0_3 l0_3.length c0_3] 27 (0, 0)) (TK BK184.out)) : gb185 ≠ gb184)); replace BK184 := Aside0.mk (TKb hb BK184.out); replace HB := Aside0.mk (below_step (TB1 GE184.out) hb); clear hb hbox hg; have hnb7 := NB185_184.out; have hnc7 := NB184_185.out; have hcz8_0 := cz BK185.out 0; have hcz8_1 := cz BK185.out 1; have hcz8_2 := cz BK185.out 2; have hfz8_0 := fz BK185.out 0; have hfz8_1 := fz BK185.out 1; have hfz8_2 := fz BK185.out 2))
 go_loopg [10, 11] k (fun kq v10 v11 w' => ∃ (x10_1 : Int) (x11_1 : Int), v10 = .int .i64 x10_1 ∧ v11 = .int .i64 x11_1 ∧ Aside0 (saronlaw03_after.l0 kq a2 a3 x10_1 x11_1 l0_0 a0_1 a0_2 l0_3 a1_0 a1_1 a1_2 = some (r1, r2)) ∧ Aside0 (kq ≤ k) ∧ Aside0 (w'.heap[gb184]? = some (.cells #[(.slice A0_0 l0_0.length c0_0), .int .i64 a0_1, .int .i64 a0_2, (.slice A0_3 l0_3.length c0_3)] 27 (0, 0))) ∧ Aside0 (w'.heap[gb185]? = some (.cells #[.int .i64 a1_0, .int .i64 a1_1, .int .i64 a1_2] 57 (0, 0))) ∧ Aside0 (Below w.heap.size w w'))
 case atStart => exact ⟨(0), (a1_0), TT, TT, H', ⟨Nat.le_refl _⟩, ⟨TK BK184.out⟩, ⟨TK BK185.out⟩, ⟨TB2 GE184.out GE185.out⟩⟩
 case round =>
  clear H'
  try clear p2
  try clear c4
  try clear c7
  try clear hcz8_0 hcz8_1 hcz8_2 hfz8_0 hfz8_1 hfz8_2
  obtain ⟨x10_1, x11_1, rfl, rfl, HA, HK1, BK184, BK185, HB⟩ := hrel
  cases gk with
  | zero => exact absurd HA.out (by simp [saronlaw03_after.l0])
  | succ k1 =>
   have H := HA.out
   clear HA
   simp only [saronlaw03_after.l0] at H
   by_cases c9 : x11_1 ≤ a1_1
   ·rw [if_pos c9] at H
    have c9b0 : decide (x11_1 ≤ a1_1) = true := decide_eq_true c9
    clear c9
    have HC10 := Aside0.mk H
    clear H
    have hnb11 := NB185_184.out
    have hnc11 := NB184_185.out
    have hcz12_0 := cz BK185.out 0
    have hcz12_1 := cz BK185.out 1
    have hcz12_2 := cz BK185.out 2
    have hfz12_0 := fz BK185.out 0
    have hfz12_1 := fz BK185.out 1
    have hfz12_2 := fz BK185.out 2
    go_upto_region 5 with (fail)
    go_cut [35] (fun v35 wc => ∃ (kq : Nat) (x35_9 : Bool), v35 = .bool x35_9 ∧ Aside0 (saronlaw03_after.j1 kq a2 a3 x10_1 x11_1 x35_9 l0_0 a0_1 a0_2 l0_3 a1_0 a1_1 a1_2 = some (r1, r2)) ∧ Aside0 (kq ≤ k1) ∧ Aside0 (wc.heap[gb184]? = some (.cells #[(.slice A0_0 l0_0.length c0_0), .int .i64 a0_1, .int .i64 a0_2, (.slice A0_3 l0_3.length c0_3)] 27 (0, 0))) ∧ Aside0 (wc.heap[gb185]? = some (.cells #[.int .i64 a1_0, .int .i64 a1_1, .int .i64 a1_2] 57 (0, 0))) ∧ Aside0 (Below w.heap.size w wc))
    case first =>
     have H := HC10.out
     clear HC10
     by_cases c13 : a1_2 > a3
     ·rw [if_pos c13] at H
      have c13b0 : decide (a3 < a1_2) = true := decide_eq_true c13
      clear c13
      (first | rw [c13b0] | (simp only [i64_w, i32_w]; rw [c13b0]) | skip)
      have H' := Aside0.mk H
      clear H
      have hnb14 := NB185_184.out
      have hnc14 := NB184_185.out
      have hcz15_0 := cz BK185.out 0
      have hcz15_1 := cz BK185.out 1
      have hcz15_2 := cz BK185.out 2
      have hfz15_0 := fz BK185.out 0
      have hfz15_1 := fz BK185.out 1
      have hfz15_2 := fz BK185.out 2
      go_wp2
      go_meet
      case rel => exact ⟨_, (true), TT, H', ⟨by have := HK1.out; first | omega | exact Nat.le_refl _⟩, ⟨TK BK184.out⟩, ⟨TK BK185.out⟩, ⟨TB2 GE184.out GE185.out⟩⟩
     ·rw [if_neg c13] at H
      have c13b0 : decide (a3 < a1_2) = false := decide_eq_false c13
      clear c13
      (first | rw [c13b0] | (simp only [i64_w, i32_w]; rw [c13b0]) | skip)
      replace H := Option.bind_eq_some_iff.mp H
      obtain ⟨t186, A160, H⟩ := H
      replace H : (saronlaw03_after.j1 k1 a2 a3 x10_1 x11_1 (!t186) l0_0 a0_1 a0_2 l0_3 a1_0 a1_1 a1_2) = some (r1, r2) := H
      have A16 := Aside0.mk A160
      clear A160
      have H' := Aside0.mk H
      clear H
      have hnb17 := NB185_184.out
      have hnc17 := NB184_185.out
      have hcz18_0 := cz BK185.out 0
      have hcz18_1 := cz BK185.out 1
      have hcz18_2 := cz BK185.out 2
      have hfz18_0 := fz BK185.out 0
      have hfz18_1 := fz BK185.out 1
      have hfz18_2 := fz BK185.out 2
      go_wp2_with (first | (go_at_call 39; (with_reducible refine (saronref00_Sits.calls (wrap64 (a2 + x11_1)) (-60) 60 t186 _ A16.out).mono ?_); rintro e w' ⟨rfl, ⟨nd, rfl⟩⟩))
      go_meet
      case rel => exact ⟨_, (!t186), TT, H', ⟨by have := HK1.out; first | omega | exact Nat.le_refl _⟩, ⟨TK BK184.out⟩, ⟨TK BK185.out⟩, ⟨TB2 GE184.out GE185.out⟩⟩
    case rest =>
     clear HC10
     try clear c1
     try clear p2
     try clear c4
     try clear p6
     try clear c7
     try clear c9
     try clear c9b0
     try clear c11
     try clear c13
     try clear c13b0
     try clear c14
     try clear c17
     try clear hcz12_0 hcz12_1 hcz12_2
     try clear hcz15_0 hcz15_1 hcz15_2
     try clear hcz18_0 hcz18_1 hcz18_2
     try clear hcz8_0 hcz8_1 hcz8_2
     try clear hfz12_0 hfz12_1 hfz12_2
     try clear hfz15_0 hfz15_1 hfz15_2
     try clear hfz18_0 hfz18_1 hfz18_2
     try clear hfz8_0 hfz8_1 hfz8_2
     try clear p2
     obtain ⟨kq, x35_9, rfl, HA, HJ9, BK184, BK185, HB⟩ := hcut
     cases kq with
     | zero => exact absurd HA.out (by simp [saronlaw03_after.j1])
     | succ kj9 =>
      have H := HA.out
      clear HA
      simp only [saronlaw03_after.j1] at H
      by_cases c19 : x35_9 = true
      ·subst c19
       have H1 : (some (0, true)) = some (r1, r2) := by rw [if_pos rfl] at H; exact H
       clear H
       have H := H1
       clear H1
       simp only [Option.some.injEq, Prod.mk.injEq] at H
       obtain ⟨rfl, rfl⟩ := H
       go_wp2
       go_ret2
       exact ⟨TR, TB2 GE184.out GE185.out⟩
      ·replace c19 := Bool.eq_false_iff.mpr c19
       subst c19
       have H1 : ((rasp_Next.f l0_0 a0_1 a0_2 l0_3 (wrap64 (a2 + x11_1)) (wrap64 (a3 - a1_2))).bind fun bt187 => (if bt187.2.2 = 0 then (saronlaw03_after.l0 kj9 a2 a3 (mx x10_1 bt187.2.1) (wrap64 (x11_1 + 1)) l0_0 a0_1 a0_2 l0_3 a1_0 a1_1 a1_2) else (some (0, true)))) = some (r1, r2) := by rw [if_neg (show ¬ (false = true) by decide)] at H; exact H
       clear H
       have H := H1
       clear H1
       replace H := Option.bind_eq_some_iff.mp H
       obtain ⟨⟨t187, t188, t189⟩, A200, H⟩ := H
       replace H : (if t189 = 0 then (saronlaw03_after.l0 kj9 a2 a3 (mx x10_1 t188) (wrap64 (x11_1 + 1)) l0_0 a0_1 a0_2 l0_3 a1_0 a1_1 a1_2) else (some (0, true))) = some (r1, r2) := H
       have A20 := Aside0.mk A200
       clear A200
       by_cases c21 : t189 = 0
       ·rw [if_pos c21] at H
        have c21b0 : (t189 == 0) = true := beq_iff_eq.mpr c21
        have c21b1 : (t189 != 0) = false := bne_eq_false_iff_eq.mpr c21
        clear c21
        obtain ⟨ji22, hji22⟩ : ∃ j_ : Int, (mx x10_1 t188) = j_ := ⟨_, rfl⟩
        replace H : (saronlaw03_after.l0 kj9 a2 a3 ji22 (wrap64 (x11_1 + 1)) l0_0 a0_1 a0_2 l0_3 a1_0 a1_1 a1_2) = some (r1, r2) := by first | (rw [hji22] at H; exact H) | (simp only [hji22] at H ⊢; exact H)
        (try rw [hji22] at A20)
        have hji22_ : (if x10_1 < t188 then t188 else x10_1) = ji22 := hji22
        have H' := Aside0.mk H
        clear H
        have hnb23 := NB184_185.out
        have hnc23 := NB185_184.out
        have hcz24_0 := cz BK184.out 0
        have hcz24_1 := cz BK184.out 1
        have hcz24_2 := cz BK184.out 2
        have hcz24_3 := cz BK184.out 3
        have hfz24_0 := fz BK184.out 0
        have hfz24_1 := fz BK184.out 1
        have hfz24_2 := fz BK184.out 2
        have hfz24_3 := fz BK184.out 3
        have hcz25_0 := cz BK185.out 0
        have hcz25_1 := cz BK185.out 1
        have hcz25_2 := cz BK185.out 2
        have hfz25_0 := fz BK185.out 0
        have hfz25_1 := fz BK185.out 1
        have hfz25_2 := fz BK185.out 2
        go_wp2_with (first | ((with_reducible refine gate_callee (f := 16) rfl ?_); refine goesL_ (some 45) rfl rfl Tryd.func16 (by kernel_rfl) rfl #[.agg #[.slice A0_0 l0_0.length c0_0, .int .i64 a0_1, .int .i64 a0_2, .slice A0_3 l0_3.length c0_3], .int .i64 (wrap64 (a2 + x11_1)), .int .i64 (wrap64 (a3 - a1_2))] rfl TM ?_; (with_reducible refine (rasp_Next.calls _ _ l0_0 a0_1 a0_2 _ _ l0_3 (wrap64 (a2 + x11_1)) (wrap64 (a3 - a1_2)) t187 t188 t189 _ ?side1 ?side2 ?side3 ?side4 ?side5 A20.out).mono ?_); (case side1 => exact TC HR0_0.out); (case side2 => exact HC0_0.out); (case side3 => exact TC HR0_3.out); (case side4 => exact HC0_3.out); (case side5 => exact Glob.fr HG.out (Fr.of_below (TB2 GE184.out GE185.out))); rintro e w26 ⟨rfl, hb⟩; refine ⟨_, rfl, ?_⟩; replace BK184 := Aside0.mk (TKb hb BK184.out); replace BK185 := Aside0.mk (TKb hb BK185.out); replace HB := Aside0.mk (below_step (TB2 GE184.out GE185.out) hb); (try clear hb); (try clear hb2); (try clear hk); (try clear hi)))
        go_roundg kj9
        case measure => have := HK1.out; have := HJ9.out; omega
        case rel => exact ⟨(ji22), (wrap64 (x11_1 + 1)), (by first | rfl | (simp; done) | (simp only [← hji22] <;> (first | rfl | simp)) | (simp [*]; done)), TT, H', ⟨by have := HK1.out; have := HJ9.out; omega⟩, ⟨TK BK184.out⟩, ⟨TK BK185.out⟩, ⟨TB2 GE184.out GE185.out⟩⟩
       ·rw [if_neg c21] at H
        have c21b0 : (t189 == 0) = false := beq_eq_false_iff_ne.mpr c21
        have c21b1 : (t189 != 0) = true := bne_iff_ne.mpr c21
        simp only [Option.some.injEq, Prod.mk.injEq] at H
        obtain ⟨rfl, rfl⟩ := H
        have hnb27 := NB184_185.out
        have hnc27 := NB185_184.out
        have hcz28_0 := cz BK184.out 0
        have hcz28_1 := cz BK184.out 1
        have hcz28_2 := cz BK184.out 2
        have hcz28_3 := cz BK184.out 3
        have hfz28_0 := fz BK184.out 0
        have hfz28_1 := fz BK184.out 1
        have hfz28_2 := fz BK184.out 2
        have hfz28_3 := fz BK184.out 3
        have hcz29_0 := cz BK185.out 0
        have hcz29_1 := cz BK185.out 1
        have hcz29_2 := cz BK185.out 2
        have hfz29_0 := fz BK185.out 0
        have hfz29_1 := fz BK185.out 1
        have hfz29_2 := fz BK185.out 2
        go_wp2_with (first | ((with_reducible refine gate_callee (f := 16) rfl ?_); refine goesL_ (some 45) rfl rfl Tryd.func16 (by kernel_rfl) rfl #[.agg #[.slice A0_0 l0_0.length c0_0, .int .i64 a0_1, .int .i64 a0_2, .slice A0_3 l0_3.length c0_3], .int .i64 (wrap64 (a2 + x11_1)), .int .i64 (wrap64 (a3 - a1_2))] rfl TM ?_; (with_reducible refine (rasp_Next.calls _ _ l0_0 a0_1 a0_2 _ _ l0_3 (wrap64 (a2 + x11_1)) (wrap64 (a3 - a1_2)) t187 t188 t189 _ ?side1 ?side2 ?side3 ?side4 ?side5 A20.out).mono ?_); (case side1 => exact TC HR0_0.out); (case side2 => exact HC0_0.out); (case side3 => exact TC HR0_3.out); (case side4 => exact HC0_3.out); (case side5 => exact Glob.fr HG.out (Fr.of_below (TB2 GE184.out GE185.out))); rintro e w30 ⟨rfl, hb⟩; refine ⟨_, rfl, ?_⟩; replace BK184 := Aside0.mk (TKb hb BK184.out); replace BK185 := Aside0.mk (TKb hb BK185.out); replace HB := Aside0.mk (below_step (TB2 GE184.out GE185.out) hb); (try clear hb); (try clear hb2); (try clear hk); (try clear hi)))
        go_ret2
        exact ⟨TR, TB2 GE184.out GE185.out⟩
   ·rw [if_neg c9] at H
    have c9b0 : decide (x11_1 ≤ a1_1) = false := decide_eq_false c9
    clear c9
    simp only [Option.some.injEq, Prod.mk.injEq] at H
    obtain ⟨rfl, rfl⟩ := H
    have hnb31 := NB185_184.out
    have hnc31 := NB184_185.out
    have hcz32_0 := cz BK185.out 0
    have hcz32_1 := cz BK185.out 1
    have hcz32_2 := cz BK185.out 2
    have hfz32_0 := fz BK185.out 0
    have hfz32_1 := fz BK185.out 1
    have hfz32_2 := fz BK185.out 2
    go_wp2
    go_ret2
    exact ⟨TR, TB2 GE184.out GE185.out⟩
end Go.Proofs.YtfmpbkolpjlfbaaDoor.PRaspKeys
namespace Go.Proofs.YtfmpbkolpjlfbaaDoor.PRaspKeys
open Go.RowKit Go.Proofs.YtfmpbkolpjlfbaaDoorW.PrintWords Go.Proofs.YtfmpbkolpjlfbaaDoorW.PrintLast Go.Proofs.YtfmpbkolpjlfbaaDoorW.PrintMore Go.Proofs.YtfmpbkolpjlfbaaDoor.M
attribute [local go_sem] max2_int min2_int max_two min_two max_three min_three max_four min_four   -- for this text's walks alone
/-! ### saronlaw03_RaspLeast: function 8 -/
mutual
def saronlaw03_RaspLeast.j0 : Nat → Int → Int → Int → Int → Int → Bool → List (S57) → Int → Int → List (S69) → Option (Bool)
 | 0, _, _, _, _, _, _, _, _, _, _ => none
 | k + 1, x5, x6, x7, x8, x9, x35, x191000, x191001, x191002, x191003 => if x35 = true then (if x8 = 0 then ((saronref00_Bears.f x191001 x191002 x5).bind fun t199 => (if t199 = true then ((saronlaw03_filed.f).bind fun t200 => (some t200)) else (some false))) else (some false)) else (if x9 = 0 then ((saronref00_Sits.f x7 0 (wrap64 ((x191000.length : Int) - 1))).bind fun t201 => (saronlaw03_RaspLeast.j1 k x5 x6 x7 x8 x9 (!t201) x191000 x191001 x191002 x191003)) else (if x9 = 4 then ((saronref00_Bears.f x191001 x191002 x5).bind fun t202 => (if t202 = true then (saronlaw03_RaspLeast.j1 k x5 x6 x7 x8 x9 true x191000 x191001 x191002 x191003) else (saronlaw03_RaspLeast.j1 k x5 x6 x7 x8 x9 false x191000 x191001 x191002 x191003))) else (saronlaw03_RaspLeast.j1 k x5 x6 x7 x8 x9 true x191000 x191001 x191002 x191003)))
def saronlaw03_RaspLeast.j1 : Nat → Int → Int → Int → Int → Int → Bool → List (S57) → Int → Int → List (S69) → Option (Bool)
 | 0, _, _, _, _, _, _, _, _, _, _ => none
 | k + 1, x5, x6, x7, x8, x9, x71, x191000, x191001, x191002, x191003 => if x71 = true then (some false) else (saronlaw03_RaspLeast.l0 k x5 x6 x7 x8 x9 0 x191000 x191001 x191002 x191003)
def saronlaw03_RaspLeast.l0 : Nat → Int → Int → Int → Int → Int → Int → List (S57) → Int → Int → List (S69) → Option (Bool)
 | 0, _, _, _, _, _, _, _, _, _, _ => none
 | k + 1, x5, x6, x7, x8, x9, x10, x191000, x191001, x191002, x191003 => if x10 < (x191000.length : Int) then (if 0 ≤ x10 then ((saronlaw03_after.f k x191000 x191001 x191002 x191003 ((rd_T57 x191000 x10).f0.f0) ((rd_T57 x191000 x10).f0.f1) ((rd_T57 x191000 x10).f1) x5 x6).bind fun bt205 => (if x9 = 0 then (if x10 = x7 then (if bt205.2 = true then (some false) else (if bt205.1 = (wrap64 (x8 - 1)) then (if bt205.1 < (wrap64 (x8 - 1)) then (some false) else (if x10 < x7 then (some false) else (saronlaw03_RaspLeast.l0 k x5 x6 x7 x8 x9 (wrap64 (x10 + 1)) x191000 x191001 x191002 x191003))) else (some false))) else (if bt205.2 = true then (saronlaw03_RaspLeast.l0 k x5 x6 x7 x8 x9 (wrap64 (x10 + 1)) x191000 x191001 x191002 x191003) else (if bt205.1 < (wrap64 (x8 - 1)) then (some false) else (if bt205.1 = (wrap64 (x8 - 1)) then (if x10 < x7 then (some false) else (saronlaw03_RaspLeast.l0 k x5 x6 x7 x8 x9 (wrap64 (x10 + 1)) x191000 x191001 x191002 x191003)) else (saronlaw03_RaspLeast.l0 k x5 x6 x7 x8 x9 (wrap64 (x10 + 1)) x191000 x191001 x191002 x191003))))) else (if bt205.2 = true then (saronlaw03_RaspLeast.l0 k x5 x6 x7 x8 x9 (wrap64 (x10 + 1)) x191000 x191001 x191002 x191003) else (some false)))) else (none)) else ((saronlaw03_filed.f).bind fun t203 => (some t203))
end
def saronlaw03_RaspLeast.f (k : Nat) (l0_0 : List (S57)) (a0_1 : Int) (a0_2 : Int) (l0_3 : List (S69)) (a1_0 : Int) (a1_1 : Int) : Option (Bool) := (saronlaw03_sound.f k l0_0 a0_1 a0_2 l0_3).bind fun t192 => (if t192 = true then ((saronlaw03_state.f a1_0 a1_1).bind fun bt194 => ((rasp_Next.f l0_0 a0_1 a0_2 l0_3 bt194.1 bt194.2).bind fun bt196 => (if bt196.2.2 = 0 then (saronlaw03_RaspLeast.j0 k bt194.1 bt194.2 bt196.1 bt196.2.1 bt196.2.2 (bt196.1 == (-1)) l0_0 a0_1 a0_2 l0_3) else (saronlaw03_RaspLeast.j0 k bt194.1 bt194.2 bt196.1 bt196.2.1 bt196.2.2 false l0_0 a0_1 a0_2 l0_3)))) else ((saronlaw03_filed.f).bind fun t193 => (some t193)))
theorem saronlaw03_RaspLeast.mono_l : ∀ k, (∀ y0 y1 y2 y3 y4 y5 y6 y7 y8 y9, LeO (saronlaw03_RaspLeast.j0 k y0 y1 y2 y3 y4 y5 y6 y7 y8 y9) (saronlaw03_RaspLeast.j0 (k + 1) y0 y1 y2 y3 y4 y5 y6 y7 y8 y9)) ∧ (∀ y0 y1 y2 y3 y4 y5 y6 y7 y8 y9, LeO (saronlaw03_RaspLeast.j1 k y0 y1 y2 y3 y4 y5 y6 y7 y8 y9) (saronlaw03_RaspLeast.j1 (k + 1) y0 y1 y2 y3 y4 y5 y6 y7 y8 y9)) ∧ (∀ y0 y1 y2 y3 y4 y5 y6 y7 y8 y9, LeO (saronlaw03_RaspLeast.l0 k y0 y1 y2 y3 y4 y5 y6 y7 y8 y9) (saronlaw03_RaspLeast.l0 (k + 1) y0 y1 y2 y3 y4 y5 y6 y7 y8 y9))
 | 0 => ⟨fun _ _ _ _ _ _ _ _ _ _ r h => by simp [saronlaw03_RaspLeast.j0] at h, fun _ _ _ _ _ _ _ _ _ _ r h => by simp [saronlaw03_RaspLeast.j1] at h, fun _ _ _ _ _ _ _ _ _ _ r h => by simp [saronlaw03_RaspLeast.l0] at h⟩
 | k + 1 => by
  obtain ⟨ih0, ih1, ih2⟩ := saronlaw03_RaspLeast.mono_l k
  refine ⟨?_, ?_, ?_⟩
  ·intro y0 y1 y2 y3 y4 y5 y6 y7 y8 y9
   unfold saronlaw03_RaspLeast.j0
   repeat' first
   | (with_reducible exact ih0 _ _ _ _ _ _ _ _ _ _)
   | (with_reducible exact ih1 _ _ _ _ _ _ _ _ _ _)
   | (with_reducible exact ih2 _ _ _ _ _ _ _ _ _ _)
   | (with_reducible exact saronlaw03_after.mono _ _ _ _ _ _ _ _ _ _)
   | (with_reducible exact saronlaw03_sound.mono _ _ _ _ _)
   | (with_reducible exact LeO.refl _)
   | (with_reducible exact LeO.none _)
   | (with_reducible refine LeO.ite ?_ ?_)
   | (with_reducible refine LeO.bind ?_ (fun _ => ?_))
   | exact ih0 _ _ _ _ _ _ _ _ _ _
   | exact ih1 _ _ _ _ _ _ _ _ _ _
   | exact ih2 _ _ _ _ _ _ _ _ _ _
   | exact saronlaw03_after.mono _ _ _ _ _ _ _ _ _ _
   | exact saronlaw03_sound.mono _ _ _ _ _
   | exact LeO.none _
   | refine LeO.ite ?_ ?_
   | refine LeO.bind ?_ (fun _ => ?_)
  ·intro y0 y1 y2 y3 y4 y5 y6 y7 y8 y9
   unfold saronlaw03_RaspLeast.j1
   repeat' first
   | (with_reducible exact ih0 _ _ _ _ _ _ _ _ _ _)
   | (with_reducible exact ih1 _ _ _ _ _ _ _ _ _ _)
   | (with_reducible exact ih2 _ _ _ _ _ _ _ _ _ _)
   | (with_reducible exact saronlaw03_after.mono _ _ _ _ _ _ _ _ _ _)
   | (with_reducible exact saronlaw03_sound.mono _ _ _ _ _)
   | (with_reducible exact LeO.refl _)
   | (with_reducible exact LeO.none _)
   | (with_reducible refine LeO.ite ?_ ?_)
   | (with_reducible refine LeO.bind ?_ (fun _ => ?_))
   | exact ih0 _ _ _ _ _ _ _ _ _ _
   | exact ih1 _ _ _ _ _ _ _ _ _ _
   | exact ih2 _ _ _ _ _ _ _ _ _ _
   | exact saronlaw03_after.mono _ _ _ _ _ _ _ _ _ _
   | exact saronlaw03_sound.mono _ _ _ _ _
   | exact LeO.none _
   | refine LeO.ite ?_ ?_
   | refine LeO.bind ?_ (fun _ => ?_)
  ·intro y0 y1 y2 y3 y4 y5 y6 y7 y8 y9
   unfold saronlaw03_RaspLeast.l0
   repeat' first
   | (with_reducible exact ih0 _ _ _ _ _ _ _ _ _ _)
   | (with_reducible exact ih1 _ _ _ _ _ _ _ _ _ _)
   | (with_reducible exact ih2 _ _ _ _ _ _ _ _ _ _)
   | (with_reducible exact saronlaw03_after.mono _ _ _ _ _ _ _ _ _ _)
   | (with_reducible exact saronlaw03_sound.mono _ _ _ _ _)
   | (with_reducible exact LeO.refl _)
   | (with_reducible exact LeO.none _)
   | (with_reducible refine LeO.ite ?_ ?_)
   | (with_reducible refine LeO.bind ?_ (fun _ => ?_))
   | exact ih0 _ _ _ _ _ _ _ _ _ _
   | exact ih1 _ _ _ _ _ _ _ _ _ _
   | exact ih2 _ _ _ _ _ _ _ _ _ _
   | exact saronlaw03_after.mono _ _ _ _ _ _ _ _ _ _
   | exact saronlaw03_sound.mono _ _ _ _ _
   | exact LeO.none _
   | refine LeO.ite ?_ ?_
   | refine LeO.bind ?_ (fun _ => ?_)
theorem saronlaw03_RaspLeast.mono : ∀ a0 a1 a2 a3 a4 a5 k, LeO (saronlaw03_RaspLeast.f k a0 a1 a2 a3 a4 a5) (saronlaw03_RaspLeast.f (k + 1) a0 a1 a2 a3 a4 a5) := by
 intro a0 a1 a2 a3 a4 a5 k
 obtain ⟨ih0, ih1, ih2⟩ := saronlaw03_RaspLeast.mono_l k
 unfold saronlaw03_RaspLeast.f
 repeat' first
   | (with_reducible exact ih0 _ _ _ _ _ _ _ _ _ _)
   | (with_reducible exact ih1 _ _ _ _ _ _ _ _ _ _)
   | (with_reducible exact ih2 _ _ _ _ _ _ _ _ _ _)
   | (with_reducible exact saronlaw03_after.mono _ _ _ _ _ _ _ _ _ _)
   | (with_reducible exact saronlaw03_sound.mono _ _ _ _ _)
   | (with_reducible exact LeO.refl _)
   | (with_reducible exact LeO.none _)
   | (with_reducible refine LeO.ite ?_ ?_)
   | (with_reducible refine LeO.bind ?_ (fun _ => ?_))
   | exact ih0 _ _ _ _ _ _ _ _ _ _
   | exact ih1 _ _ _ _ _ _ _ _ _ _
   | exact ih2 _ _ _ _ _ _ _ _ _ _
   | exact saronlaw03_after.mono _ _ _ _ _ _ _ _ _ _
   | exact saronlaw03_sound.mono _ _ _ _ _
   | exact LeO.none _
   | refine LeO.ite ?_ ?_
   | refine LeO.bind ?_ (fun _ => ?_)
def saronlaw03_RaspLeast.T12 : Bool × List (List Nat × List Nat) := (true, [([], []), ([], []), ([1], [1]), ([], []), ([2, 3], [2, 3]), ([4], [4]), ([], []), ([], []), ([0, 5, 6, 7], [0, 5, 6, 7]), ([8], [8]), ([9], [9]), ([9], [9]), ([10, 8, 0, 1, 2, 3, 4, 5, 6, 7, 8, 9, 10], [10]), ([11, 12, 0, 1, 2, 3, 4, 5, 6, 7, 8, 9, 10, 11, 12], [11])])
def saronlaw03_RaspLeast.B12 : List Nat := [0, 0, 2, 0, 14, 30, 0, 0, 255, 511, 1023, 1023, 2047, 8191]
theorem saronlaw03_RaspLeast.tab12 : rtab .any (opsOf Tryd.f8 12) = saronlaw03_RaspLeast.T12 := by kernel_rfl
theorem saronlaw03_RaspLeast.bits12 : waitsOk saronlaw03_RaspLeast.T12.2 saronlaw03_RaspLeast.B12 = true := by kernel_rfl
set_option maxHeartbeats 8000000 in
set_option maxRecDepth 100000 in
theorem saronlaw03_RaspLeast.calls (k : Nat) (A0_0 : Option Addr) (c0_0 : Nat) (l0_0 : List (S57)) (a0_1 : Int) (a0_2 : Int) (A0_3 : Option Addr) (c0_3 : Nat) (l0_3 : List (S69)) (a1_0 : Int) (a1_1 : Int) (r : Bool) (w : World) (hr0_0 : Kd.C k57 w A0_0 l0_0.length l0_0) (hc0_0 : l0_0.length ≤ c0_0) (hr0_3 : Kd.C k69 w A0_3 l0_3.length l0_3) (hc0_3 : l0_3.length ≤ c0_3) (hG : Glob w) (h : saronlaw03_RaspLeast.f k l0_0 a0_1 a0_2 l0_3 a1_0 a1_1 = some r) :
  Calls Tryd.prog 8 #[.agg #[.slice A0_0 l0_0.length c0_0, .int .i64 a0_1, .int .i64 a0_2, .slice A0_3 l0_3.length c0_3], .agg #[.int .i64 a1_0, .int .i64 a1_1]] w fun e w' => e = .returned (.bool r) ∧ Below w.heap.size w w' := by
 have hu27 := Tryd.underlying27
 have hu28 := Tryd.underlying28
 have hu24 := Tryd.underlying24
 have hu57 := Tryd.underlying57
 have HR0_0 := Aside0.mk hr0_0
 have HC0_0 := Aside0.mk hc0_0
 clear hr0_0 hc0_0
 have HR0_3 := Aside0.mk hr0_3
 have HC0_3 := Aside0.mk hc0_3
 clear hr0_3 hc0_3
 have HB := Aside0.mk (Below.refl w.heap.size w)
 have HG := Aside0.mk hG
 clear hG
 have H : ((saronlaw03_sound.f k l0_0 a0_1 a0_2 l0_3).bind fun t192 => (if t192 = true then ((saronlaw03_state.f a1_0 a1_1).bind fun bt194 => ((rasp_Next.f l0_0 a0_1 a0_2 l0_3 bt194.1 bt194.2).bind fun bt196 => (if bt196.2.2 = 0 then (saronlaw03_RaspLeast.j0 k bt194.1 bt194.2 bt196.1 bt196.2.1 bt196.2.2 (bt196.1 == (-1)) l0_0 a0_1 a0_2 l0_3) else (saronlaw03_RaspLeast.j0 k bt194.1 bt194.2 bt196.1 bt196.2.1 bt196.2.2 false l0_0 a0_1 a0_2 l0_3)))) else ((saronlaw03_filed.f).bind fun t193 => (some t193)))) = some r := h
 clear h
 replace H := Option.bind_eq_some_iff.mp H
 obtain ⟨t192, A30, H⟩ := H
 replace H : (if t192 = true then ((saronlaw03_state.f a1_0 a1_1).bind fun bt194 => ((rasp_Next.f l0_0 a0_1 a0_2 l0_3 bt194.1 bt194.2).bind fun bt196 => (if bt196.2.2 = 0 then (saronlaw03_RaspLeast.j0 k bt194.1 bt194.2 bt196.1 bt196.2.1 bt196.2.2 (bt196.1 == (-1)) l0_0 a0_1 a0_2 l0_3) else (saronlaw03_RaspLeast.j0 k bt194.1 bt194.2 bt196.1 bt196.2.1 bt196.2.2 false l0_0 a0_1 a0_2 l0_3)))) else ((saronlaw03_filed.f).bind fun t193 => (some t193))) = some r := H
 have A3 := Aside0.mk A30
 clear A30
 by_cases c4 : t192 = true
 ·subst c4
  have H1 : ((saronlaw03_state.f a1_0 a1_1).bind fun bt194 => ((rasp_Next.f l0_0 a0_1 a0_2 l0_3 bt194.1 bt194.2).bind fun bt196 => (if bt196.2.2 = 0 then (saronlaw03_RaspLeast.j0 k bt194.1 bt194.2 bt196.1 bt196.2.1 bt196.2.2 (bt196.1 == (-1)) l0_0 a0_1 a0_2 l0_3) else (saronlaw03_RaspLeast.j0 k bt194.1 bt194.2 bt196.1 bt196.2.1 bt196.2.2 false l0_0 a0_1 a0_2 l0_3)))) = some r := by rw [if_pos rfl] at H; exact H
  clear H
  have H := H1
  clear H1
  replace H := Option.bind_eq_some_iff.mp H
  obtain ⟨⟨t194, t195⟩, A50, H⟩ := H
  replace H : ((rasp_Next.f l0_0 a0_1 a0_2 l0_3 t194 t195).bind fun bt196 => (if bt196.2.2 = 0 then (saronlaw03_RaspLeast.j0 k t194 t195 bt196.1 bt196.2.1 bt196.2.2 (bt196.1 == (-1)) l0_0 a0_1 a0_2 l0_3) else (saronlaw03_RaspLeast.j0 k t194 t195 bt196.1 bt196.2.1 bt196.2.2 false l0_0 a0_1 a0_2 l0_3))) = some r := H
  have A5 := Aside0.mk A50
  clear A50
  replace H := Option.bind_eq_some_iff.mp H
  obtain ⟨⟨t196, t197, t198⟩, A60, H⟩ := H
  replace H : (if t198 = 0 then (saronlaw03_RaspLeast.j0 k t194 t195 t196 t197 t198 (t196 == (-1)) l0_0 a0_1 a0_2 l0_3) else (saronlaw03_RaspLeast.j0 k t194 t195 t196 t197 t198 false l0_0 a0_1 a0_2 l0_3)) = some r := H
  have A6 := Aside0.mk A60
  clear A60
  have HC7 := Aside0.mk H
  clear H
  go_enter Tryd.func8, Tryd.ntmps8
  go_upto_region 5 with (first | ((with_reducible refine gate_dst (N := 2) rfl ?_); (try (refine gate_guard (by rfl) ?_; dsimp only)); refine box_event ?hg (N := 2) ?hd (cs := #[.slice A0_0 l0_0.length c0_0, .int .i64 a0_1, .int .i64 a0_2, .slice A0_3 l0_3.length c0_3]) (t := 27) ?hr ?_; (case hd => rfl); (case hg => rfl); (case hr => exact TS); intro gb190 hg w8 hbox hb; have BK190 := Aside0.mk (hbox); have GW190 := Aside0.mk ((TG : w.heap.size ≤ gb190)); have GE190 := Aside0.mk ((TG : w.heap.size ≤ gb190)); replace HB := Aside0.mk (below_step TB hb); clear hb hbox hg) | ((with_reducible refine gate_dst (N := 3) rfl ?_); (try (refine gate_guard (by rfl) ?_; dsimp only)); refine box_event ?hg (N := 3) ?hd (cs := #[.int .i64 a1_0, .int .i64 a1_1]) (t := 28) ?hr ?_; (case hd => rfl); (case hg => rfl); (case hr => exact TS); intro gb191 hg w9 hbox hb; have BK191 := Aside0.mk (hbox); have GW191 := Aside0.mk ((TG1 GE190.out : w.heap.size ≤ gb191)); have GE191 := Aside0.mk ((TG1 GE190.out : w.heap.size ≤ gb191)); have NB190_191 := Aside0.mk ((by rw [hg]; exact Nat.ne_of_lt (blk_lt (g := gb190) (o := .cells #[.slice A0_0 l0_0.length c0_0, .int .i64 a0_1, .int .i64 a0_2, .slice A0_3 l0_3.length c0_3] 27 (0, 0)) (TK BK190.out)) : gb190 ≠ gb191)); have NB191_190 := Aside0.mk ((by rw [hg]; exact Nat.ne_of_gt (blk_lt (g := gb190) (o := .cells #[.slice A0_0 l0_0.length c0_0, .int .i64 a0_1, .int .i64 a0_2, .slice A0_3 l0_3.length c0_3] 27 (0, 0)) (TK BK190.out)) : gb191 ≠ gb190)); replace BK190 := Aside0.mk (TKb hb BK190.out); replace HB := Aside0.mk (below_step (TB1 GE190.out) hb); clear hb hbox hg; have hnb10 := NB190_191.out; have hnc10 := NB191_190.out; have hcz11_0 := cz BK190.out 0; have hcz11_1 := cz BK190.out 1; have hcz11_2 := cz BK190.out 2; have hcz11_3 := cz BK190.out 3; have hfz11_0 := fz BK190.out 0; have hfz11_1 := fz BK190.out 1; have hfz11_2 := fz BK190.out 2; have hfz11_3 := fz BK190.out 3) | ((with_reducible refine gate_callee (f := 37) rfl ?_); refine goesL_ (some 14) rfl rfl Tryd.func37 (by kernel_rfl) rfl #[.agg #[.slice A0_0 l0_0.length c0_0, .int .i64 a0_1, .int .i64 a0_2, .slice A0_3 l0_3.length c0_3]] rfl TM ?_; (with_reducible refine (saronlaw03_sound.calls k _ _ l0_0 a0_1 a0_2 _ _ l0_3 true _ ?side1 ?side2 ?side3 ?side4 A3.out).mono ?_); (case side1 => exact TC HR0_0.out); (case side2 => exact HC0_0.out); (case side3 => exact TC HR0_3.out); (case side4 => exact HC0_3.out); rintro e w12 ⟨rfl, hb⟩; refine ⟨_, rfl, ?_⟩; replace BK190 := Aside0.mk (TKb hb BK190.out); replace BK191 := Aside0.mk (TKb hb BK191.out); replace HB := Aside0.mk (below_step (TB2 GE190.out GE191.out) hb); (try clear hb); (try clear hb2); (try clear hk); (try clear hi); have hcz13_0 := cz BK191.out 0; have hcz13_1 := cz BK191.out 1; have hfz13_0 := fz BK191.out 0; have hfz13_1 := fz BK191.out 1) | ((with_reducible refine gate_callee (f := 38) rfl ?_); refine goesL_ (some 19) rfl rfl Tryd.func38 (by kernel_rfl) rfl #[.agg #[.int .i64 a1_0, .int .i64 a1_1]] rfl TM ?_; (with_reducible refine (saronlaw03_state.calls a1_0 a1_1 t194 t195 _ A5.out).mono ?_); rintro e w14 ⟨rfl, hb⟩; refine ⟨_, rfl, ?_⟩; replace BK190 := Aside0.mk (TKb hb BK190.out); replace BK191 := Aside0.mk (TKb hb BK191.out); replace HB := Aside0.mk (below_step (TB2 GE190.out GE191.out) hb); (try clear hb); (try clear hb2); (try clear hk); (try clear hi); have hcz15_0 := cz BK190.out 0; have hcz15_1 := cz BK190.out 1; have hcz15_2 := cz BK190.out 2; have hcz15_3 := cz BK190.out 3; have hfz15_0 := fz BK190.out 0; have hfz15_1 := fz BK190.out 1; have hfz15_2 := fz BK190.out 2; have hfz15_3 := fz BK190.out 3) | ((with_reducible refine gate_callee (f := 16) rfl ?_); refine goesL_ (some 26) rfl rfl Tryd.func16 (by kernel_rfl) rfl #[.agg #[.slice A0_0 l0_0.length c0_0, .int .i64 a0_1, .int .i64 a0_2, .slice A0_3 l0_3.length c0_3], .int .i64 t194, .int .i64 t195] rfl TM ?_; (with_reducible refine (rasp_Next.calls _ _ l0_0 a0_1 a0_2 _ _ l0_3 t194 t195 t196 t197 t198 _ ?side1 ?side2 ?side3 ?side4 ?side5 A6.out).mono ?_); (case side1 => exact TC HR0_0.out); (case side2 => exact HC0_0.out); (case side3 => exact TC HR0_3.out); (case side4 => exact HC0_3.out); (case side5 => exact Glob.fr HG.out (Fr.of_below (TB2 GE190.out GE191.out))); rintro e w16 ⟨rfl, hb⟩; refine ⟨_, rfl, ?_⟩; replace BK190 := Aside0.mk (TKb hb BK190.out); replace BK191 := Aside0.mk (TKb hb BK191.out); replace HB := Aside0.mk (below_step (TB2 GE190.out GE191.out) hb); (try clear hb); (try clear hb2); (try clear hk); (try clear hi)))
  (try simp only [Act.put, lA, lZ, lS])
  go_cut [35] (fun v35 wc => ∃ (kq : Nat) (x35_6 : Bool), v35 = .bool x35_6 ∧ Aside0 (saronlaw03_RaspLeast.j0 kq t194 t195 t196 t197 t198 x35_6 l0_0 a0_1 a0_2 l0_3 = some r) ∧ Aside0 (kq ≤ k) ∧ Aside0 (wc.heap[gb190]? = some (.cells #[(.slice A0_0 l0_0.length c0_0), .int .i64 a0_1, .int .i64 a0_2, (.slice A0_3 l0_3.length c0_3)] 27 (0, 0))) ∧ Aside0 (wc.heap[gb191]? = some (.cells #[.int .i64 a1_0, .int .i64 a1_1] 28 (0, 0))) ∧ Aside0 (Below w.heap.size w wc))
  case first =>
   have H := HC7.out
   clear HC7
   by_cases c17 : t198 = 0
   ·rw [if_pos c17] at H
    have c17b0 : (t198 == 0) = true := beq_iff_eq.mpr c17
    have c17b1 : (t198 != 0) = false := bne_eq_false_iff_eq.mpr c17
    clear c17
    (first | rw [c17b0] | (simp only [i64_w, i32_w]; rw [c17b0]) | skip)
    have H' := Aside0.mk H
    clear H
    go_wp2
    go_meet
    case rel => exact ⟨_, ((t196 == (-1))), TT, H', ⟨by first | omega | exact Nat.le_refl _⟩, ⟨TK BK190.out⟩, ⟨TK BK191.out⟩, ⟨TB2 GE190.out GE191.out⟩⟩
   ·rw [if_neg c17] at H
    have c17b0 : (t198 == 0) = false := beq_eq_false_iff_ne.mpr c17
    have c17b1 : (t198 != 0) = true := bne_iff_ne.mpr c17
    (first | rw [c17b0] | (simp only [i64_w, i32_w]; rw [c17b0]) | skip)
    have H' := Aside0.mk H
    clear H
    go_wp2
    go_meet
    case rel => exact ⟨_, (false), TT, H', ⟨by first | omega | exact Nat.le_refl _⟩, ⟨TK BK190.out⟩, ⟨TK BK191.out⟩, ⟨TB2 GE190.out GE191.out⟩⟩
  case rest =>
   clear HC7
   try clear c1
   try clear p2
   try clear c3
   try clear c4
   try clear c8
   try clear c10
   try clear c16
   try clear c17
   try clear c17b0
   try clear c17b1
   try clear hcz11_0 hcz11_1 hcz11_2 hcz11_3
   try clear hcz13_0 hcz13_1
   try clear hcz15_0 hcz15_1 hcz15_2 hcz15_3
   try clear hfz11_0 hfz11_1 hfz11_2 hfz11_3
   try clear hfz13_0 hfz13_1
   try clear hfz15_0 hfz15_1 hfz15_2 hfz15_3
   obtain ⟨kq, x35_6, rfl, HA, HJ6, BK190, BK191, HB⟩ := hcut
   cases kq with
   | zero => exact absurd HA.out (by simp [saronlaw03_RaspLeast.j0])
   | succ kj6 =>
    have H := HA.out
    clear HA
    simp only [saronlaw03_RaspLeast.j0] at H
    by_cases c18 : x35_6 = true
    ·subst c18
     have H1 : (if t197 = 0 then ((saronref00_Bears.f a0_1 a0_2 t194).bind fun t199 => (if t199 = true then ((saronlaw03_filed.f).bind fun t200 => (some t200)) else (some false))) else (some false)) = some r := by rw [if_pos rfl] at H; exact H
     clear H
     have H := H1
     clear H1
     by_cases c19 : t197 = 0
     ·rw [if_pos c19] at H
      have c19b0 : (t197 == 0) = true := beq_iff_eq.mpr c19
      have c19b1 : (t197 != 0) = false := bne_eq_false_iff_eq.mpr c19
      clear c19
      replace H := Option.bind_eq_some_iff.mp H
      obtain ⟨t199, A200, H⟩ := H
      replace H : (if t199 = true then ((saronlaw03_filed.f).bind fun t200 => (some t200)) else (some false)) = some r := H
      have A20 := Aside0.mk A200
      clear A200
      by_cases c21 : t199 = true
      ·subst c21
       have H1 : ((saronlaw03_filed.f).bind fun t200 => (some t200)) = some r := by rw [if_pos rfl] at H; exact H
       clear H
       have H := H1
       clear H1
       replace H := Option.bind_eq_some_iff.mp H
       obtain ⟨t200, A220, H⟩ := H
       replace H : (some t200) = some r := H
       have A22 := Aside0.mk A220
       clear A220
       obtain rfl := Option.some.inj H
       have hnb23 := NB190_191.out
       have hnc23 := NB191_190.out
       have hcz24_0 := cz BK190.out 0
       have hcz24_1 := cz BK190.out 1
       have hcz24_2 := cz BK190.out 2
       have hcz24_3 := cz BK190.out 3
       have hfz24_0 := fz BK190.out 0
       have hfz24_1 := fz BK190.out 1
       have hfz24_2 := fz BK190.out 2
       have hfz24_3 := fz BK190.out 3
       go_wp2_with (first | (go_at_call 40; (with_reducible refine (saronref00_Bears.calls a0_1 a0_2 t194 true _ A20.out).mono ?_); rintro e w25 ⟨rfl, hb⟩; replace BK190 := Aside0.mk (TKb hb BK190.out); replace BK191 := Aside0.mk (TKb hb BK191.out); replace HB := Aside0.mk (below_step (TB2 GE190.out GE191.out) hb); (try clear hb); (try clear hb2); (try clear hk); (try clear hi)) | (go_at_call 22; (with_reducible refine (saronlaw03_filed.calls  t200 _ ?side1 A22.out).mono ?_); (case side1 => exact Glob.fr HG.out (Fr.of_below (TB2 GE190.out GE191.out))); rintro e w26 ⟨rfl, hb⟩; replace BK190 := Aside0.mk (TKb hb BK190.out); replace BK191 := Aside0.mk (TKb hb BK191.out); replace HB := Aside0.mk (below_step (TB2 GE190.out GE191.out) hb); (try clear hb); (try clear hb2); (try clear hk); (try clear hi)))
       go_ret
       exact ⟨TR, TB2 GE190.out GE191.out⟩
      ·replace c21 := Bool.eq_false_iff.mpr c21
       subst c21
       have H1 : (some false) = some r := by rw [if_neg (show ¬ (false = true) by decide)] at H; exact H
       clear H
       have H := H1
       clear H1
       obtain rfl := Option.some.inj H
       have hnb27 := NB190_191.out
       have hnc27 := NB191_190.out
       have hcz28_0 := cz BK190.out 0
       have hcz28_1 := cz BK190.out 1
       have hcz28_2 := cz BK190.out 2
       have hcz28_3 := cz BK190.out 3
       have hfz28_0 := fz BK190.out 0
       have hfz28_1 := fz BK190.out 1
       have hfz28_2 := fz BK190.out 2
       have hfz28_3 := fz BK190.out 3
       go_wp2_with (first | (go_at_call 40; (with_reducible refine (saronref00_Bears.calls a0_1 a0_2 t194 false _ A20.out).mono ?_); rintro e w29 ⟨rfl, hb⟩; replace BK190 := Aside0.mk (TKb hb BK190.out); replace BK191 := Aside0.mk (TKb hb BK191.out); replace HB := Aside0.mk (below_step (TB2 GE190.out GE191.out) hb); (try clear hb); (try clear hb2); (try clear hk); (try clear hi)))
       go_ret
       exact ⟨TR, TB2 GE190.out GE191.out⟩
     ·rw [if_neg c19] at H
      have c19b0 : (t197 == 0) = false := beq_eq_false_iff_ne.mpr c19
      have c19b1 : (t197 != 0) = true := bne_iff_ne.mpr c19
      obtain rfl := Option.some.inj H
      go_wp2
      go_ret
      exact ⟨TR, TB2 GE190.out GE191.out⟩
    ·replace c18 := Bool.eq_false_iff.mpr c18
     subst c18
     have H1 : (if t198 = 0 then ((saronref00_Sits.f t196 0 (wrap64 ((l0_0.length : Int) - 1))).bind fun t201 => (saronlaw03_RaspLeast.j1 kj6 t194 t195 t196 t197 t198 (!t201) l0_0 a0_1 a0_2 l0_3)) else (if t198 = 4 then ((saronref00_Bears.f a0_1 a0_2 t194).bind fun t202 => (if t202 = true then (saronlaw03_RaspLeast.j1 kj6 t194 t195 t196 t197 t198 true l0_0 a0_1 a0_2 l0_3) else (saronlaw03_RaspLeast.j1 kj6 t194 t195 t196 t197 t198 false l0_0 a0_1 a0_2 l0_3))) else (saronlaw03_RaspLeast.j1 kj6 t194 t195 t196 t197 t198 true l0_0 a0_1 a0_2 l0_3))) = some r := by rw [if_neg (show ¬ (false = true) by decide)] at H; exact H
     clear H
     have H := H1
     clear H1
     have HC30 := Aside0.mk H
     clear H
     go_upto_region 7 with (fail)
     go_cut [71] (fun v71 wc => ∃ (kq : Nat) (x71_29 : Bool), v71 = .bool x71_29 ∧ Aside0 (saronlaw03_RaspLeast.j1 kq t194 t195 t196 t197 t198 x71_29 l0_0 a0_1 a0_2 l0_3 = some r) ∧ Aside0 (kq ≤ kj6) ∧ Aside0 (wc.heap[gb190]? = some (.cells #[(.slice A0_0 l0_0.length c0_0), .int .i64 a0_1, .int .i64 a0_2, (.slice A0_3 l0_3.length c0_3)] 27 (0, 0))) ∧ Aside0 (wc.heap[gb191]? = some (.cells #[.int .i64 a1_0, .int .i64 a1_1] 28 (0, 0))) ∧ Aside0 (Below w.heap.size w wc))
     case first =>
      have H := HC30.out
      clear HC30
      by_cases c31 : t198 = 0
      ·rw [if_pos c31] at H
       have c31b0 : (t198 == 0) = true := beq_iff_eq.mpr c31
       have c31b1 : (t198 != 0) = false := bne_eq_false_iff_eq.mpr c31
       clear c31
       (first | rw [c31b0] | (simp only [i64_w, i32_w]; rw [c31b0]) | skip)
       replace H := Option.bind_eq_some_iff.mp H
       obtain ⟨t201, A320, H⟩ := H
       replace H : (saronlaw03_RaspLeast.j1 kj6 t194 t195 t196 t197 t198 (!t201) l0_0 a0_1 a0_2 l0_3) = some r := H
       have A32 := Aside0.mk A320
       clear A320
       have H' := Aside0.mk H
       clear H
       have hnb33 := NB190_191.out
       have hnc33 := NB191_190.out
       have hcz34_0 := cz BK190.out 0
       have hcz34_1 := cz BK190.out 1
       have hcz34_2 := cz BK190.out 2
       have hcz34_3 := cz BK190.out 3
       have hfz34_0 := fz BK190.out 0
       have hfz34_1 := fz BK190.out 1
       have hfz34_2 := fz BK190.out 2
       have hfz34_3 := fz BK190.out 3
       go_wp2_with (first | (go_at_call 39; (with_reducible refine (saronref00_Sits.calls t196 0 (wrap64 ((l0_0.length : Int) - 1)) t201 _ A32.out).mono ?_); rintro e w' ⟨rfl, ⟨nd, rfl⟩⟩))
       go_meet
       case rel => exact ⟨_, (!t201), TT, H', ⟨by have := HJ6.out; first | omega | exact Nat.le_refl _⟩, ⟨TK BK190.out⟩, ⟨TK BK191.out⟩, ⟨TB2 GE190.out GE191.out⟩⟩
      ·rw [if_neg c31] at H
       have c31b0 : (t198 == 0) = false := beq_eq_false_iff_ne.mpr c31
       have c31b1 : (t198 != 0) = true := bne_iff_ne.mpr c31
       (first | rw [c31b0] | (simp only [i64_w, i32_w]; rw [c31b0]) | skip)
       by_cases c35 : t198 = 4
       ·rw [if_pos c35] at H
        have c35b0 : (t198 == 4) = true := beq_iff_eq.mpr c35
        have c35b1 : (t198 != 4) = false := bne_eq_false_iff_eq.mpr c35
        clear c35
        replace H := Option.bind_eq_some_iff.mp H
        obtain ⟨t202, A360, H⟩ := H
        replace H : (if t202 = true then (saronlaw03_RaspLeast.j1 kj6 t194 t195 t196 t197 t198 true l0_0 a0_1 a0_2 l0_3) else (saronlaw03_RaspLeast.j1 kj6 t194 t195 t196 t197 t198 false l0_0 a0_1 a0_2 l0_3)) = some r := H
        have A36 := Aside0.mk A360
        clear A360
        by_cases c37 : t202 = true
        ·subst c37
         have H1 : (saronlaw03_RaspLeast.j1 kj6 t194 t195 t196 t197 t198 true l0_0 a0_1 a0_2 l0_3) = some r := by rw [if_pos rfl] at H; exact H
         clear H
         have H := H1
         clear H1
         have H' := Aside0.mk H
         clear H
         have hnb38 := NB190_191.out
         have hnc38 := NB191_190.out
         have hcz39_0 := cz BK190.out 0
         have hcz39_1 := cz BK190.out 1
         have hcz39_2 := cz BK190.out 2
         have hcz39_3 := cz BK190.out 3
         have hfz39_0 := fz BK190.out 0
         have hfz39_1 := fz BK190.out 1
         have hfz39_2 := fz BK190.out 2
         have hfz39_3 := fz BK190.out 3
         go_wp2_with (first | (go_at_call 40; (with_reducible refine (saronref00_Bears.calls a0_1 a0_2 t194 true _ A36.out).mono ?_); rintro e w40 ⟨rfl, hb⟩; replace BK190 := Aside0.mk (TKb hb BK190.out); replace BK191 := Aside0.mk (TKb hb BK191.out); replace HB := Aside0.mk (below_step (TB2 GE190.out GE191.out) hb); (try clear hb); (try clear hb2); (try clear hk); (try clear hi)))
         go_meet
         case rel => exact ⟨_, (true), TT, H', ⟨by have := HJ6.out; first | omega | exact Nat.le_refl _⟩, ⟨TK BK190.out⟩, ⟨TK BK191.out⟩, ⟨TB2 GE190.out GE191.out⟩⟩
        ·replace c37 := Bool.eq_false_iff.mpr c37
         subst c37
         have H1 : (saronlaw03_RaspLeast.j1 kj6 t194 t195 t196 t197 t198 false l0_0 a0_1 a0_2 l0_3) = some r := by rw [if_neg (show ¬ (false = true) by decide)] at H; exact H
         clear H
         have H := H1
         clear H1
         have H' := Aside0.mk H
         clear H
         have hnb41 := NB190_191.out
         have hnc41 := NB191_190.out
         have hcz42_0 := cz BK190.out 0
         have hcz42_1 := cz BK190.out 1
         have hcz42_2 := cz BK190.out 2
         have hcz42_3 := cz BK190.out 3
         have hfz42_0 := fz BK190.out 0
         have hfz42_1 := fz BK190.out 1
         have hfz42_2 := fz BK190.out 2
         have hfz42_3 := fz BK190.out 3
         go_wp2_with (first | (go_at_call 40; (with_reducible refine (saronref00_Bears.calls a0_1 a0_2 t194 false _ A36.out).mono ?_); rintro e w43 ⟨rfl, hb⟩; replace BK190 := Aside0.mk (TKb hb BK190.out); replace BK191 := Aside0.mk (TKb hb BK191.out); replace HB := Aside0.mk (below_step (TB2 GE190.out GE191.out) hb); (try clear hb); (try clear hb2); (try clear hk); (try clear hi)))
         go_meet
         case rel => exact ⟨_, (false), TT, H', ⟨by have := HJ6.out; first | omega | exact Nat.le_refl _⟩, ⟨TK BK190.out⟩, ⟨TK BK191.out⟩, ⟨TB2 GE190.out GE191.out⟩⟩
       ·rw [if_neg c35] at H
        have c35b0 : (t198 == 4) = false := beq_eq_false_iff_ne.mpr c35
        have c35b1 : (t198 != 4) = true := bne_iff_ne.mpr c35
        have H' := Aside0.mk H
        clear H
        go_wp2
        go_meet
        case rel => exact ⟨_, (true), TT, H', ⟨by have := HJ6.out; first | omega | exact Nat.le_refl _⟩, ⟨TK BK190.out⟩, ⟨TK BK191.out⟩, ⟨TB2 GE190.out GE191.out⟩⟩
     case rest =>
      clear HC30
      try clear c1
      try clear c2
      try clear p2
      try clear c3
      try clear c4
      try clear p6
      try clear c8
      try clear c10
      try clear c16
      try clear c17
      try clear c17b0
      try clear c17b1
      try clear c18
      try clear c19
      try clear c19b0
      try clear c19b1
      try clear c21
      try clear c23
      try clear c27
      try clear c31
      try clear c31b0
      try clear c31b1
      try clear c33
      try clear c35
      try clear c35b0
      try clear c35b1
      try clear c37
      try clear c38
      try clear c41
      try clear hcz11_0 hcz11_1 hcz11_2 hcz11_3
      try clear hcz13_0 hcz13_1
      try clear hcz15_0 hcz15_1 hcz15_2 hcz15_3
      try clear hcz24_0 hcz24_1 hcz24_2 hcz24_3
      try clear hcz28_0 hcz28_1 hcz28_2 hcz28_3
      try clear hcz34_0 hcz34_1 hcz34_2 hcz34_3
      try clear hcz39_0 hcz39_1 hcz39_2 hcz39_3
      try clear hcz42_0 hcz42_1 hcz42_2 hcz42_3
      try clear hfz11_0 hfz11_1 hfz11_2 hfz11_3
      try clear hfz13_0 hfz13_1
      try clear hfz15_0 hfz15_1 hfz15_2 hfz15_3
      try clear hfz24_0 hfz24_1 hfz24_2 hfz24_3
      try clear hfz28_0 hfz28_1 hfz28_2 hfz28_3
      try clear hfz34_0 hfz34_1 hfz34_2 hfz34_3
      try clear hfz39_0 hfz39_1 hfz39_2 hfz39_3
      try clear hfz42_0 hfz42_1 hfz42_2 hfz42_3
      try clear p2
      obtain ⟨kq, x71_29, rfl, HA, HJ29, BK190, BK191, HB⟩ := hcut
      cases kq with
      | zero => exact absurd HA.out (by simp [saronlaw03_RaspLeast.j1])
      | succ kj29 =>
       have H := HA.out
       clear HA
       simp only [saronlaw03_RaspLeast.j1] at H
       by_cases c44 : x71_29 = true
       ·subst c44
        have H1 : (some false) = some r := by rw [if_pos rfl] at H; exact H
        clear H
        have H := H1
        clear H1
        obtain rfl := Option.some.inj H
        go_wp2
        go_ret
        exact ⟨TR, TB2 GE190.out GE191.out⟩
       ·replace c44 := Bool.eq_false_iff.mpr c44
        subst c44
        have H1 : (saronlaw03_RaspLeast.l0 kj29 t194 t195 t196 t197 t198 0 l0_0 a0_1 a0_2 l0_3) = some r := by rw [if_neg (show ¬ (false = true) by decide)] at H; exact H
        clear H
        have H := H1
        clear H1
        have H' := Aside0.mk H
        clear H
        go_wp2
        go_loopg [10] kj29 (fun kq v10 w' => ∃ (x10_3 : Int), v10 = .int .i64 x10_3 ∧ Aside0 (saronlaw03_RaspLeast.l0 kq t194 t195 t196 t197 t198 x10_3 l0_0 a0_1 a0_2 l0_3 = some r) ∧ Aside0 (kq ≤ kj29) ∧ Aside0 (w'.heap[gb190]? = some (.cells #[(.slice A0_0 l0_0.length c0_0), .int .i64 a0_1, .int .i64 a0_2, (.slice A0_3 l0_3.length c0_3)] 27 (0, 0))) ∧ Aside0 (w'.heap[gb191]? = some (.cells #[.int .i64 a1_0, .int .i64 a1_1] 28 (0, 0))) ∧ Aside0 (Below w.heap.size w w'))
        case atStart => exact ⟨(0), TT, H', ⟨Nat.le_refl _⟩, ⟨TK BK190.out⟩, ⟨TK BK191.out⟩, ⟨TB2 GE190.out GE191.out⟩⟩
        case round =>
         clear H'
         try clear c1
         try clear c2
         try clear p2
         try clear c3
         try clear c4
         try clear p6
         try clear c8
         try clear c10
         try clear c16
         try clear c17
         try clear c17b0
         try clear c17b1
         try clear c18
         try clear c19
         try clear c19b0
         try clear c19b1
         try clear c21
         try clear c23
         try clear c27
         try clear c31
         try clear c31b0
         try clear c31b1
         try clear c33
         try clear c35
         try clear c35b0
         try clear c35b1
         try clear c37
         try clear c38
         try clear c41
         try clear c44
         try clear hcz11_0 hcz11_1 hcz11_2 hcz11_3
         try clear hcz13_0 hcz13_1
         try clear hcz15_0 hcz15_1 hcz15_2 hcz15_3
         try clear hcz24_0 hcz24_1 hcz24_2 hcz24_3
         try clear hcz28_0 hcz28_1 hcz28_2 hcz28_3
         try clear hcz34_0 hcz34_1 hcz34_2 hcz34_3
         try clear hcz39_0 hcz39_1 hcz39_2 hcz39_3
         try clear hcz42_0 hcz42_1 hcz42_2 hcz42_3
         try clear hfz11_0 hfz11_1 hfz11_2 hfz11_3
         try clear hfz13_0 hfz13_1
         try clear hfz15_0 hfz15_1 hfz15_2 hfz15_3
         try clear hfz24_0 hfz24_1 hfz24_2 hfz24_3
         try clear hfz28_0 hfz28_1 hfz28_2 hfz28_3
         try clear hfz34_0 hfz34_1 hfz34_2 hfz34_3
         try clear hfz39_0 hfz39_1 hfz39_2 hfz39_3
         try clear hfz42_0 hfz42_1 hfz42_2 hfz42_3
         try clear p2
         try clear p6
         obtain ⟨x10_3, rfl, HA, HK3, BK190, BK191, HB⟩ := hrel
         cases gk with
         | zero => exact absurd HA.out (by simp [saronlaw03_RaspLeast.l0])
         | succ k3 =>
          have H := HA.out
          clear HA
          simp only [saronlaw03_RaspLeast.l0] at H
          by_cases c45 : x10_3 < (l0_0.length : Int)
          ·rw [if_pos c45] at H
           have c45b0 : decide (x10_3 < (l0_0.length : Int)) = true := decide_eq_true c45
           clear c45
           by_cases c46 : 0 ≤ x10_3
           ·rw [if_pos c46] at H
            have c46b0 : decide (0 ≤ x10_3) = true := decide_eq_true c46
            clear c46
            replace H := Option.bind_eq_some_iff.mp H
            obtain ⟨⟨t205, t206⟩, A470, H⟩ := H
            replace H : (if t198 = 0 then (if x10_3 = t196 then (if t206 = true then (some false) else (if t205 = (wrap64 (t197 - 1)) then (if t205 < (wrap64 (t197 - 1)) then (some false) else (if x10_3 < t196 then (some false) else (saronlaw03_RaspLeast.l0 k3 t194 t195 t196 t197 t198 (wrap64 (x10_3 + 1)) l0_0 a0_1 a0_2 l0_3))) else (some false))) else (if t206 = true then (saronlaw03_RaspLeast.l0 k3 t194 t195 t196 t197 t198 (wrap64 (x10_3 + 1)) l0_0 a0_1 a0_2 l0_3) else (if t205 < (wrap64 (t197 - 1)) then (some false) else (if t205 = (wrap64 (t197 - 1)) then (if x10_3 < t196 then (some false) else (saronlaw03_RaspLeast.l0 k3 t194 t195 t196 t197 t198 (wrap64 (x10_3 + 1)) l0_0 a0_1 a0_2 l0_3)) else (saronlaw03_RaspLeast.l0 k3 t194 t195 t196 t197 t198 (wrap64 (x10_3 + 1)) l0_0 a0_1 a0_2 l0_3))))) else (if t206 = true then (saronlaw03_RaspLeast.l0 k3 t194 t195 t196 t197 t198 (wrap64 (x10_3 + 1)) l0_0 a0_1 a0_2 l0_3) else (some false))) = some r := H
            have A47 := Aside0.mk A470
            clear A470
            by_cases c48 : t198 = 0
            ·rw [if_pos c48] at H
             have c48b0 : (t198 == 0) = true := beq_iff_eq.mpr c48
             have c48b1 : (t198 != 0) = false := bne_eq_false_iff_eq.mpr c48
             clear c48
             by_cases c49 : x10_3 = t196
             ·rw [if_pos c49] at H
              have c49b0 : (x10_3 == t196) = true := beq_iff_eq.mpr c49
              have c49b1 : (x10_3 != t196) = false := bne_eq_false_iff_eq.mpr c49
              clear c49
              by_cases c50 : t206 = true
              ·subst c50
               have H1 : (some false) = some r := by rw [if_pos rfl] at H; exact H
               clear H
               have H := H1
               clear H1
               obtain rfl := Option.some.inj H
               have hnb51 := NB190_191.out
               have hnc51 := NB191_190.out
               have hcz52_0 := cz BK190.out 0
               have hcz52_1 := cz BK190.out 1
               have hcz52_2 := cz BK190.out 2
               have hcz52_3 := cz BK190.out 3
               have hfz52_0 := fz BK190.out 0
               have hfz52_1 := fz BK190.out 1
               have hfz52_2 := fz BK190.out 2
               have hfz52_3 := fz BK190.out 3
               try go_wp2
               have n0_ := Aside0.mk (blk_drew BK190.out)
               have n1_ := Aside0.mk (blk_drew BK191.out)
               have n2_ := Aside0.mk (below_drew1 HB.out)
               clear BK190
               clear BK191
               clear HB
               have BK190 := n0_
               have BK191 := n1_
               have HB := n2_
               clear n0_ n1_ n2_
               have p204 : 0 ≤ (x10_3 : Int) := of_decide_eq_true TA
               have q204 : x10_3 < (l0_0.length : Int) := of_decide_eq_true TA
               obtain ⟨ad204, e204, hx204_0, hx204_1, hx204_2⟩ := at_T57 HR0_0.out x10_3 p204 q204
               have hw204_2 := hx204_2
               have hw204_1 := hx204_1
               have hw204_0 := hx204_0
               cases e204
               replace hx204_0 := hx HB.out hx204_0
               replace hx204_1 := hx HB.out hx204_1
               replace hx204_2 := hx HB.out hx204_2
               replace p204 := eq_true p204
               replace q204 := eq_true q204
               refine start_ (n := 14) (S := fun w' => w'.cell? ⟨gb190, 0, none⟩ = some (.slice (some ad204) l0_0.length c0_0) ∧ w'.cell? ⟨gb190, 1, none⟩ = some (.int .i64 a0_1) ∧ w'.cell? ⟨gb190, 2, none⟩ = some (.int .i64 a0_2) ∧ w'.cell? ⟨gb190, 3, none⟩ = some (.slice A0_3 l0_3.length c0_3) ∧ w'.cell? (ad204.add ((x10_3).toNat * 3)) = some (.int .i64 ((rd_T57 l0_0 x10_3).f0.f0)) ∧ w'.cell? ⟨(ad204.add ((x10_3).toNat * 3)).block, (ad204.add ((x10_3).toNat * 3)).off + 1, none⟩ = some (.int .i64 ((rd_T57 l0_0 x10_3).f0.f1)) ∧ w'.cell? ⟨(ad204.add ((x10_3).toNat * 3)).block, (ad204.add ((x10_3).toNat * 3)).off + 2, none⟩ = some (.int .i64 ((rd_T57 l0_0 x10_3).f1))) (ds := []) (.replicate 14 false) (by kernel_rfl) rfl rfl ⟨cz BK190.out 0, cz BK190.out 1, cz BK190.out 2, cz BK190.out 3, (hx HB.out hw204_0), (hx HB.out hw204_1), (hx HB.out hw204_2)⟩ (fun hHeld => ?_); refine with_tabW saronlaw03_RaspLeast.tab12 saronlaw03_RaspLeast.bits12 (fun HT_ HW_ => ?_)
               generalize wr.drew = w53 at BK190 BK191 HB hx204_0 hx204_1 hx204_2 hHeld ⊢
               refine pT 1 81 (bt 14 2) (k := ?_)
               refine pT 3 83 (bt 14 10) (k := ?_)
               refine pT 6 86 (bt 14 74) (k := ?_)
               refine pT 7 87 (bt 14 202) (k := ?_)
               refine tT7 0 80 (bt 14 203) hHeld (k := ?_)
               refine tT7 2 82 (bt 14 207) hHeld (k := ?_)
               refine pT 4 84 (bt 14 223) (k := ?_)
               refine tT7 5 85 (bt 14 255) hHeld (k := ?_)
               refine one_ (i := 8) (N := some 88) (bt 14 511) rfl rfl (one_of HT_.out (by kernel_rfl)) (by decide) (fun K hK => ?_)
               refine goes_ Tryd.func43 (by kernel_rfl) rfl #[.agg #[.slice (some ad204) l0_0.length c0_0, .int .i64 a0_1, .int .i64 a0_2, .slice A0_3 l0_3.length c0_3], .agg #[.int .i64 ((rd_T57 l0_0 x10_3).f0.f0), .int .i64 ((rd_T57 l0_0 x10_3).f0.f1), .int .i64 ((rd_T57 l0_0 x10_3).f1)], .int .i64 t194, .int .i64 t195] (by rfl) rfl rfl TM ?_
               with_reducible refine (saronlaw03_after.calls k3 _ _ l0_0 a0_1 a0_2 _ _ l0_3 ((rd_T57 l0_0 x10_3).f0.f0) ((rd_T57 l0_0 x10_3).f0.f1) ((rd_T57 l0_0 x10_3).f1) t194 t195 t205 true _ ?side1 ?side2 ?side3 ?side4 ?side5 A47.out).mono ?_
               (case side1 => exact TC HR0_0.out)
               (case side2 => exact HC0_0.out)
               (case side3 => exact TC HR0_3.out)
               (case side4 => exact HC0_3.out)
               (case side5 => exact Glob.fr HG.out (Fr.of_below (TB2 GE190.out GE191.out)))
               rintro e w54 ⟨rfl, hb⟩
               refine ⟨_, rfl, ?_⟩
               have n0_ := Aside0.mk (TKb hb BK190.out)
               have n1_ := Aside0.mk (TKb hb BK191.out)
               have n2_ := Aside0.mk (below_step (TB2 GE190.out GE191.out) hb)
               clear BK190
               clear BK191
               clear HB
               have BK190 := n0_
               have BK191 := n1_
               have HB := n2_
               clear n0_ n1_ n2_
               (try clear hb)
               (try clear hb2)
               (try clear hk)
               (try clear hi)
               refine hK.out _ _ ⟨cz BK190.out 0, cz BK190.out 1, cz BK190.out 2, cz BK190.out 3, (hx HB.out hw204_0), (hx HB.out hw204_1), (hx HB.out hw204_2)⟩ (fun hHeld => ?_)
               clear hK K
               refine norm_ (a' := ?_) ?_ ?_
               rotate_left
               ·show Act.put _ (some 88) _ = _
                simp only [Act.put, lA, lZ, lS, i64_w, i32_w]
                rfl
               refine pT 9 79 (bt 14 1023) (k := ?_)
               refine pT 10 89 (bt 14 2047) (k := ?_)
               refine pT 11 90 (bt 14 4095) (k := ?_)
               refine pT 12 11 (bt 14 8191) (k := ?_)
               refine pT 13 12 (bt 14 16383) (k := ?_)
               refine done_ (done_of HT_.out (by kernel_rfl)) ?_
               try go_wp2
               go_ret
               exact ⟨TR, TB2 GE190.out GE191.out⟩
              ·replace c50 := Bool.eq_false_iff.mpr c50
               subst c50
               have H1 : (if t205 = (wrap64 (t197 - 1)) then (if t205 < (wrap64 (t197 - 1)) then (some false) else (if x10_3 < t196 then (some false) else (saronlaw03_RaspLeast.l0 k3 t194 t195 t196 t197 t198 (wrap64 (x10_3 + 1)) l0_0 a0_1 a0_2 l0_3))) else (some false)) = some r := by rw [if_neg (show ¬ (false = true) by decide)] at H; exact H
               clear H
               have H := H1
               clear H1
               by_cases c55 : t205 = (wrap64 (t197 - 1))
               ·rw [if_pos c55] at H
                have c55b0 : (t205 == (wrap64 (t197 - 1))) = true := beq_iff_eq.mpr c55
                have c55b1 : (t205 != (wrap64 (t197 - 1))) = false := bne_eq_false_iff_eq.mpr c55
                clear c55
                by_cases c56 : t205 < (wrap64 (t197 - 1))
                ·rw [if_pos c56] at H
                 have c56b0 : decide (t205 < (wrap64 (t197 - 1))) = true := decide_eq_true c56
                 clear c56
                 obtain rfl := Option.some.inj H
                 have hnb57 := NB190_191.out
                 have hnc57 := NB191_190.out
                 have hcz58_0 := cz BK190.out 0
                 have hcz58_1 := cz BK190.out 1
                 have hcz58_2 := cz BK190.out 2
                 have hcz58_3 := cz BK190.out 3
                 have hfz58_0 := fz BK190.out 0
                 have hfz58_1 := fz BK190.out 1
                 have hfz58_2 := fz BK190.out 2
                 have hfz58_3 := fz BK190.out 3
                 try go_wp2
                 have n0_ := Aside0.mk (blk_drew BK190.out)
                 have n1_ := Aside0.mk (blk_drew BK191.out)
                 have n2_ := Aside0.mk (below_drew1 HB.out)
                 clear BK190
                 clear BK191
                 clear HB
                 have BK190 := n0_
                 have BK191 := n1_
                 have HB := n2_
                 clear n0_ n1_ n2_
                 have p204 : 0 ≤ (x10_3 : Int) := of_decide_eq_true TA
                 have q204 : x10_3 < (l0_0.length : Int) := of_decide_eq_true TA
                 obtain ⟨ad204, e204, hx204_0, hx204_1, hx204_2⟩ := at_T57 HR0_0.out x10_3 p204 q204
                 have hw204_2 := hx204_2
                 have hw204_1 := hx204_1
                 have hw204_0 := hx204_0
                 cases e204
                 replace hx204_0 := hx HB.out hx204_0
                 replace hx204_1 := hx HB.out hx204_1
                 replace hx204_2 := hx HB.out hx204_2
                 replace p204 := eq_true p204
                 replace q204 := eq_true q204
                 refine start_ (n := 14) (S := fun w' => w'.cell? ⟨gb190, 0, none⟩ = some (.slice (some ad204) l0_0.length c0_0) ∧ w'.cell? ⟨gb190, 1, none⟩ = some (.int .i64 a0_1) ∧ w'.cell? ⟨gb190, 2, none⟩ = some (.int .i64 a0_2) ∧ w'.cell? ⟨gb190, 3, none⟩ = some (.slice A0_3 l0_3.length c0_3) ∧ w'.cell? (ad204.add ((x10_3).toNat * 3)) = some (.int .i64 ((rd_T57 l0_0 x10_3).f0.f0)) ∧ w'.cell? ⟨(ad204.add ((x10_3).toNat * 3)).block, (ad204.add ((x10_3).toNat * 3)).off + 1, none⟩ = some (.int .i64 ((rd_T57 l0_0 x10_3).f0.f1)) ∧ w'.cell? ⟨(ad204.add ((x10_3).toNat * 3)).block, (ad204.add ((x10_3).toNat * 3)).off + 2, none⟩ = some (.int .i64 ((rd_T57 l0_0 x10_3).f1))) (ds := []) (.replicate 14 false) (by kernel_rfl) rfl rfl ⟨cz BK190.out 0, cz BK190.out 1, cz BK190.out 2, cz BK190.out 3, (hx HB.out hw204_0), (hx HB.out hw204_1), (hx HB.out hw204_2)⟩ (fun hHeld => ?_); refine with_tabW saronlaw03_RaspLeast.tab12 saronlaw03_RaspLeast.bits12 (fun HT_ HW_ => ?_)
                 generalize wr.drew = w59 at BK190 BK191 HB hx204_0 hx204_1 hx204_2 hHeld ⊢
                 refine pT 1 81 (bt 14 2) (k := ?_)
                 refine pT 3 83 (bt 14 10) (k := ?_)
                 refine pT 6 86 (bt 14 74) (k := ?_)
                 refine pT 7 87 (bt 14 202) (k := ?_)
                 refine tT7 0 80 (bt 14 203) hHeld (k := ?_)
                 refine tT7 2 82 (bt 14 207) hHeld (k := ?_)
                 refine pT 4 84 (bt 14 223) (k := ?_)
                 refine tT7 5 85 (bt 14 255) hHeld (k := ?_)
                 refine one_ (i := 8) (N := some 88) (bt 14 511) rfl rfl (one_of HT_.out (by kernel_rfl)) (by decide) (fun K hK => ?_)
                 refine goes_ Tryd.func43 (by kernel_rfl) rfl #[.agg #[.slice (some ad204) l0_0.length c0_0, .int .i64 a0_1, .int .i64 a0_2, .slice A0_3 l0_3.length c0_3], .agg #[.int .i64 ((rd_T57 l0_0 x10_3).f0.f0), .int .i64 ((rd_T57 l0_0 x10_3).f0.f1), .int .i64 ((rd_T57 l0_0 x10_3).f1)], .int .i64 t194, .int .i64 t195] (by rfl) rfl rfl TM ?_
                 with_reducible refine (saronlaw03_after.calls k3 _ _ l0_0 a0_1 a0_2 _ _ l0_3 ((rd_T57 l0_0 x10_3).f0.f0) ((rd_T57 l0_0 x10_3).f0.f1) ((rd_T57 l0_0 x10_3).f1) t194 t195 t205 false _ ?side1 ?side2 ?side3 ?side4 ?side5 A47.out).mono ?_
                 (case side1 => exact TC HR0_0.out)
                 (case side2 => exact HC0_0.out)
                 (case side3 => exact TC HR0_3.out)
                 (case side4 => exact HC0_3.out)
                 (case side5 => exact Glob.fr HG.out (Fr.of_below (TB2 GE190.out GE191.out)))
                 rintro e w60 ⟨rfl, hb⟩
                 refine ⟨_, rfl, ?_⟩
                 have n0_ := Aside0.mk (TKb hb BK190.out)
                 have n1_ := Aside0.mk (TKb hb BK191.out)
                 have n2_ := Aside0.mk (below_step (TB2 GE190.out GE191.out) hb)
                 clear BK190
                 clear BK191
                 clear HB
                 have BK190 := n0_
                 have BK191 := n1_
                 have HB := n2_
                 clear n0_ n1_ n2_
                 (try clear hb)
                 (try clear hb2)
                 (try clear hk)
                 (try clear hi)
                 refine hK.out _ _ ⟨cz BK190.out 0, cz BK190.out 1, cz BK190.out 2, cz BK190.out 3, (hx HB.out hw204_0), (hx HB.out hw204_1), (hx HB.out hw204_2)⟩ (fun hHeld => ?_)
                 clear hK K
                 refine norm_ (a' := ?_) ?_ ?_
                 rotate_left
                 ·show Act.put _ (some 88) _ = _
                  simp only [Act.put, lA, lZ, lS, i64_w, i32_w]
                  rfl
                 refine pT 9 79 (bt 14 1023) (k := ?_)
                 refine pT 10 89 (bt 14 2047) (k := ?_)
                 refine pT 11 90 (bt 14 4095) (k := ?_)
                 refine pT 12 11 (bt 14 8191) (k := ?_)
                 refine pT 13 12 (bt 14 16383) (k := ?_)
                 refine done_ (done_of HT_.out (by kernel_rfl)) ?_
                 try go_wp2
                 go_ret
                 exact ⟨TR, TB2 GE190.out GE191.out⟩
                ·rw [if_neg c56] at H
                 have c56b0 : decide (t205 < (wrap64 (t197 - 1))) = false := decide_eq_false c56
                 clear c56
                 by_cases c61 : x10_3 < t196
                 ·rw [if_pos c61] at H
                  have c61b0 : decide (x10_3 < t196) = true := decide_eq_true c61
                  clear c61
                  obtain rfl := Option.some.inj H
                  have hnb62 := NB190_191.out
                  have hnc62 := NB191_190.out
                  have hcz63_0 := cz BK190.out 0
                  have hcz63_1 := cz BK190.out 1
                  have hcz63_2 := cz BK190.out 2
                  have hcz63_3 := cz BK190.out 3
                  have hfz63_0 := fz BK190.out 0
                  have hfz63_1 := fz BK190.out 1
                  have hfz63_2 := fz BK190.out 2
                  have hfz63_3 := fz BK190.out 3
                  try go_wp2
                  have n0_ := Aside0.mk (blk_drew BK190.out)
                  have n1_ := Aside0.mk (blk_drew BK191.out)
                  have n2_ := Aside0.mk (below_drew1 HB.out)
                  clear BK190
                  clear BK191
                  clear HB
                  have BK190 := n0_
                  have BK191 := n1_
                  have HB := n2_
                  clear n0_ n1_ n2_
                  have p204 : 0 ≤ (x10_3 : Int) := of_decide_eq_true TA
                  have q204 : x10_3 < (l0_0.length : Int) := of_decide_eq_true TA
                  obtain ⟨ad204, e204, hx204_0, hx204_1, hx204_2⟩ := at_T57 HR0_0.out x10_3 p204 q204
                  have hw204_2 := hx204_2
                  have hw204_1 := hx204_1
                  have hw204_0 := hx204_0
                  cases e204
                  replace hx204_0 := hx HB.out hx204_0
                  replace hx204_1 := hx HB.out hx204_1
                  replace hx204_2 := hx HB.out hx204_2
                  replace p204 := eq_true p204
                  replace q204 := eq_true q204
                  refine start_ (n := 14) (S := fun w' => w'.cell? ⟨gb190, 0, none⟩ = some (.slice (some ad204) l0_0.length c0_0) ∧ w'.cell? ⟨gb190, 1, none⟩ = some (.int .i64 a0_1) ∧ w'.cell? ⟨gb190, 2, none⟩ = some (.int .i64 a0_2) ∧ w'.cell? ⟨gb190, 3, none⟩ = some (.slice A0_3 l0_3.length c0_3) ∧ w'.cell? (ad204.add ((x10_3).toNat * 3)) = some (.int .i64 ((rd_T57 l0_0 x10_3).f0.f0)) ∧ w'.cell? ⟨(ad204.add ((x10_3).toNat * 3)).block, (ad204.add ((x10_3).toNat * 3)).off + 1, none⟩ = some (.int .i64 ((rd_T57 l0_0 x10_3).f0.f1)) ∧ w'.cell? ⟨(ad204.add ((x10_3).toNat * 3)).block, (ad204.add ((x10_3).toNat * 3)).off + 2, none⟩ = some (.int .i64 ((rd_T57 l0_0 x10_3).f1))) (ds := []) (.replicate 14 false) (by kernel_rfl) rfl rfl ⟨cz BK190.out 0, cz BK190.out 1, cz BK190.out 2, cz BK190.out 3, (hx HB.out hw204_0), (hx HB.out hw204_1), (hx HB.out hw204_2)⟩ (fun hHeld => ?_); refine with_tabW saronlaw03_RaspLeast.tab12 saronlaw03_RaspLeast.bits12 (fun HT_ HW_ => ?_)
                  generalize wr.drew = w64 at BK190 BK191 HB hx204_0 hx204_1 hx204_2 hHeld ⊢
                  refine pT 1 81 (bt 14 2) (k := ?_)
                  refine pT 3 83 (bt 14 10) (k := ?_)
                  refine pT 6 86 (bt 14 74) (k := ?_)
                  refine pT 7 87 (bt 14 202) (k := ?_)
                  refine tT7 0 80 (bt 14 203) hHeld (k := ?_)
                  refine tT7 2 82 (bt 14 207) hHeld (k := ?_)
                  refine pT 4 84 (bt 14 223) (k := ?_)
                  refine tT7 5 85 (bt 14 255) hHeld (k := ?_)
                  refine one_ (i := 8) (N := some 88) (bt 14 511) rfl rfl (one_of HT_.out (by kernel_rfl)) (by decide) (fun K hK => ?_)
                  refine goes_ Tryd.func43 (by kernel_rfl) rfl #[.agg #[.slice (some ad204) l0_0.length c0_0, .int .i64 a0_1, .int .i64 a0_2, .slice A0_3 l0_3.length c0_3], .agg #[.int .i64 ((rd_T57 l0_0 x10_3).f0.f0), .int .i64 ((rd_T57 l0_0 x10_3).f0.f1), .int .i64 ((rd_T57 l0_0 x10_3).f1)], .int .i64 t194, .int .i64 t195] (by rfl) rfl rfl TM ?_
                  with_reducible refine (saronlaw03_after.calls k3 _ _ l0_0 a0_1 a0_2 _ _ l0_3 ((rd_T57 l0_0 x10_3).f0.f0) ((rd_T57 l0_0 x10_3).f0.f1) ((rd_T57 l0_0 x10_3).f1) t194 t195 t205 false _ ?side1 ?side2 ?side3 ?side4 ?side5 A47.out).mono ?_
                  (case side1 => exact TC HR0_0.out)
                  (case side2 => exact HC0_0.out)
                  (case side3 => exact TC HR0_3.out)
                  (case side4 => exact HC0_3.out)
                  (case side5 => exact Glob.fr HG.out (Fr.of_below (TB2 GE190.out GE191.out)))
                  rintro e w65 ⟨rfl, hb⟩
                  refine ⟨_, rfl, ?_⟩
                  have n0_ := Aside0.mk (TKb hb BK190.out)
                  have n1_ := Aside0.mk (TKb hb BK191.out)
                  have n2_ := Aside0.mk (below_step (TB2 GE190.out GE191.out) hb)
                  clear BK190
                  clear BK191
                  clear HB
                  have BK190 := n0_
                  have BK191 := n1_
                  have HB := n2_
                  clear n0_ n1_ n2_
                  (try clear hb)
                  (try clear hb2)
                  (try clear hk)
                  (try clear hi)
                  refine hK.out _ _ ⟨cz BK190.out 0, cz BK190.out 1, cz BK190.out 2, cz BK190.out 3, (hx HB.out hw204_0), (hx HB.out hw204_1), (hx HB.out hw204_2)⟩ (fun hHeld => ?_)
                  clear hK K
                  refine norm_ (a' := ?_) ?_ ?_
                  rotate_left
                  ·show Act.put _ (some 88) _ = _
                   simp only [Act.put, lA, lZ, lS, i64_w, i32_w]
                   rfl
                  refine pT 9 79 (bt 14 1023) (k := ?_)
                  refine pT 10 89 (bt 14 2047) (k := ?_)
                  refine pT 11 90 (bt 14 4095) (k := ?_)
                  refine pT 12 11 (bt 14 8191) (k := ?_)
                  refine pT 13 12 (bt 14 16383) (k := ?_)
                  refine done_ (done_of HT_.out (by kernel_rfl)) ?_
                  try go_wp2
                  go_ret
                  exact ⟨TR, TB2 GE190.out GE191.out⟩
                 ·rw [if_neg c61] at H
                  have c61b0 : decide (x10_3 < t196) = false := decide_eq_false c61
                  clear c61
                  have H' := Aside0.mk H
                  clear H
                  have hnb66 := NB190_191.out
                  have hnc66 := NB191_190.out
                  have hcz67_0 := cz BK190.out 0
                  have hcz67_1 := cz BK190.out 1
                  have hcz67_2 := cz BK190.out 2
                  have hcz67_3 := cz BK190.out 3
                  have hfz67_0 := fz BK190.out 0
                  have hfz67_1 := fz BK190.out 1
                  have hfz67_2 := fz BK190.out 2
                  have hfz67_3 := fz BK190.out 3
                  try go_wp2
                  have n0_ := Aside0.mk (blk_drew BK190.out)
                  have n1_ := Aside0.mk (blk_drew BK191.out)
                  have n2_ := Aside0.mk (below_drew1 HB.out)
                  clear BK190
                  clear BK191
                  clear HB
                  have BK190 := n0_
                  have BK191 := n1_
                  have HB := n2_
                  clear n0_ n1_ n2_
                  have p204 : 0 ≤ (x10_3 : Int) := of_decide_eq_true TA
                  have q204 : x10_3 < (l0_0.length : Int) := of_decide_eq_true TA
                  obtain ⟨ad204, e204, hx204_0, hx204_1, hx204_2⟩ := at_T57 HR0_0.out x10_3 p204 q204
                  have hw204_2 := hx204_2
                  have hw204_1 := hx204_1
                  have hw204_0 := hx204_0
                  cases e204
                  replace hx204_0 := hx HB.out hx204_0
                  replace hx204_1 := hx HB.out hx204_1
                  replace hx204_2 := hx HB.out hx204_2
                  replace p204 := eq_true p204
                  replace q204 := eq_true q204
                  refine start_ (n := 14) (S := fun w' => w'.cell? ⟨gb190, 0, none⟩ = some (.slice (some ad204) l0_0.length c0_0) ∧ w'.cell? ⟨gb190, 1, none⟩ = some (.int .i64 a0_1) ∧ w'.cell? ⟨gb190, 2, none⟩ = some (.int .i64 a0_2) ∧ w'.cell? ⟨gb190, 3, none⟩ = some (.slice A0_3 l0_3.length c0_3) ∧ w'.cell? (ad204.add ((x10_3).toNat * 3)) = some (.int .i64 ((rd_T57 l0_0 x10_3).f0.f0)) ∧ w'.cell? ⟨(ad204.add ((x10_3).toNat * 3)).block, (ad204.add ((x10_3).toNat * 3)).off + 1, none⟩ = some (.int .i64 ((rd_T57 l0_0 x10_3).f0.f1)) ∧ w'.cell? ⟨(ad204.add ((x10_3).toNat * 3)).block, (ad204.add ((x10_3).toNat * 3)).off + 2, none⟩ = some (.int .i64 ((rd_T57 l0_0 x10_3).f1))) (ds := []) (.replicate 14 false) (by kernel_rfl) rfl rfl ⟨cz BK190.out 0, cz BK190.out 1, cz BK190.out 2, cz BK190.out 3, (hx HB.out hw204_0), (hx HB.out hw204_1), (hx HB.out hw204_2)⟩ (fun hHeld => ?_); refine with_tabW saronlaw03_RaspLeast.tab12 saronlaw03_RaspLeast.bits12 (fun HT_ HW_ => ?_)
                  generalize wr.drew = w68 at BK190 BK191 HB hx204_0 hx204_1 hx204_2 hHeld ⊢
                  refine pT 1 81 (bt 14 2) (k := ?_)
                  refine pT 3 83 (bt 14 10) (k := ?_)
                  refine pT 6 86 (bt 14 74) (k := ?_)
                  refine pT 7 87 (bt 14 202) (k := ?_)
                  refine tT7 0 80 (bt 14 203) hHeld (k := ?_)
                  refine tT7 2 82 (bt 14 207) hHeld (k := ?_)
                  refine pT 4 84 (bt 14 223) (k := ?_)
                  refine tT7 5 85 (bt 14 255) hHeld (k := ?_)
                  refine one_ (i := 8) (N := some 88) (bt 14 511) rfl rfl (one_of HT_.out (by kernel_rfl)) (by decide) (fun K hK => ?_)
                  refine goes_ Tryd.func43 (by kernel_rfl) rfl #[.agg #[.slice (some ad204) l0_0.length c0_0, .int .i64 a0_1, .int .i64 a0_2, .slice A0_3 l0_3.length c0_3], .agg #[.int .i64 ((rd_T57 l0_0 x10_3).f0.f0), .int .i64 ((rd_T57 l0_0 x10_3).f0.f1), .int .i64 ((rd_T57 l0_0 x10_3).f1)], .int .i64 t194, .int .i64 t195] (by rfl) rfl rfl TM ?_
                  with_reducible refine (saronlaw03_after.calls k3 _ _ l0_0 a0_1 a0_2 _ _ l0_3 ((rd_T57 l0_0 x10_3).f0.f0) ((rd_T57 l0_0 x10_3).f0.f1) ((rd_T57 l0_0 x10_3).f1) t194 t195 t205 false _ ?side1 ?side2 ?side3 ?side4 ?side5 A47.out).mono ?_
                  (case side1 => exact TC HR0_0.out)
                  (case side2 => exact HC0_0.out)
                  (case side3 => exact TC HR0_3.out)
                  (case side4 => exact HC0_3.out)
                  (case side5 => exact Glob.fr HG.out (Fr.of_below (TB2 GE190.out GE191.out)))
                  rintro e w69 ⟨rfl, hb⟩
                  refine ⟨_, rfl, ?_⟩
                  have n0_ := Aside0.mk (TKb hb BK190.out)
                  have n1_ := Aside0.mk (TKb hb BK191.out)
                  have n2_ := Aside0.mk (below_step (TB2 GE190.out GE191.out) hb)
                  clear BK190
                  clear BK191
                  clear HB
                  have BK190 := n0_
                  have BK191 := n1_
                  have HB := n2_
                  clear n0_ n1_ n2_
                  (try clear hb)
                  (try clear hb2)
                  (try clear hk)
                  (try clear hi)
                  refine hK.out _ _ ⟨cz BK190.out 0, cz BK190.out 1, cz BK190.out 2, cz BK190.out 3, (hx HB.out hw204_0), (hx HB.out hw204_1), (hx HB.out hw204_2)⟩ (fun hHeld => ?_)
                  clear hK K
                  refine norm_ (a' := ?_) ?_ ?_
                  rotate_left
                  ·show Act.put _ (some 88) _ = _
                   simp only [Act.put, lA, lZ, lS, i64_w, i32_w]
                   rfl
                  refine pT 9 79 (bt 14 1023) (k := ?_)
                  refine pT 10 89 (bt 14 2047) (k := ?_)
                  refine pT 11 90 (bt 14 4095) (k := ?_)
                  refine pT 12 11 (bt 14 8191) (k := ?_)
                  refine pT 13 12 (bt 14 16383) (k := ?_)
                  refine done_ (done_of HT_.out (by kernel_rfl)) ?_
                  try go_wp2
                  go_roundg k3
                  case measure => have := HJ6.out; have := HJ29.out; have := HK3.out; omega
                  case rel => exact ⟨(wrap64 (x10_3 + 1)), TT, H', ⟨by have := HJ6.out; have := HJ29.out; have := HK3.out; omega⟩, ⟨TK BK190.out⟩, ⟨TK BK191.out⟩, ⟨TB2 GE190.out GE191.out⟩⟩
               ·rw [if_neg c55] at H
                have c55b0 : (t205 == (wrap64 (t197 - 1))) = false := beq_eq_false_iff_ne.mpr c55
                have c55b1 : (t205 != (wrap64 (t197 - 1))) = true := bne_iff_ne.mpr c55
                obtain rfl := Option.some.inj H
                have hnb70 := NB190_191.out
                have hnc70 := NB191_190.out
                have hcz71_0 := cz BK190.out 0
                have hcz71_1 := cz BK190.out 1
                have hcz71_2 := cz BK190.out 2
                have hcz71_3 := cz BK190.out 3
                have hfz71_0 := fz BK190.out 0
                have hfz71_1 := fz BK190.out 1
                have hfz71_2 := fz BK190.out 2
                have hfz71_3 := fz BK190.out 3
                try go_wp2
                have n0_ := Aside0.mk (blk_drew BK190.out)
                have n1_ := Aside0.mk (blk_drew BK191.out)
                have n2_ := Aside0.mk (below_drew1 HB.out)
                clear BK190
                clear BK191
                clear HB
                have BK190 := n0_
                have BK191 := n1_
                have HB := n2_
                clear n0_ n1_ n2_
                have p204 : 0 ≤ (x10_3 : Int) := of_decide_eq_true TA
                have q204 : x10_3 < (l0_0.length : Int) := of_decide_eq_true TA
                obtain ⟨ad204, e204, hx204_0, hx204_1, hx204_2⟩ := at_T57 HR0_0.out x10_3 p204 q204
                have hw204_2 := hx204_2
                have hw204_1 := hx204_1
                have hw204_0 := hx204_0
                cases e204
                replace hx204_0 := hx HB.out hx204_0
                replace hx204_1 := hx HB.out hx204_1
                replace hx204_2 := hx HB.out hx204_2
                replace p204 := eq_true p204
                replace q204 := eq_true q204
                refine start_ (n := 14) (S := fun w' => w'.cell? ⟨gb190, 0, none⟩ = some (.slice (some ad204) l0_0.length c0_0) ∧ w'.cell? ⟨gb190, 1, none⟩ = some (.int .i64 a0_1) ∧ w'.cell? ⟨gb190, 2, none⟩ = some (.int .i64 a0_2) ∧ w'.cell? ⟨gb190, 3, none⟩ = some (.slice A0_3 l0_3.length c0_3) ∧ w'.cell? (ad204.add ((x10_3).toNat * 3)) = some (.int .i64 ((rd_T57 l0_0 x10_3).f0.f0)) ∧ w'.cell? ⟨(ad204.add ((x10_3).toNat * 3)).block, (ad204.add ((x10_3).toNat * 3)).off + 1, none⟩ = some (.int .i64 ((rd_T57 l0_0 x10_3).f0.f1)) ∧ w'.cell? ⟨(ad204.add ((x10_3).toNat * 3)).block, (ad204.add ((x10_3).toNat * 3)).off + 2, none⟩ = some (.int .i64 ((rd_T57 l0_0 x10_3).f1))) (ds := []) (.replicate 14 false) (by kernel_rfl) rfl rfl ⟨cz BK190.out 0, cz BK190.out 1, cz BK190.out 2, cz BK190.out 3, (hx HB.out hw204_0), (hx HB.out hw204_1), (hx HB.out hw204_2)⟩ (fun hHeld => ?_); refine with_tabW saronlaw03_RaspLeast.tab12 saronlaw03_RaspLeast.bits12 (fun HT_ HW_ => ?_)
                generalize wr.drew = w72 at BK190 BK191 HB hx204_0 hx204_1 hx204_2 hHeld ⊢
                refine pT 1 81 (bt 14 2) (k := ?_)
                refine pT 3 83 (bt 14 10) (k := ?_)
                refine pT 6 86 (bt 14 74) (k := ?_)
                refine pT 7 87 (bt 14 202) (k := ?_)
                refine tT7 0 80 (bt 14 203) hHeld (k := ?_)
                refine tT7 2 82 (bt 14 207) hHeld (k := ?_)
                refine pT 4 84 (bt 14 223) (k := ?_)
                refine tT7 5 85 (bt 14 255) hHeld (k := ?_)
                refine one_ (i := 8) (N := some 88) (bt 14 511) rfl rfl (one_of HT_.out (by kernel_rfl)) (by decide) (fun K hK => ?_)
                refine goes_ Tryd.func43 (by kernel_rfl) rfl #[.agg #[.slice (some ad204) l0_0.length c0_0, .int .i64 a0_1, .int .i64 a0_2, .slice A0_3 l0_3.length c0_3], .agg #[.int .i64 ((rd_T57 l0_0 x10_3).f0.f0), .int .i64 ((rd_T57 l0_0 x10_3).f0.f1), .int .i64 ((rd_T57 l0_0 x10_3).f1)], .int .i64 t194, .int .i64 t195] (by rfl) rfl rfl TM ?_
                with_reducible refine (saronlaw03_after.calls k3 _ _ l0_0 a0_1 a0_2 _ _ l0_3 ((rd_T57 l0_0 x10_3).f0.f0) ((rd_T57 l0_0 x10_3).f0.f1) ((rd_T57 l0_0 x10_3).f1) t194 t195 t205 false _ ?side1 ?side2 ?side3 ?side4 ?side5 A47.out).mono ?_
                (case side1 => exact TC HR0_0.out)
                (case side2 => exact HC0_0.out)
                (case side3 => exact TC HR0_3.out)
                (case side4 => exact HC0_3.out)
                (case side5 => exact Glob.fr HG.out (Fr.of_below (TB2 GE190.out GE191.out)))
                rintro e w73 ⟨rfl, hb⟩
                refine ⟨_, rfl, ?_⟩
                have n0_ := Aside0.mk (TKb hb BK190.out)
                have n1_ := Aside0.mk (TKb hb BK191.out)
                have n2_ := Aside0.mk (below_step (TB2 GE190.out GE191.out) hb)
                clear BK190
                clear BK191
                clear HB
                have BK190 := n0_
                have BK191 := n1_
                have HB := n2_
                clear n0_ n1_ n2_
                (try clear hb)
                (try clear hb2)
                (try clear hk)
                (try clear hi)
                refine hK.out _ _ ⟨cz BK190.out 0, cz BK190.out 1, cz BK190.out 2, cz BK190.out 3, (hx HB.out hw204_0), (hx HB.out hw204_1), (hx HB.out hw204_2)⟩ (fun hHeld => ?_)
                clear hK K
                refine norm_ (a' := ?_) ?_ ?_
                rotate_left
                ·show Act.put _ (some 88) _ = _
                 simp only [Act.put, lA, lZ, lS, i64_w, i32_w]
                 rfl
                refine pT 9 79 (bt 14 1023) (k := ?_)
                refine pT 10 89 (bt 14 2047) (k := ?_)
                refine pT 11 90 (bt 14 4095) (k := ?_)
                refine pT 12 11 (bt 14 8191) (k := ?_)
                refine pT 13 12 (bt 14 16383) (k := ?_)
                refine done_ (done_of HT_.out (by kernel_rfl)) ?_
                try go_wp2
                go_ret
                exact ⟨TR, TB2 GE190.out GE191.out⟩
             ·rw [if_neg c49] at H
              have c49b0 : (x10_3 == t196) = false := beq_eq_false_iff_ne.mpr c49
              have c49b1 : (x10_3 != t196) = true := bne_iff_ne.mpr c49
              by_cases c74 : t206 = true
              ·subst c74
               have H1 : (saronlaw03_RaspLeast.l0 k3 t194 t195 t196 t197 t198 (wrap64 (x10_3 + 1)) l0_0 a0_1 a0_2 l0_3) = some r := by rw [if_pos rfl] at H; exact H
               clear H
               have H := H1
               clear H1
               have H' := Aside0.mk H
               clear H
               have hnb75 := NB190_191.out
               have hnc75 := NB191_190.out
               have hcz76_0 := cz BK190.out 0
               have hcz76_1 := cz BK190.out 1
               have hcz76_2 := cz BK190.out 2
               have hcz76_3 := cz BK190.out 3
               have hfz76_0 := fz BK190.out 0
               have hfz76_1 := fz BK190.out 1
               have hfz76_2 := fz BK190.out 2
               have hfz76_3 := fz BK190.out 3
               try go_wp2
               have n0_ := Aside0.mk (blk_drew BK190.out)
               have n1_ := Aside0.mk (blk_drew BK191.out)
               have n2_ := Aside0.mk (below_drew1 HB.out)
               clear BK190
               clear BK191
               clear HB
               have BK190 := n0_
               have BK191 := n1_
               have HB := n2_
               clear n0_ n1_ n2_
               have p204 : 0 ≤ (x10_3 : Int) := of_decide_eq_true TA
               have q204 : x10_3 < (l0_0.length : Int) := of_decide_eq_true TA
               obtain ⟨ad204, e204, hx204_0, hx204_1, hx204_2⟩ := at_T57 HR0_0.out x10_3 p204 q204
               have hw204_2 := hx204_2
               have hw204_1 := hx204_1
               have hw204_0 := hx204_0
               cases e204
               replace hx204_0 := hx HB.out hx204_0
               replace hx204_1 := hx HB.out hx204_1
               replace hx204_2 := hx HB.out hx204_2
               replace p204 := eq_true p204
               replace q204 := eq_true q204
               refine start_ (n := 14) (S := fun w' => w'.cell? ⟨gb190, 0, none⟩ = some (.slice (some ad204) l0_0.length c0_0) ∧ w'.cell? ⟨gb190, 1, none⟩ = some (.int .i64 a0_1) ∧ w'.cell? ⟨gb190, 2, none⟩ = some (.int .i64 a0_2) ∧ w'.cell? ⟨gb190, 3, none⟩ = some (.slice A0_3 l0_3.length c0_3) ∧ w'.cell? (ad204.add ((x10_3).toNat * 3)) = some (.int .i64 ((rd_T57 l0_0 x10_3).f0.f0)) ∧ w'.cell? ⟨(ad204.add ((x10_3).toNat * 3)).block, (ad204.add ((x10_3).toNat * 3)).off + 1, none⟩ = some (.int .i64 ((rd_T57 l0_0 x10_3).f0.f1)) ∧ w'.cell? ⟨(ad204.add ((x10_3).toNat * 3)).block, (ad204.add ((x10_3).toNat * 3)).off + 2, none⟩ = some (.int .i64 ((rd_T57 l0_0 x10_3).f1))) (ds := []) (.replicate 14 false) (by kernel_rfl) rfl rfl ⟨cz BK190.out 0, cz BK190.out 1, cz BK190.out 2, cz BK190.out 3, (hx HB.out hw204_0), (hx HB.out hw204_1), (hx HB.out hw204_2)⟩ (fun hHeld => ?_); refine with_tabW saronlaw03_RaspLeast.tab12 saronlaw03_RaspLeast.bits12 (fun HT_ HW_ => ?_)
               generalize wr.drew = w77 at BK190 BK191 HB hx204_0 hx204_1 hx204_2 hHeld ⊢
               refine pT 1 81 (bt 14 2) (k := ?_)
               refine pT 3 83 (bt 14 10) (k := ?_)
               refine pT 6 86 (bt 14 74) (k := ?_)
               refine pT 7 87 (bt 14 202) (k := ?_)
               refine tT7 0 80 (bt 14 203) hHeld (k := ?_)
               refine tT7 2 82 (bt 14 207) hHeld (k := ?_)
               refine pT 4 84 (bt 14 223) (k := ?_)
               refine tT7 5 85 (bt 14 255) hHeld (k := ?_)
               refine one_ (i := 8) (N := some 88) (bt 14 511) rfl rfl (one_of HT_.out (by kernel_rfl)) (by decide) (fun K hK => ?_)
               refine goes_ Tryd.func43 (by kernel_rfl) rfl #[.agg #[.slice (some ad204) l0_0.length c0_0, .int .i64 a0_1, .int .i64 a0_2, .slice A0_3 l0_3.length c0_3], .agg #[.int .i64 ((rd_T57 l0_0 x10_3).f0.f0), .int .i64 ((rd_T57 l0_0 x10_3).f0.f1), .int .i64 ((rd_T57 l0_0 x10_3).f1)], .int .i64 t194, .int .i64 t195] (by rfl) rfl rfl TM ?_
               with_reducible refine (saronlaw03_after.calls k3 _ _ l0_0 a0_1 a0_2 _ _ l0_3 ((rd_T57 l0_0 x10_3).f0.f0) ((rd_T57 l0_0 x10_3).f0.f1) ((rd_T57 l0_0 x10_3).f1) t194 t195 t205 true _ ?side1 ?side2 ?side3 ?side4 ?side5 A47.out).mono ?_
               (case side1 => exact TC HR0_0.out)
               (case side2 => exact HC0_0.out)
               (case side3 => exact TC HR0_3.out)
               (case side4 => exact HC0_3.out)
               (case side5 => exact Glob.fr HG.out (Fr.of_below (TB2 GE190.out GE191.out)))
               rintro e w78 ⟨rfl, hb⟩
               refine ⟨_, rfl, ?_⟩
               have n0_ := Aside0.mk (TKb hb BK190.out)
               have n1_ := Aside0.mk (TKb hb BK191.out)
               have n2_ := Aside0.mk (below_step (TB2 GE190.out GE191.out) hb)
               clear BK190
               clear BK191
               clear HB
               have BK190 := n0_
               have BK191 := n1_
               have HB := n2_
               clear n0_ n1_ n2_
               (try clear hb)
               (try clear hb2)
               (try clear hk)
               (try clear hi)
               refine hK.out _ _ ⟨cz BK190.out 0, cz BK190.out 1, cz BK190.out 2, cz BK190.out 3, (hx HB.out hw204_0), (hx HB.out hw204_1), (hx HB.out hw204_2)⟩ (fun hHeld => ?_)
               clear hK K
               refine norm_ (a' := ?_) ?_ ?_
               rotate_left
               ·show Act.put _ (some 88) _ = _
                simp only [Act.put, lA, lZ, lS, i64_w, i32_w]
                rfl
               refine pT 9 79 (bt 14 1023) (k := ?_)
               refine pT 10 89 (bt 14 2047) (k := ?_)
               refine pT 11 90 (bt 14 4095) (k := ?_)
               refine pT 12 11 (bt 14 8191) (k := ?_)
               refine pT 13 12 (bt 14 16383) (k := ?_)
               refine done_ (done_of HT_.out (by kernel_rfl)) ?_
               try go_wp2
               go_roundg k3
               case measure => have := HJ6.out; have := HJ29.out; have := HK3.out; omega
               case rel => exact ⟨(wrap64 (x10_3 + 1)), TT, H', ⟨by have := HJ6.out; have := HJ29.out; have := HK3.out; omega⟩, ⟨TK BK190.out⟩, ⟨TK BK191.out⟩, ⟨TB2 GE190.out GE191.out⟩⟩
              ·replace c74 := Bool.eq_false_iff.mpr c74
               subst c74
               have H1 : (if t205 < (wrap64 (t197 - 1)) then (some false) else (if t205 = (wrap64 (t197 - 1)) then (if x10_3 < t196 then (some false) else (saronlaw03_RaspLeast.l0 k3 t194 t195 t196 t197 t198 (wrap64 (x10_3 + 1)) l0_0 a0_1 a0_2 l0_3)) else (saronlaw03_RaspLeast.l0 k3 t194 t195 t196 t197 t198 (wrap64 (x10_3 + 1)) l0_0 a0_1 a0_2 l0_3))) = some r := by rw [if_neg (show ¬ (false = true) by decide)] at H; exact H
               clear H
               have H := H1
               clear H1
               by_cases c79 : t205 < (wrap64 (t197 - 1))
               ·rw [if_pos c79] at H
                have c79b0 : decide (t205 < (wrap64 (t197 - 1))) = true := decide_eq_true c79
                clear c79
                obtain rfl := Option.some.inj H
                have hnb80 := NB190_191.out
                have hnc80 := NB191_190.out
                have hcz81_0 := cz BK190.out 0
                have hcz81_1 := cz BK190.out 1
                have hcz81_2 := cz BK190.out 2
                have hcz81_3 := cz BK190.out 3
                have hfz81_0 := fz BK190.out 0
                have hfz81_1 := fz BK190.out 1
                have hfz81_2 := fz BK190.out 2
                have hfz81_3 := fz BK190.out 3
                try go_wp2
                have n0_ := Aside0.mk (blk_drew BK190.out)
                have n1_ := Aside0.mk (blk_drew BK191.out)
                have n2_ := Aside0.mk (below_drew1 HB.out)
                clear BK190
                clear BK191
                clear HB
                have BK190 := n0_
                have BK191 := n1_
                have HB := n2_
                clear n0_ n1_ n2_
                have p204 : 0 ≤ (x10_3 : Int) := of_decide_eq_true TA
                have q204 : x10_3 < (l0_0.length : Int) := of_decide_eq_true TA
                obtain ⟨ad204, e204, hx204_0, hx204_1, hx204_2⟩ := at_T57 HR0_0.out x10_3 p204 q204
                have hw204_2 := hx204_2
                have hw204_1 := hx204_1
                have hw204_0 := hx204_0
                cases e204
                replace hx204_0 := hx HB.out hx204_0
                replace hx204_1 := hx HB.out hx204_1
                replace hx204_2 := hx HB.out hx204_2
                replace p204 := eq_true p204
                replace q204 := eq_true q204
                refine start_ (n := 14) (S := fun w' => w'.cell? ⟨gb190, 0, none⟩ = some (.slice (some ad204) l0_0.length c0_0) ∧ w'.cell? ⟨gb190, 1, none⟩ = some (.int .i64 a0_1) ∧ w'.cell? ⟨gb190, 2, none⟩ = some (.int .i64 a0_2) ∧ w'.cell? ⟨gb190, 3, none⟩ = some (.slice A0_3 l0_3.length c0_3) ∧ w'.cell? (ad204.add ((x10_3).toNat * 3)) = some (.int .i64 ((rd_T57 l0_0 x10_3).f0.f0)) ∧ w'.cell? ⟨(ad204.add ((x10_3).toNat * 3)).block, (ad204.add ((x10_3).toNat * 3)).off + 1, none⟩ = some (.int .i64 ((rd_T57 l0_0 x10_3).f0.f1)) ∧ w'.cell? ⟨(ad204.add ((x10_3).toNat * 3)).block, (ad204.add ((x10_3).toNat * 3)).off + 2, none⟩ = some (.int .i64 ((rd_T57 l0_0 x10_3).f1))) (ds := []) (.replicate 14 false) (by kernel_rfl) rfl rfl ⟨cz BK190.out 0, cz BK190.out 1, cz BK190.out 2, cz BK190.out 3, (hx HB.out hw204_0), (hx HB.out hw204_1), (hx HB.out hw204_2)⟩ (fun hHeld => ?_); refine with_tabW saronlaw03_RaspLeast.tab12 saronlaw03_RaspLeast.bits12 (fun HT_ HW_ => ?_)
                generalize wr.drew = w82 at BK190 BK191 HB hx204_0 hx204_1 hx204_2 hHeld ⊢
                refine pT 1 81 (bt 14 2) (k := ?_)
                refine pT 3 83 (bt 14 10) (k := ?_)
                refine pT 6 86 (bt 14 74) (k := ?_)
                refine pT 7 87 (bt 14 202) (k := ?_)
                refine tT7 0 80 (bt 14 203) hHeld (k := ?_)
                refine tT7 2 82 (bt 14 207) hHeld (k := ?_)
                refine pT 4 84 (bt 14 223) (k := ?_)
                refine tT7 5 85 (bt 14 255) hHeld (k := ?_)
                refine one_ (i := 8) (N := some 88) (bt 14 511) rfl rfl (one_of HT_.out (by kernel_rfl)) (by decide) (fun K hK => ?_)
                refine goes_ Tryd.func43 (by kernel_rfl) rfl #[.agg #[.slice (some ad204) l0_0.length c0_0, .int .i64 a0_1, .int .i64 a0_2, .slice A0_3 l0_3.length c0_3], .agg #[.int .i64 ((rd_T57 l0_0 x10_3).f0.f0), .int .i64 ((rd_T57 l0_0 x10_3).f0.f1), .int .i64 ((rd_T57 l0_0 x10_3).f1)], .int .i64 t194, .int .i64 t195] (by rfl) rfl rfl TM ?_
                with_reducible refine (saronlaw03_after.calls k3 _ _ l0_0 a0_1 a0_2 _ _ l0_3 ((rd_T57 l0_0 x10_3).f0.f0) ((rd_T57 l0_0 x10_3).f0.f1) ((rd_T57 l0_0 x10_3).f1) t194 t195 t205 false _ ?side1 ?side2 ?side3 ?side4 ?side5 A47.out).mono ?_
                (case side1 => exact TC HR0_0.out)
                (case side2 => exact HC0_0.out)
                (case side3 => exact TC HR0_3.out)
                (case side4 => exact HC0_3.out)
                (case side5 => exact Glob.fr HG.out (Fr.of_below (TB2 GE190.out GE191.out)))
                rintro e w83 ⟨rfl, hb⟩
                refine ⟨_, rfl, ?_⟩
                have n0_ := Aside0.mk (TKb hb BK190.out)
                have n1_ := Aside0.mk (TKb hb BK191.out)
                have n2_ := Aside0.mk (below_step (TB2 GE190.out GE191.out) hb)
                clear BK190
                clear BK191
                clear HB
                have BK190 := n0_
                have BK191 := n1_
                have HB := n2_
                clear n0_ n1_ n2_
                (try clear hb)
                (try clear hb2)
                (try clear hk)
                (try clear hi)
                refine hK.out _ _ ⟨cz BK190.out 0, cz BK190.out 1, cz BK190.out 2, cz BK190.out 3, (hx HB.out hw204_0), (hx HB.out hw204_1), (hx HB.out hw204_2)⟩ (fun hHeld => ?_)
                clear hK K
                refine norm_ (a' := ?_) ?_ ?_
                rotate_left
                ·show Act.put _ (some 88) _ = _
                 simp only [Act.put, lA, lZ, lS, i64_w, i32_w]
                 rfl
                refine pT 9 79 (bt 14 1023) (k := ?_)
                refine pT 10 89 (bt 14 2047) (k := ?_)
                refine pT 11 90 (bt 14 4095) (k := ?_)
                refine pT 12 11 (bt 14 8191) (k := ?_)
                refine pT 13 12 (bt 14 16383) (k := ?_)
                refine done_ (done_of HT_.out (by kernel_rfl)) ?_
                try go_wp2
                go_ret
                exact ⟨TR, TB2 GE190.out GE191.out⟩
               ·rw [if_neg c79] at H
                have c79b0 : decide (t205 < (wrap64 (t197 - 1))) = false := decide_eq_false c79
                clear c79
                by_cases c84 : t205 = (wrap64 (t197 - 1))
                ·rw [if_pos c84] at H
                 have c84b0 : (t205 == (wrap64 (t197 - 1))) = true := beq_iff_eq.mpr c84
                 have c84b1 : (t205 != (wrap64 (t197 - 1))) = false := bne_eq_false_iff_eq.mpr c84
                 clear c84
                 by_cases c85 : x10_3 < t196
                 ·rw [if_pos c85] at H
                  have c85b0 : decide (x10_3 < t196) = true := decide_eq_true c85
                  clear c85
                  obtain rfl := Option.some.inj H
                  have hnb86 := NB190_191.out
                  have hnc86 := NB191_190.out
                  have hcz87_0 := cz BK190.out 0
                  have hcz87_1 := cz BK190.out 1
                  have hcz87_2 := cz BK190.out 2
                  have hcz87_3 := cz BK190.out 3
                  have hfz87_0 := fz BK190.out 0
                  have hfz87_1 := fz BK190.out 1
                  have hfz87_2 := fz BK190.out 2
                  have hfz87_3 := fz BK190.out 3
                  try go_wp2
                  have n0_ := Aside0.mk (blk_drew BK190.out)
                  have n1_ := Aside0.mk (blk_drew BK191.out)
                  have n2_ := Aside0.mk (below_drew1 HB.out)
                  clear BK190
                  clear BK191
                  clear HB
                  have BK190 := n0_
                  have BK191 := n1_
                  have HB := n2_
                  clear n0_ n1_ n2_
                  have p204 : 0 ≤ (x10_3 : Int) := of_decide_eq_true TA
                  have q204 : x10_3 < (l0_0.length : Int) := of_decide_eq_true TA
                  obtain ⟨ad204, e204, hx204_0, hx204_1, hx204_2⟩ := at_T57 HR0_0.out x10_3 p204 q204
                  have hw204_2 := hx204_2
                  have hw204_1 := hx204_1
                  have hw204_0 := hx204_0
                  cases e204
                  replace hx204_0 := hx HB.out hx204_0
                  replace hx204_1 := hx HB.out hx204_1
                  replace hx204_2 := hx HB.out hx204_2
                  replace p204 := eq_true p204
                  replace q204 := eq_true q204
                  refine start_ (n := 14) (S := fun w' => w'.cell? ⟨gb190, 0, none⟩ = some (.slice (some ad204) l0_0.length c0_0) ∧ w'.cell? ⟨gb190, 1, none⟩ = some (.int .i64 a0_1) ∧ w'.cell? ⟨gb190, 2, none⟩ = some (.int .i64 a0_2) ∧ w'.cell? ⟨gb190, 3, none⟩ = some (.slice A0_3 l0_3.length c0_3) ∧ w'.cell? (ad204.add ((x10_3).toNat * 3)) = some (.int .i64 ((rd_T57 l0_0 x10_3).f0.f0)) ∧ w'.cell? ⟨(ad204.add ((x10_3).toNat * 3)).block, (ad204.add ((x10_3).toNat * 3)).off + 1, none⟩ = some (.int .i64 ((rd_T57 l0_0 x10_3).f0.f1)) ∧ w'.cell? ⟨(ad204.add ((x10_3).toNat * 3)).block, (ad204.add ((x10_3).toNat * 3)).off + 2, none⟩ = some (.int .i64 ((rd_T57 l0_0 x10_3).f1))) (ds := []) (.replicate 14 false) (by kernel_rfl) rfl rfl ⟨cz BK190.out 0, cz BK190.out 1, cz BK190.out 2, cz BK190.out 3, (hx HB.out hw204_0), (hx HB.out hw204_1), (hx HB.out hw204_2)⟩ (fun hHeld => ?_); refine with_tabW saronlaw03_RaspLeast.tab12 saronlaw03_RaspLeast.bits12 (fun HT_ HW_ => ?_)
                  generalize wr.drew = w88 at BK190 BK191 HB hx204_0 hx204_1 hx204_2 hHeld ⊢
                  refine pT 1 81 (bt 14 2) (k := ?_)
                  refine pT 3 83 (bt 14 10) (k := ?_)
                  refine pT 6 86 (bt 14 74) (k := ?_)
                  refine pT 7 87 (bt 14 202) (k := ?_)
                  refine tT7 0 80 (bt 14 203) hHeld (k := ?_)
                  refine tT7 2 82 (bt 14 207) hHeld (k := ?_)
                  refine pT 4 84 (bt 14 223) (k := ?_)
                  refine tT7 5 85 (bt 14 255) hHeld (k := ?_)
                  refine one_ (i := 8) (N := some 88) (bt 14 511) rfl rfl (one_of HT_.out (by kernel_rfl)) (by decide) (fun K hK => ?_)
                  refine goes_ Tryd.func43 (by kernel_rfl) rfl #[.agg #[.slice (some ad204) l0_0.length c0_0, .int .i64 a0_1, .int .i64 a0_2, .slice A0_3 l0_3.length c0_3], .agg #[.int .i64 ((rd_T57 l0_0 x10_3).f0.f0), .int .i64 ((rd_T57 l0_0 x10_3).f0.f1), .int .i64 ((rd_T57 l0_0 x10_3).f1)], .int .i64 t194, .int .i64 t195] (by rfl) rfl rfl TM ?_
                  with_reducible refine (saronlaw03_after.calls k3 _ _ l0_0 a0_1 a0_2 _ _ l0_3 ((rd_T57 l0_0 x10_3).f0.f0) ((rd_T57 l0_0 x10_3).f0.f1) ((rd_T57 l0_0 x10_3).f1) t194 t195 t205 false _ ?side1 ?side2 ?side3 ?side4 ?side5 A47.out).mono ?_
                  (case side1 => exact TC HR0_0.out)
                  (case side2 => exact HC0_0.out)
                  (case side3 => exact TC HR0_3.out)
                  (case side4 => exact HC0_3.out)
                  (case side5 => exact Glob.fr HG.out (Fr.of_below (TB2 GE190.out GE191.out)))
                  rintro e w89 ⟨rfl, hb⟩
                  refine ⟨_, rfl, ?_⟩
                  have n0_ := Aside0.mk (TKb hb BK190.out)
                  have n1_ := Aside0.mk (TKb hb BK191.out)
                  have n2_ := Aside0.mk (below_step (TB2 GE190.out GE191.out) hb)
                  clear BK190
                  clear BK191
                  clear HB
                  have BK190 := n0_
                  have BK191 := n1_
                  have HB := n2_
                  clear n0_ n1_ n2_
                  (try clear hb)
                  (try clear hb2)
                  (try clear hk)
                  (try clear hi)
                  refine hK.out _ _ ⟨cz BK190.out 0, cz BK190.out 1, cz BK190.out 2, cz BK190.out 3, (hx HB.out hw204_0), (hx HB.out hw204_1), (hx HB.out hw204_2)⟩ (fun hHeld => ?_)
                  clear hK K
                  refine norm_ (a' := ?_) ?_ ?_
                  rotate_left
                  ·show Act.put _ (some 88) _ = _
                   simp only [Act.put, lA, lZ, lS, i64_w, i32_w]
                   rfl
                  refine pT 9 79 (bt 14 1023) (k := ?_)
                  refine pT 10 89 (bt 14 2047) (k := ?_)
                  refine pT 11 90 (bt 14 4095) (k := ?_)
                  refine pT 12 11 (bt 14 8191) (k := ?_)
                  refine pT 13 12 (bt 14 16383) (k := ?_)
                  refine done_ (done_of HT_.out (by kernel_rfl)) ?_
                  try go_wp2
                  go_ret
                  exact ⟨TR, TB2 GE190.out GE191.out⟩
                 ·rw [if_neg c85] at H
                  have c85b0 : decide (x10_3 < t196) = false := decide_eq_false c85
                  clear c85
                  have H' := Aside0.mk H
                  clear H
                  have hnb90 := NB190_191.out
                  have hnc90 := NB191_190.out
                  have hcz91_0 := cz BK190.out 0
                  have hcz91_1 := cz BK190.out 1
                  have hcz91_2 := cz BK190.out 2
                  have hcz91_3 := cz BK190.out 3
                  have hfz91_0 := fz BK190.out 0
                  have hfz91_1 := fz BK190.out 1
                  have hfz91_2 := fz BK190.out 2
                  have hfz91_3 := fz BK190.out 3
                  try go_wp2
                  have n0_ := Aside0.mk (blk_drew BK190.out)
                  have n1_ := Aside0.mk (blk_drew BK191.out)
                  have n2_ := Aside0.mk (below_drew1 HB.out)
                  clear BK190
                  clear BK191
                  clear HB
                  have BK190 := n0_
                  have BK191 := n1_
                  have HB := n2_
                  clear n0_ n1_ n2_
                  have p204 : 0 ≤ (x10_3 : Int) := of_decide_eq_true TA
                  have q204 : x10_3 < (l0_0.length : Int) := of_decide_eq_true TA
                  obtain ⟨ad204, e204, hx204_0, hx204_1, hx204_2⟩ := at_T57 HR0_0.out x10_3 p204 q204
                  have hw204_2 := hx204_2
                  have hw204_1 := hx204_1
                  have hw204_0 := hx204_0
                  cases e204
                  replace hx204_0 := hx HB.out hx204_0
                  replace hx204_1 := hx HB.out hx204_1
                  replace hx204_2 := hx HB.out hx204_2
                  replace p204 := eq_true p204
                  replace q204 := eq_true q204
                  refine start_ (n := 14) (S := fun w' => w'.cell? ⟨gb190, 0, none⟩ = some (.slice (some ad204) l0_0.length c0_0) ∧ w'.cell? ⟨gb190, 1, none⟩ = some (.int .i64 a0_1) ∧ w'.cell? ⟨gb190, 2, none⟩ = some (.int .i64 a0_2) ∧ w'.cell? ⟨gb190, 3, none⟩ = some (.slice A0_3 l0_3.length c0_3) ∧ w'.cell? (ad204.add ((x10_3).toNat * 3)) = some (.int .i64 ((rd_T57 l0_0 x10_3).f0.f0)) ∧ w'.cell? ⟨(ad204.add ((x10_3).toNat * 3)).block, (ad204.add ((x10_3).toNat * 3)).off + 1, none⟩ = some (.int .i64 ((rd_T57 l0_0 x10_3).f0.f1)) ∧ w'.cell? ⟨(ad204.add ((x10_3).toNat * 3)).block, (ad204.add ((x10_3).toNat * 3)).off + 2, none⟩ = some (.int .i64 ((rd_T57 l0_0 x10_3).f1))) (ds := []) (.replicate 14 false) (by kernel_rfl) rfl rfl ⟨cz BK190.out 0, cz BK190.out 1, cz BK190.out 2, cz BK190.out 3, (hx HB.out hw204_0), (hx HB.out hw204_1), (hx HB.out hw204_2)⟩ (fun hHeld => ?_); refine with_tabW saronlaw03_RaspLeast.tab12 saronlaw03_RaspLeast.bits12 (fun HT_ HW_ => ?_)
                  generalize wr.drew = w92 at BK190 BK191 HB hx204_0 hx204_1 hx204_2 hHeld ⊢
                  refine pT 1 81 (bt 14 2) (k := ?_)
                  refine pT 3 83 (bt 14 10) (k := ?_)
                  refine pT 6 86 (bt 14 74) (k := ?_)
                  refine pT 7 87 (bt 14 202) (k := ?_)
                  refine tT7 0 80 (bt 14 203) hHeld (k := ?_)
                  refine tT7 2 82 (bt 14 207) hHeld (k := ?_)
                  refine pT 4 84 (bt 14 223) (k := ?_)
                  refine tT7 5 85 (bt 14 255) hHeld (k := ?_)
                  refine one_ (i := 8) (N := some 88) (bt 14 511) rfl rfl (one_of HT_.out (by kernel_rfl)) (by decide) (fun K hK => ?_)
                  refine goes_ Tryd.func43 (by kernel_rfl) rfl #[.agg #[.slice (some ad204) l0_0.length c0_0, .int .i64 a0_1, .int .i64 a0_2, .slice A0_3 l0_3.length c0_3], .agg #[.int .i64 ((rd_T57 l0_0 x10_3).f0.f0), .int .i64 ((rd_T57 l0_0 x10_3).f0.f1), .int .i64 ((rd_T57 l0_0 x10_3).f1)], .int .i64 t194, .int .i64 t195] (by rfl) rfl rfl TM ?_
                  with_reducible refine (saronlaw03_after.calls k3 _ _ l0_0 a0_1 a0_2 _ _ l0_3 ((rd_T57 l0_0 x10_3).f0.f0) ((rd_T57 l0_0 x10_3).f0.f1) ((rd_T57 l0_0 x10_3).f1) t194 t195 t205 false _ ?side1 ?side2 ?side3 ?side4 ?side5 A47.out).mono ?_
                  (case side1 => exact TC HR0_0.out)
                  (case side2 => exact HC0_0.out)
                  (case side3 => exact TC HR0_3.out)
                  (case side4 => exact HC0_3.out)
                  (case side5 => exact Glob.fr HG.out (Fr.of_below (TB2 GE190.out GE191.out)))
                  rintro e w93 ⟨rfl, hb⟩
                  refine ⟨_, rfl, ?_⟩
                  have n0_ := Aside0.mk (TKb hb BK190.out)
                  have n1_ := Aside0.mk (TKb hb BK191.out)
                  have n2_ := Aside0.mk (below_step (TB2 GE190.out GE191.out) hb)
                  clear BK190
                  clear BK191
                  clear HB
                  have BK190 := n0_
                  have BK191 := n1_
                  have HB := n2_
                  clear n0_ n1_ n2_
                  (try clear hb)
                  (try clear hb2)
                  (try clear hk)
                  (try clear hi)
                  refine hK.out _ _ ⟨cz BK190.out 0, cz BK190.out 1, cz BK190.out 2, cz BK190.out 3, (hx HB.out hw204_0), (hx HB.out hw204_1), (hx HB.out hw204_2)⟩ (fun hHeld => ?_)
                  clear hK K
                  refine norm_ (a' := ?_) ?_ ?_
                  rotate_left
                  ·show Act.put _ (some 88) _ = _
                   simp only [Act.put, lA, lZ, lS, i64_w, i32_w]
                   rfl
                  refine pT 9 79 (bt 14 1023) (k := ?_)
                  refine pT 10 89 (bt 14 2047) (k := ?_)
                  refine pT 11 90 (bt 14 4095) (k := ?_)
                  refine pT 12 11 (bt 14 8191) (k := ?_)
                  refine pT 13 12 (bt 14 16383) (k := ?_)
                  refine done_ (done_of HT_.out (by kernel_rfl)) ?_
                  try go_wp2
                  go_roundg k3
                  case measure => have := HJ6.out; have := HJ29.out; have := HK3.out; omega
                  case rel => exact ⟨(wrap64 (x10_3 + 1)), TT, H', ⟨by have := HJ6.out; have := HJ29.out; have := HK3.out; omega⟩, ⟨TK BK190.out⟩, ⟨TK BK191.out⟩, ⟨TB2 GE190.out GE191.out⟩⟩
                ·rw [if_neg c84] at H
                 have c84b0 : (t205 == (wrap64 (t197 - 1))) = false := beq_eq_false_iff_ne.mpr c84
                 have c84b1 : (t205 != (wrap64 (t197 - 1))) = true := bne_iff_ne.mpr c84
                 have H' := Aside0.mk H
                 clear H
                 have hnb94 := NB190_191.out
                 have hnc94 := NB191_190.out
                 have hcz95_0 := cz BK190.out 0
                 have hcz95_1 := cz BK190.out 1
                 have hcz95_2 := cz BK190.out 2
                 have hcz95_3 := cz BK190.out 3
                 have hfz95_0 := fz BK190.out 0
                 have hfz95_1 := fz BK190.out 1
                 have hfz95_2 := fz BK190.out 2
                 have hfz95_3 := fz BK190.out 3
                 try go_wp2
                 have n0_ := Aside0.mk (blk_drew BK190.out)
                 have n1_ := Aside0.mk (blk_drew BK191.out)
                 have n2_ := Aside0.mk (below_drew1 HB.out)
                 clear BK190
                 clear BK191
                 clear HB
                 have BK190 := n0_
                 have BK191 := n1_
                 have HB := n2_
                 clear n0_ n1_ n2_
                 have p204 : 0 ≤ (x10_3 : Int) := of_decide_eq_true TA
                 have q204 : x10_3 < (l0_0.length : Int) := of_decide_eq_true TA
                 obtain ⟨ad204, e204, hx204_0, hx204_1, hx204_2⟩ := at_T57 HR0_0.out x10_3 p204 q204
                 have hw204_2 := hx204_2
                 have hw204_1 := hx204_1
                 have hw204_0 := hx204_0
                 cases e204
                 replace hx204_0 := hx HB.out hx204_0
                 replace hx204_1 := hx HB.out hx204_1
                 replace hx204_2 := hx HB.out hx204_2
                 replace p204 := eq_true p204
                 replace q204 := eq_true q204
                 refine start_ (n := 14) (S := fun w' => w'.cell? ⟨gb190, 0, none⟩ = some (.slice (some ad204) l0_0.length c0_0) ∧ w'.cell? ⟨gb190, 1, none⟩ = some (.int .i64 a0_1) ∧ w'.cell? ⟨gb190, 2, none⟩ = some (.int .i64 a0_2) ∧ w'.cell? ⟨gb190, 3, none⟩ = some (.slice A0_3 l0_3.length c0_3) ∧ w'.cell? (ad204.add ((x10_3).toNat * 3)) = some (.int .i64 ((rd_T57 l0_0 x10_3).f0.f0)) ∧ w'.cell? ⟨(ad204.add ((x10_3).toNat * 3)).block, (ad204.add ((x10_3).toNat * 3)).off + 1, none⟩ = some (.int .i64 ((rd_T57 l0_0 x10_3).f0.f1)) ∧ w'.cell? ⟨(ad204.add ((x10_3).toNat * 3)).block, (ad204.add ((x10_3).toNat * 3)).off + 2, none⟩ = some (.int .i64 ((rd_T57 l0_0 x10_3).f1))) (ds := []) (.replicate 14 false) (by kernel_rfl) rfl rfl ⟨cz BK190.out 0, cz BK190.out 1, cz BK190.out 2, cz BK190.out 3, (hx HB.out hw204_0), (hx HB.out hw204_1), (hx HB.out hw204_2)⟩ (fun hHeld => ?_); refine with_tabW saronlaw03_RaspLeast.tab12 saronlaw03_RaspLeast.bits12 (fun HT_ HW_ => ?_)
                 generalize wr.drew = w96 at BK190 BK191 HB hx204_0 hx204_1 hx204_2 hHeld ⊢
                 refine pT 1 81 (bt 14 2) (k := ?_)
                 refine pT 3 83 (bt 14 10) (k := ?_)
                 refine pT 6 86 (bt 14 74) (k := ?_)
                 refine pT 7 87 (bt 14 202) (k := ?_)
                 refine tT7 0 80 (bt 14 203) hHeld (k := ?_)
                 refine tT7 2 82 (bt 14 207) hHeld (k := ?_)
                 refine pT 4 84 (bt 14 223) (k := ?_)
                 refine tT7 5 85 (bt 14 255) hHeld (k := ?_)
                 refine one_ (i := 8) (N := some 88) (bt 14 511) rfl rfl (one_of HT_.out (by kernel_rfl)) (by decide) (fun K hK => ?_)
                 refine goes_ Tryd.func43 (by kernel_rfl) rfl #[.agg #[.slice (some ad204) l0_0.length c0_0, .int .i64 a0_1, .int .i64 a0_2, .slice A0_3 l0_3.length c0_3], .agg #[.int .i64 ((rd_T57 l0_0 x10_3).f0.f0), .int .i64 ((rd_T57 l0_0 x10_3).f0.f1), .int .i64 ((rd_T57 l0_0 x10_3).f1)], .int .i64 t194, .int .i64 t195] (by rfl) rfl rfl TM ?_
                 with_reducible refine (saronlaw03_after.calls k3 _ _ l0_0 a0_1 a0_2 _ _ l0_3 ((rd_T57 l0_0 x10_3).f0.f0) ((rd_T57 l0_0 x10_3).f0.f1) ((rd_T57 l0_0 x10_3).f1) t194 t195 t205 false _ ?side1 ?side2 ?side3 ?side4 ?side5 A47.out).mono ?_
                 (case side1 => exact TC HR0_0.out)
                 (case side2 => exact HC0_0.out)
                 (case side3 => exact TC HR0_3.out)
                 (case side4 => exact HC0_3.out)
                 (case side5 => exact Glob.fr HG.out (Fr.of_below (TB2 GE190.out GE191.out)))
                 rintro e w97 ⟨rfl, hb⟩
                 refine ⟨_, rfl, ?_⟩
                 have n0_ := Aside0.mk (TKb hb BK190.out)
                 have n1_ := Aside0.mk (TKb hb BK191.out)
                 have n2_ := Aside0.mk (below_step (TB2 GE190.out GE191.out) hb)
                 clear BK190
                 clear BK191
                 clear HB
                 have BK190 := n0_
                 have BK191 := n1_
                 have HB := n2_
                 clear n0_ n1_ n2_
                 (try clear hb)
                 (try clear hb2)
                 (try clear hk)
                 (try clear hi)
                 refine hK.out _ _ ⟨cz BK190.out 0, cz BK190.out 1, cz BK190.out 2, cz BK190.out 3, (hx HB.out hw204_0), (hx HB.out hw204_1), (hx HB.out hw204_2)⟩ (fun hHeld => ?_)
                 clear hK K
                 refine norm_ (a' := ?_) ?_ ?_
                 rotate_left
                 ·show Act.put _ (some 88) _ = _
                  simp only [Act.put, lA, lZ, lS, i64_w, i32_w]
                  rfl
                 refine pT 9 79 (bt 14 1023) (k := ?_)
                 refine pT 10 89 (bt 14 2047) (k := ?_)
                 refine pT 11 90 (bt 14 4095) (k := ?_)
                 refine pT 12 11 (bt 14 8191) (k := ?_)
                 refine pT 13 12 (bt 14 16383) (k := ?_)
                 refine done_ (done_of HT_.out (by kernel_rfl)) ?_
                 try go_wp2
                 go_roundg k3
                 case measure => have := HJ6.out; have := HJ29.out; have := HK3.out; omega
                 case rel => exact ⟨(wrap64 (x10_3 + 1)), TT, H', ⟨by have := HJ6.out; have := HJ29.out; have := HK3.out; omega⟩, ⟨TK BK190.out⟩, ⟨TK BK191.out⟩, ⟨TB2 GE190.out GE191.out⟩⟩
            ·rw [if_neg c48] at H
             have c48b0 : (t198 == 0) = false := beq_eq_false_iff_ne.mpr c48
             have c48b1 : (t198 != 0) = true := bne_iff_ne.mpr c48
             by_cases c98 : t206 = true
             ·subst c98
              have H1 : (saronlaw03_RaspLeast.l0 k3 t194 t195 t196 t197 t198 (wrap64 (x10_3 + 1)) l0_0 a0_1 a0_2 l0_3) = some r := by rw [if_pos rfl] at H; exact H
              clear H
              have H := H1
              clear H1
              have H' := Aside0.mk H
              clear H
              have hnb99 := NB190_191.out
              have hnc99 := NB191_190.out
              have hcz100_0 := cz BK190.out 0
              have hcz100_1 := cz BK190.out 1
              have hcz100_2 := cz BK190.out 2
              have hcz100_3 := cz BK190.out 3
              have hfz100_0 := fz BK190.out 0
              have hfz100_1 := fz BK190.out 1
              have hfz100_2 := fz BK190.out 2
              have hfz100_3 := fz BK190.out 3
              try go_wp2
              have n0_ := Aside0.mk (blk_drew BK190.out)
              have n1_ := Aside0.mk (blk_drew BK191.out)
              have n2_ := Aside0.mk (below_drew1 HB.out)
              clear BK190
              clear BK191
              clear HB
              have BK190 := n0_
              have BK191 := n1_
              have HB := n2_
              clear n0_ n1_ n2_
              have p204 : 0 ≤ (x10_3 : Int) := of_decide_eq_true TA
              have q204 : x10_3 < (l0_0.length : Int) := of_decide_eq_true TA
              obtain ⟨ad204, e204, hx204_0, hx204_1, hx204_2⟩ := at_T57 HR0_0.out x10_3 p204 q204
              have hw204_2 := hx204_2
              have hw204_1 := hx204_1
              have hw204_0 := hx204_0
              cases e204
              replace hx204_0 := hx HB.out hx204_0
              replace hx204_1 := hx HB.out hx204_1
              replace hx204_2 := hx HB.out hx204_2
              replace p204 := eq_true p204
              replace q204 := eq_true q204
              refine start_ (n := 14) (S := fun w' => w'.cell? ⟨gb190, 0, none⟩ = some (.slice (some ad204) l0_0.length c0_0) ∧ w'.cell? ⟨gb190, 1, none⟩ = some (.int .i64 a0_1) ∧ w'.cell? ⟨gb190, 2, none⟩ = some (.int .i64 a0_2) ∧ w'.cell? ⟨gb190, 3, none⟩ = some (.slice A0_3 l0_3.length c0_3) ∧ w'.cell? (ad204.add ((x10_3).toNat * 3)) = some (.int .i64 ((rd_T57 l0_0 x10_3).f0.f0)) ∧ w'.cell? ⟨(ad204.add ((x10_3).toNat * 3)).block, (ad204.add ((x10_3).toNat * 3)).off + 1, none⟩ = some (.int .i64 ((rd_T57 l0_0 x10_3).f0.f1)) ∧ w'.cell? ⟨(ad204.add ((x10_3).toNat * 3)).block, (ad204.add ((x10_3).toNat * 3)).off + 2, none⟩ = some (.int .i64 ((rd_T57 l0_0 x10_3).f1))) (ds := []) (.replicate 14 false) (by kernel_rfl) rfl rfl ⟨cz BK190.out 0, cz BK190.out 1, cz BK190.out 2, cz BK190.out 3, (hx HB.out hw204_0), (hx HB.out hw204_1), (hx HB.out hw204_2)⟩ (fun hHeld => ?_); refine with_tabW saronlaw03_RaspLeast.tab12 saronlaw03_RaspLeast.bits12 (fun HT_ HW_ => ?_)
              generalize wr.drew = w101 at BK190 BK191 HB hx204_0 hx204_1 hx204_2 hHeld ⊢
              refine pT 1 81 (bt 14 2) (k := ?_)
              refine pT 3 83 (bt 14 10) (k := ?_)
              refine pT 6 86 (bt 14 74) (k := ?_)
              refine pT 7 87 (bt 14 202) (k := ?_)
              refine tT7 0 80 (bt 14 203) hHeld (k := ?_)
              refine tT7 2 82 (bt 14 207) hHeld (k := ?_)
              refine pT 4 84 (bt 14 223) (k := ?_)
              refine tT7 5 85 (bt 14 255) hHeld (k := ?_)
              refine one_ (i := 8) (N := some 88) (bt 14 511) rfl rfl (one_of HT_.out (by kernel_rfl)) (by decide) (fun K hK => ?_)
              refine goes_ Tryd.func43 (by kernel_rfl) rfl #[.agg #[.slice (some ad204) l0_0.length c0_0, .int .i64 a0_1, .int .i64 a0_2, .slice A0_3 l0_3.length c0_3], .agg #[.int .i64 ((rd_T57 l0_0 x10_3).f0.f0), .int .i64 ((rd_T57 l0_0 x10_3).f0.f1), .int .i64 ((rd_T57 l0_0 x10_3).f1)], .int .i64 t194, .int .i64 t195] (by rfl) rfl rfl TM ?_
              with_reducible refine (saronlaw03_after.calls k3 _ _ l0_0 a0_1 a0_2 _ _ l0_3 ((rd_T57 l0_0 x10_3).f0.f0) ((rd_T57 l0_0 x10_3).f0.f1) ((rd_T57 l0_0 x10_3).f1) t194 t195 t205 true _ ?side1 ?side2 ?side3 ?side4 ?side5 A47.out).mono ?_
              (case side1 => exact TC HR0_0.out)
              (case side2 => exact HC0_0.out)
              (case side3 => exact TC HR0_3.out)
              (case side4 => exact HC0_3.out)
              (case side5 => exact Glob.fr HG.out (Fr.of_below (TB2 GE190.out GE191.out)))
              rintro e w102 ⟨rfl, hb⟩
              refine ⟨_, rfl, ?_⟩
              have n0_ := Aside0.mk (TKb hb BK190.out)
              have n1_ := Aside0.mk (TKb hb BK191.out)
              have n2_ := Aside0.mk (below_step (TB2 GE190.out GE191.out) hb)
              clear BK190
              clear BK191
              clear HB
              have BK190 := n0_
              have BK191 := n1_
              have HB := n2_
              clear n0_ n1_ n2_
              (try clear hb)
              (try clear hb2)
              (try clear hk)
              (try clear hi)
              refine hK.out _ _ ⟨cz BK190.out 0, cz BK190.out 1, cz BK190.out 2, cz BK190.out 3, (hx HB.out hw204_0), (hx HB.out hw204_1), (hx HB.out hw204_2)⟩ (fun hHeld => ?_)
              clear hK K
              refine norm_ (a' := ?_) ?_ ?_
              rotate_left
              ·show Act.put _ (some 88) _ = _
               simp only [Act.put, lA, lZ, lS, i64_w, i32_w]
               rfl
              refine pT 9 79 (bt 14 1023) (k := ?_)
              refine pT 10 89 (bt 14 2047) (k := ?_)
              refine pT 11 90 (bt 14 4095) (k := ?_)
              refine pT 12 11 (bt 14 8191) (k := ?_)
              refine pT 13 12 (bt 14 16383) (k := ?_)
              refine done_ (done_of HT_.out (by kernel_rfl)) ?_
              try go_wp2
              go_roundg k3
              case measure => have := HJ6.out; have := HJ29.out; have := HK3.out; omega
              case rel => exact ⟨(wrap64 (x10_3 + 1)), TT, H', ⟨by have := HJ6.out; have := HJ29.out; have := HK3.out; omega⟩, ⟨TK BK190.out⟩, ⟨TK BK191.out⟩, ⟨TB2 GE190.out GE191.out⟩⟩
             ·replace c98 := Bool.eq_false_iff.mpr c98
              subst c98
              have H1 : (some false) = some r := by rw [if_neg (show ¬ (false = true) by decide)] at H; exact H
              clear H
              have H := H1
              clear H1
              obtain rfl := Option.some.inj H
              have hnb103 := NB190_191.out
              have hnc103 := NB191_190.out
              have hcz104_0 := cz BK190.out 0
              have hcz104_1 := cz BK190.out 1
              have hcz104_2 := cz BK190.out 2
              have hcz104_3 := cz BK190.out 3
              have hfz104_0 := fz BK190.out 0
              have hfz104_1 := fz BK190.out 1
              have hfz104_2 := fz BK190.out 2
              have hfz104_3 := fz BK190.out 3
              try go_wp2
              have n0_ := Aside0.mk (blk_drew BK190.out)
              have n1_ := Aside0.mk (blk_drew BK191.out)
              have n2_ := Aside0.mk (below_drew1 HB.out)
              clear BK190
              clear BK191
              clear HB
              have BK190 := n0_
              have BK191 := n1_
              have HB := n2_
              clear n0_ n1_ n2_
              have p204 : 0 ≤ (x10_3 : Int) := of_decide_eq_true TA
              have q204 : x10_3 < (l0_0.length : Int) := of_decide_eq_true TA
              obtain ⟨ad204, e204, hx204_0, hx204_1, hx204_2⟩ := at_T57 HR0_0.out x10_3 p204 q204
              have hw204_2 := hx204_2
              have hw204_1 := hx204_1
              have hw204_0 := hx204_0
              cases e204
              replace hx204_0 := hx HB.out hx204_0
              replace hx204_1 := hx HB.out hx204_1
              replace hx204_2 := hx HB.out hx204_2
              replace p204 := eq_true p204
              replace q204 := eq_true q204
              refine start_ (n := 14) (S := fun w' => w'.cell? ⟨gb190, 0, none⟩ = some (.slice (some ad204) l0_0.length c0_0) ∧ w'.cell? ⟨gb190, 1, none⟩ = some (.int .i64 a0_1) ∧ w'.cell? ⟨gb190, 2, none⟩ = some (.int .i64 a0_2) ∧ w'.cell? ⟨gb190, 3, none⟩ = some (.slice A0_3 l0_3.length c0_3) ∧ w'.cell? (ad204.add ((x10_3).toNat * 3)) = some (.int .i64 ((rd_T57 l0_0 x10_3).f0.f0)) ∧ w'.cell? ⟨(ad204.add ((x10_3).toNat * 3)).block, (ad204.add ((x10_3).toNat * 3)).off + 1, none⟩ = some (.int .i64 ((rd_T57 l0_0 x10_3).f0.f1)) ∧ w'.cell? ⟨(ad204.add ((x10_3).toNat * 3)).block, (ad204.add ((x10_3).toNat * 3)).off + 2, none⟩ = some (.int .i64 ((rd_T57 l0_0 x10_3).f1))) (ds := []) (.replicate 14 false) (by kernel_rfl) rfl rfl ⟨cz BK190.out 0, cz BK190.out 1, cz BK190.out 2, cz BK190.out 3, (hx HB.out hw204_0), (hx HB.out hw204_1), (hx HB.out hw204_2)⟩ (fun hHeld => ?_); refine with_tabW saronlaw03_RaspLeast.tab12 saronlaw03_RaspLeast.bits12 (fun HT_ HW_ => ?_)
              generalize wr.drew = w105 at BK190 BK191 HB hx204_0 hx204_1 hx204_2 hHeld ⊢
              refine pT 1 81 (bt 14 2) (k := ?_)
              refine pT 3 83 (bt 14 10) (k := ?_)
              refine pT 6 86 (bt 14 74) (k := ?_)
              refine pT 7 87 (bt 14 202) (k := ?_)
              refine tT7 0 80 (bt 14 203) hHeld (k := ?_)
              refine tT7 2 82 (bt 14 207) hHeld (k := ?_)
              refine pT 4 84 (bt 14 223) (k := ?_)
              refine tT7 5 85 (bt 14 255) hHeld (k := ?_)
              refine one_ (i := 8) (N := some 88) (bt 14 511) rfl rfl (one_of HT_.out (by kernel_rfl)) (by decide) (fun K hK => ?_)
              refine goes_ Tryd.func43 (by kernel_rfl) rfl #[.agg #[.slice (some ad204) l0_0.length c0_0, .int .i64 a0_1, .int .i64 a0_2, .slice A0_3 l0_3.length c0_3], .agg #[.int .i64 ((rd_T57 l0_0 x10_3).f0.f0), .int .i64 ((rd_T57 l0_0 x10_3).f0.f1), .int .i64 ((rd_T57 l0_0 x10_3).f1)], .int .i64 t194, .int .i64 t195] (by rfl) rfl rfl TM ?_
              with_reducible refine (saronlaw03_after.calls k3 _ _ l0_0 a0_1 a0_2 _ _ l0_3 ((rd_T57 l0_0 x10_3).f0.f0) ((rd_T57 l0_0 x10_3).f0.f1) ((rd_T57 l0_0 x10_3).f1) t194 t195 t205 false _ ?side1 ?side2 ?side3 ?side4 ?side5 A47.out).mono ?_
              (case side1 => exact TC HR0_0.out)
              (case side2 => exact HC0_0.out)
              (case side3 => exact TC HR0_3.out)
              (case side4 => exact HC0_3.out)
              (case side5 => exact Glob.fr HG.out (Fr.of_below (TB2 GE190.out GE191.out)))
              rintro e w106 ⟨rfl, hb⟩
              refine ⟨_, rfl, ?_⟩
              have n0_ := Aside0.mk (TKb hb BK190.out)
              have n1_ := Aside0.mk (TKb hb BK191.out)
              have n2_ := Aside0.mk (below_step (TB2 GE190.out GE191.out) hb)
              clear BK190
              clear BK191
              clear HB
              have BK190 := n0_
              have BK191 := n1_
              have HB := n2_
              clear n0_ n1_ n2_
              (try clear hb)
              (try clear hb2)
              (try clear hk)
              (try clear hi)
              refine hK.out _ _ ⟨cz BK190.out 0, cz BK190.out 1, cz BK190.out 2, cz BK190.out 3, (hx HB.out hw204_0), (hx HB.out hw204_1), (hx HB.out hw204_2)⟩ (fun hHeld => ?_)
              clear hK K
              refine norm_ (a' := ?_) ?_ ?_
              rotate_left
              ·show Act.put _ (some 88) _ = _
               simp only [Act.put, lA, lZ, lS, i64_w, i32_w]
               rfl
              refine pT 9 79 (bt 14 1023) (k := ?_)
              refine pT 10 89 (bt 14 2047) (k := ?_)
              refine pT 11 90 (bt 14 4095) (k := ?_)
              refine pT 12 11 (bt 14 8191) (k := ?_)
              refine pT 13 12 (bt 14 16383) (k := ?_)
              refine done_ (done_of HT_.out (by kernel_rfl)) ?_
              try go_wp2
              go_ret
              exact ⟨TR, TB2 GE190.out GE191.out⟩
           ·rw [if_neg c46] at H
            exact absurd H (by simp)
          ·rw [if_neg c45] at H
           have c45b0 : decide (x10_3 < (l0_0.length : Int)) = false := decide_eq_false c45
           clear c45
           replace H := Option.bind_eq_some_iff.mp H
           obtain ⟨t203, A1070, H⟩ := H
           replace H : (some t203) = some r := H
           have A107 := Aside0.mk A1070
           clear A1070
           obtain rfl := Option.some.inj H
           have hnb108 := NB190_191.out
           have hnc108 := NB191_190.out
           have hcz109_0 := cz BK190.out 0
           have hcz109_1 := cz BK190.out 1
           have hcz109_2 := cz BK190.out 2
           have hcz109_3 := cz BK190.out 3
           have hfz109_0 := fz BK190.out 0
           have hfz109_1 := fz BK190.out 1
           have hfz109_2 := fz BK190.out 2
           have hfz109_3 := fz BK190.out 3
           go_wp2_with (first | ((with_reducible refine gate_callee (f := 22) rfl ?_); refine goesL_ (some 128) rfl rfl Tryd.func22 (by kernel_rfl) rfl #[] rfl TM ?_; (with_reducible refine (saronlaw03_filed.calls  t203 _ ?side1 A107.out).mono ?_); (case side1 => exact Glob.fr HG.out (Fr.of_below (TB2 GE190.out GE191.out))); rintro e w110 ⟨rfl, hb⟩; refine ⟨_, rfl, ?_⟩; replace BK190 := Aside0.mk (TKb hb BK190.out); replace BK191 := Aside0.mk (TKb hb BK191.out); replace HB := Aside0.mk (below_step (TB2 GE190.out GE191.out) hb); (try clear hb); (try clear hb2); (try clear hk); (try clear hi)))
           go_ret
           exact ⟨TR, TB2 GE190.out GE191.out⟩
 ·replace c4 := Bool.eq_false_iff.mpr c4
  subst c4
  have H1 : ((saronlaw03_filed.f).bind fun t193 => (some t193)) = some r := by rw [if_neg (show ¬ (false = true) by decide)] at H; exact H
  clear H
  have H := H1
  clear H1
  replace H := Option.bind_eq_some_iff.mp H
  obtain ⟨t193, A1110, H⟩ := H
  replace H : (some t193) = some r := H
  have A111 := Aside0.mk A1110
  clear A1110
  obtain rfl := Option.some.inj H
  go_enter Tryd.func8, Tryd.ntmps8
  go_wp2_with (first | ((with_reducible refine gate_dst (N := 2) rfl ?_); (try (refine gate_guard (by rfl) ?_; dsimp only)); refine box_event ?hg (N := 2) ?hd (cs := #[.slice A0_0 l0_0.length c0_0, .int .i64 a0_1, .int .i64 a0_2, .slice A0_3 l0_3.length c0_3]) (t := 27) ?hr ?_; (case hd => rfl); (case hg => rfl); (case hr => exact TS); intro gb190 hg w112 hbox hb; have BK190 := Aside0.mk (hbox); have GW190 := Aside0.mk ((TG : w.heap.size ≤ gb190)); have GE190 := Aside0.mk ((TG : w.heap.size ≤ gb190)); replace HB := Aside0.mk (below_step TB hb); clear hb hbox hg) | ((with_reducible refine gate_dst (N := 3) rfl ?_); (try (refine gate_guard (by rfl) ?_; dsimp only)); refine box_event ?hg (N := 3) ?hd (cs := #[.int .i64 a1_0, .int .i64 a1_1]) (t := 28) ?hr ?_; (case hd => rfl); (case hg => rfl); (case hr => exact TS); intro gb191 hg w113 hbox hb; have BK191 := Aside0.mk (hbox); have GW191 := Aside0.mk ((TG1 GE190.out : w.heap.size ≤ gb191)); have GE191 := Aside0.mk ((TG1 GE190.out : w.heap.size ≤ gb191)); have NB190_191 := Aside0.mk ((by rw [hg]; exact Nat.ne_of_lt (blk_lt (g := gb190) (o := .cells #[.slice A0_0 l0_0.length c0_0, .int .i64 a0_1, .int .i64 a0_2, .slice A0_3 l0_3.length c0_3] 27 (0, 0)) (TK BK190.out)) : gb190 ≠ gb191)); have NB191_190 := Aside0.mk ((by rw [hg]; exact Nat.ne_of_gt (blk_lt (g := gb190) (o := .cells #[.slice A0_0 l0_0.length c0_0, .int .i64 a0_1, .int .i64 a0_2, .slice A0_3 l0_3.length c0_3] 27 (0, 0)) (TK BK190.out)) : gb191 ≠ gb190)); replace BK190 := Aside0.mk (TKb hb BK190.out); replace HB := Aside0.mk (below_step (TB1 GE190.out) hb); clear hb hbox hg; have hnb114 := NB190_191.out; have hnc114 := NB191_190.out; have hcz115_0 := cz BK190.out 0; have hcz115_1 := cz BK190.out 1; have hcz115_2 := cz BK190.out 2; have hcz115_3 := cz BK190.out 3; have hfz115_0 := fz BK190.out 0; have hfz115_1 := fz BK190.out 1; have hfz115_2 := fz BK190.out 2; have hfz115_3 := fz BK190.out 3) | ((with_reducible refine gate_callee (f := 37) rfl ?_); refine goesL_ (some 14) rfl rfl Tryd.func37 (by kernel_rfl) rfl #[.agg #[.slice A0_0 l0_0.length c0_0, .int .i64 a0_1, .int .i64 a0_2, .slice A0_3 l0_3.length c0_3]] rfl TM ?_; (with_reducible refine (saronlaw03_sound.calls k _ _ l0_0 a0_1 a0_2 _ _ l0_3 false _ ?side1 ?side2 ?side3 ?side4 A3.out).mono ?_); (case side1 => exact TC HR0_0.out); (case side2 => exact HC0_0.out); (case side3 => exact TC HR0_3.out); (case side4 => exact HC0_3.out); rintro e w116 ⟨rfl, hb⟩; refine ⟨_, rfl, ?_⟩; replace BK190 := Aside0.mk (TKb hb BK190.out); replace BK191 := Aside0.mk (TKb hb BK191.out); replace HB := Aside0.mk (below_step (TB2 GE190.out GE191.out) hb); (try clear hb); (try clear hb2); (try clear hk); (try clear hi)) | ((with_reducible refine gate_callee (f := 22) rfl ?_); refine goesL_ (some 16) rfl rfl Tryd.func22 (by kernel_rfl) rfl #[] rfl TM ?_; (with_reducible refine (saronlaw03_filed.calls  t193 _ ?side1 A111.out).mono ?_); (case side1 => exact Glob.fr HG.out (Fr.of_below (TB2 GE190.out GE191.out))); rintro e w117 ⟨rfl, hb⟩; refine ⟨_, rfl, ?_⟩; replace BK190 := Aside0.mk (TKb hb BK190.out); replace BK191 := Aside0.mk (TKb hb BK191.out); replace HB := Aside0.mk (below_step (TB2 GE190.out GE191.out) hb); (try clear hb); (try clear hb2); (try clear hk); (try clear hi)))
  go_ret
  exact ⟨TR, TB2 GE190.out GE191.out⟩
end Go.Proofs.YtfmpbkolpjlfbaaDoor.PRaspKeys
