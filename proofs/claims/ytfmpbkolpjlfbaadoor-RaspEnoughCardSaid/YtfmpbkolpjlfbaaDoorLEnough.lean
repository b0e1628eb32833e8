import Derived.Test.YtfmpbkolpjlfbaaDoorG5
import Derived.Test.YtfmpbkolpjlfbaaDoorCS
import Derived.Test.YtfmpbkolpjlfbaaDoorCH
import Derived.Test.YtfmpbkolpjlfbaaDoorM0
import Derived.Test.YtfmpbkolpjlfbaaDoorProg
import Derived.Below
import Derived.Deep.Draws
import Derived.Deep.AppendLies
import Derived.Maps.AppendAt
import Derived.OwnWalk
import Derived.Laws.BytesArg
import Derived.Laws.MakeOwn
import Derived.Laws.OwnMore
import Derived.Deep.OwnRows
import Derived.Tactics
import Derived.Lib.ConvBytes
import Derived.Laws.Slices
import Derived.WalkKit
import Derived.KernelRfl
import Derived.RowKit3
import Derived.Deep.LoopGhost
import Derived.Deep.QuietTactic
import Derived.BigQuiet
import Derived.WideLaws
import Derived.Deep.DeepCutAuto
import Derived.Deep.CutBlock
import Derived.Deep.RegionHeld3
import Derived.Laws.Rows
import Derived.Lib.AppendStr
import Derived.ArgAppend
import Derived.Laws.IdiomCopy
import Derived.OrdersHeld
import Derived.Laws.BitsLemmas
import Derived.RowKit
set_option linter.unusedVariables false
set_option linter.unusedSimpArgs false
namespace Go.Proofs.YtfmpbkolpjlfbaaDoor.M
open Go.RowKit Go.Proofs.YtfmpbkolpjlfbaaDoorW.PrintWords Go.Proofs.YtfmpbkolpjlfbaaDoorW.PrintLast
theorem czz {w : World} {g : Nat} {cs : Array Value} {t : TypeId} {v : Value} (h : w.heap[g]? = some (.cells cs t (0, 0))) (i : Nat) (hv : cs[i]? = some v := by (first | (simp only [List.getElem?_toArray, List.getElem?_cons_zero, List.getElem?_cons_succ]; rfl) | exact rfl)) : w.cell? ⟨g, i, none⟩ = some v := (blk_cell h i).trans hv
end Go.Proofs.YtfmpbkolpjlfbaaDoor.M
namespace Go.Proofs.YtfmpbkolpjlfbaaDoor.PRaspKeys
open Go.RowKit Go.Proofs.YtfmpbkolpjlfbaaDoorW.PrintWords Go.Proofs.YtfmpbkolpjlfbaaDoorW.PrintLast Go.Proofs.YtfmpbkolpjlfbaaDoorW.PrintMore Go.Proofs.YtfmpbkolpjlfbaaDoor.M
attribute [local go_sem] max2_int min2_int max_two min_two max_three min_three max_four min_four   -- for this text's walks alone
/-! #### struct type 24 -/
/-! #### struct type 57 -/
/-! #### struct type 69 -/
end Go.Proofs.YtfmpbkolpjlfbaaDoor.PRaspKeys
namespace Go.Proofs.YtfmpbkolpjlfbaaDoor.PRaspKeys
open Go.RowKit Go.Proofs.YtfmpbkolpjlfbaaDoorW.PrintWords Go.Proofs.YtfmpbkolpjlfbaaDoorW.PrintLast Go.Proofs.YtfmpbkolpjlfbaaDoorW.PrintMore Go.Proofs.YtfmpbkolpjlfbaaDoor.M
attribute [local go_sem] max2_int min2_int max_two min_two max_three min_three max_four min_four   -- for this text's walks alone
/-! ### saronref00_Grows: function 46 -/
def saronref00_Grows.l0 : Nat → List Int → Int → Int → Int → Option (Bool)
 | 0, _, _, _, _ => none
 | k + 1, x0, x1, x5, x6 => if x6 < (x0.length : Int) then (if 0 ≤ x6 then (if (rd x0 x6) ≤ x5 then (some false) else (if (rd x0 x6) ≥ x1 then (some false) else (saronref00_Grows.l0 k x0 x1 (rd x0 x6) (wrap64 (x6 + 1))))) else (none)) else (some true)
def saronref00_Grows.f (k : Nat) (l0 : List Int) (a1 : Int) : Option (Bool) := saronref00_Grows.l0 k l0 a1 (-1) 0
theorem saronref00_Grows.mono_l : ∀ k, (∀ y0 y1 y2 y3, LeO (saronref00_Grows.l0 k y0 y1 y2 y3) (saronref00_Grows.l0 (k + 1) y0 y1 y2 y3))
 | 0 => fun _ _ _ _ r h => by simp [saronref00_Grows.l0] at h
 | k + 1 => by
  have ih0 := saronref00_Grows.mono_l k
  ·intro y0 y1 y2 y3
   unfold saronref00_Grows.l0
   repeat' first
   | (with_reducible exact ih0 _ _ _ _)
   | (with_reducible exact LeO.refl _)
   | (with_reducible exact LeO.none _)
   | (with_reducible refine LeO.ite ?_ ?_)
   | (with_reducible refine LeO.bind ?_ (fun _ => ?_))
   | exact ih0 _ _ _ _
   | exact LeO.none _
   | refine LeO.ite ?_ ?_
   | refine LeO.bind ?_ (fun _ => ?_)
theorem saronref00_Grows.mono : ∀ a0 a1 k, LeO (saronref00_Grows.f k a0 a1) (saronref00_Grows.f (k + 1) a0 a1) := by
 intro a0 a1 k
 have ih0 := saronref00_Grows.mono_l k
 unfold saronref00_Grows.f
 repeat' first
   | (with_reducible exact ih0 _ _ _ _)
   | (with_reducible exact LeO.refl _)
   | (with_reducible exact LeO.none _)
   | (with_reducible refine LeO.ite ?_ ?_)
   | (with_reducible refine LeO.bind ?_ (fun _ => ?_))
   | exact ih0 _ _ _ _
   | exact LeO.none _
   | refine LeO.ite ?_ ?_
   | refine LeO.bind ?_ (fun _ => ?_)
set_option maxHeartbeats 8000000 in
set_option maxRecDepth 100000 in
theorem saronref00_Grows.calls (k : Nat) (A0 : Option Addr) (c0 : Nat) (l0 : List Int) (a1 : Int) (r : Bool) (w : World) (hr0 : Kd.C (Kd.int .i64) w A0 l0.length l0) (hc0 : l0.length ≤ c0) (h : saronref00_Grows.f k l0 a1 = some r) :
  Calls Tryd.prog 46 #[.slice A0 l0.length c0, .int .i64 a1] w fun e w' => e = .returned (.bool r) ∧ Drawn0 w w' := by
 have HR0 := Aside0.mk hr0
 have HC0 := Aside0.mk hc0
 clear hr0 hc0
 have H : (saronref00_Grows.l0 k l0 a1 (-1) 0) = some r := h
 clear h
 have H' := Aside0.mk H
 clear H
 go_enter Tryd.func46, Tryd.ntmps46
 go_wp2
 go_loopg [5, 6] k (fun kq v5 v6 w' => ∃ (x5_1 : Int) (x6_1 : Int), v5 = .int .i64 x5_1 ∧ v6 = .int .i64 x6_1 ∧ Aside0 (saronref00_Grows.l0 kq l0 a1 x5_1 x6_1 = some r) ∧ Aside0 (kq ≤ k) ∧ Drawn0 w w')
 case atStart => exact ⟨((-1)), (0), TT, TT, H', ⟨Nat.le_refl _⟩, by repeat (first | exact Drawn0.refl _ | apply Drawn0.step)⟩
 case round => as_aux_lemma =>
  clear H'
  try clear p2
  obtain ⟨x5_1, x6_1, rfl, rfl, HA, HK1, ⟨m1, rfl⟩⟩ := hrel
  cases gk with
  | zero => exact absurd HA.out (by simp [saronref00_Grows.l0])
  | succ k1 =>
   have H := HA.out
   clear HA
   simp only [saronref00_Grows.l0] at H
   by_cases c3 : x6_1 < (l0.length : Int)
   ·rw [if_pos c3] at H
    have c3b0 : decide (x6_1 < (l0.length : Int)) = true := decide_eq_true c3
    clear c3
    by_cases c4 : 0 ≤ x6_1
    ·rw [if_pos c4] at H
     have c4b0 : decide (0 ≤ x6_1) = true := decide_eq_true c4
     clear c4
     by_cases c5 : (rd l0 x6_1) ≤ x5_1
     ·rw [if_pos c5] at H
      have c5b0 : decide ((rd l0 x6_1) ≤ x5_1) = true := decide_eq_true c5
      clear c5
      obtain rfl := Option.some.inj H
      have p182 : 0 ≤ (x6_1 : Int) := of_decide_eq_true TA
      have q182 : x6_1 < (l0.length : Int) := of_decide_eq_true TA
      obtain ⟨ad182, e182, hx182_0⟩ := Kd.at_int HR0.out x6_1 p182 q182
      cases e182
      replace p182 := eq_true p182
      replace q182 := eq_true q182
      go_wp2
      go_ret
      exact ⟨by first | rfl | (simp; done) | (simp [*]; done), by repeat (first | exact Drawn0.refl _ | apply Drawn0.step)⟩
     ·rw [if_neg c5] at H
      have c5b0 : decide ((rd l0 x6_1) ≤ x5_1) = false := decide_eq_false c5
      clear c5
      by_cases c6 : (rd l0 x6_1) ≥ a1
      ·rw [if_pos c6] at H
       have c6b0 : decide (a1 ≤ (rd l0 x6_1)) = true := decide_eq_true c6
       clear c6
       obtain rfl := Option.some.inj H
       have p182 : 0 ≤ (x6_1 : Int) := of_decide_eq_true TA
       have q182 : x6_1 < (l0.length : Int) := of_decide_eq_true TA
       obtain ⟨ad182, e182, hx182_0⟩ := Kd.at_int HR0.out x6_1 p182 q182
       cases e182
       replace p182 := eq_true p182
       replace q182 := eq_true q182
       have p183 : 0 ≤ (x6_1 : Int) := of_decide_eq_true TA
       have q183 : x6_1 < (l0.length : Int) := of_decide_eq_true TA
       obtain ⟨ad183, e183, hx183_0⟩ := Kd.at_int HR0.out x6_1 p183 q183
       obtain rfl : ad182 = ad183 := (by injection e183)
       replace p183 := eq_true p183
       replace q183 := eq_true q183
       go_wp2
       go_ret
       exact ⟨by first | rfl | (simp; done) | (simp [*]; done), by repeat (first | exact Drawn0.refl _ | apply Drawn0.step)⟩
      ·rw [if_neg c6] at H
       have c6b0 : decide (a1 ≤ (rd l0 x6_1)) = false := decide_eq_false c6
       clear c6
       have H' := Aside0.mk H
       clear H
       have p182 : 0 ≤ (x6_1 : Int) := of_decide_eq_true TA
       have q182 : x6_1 < (l0.length : Int) := of_decide_eq_true TA
       obtain ⟨ad182, e182, hx182_0⟩ := Kd.at_int HR0.out x6_1 p182 q182
       cases e182
       replace p182 := eq_true p182
       replace q182 := eq_true q182
       have p183 : 0 ≤ (x6_1 : Int) := of_decide_eq_true TA
       have q183 : x6_1 < (l0.length : Int) := of_decide_eq_true TA
       obtain ⟨ad183, e183, hx183_0⟩ := Kd.at_int HR0.out x6_1 p183 q183
       obtain rfl : ad182 = ad183 := (by injection e183)
       replace p183 := eq_true p183
       replace q183 := eq_true q183
       have p184 : 0 ≤ (x6_1 : Int) := of_decide_eq_true TA
       have q184 : x6_1 < (l0.length : Int) := of_decide_eq_true TA
       obtain ⟨ad184, e184, hx184_0⟩ := Kd.at_int HR0.out x6_1 p184 q184
       obtain rfl : ad182 = ad184 := (by injection e184)
       replace p184 := eq_true p184
       replace q184 := eq_true q184
       go_wp2
       go_roundg k1
       case measure => have := HK1.out; omega
       case rel => exact ⟨(rd l0 x6_1), (wrap64 (x6_1 + 1)), TT, TT, H', ⟨by have := HK1.out; omega⟩, by repeat (first | exact Drawn0.refl _ | apply Drawn0.step)⟩
    ·rw [if_neg c4] at H
     exact absurd H (by simp)
   ·rw [if_neg c3] at H
    have c3b0 : decide (x6_1 < (l0.length : Int)) = false := decide_eq_false c3
    clear c3
    obtain rfl := Option.some.inj H
    go_wp2
    go_ret
    exact ⟨by first | rfl | (simp; done) | (simp [*]; done), by repeat (first | exact Drawn0.refl _ | apply Drawn0.step)⟩
/-! ### saronref00_Where: function 47 -/
def saronref00_Where.l0 : Nat → List Int → Int → Int → Option (Int)
 | 0, _, _, _ => none
 | k + 1, x0, x1, x5 => if x5 < (x0.length : Int) then (if 0 ≤ x5 then (if (rd x0 x5) = x1 then (some x5) else (saronref00_Where.l0 k x0 x1 (wrap64 (x5 + 1)))) else (none)) else (some (-1))
def saronref00_Where.f (k : Nat) (l0 : List Int) (a1 : Int) : Option (Int) := saronref00_Where.l0 k l0 a1 0
theorem saronref00_Where.mono_l : ∀ k, (∀ y0 y1 y2, LeO (saronref00_Where.l0 k y0 y1 y2) (saronref00_Where.l0 (k + 1) y0 y1 y2))
 | 0 => fun _ _ _ r h => by simp [saronref00_Where.l0] at h
 | k + 1 => by
  have ih0 := saronref00_Where.mono_l k
  ·intro y0 y1 y2
   unfold saronref00_Where.l0
   repeat' first
   | (with_reducible exact ih0 _ _ _)
   | (with_reducible exact LeO.refl _)
   | (with_reducible exact LeO.none _)
   | (with_reducible refine LeO.ite ?_ ?_)
   | (with_reducible refine LeO.bind ?_ (fun _ => ?_))
   | exact ih0 _ _ _
   | exact LeO.none _
   | refine LeO.ite ?_ ?_
   | refine LeO.bind ?_ (fun _ => ?_)
theorem saronref00_Where.mono : ∀ a0 a1 k, LeO (saronref00_Where.f k a0 a1) (saronref00_Where.f (k + 1) a0 a1) := by
 intro a0 a1 k
 have ih0 := saronref00_Where.mono_l k
 unfold saronref00_Where.f
 repeat' first
   | (with_reducible exact ih0 _ _ _)
   | (with_reducible exact LeO.refl _)
   | (with_reducible exact LeO.none _)
   | (with_reducible refine LeO.ite ?_ ?_)
   | (with_reducible refine LeO.bind ?_ (fun _ => ?_))
   | exact ih0 _ _ _
   | exact LeO.none _
   | refine LeO.ite ?_ ?_
   | refine LeO.bind ?_ (fun _ => ?_)
set_option maxHeartbeats 8000000 in
set_option maxRecDepth 100000 in
theorem saronref00_Where.calls (k : Nat) (A0 : Option Addr) (c0 : Nat) (l0 : List Int) (a1 : Int) (r : Int) (w : World) (hr0 : Kd.C (Kd.int .i64) w A0 l0.length l0) (hc0 : l0.length ≤ c0) (h : saronref00_Where.f k l0 a1 = some r) :
  Calls Tryd.prog 47 #[.slice A0 l0.length c0, .int .i64 a1] w fun e w' => e = .returned (.int .i64 r) ∧ Drawn0 w w' := by
 have HR0 := Aside0.mk hr0
 have HC0 := Aside0.mk hc0
 clear hr0 hc0
 have H : (saronref00_Where.l0 k l0 a1 0) = some r := h
 clear h
 have H' := Aside0.mk H
 clear H
 go_enter Tryd.func47, Tryd.ntmps47
 go_wp2
 go_loopg [5] k (fun kq v5 w' => ∃ (x5_1 : Int), v5 = .int .i64 x5_1 ∧ Aside0 (saronref00_Where.l0 kq l0 a1 x5_1 = some r) ∧ Aside0 (kq ≤ k) ∧ Drawn0 w w')
 case atStart => exact ⟨(0), TT, H', ⟨Nat.le_refl _⟩, by repeat (first | exact Drawn0.refl _ | apply Drawn0.step)⟩
 case round => as_aux_lemma =>
  clear H'
  try clear p2
  obtain ⟨x5_1, rfl, HA, HK1, ⟨m1, rfl⟩⟩ := hrel
  cases gk with
  | zero => exact absurd HA.out (by simp [saronref00_Where.l0])
  | succ k1 =>
   have H := HA.out
   clear HA
   simp only [saronref00_Where.l0] at H
   by_cases c3 : x5_1 < (l0.length : Int)
   ·rw [if_pos c3] at H
    have c3b0 : decide (x5_1 < (l0.length : Int)) = true := decide_eq_true c3
    clear c3
    by_cases c4 : 0 ≤ x5_1
    ·rw [if_pos c4] at H
     have c4b0 : decide (0 ≤ x5_1) = true := decide_eq_true c4
     clear c4
     by_cases c5 : (rd l0 x5_1) = a1
     ·rw [if_pos c5] at H
      have c5b0 : ((rd l0 x5_1) == a1) = true := beq_iff_eq.mpr c5
      have c5b1 : ((rd l0 x5_1) != a1) = false := bne_eq_false_iff_eq.mpr c5
      clear c5
      obtain rfl := Option.some.inj H
      have p185 : 0 ≤ (x5_1 : Int) := of_decide_eq_true TA
      have q185 : x5_1 < (l0.length : Int) := of_decide_eq_true TA
      obtain ⟨ad185, e185, hx185_0⟩ := Kd.at_int HR0.out x5_1 p185 q185
      cases e185
      replace p185 := eq_true p185
      replace q185 := eq_true q185
      go_wp2
      go_ret
      exact ⟨by first | rfl | (simp; done) | (simp [*]; done), by repeat (first | exact Drawn0.refl _ | apply Drawn0.step)⟩
     ·rw [if_neg c5] at H
      have c5b0 : ((rd l0 x5_1) == a1) = false := beq_eq_false_iff_ne.mpr c5
      have c5b1 : ((rd l0 x5_1) != a1) = true := bne_iff_ne.mpr c5
      have H' := Aside0.mk H
      clear H
      have p185 : 0 ≤ (x5_1 : Int) := of_decide_eq_true TA
      have q185 : x5_1 < (l0.length : Int) := of_decide_eq_true TA
      obtain ⟨ad185, e185, hx185_0⟩ := Kd.at_int HR0.out x5_1 p185 q185
      cases e185
      replace p185 := eq_true p185
      replace q185 := eq_true q185
      go_wp2
      go_roundg k1
      case measure => have := HK1.out; omega
      case rel => exact ⟨(wrap64 (x5_1 + 1)), TT, H', ⟨by have := HK1.out; omega⟩, by repeat (first | exact Drawn0.refl _ | apply Drawn0.step)⟩
    ·rw [if_neg c4] at H
     exact absurd H (by simp)
   ·rw [if_neg c3] at H
    have c3b0 : decide (x5_1 < (l0.length : Int)) = false := decide_eq_false c3
    clear c3
    obtain rfl := Option.some.inj H
    go_wp2
    go_ret
    exact ⟨by first | rfl | (simp; done) | (simp [*]; done), by repeat (first | exact Drawn0.refl _ | apply Drawn0.step)⟩
end Go.Proofs.YtfmpbkolpjlfbaaDoor.PRaspKeys
namespace Go.Proofs.YtfmpbkolpjlfbaaDoor.PRaspKeys
open Go.RowKit Go.Proofs.YtfmpbkolpjlfbaaDoorW.PrintWords Go.Proofs.YtfmpbkolpjlfbaaDoorW.PrintLast Go.Proofs.YtfmpbkolpjlfbaaDoorW.PrintMore Go.Proofs.YtfmpbkolpjlfbaaDoor.M
attribute [local go_sem] max2_int min2_int max_two min_two max_three min_three max_four min_four   -- for this text's walks alone
/-! ### saronlaw03_RaspEnough: function 11 -/
mutual
def saronlaw03_RaspEnough.j0 : Nat → List Int → Int → Bool → List (S57) → Int → Int → List (S69) → Int → Int → Option (Bool)
 | 0, _, _, _, _, _, _, _, _, _ => none
 | k + 1, x5, x6, x33, x187000, x187001, x187002, x187003, x188000, x188001 => if x33 = true then (if x6 = 30 then (if (x5.length : Int) = 0 then ((saronlaw03_filed.f).bind fun t193 => (some t193)) else (some false)) else (some false)) else ((rasp_Total.f x187000 x187001 x187002 x187003).bind fun bt194 => (if x6 = 0 then ((saronref00_Grows.f k x5 (x187003.length : Int)).bind fun t196 => (if t196 = true then (if ((bt194.2 == 0) != ((x5.length : Int) == 0)) = true then (saronlaw03_RaspEnough.j1 k x5 bt194.1 bt194.2 true x187000 x187001 x187002 x187003 x188000 x188001) else (if bt194.2 = 0 then (saronlaw03_RaspEnough.j1 k x5 bt194.1 bt194.2 false x187000 x187001 x187002 x187003 x188000 x188001) else (if bt194.2 = 4 then (saronlaw03_RaspEnough.j1 k x5 bt194.1 bt194.2 (bt194.1 != 0) x187000 x187001 x187002 x187003 x188000 x188001) else (saronlaw03_RaspEnough.j1 k x5 bt194.1 bt194.2 true x187000 x187001 x187002 x187003 x188000 x188001)))) else (saronlaw03_RaspEnough.j1 k x5 bt194.1 bt194.2 true x187000 x187001 x187002 x187003 x188000 x188001))) else (saronlaw03_RaspEnough.j1 k x5 bt194.1 bt194.2 true x187000 x187001 x187002 x187003 x188000 x188001)))
def saronlaw03_RaspEnough.j1 : Nat → List Int → Int → Int → Bool → List (S57) → Int → Int → List (S69) → Int → Int → Option (Bool)
 | 0, _, _, _, _, _, _, _, _, _, _ => none
 | k + 1, x5, x7, x8, x78, x187000, x187001, x187002, x187003, x188000, x188001 => if x78 = true then (some false) else (saronlaw03_RaspEnough.l0 k x5 x7 x8 0 0 x187000 x187001 x187002 x187003 x188000 x188001)
def saronlaw03_RaspEnough.l0 : Nat → List Int → Int → Int → Int → Int → List (S57) → Int → Int → List (S69) → Int → Int → Option (Bool)
 | 0, _, _, _, _, _, _, _, _, _, _, _ => none
 | k + 1, x5, x7, x8, x9, x10, x187000, x187001, x187002, x187003, x188000, x188001 => if x10 < (x187003.length : Int) then ((rasp_Strokes.f x187000 x187001 x187002 x187003 x10).bind fun bt197 => (if 0 ≤ x10 then (saronlaw03_RaspEnough.l1 k x5 x7 x8 x9 x10 bt197.1 bt197.2 0 false ((rd_T69 x187003 x10).f0.f0) x187000 x187001 x187002 x187003 x188000 x188001) else (none))) else ((saronlaw03_state.f x188000 x188001).bind fun bt206 => ((rasp_Need.f x187000 x187001 x187002 x187003 bt206.1).bind fun bt208 => ((rasp_Next.f x187000 x187001 x187002 x187003 bt206.1 bt206.2).bind fun bt210 => (if x8 = 0 then (if x9 = x7 then (if bt208.2 = 0 then ((saronref00_Sits.f bt208.1 0 30).bind fun t213 => (saronlaw03_RaspEnough.j5 k bt206.2 bt208.1 bt208.2 bt210.2.2 (!t213))) else (if bt208.2 = 4 then (saronlaw03_RaspEnough.j5 k bt206.2 bt208.1 bt208.2 bt210.2.2 false) else (saronlaw03_RaspEnough.j5 k bt206.2 bt208.1 bt208.2 bt210.2.2 true))) else (saronlaw03_RaspEnough.j5 k bt206.2 bt208.1 bt208.2 bt210.2.2 true)) else (if bt208.2 = 0 then ((saronref00_Sits.f bt208.1 0 30).bind fun t214 => (saronlaw03_RaspEnough.j5 k bt206.2 bt208.1 bt208.2 bt210.2.2 (!t214))) else (if bt208.2 = 4 then (saronlaw03_RaspEnough.j5 k bt206.2 bt208.1 bt208.2 bt210.2.2 false) else (saronlaw03_RaspEnough.j5 k bt206.2 bt208.1 bt208.2 bt210.2.2 true)))))))
def saronlaw03_RaspEnough.l1 : Nat → List Int → Int → Int → Int → Int → Int → Int → Int → Bool → Int → List (S57) → Int → Int → List (S69) → Int → Int → Option (Bool)
 | 0, _, _, _, _, _, _, _, _, _, _, _, _, _, _, _, _ => none
 | k + 1, x5, x7, x8, x9, x10, x11, x12, x13, x14, x15, x187000, x187001, x187002, x187003, x188000, x188001 => if 0 ≤ x10 then (if x10 < (x187003.length : Int) then (if x15 ≤ ((rd_T69 x187003 x10).f0.f1) then ((rasp_Next.f x187000 x187001 x187002 x187003 x15 ((rd_T69 x187003 x10).f1)).bind fun bt202 => (if x14 = true then (saronlaw03_RaspEnough.l1 k x5 x7 x8 x9 x10 x11 x12 (mx x13 bt202.2.1) true (wrap64 (x15 + 1)) x187000 x187001 x187002 x187003 x188000 x188001) else (saronlaw03_RaspEnough.l1 k x5 x7 x8 x9 x10 x11 x12 (mx x13 bt202.2.1) (bt202.2.2 != 0) (wrap64 (x15 + 1)) x187000 x187001 x187002 x187003 x188000 x188001))) else ((saronref00_Where.f k x5 x10).bind fun t205 => (if (x14 != (decide (t205 ≥ 0))) = true then (saronlaw03_RaspEnough.j4 k x5 x7 x8 x9 x10 x11 true x187000 x187001 x187002 x187003 x188000 x188001) else (if (x14 != (x12 == 4)) = true then (saronlaw03_RaspEnough.j4 k x5 x7 x8 x9 x10 x11 true x187000 x187001 x187002 x187003 x188000 x188001) else (if x14 = true then (saronlaw03_RaspEnough.j4 k x5 x7 x8 x9 x10 x11 false x187000 x187001 x187002 x187003 x188000 x188001) else (if x12 = 0 then (saronlaw03_RaspEnough.j4 k x5 x7 x8 x9 x10 x11 (x11 != x13) x187000 x187001 x187002 x187003 x188000 x188001) else (saronlaw03_RaspEnough.j4 k x5 x7 x8 x9 x10 x11 true x187000 x187001 x187002 x187003 x188000 x188001))))))) else (none)) else (none)
def saronlaw03_RaspEnough.j4 : Nat → List Int → Int → Int → Int → Int → Int → Bool → List (S57) → Int → Int → List (S69) → Int → Int → Option (Bool)
 | 0, _, _, _, _, _, _, _, _, _, _, _, _, _ => none
 | k + 1, x5, x7, x8, x9, x10, x11, x155, x187000, x187001, x187002, x187003, x188000, x188001 => if x155 = true then (some false) else (saronlaw03_RaspEnough.l0 k x5 x7 x8 (wrap64 (x9 + x11)) (wrap64 (x10 + 1)) x187000 x187001 x187002 x187003 x188000 x188001)
def saronlaw03_RaspEnough.j5 : Nat → Int → Int → Int → Int → Bool → Option (Bool)
 | 0, _, _, _, _, _ => none
 | k + 1, x20, x21, x22, x25, x201 => if x201 = true then (some false) else (if x22 = 0 then (if ((x25 == 0) == (decide (x20 ≥ x21))) = true then ((saronlaw03_filed.f).bind fun t215 => (some t215)) else (some false)) else (if ((x25 == 0) == false) = true then ((saronlaw03_filed.f).bind fun t216 => (some t216)) else (some false)))
end
def saronlaw03_RaspEnough.f (k : Nat) (l0_0 : List (S57)) (a0_1 : Int) (a0_2 : Int) (l0_3 : List (S69)) (a1_0 : Int) (a1_1 : Int) : Option (Bool) := (rasp_Spoilt.f l0_0 a0_1 a0_2 l0_3).bind fun bt188 => ((saronlaw03_sound.f k l0_0 a0_1 a0_2 l0_3).bind fun t192 => (saronlaw03_RaspEnough.j0 k bt188.1 bt188.2 (!t192) l0_0 a0_1 a0_2 l0_3 a1_0 a1_1))
theorem saronlaw03_RaspEnough.mono_l : ∀ k, (∀ y0 y1 y2 y3 y4 y5 y6 y7 y8, LeO (saronlaw03_RaspEnough.j0 k y0 y1 y2 y3 y4 y5 y6 y7 y8) (saronlaw03_RaspEnough.j0 (k + 1) y0 y1 y2 y3 y4 y5 y6 y7 y8)) ∧ (∀ y0 y1 y2 y3 y4 y5 y6 y7 y8 y9, LeO (saronlaw03_RaspEnough.j1 k y0 y1 y2 y3 y4 y5 y6 y7 y8 y9) (saronlaw03_RaspEnough.j1 (k + 1) y0 y1 y2 y3 y4 y5 y6 y7 y8 y9)) ∧ (∀ y0 y1 y2 y3 y4 y5 y6 y7 y8 y9 y10, LeO (saronlaw03_RaspEnough.l0 k y0 y1 y2 y3 y4 y5 y6 y7 y8 y9 y10) (saronlaw03_RaspEnough.l0 (k + 1) y0 y1 y2 y3 y4 y5 y6 y7 y8 y9 y10)) ∧ (∀ y0 y1 y2 y3 y4 y5 y6 y7 y8 y9 y10 y11 y12 y13 y14 y15, LeO (saronlaw03_RaspEnough.l1 k y0 y1 y2 y3 y4 y5 y6 y7 y8 y9 y10 y11 y12 y13 y14 y15) (saronlaw03_RaspEnough.l1 (k + 1) y0 y1 y2 y3 y4 y5 y6 y7 y8 y9 y10 y11 y12 y13 y14 y15)) ∧ (∀ y0 y1 y2 y3 y4 y5 y6 y7 y8 y9 y10 y11 y12, LeO (saronlaw03_RaspEnough.j4 k y0 y1 y2 y3 y4 y5 y6 y7 y8 y9 y10 y11 y12) (saronlaw03_RaspEnough.j4 (k + 1) y0 y1 y2 y3 y4 y5 y6 y7 y8 y9 y10 y11 y12)) ∧ (∀ y0 y1 y2 y3 y4, LeO (saronlaw03_RaspEnough.j5 k y0 y1 y2 y3 y4) (saronlaw03_RaspEnough.j5 (k + 1) y0 y1 y2 y3 y4))
 | 0 => ⟨fun _ _ _ _ _ _ _ _ _ r h => by simp [saronlaw03_RaspEnough.j0] at h, fun _ _ _ _ _ _ _ _ _ _ r h => by simp [saronlaw03_RaspEnough.j1] at h, fun _ _ _ _ _ _ _ _ _ _ _ r h => by simp [saronlaw03_RaspEnough.l0] at h, fun _ _ _ _ _ _ _ _ _ _ _ _ _ _ _ _ r h => by simp [saronlaw03_RaspEnough.l1] at h, fun _ _ _ _ _ _ _ _ _ _ _ _ _ r h => by simp [saronlaw03_RaspEnough.j4] at h, fun _ _ _ _ _ r h => by simp [saronlaw03_RaspEnough.j5] at h⟩
 | k + 1 => by
  obtain ⟨ih0, ih1, ih2, ih3, ih4, ih5⟩ := saronlaw03_RaspEnough.mono_l k
  refine ⟨?_, ?_, ?_, ?_, ?_, ?_⟩
  ·intro y0 y1 y2 y3 y4 y5 y6 y7 y8
   unfold saronlaw03_RaspEnough.j0
   repeat' first
   | (with_reducible exact ih0 _ _ _ _ _ _ _ _ _)
   | (with_reducible exact ih1 _ _ _ _ _ _ _ _ _ _)
   | (with_reducible exact ih2 _ _ _ _ _ _ _ _ _ _ _)
   | (with_reducible exact ih3 _ _ _ _ _ _ _ _ _ _ _ _ _ _ _ _)
   | (with_reducible exact ih4 _ _ _ _ _ _ _ _ _ _ _ _ _)
   | (with_reducible exact ih5 _ _ _ _ _)
   | (with_reducible exact saronlaw03_sound.mono _ _ _ _ _)
   | (with_reducible exact saronref00_Grows.mono _ _ _)
   | (with_reducible exact saronref00_Where.mono _ _ _)
   | (with_reducible exact LeO.refl _)
   | (with_reducible exact LeO.none _)
   | (with_reducible refine LeO.ite ?_ ?_)
   | (with_reducible refine LeO.bind ?_ (fun _ => ?_))
   | exact ih0 _ _ _ _ _ _ _ _ _
   | exact ih1 _ _ _ _ _ _ _ _ _ _
   | exact ih2 _ _ _ _ _ _ _ _ _ _ _
   | exact ih3 _ _ _ _ _ _ _ _ _ _ _ _ _ _ _ _
   | exact ih4 _ _ _ _ _ _ _ _ _ _ _ _ _
   | exact ih5 _ _ _ _ _
   | exact saronlaw03_sound.mono _ _ _ _ _
   | exact saronref00_Grows.mono _ _ _
   | exact saronref00_Where.mono _ _ _
   | exact LeO.none _
   | refine LeO.ite ?_ ?_
   | refine LeO.bind ?_ (fun _ => ?_)
  ·intro y0 y1 y2 y3 y4 y5 y6 y7 y8 y9
   unfold saronlaw03_RaspEnough.j1
   repeat' first
   | (with_reducible exact ih0 _ _ _ _ _ _ _ _ _)
   | (with_reducible exact ih1 _ _ _ _ _ _ _ _ _ _)
   | (with_reducible exact ih2 _ _ _ _ _ _ _ _ _ _ _)
   | (with_reducible exact ih3 _ _ _ _ _ _ _ _ _ _ _ _ _ _ _ _)
   | (with_reducible exact ih4 _ _ _ _ _ _ _ _ _ _ _ _ _)
   | (with_reducible exact ih5 _ _ _ _ _)
   | (with_reducible exact saronlaw03_sound.mono _ _ _ _ _)
   | (with_reducible exact saronref00_Grows.mono _ _ _)
   | (with_reducible exact saronref00_Where.mono _ _ _)
   | (with_reducible exact LeO.refl _)
   | (with_reducible exact LeO.none _)
   | (with_reducible refine LeO.ite ?_ ?_)
   | (with_reducible refine LeO.bind ?_ (fun _ => ?_))
   | exact ih0 _ _ _ _ _ _ _ _ _
   | exact ih1 _ _ _ _ _ _ _ _ _ _
   | exact ih2 _ _ _ _ _ _ _ _ _ _ _
   | exact ih3 _ _ _ _ _ _ _ _ _ _ _ _ _ _ _ _
   | exact ih4 _ _ _ _ _ _ _ _ _ _ _ _ _
   | exact ih5 _ _ _ _ _
   | exact saronlaw03_sound.mono _ _ _ _ _
   | exact saronref00_Grows.mono _ _ _
   | exact saronref00_Where.mono _ _ _
   | exact LeO.none _
   | refine LeO.ite ?_ ?_
   | refine LeO.bind ?_ (fun _ => ?_)
  ·intro y0 y1 y2 y3 y4 y5 y6 y7 y8 y9 y10
   unfold saronlaw03_RaspEnough.l0
   repeat' first
   | (with_reducible exact ih0 _ _ _ _ _ _ _ _ _)
   | (with_reducible exact ih1 _ _ _ _ _ _ _ _ _ _)
   | (with_reducible exact ih2 _ _ _ _ _ _ _ _ _ _ _)
   | (with_reducible exact ih3 _ _ _ _ _ _ _ _ _ _ _ _ _ _ _ _)
   | (with_reducible exact ih4 _ _ _ _ _ _ _ _ _ _ _ _ _)
   | (with_reducible exact ih5 _ _ _ _ _)
   | (with_reducible exact saronlaw03_sound.mono _ _ _ _ _)
   | (with_reducible exact saronref00_Grows.mono _ _ _)
   | (with_reducible exact saronref00_Where.mono _ _ _)
   | (with_reducible exact LeO.refl _)
   | (with_reducible exact LeO.none _)
   | (with_reducible refine LeO.ite ?_ ?_)
   | (with_reducible refine LeO.bind ?_ (fun _ => ?_))
   | exact ih0 _ _ _ _ _ _ _ _ _
   | exact ih1 _ _ _ _ _ _ _ _ _ _
   | exact ih2 _ _ _ _ _ _ _ _ _ _ _
   | exact ih3 _ _ _ _ _ _ _ _ _ _ _ _ _ _ _ _
   | exact ih4 _ _ _ _ _ _ _ _ _ _ _ _ _
   | exact ih5 _ _ _ _ _
   | exact saronlaw03_sound.mono _ _ _ _ _
   | exact saronref00_Grows.mono _ _ _
   | exact saronref00_Where.mono _ _ _
   | exact LeO.none _
   | refine LeO.ite ?_ ?_
   | refine LeO.bind ?_ (fun _ => ?_)
  ·intro y0 y1 y2 y3 y4 y5 y6 y7 y8 y9 y10 y11 y12 y13 y14 y15
   unfold saronlaw03_RaspEnough.l1
   repeat' first
   | (with_reducible exact ih0 _ _ _ _ _ _ _ _ _)
   | (with_reducible exact ih1 _ _ _ _ _ _ _ _ _ _)
   | (with_reducible exact ih2 _ _ _ _ _ _ _ _ _ _ _)
   | (with_reducible exact ih3 _ _ _ _ _ _ _ _ _ _ _ _ _ _ _ _)
   | (with_reducible exact ih4 _ _ _ _ _ _ _ _ _ _ _ _ _)
   | (with_reducible exact ih5 _ _ _ _ _)
   | (with_reducible exact saronlaw03_sound.mono _ _ _ _ _)
   | (with_reducible exact saronref00_Grows.mono _ _ _)
   | (with_reducible exact saronref00_Where.mono _ _ _)
   | (with_reducible exact LeO.refl _)
   | (with_reducible exact LeO.none _)
   | (with_reducible refine LeO.ite ?_ ?_)
   | (with_reducible refine LeO.bind ?_ (fun _ => ?_))
   | exact ih0 _ _ _ _ _ _ _ _ _
   | exact ih1 _ _ _ _ _ _ _ _ _ _
   | exact ih2 _ _ _ _ _ _ _ _ _ _ _
   | exact ih3 _ _ _ _ _ _ _ _ _ _ _ _ _ _ _ _
   | exact ih4 _ _ _ _ _ _ _ _ _ _ _ _ _
   | exact ih5 _ _ _ _ _
   | exact saronlaw03_sound.mono _ _ _ _ _
   | exact saronref00_Grows.mono _ _ _
   | exact saronref00_Where.mono _ _ _
   | exact LeO.none _
   | refine LeO.ite ?_ ?_
   | refine LeO.bind ?_ (fun _ => ?_)
  ·intro y0 y1 y2 y3 y4 y5 y6 y7 y8 y9 y10 y11 y12
   unfold saronlaw03_RaspEnough.j4
   repeat' first
   | (with_reducible exact ih0 _ _ _ _ _ _ _ _ _)
   | (with_reducible exact ih1 _ _ _ _ _ _ _ _ _ _)
   | (with_reducible exact ih2 _ _ _ _ _ _ _ _ _ _ _)
   | (with_reducible exact ih3 _ _ _ _ _ _ _ _ _ _ _ _ _ _ _ _)
   | (with_reducible exact ih4 _ _ _ _ _ _ _ _ _ _ _ _ _)
   | (with_reducible exact ih5 _ _ _ _ _)
   | (with_reducible exact saronlaw03_sound.mono _ _ _ _ _)
   | (with_reducible exact saronref00_Grows.mono _ _ _)
   | (with_reducible exact saronref00_Where.mono _ _ _)
   | (with_reducible exact LeO.refl _)
   | (with_reducible exact LeO.none _)
   | (with_reducible refine LeO.ite ?_ ?_)
   | (with_reducible refine LeO.bind ?_ (fun _ => ?_))
   | exact ih0 _ _ _ _ _ _ _ _ _
   | exact ih1 _ _ _ _ _ _ _ _ _ _
   | exact ih2 _ _ _ _ _ _ _ _ _ _ _
   | exact ih3 _ _ _ _ _ _ _ _ _ _ _ _ _ _ _ _
   | exact ih4 _ _ _ _ _ _ _ _ _ _ _ _ _
   | exact ih5 _ _ _ _ _
   | exact saronlaw03_sound.mono _ _ _ _ _
   | exact saronref00_Grows.mono _ _ _
   | exact saronref00_Where.mono _ _ _
   | exact LeO.none _
   | refine LeO.ite ?_ ?_
   | refine LeO.bind ?_ (fun _ => ?_)
  ·intro y0 y1 y2 y3 y4
   unfold saronlaw03_RaspEnough.j5
   repeat' first
   | (with_reducible exact ih0 _ _ _ _ _ _ _ _ _)
   | (with_reducible exact ih1 _ _ _ _ _ _ _ _ _ _)
   | (with_reducible exact ih2 _ _ _ _ _ _ _ _ _ _ _)
   | (with_reducible exact ih3 _ _ _ _ _ _ _ _ _ _ _ _ _ _ _ _)
   | (with_reducible exact ih4 _ _ _ _ _ _ _ _ _ _ _ _ _)
   | (with_reducible exact ih5 _ _ _ _ _)
   | (with_reducible exact saronlaw03_sound.mono _ _ _ _ _)
   | (with_reducible exact saronref00_Grows.mono _ _ _)
   | (with_reducible exact saronref00_Where.mono _ _ _)
   | (with_reducible exact LeO.refl _)
   | (with_reducible exact LeO.none _)
   | (with_reducible refine LeO.ite ?_ ?_)
   | (with_reducible refine LeO.bind ?_ (fun _ => ?_))
   | exact ih0 _ _ _ _ _ _ _ _ _
   | exact ih1 _ _ _ _ _ _ _ _ _ _
   | exact ih2 _ _ _ _ _ _ _ _ _ _ _
   | exact ih3 _ _ _ _ _ _ _ _ _ _ _ _ _ _ _ _
   | exact ih4 _ _ _ _ _ _ _ _ _ _ _ _ _
   | exact ih5 _ _ _ _ _
   | exact saronlaw03_sound.mono _ _ _ _ _
   | exact saronref00_Grows.mono _ _ _
   | exact saronref00_Where.mono _ _ _
   | exact LeO.none _
   | refine LeO.ite ?_ ?_
   | refine LeO.bind ?_ (fun _ => ?_)
theorem saronlaw03_RaspEnough.mono : ∀ a0 a1 a2 a3 a4 a5 k, LeO (saronlaw03_RaspEnough.f k a0 a1 a2 a3 a4 a5) (saronlaw03_RaspEnough.f (k + 1) a0 a1 a2 a3 a4 a5) := by
 intro a0 a1 a2 a3 a4 a5 k
 obtain ⟨ih0, ih1, ih2, ih3, ih4, ih5⟩ := saronlaw03_RaspEnough.mono_l k
 unfold saronlaw03_RaspEnough.f
 repeat' first
   | (with_reducible exact ih0 _ _ _ _ _ _ _ _ _)
   | (with_reducible exact ih1 _ _ _ _ _ _ _ _ _ _)
   | (with_reducible exact ih2 _ _ _ _ _ _ _ _ _ _ _)
   | (with_reducible exact ih3 _ _ _ _ _ _ _ _ _ _ _ _ _ _ _ _)
   | (with_reducible exact ih4 _ _ _ _ _ _ _ _ _ _ _ _ _)
   | (with_reducible exact ih5 _ _ _ _ _)
   | (with_reducible exact saronlaw03_sound.mono _ _ _ _ _)
   | (with_reducible exact saronref00_Grows.mono _ _ _)
   | (with_reducible exact saronref00_Where.mono _ _ _)
   | (with_reducible exact LeO.refl _)
   | (with_reducible exact LeO.none _)
   | (with_reducible refine LeO.ite ?_ ?_)
   | (with_reducible refine LeO.bind ?_ (fun _ => ?_))
   | exact ih0 _ _ _ _ _ _ _ _ _
   | exact ih1 _ _ _ _ _ _ _ _ _ _
   | exact ih2 _ _ _ _ _ _ _ _ _ _ _
   | exact ih3 _ _ _ _ _ _ _ _ _ _ _ _ _ _ _ _
   | exact ih4 _ _ _ _ _ _ _ _ _ _ _ _ _
   | exact ih5 _ _ _ _ _
   | exact saronlaw03_sound.mono _ _ _ _ _
   | exact saronref00_Grows.mono _ _ _
   | exact saronref00_Where.mono _ _ _
   | exact LeO.none _
   | refine LeO.ite ?_ ?_
   | refine LeO.bind ?_ (fun _ => ?_)
def saronlaw03_RaspEnough.T16 : Bool × List (List Nat × List Nat) := (true, [([], []), ([], []), ([], []), ([2], [2]), ([], []), ([3, 4], [3, 4]), ([5], [5]), ([6], [6]), ([0, 1, 7], [0, 1, 7]), ([8], [8]), ([9], [9]), ([9], [9]), ([9], [9]), ([10, 8, 0, 1, 2, 3, 4, 5, 6, 7, 8, 9, 10], [10]), ([11, 13, 0, 1, 2, 3, 4, 5, 6, 7, 8, 9, 10, 11, 13], [11]), ([12, 14, 0, 1, 2, 3, 4, 5, 6, 7, 8, 9, 10, 11, 12, 13, 14], [12])])
def saronlaw03_RaspEnough.B16 : List Nat := [0, 0, 0, 4, 0, 28, 60, 124, 255, 511, 1023, 1023, 1023, 2047, 12287, 32767]
theorem saronlaw03_RaspEnough.tab16 : rtab .any (opsOf Tryd.f11 16) = saronlaw03_RaspEnough.T16 := by kernel_rfl
theorem saronlaw03_RaspEnough.bits16 : waitsOk saronlaw03_RaspEnough.T16.2 saronlaw03_RaspEnough.B16 = true := by kernel_rfl
set_option maxHeartbeats 8000000 in
set_option maxRecDepth 100000 in
theorem saronlaw03_RaspEnough.calls (k : Nat) (A0_0 : Option Addr) (c0_0 : Nat) (l0_0 : List (S57)) (a0_1 : Int) (a0_2 : Int) (A0_3 : Option Addr) (c0_3 : Nat) (l0_3 : List (S69)) (a1_0 : Int) (a1_1 : Int) (r : Bool) (w : World) (hr0_0 : Kd.C k57 w A0_0 l0_0.length l0_0) (hc0_0 : l0_0.length ≤ c0_0) (hr0_3 : Kd.C k69 w A0_3 l0_3.length l0_3) (hc0_3 : l0_3.length ≤ c0_3) (hG : Glob w) (h : saronlaw03_RaspEnough.f k l0_0 a0_1 a0_2 l0_3 a1_0 a1_1 = some r) :
  Calls Tryd.prog 11 #[.agg #[.slice A0_0 l0_0.length c0_0, .int .i64 a0_1, .int .i64 a0_2, .slice A0_3 l0_3.length c0_3], .agg #[.int .i64 a1_0, .int .i64 a1_1]] w fun e w' => e = .returned (.bool r) ∧ Below w.heap.size w w' := by
 have hu27 := Tryd.underlying27
 have hu28 := Tryd.underlying28
 have HR0_0 := Aside0.mk hr0_0
 have HC0_0 := Aside0.mk hc0_0
 clear hr0_0 hc0_0
 have HR0_3 := Aside0.mk hr0_3
 have HC0_3 := Aside0.mk hc0_3
 clear hr0_3 hc0_3
 have HB := Aside0.mk (Below.refl w.heap.size w)
 have HG := Aside0.mk hG
 clear hG
 have H : ((rasp_Spoilt.f l0_0 a0_1 a0_2 l0_3).bind fun bt188 => ((saronlaw03_sound.f k l0_0 a0_1 a0_2 l0_3).bind fun t192 => (saronlaw03_RaspEnough.j0 k bt188.1 bt188.2 (!t192) l0_0 a0_1 a0_2 l0_3 a1_0 a1_1))) = some r := h
 clear h
 replace H := Option.bind_eq_some_iff.mp H
 obtain ⟨⟨t188, t191⟩, A30, H⟩ := H
 replace H : ((saronlaw03_sound.f k l0_0 a0_1 a0_2 l0_3).bind fun t192 => (saronlaw03_RaspEnough.j0 k t188 t191 (!t192) l0_0 a0_1 a0_2 l0_3 a1_0 a1_1)) = some r := H
 have A3 := Aside0.mk A30
 clear A30
 have HC4 := Aside0.mk H
 clear H
 go_enter Tryd.func11, Tryd.ntmps11
 go_upto_region 2 with (first | ((with_reducible refine gate_dst (N := 2) rfl ?_); (try (refine gate_guard (by rfl) ?_; dsimp only)); refine box_event ?hg (N := 2) ?hd (cs := #[.slice A0_0 l0_0.length c0_0, .int .i64 a0_1, .int .i64 a0_2, .slice A0_3 l0_3.length c0_3]) (t := 27) ?hr ?_; (case hd => rfl); (case hg => rfl); (case hr => exact TS); intro gb186 hg w5 hbox hb; have BK186 := Aside0.mk (hbox); have GW186 := Aside0.mk ((TG : w.heap.size ≤ gb186)); have GE186 := Aside0.mk ((TG : w.heap.size ≤ gb186)); replace HB := Aside0.mk (below_step TB hb); clear hb hbox hg) | ((with_reducible refine gate_dst (N := 3) rfl ?_); (try (refine gate_guard (by rfl) ?_; dsimp only)); refine box_event ?hg (N := 3) ?hd (cs := #[.int .i64 a1_0, .int .i64 a1_1]) (t := 28) ?hr ?_; (case hd => rfl); (case hg => rfl); (case hr => exact TS); intro gb187 hg w6 hbox hb; have BK187 := Aside0.mk (hbox); have GW187 := Aside0.mk ((TG1 GE186.out : w.heap.size ≤ gb187)); have GE187 := Aside0.mk ((TG1 GE186.out : w.heap.size ≤ gb187)); have NB186_187 := Aside0.mk ((by rw [hg]; exact Nat.ne_of_lt (blk_lt (g := gb186) (o := .cells #[.slice A0_0 l0_0.length c0_0, .int .i64 a0_1, .int .i64 a0_2, .slice A0_3 l0_3.length c0_3] 27 (0, 0)) (by (with_reducible repeat (first | refine blk_drewN ?_ _ | refine blk_drew ?_ | refine blk_alloc ?_ _)); exact BK186.out)) : gb186 ≠ gb187)); have NB187_186 := Aside0.mk ((by rw [hg]; exact Nat.ne_of_gt (blk_lt (g := gb186) (o := .cells #[.slice A0_0 l0_0.length c0_0, .int .i64 a0_1, .int .i64 a0_2, .slice A0_3 l0_3.length c0_3] 27 (0, 0)) (by (with_reducible repeat (first | refine blk_drewN ?_ _ | refine blk_drew ?_ | refine blk_alloc ?_ _)); exact BK186.out)) : gb187 ≠ gb186)); replace BK186 := Aside0.mk (blk_below (g := gb186) (o := .cells #[.slice A0_0 l0_0.length c0_0, .int .i64 a0_1, .int .i64 a0_2, .slice A0_3 l0_3.length c0_3] 27 (0, 0)) (by (with_reducible repeat (first | refine blk_drewN ?_ _ | refine blk_drew ?_ | refine blk_alloc ?_ _)); exact BK186.out) hb); replace HB := Aside0.mk (below_step (TB1 GE186.out) hb); clear hb hbox hg; have hnb7 := NB186_187.out; have hnc7 := NB187_186.out; have hcz8_0 := czz BK186.out 0; have hcz8_1 := czz BK186.out 1; have hcz8_2 := czz BK186.out 2; have hcz8_3 := czz BK186.out 3; have hfz8_0 := fz BK186.out 0; have hfz8_1 := fz BK186.out 1; have hfz8_2 := fz BK186.out 2; have hfz8_3 := fz BK186.out 3) | ((with_reducible refine gate_callee (f := 25) rfl ?_); refine goesL_ (some 28) rfl rfl Tryd.func25 (by kernel_rfl) rfl #[.agg #[.slice A0_0 l0_0.length c0_0, .int .i64 a0_1, .int .i64 a0_2, .slice A0_3 l0_3.length c0_3]] rfl TM ?_; (with_reducible refine (rasp_Spoilt.calls _ _ l0_0 a0_1 a0_2 _ _ l0_3 t188 t191 _ ?side1 ?side2 ?side3 ?side4 ?side5 A3.out).mono ?_); (case side1 => exact TC HR0_0.out); (case side2 => exact HC0_0.out); (case side3 => exact TC HR0_3.out); (case side4 => exact HC0_3.out); (case side5 => exact Glob.fr HG.out (Fr.of_below (TB2 GE186.out GE187.out))); rintro e w9 ⟨v189, rfl, ho0, hb⟩; refine ⟨_, rfl, ?_⟩; have HO190 := Aside0.mk (Kd.V_lower (Kd.V_mono (ok' := fun k_ => k_ ≠ gb186 ∧ k_ ≠ gb187) ho0 (fun k_ hk_ => ⟨(Kd.freshB (g := gb186) (o := .cells #[.slice A0_0 l0_0.length c0_0, .int .i64 a0_1, .int .i64 a0_2, .slice A0_3 l0_3.length c0_3] 27 (0, 0)) (by (with_reducible repeat (first | refine blk_drewN ?_ _ | refine blk_drew ?_ | refine blk_alloc ?_ _)); exact BK186.out) k_ hk_), (Kd.freshB (g := gb187) (o := .cells #[.int .i64 a1_0, .int .i64 a1_1] 28 (0, 0)) (by (with_reducible repeat (first | refine blk_drewN ?_ _ | refine blk_drew ?_ | refine blk_alloc ?_ _)); exact BK187.out) k_ hk_)⟩)) (below_size (TB2 GE186.out GE187.out))); replace BK186 := Aside0.mk (blk_below (g := gb186) (o := .cells #[.slice A0_0 l0_0.length c0_0, .int .i64 a0_1, .int .i64 a0_2, .slice A0_3 l0_3.length c0_3] 27 (0, 0)) (by (with_reducible repeat (first | refine blk_drewN ?_ _ | refine blk_drew ?_ | refine blk_alloc ?_ _)); exact BK186.out) hb); replace BK187 := Aside0.mk (blk_below (g := gb187) (o := .cells #[.int .i64 a1_0, .int .i64 a1_1] 28 (0, 0)) (by (with_reducible repeat (first | refine blk_drewN ?_ _ | refine blk_drew ?_ | refine blk_alloc ?_ _)); exact BK187.out) hb); replace HB := Aside0.mk (below_step (TB2 GE186.out GE187.out) hb); (try clear hb); (try clear hb2); (try clear hk); (try clear hi); (try clear ho0)))
 (try simp only [Act.put, lA, lZ, lS])
 go_cut [33] (fun v33 wc => ∃ (kq : Nat) (x33_3 : Bool), v33 = .bool x33_3 ∧ Aside0 (saronlaw03_RaspEnough.j0 kq t188 t191 x33_3 l0_0 a0_1 a0_2 l0_3 a1_0 a1_1 = some r) ∧ Aside0 (kq ≤ k) ∧ Aside0 (Kd.V (Kd.int .i64) 3 wc w.heap.size (fun k_ => k_ ≠ gb186 ∧ k_ ≠ gb187) v189 t188) ∧ Aside0 (wc.heap[gb186]? = some (.cells #[(.slice A0_0 l0_0.length c0_0), .int .i64 a0_1, .int .i64 a0_2, (.slice A0_3 l0_3.length c0_3)] 27 (0, 0))) ∧ Aside0 (wc.heap[gb187]? = some (.cells #[.int .i64 a1_0, .int .i64 a1_1] 28 (0, 0))) ∧ Aside0 (Below w.heap.size w wc))
 case first => as_aux_lemma =>
  have H := HC4.out
  clear HC4
  replace H := Option.bind_eq_some_iff.mp H
  obtain ⟨t192, A100, H⟩ := H
  replace H : (saronlaw03_RaspEnough.j0 k t188 t191 (!t192) l0_0 a0_1 a0_2 l0_3 a1_0 a1_1) = some r := H
  have A10 := Aside0.mk A100
  clear A100
  have H' := Aside0.mk H
  clear H
  have hnb11 := NB186_187.out
  have hnc11 := NB187_186.out
  have hcz12_0 := czz BK186.out 0
  have hcz12_1 := czz BK186.out 1
  have hcz12_2 := czz BK186.out 2
  have hcz12_3 := czz BK186.out 3
  have hfz12_0 := fz BK186.out 0
  have hfz12_1 := fz BK186.out 1
  have hfz12_2 := fz BK186.out 2
  have hfz12_3 := fz BK186.out 3
  go_wp2_with (first | ((with_reducible refine gate_callee (f := 37) rfl ?_); refine goesL_ (some 32) rfl rfl Tryd.func37 (by kernel_rfl) rfl #[.agg #[.slice A0_0 l0_0.length c0_0, .int .i64 a0_1, .int .i64 a0_2, .slice A0_3 l0_3.length c0_3]] rfl TM ?_; (with_reducible refine (saronlaw03_sound.calls k _ _ l0_0 a0_1 a0_2 _ _ l0_3 t192 _ ?side1 ?side2 ?side3 ?side4 A10.out).mono ?_); (case side1 => exact TC HR0_0.out); (case side2 => exact HC0_0.out); (case side3 => exact TC HR0_3.out); (case side4 => exact HC0_3.out); rintro e w13 ⟨rfl, hb⟩; refine ⟨_, rfl, ?_⟩; replace HO190 := Aside0.mk (Kd.V_below (by (with_reducible repeat (first | apply Kd.V_alloc | apply Kd.V_drewN | apply Kd.V_drew)); exact HO190.out) hb); replace BK186 := Aside0.mk (blk_below (g := gb186) (o := .cells #[.slice A0_0 l0_0.length c0_0, .int .i64 a0_1, .int .i64 a0_2, .slice A0_3 l0_3.length c0_3] 27 (0, 0)) (by (with_reducible repeat (first | refine blk_drewN ?_ _ | refine blk_drew ?_ | refine blk_alloc ?_ _)); exact BK186.out) hb); replace BK187 := Aside0.mk (blk_below (g := gb187) (o := .cells #[.int .i64 a1_0, .int .i64 a1_1] 28 (0, 0)) (by (with_reducible repeat (first | refine blk_drewN ?_ _ | refine blk_drew ?_ | refine blk_alloc ?_ _)); exact BK187.out) hb); replace HB := Aside0.mk (below_step (TB2 GE186.out GE187.out) hb); (try clear hb); (try clear hb2); (try clear hk); (try clear hi)))
  go_meet
  case rel => exact ⟨_, (!t192), TT, H', ⟨by first | omega | exact Nat.le_refl _⟩, ⟨by (with_reducible repeat (first | apply Kd.V_alloc | apply Kd.V_drewN | apply Kd.V_drew)); exact HO190.out⟩, ⟨by (with_reducible repeat (first | refine blk_drewN ?_ _ | refine blk_drew ?_ | refine blk_alloc ?_ _)); exact BK186.out⟩, ⟨by (with_reducible repeat (first | refine blk_drewN ?_ _ | refine blk_drew ?_ | refine blk_alloc ?_ _)); exact BK187.out⟩, ⟨TB2 GE186.out GE187.out⟩⟩
 case rest => as_aux_lemma =>
  clear HC4
  try clear c1
  try clear c2
  try clear p2
  try clear c3
  try clear c7
  try clear c11
  try clear hcz12_0 hcz12_1 hcz12_2 hcz12_3
  try clear hcz8_0 hcz8_1 hcz8_2 hcz8_3
  try clear hfz12_0 hfz12_1 hfz12_2 hfz12_3
  try clear hfz8_0 hfz8_1 hfz8_2 hfz8_3
  obtain ⟨kq, x33_3, rfl, HA, HJ3, HO_5, BK186, BK187, HB⟩ := hcut
  cases kq with
  | zero => exact absurd HA.out (by simp [saronlaw03_RaspEnough.j0])
  | succ kj3 =>
   have H := HA.out
   clear HA
   simp only [saronlaw03_RaspEnough.j0] at H
   by_cases c14 : x33_3 = true
   ·subst c14
    have H1 : (if t191 = 30 then (if (t188.length : Int) = 0 then ((saronlaw03_filed.f).bind fun t193 => (some t193)) else (some false)) else (some false)) = some r := by rw [if_pos rfl] at H; exact H
    clear H
    have H := H1
    clear H1
    by_cases c15 : t191 = 30
    ·rw [if_pos c15] at H
     have c15b0 : (t191 == 30) = true := beq_iff_eq.mpr c15
     have c15b1 : (t191 != 30) = false := bne_eq_false_iff_eq.mpr c15
     clear c15
     by_cases c16 : (t188.length : Int) = 0
     ·rw [if_pos c16] at H
      have c16b0 : ((t188.length : Int) == 0) = true := beq_iff_eq.mpr c16
      have c16b1 : ((t188.length : Int) != 0) = false := bne_eq_false_iff_eq.mpr c16
      clear c16
      replace H := Option.bind_eq_some_iff.mp H
      obtain ⟨t193, A170, H⟩ := H
      replace H : (some t193) = some r := H
      have A17 := Aside0.mk A170
      clear A170
      obtain rfl := Option.some.inj H
      obtain ⟨Ao18, co18, eo18⟩ := Kd.V_slice HO_5.out
      subst eo18
      go_wp2_with (first | (go_at_call 22; (with_reducible refine (saronlaw03_filed.calls  t193 _ ?side1 A17.out).mono ?_); (case side1 => exact Glob.fr HG.out (Fr.of_below (TB2 GE186.out GE187.out))); rintro e w19 ⟨rfl, hb⟩; replace HO_5 := Aside0.mk (Kd.V_below (by (with_reducible repeat (first | apply Kd.V_alloc | apply Kd.V_drewN | apply Kd.V_drew)); exact HO_5.out) hb); replace BK186 := Aside0.mk (blk_below (g := gb186) (o := .cells #[.slice A0_0 l0_0.length c0_0, .int .i64 a0_1, .int .i64 a0_2, .slice A0_3 l0_3.length c0_3] 27 (0, 0)) (by (with_reducible repeat (first | refine blk_drewN ?_ _ | refine blk_drew ?_ | refine blk_alloc ?_ _)); exact BK186.out) hb); replace BK187 := Aside0.mk (blk_below (g := gb187) (o := .cells #[.int .i64 a1_0, .int .i64 a1_1] 28 (0, 0)) (by (with_reducible repeat (first | refine blk_drewN ?_ _ | refine blk_drew ?_ | refine blk_alloc ?_ _)); exact BK187.out) hb); replace HB := Aside0.mk (below_step (TB2 GE186.out GE187.out) hb); (try clear hb); (try clear hb2); (try clear hk); (try clear hi)))
      go_ret
      exact ⟨TR, TB2 GE186.out GE187.out⟩
     ·rw [if_neg c16] at H
      have c16b0 : ((t188.length : Int) == 0) = false := beq_eq_false_iff_ne.mpr c16
      have c16b1 : ((t188.length : Int) != 0) = true := bne_iff_ne.mpr c16
      have c16b2 : ¬ (t188 = []) := fun h_ => c16 (by rw [h_]; rfl)
      obtain rfl := Option.some.inj H
      obtain ⟨Ao20, co20, eo20⟩ := Kd.V_slice HO_5.out
      subst eo20
      go_wp2
      go_ret
      exact ⟨TR, TB2 GE186.out GE187.out⟩
    ·rw [if_neg c15] at H
     have c15b0 : (t191 == 30) = false := beq_eq_false_iff_ne.mpr c15
     have c15b1 : (t191 != 30) = true := bne_iff_ne.mpr c15
     obtain rfl := Option.some.inj H
     go_wp2
     go_ret
     exact ⟨TR, TB2 GE186.out GE187.out⟩
   ·replace c14 := Bool.eq_false_iff.mpr c14
    subst c14
    have H1 : ((rasp_Total.f l0_0 a0_1 a0_2 l0_3).bind fun bt194 => (if t191 = 0 then ((saronref00_Grows.f kj3 t188 (l0_3.length : Int)).bind fun t196 => (if t196 = true then (if ((bt194.2 == 0) != ((t188.length : Int) == 0)) = true then (saronlaw03_RaspEnough.j1 kj3 t188 bt194.1 bt194.2 true l0_0 a0_1 a0_2 l0_3 a1_0 a1_1) else (if bt194.2 = 0 then (saronlaw03_RaspEnough.j1 kj3 t188 bt194.1 bt194.2 false l0_0 a0_1 a0_2 l0_3 a1_0 a1_1) else (if bt194.2 = 4 then (saronlaw03_RaspEnough.j1 kj3 t188 bt194.1 bt194.2 (bt194.1 != 0) l0_0 a0_1 a0_2 l0_3 a1_0 a1_1) else (saronlaw03_RaspEnough.j1 kj3 t188 bt194.1 bt194.2 true l0_0 a0_1 a0_2 l0_3 a1_0 a1_1)))) else (saronlaw03_RaspEnough.j1 kj3 t188 bt194.1 bt194.2 true l0_0 a0_1 a0_2 l0_3 a1_0 a1_1))) else (saronlaw03_RaspEnough.j1 kj3 t188 bt194.1 bt194.2 true l0_0 a0_1 a0_2 l0_3 a1_0 a1_1))) = some r := by rw [if_neg (show ¬ (false = true) by decide)] at H; exact H
    clear H
    have H := H1
    clear H1
    replace H := Option.bind_eq_some_iff.mp H
    obtain ⟨⟨t194, t195⟩, A210, H⟩ := H
    replace H : (if t191 = 0 then ((saronref00_Grows.f kj3 t188 (l0_3.length : Int)).bind fun t196 => (if t196 = true then (if ((t195 == 0) != ((t188.length : Int) == 0)) = true then (saronlaw03_RaspEnough.j1 kj3 t188 t194 t195 true l0_0 a0_1 a0_2 l0_3 a1_0 a1_1) else (if t195 = 0 then (saronlaw03_RaspEnough.j1 kj3 t188 t194 t195 false l0_0 a0_1 a0_2 l0_3 a1_0 a1_1) else (if t195 = 4 then (saronlaw03_RaspEnough.j1 kj3 t188 t194 t195 (t194 != 0) l0_0 a0_1 a0_2 l0_3 a1_0 a1_1) else (saronlaw03_RaspEnough.j1 kj3 t188 t194 t195 true l0_0 a0_1 a0_2 l0_3 a1_0 a1_1)))) else (saronlaw03_RaspEnough.j1 kj3 t188 t194 t195 true l0_0 a0_1 a0_2 l0_3 a1_0 a1_1))) else (saronlaw03_RaspEnough.j1 kj3 t188 t194 t195 true l0_0 a0_1 a0_2 l0_3 a1_0 a1_1)) = some r := H
    have A21 := Aside0.mk A210
    clear A210
    have HC22 := Aside0.mk H
    clear H
    have hnb23 := NB186_187.out
    have hnc23 := NB187_186.out
    have hcz24_0 := czz BK186.out 0
    have hcz24_1 := czz BK186.out 1
    have hcz24_2 := czz BK186.out 2
    have hcz24_3 := czz BK186.out 3
    have hfz24_0 := fz BK186.out 0
    have hfz24_1 := fz BK186.out 1
    have hfz24_2 := fz BK186.out 2
    have hfz24_3 := fz BK186.out 3
    go_upto_region 5 with (first | ((with_reducible refine gate_callee (f := 28) rfl ?_); refine goesL_ (some 46) rfl rfl Tryd.func28 (by kernel_rfl) rfl #[.agg #[.slice A0_0 l0_0.length c0_0, .int .i64 a0_1, .int .i64 a0_2, .slice A0_3 l0_3.length c0_3]] rfl TM ?_; (with_reducible refine (rasp_Total.calls _ _ l0_0 a0_1 a0_2 _ _ l0_3 t194 t195 _ ?side1 ?side2 ?side3 ?side4 ?side5 A21.out).mono ?_); (case side1 => exact TC HR0_0.out); (case side2 => exact HC0_0.out); (case side3 => exact TC HR0_3.out); (case side4 => exact HC0_3.out); (case side5 => exact Glob.fr HG.out (Fr.of_below (TB2 GE186.out GE187.out))); rintro e w25 ⟨rfl, hb⟩; refine ⟨_, rfl, ?_⟩; replace HO_5 := Aside0.mk (Kd.V_below (by (with_reducible repeat (first | apply Kd.V_alloc | apply Kd.V_drewN | apply Kd.V_drew)); exact HO_5.out) hb); replace BK186 := Aside0.mk (blk_below (g := gb186) (o := .cells #[.slice A0_0 l0_0.length c0_0, .int .i64 a0_1, .int .i64 a0_2, .slice A0_3 l0_3.length c0_3] 27 (0, 0)) (by (with_reducible repeat (first | refine blk_drewN ?_ _ | refine blk_drew ?_ | refine blk_alloc ?_ _)); exact BK186.out) hb); replace BK187 := Aside0.mk (blk_below (g := gb187) (o := .cells #[.int .i64 a1_0, .int .i64 a1_1] 28 (0, 0)) (by (with_reducible repeat (first | refine blk_drewN ?_ _ | refine blk_drew ?_ | refine blk_alloc ?_ _)); exact BK187.out) hb); replace HB := Aside0.mk (below_step (TB2 GE186.out GE187.out) hb); (try clear hb); (try clear hb2); (try clear hk); (try clear hi)))
    (try simp only [Act.put, lA, lZ, lS])
    go_cut [78] (fun v78 wc => ∃ (kq : Nat) (x78_21 : Bool), v78 = .bool x78_21 ∧ Aside0 (saronlaw03_RaspEnough.j1 kq t188 t194 t195 x78_21 l0_0 a0_1 a0_2 l0_3 a1_0 a1_1 = some r) ∧ Aside0 (kq ≤ kj3) ∧ Aside0 (Kd.V (Kd.int .i64) 3 wc w.heap.size (fun k_ => k_ ≠ gb186 ∧ k_ ≠ gb187) v189 t188) ∧ Aside0 (wc.heap[gb186]? = some (.cells #[(.slice A0_0 l0_0.length c0_0), .int .i64 a0_1, .int .i64 a0_2, (.slice A0_3 l0_3.length c0_3)] 27 (0, 0))) ∧ Aside0 (wc.heap[gb187]? = some (.cells #[.int .i64 a1_0, .int .i64 a1_1] 28 (0, 0))) ∧ Aside0 (Below w.heap.size w wc))
    case first => as_aux_lemma =>
     have H := HC22.out
     clear HC22
     by_cases c26 : t191 = 0
     ·rw [if_pos c26] at H
      have c26b0 : (t191 == 0) = true := beq_iff_eq.mpr c26
      have c26b1 : (t191 != 0) = false := bne_eq_false_iff_eq.mpr c26
      clear c26
      (first | rw [c26b0] | (simp only [i64_w, i32_w]; rw [c26b0]) | skip)
      replace H := Option.bind_eq_some_iff.mp H
      obtain ⟨t196, A270, H⟩ := H
      replace H : (if t196 = true then (if ((t195 == 0) != ((t188.length : Int) == 0)) = true then (saronlaw03_RaspEnough.j1 kj3 t188 t194 t195 true l0_0 a0_1 a0_2 l0_3 a1_0 a1_1) else (if t195 = 0 then (saronlaw03_RaspEnough.j1 kj3 t188 t194 t195 false l0_0 a0_1 a0_2 l0_3 a1_0 a1_1) else (if t195 = 4 then (saronlaw03_RaspEnough.j1 kj3 t188 t194 t195 (t194 != 0) l0_0 a0_1 a0_2 l0_3 a1_0 a1_1) else (saronlaw03_RaspEnough.j1 kj3 t188 t194 t195 true l0_0 a0_1 a0_2 l0_3 a1_0 a1_1)))) else (saronlaw03_RaspEnough.j1 kj3 t188 t194 t195 true l0_0 a0_1 a0_2 l0_3 a1_0 a1_1)) = some r := H
      have A27 := Aside0.mk A270
      clear A270
      by_cases c28 : t196 = true
      ·subst c28
       have H1 : (if ((t195 == 0) != ((t188.length : Int) == 0)) = true then (saronlaw03_RaspEnough.j1 kj3 t188 t194 t195 true l0_0 a0_1 a0_2 l0_3 a1_0 a1_1) else (if t195 = 0 then (saronlaw03_RaspEnough.j1 kj3 t188 t194 t195 false l0_0 a0_1 a0_2 l0_3 a1_0 a1_1) else (if t195 = 4 then (saronlaw03_RaspEnough.j1 kj3 t188 t194 t195 (t194 != 0) l0_0 a0_1 a0_2 l0_3 a1_0 a1_1) else (saronlaw03_RaspEnough.j1 kj3 t188 t194 t195 true l0_0 a0_1 a0_2 l0_3 a1_0 a1_1)))) = some r := by rw [if_pos rfl] at H; exact H
       clear H
       have H := H1
       clear H1
       by_cases c29 : ((t195 == 0) != ((t188.length : Int) == 0)) = true
       ·rw [if_pos c29] at H
        have c29b0 : ((t195 == 0) != ((t188.length : Int) == 0)) = true := c29
        (try (have c29b1 : decide ((t195 == 0) = ((t188.length : Int) == 0)) = false := by simpa using c29))
        (try (have c29b2 : ((t195 == 0) == ((t188.length : Int) == 0)) = false := by simpa using c29))
        (try (have c29b3 : ¬ ((t195 == 0) = ((t188.length : Int) == 0)) := by simpa using c29))
        clear c29
        have H' := Aside0.mk H
        clear H
        have hnb30 := NB186_187.out
        have hnc30 := NB187_186.out
        have hcz31_0 := czz BK186.out 0
        have hcz31_1 := czz BK186.out 1
        have hcz31_2 := czz BK186.out 2
        have hcz31_3 := czz BK186.out 3
        have hfz31_0 := fz BK186.out 0
        have hfz31_1 := fz BK186.out 1
        have hfz31_2 := fz BK186.out 2
        have hfz31_3 := fz BK186.out 3
        obtain ⟨Ao32, co32, eo32⟩ := Kd.V_slice HO_5.out
        subst eo32
        go_wp2_with (first | (go_at_call 46; (with_reducible refine (saronref00_Grows.calls kj3 _ _ t188 (l0_3.length : Int) true _ ?side1 ?side2 A27.out).mono ?_); (case side1 => repeat (first | exact (Kd.V_reads' HO_5.out).2.2 | (with_reducible refine Kd.C_alloc ?_ _) | (with_reducible refine Kd.C_drewN ?_ _) | (with_reducible refine Kd.C_drew ?_))); (case side2 => exact (Kd.V_reads' HO_5.out).2.1); rintro e w' ⟨rfl, ⟨nd, rfl⟩⟩))
        go_meet
        case rel => exact ⟨_, (true), TT, H', ⟨by have := HJ3.out; first | omega | exact Nat.le_refl _⟩, ⟨by (with_reducible repeat (first | apply Kd.V_alloc | apply Kd.V_drewN | apply Kd.V_drew)); exact HO_5.out⟩, ⟨by (with_reducible repeat (first | refine blk_drewN ?_ _ | refine blk_drew ?_ | refine blk_alloc ?_ _)); exact BK186.out⟩, ⟨by (with_reducible repeat (first | refine blk_drewN ?_ _ | refine blk_drew ?_ | refine blk_alloc ?_ _)); exact BK187.out⟩, ⟨TB2 GE186.out GE187.out⟩⟩
       ·rw [if_neg c29] at H
        have c29b0 : ((t195 == 0) != ((t188.length : Int) == 0)) = false := by simpa using c29
        (try (have c29b1 : decide ((t195 == 0) = ((t188.length : Int) == 0)) = true := by simpa using c29))
        (try (have c29b2 : ((t195 == 0) == ((t188.length : Int) == 0)) = true := by simpa using c29))
        clear c29
        have hbl_ : ((t188.length : Int) == 0) = (t195 == 0) := by (revert c29b0; cases ((t188.length : Int) == 0) <;> cases (t195 == 0) <;> simp)
        clear c29b0
        (try clear c29b1)
        (try clear c29b2)
        by_cases c33 : t195 = 0
        ·rw [if_pos c33] at H
         have c33b0 : (t195 == 0) = true := beq_iff_eq.mpr c33
         have c33b1 : (t195 != 0) = false := bne_eq_false_iff_eq.mpr c33
         clear c33
         have H' := Aside0.mk H
         clear H
         have hnb34 := NB186_187.out
         have hnc34 := NB187_186.out
         have hcz35_0 := czz BK186.out 0
         have hcz35_1 := czz BK186.out 1
         have hcz35_2 := czz BK186.out 2
         have hcz35_3 := czz BK186.out 3
         have hfz35_0 := fz BK186.out 0
         have hfz35_1 := fz BK186.out 1
         have hfz35_2 := fz BK186.out 2
         have hfz35_3 := fz BK186.out 3
         obtain ⟨Ao36, co36, eo36⟩ := Kd.V_slice HO_5.out
         subst eo36
         go_wp2_with (first | (go_at_call 46; (with_reducible refine (saronref00_Grows.calls kj3 _ _ t188 (l0_3.length : Int) true _ ?side1 ?side2 A27.out).mono ?_); (case side1 => repeat (first | exact (Kd.V_reads' HO_5.out).2.2 | (with_reducible refine Kd.C_alloc ?_ _) | (with_reducible refine Kd.C_drewN ?_ _) | (with_reducible refine Kd.C_drew ?_))); (case side2 => exact (Kd.V_reads' HO_5.out).2.1); rintro e w' ⟨rfl, ⟨nd, rfl⟩⟩))
         go_meet
         case rel => exact ⟨_, (false), TT, H', ⟨by have := HJ3.out; first | omega | exact Nat.le_refl _⟩, ⟨by (with_reducible repeat (first | apply Kd.V_alloc | apply Kd.V_drewN | apply Kd.V_drew)); exact HO_5.out⟩, ⟨by (with_reducible repeat (first | refine blk_drewN ?_ _ | refine blk_drew ?_ | refine blk_alloc ?_ _)); exact BK186.out⟩, ⟨by (with_reducible repeat (first | refine blk_drewN ?_ _ | refine blk_drew ?_ | refine blk_alloc ?_ _)); exact BK187.out⟩, ⟨TB2 GE186.out GE187.out⟩⟩
        ·rw [if_neg c33] at H
         have c33b0 : (t195 == 0) = false := beq_eq_false_iff_ne.mpr c33
         have c33b1 : (t195 != 0) = true := bne_iff_ne.mpr c33
         by_cases c37 : t195 = 4
         ·rw [if_pos c37] at H
          have c37b0 : (t195 == 4) = true := beq_iff_eq.mpr c37
          have c37b1 : (t195 != 4) = false := bne_eq_false_iff_eq.mpr c37
          clear c37
          have H' := Aside0.mk H
          clear H
          have hnb38 := NB186_187.out
          have hnc38 := NB187_186.out
          have hcz39_0 := czz BK186.out 0
          have hcz39_1 := czz BK186.out 1
          have hcz39_2 := czz BK186.out 2
          have hcz39_3 := czz BK186.out 3
          have hfz39_0 := fz BK186.out 0
          have hfz39_1 := fz BK186.out 1
          have hfz39_2 := fz BK186.out 2
          have hfz39_3 := fz BK186.out 3
          obtain ⟨Ao40, co40, eo40⟩ := Kd.V_slice HO_5.out
          subst eo40
          go_wp2_with (first | (go_at_call 46; (with_reducible refine (saronref00_Grows.calls kj3 _ _ t188 (l0_3.length : Int) true _ ?side1 ?side2 A27.out).mono ?_); (case side1 => repeat (first | exact (Kd.V_reads' HO_5.out).2.2 | (with_reducible refine Kd.C_alloc ?_ _) | (with_reducible refine Kd.C_drewN ?_ _) | (with_reducible refine Kd.C_drew ?_))); (case side2 => exact (Kd.V_reads' HO_5.out).2.1); rintro e w' ⟨rfl, ⟨nd, rfl⟩⟩))
          go_meet
          case rel => exact ⟨_, ((t194 != 0)), TT, H', ⟨by have := HJ3.out; first | omega | exact Nat.le_refl _⟩, ⟨by (with_reducible repeat (first | apply Kd.V_alloc | apply Kd.V_drewN | apply Kd.V_drew)); exact HO_5.out⟩, ⟨by (with_reducible repeat (first | refine blk_drewN ?_ _ | refine blk_drew ?_ | refine blk_alloc ?_ _)); exact BK186.out⟩, ⟨by (with_reducible repeat (first | refine blk_drewN ?_ _ | refine blk_drew ?_ | refine blk_alloc ?_ _)); exact BK187.out⟩, ⟨TB2 GE186.out GE187.out⟩⟩
         ·rw [if_neg c37] at H
          have c37b0 : (t195 == 4) = false := beq_eq_false_iff_ne.mpr c37
          have c37b1 : (t195 != 4) = true := bne_iff_ne.mpr c37
          have H' := Aside0.mk H
          clear H
          have hnb41 := NB186_187.out
          have hnc41 := NB187_186.out
          have hcz42_0 := czz BK186.out 0
          have hcz42_1 := czz BK186.out 1
          have hcz42_2 := czz BK186.out 2
          have hcz42_3 := czz BK186.out 3
          have hfz42_0 := fz BK186.out 0
          have hfz42_1 := fz BK186.out 1
          have hfz42_2 := fz BK186.out 2
          have hfz42_3 := fz BK186.out 3
          obtain ⟨Ao43, co43, eo43⟩ := Kd.V_slice HO_5.out
          subst eo43
          go_wp2_with (first | (go_at_call 46; (with_reducible refine (saronref00_Grows.calls kj3 _ _ t188 (l0_3.length : Int) true _ ?side1 ?side2 A27.out).mono ?_); (case side1 => repeat (first | exact (Kd.V_reads' HO_5.out).2.2 | (with_reducible refine Kd.C_alloc ?_ _) | (with_reducible refine Kd.C_drewN ?_ _) | (with_reducible refine Kd.C_drew ?_))); (case side2 => exact (Kd.V_reads' HO_5.out).2.1); rintro e w' ⟨rfl, ⟨nd, rfl⟩⟩))
          go_meet
          case rel => exact ⟨_, (true), TT, H', ⟨by have := HJ3.out; first | omega | exact Nat.le_refl _⟩, ⟨by (with_reducible repeat (first | apply Kd.V_alloc | apply Kd.V_drewN | apply Kd.V_drew)); exact HO_5.out⟩, ⟨by (with_reducible repeat (first | refine blk_drewN ?_ _ | refine blk_drew ?_ | refine blk_alloc ?_ _)); exact BK186.out⟩, ⟨by (with_reducible repeat (first | refine blk_drewN ?_ _ | refine blk_drew ?_ | refine blk_alloc ?_ _)); exact BK187.out⟩, ⟨TB2 GE186.out GE187.out⟩⟩
      ·replace c28 := Bool.eq_false_iff.mpr c28
       subst c28
       have H1 : (saronlaw03_RaspEnough.j1 kj3 t188 t194 t195 true l0_0 a0_1 a0_2 l0_3 a1_0 a1_1) = some r := by rw [if_neg (show ¬ (false = true) by decide)] at H; exact H
       clear H
       have H := H1
       clear H1
       have H' := Aside0.mk H
       clear H
       have hnb44 := NB186_187.out
       have hnc44 := NB187_186.out
       have hcz45_0 := czz BK186.out 0
       have hcz45_1 := czz BK186.out 1
       have hcz45_2 := czz BK186.out 2
       have hcz45_3 := czz BK186.out 3
       have hfz45_0 := fz BK186.out 0
       have hfz45_1 := fz BK186.out 1
       have hfz45_2 := fz BK186.out 2
       have hfz45_3 := fz BK186.out 3
       obtain ⟨Ao46, co46, eo46⟩ := Kd.V_slice HO_5.out
       subst eo46
       go_wp2_with (first | (go_at_call 46; (with_reducible refine (saronref00_Grows.calls kj3 _ _ t188 (l0_3.length : Int) false _ ?side1 ?side2 A27.out).mono ?_); (case side1 => repeat (first | exact (Kd.V_reads' HO_5.out).2.2 | (with_reducible refine Kd.C_alloc ?_ _) | (with_reducible refine Kd.C_drewN ?_ _) | (with_reducible refine Kd.C_drew ?_))); (case side2 => exact (Kd.V_reads' HO_5.out).2.1); rintro e w' ⟨rfl, ⟨nd, rfl⟩⟩))
       go_meet
       case rel => exact ⟨_, (true), TT, H', ⟨by have := HJ3.out; first | omega | exact Nat.le_refl _⟩, ⟨by (with_reducible repeat (first | apply Kd.V_alloc | apply Kd.V_drewN | apply Kd.V_drew)); exact HO_5.out⟩, ⟨by (with_reducible repeat (first | refine blk_drewN ?_ _ | refine blk_drew ?_ | refine blk_alloc ?_ _)); exact BK186.out⟩, ⟨by (with_reducible repeat (first | refine blk_drewN ?_ _ | refine blk_drew ?_ | refine blk_alloc ?_ _)); exact BK187.out⟩, ⟨TB2 GE186.out GE187.out⟩⟩
     ·rw [if_neg c26] at H
      have c26b0 : (t191 == 0) = false := beq_eq_false_iff_ne.mpr c26
      have c26b1 : (t191 != 0) = true := bne_iff_ne.mpr c26
      (first | rw [c26b0] | (simp only [i64_w, i32_w]; rw [c26b0]) | skip)
      have H' := Aside0.mk H
      clear H
      go_wp2
      go_meet
      case rel => exact ⟨_, (true), TT, H', ⟨by have := HJ3.out; first | omega | exact Nat.le_refl _⟩, ⟨by (with_reducible repeat (first | apply Kd.V_alloc | apply Kd.V_drewN | apply Kd.V_drew)); exact HO_5.out⟩, ⟨by (with_reducible repeat (first | refine blk_drewN ?_ _ | refine blk_drew ?_ | refine blk_alloc ?_ _)); exact BK186.out⟩, ⟨by (with_reducible repeat (first | refine blk_drewN ?_ _ | refine blk_drew ?_ | refine blk_alloc ?_ _)); exact BK187.out⟩, ⟨TB2 GE186.out GE187.out⟩⟩
    case rest => as_aux_lemma =>
     clear HC22
     try clear c1
     try clear c2
     try clear p2
     try clear c3
     try clear c4
     try clear c7
     try clear c11
     try clear c14
     try clear c15
     try clear c15b0
     try clear c15b1
     try clear c16
     try clear c16b0
     try clear c16b1
     try clear c16b2
     try clear c23
     try clear c25
     try clear c26
     try clear c26b0
     try clear c26b1
     try clear c28
     try clear c29
     try clear c29b0
     try clear c29b1
     try clear c29b2
     try clear c30
     try clear c33
     try clear c33b0
     try clear c33b1
     try clear c34
     try clear c37
     try clear c37b0
     try clear c37b1
     try clear c38
     try clear c41
     try clear c44
     try clear hcz12_0 hcz12_1 hcz12_2 hcz12_3
     try clear hcz24_0 hcz24_1 hcz24_2 hcz24_3
     try clear hcz31_0 hcz31_1 hcz31_2 hcz31_3
     try clear hcz35_0 hcz35_1 hcz35_2 hcz35_3
     try clear hcz39_0 hcz39_1 hcz39_2 hcz39_3
     try clear hcz42_0 hcz42_1 hcz42_2 hcz42_3
     try clear hcz45_0 hcz45_1 hcz45_2 hcz45_3
     try clear hcz8_0 hcz8_1 hcz8_2 hcz8_3
     try clear hfz12_0 hfz12_1 hfz12_2 hfz12_3
     try clear hfz24_0 hfz24_1 hfz24_2 hfz24_3
     try clear hfz31_0 hfz31_1 hfz31_2 hfz31_3
     try clear hfz35_0 hfz35_1 hfz35_2 hfz35_3
     try clear hfz39_0 hfz39_1 hfz39_2 hfz39_3
     try clear hfz42_0 hfz42_1 hfz42_2 hfz42_3
     try clear hfz45_0 hfz45_1 hfz45_2 hfz45_3
     try clear hfz8_0 hfz8_1 hfz8_2 hfz8_3
     try clear p2
     obtain ⟨kq, x78_21, rfl, HA, HJ21, HO_5, BK186, BK187, HB⟩ := hcut
     cases kq with
     | zero => exact absurd HA.out (by simp [saronlaw03_RaspEnough.j1])
     | succ kj21 =>
      have H := HA.out
      clear HA
      simp only [saronlaw03_RaspEnough.j1] at H
      by_cases c47 : x78_21 = true
      ·subst c47
       have H1 : (some false) = some r := by rw [if_pos rfl] at H; exact H
       clear H
       have H := H1
       clear H1
       obtain rfl := Option.some.inj H
       go_wp2
       go_ret
       exact ⟨TR, TB2 GE186.out GE187.out⟩
      ·replace c47 := Bool.eq_false_iff.mpr c47
       subst c47
       have H1 : (saronlaw03_RaspEnough.l0 kj21 t188 t194 t195 0 0 l0_0 a0_1 a0_2 l0_3 a1_0 a1_1) = some r := by rw [if_neg (show ¬ (false = true) by decide)] at H; exact H
       clear H
       have H := H1
       clear H1
       have H' := Aside0.mk H
       clear H
       go_wp2
       go_loopg [9, 10] kj21 (fun kq v9 v10 w' => ∃ (x9_3 : Int) (x10_3 : Int), v9 = .int .i64 x9_3 ∧ v10 = .int .i64 x10_3 ∧ Aside0 (saronlaw03_RaspEnough.l0 kq t188 t194 t195 x9_3 x10_3 l0_0 a0_1 a0_2 l0_3 a1_0 a1_1 = some r) ∧ Aside0 (kq ≤ kj21) ∧ Aside0 (Kd.V (Kd.int .i64) 3 w' w.heap.size (fun k_ => k_ ≠ gb186 ∧ k_ ≠ gb187) v189 t188) ∧ Aside0 (w'.heap[gb186]? = some (.cells #[(.slice A0_0 l0_0.length c0_0), .int .i64 a0_1, .int .i64 a0_2, (.slice A0_3 l0_3.length c0_3)] 27 (0, 0))) ∧ Aside0 (w'.heap[gb187]? = some (.cells #[.int .i64 a1_0, .int .i64 a1_1] 28 (0, 0))) ∧ Aside0 (Below w.heap.size w w'))
       case atStart => exact ⟨(0), (0), TT, TT, H', ⟨Nat.le_refl _⟩, ⟨by (with_reducible repeat (first | apply Kd.V_alloc | apply Kd.V_drewN | apply Kd.V_drew)); exact HO_5.out⟩, ⟨by (with_reducible repeat (first | refine blk_drewN ?_ _ | refine blk_drew ?_ | refine blk_alloc ?_ _)); exact BK186.out⟩, ⟨by (with_reducible repeat (first | refine blk_drewN ?_ _ | refine blk_drew ?_ | refine blk_alloc ?_ _)); exact BK187.out⟩, ⟨TB2 GE186.out GE187.out⟩⟩
       case round => as_aux_lemma =>
        clear H'
        try clear c1
        try clear c2
        try clear p2
        try clear c3
        try clear c4
        try clear c7
        try clear c11
        try clear c14
        try clear c15
        try clear c15b0
        try clear c15b1
        try clear c16
        try clear c16b0
        try clear c16b1
        try clear c16b2
        try clear c23
        try clear c25
        try clear c26
        try clear c26b0
        try clear c26b1
        try clear c28
        try clear c29
        try clear c29b0
        try clear c29b1
        try clear c29b2
        try clear c30
        try clear c33
        try clear c33b0
        try clear c33b1
        try clear c34
        try clear c37
        try clear c37b0
        try clear c37b1
        try clear c38
        try clear c41
        try clear c44
        try clear c47
        try clear hcz12_0 hcz12_1 hcz12_2 hcz12_3
        try clear hcz24_0 hcz24_1 hcz24_2 hcz24_3
        try clear hcz31_0 hcz31_1 hcz31_2 hcz31_3
        try clear hcz35_0 hcz35_1 hcz35_2 hcz35_3
        try clear hcz39_0 hcz39_1 hcz39_2 hcz39_3
        try clear hcz42_0 hcz42_1 hcz42_2 hcz42_3
        try clear hcz45_0 hcz45_1 hcz45_2 hcz45_3
        try clear hcz8_0 hcz8_1 hcz8_2 hcz8_3
        try clear hfz12_0 hfz12_1 hfz12_2 hfz12_3
        try clear hfz24_0 hfz24_1 hfz24_2 hfz24_3
        try clear hfz31_0 hfz31_1 hfz31_2 hfz31_3
        try clear hfz35_0 hfz35_1 hfz35_2 hfz35_3
        try clear hfz39_0 hfz39_1 hfz39_2 hfz39_3
        try clear hfz42_0 hfz42_1 hfz42_2 hfz42_3
        try clear hfz45_0 hfz45_1 hfz45_2 hfz45_3
        try clear hfz8_0 hfz8_1 hfz8_2 hfz8_3
        try clear p2
        obtain ⟨x9_3, x10_3, rfl, rfl, HA, HK3, HO_5, BK186, BK187, HB⟩ := hrel
        cases gk with
        | zero => exact absurd HA.out (by simp [saronlaw03_RaspEnough.l0])
        | succ k3 =>
         have H := HA.out
         clear HA
         simp only [saronlaw03_RaspEnough.l0] at H
         by_cases c48 : x10_3 < (l0_3.length : Int)
         ·rw [if_pos c48] at H
          have c48b0 : decide (x10_3 < (l0_3.length : Int)) = true := decide_eq_true c48
          clear c48
          replace H := Option.bind_eq_some_iff.mp H
          obtain ⟨⟨t197, t198⟩, A490, H⟩ := H
          replace H : (if 0 ≤ x10_3 then (saronlaw03_RaspEnough.l1 k3 t188 t194 t195 x9_3 x10_3 t197 t198 0 false ((rd_T69 l0_3 x10_3).f0.f0) l0_0 a0_1 a0_2 l0_3 a1_0 a1_1) else (none)) = some r := H
          have A49 := Aside0.mk A490
          clear A490
          by_cases c50 : 0 ≤ x10_3
          ·rw [if_pos c50] at H
           have c50b0 : decide (0 ≤ x10_3) = true := decide_eq_true c50
           clear c50
           have H' := Aside0.mk H
           clear H
           have hnb51 := NB186_187.out
           have hnc51 := NB187_186.out
           have hcz52_0 := czz BK186.out 0
           have hcz52_1 := czz BK186.out 1
           have hcz52_2 := czz BK186.out 2
           have hcz52_3 := czz BK186.out 3
           have hfz52_0 := fz BK186.out 0
           have hfz52_1 := fz BK186.out 1
           have hfz52_2 := fz BK186.out 2
           have hfz52_3 := fz BK186.out 3
           go_wp2_with (first | ((with_reducible refine gate_callee (f := 23) rfl ?_); refine goesL_ (some 89) rfl rfl Tryd.func23 (by kernel_rfl) rfl #[.agg #[.slice A0_0 l0_0.length c0_0, .int .i64 a0_1, .int .i64 a0_2, .slice A0_3 l0_3.length c0_3], .int .i64 x10_3] rfl TM ?_; (with_reducible refine (rasp_Strokes.calls _ _ l0_0 a0_1 a0_2 _ _ l0_3 x10_3 t197 t198 _ ?side1 ?side2 ?side3 ?side4 ?side5 A49.out).mono ?_); (case side1 => exact TC HR0_0.out); (case side2 => exact HC0_0.out); (case side3 => exact TC HR0_3.out); (case side4 => exact HC0_3.out); (case side5 => exact Glob.fr HG.out (Fr.of_below (TB2 GE186.out GE187.out))); rintro e w53 ⟨rfl, hb⟩; refine ⟨_, rfl, ?_⟩; replace HO_5 := Aside0.mk (Kd.V_below (by (with_reducible repeat (first | apply Kd.V_alloc | apply Kd.V_drewN | apply Kd.V_drew)); exact HO_5.out) hb); replace BK186 := Aside0.mk (blk_below (g := gb186) (o := .cells #[.slice A0_0 l0_0.length c0_0, .int .i64 a0_1, .int .i64 a0_2, .slice A0_3 l0_3.length c0_3] 27 (0, 0)) (by (with_reducible repeat (first | refine blk_drewN ?_ _ | refine blk_drew ?_ | refine blk_alloc ?_ _)); exact BK186.out) hb); replace BK187 := Aside0.mk (blk_below (g := gb187) (o := .cells #[.int .i64 a1_0, .int .i64 a1_1] 28 (0, 0)) (by (with_reducible repeat (first | refine blk_drewN ?_ _ | refine blk_drew ?_ | refine blk_alloc ?_ _)); exact BK187.out) hb); replace HB := Aside0.mk (below_step (TB2 GE186.out GE187.out) hb); (try clear hb); (try clear hb2); (try clear hk); (try clear hi); have hcz54_0 := czz BK186.out 0; have hcz54_1 := czz BK186.out 1; have hcz54_2 := czz BK186.out 2; have hcz54_3 := czz BK186.out 3; have hfz54_0 := fz BK186.out 0; have hfz54_1 := fz BK186.out 1; have hfz54_2 := fz BK186.out 2; have hfz54_3 := fz BK186.out 3; have p199 : 0 ≤ (x10_3 : Int) := of_decide_eq_true TA; have q199 : x10_3 < (l0_3.length : Int) := of_decide_eq_true TA; obtain ⟨ad199, e199, hx199_0, hx199_1, hx199_2⟩ := at_T69 HR0_3.out x10_3 p199 q199; cases e199; replace hx199_0 := hx HB.out hx199_0; replace hx199_1 := hx HB.out hx199_1; replace hx199_2 := hx HB.out hx199_2; replace p199 := eq_true p199; replace q199 := eq_true q199))
           go_loopg [13, 14, 15] k3 (fun kq v13 v14 v15 w' => ∃ (x13_4 : Int) (x14_4 : Bool) (x15_4 : Int), v13 = .int .i64 x13_4 ∧ v14 = .bool x14_4 ∧ v15 = .int .i64 x15_4 ∧ Aside0 (saronlaw03_RaspEnough.l1 kq t188 t194 t195 x9_3 x10_3 t197 t198 x13_4 x14_4 x15_4 l0_0 a0_1 a0_2 l0_3 a1_0 a1_1 = some r) ∧ Aside0 (kq ≤ k3) ∧ Aside0 (Kd.V (Kd.int .i64) 3 w' w.heap.size (fun k_ => k_ ≠ gb186 ∧ k_ ≠ gb187) v189 t188) ∧ Aside0 (w'.heap[gb186]? = some (.cells #[(.slice A0_0 l0_0.length c0_0), .int .i64 a0_1, .int .i64 a0_2, (.slice (some ad199) l0_3.length c0_3)] 27 (0, 0))) ∧ Aside0 (w'.heap[gb187]? = some (.cells #[.int .i64 a1_0, .int .i64 a1_1] 28 (0, 0))) ∧ Aside0 (Below w.heap.size w w'))
           case atStart => exact ⟨(0), (false), ((rd_T69 l0_3 x10_3).f0.f0), TT, TT, TT, H', ⟨Nat.le_refl _⟩, ⟨by (with_reducible repeat (first | apply Kd.V_alloc | apply Kd.V_drewN | apply Kd.V_drew)); exact HO_5.out⟩, ⟨by (with_reducible repeat (first | refine blk_drewN ?_ _ | refine blk_drew ?_ | refine blk_alloc ?_ _)); exact BK186.out⟩, ⟨by (with_reducible repeat (first | refine blk_drewN ?_ _ | refine blk_drew ?_ | refine blk_alloc ?_ _)); exact BK187.out⟩, ⟨TB2 GE186.out GE187.out⟩⟩
           case round => as_aux_lemma =>
            clear H'
            try clear c1
            try clear p1
            try clear q1
            try clear hx1
            try clear c2
            try clear p2
            try clear c3
            try clear c4
            try clear c5
            try clear c7
            try clear c11
            try clear c14
            try clear c15
            try clear c15b0
            try clear c15b1
            try clear c16
            try clear c16b0
            try clear c16b1
            try clear c16b2
            try clear p19
            try clear q19
            try clear hx19
            try clear c23
            try clear c25
            try clear c26
            try clear c26b0
            try clear c26b1
            try clear c28
            try clear c29
            try clear c29b0
            try clear c29b1
            try clear c29b2
            try clear c30
            try clear c33
            try clear c33b0
            try clear c33b1
            try clear c34
            try clear c37
            try clear c37b0
            try clear c37b1
            try clear c38
            try clear c41
            try clear c44
            try clear c47
            try clear c48
            try clear c48b0
            try clear c50
            try clear c50b0
            try clear c51
            try clear hcz12_0 hcz12_1 hcz12_2 hcz12_3
            try clear hcz24_0 hcz24_1 hcz24_2 hcz24_3
            try clear hcz31_0 hcz31_1 hcz31_2 hcz31_3
            try clear hcz35_0 hcz35_1 hcz35_2 hcz35_3
            try clear hcz39_0 hcz39_1 hcz39_2 hcz39_3
            try clear hcz42_0 hcz42_1 hcz42_2 hcz42_3
            try clear hcz45_0 hcz45_1 hcz45_2 hcz45_3
            try clear hcz52_0 hcz52_1 hcz52_2 hcz52_3
            try clear hcz54_0 hcz54_1 hcz54_2 hcz54_3
            try clear hcz8_0 hcz8_1 hcz8_2 hcz8_3
            try clear hfz12_0 hfz12_1 hfz12_2 hfz12_3
            try clear hfz24_0 hfz24_1 hfz24_2 hfz24_3
            try clear hfz31_0 hfz31_1 hfz31_2 hfz31_3
            try clear hfz35_0 hfz35_1 hfz35_2 hfz35_3
            try clear hfz39_0 hfz39_1 hfz39_2 hfz39_3
            try clear hfz42_0 hfz42_1 hfz42_2 hfz42_3
            try clear hfz45_0 hfz45_1 hfz45_2 hfz45_3
            try clear hfz52_0 hfz52_1 hfz52_2 hfz52_3
            try clear hfz54_0 hfz54_1 hfz54_2 hfz54_3
            try clear hfz8_0 hfz8_1 hfz8_2 hfz8_3
            try clear hx199_0
            try clear hx199_1
            try clear hx199_2
            try clear p199
            try clear p2
            try clear q199
            obtain ⟨x13_4, x14_4, x15_4, rfl, rfl, rfl, HA, HK4, HO_5, BK186, BK187, HB⟩ := hrel
            cases gk with
            | zero => exact absurd HA.out (by simp [saronlaw03_RaspEnough.l1])
            | succ k4 =>
             have H := HA.out
             clear HA
             simp only [saronlaw03_RaspEnough.l1] at H
             by_cases c55 : 0 ≤ x10_3
             ·rw [if_pos c55] at H
              have c55b0 : decide (0 ≤ x10_3) = true := decide_eq_true c55
              clear c55
              by_cases c56 : x10_3 < (l0_3.length : Int)
              ·rw [if_pos c56] at H
               have c56b0 : decide (x10_3 < (l0_3.length : Int)) = true := decide_eq_true c56
               clear c56
               by_cases c57 : x15_4 ≤ ((rd_T69 l0_3 x10_3).f0.f1)
               ·rw [if_pos c57] at H
                have c57b0 : decide (x15_4 ≤ ((rd_T69 l0_3 x10_3).f0.f1)) = true := decide_eq_true c57
                clear c57
                replace H := Option.bind_eq_some_iff.mp H
                obtain ⟨⟨t202, t203, t204⟩, A580, H⟩ := H
                replace H : (if x14_4 = true then (saronlaw03_RaspEnough.l1 k4 t188 t194 t195 x9_3 x10_3 t197 t198 (mx x13_4 t203) true (wrap64 (x15_4 + 1)) l0_0 a0_1 a0_2 l0_3 a1_0 a1_1) else (saronlaw03_RaspEnough.l1 k4 t188 t194 t195 x9_3 x10_3 t197 t198 (mx x13_4 t203) (t204 != 0) (wrap64 (x15_4 + 1)) l0_0 a0_1 a0_2 l0_3 a1_0 a1_1)) = some r := H
                have A58 := Aside0.mk A580
                clear A580
                obtain ⟨ji59, hji59⟩ : ∃ j_ : Int, (mx x13_4 t203) = j_ := ⟨_, rfl⟩
                replace H : (if x14_4 = true then (saronlaw03_RaspEnough.l1 k4 t188 t194 t195 x9_3 x10_3 t197 t198 ji59 true (wrap64 (x15_4 + 1)) l0_0 a0_1 a0_2 l0_3 a1_0 a1_1) else (saronlaw03_RaspEnough.l1 k4 t188 t194 t195 x9_3 x10_3 t197 t198 ji59 (t204 != 0) (wrap64 (x15_4 + 1)) l0_0 a0_1 a0_2 l0_3 a1_0 a1_1)) = some r := by first | (rw [hji59] at H; exact H) | (simp only [hji59] at H ⊢; exact H)
                (try rw [hji59] at A58)
                have hji59_ : (if x13_4 < t203 then t203 else x13_4) = ji59 := hji59
                by_cases c60 : x14_4 = true
                ·subst c60
                 have H1 : (saronlaw03_RaspEnough.l1 k4 t188 t194 t195 x9_3 x10_3 t197 t198 ji59 true (wrap64 (x15_4 + 1)) l0_0 a0_1 a0_2 l0_3 a1_0 a1_1) = some r := by rw [if_pos rfl] at H; exact H
                 clear H
                 have H := H1
                 clear H1
                 have H' := Aside0.mk H
                 clear H
                 have hnb61 := NB186_187.out
                 have hnc61 := NB187_186.out
                 have hcz62_0 := czz BK186.out 0
                 have hcz62_1 := czz BK186.out 1
                 have hcz62_2 := czz BK186.out 2
                 have hcz62_3 := czz BK186.out 3
                 have hfz62_0 := fz BK186.out 0
                 have hfz62_1 := fz BK186.out 1
                 have hfz62_2 := fz BK186.out 2
                 have hfz62_3 := fz BK186.out 3
                 have p200 : 0 ≤ (x10_3 : Int) := of_decide_eq_true TA
                 have q200 : x10_3 < (l0_3.length : Int) := of_decide_eq_true TA
                 obtain ⟨ad200, e200, hx200_0, hx200_1, hx200_2⟩ := at_T69 HR0_3.out x10_3 p200 q200
                 obtain rfl : ad199 = ad200 := (by injection e200)
                 replace hx200_0 := hx HB.out hx200_0
                 replace hx200_1 := hx HB.out hx200_1
                 replace hx200_2 := hx HB.out hx200_2
                 replace p200 := eq_true p200
                 replace q200 := eq_true q200
                 try go_wp2
                 have n0_ := Aside0.mk (Kd.V_drew HO_5.out)
                 have n1_ := Aside0.mk (blk_drew BK186.out)
                 have n2_ := Aside0.mk (blk_drew BK187.out)
                 have n3_ := Aside0.mk (below_drew1 HB.out)
                 clear HO_5
                 clear BK186
                 clear BK187
                 clear HB
                 have HO_5 := n0_
                 have BK186 := n1_
                 have BK187 := n2_
                 have HB := n3_
                 clear n0_ n1_ n2_ n3_
                 have p201 : 0 ≤ (x10_3 : Int) := of_decide_eq_true TA
                 have q201 : x10_3 < (l0_3.length : Int) := of_decide_eq_true TA
                 obtain ⟨ad201, e201, hx201_0, hx201_1, hx201_2⟩ := at_T69 HR0_3.out x10_3 p201 q201
                 have hw201_2 := hx201_2
                 have hw201_1 := hx201_1
                 have hw201_0 := hx201_0
                 obtain rfl : ad199 = ad201 := (by injection e201)
                 replace hx201_0 := hx HB.out hx201_0
                 replace hx201_1 := hx HB.out hx201_1
                 replace hx201_2 := hx HB.out hx201_2
                 replace p201 := eq_true p201
                 replace q201 := eq_true q201
                 refine start_ (n := 16) (S := fun w' => w'.cell? ⟨gb186, 0, none⟩ = some (.slice A0_0 l0_0.length c0_0) ∧ w'.cell? ⟨gb186, 1, none⟩ = some (.int .i64 a0_1) ∧ w'.cell? ⟨gb186, 2, none⟩ = some (.int .i64 a0_2) ∧ w'.cell? ⟨gb186, 3, none⟩ = some (.slice (some ad199) l0_3.length c0_3) ∧ w'.cell? (ad199.add ((x10_3).toNat * 3)) = some (.int .i64 ((rd_T69 l0_3 x10_3).f0.f0)) ∧ w'.cell? ⟨(ad199.add ((x10_3).toNat * 3)).block, (ad199.add ((x10_3).toNat * 3)).off + 1, none⟩ = some (.int .i64 ((rd_T69 l0_3 x10_3).f0.f1)) ∧ w'.cell? ⟨(ad199.add ((x10_3).toNat * 3)).block, (ad199.add ((x10_3).toNat * 3)).off + 2, none⟩ = some (.int .i64 ((rd_T69 l0_3 x10_3).f1))) (ds := []) (.replicate 16 false) (by kernel_rfl) rfl rfl ⟨czz BK186.out 0, czz BK186.out 1, czz BK186.out 2, czz BK186.out 3, (hx HB.out hw201_0), (hx HB.out hw201_1), (hx HB.out hw201_2)⟩ (fun hHeld => ?_); refine with_tabW saronlaw03_RaspEnough.tab16 saronlaw03_RaspEnough.bits16 (fun HT_ HW_ => ?_)
                 generalize wr.drew = w63 at HO_5 BK186 BK187 HB hx201_0 hx201_1 hx201_2 hHeld ⊢
                 refine pT 1 112 (bt 16 2) (k := ?_)
                 refine pT 2 113 (bt 16 6) (k := ?_)
                 refine pT 4 115 (bt 16 22) (k := ?_)
                 refine tT7 0 111 (bt 16 23) hHeld (k := ?_)
                 refine tT7 3 114 (bt 16 31) hHeld (k := ?_)
                 refine pT 5 116 (bt 16 63) (k := ?_)
                 refine pT 6 117 (bt 16 127) (k := ?_)
                 refine tT7 7 118 (bt 16 255) hHeld (k := ?_)
                 refine one_ (i := 8) (N := some 119) (bt 16 511) rfl rfl (one_of HT_.out (by kernel_rfl)) (by decide) (fun K hK => ?_)
                 refine goes_ Tryd.func16 (by kernel_rfl) rfl #[.agg #[.slice A0_0 l0_0.length c0_0, .int .i64 a0_1, .int .i64 a0_2, .slice (some ad199) l0_3.length c0_3], .int .i64 x15_4, .int .i64 ((rd_T69 l0_3 x10_3).f1)] (by rfl) rfl rfl TM ?_
                 with_reducible refine (rasp_Next.calls _ _ l0_0 a0_1 a0_2 _ _ l0_3 x15_4 ((rd_T69 l0_3 x10_3).f1) t202 t203 t204 _ ?side1 ?side2 ?side3 ?side4 ?side5 A58.out).mono ?_
                 (case side1 => exact TC HR0_0.out)
                 (case side2 => exact HC0_0.out)
                 (case side3 => exact TC HR0_3.out)
                 (case side4 => exact HC0_3.out)
                 (case side5 => exact Glob.fr HG.out (Fr.of_below (TB2 GE186.out GE187.out)))
                 rintro e w64 ⟨rfl, hb⟩
                 refine ⟨_, rfl, ?_⟩
                 have n0_ := Aside0.mk (Kd.V_below (by (with_reducible repeat (first | apply Kd.V_alloc | apply Kd.V_drewN | apply Kd.V_drew)); exact HO_5.out) hb)
                 have n1_ := Aside0.mk (blk_below (g := gb186) (o := .cells #[.slice A0_0 l0_0.length c0_0, .int .i64 a0_1, .int .i64 a0_2, .slice (some ad199) l0_3.length c0_3] 27 (0, 0)) (by (with_reducible repeat (first | refine blk_drewN ?_ _ | refine blk_drew ?_ | refine blk_alloc ?_ _)); exact BK186.out) hb)
                 have n2_ := Aside0.mk (blk_below (g := gb187) (o := .cells #[.int .i64 a1_0, .int .i64 a1_1] 28 (0, 0)) (by (with_reducible repeat (first | refine blk_drewN ?_ _ | refine blk_drew ?_ | refine blk_alloc ?_ _)); exact BK187.out) hb)
                 have n3_ := Aside0.mk (below_step (TB2 GE186.out GE187.out) hb)
                 clear HO_5
                 clear BK186
                 clear BK187
                 clear HB
                 have HO_5 := n0_
                 have BK186 := n1_
                 have BK187 := n2_
                 have HB := n3_
                 clear n0_ n1_ n2_ n3_
                 (try clear hb)
                 (try clear hb2)
                 (try clear hk)
                 (try clear hi)
                 refine hK.out _ _ ⟨czz BK186.out 0, czz BK186.out 1, czz BK186.out 2, czz BK186.out 3, (hx HB.out hw201_0), (hx HB.out hw201_1), (hx HB.out hw201_2)⟩ (fun hHeld => ?_)
                 clear hK K
                 refine norm_ (a' := ?_) ?_ ?_
                 rotate_left
                 ·show Act.put _ (some 119) _ = _
                  simp only [Act.put, lA, lZ, lS, i64_w, i32_w]
                  rfl
                 refine pT 9 110 (bt 16 1023) (k := ?_)
                 refine pT 10 120 (bt 16 2047) (k := ?_)
                 refine pT 11 121 (bt 16 4095) (k := ?_)
                 refine pT 12 122 (bt 16 8191) (k := ?_)
                 refine pT 13 16 (bt 16 16383) (k := ?_)
                 refine pT 14 17 (bt 16 32767) (k := ?_)
                 refine pT 15 18 (bt 16 65535) (k := ?_)
                 refine done_ (done_of HT_.out (by kernel_rfl)) ?_
                 try go_wp2
                 go_roundg k4
                 case measure => have := HJ3.out; have := HJ21.out; have := HK3.out; have := HK4.out; omega
                 case rel => exact ⟨(ji59), (true), (wrap64 (x15_4 + 1)), (by first | rfl | (simp; done) | (simp only [← hji59] <;> (first | rfl | simp)) | (simp [*]; done)), TT, TT, H', ⟨by have := HJ3.out; have := HJ21.out; have := HK3.out; have := HK4.out; omega⟩, ⟨by (with_reducible repeat (first | apply Kd.V_alloc | apply Kd.V_drewN | apply Kd.V_drew)); exact HO_5.out⟩, ⟨by (with_reducible repeat (first | refine blk_drewN ?_ _ | refine blk_drew ?_ | refine blk_alloc ?_ _)); exact BK186.out⟩, ⟨by (with_reducible repeat (first | refine blk_drewN ?_ _ | refine blk_drew ?_ | refine blk_alloc ?_ _)); exact BK187.out⟩, ⟨TB2 GE186.out GE187.out⟩⟩
                ·replace c60 := Bool.eq_false_iff.mpr c60
                 subst c60
                 have H1 : (saronlaw03_RaspEnough.l1 k4 t188 t194 t195 x9_3 x10_3 t197 t198 ji59 (t204 != 0) (wrap64 (x15_4 + 1)) l0_0 a0_1 a0_2 l0_3 a1_0 a1_1) = some r := by rw [if_neg (show ¬ (false = true) by decide)] at H; exact H
                 clear H
                 have H := H1
                 clear H1
                 have H' := Aside0.mk H
                 clear H
                 have hnb65 := NB186_187.out
                 have hnc65 := NB187_186.out
                 have hcz66_0 := czz BK186.out 0
                 have hcz66_1 := czz BK186.out 1
                 have hcz66_2 := czz BK186.out 2
                 have hcz66_3 := czz BK186.out 3
                 have hfz66_0 := fz BK186.out 0
                 have hfz66_1 := fz BK186.out 1
                 have hfz66_2 := fz BK186.out 2
                 have hfz66_3 := fz BK186.out 3
                 have p200 : 0 ≤ (x10_3 : Int) := of_decide_eq_true TA
                 have q200 : x10_3 < (l0_3.length : Int) := of_decide_eq_true TA
                 obtain ⟨ad200, e200, hx200_0, hx200_1, hx200_2⟩ := at_T69 HR0_3.out x10_3 p200 q200
                 obtain rfl : ad199 = ad200 := (by injection e200)
                 replace hx200_0 := hx HB.out hx200_0
                 replace hx200_1 := hx HB.out hx200_1
                 replace hx200_2 := hx HB.out hx200_2
                 replace p200 := eq_true p200
                 replace q200 := eq_true q200
                 try go_wp2
                 have n0_ := Aside0.mk (Kd.V_drew HO_5.out)
                 have n1_ := Aside0.mk (blk_drew BK186.out)
                 have n2_ := Aside0.mk (blk_drew BK187.out)
                 have n3_ := Aside0.mk (below_drew1 HB.out)
                 clear HO_5
                 clear BK186
                 clear BK187
                 clear HB
                 have HO_5 := n0_
                 have BK186 := n1_
                 have BK187 := n2_
                 have HB := n3_
                 clear n0_ n1_ n2_ n3_
                 have p201 : 0 ≤ (x10_3 : Int) := of_decide_eq_true TA
                 have q201 : x10_3 < (l0_3.length : Int) := of_decide_eq_true TA
                 obtain ⟨ad201, e201, hx201_0, hx201_1, hx201_2⟩ := at_T69 HR0_3.out x10_3 p201 q201
                 have hw201_2 := hx201_2
                 have hw201_1 := hx201_1
                 have hw201_0 := hx201_0
                 obtain rfl : ad199 = ad201 := (by injection e201)
                 replace hx201_0 := hx HB.out hx201_0
                 replace hx201_1 := hx HB.out hx201_1
                 replace hx201_2 := hx HB.out hx201_2
                 replace p201 := eq_true p201
                 replace q201 := eq_true q201
                 refine start_ (n := 16) (S := fun w' => w'.cell? ⟨gb186, 0, none⟩ = some (.slice A0_0 l0_0.length c0_0) ∧ w'.cell? ⟨gb186, 1, none⟩ = some (.int .i64 a0_1) ∧ w'.cell? ⟨gb186, 2, none⟩ = some (.int .i64 a0_2) ∧ w'.cell? ⟨gb186, 3, none⟩ = some (.slice (some ad199) l0_3.length c0_3) ∧ w'.cell? (ad199.add ((x10_3).toNat * 3)) = some (.int .i64 ((rd_T69 l0_3 x10_3).f0.f0)) ∧ w'.cell? ⟨(ad199.add ((x10_3).toNat * 3)).block, (ad199.add ((x10_3).toNat * 3)).off + 1, none⟩ = some (.int .i64 ((rd_T69 l0_3 x10_3).f0.f1)) ∧ w'.cell? ⟨(ad199.add ((x10_3).toNat * 3)).block, (ad199.add ((x10_3).toNat * 3)).off + 2, none⟩ = some (.int .i64 ((rd_T69 l0_3 x10_3).f1))) (ds := []) (.replicate 16 false) (by kernel_rfl) rfl rfl ⟨czz BK186.out 0, czz BK186.out 1, czz BK186.out 2, czz BK186.out 3, (hx HB.out hw201_0), (hx HB.out hw201_1), (hx HB.out hw201_2)⟩ (fun hHeld => ?_); refine with_tabW saronlaw03_RaspEnough.tab16 saronlaw03_RaspEnough.bits16 (fun HT_ HW_ => ?_)
                 generalize wr.drew = w67 at HO_5 BK186 BK187 HB hx201_0 hx201_1 hx201_2 hHeld ⊢
                 refine pT 1 112 (bt 16 2) (k := ?_)
                 refine pT 2 113 (bt 16 6) (k := ?_)
                 refine pT 4 115 (bt 16 22) (k := ?_)
                 refine tT7 0 111 (bt 16 23) hHeld (k := ?_)
                 refine tT7 3 114 (bt 16 31) hHeld (k := ?_)
                 refine pT 5 116 (bt 16 63) (k := ?_)
                 refine pT 6 117 (bt 16 127) (k := ?_)
                 refine tT7 7 118 (bt 16 255) hHeld (k := ?_)
                 refine one_ (i := 8) (N := some 119) (bt 16 511) rfl rfl (one_of HT_.out (by kernel_rfl)) (by decide) (fun K hK => ?_)
                 refine goes_ Tryd.func16 (by kernel_rfl) rfl #[.agg #[.slice A0_0 l0_0.length c0_0, .int .i64 a0_1, .int .i64 a0_2, .slice (some ad199) l0_3.length c0_3], .int .i64 x15_4, .int .i64 ((rd_T69 l0_3 x10_3).f1)] (by rfl) rfl rfl TM ?_
                 with_reducible refine (rasp_Next.calls _ _ l0_0 a0_1 a0_2 _ _ l0_3 x15_4 ((rd_T69 l0_3 x10_3).f1) t202 t203 t204 _ ?side1 ?side2 ?side3 ?side4 ?side5 A58.out).mono ?_
                 (case side1 => exact TC HR0_0.out)
                 (case side2 => exact HC0_0.out)
                 (case side3 => exact TC HR0_3.out)
                 (case side4 => exact HC0_3.out)
                 (case side5 => exact Glob.fr HG.out (Fr.of_below (TB2 GE186.out GE187.out)))
                 rintro e w68 ⟨rfl, hb⟩
                 refine ⟨_, rfl, ?_⟩
                 have n0_ := Aside0.mk (Kd.V_below (by (with_reducible repeat (first | apply Kd.V_alloc | apply Kd.V_drewN | apply Kd.V_drew)); exact HO_5.out) hb)
                 have n1_ := Aside0.mk (blk_below (g := gb186) (o := .cells #[.slice A0_0 l0_0.length c0_0, .int .i64 a0_1, .int .i64 a0_2, .slice (some ad199) l0_3.length c0_3] 27 (0, 0)) (by (with_reducible repeat (first | refine blk_drewN ?_ _ | refine blk_drew ?_ | refine blk_alloc ?_ _)); exact BK186.out) hb)
                 have n2_ := Aside0.mk (blk_below (g := gb187) (o := .cells #[.int .i64 a1_0, .int .i64 a1_1] 28 (0, 0)) (by (with_reducible repeat (first | refine blk_drewN ?_ _ | refine blk_drew ?_ | refine blk_alloc ?_ _)); exact BK187.out) hb)
                 have n3_ := Aside0.mk (below_step (TB2 GE186.out GE187.out) hb)
                 clear HO_5
                 clear BK186
                 clear BK187
                 clear HB
                 have HO_5 := n0_
                 have BK186 := n1_
                 have BK187 := n2_
                 have HB := n3_
                 clear n0_ n1_ n2_ n3_
                 (try clear hb)
                 (try clear hb2)
                 (try clear hk)
                 (try clear hi)
                 refine hK.out _ _ ⟨czz BK186.out 0, czz BK186.out 1, czz BK186.out 2, czz BK186.out 3, (hx HB.out hw201_0), (hx HB.out hw201_1), (hx HB.out hw201_2)⟩ (fun hHeld => ?_)
                 clear hK K
                 refine norm_ (a' := ?_) ?_ ?_
                 rotate_left
                 ·show Act.put _ (some 119) _ = _
                  simp only [Act.put, lA, lZ, lS, i64_w, i32_w]
                  rfl
                 refine pT 9 110 (bt 16 1023) (k := ?_)
                 refine pT 10 120 (bt 16 2047) (k := ?_)
                 refine pT 11 121 (bt 16 4095) (k := ?_)
                 refine pT 12 122 (bt 16 8191) (k := ?_)
                 refine pT 13 16 (bt 16 16383) (k := ?_)
                 refine pT 14 17 (bt 16 32767) (k := ?_)
                 refine pT 15 18 (bt 16 65535) (k := ?_)
                 refine done_ (done_of HT_.out (by kernel_rfl)) ?_
                 try go_wp2
                 go_roundg k4
                 case measure => have := HJ3.out; have := HJ21.out; have := HK3.out; have := HK4.out; omega
                 case rel => exact ⟨(ji59), ((t204 != 0)), (wrap64 (x15_4 + 1)), (by first | rfl | (simp; done) | (simp only [← hji59] <;> (first | rfl | simp)) | (simp [*]; done)), TT, TT, H', ⟨by have := HJ3.out; have := HJ21.out; have := HK3.out; have := HK4.out; omega⟩, ⟨by (with_reducible repeat (first | apply Kd.V_alloc | apply Kd.V_drewN | apply Kd.V_drew)); exact HO_5.out⟩, ⟨by (with_reducible repeat (first | refine blk_drewN ?_ _ | refine blk_drew ?_ | refine blk_alloc ?_ _)); exact BK186.out⟩, ⟨by (with_reducible repeat (first | refine blk_drewN ?_ _ | refine blk_drew ?_ | refine blk_alloc ?_ _)); exact BK187.out⟩, ⟨TB2 GE186.out GE187.out⟩⟩
               ·rw [if_neg c57] at H
                have c57b0 : decide (x15_4 ≤ ((rd_T69 l0_3 x10_3).f0.f1)) = false := decide_eq_false c57
                clear c57
                have HC69 := Aside0.mk H
                clear H
                have hnb70 := NB186_187.out
                have hnc70 := NB187_186.out
                have hcz71_0 := czz BK186.out 0
                have hcz71_1 := czz BK186.out 1
                have hcz71_2 := czz BK186.out 2
                have hcz71_3 := czz BK186.out 3
                have hfz71_0 := fz BK186.out 0
                have hfz71_1 := fz BK186.out 1
                have hfz71_2 := fz BK186.out 2
                have hfz71_3 := fz BK186.out 3
                have p200 : 0 ≤ (x10_3 : Int) := of_decide_eq_true TA
                have q200 : x10_3 < (l0_3.length : Int) := of_decide_eq_true TA
                obtain ⟨ad200, e200, hx200_0, hx200_1, hx200_2⟩ := at_T69 HR0_3.out x10_3 p200 q200
                obtain rfl : ad199 = ad200 := (by injection e200)
                replace hx200_0 := hx HB.out hx200_0
                replace hx200_1 := hx HB.out hx200_1
                replace hx200_2 := hx HB.out hx200_2
                replace p200 := eq_true p200
                replace q200 := eq_true q200
                go_upto_region 18 with (fail)
                go_cut [155] (fun v155 wc => ∃ (kq : Nat) (x155_68 : Bool), v155 = .bool x155_68 ∧ Aside0 (saronlaw03_RaspEnough.j4 kq t188 t194 t195 x9_3 x10_3 t197 x155_68 l0_0 a0_1 a0_2 l0_3 a1_0 a1_1 = some r) ∧ Aside0 (kq ≤ k4) ∧ Aside0 (Kd.V (Kd.int .i64) 3 wc w.heap.size (fun k_ => k_ ≠ gb186 ∧ k_ ≠ gb187) v189 t188) ∧ Aside0 (wc.heap[gb186]? = some (.cells #[(.slice A0_0 l0_0.length c0_0), .int .i64 a0_1, .int .i64 a0_2, (.slice (some ad199) l0_3.length c0_3)] 27 (0, 0))) ∧ Aside0 (wc.heap[gb187]? = some (.cells #[.int .i64 a1_0, .int .i64 a1_1] 28 (0, 0))) ∧ Aside0 (Below w.heap.size w wc))
                case first => as_aux_lemma =>
                 have H := HC69.out
                 clear HC69
                 replace H := Option.bind_eq_some_iff.mp H
                 obtain ⟨t205, A720, H⟩ := H
                 replace H : (if (x14_4 != (decide (t205 ≥ 0))) = true then (saronlaw03_RaspEnough.j4 k4 t188 t194 t195 x9_3 x10_3 t197 true l0_0 a0_1 a0_2 l0_3 a1_0 a1_1) else (if (x14_4 != (t198 == 4)) = true then (saronlaw03_RaspEnough.j4 k4 t188 t194 t195 x9_3 x10_3 t197 true l0_0 a0_1 a0_2 l0_3 a1_0 a1_1) else (if x14_4 = true then (saronlaw03_RaspEnough.j4 k4 t188 t194 t195 x9_3 x10_3 t197 false l0_0 a0_1 a0_2 l0_3 a1_0 a1_1) else (if t198 = 0 then (saronlaw03_RaspEnough.j4 k4 t188 t194 t195 x9_3 x10_3 t197 (t197 != x13_4) l0_0 a0_1 a0_2 l0_3 a1_0 a1_1) else (saronlaw03_RaspEnough.j4 k4 t188 t194 t195 x9_3 x10_3 t197 true l0_0 a0_1 a0_2 l0_3 a1_0 a1_1))))) = some r := H
                 have A72 := Aside0.mk A720
                 clear A720
                 by_cases c73 : (x14_4 != (decide (t205 ≥ 0))) = true
                 ·rw [if_pos c73] at H
                  have c73b0 : (x14_4 != (decide (t205 ≥ 0))) = true := c73
                  (try (have c73b1 : decide (x14_4 = (decide (t205 ≥ 0))) = false := by simpa using c73))
                  (try (have c73b2 : (x14_4 == (decide (t205 ≥ 0))) = false := by simpa using c73))
                  (try (have c73b3 : ¬ (x14_4 = (decide (t205 ≥ 0))) := by simpa using c73))
                  clear c73
                  (first | rw [c73b0] | (simp only [i64_w, i32_w]; rw [c73b0]) | skip)
                  have H' := Aside0.mk H
                  clear H
                  obtain ⟨Ao74, co74, eo74⟩ := Kd.V_slice HO_5.out
                  subst eo74
                  go_wp2_with (first | ((with_reducible refine gate_callee (f := 47) rfl ?_); refine goesL_ (some 134) rfl rfl Tryd.func47 (by kernel_rfl) rfl #[.slice Ao74 t188.length co74, .int .i64 x10_3] rfl TM ?_; (with_reducible refine (saronref00_Where.calls k4 _ _ t188 x10_3 t205 _ ?side1 ?side2 A72.out).mono ?_); (case side1 => repeat (first | exact (Kd.V_reads' HO_5.out).2.2 | (with_reducible refine Kd.C_alloc ?_ _) | (with_reducible refine Kd.C_drewN ?_ _) | (with_reducible refine Kd.C_drew ?_))); (case side2 => exact (Kd.V_reads' HO_5.out).2.1); rintro e w' ⟨rfl, ⟨nd, rfl⟩⟩; refine ⟨_, rfl, ?_⟩))
                  go_meet
                  case rel => exact ⟨_, (true), TT, H', ⟨by have := HJ3.out; have := HJ21.out; have := HK3.out; have := HK4.out; first | omega | exact Nat.le_refl _⟩, ⟨by (with_reducible repeat (first | apply Kd.V_alloc | apply Kd.V_drewN | apply Kd.V_drew)); exact HO_5.out⟩, ⟨by (with_reducible repeat (first | refine blk_drewN ?_ _ | refine blk_drew ?_ | refine blk_alloc ?_ _)); exact BK186.out⟩, ⟨by (with_reducible repeat (first | refine blk_drewN ?_ _ | refine blk_drew ?_ | refine blk_alloc ?_ _)); exact BK187.out⟩, ⟨TB2 GE186.out GE187.out⟩⟩
                 ·rw [if_neg c73] at H
                  have c73b0 : (x14_4 != (decide (t205 ≥ 0))) = false := by simpa using c73
                  (try (have c73b1 : decide (x14_4 = (decide (t205 ≥ 0))) = true := by simpa using c73))
                  (try (have c73b2 : (x14_4 == (decide (t205 ≥ 0))) = true := by simpa using c73))
                  clear c73
                  (first | rw [c73b0] | (simp only [i64_w, i32_w]; rw [c73b0]) | skip)
                  by_cases c75 : (x14_4 != (t198 == 4)) = true
                  ·rw [if_pos c75] at H
                   have c75b0 : (x14_4 != (t198 == 4)) = true := c75
                   (try (have c75b1 : decide (x14_4 = (t198 == 4)) = false := by simpa using c75))
                   (try (have c75b2 : (x14_4 == (t198 == 4)) = false := by simpa using c75))
                   (try (have c75b3 : ¬ (x14_4 = (t198 == 4)) := by simpa using c75))
                   clear c75
                   have H' := Aside0.mk H
                   clear H
                   obtain ⟨Ao76, co76, eo76⟩ := Kd.V_slice HO_5.out
                   subst eo76
                   go_wp2_with (first | ((with_reducible refine gate_callee (f := 47) rfl ?_); refine goesL_ (some 134) rfl rfl Tryd.func47 (by kernel_rfl) rfl #[.slice Ao76 t188.length co76, .int .i64 x10_3] rfl TM ?_; (with_reducible refine (saronref00_Where.calls k4 _ _ t188 x10_3 t205 _ ?side1 ?side2 A72.out).mono ?_); (case side1 => repeat (first | exact (Kd.V_reads' HO_5.out).2.2 | (with_reducible refine Kd.C_alloc ?_ _) | (with_reducible refine Kd.C_drewN ?_ _) | (with_reducible refine Kd.C_drew ?_))); (case side2 => exact (Kd.V_reads' HO_5.out).2.1); rintro e w' ⟨rfl, ⟨nd, rfl⟩⟩; refine ⟨_, rfl, ?_⟩))
                   go_meet
                   case rel => exact ⟨_, (true), TT, H', ⟨by have := HJ3.out; have := HJ21.out; have := HK3.out; have := HK4.out; first | omega | exact Nat.le_refl _⟩, ⟨by (with_reducible repeat (first | apply Kd.V_alloc | apply Kd.V_drewN | apply Kd.V_drew)); exact HO_5.out⟩, ⟨by (with_reducible repeat (first | refine blk_drewN ?_ _ | refine blk_drew ?_ | refine blk_alloc ?_ _)); exact BK186.out⟩, ⟨by (with_reducible repeat (first | refine blk_drewN ?_ _ | refine blk_drew ?_ | refine blk_alloc ?_ _)); exact BK187.out⟩, ⟨TB2 GE186.out GE187.out⟩⟩
                  ·rw [if_neg c75] at H
                   have c75b0 : (x14_4 != (t198 == 4)) = false := by simpa using c75
                   (try (have c75b1 : decide (x14_4 = (t198 == 4)) = true := by simpa using c75))
                   (try (have c75b2 : (x14_4 == (t198 == 4)) = true := by simpa using c75))
                   clear c75
                   by_cases c77 : x14_4 = true
                   ·subst c77
                    have H1 : (saronlaw03_RaspEnough.j4 k4 t188 t194 t195 x9_3 x10_3 t197 false l0_0 a0_1 a0_2 l0_3 a1_0 a1_1) = some r := by rw [if_pos rfl] at H; exact H
                    clear H
                    have H := H1
                    clear H1
                    have H' := Aside0.mk H
                    clear H
                    obtain ⟨Ao78, co78, eo78⟩ := Kd.V_slice HO_5.out
                    subst eo78
                    go_wp2_with (first | ((with_reducible refine gate_callee (f := 47) rfl ?_); refine goesL_ (some 134) rfl rfl Tryd.func47 (by kernel_rfl) rfl #[.slice Ao78 t188.length co78, .int .i64 x10_3] rfl TM ?_; (with_reducible refine (saronref00_Where.calls k4 _ _ t188 x10_3 t205 _ ?side1 ?side2 A72.out).mono ?_); (case side1 => repeat (first | exact (Kd.V_reads' HO_5.out).2.2 | (with_reducible refine Kd.C_alloc ?_ _) | (with_reducible refine Kd.C_drewN ?_ _) | (with_reducible refine Kd.C_drew ?_))); (case side2 => exact (Kd.V_reads' HO_5.out).2.1); rintro e w' ⟨rfl, ⟨nd, rfl⟩⟩; refine ⟨_, rfl, ?_⟩))
                    go_meet
                    case rel => exact ⟨_, (false), TT, H', ⟨by have := HJ3.out; have := HJ21.out; have := HK3.out; have := HK4.out; first | omega | exact Nat.le_refl _⟩, ⟨by (with_reducible repeat (first | apply Kd.V_alloc | apply Kd.V_drewN | apply Kd.V_drew)); exact HO_5.out⟩, ⟨by (with_reducible repeat (first | refine blk_drewN ?_ _ | refine blk_drew ?_ | refine blk_alloc ?_ _)); exact BK186.out⟩, ⟨by (with_reducible repeat (first | refine blk_drewN ?_ _ | refine blk_drew ?_ | refine blk_alloc ?_ _)); exact BK187.out⟩, ⟨TB2 GE186.out GE187.out⟩⟩
                   ·replace c77 := Bool.eq_false_iff.mpr c77
                    subst c77
                    have H1 : (if t198 = 0 then (saronlaw03_RaspEnough.j4 k4 t188 t194 t195 x9_3 x10_3 t197 (t197 != x13_4) l0_0 a0_1 a0_2 l0_3 a1_0 a1_1) else (saronlaw03_RaspEnough.j4 k4 t188 t194 t195 x9_3 x10_3 t197 true l0_0 a0_1 a0_2 l0_3 a1_0 a1_1)) = some r := by rw [if_neg (show ¬ (false = true) by decide)] at H; exact H
                    clear H
                    have H := H1
                    clear H1
                    by_cases c79 : t198 = 0
                    ·rw [if_pos c79] at H
                     have c79b0 : (t198 == 0) = true := beq_iff_eq.mpr c79
                     have c79b1 : (t198 != 0) = false := bne_eq_false_iff_eq.mpr c79
                     clear c79
                     have H' := Aside0.mk H
                     clear H
                     obtain ⟨Ao80, co80, eo80⟩ := Kd.V_slice HO_5.out
                     subst eo80
                     go_wp2_with (first | ((with_reducible refine gate_callee (f := 47) rfl ?_); refine goesL_ (some 134) rfl rfl Tryd.func47 (by kernel_rfl) rfl #[.slice Ao80 t188.length co80, .int .i64 x10_3] rfl TM ?_; (with_reducible refine (saronref00_Where.calls k4 _ _ t188 x10_3 t205 _ ?side1 ?side2 A72.out).mono ?_); (case side1 => repeat (first | exact (Kd.V_reads' HO_5.out).2.2 | (with_reducible refine Kd.C_alloc ?_ _) | (with_reducible refine Kd.C_drewN ?_ _) | (with_reducible refine Kd.C_drew ?_))); (case side2 => exact (Kd.V_reads' HO_5.out).2.1); rintro e w' ⟨rfl, ⟨nd, rfl⟩⟩; refine ⟨_, rfl, ?_⟩))
                     go_meet
                     case rel => exact ⟨_, ((t197 != x13_4)), TT, H', ⟨by have := HJ3.out; have := HJ21.out; have := HK3.out; have := HK4.out; first | omega | exact Nat.le_refl _⟩, ⟨by (with_reducible repeat (first | apply Kd.V_alloc | apply Kd.V_drewN | apply Kd.V_drew)); exact HO_5.out⟩, ⟨by (with_reducible repeat (first | refine blk_drewN ?_ _ | refine blk_drew ?_ | refine blk_alloc ?_ _)); exact BK186.out⟩, ⟨by (with_reducible repeat (first | refine blk_drewN ?_ _ | refine blk_drew ?_ | refine blk_alloc ?_ _)); exact BK187.out⟩, ⟨TB2 GE186.out GE187.out⟩⟩
                    ·rw [if_neg c79] at H
                     have c79b0 : (t198 == 0) = false := beq_eq_false_iff_ne.mpr c79
                     have c79b1 : (t198 != 0) = true := bne_iff_ne.mpr c79
                     have H' := Aside0.mk H
                     clear H
                     obtain ⟨Ao81, co81, eo81⟩ := Kd.V_slice HO_5.out
                     subst eo81
                     go_wp2_with (first | ((with_reducible refine gate_callee (f := 47) rfl ?_); refine goesL_ (some 134) rfl rfl Tryd.func47 (by kernel_rfl) rfl #[.slice Ao81 t188.length co81, .int .i64 x10_3] rfl TM ?_; (with_reducible refine (saronref00_Where.calls k4 _ _ t188 x10_3 t205 _ ?side1 ?side2 A72.out).mono ?_); (case side1 => repeat (first | exact (Kd.V_reads' HO_5.out).2.2 | (with_reducible refine Kd.C_alloc ?_ _) | (with_reducible refine Kd.C_drewN ?_ _) | (with_reducible refine Kd.C_drew ?_))); (case side2 => exact (Kd.V_reads' HO_5.out).2.1); rintro e w' ⟨rfl, ⟨nd, rfl⟩⟩; refine ⟨_, rfl, ?_⟩))
                     go_meet
                     case rel => exact ⟨_, (true), TT, H', ⟨by have := HJ3.out; have := HJ21.out; have := HK3.out; have := HK4.out; first | omega | exact Nat.le_refl _⟩, ⟨by (with_reducible repeat (first | apply Kd.V_alloc | apply Kd.V_drewN | apply Kd.V_drew)); exact HO_5.out⟩, ⟨by (with_reducible repeat (first | refine blk_drewN ?_ _ | refine blk_drew ?_ | refine blk_alloc ?_ _)); exact BK186.out⟩, ⟨by (with_reducible repeat (first | refine blk_drewN ?_ _ | refine blk_drew ?_ | refine blk_alloc ?_ _)); exact BK187.out⟩, ⟨TB2 GE186.out GE187.out⟩⟩
                case rest => as_aux_lemma =>
                 clear HC69
                 try clear c1
                 try clear p1
                 try clear q1
                 try clear hx1
                 try clear p2
                 try clear q2
                 try clear hx2
                 try clear c4
                 try clear c5
                 try clear c6
                 try clear p6
                 try clear c7
                 try clear c16
                 try clear p19
                 try clear q19
                 try clear hx19
                 try clear p20
                 try clear q20
                 try clear hx20
                 try clear c47
                 try clear c55
                 try clear c55b0
                 try clear c56
                 try clear c56b0
                 try clear c57
                 try clear c57b0
                 try clear c60
                 try clear c61
                 try clear p64
                 try clear c65
                 try clear c70
                 try clear c73
                 try clear c73b0
                 try clear c73b1
                 try clear c73b2
                 try clear c75
                 try clear c75b0
                 try clear c75b1
                 try clear c75b2
                 try clear c77
                 try clear c79
                 try clear c79b0
                 try clear c79b1
                 try clear hcz62_0 hcz62_1 hcz62_2 hcz62_3
                 try clear hcz66_0 hcz66_1 hcz66_2 hcz66_3
                 try clear hcz71_0 hcz71_1 hcz71_2 hcz71_3
                 try clear hfz39_3
                 try clear hfz42_0 hfz42_1 hfz42_2 hfz42_3
                 try clear hfz45_0 hfz45_1 hfz45_2 hfz45_3
                 try clear hfz52_0 hfz52_1 hfz52_2 hfz52_3
                 try clear hfz54_0 hfz54_1 hfz54_2 hfz54_3
                 try clear hfz62_0 hfz62_1 hfz62_2 hfz62_3
                 try clear hfz66_0 hfz66_1 hfz66_2 hfz66_3
                 try clear hfz71_0 hfz71_1 hfz71_2 hfz71_3
                 try clear hfz8_0 hfz8_1 hfz8_2 hfz8_3
                 try clear hx199_0
                 try clear hx199_1
                 try clear hx199_2
                 try clear hx200_0
                 try clear hx200_1
                 try clear hx200_2
                 try clear hx201_0
                 try clear hx201_1
                 try clear hx201_2
                 try clear p199
                 try clear p2
                 try clear p200
                 try clear p201
                 try clear q199
                 try clear q200
                 try clear q201
                 obtain ⟨kq, x155_68, rfl, HA, HJ68, HO_5, BK186, BK187, HB⟩ := hcut
                 cases kq with
                 | zero => exact absurd HA.out (by simp [saronlaw03_RaspEnough.j4])
                 | succ kj68 =>
                  have H := HA.out
                  clear HA
                  simp only [saronlaw03_RaspEnough.j4] at H
                  by_cases c82 : x155_68 = true
                  ·subst c82
                   have H1 : (some false) = some r := by rw [if_pos rfl] at H; exact H
                   clear H
                   have H := H1
                   clear H1
                   obtain rfl := Option.some.inj H
                   go_wp2
                   go_ret
                   exact ⟨TR, TB2 GE186.out GE187.out⟩
                  ·replace c82 := Bool.eq_false_iff.mpr c82
                   subst c82
                   have H1 : (saronlaw03_RaspEnough.l0 kj68 t188 t194 t195 (wrap64 (x9_3 + t197)) (wrap64 (x10_3 + 1)) l0_0 a0_1 a0_2 l0_3 a1_0 a1_1) = some r := by rw [if_neg (show ¬ (false = true) by decide)] at H; exact H
                   clear H
                   have H := H1
                   clear H1
                   have H' := Aside0.mk H
                   clear H
                   go_wp2
                   go_roundg kj68
                   case measure => have := HJ3.out; have := HJ21.out; have := HK3.out; have := HK4.out; have := HJ68.out; omega
                   case rel => exact ⟨(wrap64 (x9_3 + t197)), (wrap64 (x10_3 + 1)), TT, TT, H', ⟨by have := HJ3.out; have := HJ21.out; have := HK3.out; have := HK4.out; have := HJ68.out; omega⟩, ⟨by (with_reducible repeat (first | apply Kd.V_alloc | apply Kd.V_drewN | apply Kd.V_drew)); exact HO_5.out⟩, ⟨by (with_reducible repeat (first | refine blk_drewN ?_ _ | refine blk_drew ?_ | refine blk_alloc ?_ _)); exact BK186.out⟩, ⟨by (with_reducible repeat (first | refine blk_drewN ?_ _ | refine blk_drew ?_ | refine blk_alloc ?_ _)); exact BK187.out⟩, ⟨TB2 GE186.out GE187.out⟩⟩
              ·rw [if_neg c56] at H
               exact absurd H (by simp)
             ·rw [if_neg c55] at H
              exact absurd H (by simp)
          ·rw [if_neg c50] at H
           exact absurd H (by simp)
         ·rw [if_neg c48] at H
          have c48b0 : decide (x10_3 < (l0_3.length : Int)) = false := decide_eq_false c48
          clear c48
          replace H := Option.bind_eq_some_iff.mp H
          obtain ⟨⟨t206, t207⟩, A830, H⟩ := H
          replace H : ((rasp_Need.f l0_0 a0_1 a0_2 l0_3 t206).bind fun bt208 => ((rasp_Next.f l0_0 a0_1 a0_2 l0_3 t206 t207).bind fun bt210 => (if t195 = 0 then (if x9_3 = t194 then (if bt208.2 = 0 then ((saronref00_Sits.f bt208.1 0 30).bind fun t213 => (saronlaw03_RaspEnough.j5 k3 t207 bt208.1 bt208.2 bt210.2.2 (!t213))) else (if bt208.2 = 4 then (saronlaw03_RaspEnough.j5 k3 t207 bt208.1 bt208.2 bt210.2.2 false) else (saronlaw03_RaspEnough.j5 k3 t207 bt208.1 bt208.2 bt210.2.2 true))) else (saronlaw03_RaspEnough.j5 k3 t207 bt208.1 bt208.2 bt210.2.2 true)) else (if bt208.2 = 0 then ((saronref00_Sits.f bt208.1 0 30).bind fun t214 => (saronlaw03_RaspEnough.j5 k3 t207 bt208.1 bt208.2 bt210.2.2 (!t214))) else (if bt208.2 = 4 then (saronlaw03_RaspEnough.j5 k3 t207 bt208.1 bt208.2 bt210.2.2 false) else (saronlaw03_RaspEnough.j5 k3 t207 bt208.1 bt208.2 bt210.2.2 true)))))) = some r := H
          have A83 := Aside0.mk A830
          clear A830
          replace H := Option.bind_eq_some_iff.mp H
          obtain ⟨⟨t208, t209⟩, A840, H⟩ := H
          replace H : ((rasp_Next.f l0_0 a0_1 a0_2 l0_3 t206 t207).bind fun bt210 => (if t195 = 0 then (if x9_3 = t194 then (if t209 = 0 then ((saronref00_Sits.f t208 0 30).bind fun t213 => (saronlaw03_RaspEnough.j5 k3 t207 t208 t209 bt210.2.2 (!t213))) else (if t209 = 4 then (saronlaw03_RaspEnough.j5 k3 t207 t208 t209 bt210.2.2 false) else (saronlaw03_RaspEnough.j5 k3 t207 t208 t209 bt210.2.2 true))) else (saronlaw03_RaspEnough.j5 k3 t207 t208 t209 bt210.2.2 true)) else (if t209 = 0 then ((saronref00_Sits.f t208 0 30).bind fun t214 => (saronlaw03_RaspEnough.j5 k3 t207 t208 t209 bt210.2.2 (!t214))) else (if t209 = 4 then (saronlaw03_RaspEnough.j5 k3 t207 t208 t209 bt210.2.2 false) else (saronlaw03_RaspEnough.j5 k3 t207 t208 t209 bt210.2.2 true))))) = some r := H
          have A84 := Aside0.mk A840
          clear A840
          replace H := Option.bind_eq_some_iff.mp H
          obtain ⟨⟨t210, t211, t212⟩, A850, H⟩ := H
          replace H : (if t195 = 0 then (if x9_3 = t194 then (if t209 = 0 then ((saronref00_Sits.f t208 0 30).bind fun t213 => (saronlaw03_RaspEnough.j5 k3 t207 t208 t209 t212 (!t213))) else (if t209 = 4 then (saronlaw03_RaspEnough.j5 k3 t207 t208 t209 t212 false) else (saronlaw03_RaspEnough.j5 k3 t207 t208 t209 t212 true))) else (saronlaw03_RaspEnough.j5 k3 t207 t208 t209 t212 true)) else (if t209 = 0 then ((saronref00_Sits.f t208 0 30).bind fun t214 => (saronlaw03_RaspEnough.j5 k3 t207 t208 t209 t212 (!t214))) else (if t209 = 4 then (saronlaw03_RaspEnough.j5 k3 t207 t208 t209 t212 false) else (saronlaw03_RaspEnough.j5 k3 t207 t208 t209 t212 true)))) = some r := H
          have A85 := Aside0.mk A850
          clear A850
          have HC86 := Aside0.mk H
          clear H
          have hnb87 := NB186_187.out
          have hnc87 := NB187_186.out
          have hcz88_0 := czz BK186.out 0
          have hcz88_1 := czz BK186.out 1
          have hcz88_2 := czz BK186.out 2
          have hcz88_3 := czz BK186.out 3
          have hfz88_0 := fz BK186.out 0
          have hfz88_1 := fz BK186.out 1
          have hfz88_2 := fz BK186.out 2
          have hfz88_3 := fz BK186.out 3
          have hcz89_0 := czz BK187.out 0
          have hcz89_1 := czz BK187.out 1
          have hfz89_0 := fz BK187.out 0
          have hfz89_1 := fz BK187.out 1
          go_upto_region 24 with (first | ((with_reducible refine gate_callee (f := 38) rfl ?_); refine goesL_ (some 161) rfl rfl Tryd.func38 (by kernel_rfl) rfl #[.agg #[.int .i64 a1_0, .int .i64 a1_1]] rfl TM ?_; (with_reducible refine (saronlaw03_state.calls a1_0 a1_1 t206 t207 _ A83.out).mono ?_); rintro e w90 ⟨rfl, hb⟩; refine ⟨_, rfl, ?_⟩; replace HO_5 := Aside0.mk (Kd.V_below (by (with_reducible repeat (first | apply Kd.V_alloc | apply Kd.V_drewN | apply Kd.V_drew)); exact HO_5.out) hb); replace BK186 := Aside0.mk (blk_below (g := gb186) (o := .cells #[.slice A0_0 l0_0.length c0_0, .int .i64 a0_1, .int .i64 a0_2, .slice A0_3 l0_3.length c0_3] 27 (0, 0)) (by (with_reducible repeat (first | refine blk_drewN ?_ _ | refine blk_drew ?_ | refine blk_alloc ?_ _)); exact BK186.out) hb); replace BK187 := Aside0.mk (blk_below (g := gb187) (o := .cells #[.int .i64 a1_0, .int .i64 a1_1] 28 (0, 0)) (by (with_reducible repeat (first | refine blk_drewN ?_ _ | refine blk_drew ?_ | refine blk_alloc ?_ _)); exact BK187.out) hb); replace HB := Aside0.mk (below_step (TB2 GE186.out GE187.out) hb); (try clear hb); (try clear hb2); (try clear hk); (try clear hi); have hcz91_0 := czz BK186.out 0; have hcz91_1 := czz BK186.out 1; have hcz91_2 := czz BK186.out 2; have hcz91_3 := czz BK186.out 3; have hfz91_0 := fz BK186.out 0; have hfz91_1 := fz BK186.out 1; have hfz91_2 := fz BK186.out 2; have hfz91_3 := fz BK186.out 3) | ((with_reducible refine gate_callee (f := 30) rfl ?_); refine goesL_ (some 167) rfl rfl Tryd.func30 (by kernel_rfl) rfl #[.agg #[.slice A0_0 l0_0.length c0_0, .int .i64 a0_1, .int .i64 a0_2, .slice A0_3 l0_3.length c0_3], .int .i64 t206] rfl TM ?_; (with_reducible refine (rasp_Need.calls _ _ l0_0 a0_1 a0_2 _ _ l0_3 t206 t208 t209 _ ?side1 ?side2 ?side3 ?side4 ?side5 A84.out).mono ?_); (case side1 => exact TC HR0_0.out); (case side2 => exact HC0_0.out); (case side3 => exact TC HR0_3.out); (case side4 => exact HC0_3.out); (case side5 => exact Glob.fr HG.out (Fr.of_below (TB2 GE186.out GE187.out))); rintro e w92 ⟨rfl, hb⟩; refine ⟨_, rfl, ?_⟩; replace HO_5 := Aside0.mk (Kd.V_below (by (with_reducible repeat (first | apply Kd.V_alloc | apply Kd.V_drewN | apply Kd.V_drew)); exact HO_5.out) hb); replace BK186 := Aside0.mk (blk_below (g := gb186) (o := .cells #[.slice A0_0 l0_0.length c0_0, .int .i64 a0_1, .int .i64 a0_2, .slice A0_3 l0_3.length c0_3] 27 (0, 0)) (by (with_reducible repeat (first | refine blk_drewN ?_ _ | refine blk_drew ?_ | refine blk_alloc ?_ _)); exact BK186.out) hb); replace BK187 := Aside0.mk (blk_below (g := gb187) (o := .cells #[.int .i64 a1_0, .int .i64 a1_1] 28 (0, 0)) (by (with_reducible repeat (first | refine blk_drewN ?_ _ | refine blk_drew ?_ | refine blk_alloc ?_ _)); exact BK187.out) hb); replace HB := Aside0.mk (below_step (TB2 GE186.out GE187.out) hb); (try clear hb); (try clear hb2); (try clear hk); (try clear hi); have hcz93_0 := czz BK186.out 0; have hcz93_1 := czz BK186.out 1; have hcz93_2 := czz BK186.out 2; have hcz93_3 := czz BK186.out 3; have hfz93_0 := fz BK186.out 0; have hfz93_1 := fz BK186.out 1; have hfz93_2 := fz BK186.out 2; have hfz93_3 := fz BK186.out 3) | ((with_reducible refine gate_callee (f := 16) rfl ?_); refine goesL_ (some 174) rfl rfl Tryd.func16 (by kernel_rfl) rfl #[.agg #[.slice A0_0 l0_0.length c0_0, .int .i64 a0_1, .int .i64 a0_2, .slice A0_3 l0_3.length c0_3], .int .i64 t206, .int .i64 t207] rfl TM ?_; (with_reducible refine (rasp_Next.calls _ _ l0_0 a0_1 a0_2 _ _ l0_3 t206 t207 t210 t211 t212 _ ?side1 ?side2 ?side3 ?side4 ?side5 A85.out).mono ?_); (case side1 => exact TC HR0_0.out); (case side2 => exact HC0_0.out); (case side3 => exact TC HR0_3.out); (case side4 => exact HC0_3.out); (case side5 => exact Glob.fr HG.out (Fr.of_below (TB2 GE186.out GE187.out))); rintro e w94 ⟨rfl, hb⟩; refine ⟨_, rfl, ?_⟩; replace HO_5 := Aside0.mk (Kd.V_below (by (with_reducible repeat (first | apply Kd.V_alloc | apply Kd.V_drewN | apply Kd.V_drew)); exact HO_5.out) hb); replace BK186 := Aside0.mk (blk_below (g := gb186) (o := .cells #[.slice A0_0 l0_0.length c0_0, .int .i64 a0_1, .int .i64 a0_2, .slice A0_3 l0_3.length c0_3] 27 (0, 0)) (by (with_reducible repeat (first | refine blk_drewN ?_ _ | refine blk_drew ?_ | refine blk_alloc ?_ _)); exact BK186.out) hb); replace BK187 := Aside0.mk (blk_below (g := gb187) (o := .cells #[.int .i64 a1_0, .int .i64 a1_1] 28 (0, 0)) (by (with_reducible repeat (first | refine blk_drewN ?_ _ | refine blk_drew ?_ | refine blk_alloc ?_ _)); exact BK187.out) hb); replace HB := Aside0.mk (below_step (TB2 GE186.out GE187.out) hb); (try clear hb); (try clear hb2); (try clear hk); (try clear hi)))
          (try simp only [Act.put, lA, lZ, lS])
          go_cut [201] (fun v201 wc => ∃ (kq : Nat) (x201_85 : Bool), v201 = .bool x201_85 ∧ Aside0 (saronlaw03_RaspEnough.j5 kq t207 t208 t209 t212 x201_85 = some r) ∧ Aside0 (kq ≤ k3) ∧ Aside0 (wc.heap[gb186]? = some (.cells #[(.slice A0_0 l0_0.length c0_0), .int .i64 a0_1, .int .i64 a0_2, (.slice A0_3 l0_3.length c0_3)] 27 (0, 0))) ∧ Aside0 (wc.heap[gb187]? = some (.cells #[.int .i64 a1_0, .int .i64 a1_1] 28 (0, 0))) ∧ Aside0 (Below w.heap.size w wc))
          case first => as_aux_lemma =>
           have H := HC86.out
           clear HC86
           by_cases c95 : t195 = 0
           ·rw [if_pos c95] at H
            have c95b0 : (t195 == 0) = true := beq_iff_eq.mpr c95
            have c95b1 : (t195 != 0) = false := bne_eq_false_iff_eq.mpr c95
            clear c95
            (first | rw [c95b0] | (simp only [i64_w, i32_w]; rw [c95b0]) | skip)
            by_cases c96 : x9_3 = t194
            ·rw [if_pos c96] at H
             have c96b0 : (x9_3 == t194) = true := beq_iff_eq.mpr c96
             have c96b1 : (x9_3 != t194) = false := bne_eq_false_iff_eq.mpr c96
             clear c96
             by_cases c97 : t209 = 0
             ·rw [if_pos c97] at H
              have c97b0 : (t209 == 0) = true := beq_iff_eq.mpr c97
              have c97b1 : (t209 != 0) = false := bne_eq_false_iff_eq.mpr c97
              clear c97
              replace H := Option.bind_eq_some_iff.mp H
              obtain ⟨t213, A980, H⟩ := H
              replace H : (saronlaw03_RaspEnough.j5 k3 t207 t208 t209 t212 (!t213)) = some r := H
              have A98 := Aside0.mk A980
              clear A980
              have H' := Aside0.mk H
              clear H
              go_wp2_with (first | (go_at_call 39; (with_reducible refine (saronref00_Sits.calls t208 0 30 t213 _ A98.out).mono ?_); rintro e w' ⟨rfl, ⟨nd, rfl⟩⟩))
              go_meet
              case rel => exact ⟨_, (!t213), TT, H', ⟨by have := HJ3.out; have := HJ21.out; have := HK3.out; first | omega | exact Nat.le_refl _⟩, ⟨by (with_reducible repeat (first | refine blk_drewN ?_ _ | refine blk_drew ?_ | refine blk_alloc ?_ _)); exact BK186.out⟩, ⟨by (with_reducible repeat (first | refine blk_drewN ?_ _ | refine blk_drew ?_ | refine blk_alloc ?_ _)); exact BK187.out⟩, ⟨TB2 GE186.out GE187.out⟩⟩
             ·rw [if_neg c97] at H
              have c97b0 : (t209 == 0) = false := beq_eq_false_iff_ne.mpr c97
              have c97b1 : (t209 != 0) = true := bne_iff_ne.mpr c97
              by_cases c99 : t209 = 4
              ·rw [if_pos c99] at H
               have c99b0 : (t209 == 4) = true := beq_iff_eq.mpr c99
               have c99b1 : (t209 != 4) = false := bne_eq_false_iff_eq.mpr c99
               clear c99
               have H' := Aside0.mk H
               clear H
               go_wp2
               go_meet
               case rel => exact ⟨_, (false), TT, H', ⟨by have := HJ3.out; have := HJ21.out; have := HK3.out; first | omega | exact Nat.le_refl _⟩, ⟨by (with_reducible repeat (first | refine blk_drewN ?_ _ | refine blk_drew ?_ | refine blk_alloc ?_ _)); exact BK186.out⟩, ⟨by (with_reducible repeat (first | refine blk_drewN ?_ _ | refine blk_drew ?_ | refine blk_alloc ?_ _)); exact BK187.out⟩, ⟨TB2 GE186.out GE187.out⟩⟩
              ·rw [if_neg c99] at H
               have c99b0 : (t209 == 4) = false := beq_eq_false_iff_ne.mpr c99
               have c99b1 : (t209 != 4) = true := bne_iff_ne.mpr c99
               have H' := Aside0.mk H
               clear H
               go_wp2
               go_meet
               case rel => exact ⟨_, (true), TT, H', ⟨by have := HJ3.out; have := HJ21.out; have := HK3.out; first | omega | exact Nat.le_refl _⟩, ⟨by (with_reducible repeat (first | refine blk_drewN ?_ _ | refine blk_drew ?_ | refine blk_alloc ?_ _)); exact BK186.out⟩, ⟨by (with_reducible repeat (first | refine blk_drewN ?_ _ | refine blk_drew ?_ | refine blk_alloc ?_ _)); exact BK187.out⟩, ⟨TB2 GE186.out GE187.out⟩⟩
            ·rw [if_neg c96] at H
             have c96b0 : (x9_3 == t194) = false := beq_eq_false_iff_ne.mpr c96
             have c96b1 : (x9_3 != t194) = true := bne_iff_ne.mpr c96
             have H' := Aside0.mk H
             clear H
             go_wp2
             go_meet
             case rel => exact ⟨_, (true), TT, H', ⟨by have := HJ3.out; have := HJ21.out; have := HK3.out; first | omega | exact Nat.le_refl _⟩, ⟨by (with_reducible repeat (first | refine blk_drewN ?_ _ | refine blk_drew ?_ | refine blk_alloc ?_ _)); exact BK186.out⟩, ⟨by (with_reducible repeat (first | refine blk_drewN ?_ _ | refine blk_drew ?_ | refine blk_alloc ?_ _)); exact BK187.out⟩, ⟨TB2 GE186.out GE187.out⟩⟩
           ·rw [if_neg c95] at H
            have c95b0 : (t195 == 0) = false := beq_eq_false_iff_ne.mpr c95
            have c95b1 : (t195 != 0) = true := bne_iff_ne.mpr c95
            (first | rw [c95b0] | (simp only [i64_w, i32_w]; rw [c95b0]) | skip)
            by_cases c100 : t209 = 0
            ·rw [if_pos c100] at H
             have c100b0 : (t209 == 0) = true := beq_iff_eq.mpr c100
             have c100b1 : (t209 != 0) = false := bne_eq_false_iff_eq.mpr c100
             clear c100
             replace H := Option.bind_eq_some_iff.mp H
             obtain ⟨t214, A1010, H⟩ := H
             replace H : (saronlaw03_RaspEnough.j5 k3 t207 t208 t209 t212 (!t214)) = some r := H
             have A101 := Aside0.mk A1010
             clear A1010
             have H' := Aside0.mk H
             clear H
             go_wp2_with (first | (go_at_call 39; (with_reducible refine (saronref00_Sits.calls t208 0 30 t214 _ A101.out).mono ?_); rintro e w' ⟨rfl, ⟨nd, rfl⟩⟩))
             go_meet
             case rel => exact ⟨_, (!t214), TT, H', ⟨by have := HJ3.out; have := HJ21.out; have := HK3.out; first | omega | exact Nat.le_refl _⟩, ⟨by (with_reducible repeat (first | refine blk_drewN ?_ _ | refine blk_drew ?_ | refine blk_alloc ?_ _)); exact BK186.out⟩, ⟨by (with_reducible repeat (first | refine blk_drewN ?_ _ | refine blk_drew ?_ | refine blk_alloc ?_ _)); exact BK187.out⟩, ⟨TB2 GE186.out GE187.out⟩⟩
            ·rw [if_neg c100] at H
             have c100b0 : (t209 == 0) = false := beq_eq_false_iff_ne.mpr c100
             have c100b1 : (t209 != 0) = true := bne_iff_ne.mpr c100
             by_cases c102 : t209 = 4
             ·rw [if_pos c102] at H
              have c102b0 : (t209 == 4) = true := beq_iff_eq.mpr c102
              have c102b1 : (t209 != 4) = false := bne_eq_false_iff_eq.mpr c102
              clear c102
              have H' := Aside0.mk H
              clear H
              go_wp2
              go_meet
              case rel => exact ⟨_, (false), TT, H', ⟨by have := HJ3.out; have := HJ21.out; have := HK3.out; first | omega | exact Nat.le_refl _⟩, ⟨by (with_reducible repeat (first | refine blk_drewN ?_ _ | refine blk_drew ?_ | refine blk_alloc ?_ _)); exact BK186.out⟩, ⟨by (with_reducible repeat (first | refine blk_drewN ?_ _ | refine blk_drew ?_ | refine blk_alloc ?_ _)); exact BK187.out⟩, ⟨TB2 GE186.out GE187.out⟩⟩
             ·rw [if_neg c102] at H
              have c102b0 : (t209 == 4) = false := beq_eq_false_iff_ne.mpr c102
              have c102b1 : (t209 != 4) = true := bne_iff_ne.mpr c102
              have H' := Aside0.mk H
              clear H
              go_wp2
              go_meet
              case rel => exact ⟨_, (true), TT, H', ⟨by have := HJ3.out; have := HJ21.out; have := HK3.out; first | omega | exact Nat.le_refl _⟩, ⟨by (with_reducible repeat (first | refine blk_drewN ?_ _ | refine blk_drew ?_ | refine blk_alloc ?_ _)); exact BK186.out⟩, ⟨by (with_reducible repeat (first | refine blk_drewN ?_ _ | refine blk_drew ?_ | refine blk_alloc ?_ _)); exact BK187.out⟩, ⟨TB2 GE186.out GE187.out⟩⟩
          case rest => as_aux_lemma =>
           clear HC86
           try clear c1
           try clear p1
           try clear q1
           try clear hx1
           try clear p2
           try clear q2
           try clear hx2
           try clear c3
           try clear c4
           try clear c5
           try clear c6
           try clear p6
           try clear c7
           try clear c8
           try clear c9
           try clear c10
           try clear c16
           try clear p19
           try clear q19
           try clear hx19
           try clear p20
           try clear q20
           try clear hx20
           try clear c30
           try clear c38
           try clear c47
           try clear c48
           try clear c48b0
           try clear c50
           try clear c55
           try clear c55b0
           try clear c56
           try clear c56b0
           try clear c57
           try clear c57b0
           try clear c60
           try clear c61
           try clear p64
           try clear c65
           try clear c70
           try clear c73
           try clear c73b0
           try clear c73b1
           try clear c73b2
           try clear c75
           try clear c75b0
           try clear c75b1
           try clear c75b2
           try clear c77
           try clear c79
           try clear c79b0
           try clear c79b1
           try clear c82
           try clear c87
           try clear c95
           try clear c95b0
           try clear c95b1
           try clear c96
           try clear c96b0
           try clear c96b1
           try clear c97
           try clear c97b0
           try clear c97b1
           try clear c99
           try clear c99b0
           try clear c99b1
           try clear c100
           try clear c100b0
           try clear c100b1
           try clear c102
           try clear c102b0
           try clear c102b1
           try clear hcz62_0 hcz62_1 hcz62_2 hcz62_3
           try clear hcz66_0 hcz66_1 hcz66_2 hcz66_3
           try clear hcz71_0 hcz71_1 hcz71_2 hcz71_3
           try clear hcz88_0 hcz88_1 hcz88_2 hcz88_3
           try clear hcz89_0 hcz89_1
           try clear hcz91_0 hcz91_1 hcz91_2 hcz91_3
           try clear hcz93_0 hcz93_1 hcz93_2 hcz93_3
           try clear hfz39_3
           try clear hfz42_0 hfz42_1 hfz42_2 hfz42_3
           try clear hfz45_0 hfz45_1 hfz45_2 hfz45_3
           try clear hfz52_0 hfz52_1 hfz52_2 hfz52_3
           try clear hfz54_0 hfz54_1 hfz54_2 hfz54_3
           try clear hfz62_0 hfz62_1 hfz62_2 hfz62_3
           try clear hfz66_0 hfz66_1 hfz66_2 hfz66_3
           try clear hfz71_0 hfz71_1 hfz71_2 hfz71_3
           try clear hfz88_0 hfz88_1 hfz88_2 hfz88_3
           try clear hfz89_0 hfz89_1
           try clear hfz8_0 hfz8_1 hfz8_2 hfz8_3
           try clear hfz91_0 hfz91_1 hfz91_2 hfz91_3
           try clear hfz93_0 hfz93_1 hfz93_2 hfz93_3
           try clear hx199_0
           try clear hx199_1
           try clear hx199_2
           try clear hx200_0
           try clear hx200_1
           try clear hx200_2
           try clear hx201_0
           try clear hx201_1
           try clear hx201_2
           try clear p1
           try clear p19
           try clear p199
           try clear p2
           try clear p20
           try clear p200
           try clear p201
           try clear p6
           try clear p64
           try clear q1
           try clear q19
           try clear q199
           try clear q2
           try clear q20
           try clear q200
           try clear q201
           obtain ⟨kq, x201_85, rfl, HA, HJ85, BK186, BK187, HB⟩ := hcut
           cases kq with
           | zero => exact absurd HA.out (by simp [saronlaw03_RaspEnough.j5])
           | succ kj85 =>
            have H := HA.out
            clear HA
            simp only [saronlaw03_RaspEnough.j5] at H
            by_cases c103 : x201_85 = true
            ·subst c103
             have H1 : (some false) = some r := by rw [if_pos rfl] at H; exact H
             clear H
             have H := H1
             clear H1
             obtain rfl := Option.some.inj H
             go_wp2
             go_ret
             exact ⟨TR, TB2 GE186.out GE187.out⟩
            ·replace c103 := Bool.eq_false_iff.mpr c103
             subst c103
             have H1 : (if t209 = 0 then (if ((t212 == 0) == (decide (t207 ≥ t208))) = true then ((saronlaw03_filed.f).bind fun t215 => (some t215)) else (some false)) else (if ((t212 == 0) == false) = true then ((saronlaw03_filed.f).bind fun t216 => (some t216)) else (some false))) = some r := by rw [if_neg (show ¬ (false = true) by decide)] at H; exact H
             clear H
             have H := H1
             clear H1
             by_cases c104 : t209 = 0
             ·rw [if_pos c104] at H
              have c104b0 : (t209 == 0) = true := beq_iff_eq.mpr c104
              have c104b1 : (t209 != 0) = false := bne_eq_false_iff_eq.mpr c104
              clear c104
              by_cases c105 : ((t212 == 0) == (decide (t207 ≥ t208))) = true
              ·rw [if_pos c105] at H
               have c105b0 : ((t212 == 0) == (decide (t207 ≥ t208))) = true := c105
               (try (have c105b1 : decide ((t212 == 0) = (decide (t207 ≥ t208))) = true := by simpa using c105))
               (try (have c105b2 : ((t212 == 0) == (decide (t207 ≥ t208))) = true := by simpa using c105))
               clear c105
               replace H := Option.bind_eq_some_iff.mp H
               obtain ⟨t215, A1060, H⟩ := H
               replace H : (some t215) = some r := H
               have A106 := Aside0.mk A1060
               clear A1060
               obtain rfl := Option.some.inj H
               go_wp2_with (first | (go_at_call 22; (with_reducible refine (saronlaw03_filed.calls  t215 _ ?side1 A106.out).mono ?_); (case side1 => exact Glob.fr HG.out (Fr.of_below (TB2 GE186.out GE187.out))); rintro e w107 ⟨rfl, hb⟩; replace BK186 := Aside0.mk (blk_below (g := gb186) (o := .cells #[.slice A0_0 l0_0.length c0_0, .int .i64 a0_1, .int .i64 a0_2, .slice A0_3 l0_3.length c0_3] 27 (0, 0)) (by (with_reducible repeat (first | refine blk_drewN ?_ _ | refine blk_drew ?_ | refine blk_alloc ?_ _)); exact BK186.out) hb); replace BK187 := Aside0.mk (blk_below (g := gb187) (o := .cells #[.int .i64 a1_0, .int .i64 a1_1] 28 (0, 0)) (by (with_reducible repeat (first | refine blk_drewN ?_ _ | refine blk_drew ?_ | refine blk_alloc ?_ _)); exact BK187.out) hb); replace HB := Aside0.mk (below_step (TB2 GE186.out GE187.out) hb); (try clear hb); (try clear hb2); (try clear hk); (try clear hi)))
               go_ret
               exact ⟨TR, TB2 GE186.out GE187.out⟩
              ·rw [if_neg c105] at H
               have c105b0 : ((t212 == 0) == (decide (t207 ≥ t208))) = false := by simpa using c105
               (try (have c105b1 : decide ((t212 == 0) = (decide (t207 ≥ t208))) = false := by simpa using c105))
               (try (have c105b2 : ((t212 == 0) == (decide (t207 ≥ t208))) = false := by simpa using c105))
               (try (have c105b3 : ¬ ((t212 == 0) = (decide (t207 ≥ t208))) := by simpa using c105))
               clear c105
               obtain rfl := Option.some.inj H
               go_wp2
               go_ret
               exact ⟨TR, TB2 GE186.out GE187.out⟩
             ·rw [if_neg c104] at H
              have c104b0 : (t209 == 0) = false := beq_eq_false_iff_ne.mpr c104
              have c104b1 : (t209 != 0) = true := bne_iff_ne.mpr c104
              by_cases c108 : ((t212 == 0) == false) = true
              ·rw [if_pos c108] at H
               have c108b0 : ((t212 == 0) == false) = true := c108
               (try (have c108b1 : decide ((t212 == 0) = false) = true := by simpa using c108))
               (try (have c108b2 : ((t212 == 0) == false) = true := by simpa using c108))
               clear c108
               replace H := Option.bind_eq_some_iff.mp H
               obtain ⟨t216, A1090, H⟩ := H
               replace H : (some t216) = some r := H
               have A109 := Aside0.mk A1090
               clear A1090
               obtain rfl := Option.some.inj H
               go_wp2_with (first | (go_at_call 22; (with_reducible refine (saronlaw03_filed.calls  t216 _ ?side1 A109.out).mono ?_); (case side1 => exact Glob.fr HG.out (Fr.of_below (TB2 GE186.out GE187.out))); rintro e w110 ⟨rfl, hb⟩; replace BK186 := Aside0.mk (blk_below (g := gb186) (o := .cells #[.slice A0_0 l0_0.length c0_0, .int .i64 a0_1, .int .i64 a0_2, .slice A0_3 l0_3.length c0_3] 27 (0, 0)) (by (with_reducible repeat (first | refine blk_drewN ?_ _ | refine blk_drew ?_ | refine blk_alloc ?_ _)); exact BK186.out) hb); replace BK187 := Aside0.mk (blk_below (g := gb187) (o := .cells #[.int .i64 a1_0, .int .i64 a1_1] 28 (0, 0)) (by (with_reducible repeat (first | refine blk_drewN ?_ _ | refine blk_drew ?_ | refine blk_alloc ?_ _)); exact BK187.out) hb); replace HB := Aside0.mk (below_step (TB2 GE186.out GE187.out) hb); (try clear hb); (try clear hb2); (try clear hk); (try clear hi)))
               go_ret
               exact ⟨TR, TB2 GE186.out GE187.out⟩
              ·rw [if_neg c108] at H
               have c108b0 : ((t212 == 0) == false) = false := by simpa using c108
               (try (have c108b1 : decide ((t212 == 0) = false) = false := by simpa using c108))
               (try (have c108b2 : ((t212 == 0) == false) = false := by simpa using c108))
               (try (have c108b3 : ¬ ((t212 == 0) = false) := by simpa using c108))
               clear c108
               obtain rfl := Option.some.inj H
               go_wp2
               go_ret
               exact ⟨TR, TB2 GE186.out GE187.out⟩
end Go.Proofs.YtfmpbkolpjlfbaaDoor.PRaspKeys
