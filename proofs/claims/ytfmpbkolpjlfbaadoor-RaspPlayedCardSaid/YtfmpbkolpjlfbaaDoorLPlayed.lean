import Derived.Test.YtfmpbkolpjlfbaaDoorG5
import Derived.Test.YtfmpbkolpjlfbaaDoorCS
import Derived.Test.YtfmpbkolpjlfbaaDoorCH
import Derived.Test.YtfmpbkolpjlfbaaDoorM0
import Derived.Test.YtfmpbkolpjlfbaaDoorProg
import Derived.Below
import Derived.Deep.Draws
import Derived.Deep.AppendLies
import Derived.Maps.AppendAt
import Derived.OwnWalk
import Derived.Laws.BytesArg
import Derived.Laws.MakeOwn
import Derived.Laws.OwnMore
import Derived.Deep.OwnRows
import Derived.Tactics
import Derived.Lib.ConvBytes
import Derived.Laws.Slices
import Derived.WalkKit
import Derived.KernelRfl
import Derived.RowKit3
import Derived.Deep.LoopGhost
import Derived.Deep.QuietTactic
import Derived.BigQuiet
import Derived.WideLaws
import Derived.Deep.DeepCutAuto
import Derived.Deep.CutBlock
import Derived.Deep.RegionHeld3
import Derived.Laws.Rows
import Derived.Lib.AppendStr
import Derived.ArgAppend
import Derived.Laws.IdiomCopy
import Derived.OrdersHeld
import Derived.Laws.BitsLemmas
import Derived.RowKit
set_option linter.unusedVariables false
set_option linter.unusedSimpArgs false
namespace Go.Proofs.YtfmpbkolpjlfbaaDoor.M
open Go.RowKit Go.Proofs.YtfmpbkolpjlfbaaDoorW.PrintWords Go.Proofs.YtfmpbkolpjlfbaaDoorW.PrintLast
theorem czz {w : World} {g : Nat} {cs : Array Value} {t : TypeId} {v : Value} (h : w.heap[g]? = some (.cells cs t (0, 0))) (i : Nat) (hv : cs[i]? = some v := by (first | (simp only [List.getElem?_toArray, List.getElem?_cons_zero, List.getElem?_cons_succ]; rfl) | exact rfl)) : w.cell? ⟨g, i, none⟩ = some v := (blk_cell h i).trans hv
end Go.Proofs.YtfmpbkolpjlfbaaDoor.M
namespace Go.Proofs.YtfmpbkolpjlfbaaDoor.M
open Go.RowKit Go.Proofs.YtfmpbkolpjlfbaaDoorW.PrintWords Go.Proofs.YtfmpbkolpjlfbaaDoorW.PrintLast
section
variable {P : Program} {md : Region.Mode} {ops : Array Oper} {Q : Exit → Act → World → Prop} {S : World → Prop} {ds : List Nat}
variable (i : Nat) (N : Tmp) {oi : Oper} {v : Value} {fuel : Nat} {l : Array Bool} {a a' : Act} {w : World} (l' : Array Bool)
theorem tT12 (hH : S w) (hi : ops[i]? = some oi := by exact rfl) (hN : oi.dst = some N := by exact rfl) (hc : takeB md ops ds l l' i = true := by exact take_ofW HT_.out HW_.out (by kernel_rfl)) (hQ : ∀ c a w, Q (.panic c) (a.put oi.dst v) w → Q (.panic c) a w := by exact fun _ _ _ h => h)
  (hy : YieldsIf P ops S oi v a := by (refine Or.inl ⟨by rfl, ?_⟩; rintro w' ⟨s0, s1, s2, s3, s4, s5, s6, s7, s8, s9, s10, s11⟩; go_simp; with_reducible rfl)) (ha : a.put (some N) v = a' := by (simp only [Act.put, lA, lZ, lS, i64_w, i32_w]; rfl)) (k : wpAnyLast P md ops Q S ds fuel l' a' w) : wpAnyLast P md ops Q S ds (fuel + 1) l a w :=
 take_ l' hi hN hc hQ hy hH ha k
end
end Go.Proofs.YtfmpbkolpjlfbaaDoor.M
namespace Go.Proofs.YtfmpbkolpjlfbaaDoor.PRaspKeys
open Go.RowKit Go.Proofs.YtfmpbkolpjlfbaaDoorW.PrintWords Go.Proofs.YtfmpbkolpjlfbaaDoorW.PrintLast Go.Proofs.YtfmpbkolpjlfbaaDoorW.PrintMore Go.Proofs.YtfmpbkolpjlfbaaDoor.M
attribute [local go_sem] max2_int min2_int max_two min_two max_three min_three max_four min_four   -- for this text's walks alone
/-! #### struct type 24 -/
/-! #### struct type 57 -/
/-! #### struct type 69 -/
end Go.Proofs.YtfmpbkolpjlfbaaDoor.PRaspKeys
namespace Go.Proofs.YtfmpbkolpjlfbaaDoor.PRaspKeys
open Go.RowKit Go.Proofs.YtfmpbkolpjlfbaaDoorW.PrintWords Go.Proofs.YtfmpbkolpjlfbaaDoorW.PrintLast Go.Proofs.YtfmpbkolpjlfbaaDoorW.PrintMore Go.Proofs.YtfmpbkolpjlfbaaDoor.M
attribute [local go_sem] max2_int min2_int max_two min_two max_three min_three max_four min_four   -- for this text's walks alone
/-! ### saronref00_Grows: function 46 -/
def saronref00_Grows.l0 : Nat → List Int → Int → Int → Int → Option (Bool)
 | 0, _, _, _, _ => none
 | k + 1, x0, x1, x5, x6 => if x6 < (x0.length : Int) then (if 0 ≤ x6 then (if (rd x0 x6) ≤ x5 then (some false) else (if (rd x0 x6) ≥ x1 then (some false) else (saronref00_Grows.l0 k x0 x1 (rd x0 x6) (wrap64 (x6 + 1))))) else (none)) else (some true)
def saronref00_Grows.f (k : Nat) (l0 : List Int) (a1 : Int) : Option (Bool) := saronref00_Grows.l0 k l0 a1 (-1) 0
theorem saronref00_Grows.mono_l : ∀ k, (∀ y0 y1 y2 y3, LeO (saronref00_Grows.l0 k y0 y1 y2 y3) (saronref00_Grows.l0 (k + 1) y0 y1 y2 y3))
 | 0 => fun _ _ _ _ r h => by simp [saronref00_Grows.l0] at h
 | k + 1 => by
  have ih0 := saronref00_Grows.mono_l k
  ·intro y0 y1 y2 y3
   unfold saronref00_Grows.l0
   repeat' first
   | (with_reducible exact ih0 _ _ _ _)
   | (with_reducible exact LeO.refl _)
   | (with_reducible exact LeO.none _)
   | (with_reducible refine LeO.ite ?_ ?_)
   | (with_reducible refine LeO.bind ?_ (fun _ => ?_))
   | exact ih0 _ _ _ _
   | exact LeO.none _
   | refine LeO.ite ?_ ?_
   | refine LeO.bind ?_ (fun _ => ?_)
theorem saronref00_Grows.mono : ∀ a0 a1 k, LeO (saronref00_Grows.f k a0 a1) (saronref00_Grows.f (k + 1) a0 a1) := by
 intro a0 a1 k
 have ih0 := saronref00_Grows.mono_l k
 unfold saronref00_Grows.f
 repeat' first
   | (with_reducible exact ih0 _ _ _ _)
   | (with_reducible exact LeO.refl _)
   | (with_reducible exact LeO.none _)
   | (with_reducible refine LeO.ite ?_ ?_)
   | (with_reducible refine LeO.bind ?_ (fun _ => ?_))
   | exact ih0 _ _ _ _
   | exact LeO.none _
   | refine LeO.ite ?_ ?_
   | refine LeO.bind ?_ (fun _ => ?_)
set_option maxHeartbeats 8000000 in
set_option maxRecDepth 100000 in
theorem saronref00_Grows.calls (k : Nat) (A0 : Option Addr) (c0 : Nat) (l0 : List Int) (a1 : Int) (r : Bool) (w : World) (hr0 : Kd.C (Kd.int .i64) w A0 l0.length l0) (hc0 : l0.length ≤ c0) (h : saronref00_Grows.f k l0 a1 = some r) :
  Calls Tryd.prog 46 #[.slice A0 l0.length c0, .int .i64 a1] w fun e w' => e = .returned (.bool r) ∧ Drawn0 w w' := by
 have HR0 := Aside0.mk hr0
 have HC0 := Aside0.mk hc0
 clear hr0 hc0
 have H : (saronref00_Grows.l0 k l0 a1 (-1) 0) = some r := h
 clear h
 have H' := Aside0.mk H
 clear H
 go_enter Tryd.func46, Tryd.ntmps46
 go_wp2
 go_loopg [5, 6] k (fun kq v5 v6 w' => ∃ (x5_1 : Int) (x6_1 : Int), v5 = .int .i64 x5_1 ∧ v6 = .int .i64 x6_1 ∧ Aside0 (saronref00_Grows.l0 kq l0 a1 x5_1 x6_1 = some r) ∧ Aside0 (kq ≤ k) ∧ Drawn0 w w')
 case atStart => exact ⟨((-1)), (0), TT, TT, H', ⟨Nat.le_refl _⟩, by repeat (first | exact Drawn0.refl _ | apply Drawn0.step)⟩
 case round => as_aux_lemma =>
  clear H'
  try clear p2
  obtain ⟨x5_1, x6_1, rfl, rfl, HA, HK1, ⟨m1, rfl⟩⟩ := hrel
  cases gk with
  | zero => exact absurd HA.out (by simp [saronref00_Grows.l0])
  | succ k1 =>
   have H := HA.out
   clear HA
   simp only [saronref00_Grows.l0] at H
   by_cases c3 : x6_1 < (l0.length : Int)
   ·rw [if_pos c3] at H
    have c3b0 : decide (x6_1 < (l0.length : Int)) = true := decide_eq_true c3
    clear c3
    by_cases c4 : 0 ≤ x6_1
    ·rw [if_pos c4] at H
     have c4b0 : decide (0 ≤ x6_1) = true := decide_eq_true c4
     clear c4
     by_cases c5 : (rd l0 x6_1) ≤ x5_1
     ·rw [if_pos c5] at H
      have c5b0 : decide ((rd l0 x6_1) ≤ x5_1) = true := decide_eq_true c5
      clear c5
      obtain rfl := Option.some.inj H
      have p185 : 0 ≤ (x6_1 : Int) := of_decide_eq_true TA
      have q185 : x6_1 < (l0.length : Int) := of_decide_eq_true TA
      obtain ⟨ad185, e185, hx185_0⟩ := Kd.at_int HR0.out x6_1 p185 q185
      cases e185
      replace p185 := eq_true p185
      replace q185 := eq_true q185
      go_wp2
      go_ret
      exact ⟨by first | rfl | (simp; done) | (simp [*]; done), by repeat (first | exact Drawn0.refl _ | apply Drawn0.step)⟩
     ·rw [if_neg c5] at H
      have c5b0 : decide ((rd l0 x6_1) ≤ x5_1) = false := decide_eq_false c5
      clear c5
      by_cases c6 : (rd l0 x6_1) ≥ a1
      ·rw [if_pos c6] at H
       have c6b0 : decide (a1 ≤ (rd l0 x6_1)) = true := decide_eq_true c6
       clear c6
       obtain rfl := Option.some.inj H
       have p185 : 0 ≤ (x6_1 : Int) := of_decide_eq_true TA
       have q185 : x6_1 < (l0.length : Int) := of_decide_eq_true TA
       obtain ⟨ad185, e185, hx185_0⟩ := Kd.at_int HR0.out x6_1 p185 q185
       cases e185
       replace p185 := eq_true p185
       replace q185 := eq_true q185
       have p186 : 0 ≤ (x6_1 : Int) := of_decide_eq_true TA
       have q186 : x6_1 < (l0.length : Int) := of_decide_eq_true TA
       obtain ⟨ad186, e186, hx186_0⟩ := Kd.at_int HR0.out x6_1 p186 q186
       obtain rfl : ad185 = ad186 := (by injection e186)
       replace p186 := eq_true p186
       replace q186 := eq_true q186
       go_wp2
       go_ret
       exact ⟨by first | rfl | (simp; done) | (simp [*]; done), by repeat (first | exact Drawn0.refl _ | apply Drawn0.step)⟩
      ·rw [if_neg c6] at H
       have c6b0 : decide (a1 ≤ (rd l0 x6_1)) = false := decide_eq_false c6
       clear c6
       have H' := Aside0.mk H
       clear H
       have p185 : 0 ≤ (x6_1 : Int) := of_decide_eq_true TA
       have q185 : x6_1 < (l0.length : Int) := of_decide_eq_true TA
       obtain ⟨ad185, e185, hx185_0⟩ := Kd.at_int HR0.out x6_1 p185 q185
       cases e185
       replace p185 := eq_true p185
       replace q185 := eq_true q185
       have p186 : 0 ≤ (x6_1 : Int) := of_decide_eq_true TA
       have q186 : x6_1 < (l0.length : Int) := of_decide_eq_true TA
       obtain ⟨ad186, e186, hx186_0⟩ := Kd.at_int HR0.out x6_1 p186 q186
       obtain rfl : ad185 = ad186 := (by injection e186)
       replace p186 := eq_true p186
       replace q186 := eq_true q186
       have p187 : 0 ≤ (x6_1 : Int) := of_decide_eq_true TA
       have q187 : x6_1 < (l0.length : Int) := of_decide_eq_true TA
       obtain ⟨ad187, e187, hx187_0⟩ := Kd.at_int HR0.out x6_1 p187 q187
       obtain rfl : ad185 = ad187 := (by injection e187)
       replace p187 := eq_true p187
       replace q187 := eq_true q187
       go_wp2
       go_roundg k1
       case measure => have := HK1.out; omega
       case rel => exact ⟨(rd l0 x6_1), (wrap64 (x6_1 + 1)), TT, TT, H', ⟨by have := HK1.out; omega⟩, by repeat (first | exact Drawn0.refl _ | apply Drawn0.step)⟩
    ·rw [if_neg c4] at H
     exact absurd H (by simp)
   ·rw [if_neg c3] at H
    have c3b0 : decide (x6_1 < (l0.length : Int)) = false := decide_eq_false c3
    clear c3
    obtain rfl := Option.some.inj H
    go_wp2
    go_ret
    exact ⟨by first | rfl | (simp; done) | (simp [*]; done), by repeat (first | exact Drawn0.refl _ | apply Drawn0.step)⟩
/-! ### saronref00_Where: function 47 -/
def saronref00_Where.l0 : Nat → List Int → Int → Int → Option (Int)
 | 0, _, _, _ => none
 | k + 1, x0, x1, x5 => if x5 < (x0.length : Int) then (if 0 ≤ x5 then (if (rd x0 x5) = x1 then (some x5) else (saronref00_Where.l0 k x0 x1 (wrap64 (x5 + 1)))) else (none)) else (some (-1))
def saronref00_Where.f (k : Nat) (l0 : List Int) (a1 : Int) : Option (Int) := saronref00_Where.l0 k l0 a1 0
theorem saronref00_Where.mono_l : ∀ k, (∀ y0 y1 y2, LeO (saronref00_Where.l0 k y0 y1 y2) (saronref00_Where.l0 (k + 1) y0 y1 y2))
 | 0 => fun _ _ _ r h => by simp [saronref00_Where.l0] at h
 | k + 1 => by
  have ih0 := saronref00_Where.mono_l k
  ·intro y0 y1 y2
   unfold saronref00_Where.l0
   repeat' first
   | (with_reducible exact ih0 _ _ _)
   | (with_reducible exact LeO.refl _)
   | (with_reducible exact LeO.none _)
   | (with_reducible refine LeO.ite ?_ ?_)
   | (with_reducible refine LeO.bind ?_ (fun _ => ?_))
   | exact ih0 _ _ _
   | exact LeO.none _
   | refine LeO.ite ?_ ?_
   | refine LeO.bind ?_ (fun _ => ?_)
theorem saronref00_Where.mono : ∀ a0 a1 k, LeO (saronref00_Where.f k a0 a1) (saronref00_Where.f (k + 1) a0 a1) := by
 intro a0 a1 k
 have ih0 := saronref00_Where.mono_l k
 unfold saronref00_Where.f
 repeat' first
   | (with_reducible exact ih0 _ _ _)
   | (with_reducible exact LeO.refl _)
   | (with_reducible exact LeO.none _)
   | (with_reducible refine LeO.ite ?_ ?_)
   | (with_reducible refine LeO.bind ?_ (fun _ => ?_))
   | exact ih0 _ _ _
   | exact LeO.none _
   | refine LeO.ite ?_ ?_
   | refine LeO.bind ?_ (fun _ => ?_)
set_option maxHeartbeats 8000000 in
set_option maxRecDepth 100000 in
theorem saronref00_Where.calls (k : Nat) (A0 : Option Addr) (c0 : Nat) (l0 : List Int) (a1 : Int) (r : Int) (w : World) (hr0 : Kd.C (Kd.int .i64) w A0 l0.length l0) (hc0 : l0.length ≤ c0) (h : saronref00_Where.f k l0 a1 = some r) :
  Calls Tryd.prog 47 #[.slice A0 l0.length c0, .int .i64 a1] w fun e w' => e = .returned (.int .i64 r) ∧ Drawn0 w w' := by
 have HR0 := Aside0.mk hr0
 have HC0 := Aside0.mk hc0
 clear hr0 hc0
 have H : (saronref00_Where.l0 k l0 a1 0) = some r := h
 clear h
 have H' := Aside0.mk H
 clear H
 go_enter Tryd.func47, Tryd.ntmps47
 go_wp2
 go_loopg [5] k (fun kq v5 w' => ∃ (x5_1 : Int), v5 = .int .i64 x5_1 ∧ Aside0 (saronref00_Where.l0 kq l0 a1 x5_1 = some r) ∧ Aside0 (kq ≤ k) ∧ Drawn0 w w')
 case atStart => exact ⟨(0), TT, H', ⟨Nat.le_refl _⟩, by repeat (first | exact Drawn0.refl _ | apply Drawn0.step)⟩
 case round => as_aux_lemma =>
  clear H'
  try clear p2
  obtain ⟨x5_1, rfl, HA, HK1, ⟨m1, rfl⟩⟩ := hrel
  cases gk with
  | zero => exact absurd HA.out (by simp [saronref00_Where.l0])
  | succ k1 =>
   have H := HA.out
   clear HA
   simp only [saronref00_Where.l0] at H
   by_cases c3 : x5_1 < (l0.length : Int)
   ·rw [if_pos c3] at H
    have c3b0 : decide (x5_1 < (l0.length : Int)) = true := decide_eq_true c3
    clear c3
    by_cases c4 : 0 ≤ x5_1
    ·rw [if_pos c4] at H
     have c4b0 : decide (0 ≤ x5_1) = true := decide_eq_true c4
     clear c4
     by_cases c5 : (rd l0 x5_1) = a1
     ·rw [if_pos c5] at H
      have c5b0 : ((rd l0 x5_1) == a1) = true := beq_iff_eq.mpr c5
      have c5b1 : ((rd l0 x5_1) != a1) = false := bne_eq_false_iff_eq.mpr c5
      clear c5
      obtain rfl := Option.some.inj H
      have p188 : 0 ≤ (x5_1 : Int) := of_decide_eq_true TA
      have q188 : x5_1 < (l0.length : Int) := of_decide_eq_true TA
      obtain ⟨ad188, e188, hx188_0⟩ := Kd.at_int HR0.out x5_1 p188 q188
      cases e188
      replace p188 := eq_true p188
      replace q188 := eq_true q188
      go_wp2
      go_ret
      exact ⟨by first | rfl | (simp; done) | (simp [*]; done), by repeat (first | exact Drawn0.refl _ | apply Drawn0.step)⟩
     ·rw [if_neg c5] at H
      have c5b0 : ((rd l0 x5_1) == a1) = false := beq_eq_false_iff_ne.mpr c5
      have c5b1 : ((rd l0 x5_1) != a1) = true := bne_iff_ne.mpr c5
      have H' := Aside0.mk H
      clear H
      have p188 : 0 ≤ (x5_1 : Int) := of_decide_eq_true TA
      have q188 : x5_1 < (l0.length : Int) := of_decide_eq_true TA
      obtain ⟨ad188, e188, hx188_0⟩ := Kd.at_int HR0.out x5_1 p188 q188
      cases e188
      replace p188 := eq_true p188
      replace q188 := eq_true q188
      go_wp2
      go_roundg k1
      case measure => have := HK1.out; omega
      case rel => exact ⟨(wrap64 (x5_1 + 1)), TT, H', ⟨by have := HK1.out; omega⟩, by repeat (first | exact Drawn0.refl _ | apply Drawn0.step)⟩
    ·rw [if_neg c4] at H
     exact absurd H (by simp)
   ·rw [if_neg c3] at H
    have c3b0 : decide (x5_1 < (l0.length : Int)) = false := decide_eq_false c3
    clear c3
    obtain rfl := Option.some.inj H
    go_wp2
    go_ret
    exact ⟨by first | rfl | (simp; done) | (simp [*]; done), by repeat (first | exact Drawn0.refl _ | apply Drawn0.step)⟩
/-! ### saronref00_More: function 49 -/
def saronref00_More.f (l0 : List Int) (a1 : Int) : Option (List Int) := (some (([] : List Int) : List Int)).bind fun y189 => (if y189.length + l0.length < 17592186044416 then ((some (y189 ++ l0 : List Int)).bind fun y192 => (if y192.length < 17592186044416 then (some (y192 ++ [a1])) else (none))) else (none))
set_option maxHeartbeats 8000000 in
set_option maxRecDepth 100000 in
theorem saronref00_More.calls (A0 : Option Addr) (c0 : Nat) (l0 : List Int) (a1 : Int) (r : List Int) (w : World) (hr0 : Kd.C (Kd.int .i64) w A0 l0.length l0) (hc0 : l0.length ≤ c0) (h : saronref00_More.f l0 a1 = some r) :
  Calls Tryd.prog 49 #[.slice A0 l0.length c0, .int .i64 a1] w fun e w' => ∃ v0_ : Value, e = .returned (v0_) ∧ Kd.R (Kd.int .i64) 3 w' w.heap.size (fun _ => True) v0_ r ∧ Below w.heap.size w w' := by
 have HR0 := Aside0.mk hr0
 have HC0 := Aside0.mk hc0
 clear hr0 hc0
 have HB := Aside0.mk (Below.refl w.heap.size w)
 have H : ((some (([] : List Int) : List Int)).bind fun y189 => (if y189.length + l0.length < 17592186044416 then ((some (y189 ++ l0 : List Int)).bind fun y192 => (if y192.length < 17592186044416 then (some (y192 ++ [a1])) else (none))) else (none))) = some r := h
 clear h
 obtain ⟨y189, hy189⟩ : ∃ y_ : List Int, y_ = (([] : List Int)) := ⟨_, rfl⟩
 replace H : (if y189.length + l0.length < 17592186044416 then ((some (y189 ++ l0 : List Int)).bind fun y192 => (if y192.length < 17592186044416 then (some (y192 ++ [a1])) else (none))) else (none)) = some r := by first | (rw [hy189]; with_reducible exact H) | (have H2_ := (Option.bind_some _ _).symm.trans H; rw [hy189]; with_reducible exact H2_) | (have H2_ := (Option.bind_some _ _).symm.trans H; with_reducible exact H2_) | with_reducible exact H | (rw [hy189]; exact H) | exact H
 have Ny189 := Aside0.mk hy189
 clear hy189
 by_cases c3 : y189.length + l0.length < 17592186044416
 ·rw [if_pos c3] at H
  have LMc3 := Aside0.mk c3
  clear c3
  obtain ⟨y192, hy192⟩ : ∃ y_ : List Int, y_ = (y189 ++ l0) := ⟨_, rfl⟩
  replace H : (if y192.length < 17592186044416 then (some (y192 ++ [a1])) else (none)) = some r := by first | (rw [hy192]; with_reducible exact H) | (have H2_ := (Option.bind_some _ _).symm.trans H; rw [hy192]; with_reducible exact H2_) | (have H2_ := (Option.bind_some _ _).symm.trans H; with_reducible exact H2_) | with_reducible exact H | (rw [hy192]; exact H) | exact H
  have Ny192 := Aside0.mk hy192
  clear hy192
  by_cases c4 : y192.length < 17592186044416
  ·rw [if_pos c4] at H
   have LMc4 := Aside0.mk c4
   clear c4
   obtain ⟨y195, hy195⟩ : ∃ y_ : List Int, y_ = (y192 ++ [a1]) := ⟨_, rfl⟩
   replace H : (some y195) = some r := by first | (rw [hy195]; with_reducible exact H) | (have H2_ := (Option.bind_some _ _).symm.trans H; rw [hy195]; with_reducible exact H2_) | (have H2_ := (Option.bind_some _ _).symm.trans H; with_reducible exact H2_) | with_reducible exact H | (rw [hy195]; exact H) | exact H
   have Ny195 := Aside0.mk hy195
   clear hy195
   obtain rfl := Option.some.inj H
   go_enter Tryd.func49, Tryd.ntmps49
   go_wp2_with (first | ((with_reducible refine gate_dst (N := 6) rfl ?_); refine Kd.R_lit (Kd.int .i64) _ 3 ?hg (N := 6) ?hd (xs := ([] : List Int)) (inner := []) (ok := fun _ => True) (okp := fun _ => True) ?hr ?hp (fun _ hk => hk) trivial (Below.refl _ _) (Nat.le_refl _) (by simp) ?_; (case hd => rfl); (case hg => rfl); (case hr => exact TS); (case hp => exact (Reps.none _ _)); intro v190 w5 ho6 hb hg_ hnew_; clear hg_ hnew_; (first | rw [← Ny189.out] at ho6 | (simp only [Int.reduceToNat] at ho6; rw [← Ny189.out] at ho6)); have HO191 := Aside0.mk (Kd.R_lower ho6 (below_size TB)); replace HB := Aside0.mk (below_step TB hb); clear hb ho6) | ((with_reducible refine gate_builtin (b := .append) (xs := #[.tmp 6, .tmp 7]) rfl ?_); at_builtin; refine Kd.R_append_rows (Kd.int .i64) (w0 := w) w.heap.size rfl (.tmp 6) (.tmp 7) 38 3 (.int .i64 0) 8 rfl Tryd.underlying38 info3 rfl (by decide) (by omega) v190 y189 l0 _ _ _ (fun _ => True) (fun _ => False) rfl rfl ?aO ?aR (fun _ _ h => h) (fun _ h => h.elim) ?aF ?aB ?aS ?aL ?_; (case aR => exact TC HR0.out); (case aB => exact TB); (case aF => exact (fun _ _ => trivial)); (case aO => exact (TRo HO191.out)); (case aS => exact (below_size TB)); (case aL => have := LMc3.out; omega); intro v193 w7 ho hb hg hat; rw [← Ny192.out] at ho; have HO194 := Aside0.mk (ho); replace HB := Aside0.mk (hb); clear HO191; clear ho hb hg hat) | ((with_reducible refine gate_builtin (b := .append) (xs := #[.tmp 9, .tmp 11]) rfl ?_); at_builtin; refine Kd.R_append (Kd.int .i64) (w0 := w) w.heap.size rfl (.tmp 9) (.tmp 11) 38 3 (.int .i64 0) 8 rfl Tryd.underlying38 info3 rfl (by decide) (by omega) v193 y192 a1 [.int .i64 a1] (fun _ => True) (fun _ => False) rfl rfl ?aP (fun _ hk => hk.elim) ?aF ?aO ?aB ?aS ?aL ?_; (case aP => exact rfl); (case aB => exact TB); (case aF => exact (fun _ _ => trivial)); (case aO => exact (TRo HO194.out)); (case aS => exact (below_size TB)); (case aL => have := LMc4.out; omega); intro v196 w8 ho hb hg hat; rw [← Ny195.out] at ho; have HO197 := Aside0.mk (ho); replace HB := Aside0.mk (hb); clear HO194; clear ho hb hg hat))
   go_ret
   exact ⟨_, TR, by (with_reducible repeat (first | apply Kd.R_alloc | apply Kd.R_drewN | apply Kd.R_drew)); exact HO197.out, TB⟩
  ·rw [if_neg c4] at H
   exact absurd H (by simp)
 ·rw [if_neg c3] at H
  exact absurd H (by simp)
end Go.Proofs.YtfmpbkolpjlfbaaDoor.PRaspKeys
namespace Go.Proofs.YtfmpbkolpjlfbaaDoor.PRaspKeys
open Go.RowKit Go.Proofs.YtfmpbkolpjlfbaaDoorW.PrintWords Go.Proofs.YtfmpbkolpjlfbaaDoorW.PrintLast Go.Proofs.YtfmpbkolpjlfbaaDoorW.PrintMore Go.Proofs.YtfmpbkolpjlfbaaDoor.M
attribute [local go_sem] max2_int min2_int max_two min_two max_three min_three max_four min_four   -- for this text's walks alone
/-! ### saronlaw03_RaspPlayed: function 14 -/
mutual
def saronlaw03_RaspPlayed.j0 : Nat → List Int → Bool → List (S57) → Int → Int → List (S69) → Int → Int → Option (Bool)
 | 0, _, _, _, _, _, _, _, _ => none
 | k + 1, x2, x40, x199000, x199001, x199002, x199003, x200000, x200001 => if x40 = true then ((saronlaw03_filed.f).bind fun t201 => (some t201)) else ((saronref00_Turn.f x200000 (x199003.length : Int)).bind fun t202 => (if 0 ≤ t202 then (if t202 < (x199003.length : Int) then ((saronref00_Draw.f ((rd_T69 x199003 t202).f0.f0) ((rd_T69 x199003 t202).f0.f1) x200001).bind fun t204 => (saronlaw03_RaspPlayed.l0 k x2 t202 t204 ((rd_T69 x199003 t202).f1) t204 ([] : List Int) ([] : List Int) (([t204] : List Int)) x199000 x199001 x199002 x199003)) else (none)) else (none)))
def saronlaw03_RaspPlayed.j2 : Nat → Int → Int → Int → List Int → List Int → List Int → List (S57) → Int → Int → List (S69) → Option (Bool)
 | 0, _, _, _, _, _, _, _, _, _, _ => none
 | k + 1, x7, x8, x10, x11, x12, x13, x199000, x199001, x199002, x199003 => (rasp_Play.f x199000 x199001 x199002 x199003 x7 x10 x12).bind fun bt232 => ((rasp_Strokes.f x199000 x199001 x199002 x199003 x7).bind fun bt237 => (if bt232.2.2 = 0 then ((saronref00_Equal.f k bt232.1 x11).bind fun t239 => (if t239 = true then (if bt232.2.1 = x8 then ((saronref00_Bears.f x199001 x199002 bt232.2.1).bind fun t240 => (if t240 = true then (if bt237.2 = 0 then (saronlaw03_RaspPlayed.j3 k x7 x10 x11 x12 x13 (decide ((bt232.1.length : Int) > bt237.1)) x199000 x199001 x199002 x199003) else (saronlaw03_RaspPlayed.j3 k x7 x10 x11 x12 x13 false x199000 x199001 x199002 x199003)) else (saronlaw03_RaspPlayed.j3 k x7 x10 x11 x12 x13 true x199000 x199001 x199002 x199003))) else (saronlaw03_RaspPlayed.j3 k x7 x10 x11 x12 x13 true x199000 x199001 x199002 x199003)) else (saronlaw03_RaspPlayed.j3 k x7 x10 x11 x12 x13 true x199000 x199001 x199002 x199003))) else (saronlaw03_RaspPlayed.j3 k x7 x10 x11 x12 x13 true x199000 x199001 x199002 x199003)))
def saronlaw03_RaspPlayed.j3 : Nat → Int → Int → List Int → List Int → List Int → Bool → List (S57) → Int → Int → List (S69) → Option (Bool)
 | 0, _, _, _, _, _, _, _, _, _, _ => none
 | k + 1, x7, x10, x11, x12, x13, x190, x199000, x199001, x199002, x199003 => if x190 = true then (some false) else ((saronref00_More.f x12 0).bind fun t241 => ((rasp_Play.f x199000 x199001 x199002 x199003 x7 x10 t241).bind fun bt244 => (if bt244.2.2 = 32 then (if (x12.length : Int) > 0 then (if 0 ≤ (wrap64 ((x12.length : Int) - 1)) then (if (wrap64 ((x12.length : Int) - 1)) ≤ (x12.length : Int) then ((rasp_Play.f x199000 x199001 x199002 x199003 x7 x10 (x12.take ((wrap64 ((x12.length : Int) - 1)) : Int).toNat)).bind fun bt253 => (if bt253.2.2 = 32 then (saronlaw03_RaspPlayed.j4 k x11 x13 x199000 x199001 x199002 x199003) else (some false))) else (none)) else (none)) else (saronlaw03_RaspPlayed.j4 k x11 x13 x199000 x199001 x199002 x199003)) else (some false))))
def saronlaw03_RaspPlayed.j4 : Nat → List Int → List Int → List (S57) → Int → Int → List (S69) → Option (Bool)
 | 0, _, _, _, _, _, _ => none
 | k + 1, x11, x13, x199000, x199001, x199002, x199003 => (rasp_Told.f k x199000 x199001 x199002 x199003 x13).bind fun bt258 => (if bt258.2 = 0 then (saronlaw03_RaspPlayed.j5 k x11 bt258.1 ((bt258.1.length : Int) != (x11.length : Int)) x199000 x199001 x199002 x199003) else (saronlaw03_RaspPlayed.j5 k x11 bt258.1 true x199000 x199001 x199002 x199003))
def saronlaw03_RaspPlayed.j5 : Nat → List Int → List (List Int) → Bool → List (S57) → Int → Int → List (S69) → Option (Bool)
 | 0, _, _, _, _, _, _, _ => none
 | k + 1, x11, x29, x235, x199000, x199001, x199002, x199003 => if x235 = true then (some false) else (saronlaw03_RaspPlayed.l1 k x11 x29 0 x199000 x199001 x199002 x199003)
def saronlaw03_RaspPlayed.l1 : Nat → List Int → List (List Int) → Int → List (S57) → Int → Int → List (S69) → Option (Bool)
 | 0, _, _, _, _, _, _, _ => none
 | k + 1, x11, x29, x31, x199000, x199001, x199002, x199003 => if x31 < (x29.length : Int) then (if 0 ≤ x31 then (if x31 < (x11.length : Int) then ((saronref00_Where.f k (rd_L4 x29 x31) (rd x11 x31)).bind fun t265 => (if t265 < 0 then (some false) else ((saronref00_Grows.f k (rd_L4 x29 x31) (x199000.length : Int)).bind fun t267 => (if t267 = true then (saronlaw03_RaspPlayed.l1 k x11 x29 (wrap64 (x31 + 1)) x199000 x199001 x199002 x199003) else (some false))))) else (none)) else (none)) else ((saronlaw03_filed.f).bind fun t262 => (some t262))
def saronlaw03_RaspPlayed.l0 : Nat → List Int → Int → Int → Int → Int → List Int → List Int → List Int → List (S57) → Int → Int → List (S69) → Option (Bool)
 | 0, _, _, _, _, _, _, _, _, _, _, _, _ => none
 | k + 1, x2, x7, x8, x9, x10, x11, x12, x13, x199000, x199001, x199002, x199003 => if (x11.length : Int) ≤ 30 then ((rasp_Next.f x199000 x199001 x199002 x199003 x8 x9).bind fun bt209 => (if bt209.2.2 = 0 then (if bt209.1 = (-1) then (saronlaw03_RaspPlayed.j2 k x7 x8 x10 x11 x12 x13 x199000 x199001 x199002 x199003) else ((saronref00_Sits.f bt209.1 0 (wrap64 ((x199000.length : Int) - 1))).bind fun t218 => (if t218 = true then (if 0 ≤ bt209.1 then (if bt209.1 < (x199000.length : Int) then ((saronref00_Nth.f x2 (x11.length : Int)).bind fun t220 => ((saronref00_Draw.f ((rd_T57 x199000 bt209.1).f0.f0) ((rd_T57 x199000 bt209.1).f0.f1) t220).bind fun t221 => (if x11.length < 17592186044416 then (if x12.length < 17592186044416 then (if x13.length < 17592186044416 then (saronlaw03_RaspPlayed.l0 k x2 x7 (wrap64 (x8 + t221)) (wrap64 (x9 - ((rd_T57 x199000 bt209.1).f1))) x10 (x11 ++ [bt209.1]) (x12 ++ [t221]) (x13 ++ [wrap64 (x8 + t221)]) x199000 x199001 x199002 x199003) else (none)) else (none)) else (none)))) else (none)) else (none)) else (some false)))) else ((rasp_Play.f x199000 x199001 x199002 x199003 x7 x10 x12).bind fun bt212 => (if bt209.2.2 = 4 then (if (x12.length : Int) = 0 then (if bt212.2.2 = bt209.2.2 then ((saronlaw03_filed.f).bind fun t217 => (some t217)) else (some false)) else (some false)) else (some false))))) else (saronlaw03_RaspPlayed.j2 k x7 x8 x10 x11 x12 x13 x199000 x199001 x199002 x199003)
end
def saronlaw03_RaspPlayed.f (k : Nat) (l0_0 : List (S57)) (a0_1 : Int) (a0_2 : Int) (l0_3 : List (S69)) (a1_0 : Int) (a1_1 : Int) (l2 : List Int) : Option (Bool) := (saronlaw03_sound.f k l0_0 a0_1 a0_2 l0_3).bind fun t200 => (if t200 = true then (saronlaw03_RaspPlayed.j0 k l2 ((l0_3.length : Int) == 0) l0_0 a0_1 a0_2 l0_3 a1_0 a1_1) else (saronlaw03_RaspPlayed.j0 k l2 true l0_0 a0_1 a0_2 l0_3 a1_0 a1_1))
theorem saronlaw03_RaspPlayed.mono_l : ∀ k, (∀ y0 y1 y2 y3 y4 y5 y6 y7, LeO (saronlaw03_RaspPlayed.j0 k y0 y1 y2 y3 y4 y5 y6 y7) (saronlaw03_RaspPlayed.j0 (k + 1) y0 y1 y2 y3 y4 y5 y6 y7)) ∧ (∀ y0 y1 y2 y3 y4 y5 y6 y7 y8 y9, LeO (saronlaw03_RaspPlayed.j2 k y0 y1 y2 y3 y4 y5 y6 y7 y8 y9) (saronlaw03_RaspPlayed.j2 (k + 1) y0 y1 y2 y3 y4 y5 y6 y7 y8 y9)) ∧ (∀ y0 y1 y2 y3 y4 y5 y6 y7 y8 y9, LeO (saronlaw03_RaspPlayed.j3 k y0 y1 y2 y3 y4 y5 y6 y7 y8 y9) (saronlaw03_RaspPlayed.j3 (k + 1) y0 y1 y2 y3 y4 y5 y6 y7 y8 y9)) ∧ (∀ y0 y1 y2 y3 y4 y5, LeO (saronlaw03_RaspPlayed.j4 k y0 y1 y2 y3 y4 y5) (saronlaw03_RaspPlayed.j4 (k + 1) y0 y1 y2 y3 y4 y5)) ∧ (∀ y0 y1 y2 y3 y4 y5 y6, LeO (saronlaw03_RaspPlayed.j5 k y0 y1 y2 y3 y4 y5 y6) (saronlaw03_RaspPlayed.j5 (k + 1) y0 y1 y2 y3 y4 y5 y6)) ∧ (∀ y0 y1 y2 y3 y4 y5 y6, LeO (saronlaw03_RaspPlayed.l1 k y0 y1 y2 y3 y4 y5 y6) (saronlaw03_RaspPlayed.l1 (k + 1) y0 y1 y2 y3 y4 y5 y6)) ∧ (∀ y0 y1 y2 y3 y4 y5 y6 y7 y8 y9 y10 y11, LeO (saronlaw03_RaspPlayed.l0 k y0 y1 y2 y3 y4 y5 y6 y7 y8 y9 y10 y11) (saronlaw03_RaspPlayed.l0 (k + 1) y0 y1 y2 y3 y4 y5 y6 y7 y8 y9 y10 y11))
 | 0 => ⟨fun _ _ _ _ _ _ _ _ r h => by simp [saronlaw03_RaspPlayed.j0] at h, fun _ _ _ _ _ _ _ _ _ _ r h => by simp [saronlaw03_RaspPlayed.j2] at h, fun _ _ _ _ _ _ _ _ _ _ r h => by simp [saronlaw03_RaspPlayed.j3] at h, fun _ _ _ _ _ _ r h => by simp [saronlaw03_RaspPlayed.j4] at h, fun _ _ _ _ _ _ _ r h => by simp [saronlaw03_RaspPlayed.j5] at h, fun _ _ _ _ _ _ _ r h => by simp [saronlaw03_RaspPlayed.l1] at h, fun _ _ _ _ _ _ _ _ _ _ _ _ r h => by simp [saronlaw03_RaspPlayed.l0] at h⟩
 | k + 1 => by
  obtain ⟨ih0, ih1, ih2, ih3, ih4, ih5, ih6⟩ := saronlaw03_RaspPlayed.mono_l k
  refine ⟨?_, ?_, ?_, ?_, ?_, ?_, ?_⟩
  ·intro y0 y1 y2 y3 y4 y5 y6 y7
   unfold saronlaw03_RaspPlayed.j0
   repeat' first
   | (with_reducible exact ih0 _ _ _ _ _ _ _ _)
   | (with_reducible exact ih1 _ _ _ _ _ _ _ _ _ _)
   | (with_reducible exact ih2 _ _ _ _ _ _ _ _ _ _)
   | (with_reducible exact ih3 _ _ _ _ _ _)
   | (with_reducible exact ih4 _ _ _ _ _ _ _)
   | (with_reducible exact ih5 _ _ _ _ _ _ _)
   | (with_reducible exact ih6 _ _ _ _ _ _ _ _ _ _ _ _)
   | (with_reducible exact rasp_Told.mono _ _ _ _ _ _)
   | (with_reducible exact saronlaw03_sound.mono _ _ _ _ _)
   | (with_reducible exact saronref00_Equal.mono _ _ _)
   | (with_reducible exact saronref00_Grows.mono _ _ _)
   | (with_reducible exact saronref00_Where.mono _ _ _)
   | (with_reducible exact LeO.refl _)
   | (with_reducible exact LeO.none _)
   | (with_reducible refine LeO.ite ?_ ?_)
   | (with_reducible refine LeO.bind ?_ (fun _ => ?_))
   | exact ih0 _ _ _ _ _ _ _ _
   | exact ih1 _ _ _ _ _ _ _ _ _ _
   | exact ih2 _ _ _ _ _ _ _ _ _ _
   | exact ih3 _ _ _ _ _ _
   | exact ih4 _ _ _ _ _ _ _
   | exact ih5 _ _ _ _ _ _ _
   | exact ih6 _ _ _ _ _ _ _ _ _ _ _ _
   | exact rasp_Told.mono _ _ _ _ _ _
   | exact saronlaw03_sound.mono _ _ _ _ _
   | exact saronref00_Equal.mono _ _ _
   | exact saronref00_Grows.mono _ _ _
   | exact saronref00_Where.mono _ _ _
   | exact LeO.none _
   | refine LeO.ite ?_ ?_
   | refine LeO.bind ?_ (fun _ => ?_)
  ·intro y0 y1 y2 y3 y4 y5 y6 y7 y8 y9
   unfold saronlaw03_RaspPlayed.j2
   repeat' first
   | (with_reducible exact ih0 _ _ _ _ _ _ _ _)
   | (with_reducible exact ih1 _ _ _ _ _ _ _ _ _ _)
   | (with_reducible exact ih2 _ _ _ _ _ _ _ _ _ _)
   | (with_reducible exact ih3 _ _ _ _ _ _)
   | (with_reducible exact ih4 _ _ _ _ _ _ _)
   | (with_reducible exact ih5 _ _ _ _ _ _ _)
   | (with_reducible exact ih6 _ _ _ _ _ _ _ _ _ _ _ _)
   | (with_reducible exact rasp_Told.mono _ _ _ _ _ _)
   | (with_reducible exact saronlaw03_sound.mono _ _ _ _ _)
   | (with_reducible exact saronref00_Equal.mono _ _ _)
   | (with_reducible exact saronref00_Grows.mono _ _ _)
   | (with_reducible exact saronref00_Where.mono _ _ _)
   | (with_reducible exact LeO.refl _)
   | (with_reducible exact LeO.none _)
   | (with_reducible refine LeO.ite ?_ ?_)
   | (with_reducible refine LeO.bind ?_ (fun _ => ?_))
   | exact ih0 _ _ _ _ _ _ _ _
   | exact ih1 _ _ _ _ _ _ _ _ _ _
   | exact ih2 _ _ _ _ _ _ _ _ _ _
   | exact ih3 _ _ _ _ _ _
   | exact ih4 _ _ _ _ _ _ _
   | exact ih5 _ _ _ _ _ _ _
   | exact ih6 _ _ _ _ _ _ _ _ _ _ _ _
   | exact rasp_Told.mono _ _ _ _ _ _
   | exact saronlaw03_sound.mono _ _ _ _ _
   | exact saronref00_Equal.mono _ _ _
   | exact saronref00_Grows.mono _ _ _
   | exact saronref00_Where.mono _ _ _
   | exact LeO.none _
   | refine LeO.ite ?_ ?_
   | refine LeO.bind ?_ (fun _ => ?_)
  ·intro y0 y1 y2 y3 y4 y5 y6 y7 y8 y9
   unfold saronlaw03_RaspPlayed.j3
   repeat' first
   | (with_reducible exact ih0 _ _ _ _ _ _ _ _)
   | (with_reducible exact ih1 _ _ _ _ _ _ _ _ _ _)
   | (with_reducible exact ih2 _ _ _ _ _ _ _ _ _ _)
   | (with_reducible exact ih3 _ _ _ _ _ _)
   | (with_reducible exact ih4 _ _ _ _ _ _ _)
   | (with_reducible exact ih5 _ _ _ _ _ _ _)
   | (with_reducible exact ih6 _ _ _ _ _ _ _ _ _ _ _ _)
   | (with_reducible exact rasp_Told.mono _ _ _ _ _ _)
   | (with_reducible exact saronlaw03_sound.mono _ _ _ _ _)
   | (with_reducible exact saronref00_Equal.mono _ _ _)
   | (with_reducible exact saronref00_Grows.mono _ _ _)
   | (with_reducible exact saronref00_Where.mono _ _ _)
   | (with_reducible exact LeO.refl _)
   | (with_reducible exact LeO.none _)
   | (with_reducible refine LeO.ite ?_ ?_)
   | (with_reducible refine LeO.bind ?_ (fun _ => ?_))
   | exact ih0 _ _ _ _ _ _ _ _
   | exact ih1 _ _ _ _ _ _ _ _ _ _
   | exact ih2 _ _ _ _ _ _ _ _ _ _
   | exact ih3 _ _ _ _ _ _
   | exact ih4 _ _ _ _ _ _ _
   | exact ih5 _ _ _ _ _ _ _
   | exact ih6 _ _ _ _ _ _ _ _ _ _ _ _
   | exact rasp_Told.mono _ _ _ _ _ _
   | exact saronlaw03_sound.mono _ _ _ _ _
   | exact saronref00_Equal.mono _ _ _
   | exact saronref00_Grows.mono _ _ _
   | exact saronref00_Where.mono _ _ _
   | exact LeO.none _
   | refine LeO.ite ?_ ?_
   | refine LeO.bind ?_ (fun _ => ?_)
  ·intro y0 y1 y2 y3 y4 y5
   unfold saronlaw03_RaspPlayed.j4
   repeat' first
   | (with_reducible exact ih0 _ _ _ _ _ _ _ _)
   | (with_reducible exact ih1 _ _ _ _ _ _ _ _ _ _)
   | (with_reducible exact ih2 _ _ _ _ _ _ _ _ _ _)
   | (with_reducible exact ih3 _ _ _ _ _ _)
   | (with_reducible exact ih4 _ _ _ _ _ _ _)
   | (with_reducible exact ih5 _ _ _ _ _ _ _)
   | (with_reducible exact ih6 _ _ _ _ _ _ _ _ _ _ _ _)
   | (with_reducible exact rasp_Told.mono _ _ _ _ _ _)
   | (with_reducible exact saronlaw03_sound.mono _ _ _ _ _)
   | (with_reducible exact saronref00_Equal.mono _ _ _)
   | (with_reducible exact saronref00_Grows.mono _ _ _)
   | (with_reducible exact saronref00_Where.mono _ _ _)
   | (with_reducible exact LeO.refl _)
   | (with_reducible exact LeO.none _)
   | (with_reducible refine LeO.ite ?_ ?_)
   | (with_reducible refine LeO.bind ?_ (fun _ => ?_))
   | exact ih0 _ _ _ _ _ _ _ _
   | exact ih1 _ _ _ _ _ _ _ _ _ _
   | exact ih2 _ _ _ _ _ _ _ _ _ _
   | exact ih3 _ _ _ _ _ _
   | exact ih4 _ _ _ _ _ _ _
   | exact ih5 _ _ _ _ _ _ _
   | exact ih6 _ _ _ _ _ _ _ _ _ _ _ _
   | exact rasp_Told.mono _ _ _ _ _ _
   | exact saronlaw03_sound.mono _ _ _ _ _
   | exact saronref00_Equal.mono _ _ _
   | exact saronref00_Grows.mono _ _ _
   | exact saronref00_Where.mono _ _ _
   | exact LeO.none _
   | refine LeO.ite ?_ ?_
   | refine LeO.bind ?_ (fun _ => ?_)
  ·intro y0 y1 y2 y3 y4 y5 y6
   unfold saronlaw03_RaspPlayed.j5
   repeat' first
   | (with_reducible exact ih0 _ _ _ _ _ _ _ _)
   | (with_reducible exact ih1 _ _ _ _ _ _ _ _ _ _)
   | (with_reducible exact ih2 _ _ _ _ _ _ _ _ _ _)
   | (with_reducible exact ih3 _ _ _ _ _ _)
   | (with_reducible exact ih4 _ _ _ _ _ _ _)
   | (with_reducible exact ih5 _ _ _ _ _ _ _)
   | (with_reducible exact ih6 _ _ _ _ _ _ _ _ _ _ _ _)
   | (with_reducible exact rasp_Told.mono _ _ _ _ _ _)
   | (with_reducible exact saronlaw03_sound.mono _ _ _ _ _)
   | (with_reducible exact saronref00_Equal.mono _ _ _)
   | (with_reducible exact saronref00_Grows.mono _ _ _)
   | (with_reducible exact saronref00_Where.mono _ _ _)
   | (with_reducible exact LeO.refl _)
   | (with_reducible exact LeO.none _)
   | (with_reducible refine LeO.ite ?_ ?_)
   | (with_reducible refine LeO.bind ?_ (fun _ => ?_))
   | exact ih0 _ _ _ _ _ _ _ _
   | exact ih1 _ _ _ _ _ _ _ _ _ _
   | exact ih2 _ _ _ _ _ _ _ _ _ _
   | exact ih3 _ _ _ _ _ _
   | exact ih4 _ _ _ _ _ _ _
   | exact ih5 _ _ _ _ _ _ _
   | exact ih6 _ _ _ _ _ _ _ _ _ _ _ _
   | exact rasp_Told.mono _ _ _ _ _ _
   | exact saronlaw03_sound.mono _ _ _ _ _
   | exact saronref00_Equal.mono _ _ _
   | exact saronref00_Grows.mono _ _ _
   | exact saronref00_Where.mono _ _ _
   | exact LeO.none _
   | refine LeO.ite ?_ ?_
   | refine LeO.bind ?_ (fun _ => ?_)
  ·intro y0 y1 y2 y3 y4 y5 y6
   unfold saronlaw03_RaspPlayed.l1
   repeat' first
   | (with_reducible exact ih0 _ _ _ _ _ _ _ _)
   | (with_reducible exact ih1 _ _ _ _ _ _ _ _ _ _)
   | (with_reducible exact ih2 _ _ _ _ _ _ _ _ _ _)
   | (with_reducible exact ih3 _ _ _ _ _ _)
   | (with_reducible exact ih4 _ _ _ _ _ _ _)
   | (with_reducible exact ih5 _ _ _ _ _ _ _)
   | (with_reducible exact ih6 _ _ _ _ _ _ _ _ _ _ _ _)
   | (with_reducible exact rasp_Told.mono _ _ _ _ _ _)
   | (with_reducible exact saronlaw03_sound.mono _ _ _ _ _)
   | (with_reducible exact saronref00_Equal.mono _ _ _)
   | (with_reducible exact saronref00_Grows.mono _ _ _)
   | (with_reducible exact saronref00_Where.mono _ _ _)
   | (with_reducible exact LeO.refl _)
   | (with_reducible exact LeO.none _)
   | (with_reducible refine LeO.ite ?_ ?_)
   | (with_reducible refine LeO.bind ?_ (fun _ => ?_))
   | exact ih0 _ _ _ _ _ _ _ _
   | exact ih1 _ _ _ _ _ _ _ _ _ _
   | exact ih2 _ _ _ _ _ _ _ _ _ _
   | exact ih3 _ _ _ _ _ _
   | exact ih4 _ _ _ _ _ _ _
   | exact ih5 _ _ _ _ _ _ _
   | exact ih6 _ _ _ _ _ _ _ _ _ _ _ _
   | exact rasp_Told.mono _ _ _ _ _ _
   | exact saronlaw03_sound.mono _ _ _ _ _
   | exact saronref00_Equal.mono _ _ _
   | exact saronref00_Grows.mono _ _ _
   | exact saronref00_Where.mono _ _ _
   | exact LeO.none _
   | refine LeO.ite ?_ ?_
   | refine LeO.bind ?_ (fun _ => ?_)
  ·intro y0 y1 y2 y3 y4 y5 y6 y7 y8 y9 y10 y11
   unfold saronlaw03_RaspPlayed.l0
   repeat' first
   | (with_reducible exact ih0 _ _ _ _ _ _ _ _)
   | (with_reducible exact ih1 _ _ _ _ _ _ _ _ _ _)
   | (with_reducible exact ih2 _ _ _ _ _ _ _ _ _ _)
   | (with_reducible exact ih3 _ _ _ _ _ _)
   | (with_reducible exact ih4 _ _ _ _ _ _ _)
   | (with_reducible exact ih5 _ _ _ _ _ _ _)
   | (with_reducible exact ih6 _ _ _ _ _ _ _ _ _ _ _ _)
   | (with_reducible exact rasp_Told.mono _ _ _ _ _ _)
   | (with_reducible exact saronlaw03_sound.mono _ _ _ _ _)
   | (with_reducible exact saronref00_Equal.mono _ _ _)
   | (with_reducible exact saronref00_Grows.mono _ _ _)
   | (with_reducible exact saronref00_Where.mono _ _ _)
   | (with_reducible exact LeO.refl _)
   | (with_reducible exact LeO.none _)
   | (with_reducible refine LeO.ite ?_ ?_)
   | (with_reducible refine LeO.bind ?_ (fun _ => ?_))
   | exact ih0 _ _ _ _ _ _ _ _
   | exact ih1 _ _ _ _ _ _ _ _ _ _
   | exact ih2 _ _ _ _ _ _ _ _ _ _
   | exact ih3 _ _ _ _ _ _
   | exact ih4 _ _ _ _ _ _ _
   | exact ih5 _ _ _ _ _ _ _
   | exact ih6 _ _ _ _ _ _ _ _ _ _ _ _
   | exact rasp_Told.mono _ _ _ _ _ _
   | exact saronlaw03_sound.mono _ _ _ _ _
   | exact saronref00_Equal.mono _ _ _
   | exact saronref00_Grows.mono _ _ _
   | exact saronref00_Where.mono _ _ _
   | exact LeO.none _
   | refine LeO.ite ?_ ?_
   | refine LeO.bind ?_ (fun _ => ?_)
theorem saronlaw03_RaspPlayed.mono : ∀ a0 a1 a2 a3 a4 a5 a6 k, LeO (saronlaw03_RaspPlayed.f k a0 a1 a2 a3 a4 a5 a6) (saronlaw03_RaspPlayed.f (k + 1) a0 a1 a2 a3 a4 a5 a6) := by
 intro a0 a1 a2 a3 a4 a5 a6 k
 obtain ⟨ih0, ih1, ih2, ih3, ih4, ih5, ih6⟩ := saronlaw03_RaspPlayed.mono_l k
 unfold saronlaw03_RaspPlayed.f
 repeat' first
   | (with_reducible exact ih0 _ _ _ _ _ _ _ _)
   | (with_reducible exact ih1 _ _ _ _ _ _ _ _ _ _)
   | (with_reducible exact ih2 _ _ _ _ _ _ _ _ _ _)
   | (with_reducible exact ih3 _ _ _ _ _ _)
   | (with_reducible exact ih4 _ _ _ _ _ _ _)
   | (with_reducible exact ih5 _ _ _ _ _ _ _)
   | (with_reducible exact ih6 _ _ _ _ _ _ _ _ _ _ _ _)
   | (with_reducible exact rasp_Told.mono _ _ _ _ _ _)
   | (with_reducible exact saronlaw03_sound.mono _ _ _ _ _)
   | (with_reducible exact saronref00_Equal.mono _ _ _)
   | (with_reducible exact saronref00_Grows.mono _ _ _)
   | (with_reducible exact saronref00_Where.mono _ _ _)
   | (with_reducible exact LeO.refl _)
   | (with_reducible exact LeO.none _)
   | (with_reducible refine LeO.ite ?_ ?_)
   | (with_reducible refine LeO.bind ?_ (fun _ => ?_))
   | exact ih0 _ _ _ _ _ _ _ _
   | exact ih1 _ _ _ _ _ _ _ _ _ _
   | exact ih2 _ _ _ _ _ _ _ _ _ _
   | exact ih3 _ _ _ _ _ _
   | exact ih4 _ _ _ _ _ _ _
   | exact ih5 _ _ _ _ _ _ _
   | exact ih6 _ _ _ _ _ _ _ _ _ _ _ _
   | exact rasp_Told.mono _ _ _ _ _ _
   | exact saronlaw03_sound.mono _ _ _ _ _
   | exact saronref00_Equal.mono _ _ _
   | exact saronref00_Grows.mono _ _ _
   | exact saronref00_Where.mono _ _ _
   | exact LeO.none _
   | refine LeO.ite ?_ ?_
   | refine LeO.bind ?_ (fun _ => ?_)
def saronlaw03_RaspPlayed.T4 : Bool × List (List Nat × List Nat) := (true, [([], []), ([0], [0]), ([], []), ([1, 2], [1, 2]), ([3], [3]), ([4], [4]), ([], []), ([6], [6]), ([5, 7], [5, 7]), ([], []), ([9], [9]), ([], []), ([10, 11], [10, 11]), ([12], [12]), ([13], [13]), ([8, 8, 0, 1, 2, 3, 4, 5, 6, 7, 8], [8]), ([14, 15, 0, 1, 2, 3, 4, 5, 6, 7, 8, 9, 10, 11, 12, 13, 14, 15], [14])])
def saronlaw03_RaspPlayed.B4 : List Nat := [0, 1, 0, 7, 15, 31, 0, 64, 255, 0, 512, 0, 3584, 7680, 15872, 511, 65535]
theorem saronlaw03_RaspPlayed.tab4 : rtab .any (opsOf Tryd.f14 4) = saronlaw03_RaspPlayed.T4 := by kernel_rfl
theorem saronlaw03_RaspPlayed.bits4 : waitsOk saronlaw03_RaspPlayed.T4.2 saronlaw03_RaspPlayed.B4 = true := by kernel_rfl
def saronlaw03_RaspPlayed.T16 : Bool × List (List Nat × List Nat) := (true, [([], []), ([0], [0]), ([], []), ([1, 2], [1, 2]), ([3], [3]), ([4], [4]), ([], []), ([], []), ([7], [7]), ([6, 8], [6, 8]), ([5, 9, 9], [5, 9]), ([10, 10, 0, 1, 2, 3, 4, 5, 6, 7, 8, 9, 10], [10])])
def saronlaw03_RaspPlayed.B16 : List Nat := [0, 1, 0, 7, 15, 31, 0, 0, 128, 448, 1023, 2047]
theorem saronlaw03_RaspPlayed.tab16 : rtab .any (opsOf Tryd.f14 16) = saronlaw03_RaspPlayed.T16 := by kernel_rfl
theorem saronlaw03_RaspPlayed.bits16 : waitsOk saronlaw03_RaspPlayed.T16.2 saronlaw03_RaspPlayed.B16 = true := by kernel_rfl
def saronlaw03_RaspPlayed.T18 : Bool × List (List Nat × List Nat) := (true, [([], []), ([], []), ([0, 1], [0, 1]), ([], []), ([], []), ([4], [4]), ([], []), ([5, 6], [5, 6]), ([7], [7]), ([8], [8]), ([3, 9], [3, 9]), ([2, 0, 1, 2], [0, 2]), ([10, 11, 0, 1, 2, 3, 4, 5, 6, 7, 8, 9, 10, 11], [3, 10])])
def saronlaw03_RaspPlayed.B18 : List Nat := [0, 0, 3, 0, 0, 16, 0, 112, 240, 496, 1016, 7, 4095]
theorem saronlaw03_RaspPlayed.tab18 : rtab .any (opsOf Tryd.f14 18) = saronlaw03_RaspPlayed.T18 := by kernel_rfl
theorem saronlaw03_RaspPlayed.bits18 : waitsOk saronlaw03_RaspPlayed.T18.2 saronlaw03_RaspPlayed.B18 = true := by kernel_rfl
def saronlaw03_RaspPlayed.T24 : Bool × List (List Nat × List Nat) := (true, [([], []), ([], []), ([], []), ([], []), ([3], [3]), ([0, 1, 2, 4, 4], [0, 1, 2, 4]), ([5], [5]), ([6], [6]), ([6], [6]), ([6], [6]), ([7, 5, 0, 1, 2, 3, 4, 5, 6, 7], [7]), ([8, 10, 0, 1, 2, 3, 4, 5, 6, 7, 8, 10], [8]), ([9, 11, 0, 1, 2, 3, 4, 5, 6, 7, 8, 9, 10, 11], [9])])
def saronlaw03_RaspPlayed.B24 : List Nat := [0, 0, 0, 0, 8, 31, 63, 127, 127, 127, 255, 1535, 4095]
theorem saronlaw03_RaspPlayed.tab24 : rtab .any (opsOf Tryd.f14 24) = saronlaw03_RaspPlayed.T24 := by kernel_rfl
theorem saronlaw03_RaspPlayed.bits24 : waitsOk saronlaw03_RaspPlayed.T24.2 saronlaw03_RaspPlayed.B24 = true := by kernel_rfl
def saronlaw03_RaspPlayed.T28 : Bool × List (List Nat × List Nat) := (true, [([], []), ([], []), ([], []), ([], []), ([], []), ([4], [4]), ([5], [5]), ([3, 6], [3, 6]), ([0, 1, 2, 7], [0, 1, 2, 7]), ([8], [8]), ([9], [9]), ([9], [9]), ([9], [9]), ([12, 8, 0, 1, 2, 3, 4, 5, 6, 7, 8, 9, 10, 11, 12], [12])])
def saronlaw03_RaspPlayed.B28 : List Nat := [0, 0, 0, 0, 0, 16, 48, 120, 255, 511, 1023, 1023, 1023, 8191]
theorem saronlaw03_RaspPlayed.tab28 : rtab .any (opsOf Tryd.f14 28) = saronlaw03_RaspPlayed.T28 := by kernel_rfl
theorem saronlaw03_RaspPlayed.bits28 : waitsOk saronlaw03_RaspPlayed.T28.2 saronlaw03_RaspPlayed.B28 = true := by kernel_rfl
def saronlaw03_RaspPlayed.T37 : Bool × List (List Nat × List Nat) := (true, [([], []), ([], []), ([0, 1], [0, 1]), ([2], [2]), ([], []), ([], []), ([4, 5], [4, 5]), ([6], [6]), ([3, 7], [3, 7]), ([8], [8]), ([9, 8], [9]), ([10], [10]), ([10], [10]), ([11, 12, 10], [10, 11, 12]), ([13, 10], [10, 13]), ([10], [10]), ([15, 10], [10, 15]), ([16, 10], [10, 16]), ([14, 17, 10, 10], [10, 14, 17]), ([18, 10], [10, 18]), ([10, 19], [10, 19])])
def saronlaw03_RaspPlayed.B37 : List Nat := [0, 0, 3, 7, 0, 0, 48, 112, 255, 511, 1023, 2047, 2047, 8191, 16383, 2047, 34815, 100351, 262143, 524287, 1048575]
theorem saronlaw03_RaspPlayed.tab37 : rtab .any (opsOf Tryd.f14 37) = saronlaw03_RaspPlayed.T37 := by kernel_rfl
theorem saronlaw03_RaspPlayed.bits37 : waitsOk saronlaw03_RaspPlayed.T37.2 saronlaw03_RaspPlayed.B37 = true := by kernel_rfl
set_option maxHeartbeats 8000000 in
set_option maxRecDepth 100000 in
theorem saronlaw03_RaspPlayed.calls (k : Nat) (A0_0 : Option Addr) (c0_0 : Nat) (l0_0 : List (S57)) (a0_1 : Int) (a0_2 : Int) (A0_3 : Option Addr) (c0_3 : Nat) (l0_3 : List (S69)) (a1_0 : Int) (a1_1 : Int) (A2 : Option Addr) (c2 : Nat) (l2 : List Int) (r : Bool) (w : World) (hr0_0 : Kd.C k57 w A0_0 l0_0.length l0_0) (hc0_0 : l0_0.length ≤ c0_0) (hr0_3 : Kd.C k69 w A0_3 l0_3.length l0_3) (hc0_3 : l0_3.length ≤ c0_3) (hr2 : Kd.C (Kd.int .i64) w A2 l2.length l2) (hc2 : l2.length ≤ c2) (hG : Glob w) (h : saronlaw03_RaspPlayed.f k l0_0 a0_1 a0_2 l0_3 a1_0 a1_1 l2 = some r) :
  Calls Tryd.prog 14 #[.agg #[.slice A0_0 l0_0.length c0_0, .int .i64 a0_1, .int .i64 a0_2, .slice A0_3 l0_3.length c0_3], .agg #[.int .i64 a1_0, .int .i64 a1_1], .slice A2 l2.length c2] w fun e w' => e = .returned (.bool r) ∧ Below w.heap.size w w' := by
 have hu27 := Tryd.underlying27
 have hu28 := Tryd.underlying28
 have hu24 := Tryd.underlying24
 have HR0_0 := Aside0.mk hr0_0
 have HC0_0 := Aside0.mk hc0_0
 clear hr0_0 hc0_0
 have HR0_3 := Aside0.mk hr0_3
 have HC0_3 := Aside0.mk hc0_3
 clear hr0_3 hc0_3
 have HR2 := Aside0.mk hr2
 have HC2 := Aside0.mk hc2
 clear hr2 hc2
 have HB := Aside0.mk (Below.refl w.heap.size w)
 have HG := Aside0.mk hG
 clear hG
 have H : ((saronlaw03_sound.f k l0_0 a0_1 a0_2 l0_3).bind fun t200 => (if t200 = true then (saronlaw03_RaspPlayed.j0 k l2 ((l0_3.length : Int) == 0) l0_0 a0_1 a0_2 l0_3 a1_0 a1_1) else (saronlaw03_RaspPlayed.j0 k l2 true l0_0 a0_1 a0_2 l0_3 a1_0 a1_1))) = some r := h
 clear h
 have HC4 := Aside0.mk H
 clear H
 go_enter Tryd.func14, Tryd.ntmps14
 go_upto_region 1 with (first | ((with_reducible refine gate_dst (N := 3) rfl ?_); (try (refine gate_guard (by rfl) ?_; dsimp only)); refine box_event ?hg (N := 3) ?hd (cs := #[.slice A0_0 l0_0.length c0_0, .int .i64 a0_1, .int .i64 a0_2, .slice A0_3 l0_3.length c0_3]) (t := 27) ?hr ?_; (case hd => rfl); (case hg => rfl); (case hr => exact TS); intro gb198 hg w5 hbox hb; have BK198 := Aside0.mk (hbox); have GW198 := Aside0.mk ((TG : w.heap.size ≤ gb198)); have GE198 := Aside0.mk ((TG : w.heap.size ≤ gb198)); replace HB := Aside0.mk (below_step TB hb); clear hb hbox hg) | ((with_reducible refine gate_dst (N := 4) rfl ?_); (try (refine gate_guard (by rfl) ?_; dsimp only)); refine box_event ?hg (N := 4) ?hd (cs := #[.int .i64 a1_0, .int .i64 a1_1]) (t := 28) ?hr ?_; (case hd => rfl); (case hg => rfl); (case hr => exact TS); intro gb199 hg w6 hbox hb; have BK199 := Aside0.mk (hbox); have GW199 := Aside0.mk ((TG1 GE198.out : w.heap.size ≤ gb199)); have GE199 := Aside0.mk ((TG1 GE198.out : w.heap.size ≤ gb199)); have NB198_199 := Aside0.mk ((by rw [hg]; exact Nat.ne_of_lt (blk_lt (g := gb198) (o := .cells #[.slice A0_0 l0_0.length c0_0, .int .i64 a0_1, .int .i64 a0_2, .slice A0_3 l0_3.length c0_3] 27 (0, 0)) (by (with_reducible repeat (first | refine blk_drewN ?_ _ | refine blk_drew ?_ | refine blk_alloc ?_ _)); exact BK198.out)) : gb198 ≠ gb199)); have NB199_198 := Aside0.mk ((by rw [hg]; exact Nat.ne_of_gt (blk_lt (g := gb198) (o := .cells #[.slice A0_0 l0_0.length c0_0, .int .i64 a0_1, .int .i64 a0_2, .slice A0_3 l0_3.length c0_3] 27 (0, 0)) (by (with_reducible repeat (first | refine blk_drewN ?_ _ | refine blk_drew ?_ | refine blk_alloc ?_ _)); exact BK198.out)) : gb199 ≠ gb198)); replace BK198 := Aside0.mk (blk_below (g := gb198) (o := .cells #[.slice A0_0 l0_0.length c0_0, .int .i64 a0_1, .int .i64 a0_2, .slice A0_3 l0_3.length c0_3] 27 (0, 0)) (by (with_reducible repeat (first | refine blk_drewN ?_ _ | refine blk_drew ?_ | refine blk_alloc ?_ _)); exact BK198.out) hb); replace HB := Aside0.mk (below_step (TB1 GE198.out) hb); clear hb hbox hg))
 (try simp only [Act.put, lA, lZ, lS])
 go_cut [40] (fun v40 wc => ∃ (kq : Nat) (x40_3 : Bool), v40 = .bool x40_3 ∧ Aside0 (saronlaw03_RaspPlayed.j0 kq l2 x40_3 l0_0 a0_1 a0_2 l0_3 a1_0 a1_1 = some r) ∧ Aside0 (kq ≤ k) ∧ Aside0 (wc.heap[gb198]? = some (.cells #[(.slice A0_0 l0_0.length c0_0), .int .i64 a0_1, .int .i64 a0_2, (.slice A0_3 l0_3.length c0_3)] 27 (0, 0))) ∧ Aside0 (wc.heap[gb199]? = some (.cells #[.int .i64 a1_0, .int .i64 a1_1] 28 (0, 0))) ∧ Aside0 (Below w.heap.size w wc))
 case first => as_aux_lemma =>
  have H := HC4.out
  clear HC4
  replace H := Option.bind_eq_some_iff.mp H
  obtain ⟨t200, A70, H⟩ := H
  replace H : (if t200 = true then (saronlaw03_RaspPlayed.j0 k l2 ((l0_3.length : Int) == 0) l0_0 a0_1 a0_2 l0_3 a1_0 a1_1) else (saronlaw03_RaspPlayed.j0 k l2 true l0_0 a0_1 a0_2 l0_3 a1_0 a1_1)) = some r := H
  have A7 := Aside0.mk A70
  clear A70
  by_cases c8 : t200 = true
  ·subst c8
   have H1 : (saronlaw03_RaspPlayed.j0 k l2 ((l0_3.length : Int) == 0) l0_0 a0_1 a0_2 l0_3 a1_0 a1_1) = some r := by rw [if_pos rfl] at H; exact H
   clear H
   have H := H1
   clear H1
   have H' := Aside0.mk H
   clear H
   have hnb9 := NB198_199.out
   have hnc9 := NB199_198.out
   have hcz10_0 := czz BK198.out 0
   have hcz10_1 := czz BK198.out 1
   have hcz10_2 := czz BK198.out 2
   have hcz10_3 := czz BK198.out 3
   have hfz10_0 := fz BK198.out 0
   have hfz10_1 := fz BK198.out 1
   have hfz10_2 := fz BK198.out 2
   have hfz10_3 := fz BK198.out 3
   go_wp2_with (first | ((with_reducible refine gate_callee (f := 37) rfl ?_); refine goesL_ (some 33) rfl rfl Tryd.func37 (by kernel_rfl) rfl #[.agg #[.slice A0_0 l0_0.length c0_0, .int .i64 a0_1, .int .i64 a0_2, .slice A0_3 l0_3.length c0_3]] rfl TM ?_; (with_reducible refine (saronlaw03_sound.calls k _ _ l0_0 a0_1 a0_2 _ _ l0_3 true _ ?side1 ?side2 ?side3 ?side4 A7.out).mono ?_); (case side1 => exact TC HR0_0.out); (case side2 => exact HC0_0.out); (case side3 => exact TC HR0_3.out); (case side4 => exact HC0_3.out); rintro e w11 ⟨rfl, hb⟩; refine ⟨_, rfl, ?_⟩; replace BK198 := Aside0.mk (blk_below (g := gb198) (o := .cells #[.slice A0_0 l0_0.length c0_0, .int .i64 a0_1, .int .i64 a0_2, .slice A0_3 l0_3.length c0_3] 27 (0, 0)) (by (with_reducible repeat (first | refine blk_drewN ?_ _ | refine blk_drew ?_ | refine blk_alloc ?_ _)); exact BK198.out) hb); replace BK199 := Aside0.mk (blk_below (g := gb199) (o := .cells #[.int .i64 a1_0, .int .i64 a1_1] 28 (0, 0)) (by (with_reducible repeat (first | refine blk_drewN ?_ _ | refine blk_drew ?_ | refine blk_alloc ?_ _)); exact BK199.out) hb); replace HB := Aside0.mk (below_step (TB2 GE198.out GE199.out) hb); (try clear hb); (try clear hb2); (try clear hk); (try clear hi); have hcz12_0 := czz BK198.out 0; have hcz12_1 := czz BK198.out 1; have hcz12_2 := czz BK198.out 2; have hcz12_3 := czz BK198.out 3; have hfz12_0 := fz BK198.out 0; have hfz12_1 := fz BK198.out 1; have hfz12_2 := fz BK198.out 2; have hfz12_3 := fz BK198.out 3))
   go_meet
   case rel => exact ⟨_, (((l0_3.length : Int) == 0)), TT, H', ⟨by first | omega | exact Nat.le_refl _⟩, ⟨by (with_reducible repeat (first | refine blk_drewN ?_ _ | refine blk_drew ?_ | refine blk_alloc ?_ _)); exact BK198.out⟩, ⟨by (with_reducible repeat (first | refine blk_drewN ?_ _ | refine blk_drew ?_ | refine blk_alloc ?_ _)); exact BK199.out⟩, ⟨TB2 GE198.out GE199.out⟩⟩
  ·replace c8 := Bool.eq_false_iff.mpr c8
   subst c8
   have H1 : (saronlaw03_RaspPlayed.j0 k l2 true l0_0 a0_1 a0_2 l0_3 a1_0 a1_1) = some r := by rw [if_neg (show ¬ (false = true) by decide)] at H; exact H
   clear H
   have H := H1
   clear H1
   have H' := Aside0.mk H
   clear H
   have hnb13 := NB198_199.out
   have hnc13 := NB199_198.out
   have hcz14_0 := czz BK198.out 0
   have hcz14_1 := czz BK198.out 1
   have hcz14_2 := czz BK198.out 2
   have hcz14_3 := czz BK198.out 3
   have hfz14_0 := fz BK198.out 0
   have hfz14_1 := fz BK198.out 1
   have hfz14_2 := fz BK198.out 2
   have hfz14_3 := fz BK198.out 3
   go_wp2_with (first | ((with_reducible refine gate_callee (f := 37) rfl ?_); refine goesL_ (some 33) rfl rfl Tryd.func37 (by kernel_rfl) rfl #[.agg #[.slice A0_0 l0_0.length c0_0, .int .i64 a0_1, .int .i64 a0_2, .slice A0_3 l0_3.length c0_3]] rfl TM ?_; (with_reducible refine (saronlaw03_sound.calls k _ _ l0_0 a0_1 a0_2 _ _ l0_3 false _ ?side1 ?side2 ?side3 ?side4 A7.out).mono ?_); (case side1 => exact TC HR0_0.out); (case side2 => exact HC0_0.out); (case side3 => exact TC HR0_3.out); (case side4 => exact HC0_3.out); rintro e w15 ⟨rfl, hb⟩; refine ⟨_, rfl, ?_⟩; replace BK198 := Aside0.mk (blk_below (g := gb198) (o := .cells #[.slice A0_0 l0_0.length c0_0, .int .i64 a0_1, .int .i64 a0_2, .slice A0_3 l0_3.length c0_3] 27 (0, 0)) (by (with_reducible repeat (first | refine blk_drewN ?_ _ | refine blk_drew ?_ | refine blk_alloc ?_ _)); exact BK198.out) hb); replace BK199 := Aside0.mk (blk_below (g := gb199) (o := .cells #[.int .i64 a1_0, .int .i64 a1_1] 28 (0, 0)) (by (with_reducible repeat (first | refine blk_drewN ?_ _ | refine blk_drew ?_ | refine blk_alloc ?_ _)); exact BK199.out) hb); replace HB := Aside0.mk (below_step (TB2 GE198.out GE199.out) hb); (try clear hb); (try clear hb2); (try clear hk); (try clear hi)))
   go_meet
   case rel => exact ⟨_, (true), TT, H', ⟨by first | omega | exact Nat.le_refl _⟩, ⟨by (with_reducible repeat (first | refine blk_drewN ?_ _ | refine blk_drew ?_ | refine blk_alloc ?_ _)); exact BK198.out⟩, ⟨by (with_reducible repeat (first | refine blk_drewN ?_ _ | refine blk_drew ?_ | refine blk_alloc ?_ _)); exact BK199.out⟩, ⟨TB2 GE198.out GE199.out⟩⟩
 case rest => as_aux_lemma =>
  clear HC4
  try clear c1
  try clear c2
  try clear p2
  try clear c3
  try clear c8
  try clear c9
  try clear c13
  try clear c14
  try clear hcz10_0 hcz10_1 hcz10_2 hcz10_3
  try clear hcz12_0 hcz12_1 hcz12_2 hcz12_3
  try clear hcz14_0 hcz14_1 hcz14_2 hcz14_3
  try clear hfz10_0 hfz10_1 hfz10_2 hfz10_3
  try clear hfz12_0 hfz12_1 hfz12_2 hfz12_3
  try clear hfz14_0 hfz14_1 hfz14_2 hfz14_3
  obtain ⟨kq, x40_3, rfl, HA, HJ3, BK198, BK199, HB⟩ := hcut
  cases kq with
  | zero => exact absurd HA.out (by simp [saronlaw03_RaspPlayed.j0])
  | succ kj3 =>
   have H := HA.out
   clear HA
   simp only [saronlaw03_RaspPlayed.j0] at H
   by_cases c16 : x40_3 = true
   ·subst c16
    have H1 : ((saronlaw03_filed.f).bind fun t201 => (some t201)) = some r := by rw [if_pos rfl] at H; exact H
    clear H
    have H := H1
    clear H1
    replace H := Option.bind_eq_some_iff.mp H
    obtain ⟨t201, A170, H⟩ := H
    replace H : (some t201) = some r := H
    have A17 := Aside0.mk A170
    clear A170
    obtain rfl := Option.some.inj H
    go_wp2_with (first | ((with_reducible refine gate_callee (f := 22) rfl ?_); refine goesL_ (some 41) rfl rfl Tryd.func22 (by kernel_rfl) rfl #[] rfl TM ?_; (with_reducible refine (saronlaw03_filed.calls  t201 _ ?side1 A17.out).mono ?_); (case side1 => exact Glob.fr HG.out (Fr.of_below (TB2 GE198.out GE199.out))); rintro e w18 ⟨rfl, hb⟩; refine ⟨_, rfl, ?_⟩; replace BK198 := Aside0.mk (blk_below (g := gb198) (o := .cells #[.slice A0_0 l0_0.length c0_0, .int .i64 a0_1, .int .i64 a0_2, .slice A0_3 l0_3.length c0_3] 27 (0, 0)) (by (with_reducible repeat (first | refine blk_drewN ?_ _ | refine blk_drew ?_ | refine blk_alloc ?_ _)); exact BK198.out) hb); replace BK199 := Aside0.mk (blk_below (g := gb199) (o := .cells #[.int .i64 a1_0, .int .i64 a1_1] 28 (0, 0)) (by (with_reducible repeat (first | refine blk_drewN ?_ _ | refine blk_drew ?_ | refine blk_alloc ?_ _)); exact BK199.out) hb); replace HB := Aside0.mk (below_step (TB2 GE198.out GE199.out) hb); (try clear hb); (try clear hb2); (try clear hk); (try clear hi)))
    go_ret
    exact ⟨TR, TB2 GE198.out GE199.out⟩
   ·replace c16 := Bool.eq_false_iff.mpr c16
    subst c16
    have H1 : ((saronref00_Turn.f a1_0 (l0_3.length : Int)).bind fun t202 => (if 0 ≤ t202 then (if t202 < (l0_3.length : Int) then ((saronref00_Draw.f ((rd_T69 l0_3 t202).f0.f0) ((rd_T69 l0_3 t202).f0.f1) a1_1).bind fun t204 => (saronlaw03_RaspPlayed.l0 kj3 l2 t202 t204 ((rd_T69 l0_3 t202).f1) t204 ([] : List Int) ([] : List Int) (([t204] : List Int)) l0_0 a0_1 a0_2 l0_3)) else (none)) else (none))) = some r := by rw [if_neg (show ¬ (false = true) by decide)] at H; exact H
    clear H
    have H := H1
    clear H1
    replace H := Option.bind_eq_some_iff.mp H
    obtain ⟨t202, A190, H⟩ := H
    replace H : (if 0 ≤ t202 then (if t202 < (l0_3.length : Int) then ((saronref00_Draw.f ((rd_T69 l0_3 t202).f0.f0) ((rd_T69 l0_3 t202).f0.f1) a1_1).bind fun t204 => (saronlaw03_RaspPlayed.l0 kj3 l2 t202 t204 ((rd_T69 l0_3 t202).f1) t204 ([] : List Int) ([] : List Int) (([t204] : List Int)) l0_0 a0_1 a0_2 l0_3)) else (none)) else (none)) = some r := H
    have A19 := Aside0.mk A190
    clear A190
    by_cases c20 : 0 ≤ t202
    ·rw [if_pos c20] at H
     have c20b0 : decide (0 ≤ t202) = true := decide_eq_true c20
     clear c20
     by_cases c21 : t202 < (l0_3.length : Int)
     ·rw [if_pos c21] at H
      have c21b0 : decide (t202 < (l0_3.length : Int)) = true := decide_eq_true c21
      clear c21
      replace H := Option.bind_eq_some_iff.mp H
      obtain ⟨t204, A220, H⟩ := H
      replace H : (saronlaw03_RaspPlayed.l0 kj3 l2 t202 t204 ((rd_T69 l0_3 t202).f1) t204 ([] : List Int) ([] : List Int) (([t204] : List Int)) l0_0 a0_1 a0_2 l0_3) = some r := H
      have A22 := Aside0.mk A220
      clear A220
      obtain ⟨y206, hy206⟩ : ∃ y_ : List Int, y_ = (([t204] : List Int)) := ⟨_, rfl⟩
      replace H : (saronlaw03_RaspPlayed.l0 kj3 l2 t202 t204 ((rd_T69 l0_3 t202).f1) t204 ([] : List Int) ([] : List Int) y206 l0_0 a0_1 a0_2 l0_3) = some r := by first | (rw [hy206]; with_reducible exact H) | (have H2_ := (Option.bind_some _ _).symm.trans H; rw [hy206]; with_reducible exact H2_) | (have H2_ := (Option.bind_some _ _).symm.trans H; with_reducible exact H2_) | with_reducible exact H | (rw [hy206]; exact H) | exact H
      have Ny206 := Aside0.mk hy206
      clear hy206
      have HC23 := Aside0.mk H
      clear H
      have hnb24 := NB199_198.out
      have hnc24 := NB198_199.out
      have hcz25_0 := czz BK199.out 0
      have hcz25_1 := czz BK199.out 1
      have hfz25_0 := fz BK199.out 0
      have hfz25_1 := fz BK199.out 1
      have hcz26_0 := czz BK198.out 0
      have hcz26_1 := czz BK198.out 1
      have hcz26_2 := czz BK198.out 2
      have hcz26_3 := czz BK198.out 3
      have hfz26_0 := fz BK198.out 0
      have hfz26_1 := fz BK198.out 1
      have hfz26_2 := fz BK198.out 2
      have hfz26_3 := fz BK198.out 3
      try go_wp2_with (first | ((with_reducible refine gate_callee (f := 45) rfl ?_); refine goesL_ (some 47) rfl rfl Tryd.func45 (by kernel_rfl) rfl #[.int .i64 a1_0, .int .i64 (l0_3.length : Int)] rfl TM ?_; (with_reducible refine (saronref00_Turn.calls a1_0 (l0_3.length : Int) t202 _ A19.out).mono ?_); rintro e w' ⟨rfl, ⟨nd, rfl⟩⟩; refine ⟨_, rfl, ?_⟩))
      (try (rw [drewN_self wc]; generalize hq_ : World.drewN wc _ = wc; have n0_ : Aside0 (wc.heap[gb198]? = some (.cells #[.slice A0_0 l0_0.length c0_0, .int .i64 a0_1, .int .i64 a0_2, .slice A0_3 l0_3.length c0_3] 27 (0, 0))) := ⟨by rw [← hq_]; exact (by (with_reducible repeat (first | refine blk_drewN ?_ _ | refine blk_drew ?_ | refine blk_alloc ?_ _)); exact BK198.out)⟩; have n1_ : Aside0 (wc.heap[gb199]? = some (.cells #[.int .i64 a1_0, .int .i64 a1_1] 28 (0, 0))) := ⟨by rw [← hq_]; exact (by (with_reducible repeat (first | refine blk_drewN ?_ _ | refine blk_drew ?_ | refine blk_alloc ?_ _)); exact BK199.out)⟩; have n2_ : Aside0 (Below w.heap.size w wc) := ⟨by rw [← hq_]; exact (TB2 GE198.out GE199.out)⟩; clear BK198 BK199 HB hq_; have BK198 := n0_; have BK199 := n1_; have HB := n2_; clear n0_ n1_ n2_)); have hczq198_0 : wc.cell? ⟨gb198, 0, none⟩ = some (.slice A0_0 l0_0.length c0_0) := czz BK198.out 0; have hfzq198_0 := fz BK198.out 0; have hczq198_1 : wc.cell? ⟨gb198, 1, none⟩ = some (.int .i64 a0_1) := czz BK198.out 1; have hfzq198_1 := fz BK198.out 1; have hczq198_2 : wc.cell? ⟨gb198, 2, none⟩ = some (.int .i64 a0_2) := czz BK198.out 2; have hfzq198_2 := fz BK198.out 2; have hczq198_3 : wc.cell? ⟨gb198, 3, none⟩ = some (.slice A0_3 l0_3.length c0_3) := czz BK198.out 3; have hfzq198_3 := fz BK198.out 3; have hczq199_0 : wc.cell? ⟨gb199, 0, none⟩ = some (.int .i64 a1_0) := czz BK199.out 0; have hfzq199_0 := fz BK199.out 0; have hczq199_1 : wc.cell? ⟨gb199, 1, none⟩ = some (.int .i64 a1_1) := czz BK199.out 1; have hfzq199_1 := fz BK199.out 1
      have n0_ := Aside0.mk (blk_drew BK198.out)
      have n1_ := Aside0.mk (blk_drew BK199.out)
      have n2_ := Aside0.mk (below_drew1 HB.out)
      clear BK198
      clear BK199
      clear HB
      have BK198 := n0_
      have BK199 := n1_
      have HB := n2_
      clear n0_ n1_ n2_
      have p203 : 0 ≤ (t202 : Int) := of_decide_eq_true TA
      have q203 : t202 < (l0_3.length : Int) := of_decide_eq_true TA
      obtain ⟨ad203, e203, hx203_0, hx203_1, hx203_2⟩ := at_T69 HR0_3.out t202 p203 q203
      have hw203_2 := hx203_2
      have hw203_1 := hx203_1
      have hw203_0 := hx203_0
      cases e203
      replace hx203_0 := (HB.out.cell  (World.block_lt_of_cell? w _ hx203_0)).trans hx203_0
      replace hx203_1 := (HB.out.cell  (World.block_lt_of_cell? w _ hx203_1)).trans hx203_1
      replace hx203_2 := (HB.out.cell  (World.block_lt_of_cell? w _ hx203_2)).trans hx203_2
      replace p203 := eq_true p203
      replace q203 := eq_true q203
      have p205 : 0 ≤ (t202 : Int) := of_decide_eq_true TA
      have q205 : t202 < (l0_3.length : Int) := of_decide_eq_true TA
      obtain ⟨ad205, e205, hx205_0, hx205_1, hx205_2⟩ := at_T69 HR0_3.out t202 p205 q205
      have hw205_2 := hx205_2
      have hw205_1 := hx205_1
      have hw205_0 := hx205_0
      obtain rfl : ad203 = ad205 := (by injection e205)
      replace hx205_0 := (HB.out.cell  (World.block_lt_of_cell? w _ hx205_0)).trans hx205_0
      replace hx205_1 := (HB.out.cell  (World.block_lt_of_cell? w _ hx205_1)).trans hx205_1
      replace hx205_2 := (HB.out.cell  (World.block_lt_of_cell? w _ hx205_2)).trans hx205_2
      replace p205 := eq_true p205
      replace q205 := eq_true q205
      refine start_ (n := 17) (S := fun w' => w'.cell? ⟨gb198, 0, none⟩ = some (.slice A0_0 l0_0.length c0_0) ∧ w'.cell? ⟨gb198, 1, none⟩ = some (.int .i64 a0_1) ∧ w'.cell? ⟨gb198, 2, none⟩ = some (.int .i64 a0_2) ∧ w'.cell? ⟨gb198, 3, none⟩ = some (.slice (some ad203) l0_3.length c0_3) ∧ w'.cell? ⟨gb199, 0, none⟩ = some (.int .i64 a1_0) ∧ w'.cell? ⟨gb199, 1, none⟩ = some (.int .i64 a1_1) ∧ w'.cell? (ad203.add ((t202).toNat * 3)) = some (.int .i64 ((rd_T69 l0_3 t202).f0.f0)) ∧ w'.cell? ⟨(ad203.add ((t202).toNat * 3)).block, (ad203.add ((t202).toNat * 3)).off + 1, none⟩ = some (.int .i64 ((rd_T69 l0_3 t202).f0.f1)) ∧ w'.cell? ⟨(ad203.add ((t202).toNat * 3)).block, (ad203.add ((t202).toNat * 3)).off + 2, none⟩ = some (.int .i64 ((rd_T69 l0_3 t202).f1)) ∧ w'.cell? (ad203.add ((t202).toNat * 3)) = some (.int .i64 ((rd_T69 l0_3 t202).f0.f0)) ∧ w'.cell? ⟨(ad203.add ((t202).toNat * 3)).block, (ad203.add ((t202).toNat * 3)).off + 1, none⟩ = some (.int .i64 ((rd_T69 l0_3 t202).f0.f1)) ∧ w'.cell? ⟨(ad203.add ((t202).toNat * 3)).block, (ad203.add ((t202).toNat * 3)).off + 2, none⟩ = some (.int .i64 ((rd_T69 l0_3 t202).f1))) (ds := []) (.replicate 17 false) (by kernel_rfl) rfl rfl ⟨czz BK198.out 0, czz BK198.out 1, czz BK198.out 2, czz BK198.out 3, czz BK199.out 0, czz BK199.out 1, ((HB.out.cell  (World.block_lt_of_cell? w _ hw203_0)).trans hw203_0), ((HB.out.cell  (World.block_lt_of_cell? w _ hw203_1)).trans hw203_1), ((HB.out.cell  (World.block_lt_of_cell? w _ hw203_2)).trans hw203_2), ((HB.out.cell  (World.block_lt_of_cell? w _ hw205_0)).trans hw205_0), ((HB.out.cell  (World.block_lt_of_cell? w _ hw205_1)).trans hw205_1), ((HB.out.cell  (World.block_lt_of_cell? w _ hw205_2)).trans hw205_2)⟩ (fun hHeld => ?_); refine with_tabW saronlaw03_RaspPlayed.tab4 saronlaw03_RaspPlayed.bits4 (fun HT_ HW_ => ?_)
      generalize wc.drew = w27 at BK198 BK199 HB hx203_0 hx203_1 hx203_2 hx205_0 hx205_1 hx205_2 hHeld ⊢
      refine pT 0 48 (bt 17 1) (k := ?_)
      refine pT 2 50 (bt 17 5) (k := ?_)
      refine pT 6 54 (bt 17 69) (k := ?_)
      refine pT 9 57 (bt 17 581) (k := ?_)
      refine pT 11 59 (bt 17 2629) (k := ?_)
      refine tT12 1 49 (bt 17 2631) hHeld (k := ?_)
      refine pT 3 51 (bt 17 2639) (k := ?_)
      refine pT 4 52 (bt 17 2655) (k := ?_)
      refine tT12 5 53 (bt 17 2687) hHeld (k := ?_)
      refine tT12 7 55 (bt 17 2815) hHeld (k := ?_)
      refine tT12 10 58 (bt 17 3839) hHeld (k := ?_)
      refine pT 12 60 (bt 17 7935) (k := ?_)
      refine pT 13 61 (bt 17 16127) (k := ?_)
      refine tT12 14 62 (bt 17 32511) hHeld (k := ?_)
      refine one_ (i := 8) (N := some 56) (bt 17 32767) rfl rfl (one_of HT_.out (by kernel_rfl)) (by decide) (fun K hK => ?_)
      refine goes_ Tryd.func41 (by kernel_rfl) rfl #[.agg #[.int .i64 ((rd_T69 l0_3 t202).f0.f0), .int .i64 ((rd_T69 l0_3 t202).f0.f1)], .int .i64 a1_1] (by rfl) rfl rfl TM ?_
      with_reducible refine (saronref00_Draw.calls ((rd_T69 l0_3 t202).f0.f0) ((rd_T69 l0_3 t202).f0.f1) a1_1 t204 _ A22.out).mono ?_
      rintro e w28 ⟨rfl, hb⟩
      refine ⟨_, rfl, ?_⟩
      have n0_ := Aside0.mk (blk_below (g := gb198) (o := .cells #[.slice A0_0 l0_0.length c0_0, .int .i64 a0_1, .int .i64 a0_2, .slice (some ad203) l0_3.length c0_3] 27 (0, 0)) (by (with_reducible repeat (first | refine blk_drewN ?_ _ | refine blk_drew ?_ | refine blk_alloc ?_ _)); exact BK198.out) hb)
      have n1_ := Aside0.mk (blk_below (g := gb199) (o := .cells #[.int .i64 a1_0, .int .i64 a1_1] 28 (0, 0)) (by (with_reducible repeat (first | refine blk_drewN ?_ _ | refine blk_drew ?_ | refine blk_alloc ?_ _)); exact BK199.out) hb)
      have n2_ := Aside0.mk (below_step (TB2 GE198.out GE199.out) hb)
      clear BK198
      clear BK199
      clear HB
      have BK198 := n0_
      have BK199 := n1_
      have HB := n2_
      clear n0_ n1_ n2_
      (try clear hb)
      (try clear hb2)
      (try clear hk)
      (try clear hi)
      refine hK.out _ _ ⟨czz BK198.out 0, czz BK198.out 1, czz BK198.out 2, czz BK198.out 3, czz BK199.out 0, czz BK199.out 1, ((HB.out.cell  (World.block_lt_of_cell? w _ hw203_0)).trans hw203_0), ((HB.out.cell  (World.block_lt_of_cell? w _ hw203_1)).trans hw203_1), ((HB.out.cell  (World.block_lt_of_cell? w _ hw203_2)).trans hw203_2), ((HB.out.cell  (World.block_lt_of_cell? w _ hw205_0)).trans hw205_0), ((HB.out.cell  (World.block_lt_of_cell? w _ hw205_1)).trans hw205_1), ((HB.out.cell  (World.block_lt_of_cell? w _ hw205_2)).trans hw205_2)⟩ (fun hHeld => ?_)
      clear hK K
      refine norm_ (a' := ?_) ?_ ?_
      rotate_left
      ·show Act.put _ (some 56) _ = _
       simp only [Act.put, lA, lZ, lS, i64_w, i32_w]
       rfl
      refine pT 15 8 (bt 17 65535) (k := ?_)
      refine pT 16 9 (bt 17 131071) (k := ?_)
      refine done_ (done_of HT_.out (by kernel_rfl)) ?_
      go_upto_block 0 with (first | ((with_reducible refine gate_dst (N := 65) rfl ?_); (try (refine gate_guard (by rfl) ?_; dsimp only)); refine Kd.R_lit (Kd.int .i64) _ 3 ?hg (N := 65) ?hd (xs := ([t204] : List Int)) (inner := [.int .i64 t204]) (ok := fun _ => True) (okp := fun _ => True) ?hr ?hp (fun _ hk => hk) trivial (Below.refl _ _) (Nat.le_refl _) (by simp) ?_; (case hd => rfl); (case hg => rfl); (case hr => exact TS); (case hp => exact (Reps.one (show Kd.M (Kd.int .i64) _ _ _ t204 [.int .i64 t204] from rfl) (Reps.none _ _))); intro v207 w29 ho30 hb hg_ hnew_; clear hg_ hnew_; (first | rw [← Ny206.out] at ho30 | (simp only [Int.reduceToNat] at ho30; rw [← Ny206.out] at ho30)); have HO208 := Aside0.mk (Kd.R_lower ho30 (below_size (TB2 GE198.out GE199.out))); replace BK198 := Aside0.mk (blk_below (g := gb198) (o := .cells #[.slice A0_0 l0_0.length c0_0, .int .i64 a0_1, .int .i64 a0_2, .slice (some ad203) l0_3.length c0_3] 27 (0, 0)) (by (with_reducible repeat (first | refine blk_drewN ?_ _ | refine blk_drew ?_ | refine blk_alloc ?_ _)); exact BK198.out) hb); replace BK199 := Aside0.mk (blk_below (g := gb199) (o := .cells #[.int .i64 a1_0, .int .i64 a1_1] 28 (0, 0)) (by (with_reducible repeat (first | refine blk_drewN ?_ _ | refine blk_drew ?_ | refine blk_alloc ?_ _)); exact BK199.out) hb); replace HB := Aside0.mk (below_step (TB2 GE198.out GE199.out) hb); clear hb ho30))
      (try simp only [Act.put, lA, lZ, lS])
      go_cut [8, 11, 12, 13] (fun v8 v11 v12 v13 wc => ∃ (kq : Nat) (x8_22 : Int) (x11_22 : List Int) (x12_22 : List Int) (x13_22 : List Int), v8 = .int .i64 x8_22 ∧ Aside0 (saronlaw03_RaspPlayed.j2 kq t202 x8_22 t204 x11_22 x12_22 x13_22 l0_0 a0_1 a0_2 l0_3 = some r) ∧ Aside0 (kq ≤ kj3) ∧ Aside0 (Kd.R (Kd.int .i64) 3 wc w.heap.size (fun k_ => some k_ ≠ (v12 : Value).ownBlock ∧ some k_ ≠ (v13 : Value).ownBlock) v11 x11_22) ∧ Aside0 (Kd.R (Kd.int .i64) 3 wc w.heap.size (fun k_ => some k_ ≠ (v11 : Value).ownBlock ∧ some k_ ≠ (v13 : Value).ownBlock) v12 x12_22) ∧ Aside0 (Kd.R (Kd.int .i64) 3 wc w.heap.size (fun k_ => some k_ ≠ (v11 : Value).ownBlock ∧ some k_ ≠ (v12 : Value).ownBlock) v13 x13_22) ∧ Aside0 (wc.heap[gb198]? = some (.cells #[(.slice A0_0 l0_0.length c0_0), .int .i64 a0_1, .int .i64 a0_2, (.slice (some ad203) l0_3.length c0_3)] 27 (0, 0))) ∧ Aside0 (wc.heap[gb199]? = some (.cells #[.int .i64 a1_0, .int .i64 a1_1] 28 (0, 0))) ∧ Aside0 (Below w.heap.size w wc))
      case first => as_aux_lemma =>
       have H := HC23.out
       clear HC23
       have H' := Aside0.mk H
       clear H
       go_wp2
       go_loopg [8, 9, 11, 12, 13] kj3 (fun kq v8 v9 v11 v12 v13 w' => ∃ (x8_2 : Int) (x9_2 : Int) (x11_2 : List Int) (x12_2 : List Int) (x13_2 : List Int), v8 = .int .i64 x8_2 ∧ v9 = .int .i64 x9_2 ∧ Aside0 (saronlaw03_RaspPlayed.l0 kq l2 t202 x8_2 x9_2 t204 x11_2 x12_2 x13_2 l0_0 a0_1 a0_2 l0_3 = some r) ∧ Aside0 (kq ≤ kj3) ∧ Aside0 (Kd.R (Kd.int .i64) 3 w' w.heap.size (fun k_ => some k_ ≠ (v12 : Value).ownBlock ∧ some k_ ≠ (v13 : Value).ownBlock) v11 x11_2) ∧ Aside0 (Kd.R (Kd.int .i64) 3 w' w.heap.size (fun k_ => some k_ ≠ (v11 : Value).ownBlock ∧ some k_ ≠ (v13 : Value).ownBlock) v12 x12_2) ∧ Aside0 (Kd.R (Kd.int .i64) 3 w' w.heap.size (fun k_ => some k_ ≠ (v11 : Value).ownBlock ∧ some k_ ≠ (v12 : Value).ownBlock) v13 x13_2) ∧ Aside0 (w'.heap[gb198]? = some (.cells #[(.slice A0_0 l0_0.length c0_0), .int .i64 a0_1, .int .i64 a0_2, (.slice (some ad203) l0_3.length c0_3)] 27 (0, 0))) ∧ Aside0 (w'.heap[gb199]? = some (.cells #[.int .i64 a1_0, .int .i64 a1_1] 28 (0, 0))) ∧ Aside0 (Below w.heap.size w w'))
       case atStart => exact ⟨(t204), ((rd_T69 l0_3 t202).f1), (([] : List Int)), (([] : List Int)), (y206), TT, TT, H', ⟨Nat.le_refl _⟩, ⟨by first | exact Kd.R_nil _ _ _ _ _ | exact Kd.N_nil _ _ _ _ _ | exact Kd.V_nil _ _ _ _ _ | exact Kd.Q_nil _ _ _ _ _ | exact Kd.S_nil _ _ _ _ _⟩, ⟨by first | exact Kd.R_nil _ _ _ _ _ | exact Kd.N_nil _ _ _ _ _ | exact Kd.V_nil _ _ _ _ _ | exact Kd.Q_nil _ _ _ _ _ | exact Kd.S_nil _ _ _ _ _⟩, ⟨by (with_reducible repeat (first | apply Kd.R_alloc | apply Kd.R_drewN | apply Kd.R_drew)); exact Kd.R_mono HO208.out (fun _ hk => ⟨(by simp [Value.ownBlock]), (by simp [Value.ownBlock])⟩)⟩, ⟨by (with_reducible repeat (first | refine blk_drewN ?_ _ | refine blk_drew ?_ | refine blk_alloc ?_ _)); exact BK198.out⟩, ⟨by (with_reducible repeat (first | refine blk_drewN ?_ _ | refine blk_drew ?_ | refine blk_alloc ?_ _)); exact BK199.out⟩, ⟨TB2 GE198.out GE199.out⟩⟩
       case round => as_aux_lemma =>
        clear H'
        try clear c1
        try clear c2
        try clear p2
        try clear q2
        try clear hx2
        try clear c3
        try clear c4
        try clear c8
        try clear c9
        try clear c13
        try clear c14
        try clear c16
        try clear c20
        try clear c20b0
        try clear p20
        try clear q20
        try clear hx20
        try clear c21
        try clear c21b0
        try clear c22
        try clear c24
        try clear hcz10_0 hcz10_1 hcz10_2 hcz10_3
        try clear hcz12_0 hcz12_1 hcz12_2 hcz12_3
        try clear hcz14_0 hcz14_1 hcz14_2 hcz14_3
        try clear hcz25_0 hcz25_1
        try clear hcz26_0 hcz26_1 hcz26_2 hcz26_3
        try clear hfz10_0 hfz10_1 hfz10_2 hfz10_3
        try clear hfz12_0 hfz12_1 hfz12_2 hfz12_3
        try clear hfz14_0 hfz14_1 hfz14_2 hfz14_3
        try clear hfz25_0 hfz25_1
        try clear hfz26_0 hfz26_1 hfz26_2 hfz26_3
        try clear hx203_0
        try clear hx203_1
        try clear hx203_2
        try clear hx205_0
        try clear hx205_1
        try clear hx205_2
        try clear p2
        try clear p203
        try clear p205
        try clear q203
        try clear q205
        obtain ⟨x8_2, x9_2, x11_2, x12_2, x13_2, rfl, rfl, HA, HK2, HO_11, HO_12, HO_13, BK198, BK199, HB⟩ := hrel
        cases gk with
        | zero => exact absurd HA.out (by simp [saronlaw03_RaspPlayed.l0])
        | succ k2 =>
         have H := HA.out
         clear HA
         simp only [saronlaw03_RaspPlayed.l0] at H
         by_cases c31 : (x11_2.length : Int) ≤ 30
         ·rw [if_pos c31] at H
          have c31b0 : decide ((x11_2.length : Int) ≤ 30) = true := decide_eq_true c31
          have c31b1 : decide (x11_2.length ≤ 30) = true := decide_eq_true (by omega)
          clear c31
          (first | rw [c31b0] | (simp only [i64_w, i32_w]; rw [c31b0]) | skip)
          replace H := Option.bind_eq_some_iff.mp H
          obtain ⟨⟨t209, t210, t211⟩, A320, H⟩ := H
          replace H : (if t211 = 0 then (if t209 = (-1) then (saronlaw03_RaspPlayed.j2 k2 t202 x8_2 t204 x11_2 x12_2 x13_2 l0_0 a0_1 a0_2 l0_3) else ((saronref00_Sits.f t209 0 (wrap64 ((l0_0.length : Int) - 1))).bind fun t218 => (if t218 = true then (if 0 ≤ t209 then (if t209 < (l0_0.length : Int) then ((saronref00_Nth.f l2 (x11_2.length : Int)).bind fun t220 => ((saronref00_Draw.f ((rd_T57 l0_0 t209).f0.f0) ((rd_T57 l0_0 t209).f0.f1) t220).bind fun t221 => (if x11_2.length < 17592186044416 then (if x12_2.length < 17592186044416 then (if x13_2.length < 17592186044416 then (saronlaw03_RaspPlayed.l0 k2 l2 t202 (wrap64 (x8_2 + t221)) (wrap64 (x9_2 - ((rd_T57 l0_0 t209).f1))) t204 (x11_2 ++ [t209]) (x12_2 ++ [t221]) (x13_2 ++ [wrap64 (x8_2 + t221)]) l0_0 a0_1 a0_2 l0_3) else (none)) else (none)) else (none)))) else (none)) else (none)) else (some false)))) else ((rasp_Play.f l0_0 a0_1 a0_2 l0_3 t202 t204 x12_2).bind fun bt212 => (if t211 = 4 then (if (x12_2.length : Int) = 0 then (if bt212.2.2 = t211 then ((saronlaw03_filed.f).bind fun t217 => (some t217)) else (some false)) else (some false)) else (some false)))) = some r := H
          have A32 := Aside0.mk A320
          clear A320
          by_cases c33 : t211 = 0
          ·rw [if_pos c33] at H
           have c33b0 : (t211 == 0) = true := beq_iff_eq.mpr c33
           have c33b1 : (t211 != 0) = false := bne_eq_false_iff_eq.mpr c33
           clear c33
           by_cases c34 : t209 = (-1)
           ·rw [if_pos c34] at H
            have c34b0 : (t209 == (-1)) = true := beq_iff_eq.mpr c34
            have c34b1 : (t209 != (-1)) = false := bne_eq_false_iff_eq.mpr c34
            clear c34
            have H' := Aside0.mk H
            clear H
            obtain ⟨Ao35, co35, eo35⟩ := Kd.R_slice HO_11.out
            subst eo35
            have hnb36 := NB198_199.out
            have hnc36 := NB199_198.out
            have hcz37_0 := czz BK198.out 0
            have hcz37_1 := czz BK198.out 1
            have hcz37_2 := czz BK198.out 2
            have hcz37_3 := czz BK198.out 3
            have hfz37_0 := fz BK198.out 0
            have hfz37_1 := fz BK198.out 1
            have hfz37_2 := fz BK198.out 2
            have hfz37_3 := fz BK198.out 3
            go_wp2_with (first | ((with_reducible refine gate_callee (f := 16) rfl ?_); refine goesL_ (some 73) rfl rfl Tryd.func16 (by kernel_rfl) rfl #[.agg #[.slice A0_0 l0_0.length c0_0, .int .i64 a0_1, .int .i64 a0_2, .slice (some ad203) l0_3.length c0_3], .int .i64 x8_2, .int .i64 x9_2] rfl TM ?_; (with_reducible refine (rasp_Next.calls _ _ l0_0 a0_1 a0_2 _ _ l0_3 x8_2 x9_2 t209 t210 t211 _ ?side1 ?side2 ?side3 ?side4 ?side5 A32.out).mono ?_); (case side1 => exact TC HR0_0.out); (case side2 => exact HC0_0.out); (case side3 => exact TC HR0_3.out); (case side4 => exact HC0_3.out); (case side5 => exact Glob.fr HG.out (Fr.of_below (TB2 GE198.out GE199.out))); rintro e w38 ⟨rfl, hb⟩; refine ⟨_, rfl, ?_⟩; replace HO_11 := Aside0.mk (Kd.R_below (TRo HO_11.out) hb); replace HO_12 := Aside0.mk (Kd.R_below (TRo HO_12.out) hb); replace HO_13 := Aside0.mk (Kd.R_below (TRo HO_13.out) hb); replace BK198 := Aside0.mk (blk_below (g := gb198) (o := .cells #[.slice A0_0 l0_0.length c0_0, .int .i64 a0_1, .int .i64 a0_2, .slice (some ad203) l0_3.length c0_3] 27 (0, 0)) (by (with_reducible repeat (first | refine blk_drewN ?_ _ | refine blk_drew ?_ | refine blk_alloc ?_ _)); exact BK198.out) hb); replace BK199 := Aside0.mk (blk_below (g := gb199) (o := .cells #[.int .i64 a1_0, .int .i64 a1_1] 28 (0, 0)) (by (with_reducible repeat (first | refine blk_drewN ?_ _ | refine blk_drew ?_ | refine blk_alloc ?_ _)); exact BK199.out) hb); replace HB := Aside0.mk (below_step (TB2 GE198.out GE199.out) hb); (try clear hb); (try clear hb2); (try clear hk); (try clear hi)))
            go_meet
            case rel => exact ⟨_, (x8_2), (x11_2), (x12_2), (x13_2), TT, H', ⟨by have := HJ3.out; have := HK2.out; first | omega | exact Nat.le_refl _⟩, ⟨by (with_reducible repeat (first | apply Kd.R_alloc | apply Kd.R_drewN | apply Kd.R_drew)); exact HO_11.out⟩, ⟨by (with_reducible repeat (first | apply Kd.R_alloc | apply Kd.R_drewN | apply Kd.R_drew)); exact HO_12.out⟩, ⟨by (with_reducible repeat (first | apply Kd.R_alloc | apply Kd.R_drewN | apply Kd.R_drew)); exact HO_13.out⟩, ⟨by (with_reducible repeat (first | refine blk_drewN ?_ _ | refine blk_drew ?_ | refine blk_alloc ?_ _)); exact BK198.out⟩, ⟨by (with_reducible repeat (first | refine blk_drewN ?_ _ | refine blk_drew ?_ | refine blk_alloc ?_ _)); exact BK199.out⟩, ⟨TB2 GE198.out GE199.out⟩⟩
           ·rw [if_neg c34] at H
            have c34b0 : (t209 == (-1)) = false := beq_eq_false_iff_ne.mpr c34
            have c34b1 : (t209 != (-1)) = true := bne_iff_ne.mpr c34
            replace H := Option.bind_eq_some_iff.mp H
            obtain ⟨t218, A390, H⟩ := H
            replace H : (if t218 = true then (if 0 ≤ t209 then (if t209 < (l0_0.length : Int) then ((saronref00_Nth.f l2 (x11_2.length : Int)).bind fun t220 => ((saronref00_Draw.f ((rd_T57 l0_0 t209).f0.f0) ((rd_T57 l0_0 t209).f0.f1) t220).bind fun t221 => (if x11_2.length < 17592186044416 then (if x12_2.length < 17592186044416 then (if x13_2.length < 17592186044416 then (saronlaw03_RaspPlayed.l0 k2 l2 t202 (wrap64 (x8_2 + t221)) (wrap64 (x9_2 - ((rd_T57 l0_0 t209).f1))) t204 (x11_2 ++ [t209]) (x12_2 ++ [t221]) (x13_2 ++ [wrap64 (x8_2 + t221)]) l0_0 a0_1 a0_2 l0_3) else (none)) else (none)) else (none)))) else (none)) else (none)) else (some false)) = some r := H
            have A39 := Aside0.mk A390
            clear A390
            by_cases c40 : t218 = true
            ·subst c40
             have H1 : (if 0 ≤ t209 then (if t209 < (l0_0.length : Int) then ((saronref00_Nth.f l2 (x11_2.length : Int)).bind fun t220 => ((saronref00_Draw.f ((rd_T57 l0_0 t209).f0.f0) ((rd_T57 l0_0 t209).f0.f1) t220).bind fun t221 => (if x11_2.length < 17592186044416 then (if x12_2.length < 17592186044416 then (if x13_2.length < 17592186044416 then (saronlaw03_RaspPlayed.l0 k2 l2 t202 (wrap64 (x8_2 + t221)) (wrap64 (x9_2 - ((rd_T57 l0_0 t209).f1))) t204 (x11_2 ++ [t209]) (x12_2 ++ [t221]) (x13_2 ++ [wrap64 (x8_2 + t221)]) l0_0 a0_1 a0_2 l0_3) else (none)) else (none)) else (none)))) else (none)) else (none)) = some r := by rw [if_pos rfl] at H; exact H
             clear H
             have H := H1
             clear H1
             by_cases c41 : 0 ≤ t209
             ·rw [if_pos c41] at H
              have c41b0 : decide (0 ≤ t209) = true := decide_eq_true c41
              clear c41
              by_cases c42 : t209 < (l0_0.length : Int)
              ·rw [if_pos c42] at H
               have c42b0 : decide (t209 < (l0_0.length : Int)) = true := decide_eq_true c42
               clear c42
               replace H := Option.bind_eq_some_iff.mp H
               obtain ⟨t220, A430, H⟩ := H
               replace H : ((saronref00_Draw.f ((rd_T57 l0_0 t209).f0.f0) ((rd_T57 l0_0 t209).f0.f1) t220).bind fun t221 => (if x11_2.length < 17592186044416 then (if x12_2.length < 17592186044416 then (if x13_2.length < 17592186044416 then (saronlaw03_RaspPlayed.l0 k2 l2 t202 (wrap64 (x8_2 + t221)) (wrap64 (x9_2 - ((rd_T57 l0_0 t209).f1))) t204 (x11_2 ++ [t209]) (x12_2 ++ [t221]) (x13_2 ++ [wrap64 (x8_2 + t221)]) l0_0 a0_1 a0_2 l0_3) else (none)) else (none)) else (none))) = some r := H
               have A43 := Aside0.mk A430
               clear A430
               replace H := Option.bind_eq_some_iff.mp H
               obtain ⟨t221, A440, H⟩ := H
               replace H : (if x11_2.length < 17592186044416 then (if x12_2.length < 17592186044416 then (if x13_2.length < 17592186044416 then (saronlaw03_RaspPlayed.l0 k2 l2 t202 (wrap64 (x8_2 + t221)) (wrap64 (x9_2 - ((rd_T57 l0_0 t209).f1))) t204 (x11_2 ++ [t209]) (x12_2 ++ [t221]) (x13_2 ++ [wrap64 (x8_2 + t221)]) l0_0 a0_1 a0_2 l0_3) else (none)) else (none)) else (none)) = some r := H
               have A44 := Aside0.mk A440
               clear A440
               by_cases c45 : x11_2.length < 17592186044416
               ·rw [if_pos c45] at H
                have LMc45 := Aside0.mk c45
                clear c45
                obtain ⟨y222, hy222⟩ : ∃ y_ : List Int, y_ = (x11_2 ++ [t209]) := ⟨_, rfl⟩
                replace H : (if x12_2.length < 17592186044416 then (if x13_2.length < 17592186044416 then (saronlaw03_RaspPlayed.l0 k2 l2 t202 (wrap64 (x8_2 + t221)) (wrap64 (x9_2 - ((rd_T57 l0_0 t209).f1))) t204 y222 (x12_2 ++ [t221]) (x13_2 ++ [wrap64 (x8_2 + t221)]) l0_0 a0_1 a0_2 l0_3) else (none)) else (none)) = some r := by first | (rw [hy222]; with_reducible exact H) | (have H2_ := (Option.bind_some _ _).symm.trans H; rw [hy222]; with_reducible exact H2_) | (have H2_ := (Option.bind_some _ _).symm.trans H; with_reducible exact H2_) | with_reducible exact H | (rw [hy222]; exact H) | exact H
                have Ny222 := Aside0.mk hy222
                clear hy222
                by_cases c46 : x12_2.length < 17592186044416
                ·rw [if_pos c46] at H
                 have LMc46 := Aside0.mk c46
                 clear c46
                 obtain ⟨y225, hy225⟩ : ∃ y_ : List Int, y_ = (x12_2 ++ [t221]) := ⟨_, rfl⟩
                 replace H : (if x13_2.length < 17592186044416 then (saronlaw03_RaspPlayed.l0 k2 l2 t202 (wrap64 (x8_2 + t221)) (wrap64 (x9_2 - ((rd_T57 l0_0 t209).f1))) t204 y222 y225 (x13_2 ++ [wrap64 (x8_2 + t221)]) l0_0 a0_1 a0_2 l0_3) else (none)) = some r := by first | (rw [hy225]; with_reducible exact H) | (have H2_ := (Option.bind_some _ _).symm.trans H; rw [hy225]; with_reducible exact H2_) | (have H2_ := (Option.bind_some _ _).symm.trans H; with_reducible exact H2_) | with_reducible exact H | (rw [hy225]; exact H) | exact H
                 have Ny225 := Aside0.mk hy225
                 clear hy225
                 by_cases c47 : x13_2.length < 17592186044416
                 ·rw [if_pos c47] at H
                  have LMc47 := Aside0.mk c47
                  clear c47
                  obtain ⟨y229, hy229⟩ : ∃ y_ : List Int, y_ = (x13_2 ++ [wrap64 (x8_2 + t221)]) := ⟨_, rfl⟩
                  replace H : (saronlaw03_RaspPlayed.l0 k2 l2 t202 (wrap64 (x8_2 + t221)) (wrap64 (x9_2 - ((rd_T57 l0_0 t209).f1))) t204 y222 y225 y229 l0_0 a0_1 a0_2 l0_3) = some r := by first | (rw [hy229]; with_reducible exact H) | (have H2_ := (Option.bind_some _ _).symm.trans H; rw [hy229]; with_reducible exact H2_) | (have H2_ := (Option.bind_some _ _).symm.trans H; with_reducible exact H2_) | with_reducible exact H | (rw [hy229]; exact H) | exact H
                  have Ny229 := Aside0.mk hy229
                  clear hy229
                  have H' := Aside0.mk H
                  clear H
                  obtain ⟨Ao48, co48, eo48⟩ := Kd.R_slice HO_11.out
                  subst eo48
                  have hnb49 := NB198_199.out
                  have hnc49 := NB199_198.out
                  have hcz50_0 := czz BK198.out 0
                  have hcz50_1 := czz BK198.out 1
                  have hcz50_2 := czz BK198.out 2
                  have hcz50_3 := czz BK198.out 3
                  have hfz50_0 := fz BK198.out 0
                  have hfz50_1 := fz BK198.out 1
                  have hfz50_2 := fz BK198.out 2
                  have hfz50_3 := fz BK198.out 3
                  try go_wp2_with (first | ((with_reducible refine gate_callee (f := 16) rfl ?_); refine goesL_ (some 73) rfl rfl Tryd.func16 (by kernel_rfl) rfl #[.agg #[.slice A0_0 l0_0.length c0_0, .int .i64 a0_1, .int .i64 a0_2, .slice (some ad203) l0_3.length c0_3], .int .i64 x8_2, .int .i64 x9_2] rfl TM ?_; (with_reducible refine (rasp_Next.calls _ _ l0_0 a0_1 a0_2 _ _ l0_3 x8_2 x9_2 t209 t210 t211 _ ?side1 ?side2 ?side3 ?side4 ?side5 A32.out).mono ?_); (case side1 => exact TC HR0_0.out); (case side2 => exact HC0_0.out); (case side3 => exact TC HR0_3.out); (case side4 => exact HC0_3.out); (case side5 => exact Glob.fr HG.out (Fr.of_below (TB2 GE198.out GE199.out))); rintro e w51 ⟨rfl, hb⟩; refine ⟨_, rfl, ?_⟩; replace HO_11 := Aside0.mk (Kd.R_below (TRo HO_11.out) hb); replace HO_12 := Aside0.mk (Kd.R_below (TRo HO_12.out) hb); replace HO_13 := Aside0.mk (Kd.R_below (TRo HO_13.out) hb); replace BK198 := Aside0.mk (blk_below (g := gb198) (o := .cells #[.slice A0_0 l0_0.length c0_0, .int .i64 a0_1, .int .i64 a0_2, .slice (some ad203) l0_3.length c0_3] 27 (0, 0)) (by (with_reducible repeat (first | refine blk_drewN ?_ _ | refine blk_drew ?_ | refine blk_alloc ?_ _)); exact BK198.out) hb); replace BK199 := Aside0.mk (blk_below (g := gb199) (o := .cells #[.int .i64 a1_0, .int .i64 a1_1] 28 (0, 0)) (by (with_reducible repeat (first | refine blk_drewN ?_ _ | refine blk_drew ?_ | refine blk_alloc ?_ _)); exact BK199.out) hb); replace HB := Aside0.mk (below_step (TB2 GE198.out GE199.out) hb); (try clear hb); (try clear hb2); (try clear hk); (try clear hi); have hcz52_0 := czz BK198.out 0; have hcz52_1 := czz BK198.out 1; have hcz52_2 := czz BK198.out 2; have hcz52_3 := czz BK198.out 3; have hfz52_0 := fz BK198.out 0; have hfz52_1 := fz BK198.out 1; have hfz52_2 := fz BK198.out 2; have hfz52_3 := fz BK198.out 3) | ((with_reducible refine gate_callee (f := 39) rfl ?_); refine goesL_ (some 110) rfl rfl Tryd.func39 (by kernel_rfl) rfl #[.int .i64 t209, .int .i64 0, .int .i64 (wrap64 ((l0_0.length : Int) - 1))] rfl TM ?_; (with_reducible refine (saronref00_Sits.calls t209 0 (wrap64 ((l0_0.length : Int) - 1)) true _ A39.out).mono ?_); rintro e w' ⟨rfl, ⟨nd, rfl⟩⟩; refine ⟨_, rfl, ?_⟩))
                  (try (rw [drewN_self w51]; generalize hq_ : World.drewN w51 _ = w51; have n0_ : Aside0 (Kd.R (Kd.int .i64) 3 w51 w.heap.size (fun k_ => some k_ ≠ (u12 : Value).ownBlock ∧ some k_ ≠ (u13 : Value).ownBlock) (.slice Ao48 x11_2.length co48) x11_2) := ⟨by rw [← hq_]; exact (TRo HO_11.out)⟩; have n1_ : Aside0 (Kd.R (Kd.int .i64) 3 w51 w.heap.size (fun k_ => some k_ ≠ (.slice Ao48 x11_2.length co48 : Value).ownBlock ∧ some k_ ≠ (u13 : Value).ownBlock) u12 x12_2) := ⟨by rw [← hq_]; exact (TRo HO_12.out)⟩; have n2_ : Aside0 (Kd.R (Kd.int .i64) 3 w51 w.heap.size (fun k_ => some k_ ≠ (.slice Ao48 x11_2.length co48 : Value).ownBlock ∧ some k_ ≠ (u12 : Value).ownBlock) u13 x13_2) := ⟨by rw [← hq_]; exact (TRo HO_13.out)⟩; have n3_ : Aside0 (w51.heap[gb198]? = some (.cells #[.slice A0_0 l0_0.length c0_0, .int .i64 a0_1, .int .i64 a0_2, .slice (some ad203) l0_3.length c0_3] 27 (0, 0))) := ⟨by rw [← hq_]; exact (by (with_reducible repeat (first | refine blk_drewN ?_ _ | refine blk_drew ?_ | refine blk_alloc ?_ _)); exact BK198.out)⟩; have n4_ : Aside0 (w51.heap[gb199]? = some (.cells #[.int .i64 a1_0, .int .i64 a1_1] 28 (0, 0))) := ⟨by rw [← hq_]; exact (by (with_reducible repeat (first | refine blk_drewN ?_ _ | refine blk_drew ?_ | refine blk_alloc ?_ _)); exact BK199.out)⟩; have n5_ : Aside0 (Below w.heap.size w w51) := ⟨by rw [← hq_]; exact (TB2 GE198.out GE199.out)⟩; clear HO_11 HO_12 HO_13 BK198 BK199 HB hq_; have HO_11 := n0_; have HO_12 := n1_; have HO_13 := n2_; have BK198 := n3_; have BK199 := n4_; have HB := n5_; clear n0_ n1_ n2_ n3_ n4_ n5_)); have hczq198_0 : w51.cell? ⟨gb198, 0, none⟩ = some (.slice A0_0 l0_0.length c0_0) := czz BK198.out 0; have hfzq198_0 := fz BK198.out 0; have hczq198_1 : w51.cell? ⟨gb198, 1, none⟩ = some (.int .i64 a0_1) := czz BK198.out 1; have hfzq198_1 := fz BK198.out 1; have hczq198_2 : w51.cell? ⟨gb198, 2, none⟩ = some (.int .i64 a0_2) := czz BK198.out 2; have hfzq198_2 := fz BK198.out 2; have hczq198_3 : w51.cell? ⟨gb198, 3, none⟩ = some (.slice (some ad203) l0_3.length c0_3) := czz BK198.out 3; have hfzq198_3 := fz BK198.out 3; have hczq199_0 : w51.cell? ⟨gb199, 0, none⟩ = some (.int .i64 a1_0) := czz BK199.out 0; have hfzq199_0 := fz BK199.out 0; have hczq199_1 : w51.cell? ⟨gb199, 1, none⟩ = some (.int .i64 a1_1) := czz BK199.out 1; have hfzq199_1 := fz BK199.out 1
                  have n0_ := Aside0.mk (Kd.R_drew HO_11.out)
                  have n1_ := Aside0.mk (Kd.R_drew HO_12.out)
                  have n2_ := Aside0.mk (Kd.R_drew HO_13.out)
                  have n3_ := Aside0.mk (blk_drew BK198.out)
                  have n4_ := Aside0.mk (blk_drew BK199.out)
                  have n5_ := Aside0.mk (below_drew1 HB.out)
                  clear HO_11
                  clear HO_12
                  clear HO_13
                  clear BK198
                  clear BK199
                  clear HB
                  have HO_11 := n0_
                  have HO_12 := n1_
                  have HO_13 := n2_
                  have BK198 := n3_
                  have BK199 := n4_
                  have HB := n5_
                  clear n0_ n1_ n2_ n3_ n4_ n5_
                  have p219 : 0 ≤ (t209 : Int) := of_decide_eq_true TA
                  have q219 : t209 < (l0_0.length : Int) := of_decide_eq_true TA
                  obtain ⟨ad219, e219, hx219_0, hx219_1, hx219_2⟩ := at_T57 HR0_0.out t209 p219 q219
                  have hw219_2 := hx219_2
                  have hw219_1 := hx219_1
                  have hw219_0 := hx219_0
                  cases e219
                  replace hx219_0 := (HB.out.cell  (World.block_lt_of_cell? w _ hx219_0)).trans hx219_0
                  replace hx219_1 := (HB.out.cell  (World.block_lt_of_cell? w _ hx219_1)).trans hx219_1
                  replace hx219_2 := (HB.out.cell  (World.block_lt_of_cell? w _ hx219_2)).trans hx219_2
                  replace p219 := eq_true p219
                  replace q219 := eq_true q219
                  refine start_ (n := 12) (S := fun w' => w'.cell? ⟨gb198, 0, none⟩ = some (.slice (some ad219) l0_0.length c0_0) ∧ w'.cell? ⟨gb198, 1, none⟩ = some (.int .i64 a0_1) ∧ w'.cell? ⟨gb198, 2, none⟩ = some (.int .i64 a0_2) ∧ w'.cell? ⟨gb198, 3, none⟩ = some (.slice (some ad203) l0_3.length c0_3) ∧ w'.cell? (ad219.add ((t209).toNat * 3)) = some (.int .i64 ((rd_T57 l0_0 t209).f0.f0)) ∧ w'.cell? ⟨(ad219.add ((t209).toNat * 3)).block, (ad219.add ((t209).toNat * 3)).off + 1, none⟩ = some (.int .i64 ((rd_T57 l0_0 t209).f0.f1)) ∧ w'.cell? ⟨(ad219.add ((t209).toNat * 3)).block, (ad219.add ((t209).toNat * 3)).off + 2, none⟩ = some (.int .i64 ((rd_T57 l0_0 t209).f1))) (ds := []) (.replicate 12 false) (by kernel_rfl) rfl rfl ⟨czz BK198.out 0, czz BK198.out 1, czz BK198.out 2, czz BK198.out 3, ((HB.out.cell  (World.block_lt_of_cell? w _ hw219_0)).trans hw219_0), ((HB.out.cell  (World.block_lt_of_cell? w _ hw219_1)).trans hw219_1), ((HB.out.cell  (World.block_lt_of_cell? w _ hw219_2)).trans hw219_2)⟩ (fun hHeld => ?_); refine with_tabW saronlaw03_RaspPlayed.tab16 saronlaw03_RaspPlayed.bits16 (fun HT_ HW_ => ?_)
                  generalize w51.drew = w53 at HO_11 HO_12 HO_13 BK198 BK199 HB hx219_0 hx219_1 hx219_2 hHeld ⊢
                  refine pT 0 112 (bt 12 1) (k := ?_)
                  refine pT 2 114 (bt 12 5) (k := ?_)
                  refine pT 6 118 (bt 12 69) (k := ?_)
                  refine pT 7 119 (bt 12 197) (k := ?_)
                  refine pT 8 120 (bt 12 453) (k := ?_)
                  refine tT7 1 113 (bt 12 455) hHeld (k := ?_)
                  refine pT 3 115 (bt 12 463) (k := ?_)
                  refine pT 4 116 (bt 12 479) (k := ?_)
                  refine tT7 5 117 (bt 12 511) hHeld (k := ?_)
                  refine one_ (i := 9) (N := some 121) (bt 12 1023) rfl rfl (one_of HT_.out (by kernel_rfl)) (by decide) (fun K hK => ?_)
                  refine goes_ Tryd.func42 (by kernel_rfl) rfl #[.slice A2 l2.length c2, .int .i64 (x11_2.length : Int)] (by rfl) rfl rfl TM ?_
                  with_reducible refine (saronref00_Nth.calls _ _ l2 (x11_2.length : Int) t220 _ ?side1 ?side2 A43.out).mono ?_
                  (case side1 => exact TC HR2.out)
                  (case side2 => exact HC2.out)
                  rintro e w' ⟨rfl, ⟨nd, rfl⟩⟩
                  refine ⟨_, rfl, ?_⟩
                  refine hK.out _ _ ⟨czz BK198.out 0, czz BK198.out 1, czz BK198.out 2, czz BK198.out 3, ((HB.out.cell  (World.block_lt_of_cell? w _ hw219_0)).trans hw219_0), ((HB.out.cell  (World.block_lt_of_cell? w _ hw219_1)).trans hw219_1), ((HB.out.cell  (World.block_lt_of_cell? w _ hw219_2)).trans hw219_2)⟩ (fun hHeld => ?_)
                  clear hK K
                  refine norm_ (a' := ?_) ?_ ?_
                  rotate_left
                  ·show Act.put _ (some 121) _ = _
                   simp only [Act.put, lA, lZ, lS, i64_w, i32_w]
                   rfl
                  refine one_ (i := 10) (N := some 122) (bt 12 2047) rfl rfl (one_of HT_.out (by kernel_rfl)) (by decide) (fun K hK => ?_)
                  refine goes_ Tryd.func41 (by kernel_rfl) rfl #[.agg #[.int .i64 ((rd_T57 l0_0 t209).f0.f0), .int .i64 ((rd_T57 l0_0 t209).f0.f1)], .int .i64 t220] (by rfl) rfl rfl TM ?_
                  with_reducible refine (saronref00_Draw.calls ((rd_T57 l0_0 t209).f0.f0) ((rd_T57 l0_0 t209).f0.f1) t220 t221 _ A44.out).mono ?_
                  rintro e w54 ⟨rfl, hb⟩
                  refine ⟨_, rfl, ?_⟩
                  have n0_ := Aside0.mk (Kd.R_below (TRo HO_11.out) hb)
                  have n1_ := Aside0.mk (Kd.R_below (TRo HO_12.out) hb)
                  have n2_ := Aside0.mk (Kd.R_below (TRo HO_13.out) hb)
                  have n3_ := Aside0.mk (blk_below (g := gb198) (o := .cells #[.slice (some ad219) l0_0.length c0_0, .int .i64 a0_1, .int .i64 a0_2, .slice (some ad203) l0_3.length c0_3] 27 (0, 0)) (by (with_reducible repeat (first | refine blk_drewN ?_ _ | refine blk_drew ?_ | refine blk_alloc ?_ _)); exact BK198.out) hb)
                  have n4_ := Aside0.mk (blk_below (g := gb199) (o := .cells #[.int .i64 a1_0, .int .i64 a1_1] 28 (0, 0)) (by (with_reducible repeat (first | refine blk_drewN ?_ _ | refine blk_drew ?_ | refine blk_alloc ?_ _)); exact BK199.out) hb)
                  have n5_ := Aside0.mk (below_step (TB2 GE198.out GE199.out) hb)
                  clear HO_11
                  clear HO_12
                  clear HO_13
                  clear BK198
                  clear BK199
                  clear HB
                  have HO_11 := n0_
                  have HO_12 := n1_
                  have HO_13 := n2_
                  have BK198 := n3_
                  have BK199 := n4_
                  have HB := n5_
                  clear n0_ n1_ n2_ n3_ n4_ n5_
                  (try clear hb)
                  (try clear hb2)
                  (try clear hk)
                  (try clear hi)
                  refine hK.out _ _ ⟨czz BK198.out 0, czz BK198.out 1, czz BK198.out 2, czz BK198.out 3, ((HB.out.cell  (World.block_lt_of_cell? w _ hw219_0)).trans hw219_0), ((HB.out.cell  (World.block_lt_of_cell? w _ hw219_1)).trans hw219_1), ((HB.out.cell  (World.block_lt_of_cell? w _ hw219_2)).trans hw219_2)⟩ (fun hHeld => ?_)
                  clear hK K
                  refine norm_ (a' := ?_) ?_ ?_
                  rotate_left
                  ·show Act.put _ (some 122) _ = _
                   simp only [Act.put, lA, lZ, lS, i64_w, i32_w]
                   rfl
                  refine pT 11 20 (bt 12 4095) (k := ?_)
                  refine done_ (done_of HT_.out (by kernel_rfl)) ?_
                  try go_wp2_with (first | ((with_reducible refine gate_builtin (b := .append) (xs := #[.tmp 123, .tmp 125]) rfl ?_); (try (refine gate_guard (by rfl) ?_; dsimp only)); at_builtin; refine Kd.R_append (Kd.int .i64) (w0 := w) w.heap.size rfl (.tmp 123) (.tmp 125) 38 3 (.int .i64 0) 8 rfl Tryd.underlying38 info3 rfl (by decide) (by omega) (.slice Ao48 x11_2.length co48) x11_2 t209 [.int .i64 t209] (fun k_ => some k_ ≠ (u12 : Value).ownBlock ∧ some k_ ≠ (u13 : Value).ownBlock) (fun _ => False) rfl rfl ?aP (fun _ hk => hk.elim) ?aF ?aO ?aB ?aS ?aL ?_; (case aP => exact rfl); (case aB => exact (TB2 GE198.out GE199.out)); (case aF => exact (fun k_ hk => ⟨Kd.fresh' (Kd.R_lt (TRo HO_12.out)) k_ hk, Kd.fresh' (Kd.R_lt (TRo HO_13.out)) k_ hk⟩)); (case aO => exact (TRo HO_11.out)); (case aS => exact (below_size (TB2 GE198.out GE199.out))); (case aL => have := LMc45.out; omega); intro v223 w55 ho hb hg hat; rw [← Ny222.out] at ho; have HO224 := Aside0.mk (ho); replace HO_12 := Aside0.mk (Kd.R_after (ok := (fun k_ => some k_ ≠ (u13 : Value).ownBlock)) (by (with_reducible repeat (first | apply Kd.R_alloc | apply Kd.R_drewN | apply Kd.R_drew)); exact Kd.R_mono HO_12.out (fun _ hk => ⟨hk.2, hk.1⟩)) hg hat); replace HO_13 := Aside0.mk (Kd.R_after (ok := (fun k_ => some k_ ≠ (u12 : Value).ownBlock)) (by (with_reducible repeat (first | apply Kd.R_alloc | apply Kd.R_drewN | apply Kd.R_drew)); exact Kd.R_mono HO_13.out (fun _ hk => ⟨hk.2, hk.1⟩)) hg hat); replace BK198 := Aside0.mk (blk_grown (g := gb198) (o := .cells #[.slice (some ad219) l0_0.length c0_0, .int .i64 a0_1, .int .i64 a0_2, .slice (some ad203) l0_3.length c0_3] 27 (0, 0)) (by (with_reducible repeat (first | refine blk_drewN ?_ _ | refine blk_drew ?_ | refine blk_alloc ?_ _)); exact BK198.out) hg (Kd.R_ne HO_11.out BK198.out (by decide))); replace BK199 := Aside0.mk (blk_grown (g := gb199) (o := .cells #[.int .i64 a1_0, .int .i64 a1_1] 28 (0, 0)) (by (with_reducible repeat (first | refine blk_drewN ?_ _ | refine blk_drew ?_ | refine blk_alloc ?_ _)); exact BK199.out) hg (Kd.R_ne HO_11.out BK199.out (by decide))); replace HB := Aside0.mk (hb); clear HO_11; clear ho hb hg hat) | ((with_reducible refine gate_builtin (b := .append) (xs := #[.tmp 127, .tmp 129]) rfl ?_); (try (refine gate_guard (by rfl) ?_; dsimp only)); at_builtin; refine Kd.R_append (Kd.int .i64) (w0 := w) w.heap.size rfl (.tmp 127) (.tmp 129) 38 3 (.int .i64 0) 8 rfl Tryd.underlying38 info3 rfl (by decide) (by omega) u12 x12_2 t221 [.int .i64 t221] (fun k_ => some k_ ≠ (u13 : Value).ownBlock ∧ some k_ ≠ (v223 : Value).ownBlock) (fun _ => False) rfl rfl ?aP (fun _ hk => hk.elim) ?aF ?aO ?aB ?aS ?aL ?_; (case aP => exact rfl); (case aB => exact (TB2 GE198.out GE199.out)); (case aF => exact (fun k_ hk => ⟨Kd.fresh' (Kd.R_lt (TRo HO_13.out)) k_ hk, Kd.fresh' (Kd.R_lt (TRo HO224.out)) k_ hk⟩)); (case aO => exact (TRo HO_12.out)); (case aS => exact (below_size (TB2 GE198.out GE199.out))); (case aL => have := LMc46.out; omega); intro v226 w56 ho hb hg hat; rw [← Ny225.out] at ho; have HO227 := Aside0.mk (ho); replace HO_13 := Aside0.mk (Kd.R_after (ok := (fun k_ => some k_ ≠ (v223 : Value).ownBlock)) (by (with_reducible repeat (first | apply Kd.R_alloc | apply Kd.R_drewN | apply Kd.R_drew)); exact Kd.R_mono HO_13.out (fun _ hk => ⟨hk.2, hk.1⟩)) hg hat); replace BK198 := Aside0.mk (blk_grown (g := gb198) (o := .cells #[.slice (some ad219) l0_0.length c0_0, .int .i64 a0_1, .int .i64 a0_2, .slice (some ad203) l0_3.length c0_3] 27 (0, 0)) (by (with_reducible repeat (first | refine blk_drewN ?_ _ | refine blk_drew ?_ | refine blk_alloc ?_ _)); exact BK198.out) hg (Kd.R_ne HO_12.out BK198.out (by decide))); replace BK199 := Aside0.mk (blk_grown (g := gb199) (o := .cells #[.int .i64 a1_0, .int .i64 a1_1] 28 (0, 0)) (by (with_reducible repeat (first | refine blk_drewN ?_ _ | refine blk_drew ?_ | refine blk_alloc ?_ _)); exact BK199.out) hg (Kd.R_ne HO_12.out BK199.out (by decide))); replace HO224 := Aside0.mk (Kd.R_after (ok := (fun k_ => some k_ ≠ (u13 : Value).ownBlock)) (by (with_reducible repeat (first | apply Kd.R_alloc | apply Kd.R_drewN | apply Kd.R_drew)); exact Kd.R_mono HO224.out (fun _ hk => ⟨hk.2, hk.1⟩)) hg hat); replace HB := Aside0.mk (hb); clear HO_12; clear ho hb hg hat))
                  have n0_ := Aside0.mk (Kd.R_drew HO_13.out)
                  have n1_ := Aside0.mk (Kd.R_drew HO224.out)
                  have n2_ := Aside0.mk (Kd.R_drew HO227.out)
                  have n3_ := Aside0.mk (blk_drew BK198.out)
                  have n4_ := Aside0.mk (blk_drew BK199.out)
                  have n5_ := Aside0.mk (below_drew1 HB.out)
                  clear HO_13
                  clear HO224
                  clear HO227
                  clear BK198
                  clear BK199
                  clear HB
                  have HO_13 := n0_
                  have HO224 := n1_
                  have HO227 := n2_
                  have BK198 := n3_
                  have BK199 := n4_
                  have HB := n5_
                  clear n0_ n1_ n2_ n3_ n4_ n5_
                  have p228 : 0 ≤ (t209 : Int) := of_decide_eq_true TA
                  have q228 : t209 < (l0_0.length : Int) := of_decide_eq_true TA
                  obtain ⟨ad228, e228, hx228_0, hx228_1, hx228_2⟩ := at_T57 HR0_0.out t209 p228 q228
                  have hw228_2 := hx228_2
                  have hw228_1 := hx228_1
                  have hw228_0 := hx228_0
                  obtain rfl : ad219 = ad228 := (by injection e228)
                  replace hx228_0 := (HB.out.cell  (World.block_lt_of_cell? w _ hx228_0)).trans hx228_0
                  replace hx228_1 := (HB.out.cell  (World.block_lt_of_cell? w _ hx228_1)).trans hx228_1
                  replace hx228_2 := (HB.out.cell  (World.block_lt_of_cell? w _ hx228_2)).trans hx228_2
                  replace p228 := eq_true p228
                  replace q228 := eq_true q228
                  refine start_ (n := 13) (S := fun w' => w'.cell? ⟨gb198, 0, none⟩ = some (.slice (some ad219) l0_0.length c0_0) ∧ w'.cell? ⟨gb198, 1, none⟩ = some (.int .i64 a0_1) ∧ w'.cell? ⟨gb198, 2, none⟩ = some (.int .i64 a0_2) ∧ w'.cell? ⟨gb198, 3, none⟩ = some (.slice (some ad203) l0_3.length c0_3) ∧ w'.cell? (ad219.add ((t209).toNat * 3)) = some (.int .i64 ((rd_T57 l0_0 t209).f0.f0)) ∧ w'.cell? ⟨(ad219.add ((t209).toNat * 3)).block, (ad219.add ((t209).toNat * 3)).off + 1, none⟩ = some (.int .i64 ((rd_T57 l0_0 t209).f0.f1)) ∧ w'.cell? ⟨(ad219.add ((t209).toNat * 3)).block, (ad219.add ((t209).toNat * 3)).off + 2, none⟩ = some (.int .i64 ((rd_T57 l0_0 t209).f1))) (ds := []) (.replicate 13 false) (by kernel_rfl) rfl rfl ⟨czz BK198.out 0, czz BK198.out 1, czz BK198.out 2, czz BK198.out 3, ((HB.out.cell  (World.block_lt_of_cell? w _ hw228_0)).trans hw228_0), ((HB.out.cell  (World.block_lt_of_cell? w _ hw228_1)).trans hw228_1), ((HB.out.cell  (World.block_lt_of_cell? w _ hw228_2)).trans hw228_2)⟩ (fun hHeld => ?_); refine with_tabW saronlaw03_RaspPlayed.tab18 saronlaw03_RaspPlayed.bits18 (fun HT_ HW_ => ?_)
                  generalize w56.drew = w57 at HO_13 HO224 HO227 BK198 BK199 HB hx228_0 hx228_1 hx228_2 hHeld ⊢
                  refine pT 0 131 (bt 13 1) (k := ?_)
                  refine pT 1 132 (bt 13 3) (k := ?_)
                  refine pT 2 133 (bt 13 7) (k := ?_)
                  refine pT 3 134 (bt 13 15) (k := ?_)
                  refine pT 4 135 (bt 13 31) (k := ?_)
                  refine pT 6 137 (bt 13 95) (k := ?_)
                  refine pT 11 8 (bt 13 2143) (k := ?_)
                  refine tT7 5 136 (bt 13 2175) hHeld (k := ?_)
                  refine pT 7 138 (bt 13 2303) (k := ?_)
                  refine pT 8 139 (bt 13 2559) (k := ?_)
                  refine tT7 9 140 (bt 13 3071) hHeld (k := ?_)
                  refine pT 10 141 (bt 13 4095) (k := ?_)
                  refine pT 12 9 (bt 13 8191) (k := ?_)
                  refine done_ (done_of HT_.out (by kernel_rfl)) ?_
                  try go_wp2_with (first | ((with_reducible refine gate_builtin (b := .append) (xs := #[.tmp 142, .tmp 144]) rfl ?_); (try (refine gate_guard (by rfl) ?_; dsimp only)); at_builtin; refine Kd.R_append (Kd.int .i64) (w0 := w) w.heap.size rfl (.tmp 142) (.tmp 144) 38 3 (.int .i64 0) 8 rfl Tryd.underlying38 info3 rfl (by decide) (by omega) u13 x13_2 (wrap64 (x8_2 + t221)) [.int .i64 (wrap64 (x8_2 + t221))] (fun k_ => some k_ ≠ (v223 : Value).ownBlock ∧ some k_ ≠ (v226 : Value).ownBlock) (fun _ => False) rfl rfl ?aP (fun _ hk => hk.elim) ?aF ?aO ?aB ?aS ?aL ?_; (case aP => exact rfl); (case aB => exact (TB2 GE198.out GE199.out)); (case aF => exact (fun k_ hk => ⟨Kd.fresh' (Kd.R_lt (TRo HO224.out)) k_ hk, Kd.fresh' (Kd.R_lt (TRo HO227.out)) k_ hk⟩)); (case aO => exact (TRo HO_13.out)); (case aS => exact (below_size (TB2 GE198.out GE199.out))); (case aL => have := LMc47.out; omega); intro v230 w58 ho hb hg hat; rw [← Ny229.out] at ho; have HO231 := Aside0.mk (ho); replace BK198 := Aside0.mk (blk_grown (g := gb198) (o := .cells #[.slice (some ad219) l0_0.length c0_0, .int .i64 a0_1, .int .i64 a0_2, .slice (some ad203) l0_3.length c0_3] 27 (0, 0)) (by (with_reducible repeat (first | refine blk_drewN ?_ _ | refine blk_drew ?_ | refine blk_alloc ?_ _)); exact BK198.out) hg (Kd.R_ne HO_13.out BK198.out (by decide))); replace BK199 := Aside0.mk (blk_grown (g := gb199) (o := .cells #[.int .i64 a1_0, .int .i64 a1_1] 28 (0, 0)) (by (with_reducible repeat (first | refine blk_drewN ?_ _ | refine blk_drew ?_ | refine blk_alloc ?_ _)); exact BK199.out) hg (Kd.R_ne HO_13.out BK199.out (by decide))); replace HO224 := Aside0.mk (Kd.R_after (ok := (fun k_ => some k_ ≠ (v226 : Value).ownBlock)) (by (with_reducible repeat (first | apply Kd.R_alloc | apply Kd.R_drewN | apply Kd.R_drew)); exact Kd.R_mono HO224.out (fun _ hk => ⟨hk.2, hk.1⟩)) hg hat); replace HO227 := Aside0.mk (Kd.R_after (ok := (fun k_ => some k_ ≠ (v223 : Value).ownBlock)) (by (with_reducible repeat (first | apply Kd.R_alloc | apply Kd.R_drewN | apply Kd.R_drew)); exact Kd.R_mono HO227.out (fun _ hk => ⟨hk.2, hk.1⟩)) hg hat); replace HB := Aside0.mk (hb); clear HO_13; clear ho hb hg hat))
                  go_roundg k2
                  case measure => have := HJ3.out; have := HK2.out; omega
                  case rel => exact ⟨(wrap64 (x8_2 + t221)), (wrap64 (x9_2 - ((rd_T57 l0_0 t209).f1))), (y222), (y225), (y229), TT, TT, H', ⟨by have := HJ3.out; have := HK2.out; omega⟩, ⟨by (with_reducible repeat (first | apply Kd.R_alloc | apply Kd.R_drewN | apply Kd.R_drew)); exact HO224.out⟩, ⟨by (with_reducible repeat (first | apply Kd.R_alloc | apply Kd.R_drewN | apply Kd.R_drew)); exact HO227.out⟩, ⟨by (with_reducible repeat (first | apply Kd.R_alloc | apply Kd.R_drewN | apply Kd.R_drew)); exact HO231.out⟩, ⟨by (with_reducible repeat (first | refine blk_drewN ?_ _ | refine blk_drew ?_ | refine blk_alloc ?_ _)); exact BK198.out⟩, ⟨by (with_reducible repeat (first | refine blk_drewN ?_ _ | refine blk_drew ?_ | refine blk_alloc ?_ _)); exact BK199.out⟩, ⟨TB2 GE198.out GE199.out⟩⟩
                 ·rw [if_neg c47] at H
                  exact absurd H (by simp)
                ·rw [if_neg c46] at H
                 exact absurd H (by simp)
               ·rw [if_neg c45] at H
                exact absurd H (by simp)
              ·rw [if_neg c42] at H
               exact absurd H (by simp)
             ·rw [if_neg c41] at H
              exact absurd H (by simp)
            ·replace c40 := Bool.eq_false_iff.mpr c40
             subst c40
             have H1 : (some false) = some r := by rw [if_neg (show ¬ (false = true) by decide)] at H; exact H
             clear H
             have H := H1
             clear H1
             obtain rfl := Option.some.inj H
             obtain ⟨Ao59, co59, eo59⟩ := Kd.R_slice HO_11.out
             subst eo59
             have hnb60 := NB198_199.out
             have hnc60 := NB199_198.out
             have hcz61_0 := czz BK198.out 0
             have hcz61_1 := czz BK198.out 1
             have hcz61_2 := czz BK198.out 2
             have hcz61_3 := czz BK198.out 3
             have hfz61_0 := fz BK198.out 0
             have hfz61_1 := fz BK198.out 1
             have hfz61_2 := fz BK198.out 2
             have hfz61_3 := fz BK198.out 3
             go_wp2_with (first | ((with_reducible refine gate_callee (f := 16) rfl ?_); refine goesL_ (some 73) rfl rfl Tryd.func16 (by kernel_rfl) rfl #[.agg #[.slice A0_0 l0_0.length c0_0, .int .i64 a0_1, .int .i64 a0_2, .slice (some ad203) l0_3.length c0_3], .int .i64 x8_2, .int .i64 x9_2] rfl TM ?_; (with_reducible refine (rasp_Next.calls _ _ l0_0 a0_1 a0_2 _ _ l0_3 x8_2 x9_2 t209 t210 t211 _ ?side1 ?side2 ?side3 ?side4 ?side5 A32.out).mono ?_); (case side1 => exact TC HR0_0.out); (case side2 => exact HC0_0.out); (case side3 => exact TC HR0_3.out); (case side4 => exact HC0_3.out); (case side5 => exact Glob.fr HG.out (Fr.of_below (TB2 GE198.out GE199.out))); rintro e w62 ⟨rfl, hb⟩; refine ⟨_, rfl, ?_⟩; replace HO_11 := Aside0.mk (Kd.R_below (TRo HO_11.out) hb); replace HO_12 := Aside0.mk (Kd.R_below (TRo HO_12.out) hb); replace HO_13 := Aside0.mk (Kd.R_below (TRo HO_13.out) hb); replace BK198 := Aside0.mk (blk_below (g := gb198) (o := .cells #[.slice A0_0 l0_0.length c0_0, .int .i64 a0_1, .int .i64 a0_2, .slice (some ad203) l0_3.length c0_3] 27 (0, 0)) (by (with_reducible repeat (first | refine blk_drewN ?_ _ | refine blk_drew ?_ | refine blk_alloc ?_ _)); exact BK198.out) hb); replace BK199 := Aside0.mk (blk_below (g := gb199) (o := .cells #[.int .i64 a1_0, .int .i64 a1_1] 28 (0, 0)) (by (with_reducible repeat (first | refine blk_drewN ?_ _ | refine blk_drew ?_ | refine blk_alloc ?_ _)); exact BK199.out) hb); replace HB := Aside0.mk (below_step (TB2 GE198.out GE199.out) hb); (try clear hb); (try clear hb2); (try clear hk); (try clear hi); have hcz63_0 := czz BK198.out 0; have hcz63_1 := czz BK198.out 1; have hcz63_2 := czz BK198.out 2; have hcz63_3 := czz BK198.out 3; have hfz63_0 := fz BK198.out 0; have hfz63_1 := fz BK198.out 1; have hfz63_2 := fz BK198.out 2; have hfz63_3 := fz BK198.out 3) | ((with_reducible refine gate_callee (f := 39) rfl ?_); refine goesL_ (some 110) rfl rfl Tryd.func39 (by kernel_rfl) rfl #[.int .i64 t209, .int .i64 0, .int .i64 (wrap64 ((l0_0.length : Int) - 1))] rfl TM ?_; (with_reducible refine (saronref00_Sits.calls t209 0 (wrap64 ((l0_0.length : Int) - 1)) false _ A39.out).mono ?_); rintro e w' ⟨rfl, ⟨nd, rfl⟩⟩; refine ⟨_, rfl, ?_⟩))
             go_ret
             exact ⟨TR, TB2 GE198.out GE199.out⟩
          ·rw [if_neg c33] at H
           have c33b0 : (t211 == 0) = false := beq_eq_false_iff_ne.mpr c33
           have c33b1 : (t211 != 0) = true := bne_iff_ne.mpr c33
           replace H := Option.bind_eq_some_iff.mp H
           obtain ⟨⟨t212, t215, t216⟩, A640, H⟩ := H
           replace H : (if t211 = 4 then (if (x12_2.length : Int) = 0 then (if t216 = t211 then ((saronlaw03_filed.f).bind fun t217 => (some t217)) else (some false)) else (some false)) else (some false)) = some r := H
           have A64 := Aside0.mk A640
           clear A640
           by_cases c65 : t211 = 4
           ·rw [if_pos c65] at H
            have c65b0 : (t211 == 4) = true := beq_iff_eq.mpr c65
            have c65b1 : (t211 != 4) = false := bne_eq_false_iff_eq.mpr c65
            clear c65
            by_cases c66 : (x12_2.length : Int) = 0
            ·rw [if_pos c66] at H
             have c66b0 : ((x12_2.length : Int) == 0) = true := beq_iff_eq.mpr c66
             have c66b1 : ((x12_2.length : Int) != 0) = false := bne_eq_false_iff_eq.mpr c66
             clear c66
             by_cases c67 : t216 = t211
             ·rw [if_pos c67] at H
              have c67b0 : (t216 == t211) = true := beq_iff_eq.mpr c67
              have c67b1 : (t216 != t211) = false := bne_eq_false_iff_eq.mpr c67
              clear c67
              replace H := Option.bind_eq_some_iff.mp H
              obtain ⟨t217, A680, H⟩ := H
              replace H : (some t217) = some r := H
              have A68 := Aside0.mk A680
              clear A680
              obtain rfl := Option.some.inj H
              obtain ⟨Ao69, co69, eo69⟩ := Kd.R_slice HO_11.out
              subst eo69
              have hnb70 := NB198_199.out
              have hnc70 := NB199_198.out
              have hcz71_0 := czz BK198.out 0
              have hcz71_1 := czz BK198.out 1
              have hcz71_2 := czz BK198.out 2
              have hcz71_3 := czz BK198.out 3
              have hfz71_0 := fz BK198.out 0
              have hfz71_1 := fz BK198.out 1
              have hfz71_2 := fz BK198.out 2
              have hfz71_3 := fz BK198.out 3
              go_wp2_with (first | ((with_reducible refine gate_callee (f := 16) rfl ?_); refine goesL_ (some 73) rfl rfl Tryd.func16 (by kernel_rfl) rfl #[.agg #[.slice A0_0 l0_0.length c0_0, .int .i64 a0_1, .int .i64 a0_2, .slice (some ad203) l0_3.length c0_3], .int .i64 x8_2, .int .i64 x9_2] rfl TM ?_; (with_reducible refine (rasp_Next.calls _ _ l0_0 a0_1 a0_2 _ _ l0_3 x8_2 x9_2 t209 t210 t211 _ ?side1 ?side2 ?side3 ?side4 ?side5 A32.out).mono ?_); (case side1 => exact TC HR0_0.out); (case side2 => exact HC0_0.out); (case side3 => exact TC HR0_3.out); (case side4 => exact HC0_3.out); (case side5 => exact Glob.fr HG.out (Fr.of_below (TB2 GE198.out GE199.out))); rintro e w72 ⟨rfl, hb⟩; refine ⟨_, rfl, ?_⟩; replace HO_11 := Aside0.mk (Kd.R_below (TRo HO_11.out) hb); replace HO_12 := Aside0.mk (Kd.R_below (TRo HO_12.out) hb); replace HO_13 := Aside0.mk (Kd.R_below (TRo HO_13.out) hb); replace BK198 := Aside0.mk (blk_below (g := gb198) (o := .cells #[.slice A0_0 l0_0.length c0_0, .int .i64 a0_1, .int .i64 a0_2, .slice (some ad203) l0_3.length c0_3] 27 (0, 0)) (by (with_reducible repeat (first | refine blk_drewN ?_ _ | refine blk_drew ?_ | refine blk_alloc ?_ _)); exact BK198.out) hb); replace BK199 := Aside0.mk (blk_below (g := gb199) (o := .cells #[.int .i64 a1_0, .int .i64 a1_1] 28 (0, 0)) (by (with_reducible repeat (first | refine blk_drewN ?_ _ | refine blk_drew ?_ | refine blk_alloc ?_ _)); exact BK199.out) hb); replace HB := Aside0.mk (below_step (TB2 GE198.out GE199.out) hb); (try clear hb); (try clear hb2); (try clear hk); (try clear hi); have hcz73_0 := czz BK198.out 0; have hcz73_1 := czz BK198.out 1; have hcz73_2 := czz BK198.out 2; have hcz73_3 := czz BK198.out 3; have hfz73_0 := fz BK198.out 0; have hfz73_1 := fz BK198.out 1; have hfz73_2 := fz BK198.out 2; have hfz73_3 := fz BK198.out 3; obtain ⟨Ao74, co74, eo74⟩ := Kd.R_slice HO_12.out; subst eo74) | ((with_reducible refine gate_callee (f := 32) rfl ?_); refine goesL_ (some 84) rfl rfl Tryd.func32 (by kernel_rfl) rfl #[.agg #[.slice A0_0 l0_0.length c0_0, .int .i64 a0_1, .int .i64 a0_2, .slice (some ad203) l0_3.length c0_3], .int .i64 t202, .int .i64 t204, .slice Ao74 x12_2.length co74] rfl TM ?_; (with_reducible refine (rasp_Play.calls _ _ l0_0 a0_1 a0_2 _ _ l0_3 t202 t204 _ _ x12_2 t212 t215 t216 _ ?side1 ?side2 ?side3 ?side4 ?side5 ?side6 ?side7 A64.out).mono ?_); (case side1 => exact TC HR0_0.out); (case side2 => exact HC0_0.out); (case side3 => exact TC HR0_3.out); (case side4 => exact HC0_3.out); (case side5 => repeat (first | exact (Kd.R_reads' HO_12.out).2.2 | (with_reducible refine Kd.C_alloc ?_ _) | (with_reducible refine Kd.C_drewN ?_ _) | (with_reducible refine Kd.C_drew ?_))); (case side6 => exact (Kd.R_reads' HO_12.out).2.1); (case side7 => exact Glob.fr HG.out (Fr.of_below (TB2 GE198.out GE199.out))); rintro e w75 ⟨v213, rfl, ho0, hb⟩; refine ⟨_, rfl, ?_⟩; have HO214 := Aside0.mk (Kd.V_lower (Kd.V_mono (ok' := fun k_ => some k_ ≠ (.slice Ao69 x11_2.length co69 : Value).ownBlock ∧ some k_ ≠ (.slice Ao74 x12_2.length co74 : Value).ownBlock ∧ some k_ ≠ (u13 : Value).ownBlock ∧ k_ ≠ gb198 ∧ k_ ≠ gb199) ho0 (fun k_ hk_ => ⟨(Kd.fresh' (Kd.R_lt (TRo HO_11.out)) k_ hk_), (Kd.fresh' (Kd.R_lt (TRo HO_12.out)) k_ hk_), (Kd.fresh' (Kd.R_lt (TRo HO_13.out)) k_ hk_), (Kd.freshB (g := gb198) (o := .cells #[.slice A0_0 l0_0.length c0_0, .int .i64 a0_1, .int .i64 a0_2, .slice (some ad203) l0_3.length c0_3] 27 (0, 0)) (by (with_reducible repeat (first | refine blk_drewN ?_ _ | refine blk_drew ?_ | refine blk_alloc ?_ _)); exact BK198.out) k_ hk_), (Kd.freshB (g := gb199) (o := .cells #[.int .i64 a1_0, .int .i64 a1_1] 28 (0, 0)) (by (with_reducible repeat (first | refine blk_drewN ?_ _ | refine blk_drew ?_ | refine blk_alloc ?_ _)); exact BK199.out) k_ hk_)⟩)) (below_size (TB2 GE198.out GE199.out))); replace HO_11 := Aside0.mk (Kd.R_below (TRo HO_11.out) hb); replace HO_12 := Aside0.mk (Kd.R_below (TRo HO_12.out) hb); replace HO_13 := Aside0.mk (Kd.R_below (TRo HO_13.out) hb); replace BK198 := Aside0.mk (blk_below (g := gb198) (o := .cells #[.slice A0_0 l0_0.length c0_0, .int .i64 a0_1, .int .i64 a0_2, .slice (some ad203) l0_3.length c0_3] 27 (0, 0)) (by (with_reducible repeat (first | refine blk_drewN ?_ _ | refine blk_drew ?_ | refine blk_alloc ?_ _)); exact BK198.out) hb); replace BK199 := Aside0.mk (blk_below (g := gb199) (o := .cells #[.int .i64 a1_0, .int .i64 a1_1] 28 (0, 0)) (by (with_reducible repeat (first | refine blk_drewN ?_ _ | refine blk_drew ?_ | refine blk_alloc ?_ _)); exact BK199.out) hb); replace HB := Aside0.mk (below_step (TB2 GE198.out GE199.out) hb); (try clear hb); (try clear hb2); (try clear hk); (try clear hi); (try clear ho0)) | (go_at_call 22; (with_reducible refine (saronlaw03_filed.calls  t217 _ ?side1 A68.out).mono ?_); (case side1 => exact Glob.fr HG.out (Fr.of_below (TB2 GE198.out GE199.out))); rintro e w76 ⟨rfl, hb⟩; replace HO_11 := Aside0.mk (Kd.R_below (TRo HO_11.out) hb); replace HO_12 := Aside0.mk (Kd.R_below (TRo HO_12.out) hb); replace HO_13 := Aside0.mk (Kd.R_below (TRo HO_13.out) hb); replace HO214 := Aside0.mk (Kd.V_below (by (with_reducible repeat (first | apply Kd.V_alloc | apply Kd.V_drewN | apply Kd.V_drew)); exact HO214.out) hb); replace BK198 := Aside0.mk (blk_below (g := gb198) (o := .cells #[.slice A0_0 l0_0.length c0_0, .int .i64 a0_1, .int .i64 a0_2, .slice (some ad203) l0_3.length c0_3] 27 (0, 0)) (by (with_reducible repeat (first | refine blk_drewN ?_ _ | refine blk_drew ?_ | refine blk_alloc ?_ _)); exact BK198.out) hb); replace BK199 := Aside0.mk (blk_below (g := gb199) (o := .cells #[.int .i64 a1_0, .int .i64 a1_1] 28 (0, 0)) (by (with_reducible repeat (first | refine blk_drewN ?_ _ | refine blk_drew ?_ | refine blk_alloc ?_ _)); exact BK199.out) hb); replace HB := Aside0.mk (below_step (TB2 GE198.out GE199.out) hb); (try clear hb); (try clear hb2); (try clear hk); (try clear hi)))
              go_ret
              exact ⟨TR, TB2 GE198.out GE199.out⟩
             ·rw [if_neg c67] at H
              have c67b0 : (t216 == t211) = false := beq_eq_false_iff_ne.mpr c67
              have c67b1 : (t216 != t211) = true := bne_iff_ne.mpr c67
              obtain rfl := Option.some.inj H
              obtain ⟨Ao77, co77, eo77⟩ := Kd.R_slice HO_11.out
              subst eo77
              have hnb78 := NB198_199.out
              have hnc78 := NB199_198.out
              have hcz79_0 := czz BK198.out 0
              have hcz79_1 := czz BK198.out 1
              have hcz79_2 := czz BK198.out 2
              have hcz79_3 := czz BK198.out 3
              have hfz79_0 := fz BK198.out 0
              have hfz79_1 := fz BK198.out 1
              have hfz79_2 := fz BK198.out 2
              have hfz79_3 := fz BK198.out 3
              go_wp2_with (first | ((with_reducible refine gate_callee (f := 16) rfl ?_); refine goesL_ (some 73) rfl rfl Tryd.func16 (by kernel_rfl) rfl #[.agg #[.slice A0_0 l0_0.length c0_0, .int .i64 a0_1, .int .i64 a0_2, .slice (some ad203) l0_3.length c0_3], .int .i64 x8_2, .int .i64 x9_2] rfl TM ?_; (with_reducible refine (rasp_Next.calls _ _ l0_0 a0_1 a0_2 _ _ l0_3 x8_2 x9_2 t209 t210 t211 _ ?side1 ?side2 ?side3 ?side4 ?side5 A32.out).mono ?_); (case side1 => exact TC HR0_0.out); (case side2 => exact HC0_0.out); (case side3 => exact TC HR0_3.out); (case side4 => exact HC0_3.out); (case side5 => exact Glob.fr HG.out (Fr.of_below (TB2 GE198.out GE199.out))); rintro e w80 ⟨rfl, hb⟩; refine ⟨_, rfl, ?_⟩; replace HO_11 := Aside0.mk (Kd.R_below (TRo HO_11.out) hb); replace HO_12 := Aside0.mk (Kd.R_below (TRo HO_12.out) hb); replace HO_13 := Aside0.mk (Kd.R_below (TRo HO_13.out) hb); replace BK198 := Aside0.mk (blk_below (g := gb198) (o := .cells #[.slice A0_0 l0_0.length c0_0, .int .i64 a0_1, .int .i64 a0_2, .slice (some ad203) l0_3.length c0_3] 27 (0, 0)) (by (with_reducible repeat (first | refine blk_drewN ?_ _ | refine blk_drew ?_ | refine blk_alloc ?_ _)); exact BK198.out) hb); replace BK199 := Aside0.mk (blk_below (g := gb199) (o := .cells #[.int .i64 a1_0, .int .i64 a1_1] 28 (0, 0)) (by (with_reducible repeat (first | refine blk_drewN ?_ _ | refine blk_drew ?_ | refine blk_alloc ?_ _)); exact BK199.out) hb); replace HB := Aside0.mk (below_step (TB2 GE198.out GE199.out) hb); (try clear hb); (try clear hb2); (try clear hk); (try clear hi); have hcz81_0 := czz BK198.out 0; have hcz81_1 := czz BK198.out 1; have hcz81_2 := czz BK198.out 2; have hcz81_3 := czz BK198.out 3; have hfz81_0 := fz BK198.out 0; have hfz81_1 := fz BK198.out 1; have hfz81_2 := fz BK198.out 2; have hfz81_3 := fz BK198.out 3; obtain ⟨Ao82, co82, eo82⟩ := Kd.R_slice HO_12.out; subst eo82) | ((with_reducible refine gate_callee (f := 32) rfl ?_); refine goesL_ (some 84) rfl rfl Tryd.func32 (by kernel_rfl) rfl #[.agg #[.slice A0_0 l0_0.length c0_0, .int .i64 a0_1, .int .i64 a0_2, .slice (some ad203) l0_3.length c0_3], .int .i64 t202, .int .i64 t204, .slice Ao82 x12_2.length co82] rfl TM ?_; (with_reducible refine (rasp_Play.calls _ _ l0_0 a0_1 a0_2 _ _ l0_3 t202 t204 _ _ x12_2 t212 t215 t216 _ ?side1 ?side2 ?side3 ?side4 ?side5 ?side6 ?side7 A64.out).mono ?_); (case side1 => exact TC HR0_0.out); (case side2 => exact HC0_0.out); (case side3 => exact TC HR0_3.out); (case side4 => exact HC0_3.out); (case side5 => repeat (first | exact (Kd.R_reads' HO_12.out).2.2 | (with_reducible refine Kd.C_alloc ?_ _) | (with_reducible refine Kd.C_drewN ?_ _) | (with_reducible refine Kd.C_drew ?_))); (case side6 => exact (Kd.R_reads' HO_12.out).2.1); (case side7 => exact Glob.fr HG.out (Fr.of_below (TB2 GE198.out GE199.out))); rintro e w83 ⟨v213, rfl, ho0, hb⟩; refine ⟨_, rfl, ?_⟩; have HO214 := Aside0.mk (Kd.V_lower (Kd.V_mono (ok' := fun k_ => some k_ ≠ (.slice Ao77 x11_2.length co77 : Value).ownBlock ∧ some k_ ≠ (.slice Ao82 x12_2.length co82 : Value).ownBlock ∧ some k_ ≠ (u13 : Value).ownBlock ∧ k_ ≠ gb198 ∧ k_ ≠ gb199) ho0 (fun k_ hk_ => ⟨(Kd.fresh' (Kd.R_lt (TRo HO_11.out)) k_ hk_), (Kd.fresh' (Kd.R_lt (TRo HO_12.out)) k_ hk_), (Kd.fresh' (Kd.R_lt (TRo HO_13.out)) k_ hk_), (Kd.freshB (g := gb198) (o := .cells #[.slice A0_0 l0_0.length c0_0, .int .i64 a0_1, .int .i64 a0_2, .slice (some ad203) l0_3.length c0_3] 27 (0, 0)) (by (with_reducible repeat (first | refine blk_drewN ?_ _ | refine blk_drew ?_ | refine blk_alloc ?_ _)); exact BK198.out) k_ hk_), (Kd.freshB (g := gb199) (o := .cells #[.int .i64 a1_0, .int .i64 a1_1] 28 (0, 0)) (by (with_reducible repeat (first | refine blk_drewN ?_ _ | refine blk_drew ?_ | refine blk_alloc ?_ _)); exact BK199.out) k_ hk_)⟩)) (below_size (TB2 GE198.out GE199.out))); replace HO_11 := Aside0.mk (Kd.R_below (TRo HO_11.out) hb); replace HO_12 := Aside0.mk (Kd.R_below (TRo HO_12.out) hb); replace HO_13 := Aside0.mk (Kd.R_below (TRo HO_13.out) hb); replace BK198 := Aside0.mk (blk_below (g := gb198) (o := .cells #[.slice A0_0 l0_0.length c0_0, .int .i64 a0_1, .int .i64 a0_2, .slice (some ad203) l0_3.length c0_3] 27 (0, 0)) (by (with_reducible repeat (first | refine blk_drewN ?_ _ | refine blk_drew ?_ | refine blk_alloc ?_ _)); exact BK198.out) hb); replace BK199 := Aside0.mk (blk_below (g := gb199) (o := .cells #[.int .i64 a1_0, .int .i64 a1_1] 28 (0, 0)) (by (with_reducible repeat (first | refine blk_drewN ?_ _ | refine blk_drew ?_ | refine blk_alloc ?_ _)); exact BK199.out) hb); replace HB := Aside0.mk (below_step (TB2 GE198.out GE199.out) hb); (try clear hb); (try clear hb2); (try clear hk); (try clear hi); (try clear ho0)))
              go_ret
              exact ⟨TR, TB2 GE198.out GE199.out⟩
            ·rw [if_neg c66] at H
             have c66b0 : ((x12_2.length : Int) == 0) = false := beq_eq_false_iff_ne.mpr c66
             have c66b1 : ((x12_2.length : Int) != 0) = true := bne_iff_ne.mpr c66
             have c66b2 : ¬ (x12_2 = []) := fun h_ => c66 (by rw [h_]; rfl)
             obtain rfl := Option.some.inj H
             obtain ⟨Ao84, co84, eo84⟩ := Kd.R_slice HO_11.out
             subst eo84
             have hnb85 := NB198_199.out
             have hnc85 := NB199_198.out
             have hcz86_0 := czz BK198.out 0
             have hcz86_1 := czz BK198.out 1
             have hcz86_2 := czz BK198.out 2
             have hcz86_3 := czz BK198.out 3
             have hfz86_0 := fz BK198.out 0
             have hfz86_1 := fz BK198.out 1
             have hfz86_2 := fz BK198.out 2
             have hfz86_3 := fz BK198.out 3
             go_wp2_with (first | ((with_reducible refine gate_callee (f := 16) rfl ?_); refine goesL_ (some 73) rfl rfl Tryd.func16 (by kernel_rfl) rfl #[.agg #[.slice A0_0 l0_0.length c0_0, .int .i64 a0_1, .int .i64 a0_2, .slice (some ad203) l0_3.length c0_3], .int .i64 x8_2, .int .i64 x9_2] rfl TM ?_; (with_reducible refine (rasp_Next.calls _ _ l0_0 a0_1 a0_2 _ _ l0_3 x8_2 x9_2 t209 t210 t211 _ ?side1 ?side2 ?side3 ?side4 ?side5 A32.out).mono ?_); (case side1 => exact TC HR0_0.out); (case side2 => exact HC0_0.out); (case side3 => exact TC HR0_3.out); (case side4 => exact HC0_3.out); (case side5 => exact Glob.fr HG.out (Fr.of_below (TB2 GE198.out GE199.out))); rintro e w87 ⟨rfl, hb⟩; refine ⟨_, rfl, ?_⟩; replace HO_11 := Aside0.mk (Kd.R_below (TRo HO_11.out) hb); replace HO_12 := Aside0.mk (Kd.R_below (TRo HO_12.out) hb); replace HO_13 := Aside0.mk (Kd.R_below (TRo HO_13.out) hb); replace BK198 := Aside0.mk (blk_below (g := gb198) (o := .cells #[.slice A0_0 l0_0.length c0_0, .int .i64 a0_1, .int .i64 a0_2, .slice (some ad203) l0_3.length c0_3] 27 (0, 0)) (by (with_reducible repeat (first | refine blk_drewN ?_ _ | refine blk_drew ?_ | refine blk_alloc ?_ _)); exact BK198.out) hb); replace BK199 := Aside0.mk (blk_below (g := gb199) (o := .cells #[.int .i64 a1_0, .int .i64 a1_1] 28 (0, 0)) (by (with_reducible repeat (first | refine blk_drewN ?_ _ | refine blk_drew ?_ | refine blk_alloc ?_ _)); exact BK199.out) hb); replace HB := Aside0.mk (below_step (TB2 GE198.out GE199.out) hb); (try clear hb); (try clear hb2); (try clear hk); (try clear hi); have hcz88_0 := czz BK198.out 0; have hcz88_1 := czz BK198.out 1; have hcz88_2 := czz BK198.out 2; have hcz88_3 := czz BK198.out 3; have hfz88_0 := fz BK198.out 0; have hfz88_1 := fz BK198.out 1; have hfz88_2 := fz BK198.out 2; have hfz88_3 := fz BK198.out 3; obtain ⟨Ao89, co89, eo89⟩ := Kd.R_slice HO_12.out; subst eo89) | ((with_reducible refine gate_callee (f := 32) rfl ?_); refine goesL_ (some 84) rfl rfl Tryd.func32 (by kernel_rfl) rfl #[.agg #[.slice A0_0 l0_0.length c0_0, .int .i64 a0_1, .int .i64 a0_2, .slice (some ad203) l0_3.length c0_3], .int .i64 t202, .int .i64 t204, .slice Ao89 x12_2.length co89] rfl TM ?_; (with_reducible refine (rasp_Play.calls _ _ l0_0 a0_1 a0_2 _ _ l0_3 t202 t204 _ _ x12_2 t212 t215 t216 _ ?side1 ?side2 ?side3 ?side4 ?side5 ?side6 ?side7 A64.out).mono ?_); (case side1 => exact TC HR0_0.out); (case side2 => exact HC0_0.out); (case side3 => exact TC HR0_3.out); (case side4 => exact HC0_3.out); (case side5 => repeat (first | exact (Kd.R_reads' HO_12.out).2.2 | (with_reducible refine Kd.C_alloc ?_ _) | (with_reducible refine Kd.C_drewN ?_ _) | (with_reducible refine Kd.C_drew ?_))); (case side6 => exact (Kd.R_reads' HO_12.out).2.1); (case side7 => exact Glob.fr HG.out (Fr.of_below (TB2 GE198.out GE199.out))); rintro e w90 ⟨v213, rfl, ho0, hb⟩; refine ⟨_, rfl, ?_⟩; have HO214 := Aside0.mk (Kd.V_lower (Kd.V_mono (ok' := fun k_ => some k_ ≠ (.slice Ao84 x11_2.length co84 : Value).ownBlock ∧ some k_ ≠ (.slice Ao89 x12_2.length co89 : Value).ownBlock ∧ some k_ ≠ (u13 : Value).ownBlock ∧ k_ ≠ gb198 ∧ k_ ≠ gb199) ho0 (fun k_ hk_ => ⟨(Kd.fresh' (Kd.R_lt (TRo HO_11.out)) k_ hk_), (Kd.fresh' (Kd.R_lt (TRo HO_12.out)) k_ hk_), (Kd.fresh' (Kd.R_lt (TRo HO_13.out)) k_ hk_), (Kd.freshB (g := gb198) (o := .cells #[.slice A0_0 l0_0.length c0_0, .int .i64 a0_1, .int .i64 a0_2, .slice (some ad203) l0_3.length c0_3] 27 (0, 0)) (by (with_reducible repeat (first | refine blk_drewN ?_ _ | refine blk_drew ?_ | refine blk_alloc ?_ _)); exact BK198.out) k_ hk_), (Kd.freshB (g := gb199) (o := .cells #[.int .i64 a1_0, .int .i64 a1_1] 28 (0, 0)) (by (with_reducible repeat (first | refine blk_drewN ?_ _ | refine blk_drew ?_ | refine blk_alloc ?_ _)); exact BK199.out) k_ hk_)⟩)) (below_size (TB2 GE198.out GE199.out))); replace HO_11 := Aside0.mk (Kd.R_below (TRo HO_11.out) hb); replace HO_12 := Aside0.mk (Kd.R_below (TRo HO_12.out) hb); replace HO_13 := Aside0.mk (Kd.R_below (TRo HO_13.out) hb); replace BK198 := Aside0.mk (blk_below (g := gb198) (o := .cells #[.slice A0_0 l0_0.length c0_0, .int .i64 a0_1, .int .i64 a0_2, .slice (some ad203) l0_3.length c0_3] 27 (0, 0)) (by (with_reducible repeat (first | refine blk_drewN ?_ _ | refine blk_drew ?_ | refine blk_alloc ?_ _)); exact BK198.out) hb); replace BK199 := Aside0.mk (blk_below (g := gb199) (o := .cells #[.int .i64 a1_0, .int .i64 a1_1] 28 (0, 0)) (by (with_reducible repeat (first | refine blk_drewN ?_ _ | refine blk_drew ?_ | refine blk_alloc ?_ _)); exact BK199.out) hb); replace HB := Aside0.mk (below_step (TB2 GE198.out GE199.out) hb); (try clear hb); (try clear hb2); (try clear hk); (try clear hi); (try clear ho0)))
             go_ret
             exact ⟨TR, TB2 GE198.out GE199.out⟩
           ·rw [if_neg c65] at H
            have c65b0 : (t211 == 4) = false := beq_eq_false_iff_ne.mpr c65
            have c65b1 : (t211 != 4) = true := bne_iff_ne.mpr c65
            obtain rfl := Option.some.inj H
            obtain ⟨Ao91, co91, eo91⟩ := Kd.R_slice HO_11.out
            subst eo91
            have hnb92 := NB198_199.out
            have hnc92 := NB199_198.out
            have hcz93_0 := czz BK198.out 0
            have hcz93_1 := czz BK198.out 1
            have hcz93_2 := czz BK198.out 2
            have hcz93_3 := czz BK198.out 3
            have hfz93_0 := fz BK198.out 0
            have hfz93_1 := fz BK198.out 1
            have hfz93_2 := fz BK198.out 2
            have hfz93_3 := fz BK198.out 3
            go_wp2_with (first | ((with_reducible refine gate_callee (f := 16) rfl ?_); refine goesL_ (some 73) rfl rfl Tryd.func16 (by kernel_rfl) rfl #[.agg #[.slice A0_0 l0_0.length c0_0, .int .i64 a0_1, .int .i64 a0_2, .slice (some ad203) l0_3.length c0_3], .int .i64 x8_2, .int .i64 x9_2] rfl TM ?_; (with_reducible refine (rasp_Next.calls _ _ l0_0 a0_1 a0_2 _ _ l0_3 x8_2 x9_2 t209 t210 t211 _ ?side1 ?side2 ?side3 ?side4 ?side5 A32.out).mono ?_); (case side1 => exact TC HR0_0.out); (case side2 => exact HC0_0.out); (case side3 => exact TC HR0_3.out); (case side4 => exact HC0_3.out); (case side5 => exact Glob.fr HG.out (Fr.of_below (TB2 GE198.out GE199.out))); rintro e w94 ⟨rfl, hb⟩; refine ⟨_, rfl, ?_⟩; replace HO_11 := Aside0.mk (Kd.R_below (TRo HO_11.out) hb); replace HO_12 := Aside0.mk (Kd.R_below (TRo HO_12.out) hb); replace HO_13 := Aside0.mk (Kd.R_below (TRo HO_13.out) hb); replace BK198 := Aside0.mk (blk_below (g := gb198) (o := .cells #[.slice A0_0 l0_0.length c0_0, .int .i64 a0_1, .int .i64 a0_2, .slice (some ad203) l0_3.length c0_3] 27 (0, 0)) (by (with_reducible repeat (first | refine blk_drewN ?_ _ | refine blk_drew ?_ | refine blk_alloc ?_ _)); exact BK198.out) hb); replace BK199 := Aside0.mk (blk_below (g := gb199) (o := .cells #[.int .i64 a1_0, .int .i64 a1_1] 28 (0, 0)) (by (with_reducible repeat (first | refine blk_drewN ?_ _ | refine blk_drew ?_ | refine blk_alloc ?_ _)); exact BK199.out) hb); replace HB := Aside0.mk (below_step (TB2 GE198.out GE199.out) hb); (try clear hb); (try clear hb2); (try clear hk); (try clear hi); have hcz95_0 := czz BK198.out 0; have hcz95_1 := czz BK198.out 1; have hcz95_2 := czz BK198.out 2; have hcz95_3 := czz BK198.out 3; have hfz95_0 := fz BK198.out 0; have hfz95_1 := fz BK198.out 1; have hfz95_2 := fz BK198.out 2; have hfz95_3 := fz BK198.out 3; obtain ⟨Ao96, co96, eo96⟩ := Kd.R_slice HO_12.out; subst eo96) | ((with_reducible refine gate_callee (f := 32) rfl ?_); refine goesL_ (some 84) rfl rfl Tryd.func32 (by kernel_rfl) rfl #[.agg #[.slice A0_0 l0_0.length c0_0, .int .i64 a0_1, .int .i64 a0_2, .slice (some ad203) l0_3.length c0_3], .int .i64 t202, .int .i64 t204, .slice Ao96 x12_2.length co96] rfl TM ?_; (with_reducible refine (rasp_Play.calls _ _ l0_0 a0_1 a0_2 _ _ l0_3 t202 t204 _ _ x12_2 t212 t215 t216 _ ?side1 ?side2 ?side3 ?side4 ?side5 ?side6 ?side7 A64.out).mono ?_); (case side1 => exact TC HR0_0.out); (case side2 => exact HC0_0.out); (case side3 => exact TC HR0_3.out); (case side4 => exact HC0_3.out); (case side5 => repeat (first | exact (Kd.R_reads' HO_12.out).2.2 | (with_reducible refine Kd.C_alloc ?_ _) | (with_reducible refine Kd.C_drewN ?_ _) | (with_reducible refine Kd.C_drew ?_))); (case side6 => exact (Kd.R_reads' HO_12.out).2.1); (case side7 => exact Glob.fr HG.out (Fr.of_below (TB2 GE198.out GE199.out))); rintro e w97 ⟨v213, rfl, ho0, hb⟩; refine ⟨_, rfl, ?_⟩; have HO214 := Aside0.mk (Kd.V_lower (Kd.V_mono (ok' := fun k_ => some k_ ≠ (.slice Ao91 x11_2.length co91 : Value).ownBlock ∧ some k_ ≠ (.slice Ao96 x12_2.length co96 : Value).ownBlock ∧ some k_ ≠ (u13 : Value).ownBlock ∧ k_ ≠ gb198 ∧ k_ ≠ gb199) ho0 (fun k_ hk_ => ⟨(Kd.fresh' (Kd.R_lt (TRo HO_11.out)) k_ hk_), (Kd.fresh' (Kd.R_lt (TRo HO_12.out)) k_ hk_), (Kd.fresh' (Kd.R_lt (TRo HO_13.out)) k_ hk_), (Kd.freshB (g := gb198) (o := .cells #[.slice A0_0 l0_0.length c0_0, .int .i64 a0_1, .int .i64 a0_2, .slice (some ad203) l0_3.length c0_3] 27 (0, 0)) (by (with_reducible repeat (first | refine blk_drewN ?_ _ | refine blk_drew ?_ | refine blk_alloc ?_ _)); exact BK198.out) k_ hk_), (Kd.freshB (g := gb199) (o := .cells #[.int .i64 a1_0, .int .i64 a1_1] 28 (0, 0)) (by (with_reducible repeat (first | refine blk_drewN ?_ _ | refine blk_drew ?_ | refine blk_alloc ?_ _)); exact BK199.out) k_ hk_)⟩)) (below_size (TB2 GE198.out GE199.out))); replace HO_11 := Aside0.mk (Kd.R_below (TRo HO_11.out) hb); replace HO_12 := Aside0.mk (Kd.R_below (TRo HO_12.out) hb); replace HO_13 := Aside0.mk (Kd.R_below (TRo HO_13.out) hb); replace BK198 := Aside0.mk (blk_below (g := gb198) (o := .cells #[.slice A0_0 l0_0.length c0_0, .int .i64 a0_1, .int .i64 a0_2, .slice (some ad203) l0_3.length c0_3] 27 (0, 0)) (by (with_reducible repeat (first | refine blk_drewN ?_ _ | refine blk_drew ?_ | refine blk_alloc ?_ _)); exact BK198.out) hb); replace BK199 := Aside0.mk (blk_below (g := gb199) (o := .cells #[.int .i64 a1_0, .int .i64 a1_1] 28 (0, 0)) (by (with_reducible repeat (first | refine blk_drewN ?_ _ | refine blk_drew ?_ | refine blk_alloc ?_ _)); exact BK199.out) hb); replace HB := Aside0.mk (below_step (TB2 GE198.out GE199.out) hb); (try clear hb); (try clear hb2); (try clear hk); (try clear hi); (try clear ho0)))
            go_ret
            exact ⟨TR, TB2 GE198.out GE199.out⟩
         ·rw [if_neg c31] at H
          have c31b0 : decide ((x11_2.length : Int) ≤ 30) = false := decide_eq_false c31
          have c31b1 : decide (x11_2.length ≤ 30) = false := decide_eq_false (by omega)
          clear c31
          (first | rw [c31b0] | (simp only [i64_w, i32_w]; rw [c31b0]) | skip)
          have H' := Aside0.mk H
          clear H
          obtain ⟨Ao98, co98, eo98⟩ := Kd.R_slice HO_11.out
          subst eo98
          go_wp2
          go_meet
          case rel => exact ⟨_, (x8_2), (x11_2), (x12_2), (x13_2), TT, H', ⟨by have := HJ3.out; have := HK2.out; first | omega | exact Nat.le_refl _⟩, ⟨by (with_reducible repeat (first | apply Kd.R_alloc | apply Kd.R_drewN | apply Kd.R_drew)); exact HO_11.out⟩, ⟨by (with_reducible repeat (first | apply Kd.R_alloc | apply Kd.R_drewN | apply Kd.R_drew)); exact HO_12.out⟩, ⟨by (with_reducible repeat (first | apply Kd.R_alloc | apply Kd.R_drewN | apply Kd.R_drew)); exact HO_13.out⟩, ⟨by (with_reducible repeat (first | refine blk_drewN ?_ _ | refine blk_drew ?_ | refine blk_alloc ?_ _)); exact BK198.out⟩, ⟨by (with_reducible repeat (first | refine blk_drewN ?_ _ | refine blk_drew ?_ | refine blk_alloc ?_ _)); exact BK199.out⟩, ⟨TB2 GE198.out GE199.out⟩⟩
      case rest => as_aux_lemma =>
       clear HC23
       try clear c1
       try clear c2
       try clear p2
       try clear q2
       try clear hx2
       try clear c3
       try clear c4
       try clear c6
       try clear p6
       try clear c7
       try clear c8
       try clear c9
       try clear c16
       try clear p20
       try clear q20
       try clear hx20
       try clear p21
       try clear q21
       try clear hx21
       try clear p22
       try clear q22
       try clear hx22
       try clear c31
       try clear c31b0
       try clear c31b1
       try clear c32
       try clear c33
       try clear c33b0
       try clear c33b1
       try clear c34
       try clear c34b0
       try clear c34b1
       try clear c36
       try clear c39
       try clear c40
       try clear c41
       try clear c41b0
       try clear c42
       try clear c42b0
       try clear c45
       try clear c46
       try clear c47
       try clear c49
       try clear c60
       try clear p64
       try clear c65
       try clear c65b0
       try clear c65b1
       try clear c66
       try clear c66b0
       try clear c66b1
       try clear c66b2
       try clear c67
       try clear c67b0
       try clear c67b1
       try clear c70
       try clear c78
       try clear c85
       try clear c92
       try clear hcz37_0 hcz37_1 hcz37_2 hcz37_3
       try clear hcz50_0 hcz50_1 hcz50_2 hcz50_3
       try clear hcz52_0 hcz52_1 hcz52_2 hcz52_3
       try clear hcz61_0 hcz61_1 hcz61_2 hcz61_3
       try clear hcz63_0 hcz63_1 hcz63_2 hcz63_3
       try clear hcz71_0 hcz71_1 hcz71_2 hcz71_3
       try clear hcz73_0 hcz73_1 hcz73_2 hcz73_3
       try clear hcz79_0 hcz79_1 hcz79_2 hcz79_3
       try clear hcz81_0 hcz81_1 hcz81_2 hcz81_3
       try clear hcz86_0 hcz86_1 hcz86_2 hcz86_3
       try clear hcz88_0 hcz88_1 hcz88_2 hcz88_3
       try clear hcz93_0 hcz93_1 hcz93_2 hcz93_3
       try clear hcz95_0 hcz95_1 hcz95_2 hcz95_3
       try clear hfz10_0 hfz10_1 hfz10_2 hfz10_3
       try clear hfz12_0 hfz12_1 hfz12_2 hfz12_3
       try clear hfz14_0 hfz14_1 hfz14_2 hfz14_3
       try clear hfz25_0 hfz25_1
       try clear hfz26_0 hfz26_1 hfz26_2 hfz26_3
       try clear hfz37_0 hfz37_1 hfz37_2 hfz37_3
       try clear hfz50_0 hfz50_1 hfz50_2 hfz50_3
       try clear hfz52_0 hfz52_1 hfz52_2 hfz52_3
       try clear hfz61_0 hfz61_1 hfz61_2 hfz61_3
       try clear hfz63_0 hfz63_1 hfz63_2 hfz63_3
       try clear hfz71_0 hfz71_1 hfz71_2 hfz71_3
       try clear hfz73_0 hfz73_1 hfz73_2 hfz73_3
       try clear hfz79_0 hfz79_1 hfz79_2 hfz79_3
       try clear hfz81_0 hfz81_1 hfz81_2 hfz81_3
       try clear hfz86_0 hfz86_1 hfz86_2 hfz86_3
       try clear hfz88_0 hfz88_1 hfz88_2 hfz88_3
       try clear hfz93_0 hfz93_1 hfz93_2 hfz93_3
       try clear hfz95_0 hfz95_1 hfz95_2 hfz95_3
       try clear hx203_0
       try clear hx203_1
       try clear hx203_2
       try clear hx205_0
       try clear hx205_1
       try clear hx205_2
       try clear hx219_0
       try clear hx219_1
       try clear hx219_2
       try clear hx228_0
       try clear hx228_1
       try clear hx228_2
       try clear p2
       try clear p203
       try clear p205
       try clear p219
       try clear p228
       try clear q203
       try clear q205
       try clear q219
       try clear q228
       obtain ⟨kq, x8_22, x11_22, x12_22, x13_22, rfl, HA, HJ22, HO_11, HO_12, HO_13, BK198, BK199, HB⟩ := hcut
       cases kq with
       | zero => exact absurd HA.out (by simp [saronlaw03_RaspPlayed.j2])
       | succ kj22 =>
        have H := HA.out
        clear HA
        simp only [saronlaw03_RaspPlayed.j2] at H
        replace H := Option.bind_eq_some_iff.mp H
        obtain ⟨⟨t232, t235, t236⟩, A990, H⟩ := H
        replace H : ((rasp_Strokes.f l0_0 a0_1 a0_2 l0_3 t202).bind fun bt237 => (if t236 = 0 then ((saronref00_Equal.f kj22 t232 x11_22).bind fun t239 => (if t239 = true then (if t235 = x8_22 then ((saronref00_Bears.f a0_1 a0_2 t235).bind fun t240 => (if t240 = true then (if bt237.2 = 0 then (saronlaw03_RaspPlayed.j3 kj22 t202 t204 x11_22 x12_22 x13_22 (decide ((t232.length : Int) > bt237.1)) l0_0 a0_1 a0_2 l0_3) else (saronlaw03_RaspPlayed.j3 kj22 t202 t204 x11_22 x12_22 x13_22 false l0_0 a0_1 a0_2 l0_3)) else (saronlaw03_RaspPlayed.j3 kj22 t202 t204 x11_22 x12_22 x13_22 true l0_0 a0_1 a0_2 l0_3))) else (saronlaw03_RaspPlayed.j3 kj22 t202 t204 x11_22 x12_22 x13_22 true l0_0 a0_1 a0_2 l0_3)) else (saronlaw03_RaspPlayed.j3 kj22 t202 t204 x11_22 x12_22 x13_22 true l0_0 a0_1 a0_2 l0_3))) else (saronlaw03_RaspPlayed.j3 kj22 t202 t204 x11_22 x12_22 x13_22 true l0_0 a0_1 a0_2 l0_3))) = some r := H
        have A99 := Aside0.mk A990
        clear A990
        replace H := Option.bind_eq_some_iff.mp H
        obtain ⟨⟨t237, t238⟩, A1000, H⟩ := H
        replace H : (if t236 = 0 then ((saronref00_Equal.f kj22 t232 x11_22).bind fun t239 => (if t239 = true then (if t235 = x8_22 then ((saronref00_Bears.f a0_1 a0_2 t235).bind fun t240 => (if t240 = true then (if t238 = 0 then (saronlaw03_RaspPlayed.j3 kj22 t202 t204 x11_22 x12_22 x13_22 (decide ((t232.length : Int) > t237)) l0_0 a0_1 a0_2 l0_3) else (saronlaw03_RaspPlayed.j3 kj22 t202 t204 x11_22 x12_22 x13_22 false l0_0 a0_1 a0_2 l0_3)) else (saronlaw03_RaspPlayed.j3 kj22 t202 t204 x11_22 x12_22 x13_22 true l0_0 a0_1 a0_2 l0_3))) else (saronlaw03_RaspPlayed.j3 kj22 t202 t204 x11_22 x12_22 x13_22 true l0_0 a0_1 a0_2 l0_3)) else (saronlaw03_RaspPlayed.j3 kj22 t202 t204 x11_22 x12_22 x13_22 true l0_0 a0_1 a0_2 l0_3))) else (saronlaw03_RaspPlayed.j3 kj22 t202 t204 x11_22 x12_22 x13_22 true l0_0 a0_1 a0_2 l0_3)) = some r := H
        have A100 := Aside0.mk A1000
        clear A1000
        have HC101 := Aside0.mk H
        clear H
        have hnb102 := NB198_199.out
        have hnc102 := NB199_198.out
        have hcz103_0 := czz BK198.out 0
        have hcz103_1 := czz BK198.out 1
        have hcz103_2 := czz BK198.out 2
        have hcz103_3 := czz BK198.out 3
        have hfz103_0 := fz BK198.out 0
        have hfz103_1 := fz BK198.out 1
        have hfz103_2 := fz BK198.out 2
        have hfz103_3 := fz BK198.out 3
        obtain ⟨Ao104, co104, eo104⟩ := Kd.R_slice HO_12.out
        subst eo104
        go_upto_region 22 with (first | ((with_reducible refine gate_callee (f := 32) rfl ?_); refine goesL_ (some 151) rfl rfl Tryd.func32 (by kernel_rfl) rfl #[.agg #[.slice A0_0 l0_0.length c0_0, .int .i64 a0_1, .int .i64 a0_2, .slice (some ad203) l0_3.length c0_3], .int .i64 t202, .int .i64 t204, .slice Ao104 x12_22.length co104] rfl TM ?_; (with_reducible refine (rasp_Play.calls _ _ l0_0 a0_1 a0_2 _ _ l0_3 t202 t204 _ _ x12_22 t232 t235 t236 _ ?side1 ?side2 ?side3 ?side4 ?side5 ?side6 ?side7 A99.out).mono ?_); (case side1 => exact TC HR0_0.out); (case side2 => exact HC0_0.out); (case side3 => exact TC HR0_3.out); (case side4 => exact HC0_3.out); (case side5 => repeat (first | exact (Kd.R_reads' HO_12.out).2.2 | (with_reducible refine Kd.C_alloc ?_ _) | (with_reducible refine Kd.C_drewN ?_ _) | (with_reducible refine Kd.C_drew ?_))); (case side6 => exact (Kd.R_reads' HO_12.out).2.1); (case side7 => exact Glob.fr HG.out (Fr.of_below (TB2 GE198.out GE199.out))); rintro e w105 ⟨v233, rfl, ho0, hb⟩; refine ⟨_, rfl, ?_⟩; have HO234 := Aside0.mk (Kd.V_lower (Kd.V_mono (ok' := fun k_ => some k_ ≠ (u11 : Value).ownBlock ∧ some k_ ≠ (.slice Ao104 x12_22.length co104 : Value).ownBlock ∧ some k_ ≠ (u13 : Value).ownBlock ∧ k_ ≠ gb198 ∧ k_ ≠ gb199) ho0 (fun k_ hk_ => ⟨(Kd.fresh' (Kd.R_lt (TRo HO_11.out)) k_ hk_), (Kd.fresh' (Kd.R_lt (TRo HO_12.out)) k_ hk_), (Kd.fresh' (Kd.R_lt (TRo HO_13.out)) k_ hk_), (Kd.freshB (g := gb198) (o := .cells #[.slice A0_0 l0_0.length c0_0, .int .i64 a0_1, .int .i64 a0_2, .slice (some ad203) l0_3.length c0_3] 27 (0, 0)) (by (with_reducible repeat (first | refine blk_drewN ?_ _ | refine blk_drew ?_ | refine blk_alloc ?_ _)); exact BK198.out) k_ hk_), (Kd.freshB (g := gb199) (o := .cells #[.int .i64 a1_0, .int .i64 a1_1] 28 (0, 0)) (by (with_reducible repeat (first | refine blk_drewN ?_ _ | refine blk_drew ?_ | refine blk_alloc ?_ _)); exact BK199.out) k_ hk_)⟩)) (below_size (TB2 GE198.out GE199.out))); replace HO_11 := Aside0.mk (Kd.R_below (TRo HO_11.out) hb); replace HO_12 := Aside0.mk (Kd.R_below (TRo HO_12.out) hb); replace HO_13 := Aside0.mk (Kd.R_below (TRo HO_13.out) hb); replace BK198 := Aside0.mk (blk_below (g := gb198) (o := .cells #[.slice A0_0 l0_0.length c0_0, .int .i64 a0_1, .int .i64 a0_2, .slice (some ad203) l0_3.length c0_3] 27 (0, 0)) (by (with_reducible repeat (first | refine blk_drewN ?_ _ | refine blk_drew ?_ | refine blk_alloc ?_ _)); exact BK198.out) hb); replace BK199 := Aside0.mk (blk_below (g := gb199) (o := .cells #[.int .i64 a1_0, .int .i64 a1_1] 28 (0, 0)) (by (with_reducible repeat (first | refine blk_drewN ?_ _ | refine blk_drew ?_ | refine blk_alloc ?_ _)); exact BK199.out) hb); replace HB := Aside0.mk (below_step (TB2 GE198.out GE199.out) hb); (try clear hb); (try clear hb2); (try clear hk); (try clear hi); (try clear ho0); have hcz106_0 := czz BK198.out 0; have hcz106_1 := czz BK198.out 1; have hcz106_2 := czz BK198.out 2; have hcz106_3 := czz BK198.out 3; have hfz106_0 := fz BK198.out 0; have hfz106_1 := fz BK198.out 1; have hfz106_2 := fz BK198.out 2; have hfz106_3 := fz BK198.out 3) | ((with_reducible refine gate_callee (f := 23) rfl ?_); refine goesL_ (some 158) rfl rfl Tryd.func23 (by kernel_rfl) rfl #[.agg #[.slice A0_0 l0_0.length c0_0, .int .i64 a0_1, .int .i64 a0_2, .slice (some ad203) l0_3.length c0_3], .int .i64 t202] rfl TM ?_; (with_reducible refine (rasp_Strokes.calls _ _ l0_0 a0_1 a0_2 _ _ l0_3 t202 t237 t238 _ ?side1 ?side2 ?side3 ?side4 ?side5 A100.out).mono ?_); (case side1 => exact TC HR0_0.out); (case side2 => exact HC0_0.out); (case side3 => exact TC HR0_3.out); (case side4 => exact HC0_3.out); (case side5 => exact Glob.fr HG.out (Fr.of_below (TB2 GE198.out GE199.out))); rintro e w107 ⟨rfl, hb⟩; refine ⟨_, rfl, ?_⟩; replace HO_11 := Aside0.mk (Kd.R_below (TRo HO_11.out) hb); replace HO_12 := Aside0.mk (Kd.R_below (TRo HO_12.out) hb); replace HO_13 := Aside0.mk (Kd.R_below (TRo HO_13.out) hb); replace HO234 := Aside0.mk (Kd.V_below (by (with_reducible repeat (first | apply Kd.V_alloc | apply Kd.V_drewN | apply Kd.V_drew)); exact HO234.out) hb); replace BK198 := Aside0.mk (blk_below (g := gb198) (o := .cells #[.slice A0_0 l0_0.length c0_0, .int .i64 a0_1, .int .i64 a0_2, .slice (some ad203) l0_3.length c0_3] 27 (0, 0)) (by (with_reducible repeat (first | refine blk_drewN ?_ _ | refine blk_drew ?_ | refine blk_alloc ?_ _)); exact BK198.out) hb); replace BK199 := Aside0.mk (blk_below (g := gb199) (o := .cells #[.int .i64 a1_0, .int .i64 a1_1] 28 (0, 0)) (by (with_reducible repeat (first | refine blk_drewN ?_ _ | refine blk_drew ?_ | refine blk_alloc ?_ _)); exact BK199.out) hb); replace HB := Aside0.mk (below_step (TB2 GE198.out GE199.out) hb); (try clear hb); (try clear hb2); (try clear hk); (try clear hi)))
        (try simp only [Act.put, lA, lZ, lS])
        go_cut [190] (fun v190 wc => ∃ (kq : Nat) (x190_100 : Bool), v190 = .bool x190_100 ∧ Aside0 (saronlaw03_RaspPlayed.j3 kq t202 t204 x11_22 x12_22 x13_22 x190_100 l0_0 a0_1 a0_2 l0_3 = some r) ∧ Aside0 (kq ≤ kj22) ∧ Aside0 (Kd.R (Kd.int .i64) 3 wc w.heap.size (fun k_ => some k_ ≠ ((.slice Ao104 x12_22.length co104) : Value).ownBlock ∧ some k_ ≠ (u13 : Value).ownBlock) u11 x11_22) ∧ Aside0 (Kd.R (Kd.int .i64) 3 wc w.heap.size (fun k_ => some k_ ≠ (u11 : Value).ownBlock ∧ some k_ ≠ (u13 : Value).ownBlock) (.slice Ao104 x12_22.length co104) x12_22) ∧ Aside0 (Kd.R (Kd.int .i64) 3 wc w.heap.size (fun k_ => some k_ ≠ (u11 : Value).ownBlock ∧ some k_ ≠ ((.slice Ao104 x12_22.length co104) : Value).ownBlock) u13 x13_22) ∧ Aside0 (wc.heap[gb198]? = some (.cells #[(.slice A0_0 l0_0.length c0_0), .int .i64 a0_1, .int .i64 a0_2, (.slice (some ad203) l0_3.length c0_3)] 27 (0, 0))) ∧ Aside0 (wc.heap[gb199]? = some (.cells #[.int .i64 a1_0, .int .i64 a1_1] 28 (0, 0))) ∧ Aside0 (Below w.heap.size w wc))
        case first => as_aux_lemma =>
         have H := HC101.out
         clear HC101
         by_cases c108 : t236 = 0
         ·rw [if_pos c108] at H
          have c108b0 : (t236 == 0) = true := beq_iff_eq.mpr c108
          have c108b1 : (t236 != 0) = false := bne_eq_false_iff_eq.mpr c108
          clear c108
          (first | rw [c108b0] | (simp only [i64_w, i32_w]; rw [c108b0]) | skip)
          replace H := Option.bind_eq_some_iff.mp H
          obtain ⟨t239, A1090, H⟩ := H
          replace H : (if t239 = true then (if t235 = x8_22 then ((saronref00_Bears.f a0_1 a0_2 t235).bind fun t240 => (if t240 = true then (if t238 = 0 then (saronlaw03_RaspPlayed.j3 kj22 t202 t204 x11_22 x12_22 x13_22 (decide ((t232.length : Int) > t237)) l0_0 a0_1 a0_2 l0_3) else (saronlaw03_RaspPlayed.j3 kj22 t202 t204 x11_22 x12_22 x13_22 false l0_0 a0_1 a0_2 l0_3)) else (saronlaw03_RaspPlayed.j3 kj22 t202 t204 x11_22 x12_22 x13_22 true l0_0 a0_1 a0_2 l0_3))) else (saronlaw03_RaspPlayed.j3 kj22 t202 t204 x11_22 x12_22 x13_22 true l0_0 a0_1 a0_2 l0_3)) else (saronlaw03_RaspPlayed.j3 kj22 t202 t204 x11_22 x12_22 x13_22 true l0_0 a0_1 a0_2 l0_3)) = some r := H
          have A109 := Aside0.mk A1090
          clear A1090
          by_cases c110 : t239 = true
          ·subst c110
           have H1 : (if t235 = x8_22 then ((saronref00_Bears.f a0_1 a0_2 t235).bind fun t240 => (if t240 = true then (if t238 = 0 then (saronlaw03_RaspPlayed.j3 kj22 t202 t204 x11_22 x12_22 x13_22 (decide ((t232.length : Int) > t237)) l0_0 a0_1 a0_2 l0_3) else (saronlaw03_RaspPlayed.j3 kj22 t202 t204 x11_22 x12_22 x13_22 false l0_0 a0_1 a0_2 l0_3)) else (saronlaw03_RaspPlayed.j3 kj22 t202 t204 x11_22 x12_22 x13_22 true l0_0 a0_1 a0_2 l0_3))) else (saronlaw03_RaspPlayed.j3 kj22 t202 t204 x11_22 x12_22 x13_22 true l0_0 a0_1 a0_2 l0_3)) = some r := by rw [if_pos rfl] at H; exact H
           clear H
           have H := H1
           clear H1
           by_cases c111 : t235 = x8_22
           ·rw [if_pos c111] at H
            have c111b0 : (t235 == x8_22) = true := beq_iff_eq.mpr c111
            have c111b1 : (t235 != x8_22) = false := bne_eq_false_iff_eq.mpr c111
            clear c111
            replace H := Option.bind_eq_some_iff.mp H
            obtain ⟨t240, A1120, H⟩ := H
            replace H : (if t240 = true then (if t238 = 0 then (saronlaw03_RaspPlayed.j3 kj22 t202 t204 x11_22 x12_22 x13_22 (decide ((t232.length : Int) > t237)) l0_0 a0_1 a0_2 l0_3) else (saronlaw03_RaspPlayed.j3 kj22 t202 t204 x11_22 x12_22 x13_22 false l0_0 a0_1 a0_2 l0_3)) else (saronlaw03_RaspPlayed.j3 kj22 t202 t204 x11_22 x12_22 x13_22 true l0_0 a0_1 a0_2 l0_3)) = some r := H
            have A112 := Aside0.mk A1120
            clear A1120
            by_cases c113 : t240 = true
            ·subst c113
             have H1 : (if t238 = 0 then (saronlaw03_RaspPlayed.j3 kj22 t202 t204 x11_22 x12_22 x13_22 (decide ((t232.length : Int) > t237)) l0_0 a0_1 a0_2 l0_3) else (saronlaw03_RaspPlayed.j3 kj22 t202 t204 x11_22 x12_22 x13_22 false l0_0 a0_1 a0_2 l0_3)) = some r := by rw [if_pos rfl] at H; exact H
             clear H
             have H := H1
             clear H1
             by_cases c114 : t238 = 0
             ·rw [if_pos c114] at H
              have c114b0 : (t238 == 0) = true := beq_iff_eq.mpr c114
              have c114b1 : (t238 != 0) = false := bne_eq_false_iff_eq.mpr c114
              clear c114
              have H' := Aside0.mk H
              clear H
              obtain ⟨Ao115, co115, eo115⟩ := Kd.V_slice HO234.out
              subst eo115
              obtain ⟨Ao116, co116, eo116⟩ := Kd.R_slice HO_11.out
              subst eo116
              go_wp2_with (first | (go_at_call 27; (with_reducible refine (saronref00_Equal.calls kj22 _ _ t232 _ _ x11_22 true _ ?side1 ?side2 ?side3 ?side4 A109.out).mono ?_); (case side1 => repeat (first | exact (Kd.V_reads' HO234.out).2.2 | (with_reducible refine Kd.C_alloc ?_ _) | (with_reducible refine Kd.C_drewN ?_ _) | (with_reducible refine Kd.C_drew ?_))); (case side2 => exact (Kd.V_reads' HO234.out).2.1); (case side3 => repeat (first | exact (Kd.R_reads' HO_11.out).2.2 | (with_reducible refine Kd.C_alloc ?_ _) | (with_reducible refine Kd.C_drewN ?_ _) | (with_reducible refine Kd.C_drew ?_))); (case side4 => exact (Kd.R_reads' HO_11.out).2.1); rintro e w' ⟨rfl, ⟨nd, rfl⟩⟩; have hnb117 := NB198_199.out; have hnc117 := NB199_198.out; have hcz118_0 := czz BK198.out 0; have hcz118_1 := czz BK198.out 1; have hcz118_2 := czz BK198.out 2; have hcz118_3 := czz BK198.out 3; have hfz118_0 := fz BK198.out 0; have hfz118_1 := fz BK198.out 1; have hfz118_2 := fz BK198.out 2; have hfz118_3 := fz BK198.out 3) | (go_at_call 40; (with_reducible refine (saronref00_Bears.calls a0_1 a0_2 t235 true _ A112.out).mono ?_); rintro e w119 ⟨rfl, hb⟩; replace HO_11 := Aside0.mk (Kd.R_below (TRo HO_11.out) hb); replace HO_12 := Aside0.mk (Kd.R_below (TRo HO_12.out) hb); replace HO_13 := Aside0.mk (Kd.R_below (TRo HO_13.out) hb); replace HO234 := Aside0.mk (Kd.V_below (by (with_reducible repeat (first | apply Kd.V_alloc | apply Kd.V_drewN | apply Kd.V_drew)); exact HO234.out) hb); replace BK198 := Aside0.mk (blk_below (g := gb198) (o := .cells #[.slice A0_0 l0_0.length c0_0, .int .i64 a0_1, .int .i64 a0_2, .slice (some ad203) l0_3.length c0_3] 27 (0, 0)) (by (with_reducible repeat (first | refine blk_drewN ?_ _ | refine blk_drew ?_ | refine blk_alloc ?_ _)); exact BK198.out) hb); replace BK199 := Aside0.mk (blk_below (g := gb199) (o := .cells #[.int .i64 a1_0, .int .i64 a1_1] 28 (0, 0)) (by (with_reducible repeat (first | refine blk_drewN ?_ _ | refine blk_drew ?_ | refine blk_alloc ?_ _)); exact BK199.out) hb); replace HB := Aside0.mk (below_step (TB2 GE198.out GE199.out) hb); (try clear hb); (try clear hb2); (try clear hk); (try clear hi)))
              go_meet
              case rel => exact ⟨_, (decide ((t232.length : Int) > t237)), TT, H', ⟨by have := HJ3.out; have := HJ22.out; first | omega | exact Nat.le_refl _⟩, ⟨by (with_reducible repeat (first | apply Kd.R_alloc | apply Kd.R_drewN | apply Kd.R_drew)); exact HO_11.out⟩, ⟨by (with_reducible repeat (first | apply Kd.R_alloc | apply Kd.R_drewN | apply Kd.R_drew)); exact HO_12.out⟩, ⟨by (with_reducible repeat (first | apply Kd.R_alloc | apply Kd.R_drewN | apply Kd.R_drew)); exact HO_13.out⟩, ⟨by (with_reducible repeat (first | refine blk_drewN ?_ _ | refine blk_drew ?_ | refine blk_alloc ?_ _)); exact BK198.out⟩, ⟨by (with_reducible repeat (first | refine blk_drewN ?_ _ | refine blk_drew ?_ | refine blk_alloc ?_ _)); exact BK199.out⟩, ⟨TB2 GE198.out GE199.out⟩⟩
             ·rw [if_neg c114] at H
              have c114b0 : (t238 == 0) = false := beq_eq_false_iff_ne.mpr c114
              have c114b1 : (t238 != 0) = true := bne_iff_ne.mpr c114
              have H' := Aside0.mk H
              clear H
              obtain ⟨Ao120, co120, eo120⟩ := Kd.V_slice HO234.out
              subst eo120
              obtain ⟨Ao121, co121, eo121⟩ := Kd.R_slice HO_11.out
              subst eo121
              go_wp2_with (first | (go_at_call 27; (with_reducible refine (saronref00_Equal.calls kj22 _ _ t232 _ _ x11_22 true _ ?side1 ?side2 ?side3 ?side4 A109.out).mono ?_); (case side1 => repeat (first | exact (Kd.V_reads' HO234.out).2.2 | (with_reducible refine Kd.C_alloc ?_ _) | (with_reducible refine Kd.C_drewN ?_ _) | (with_reducible refine Kd.C_drew ?_))); (case side2 => exact (Kd.V_reads' HO234.out).2.1); (case side3 => repeat (first | exact (Kd.R_reads' HO_11.out).2.2 | (with_reducible refine Kd.C_alloc ?_ _) | (with_reducible refine Kd.C_drewN ?_ _) | (with_reducible refine Kd.C_drew ?_))); (case side4 => exact (Kd.R_reads' HO_11.out).2.1); rintro e w' ⟨rfl, ⟨nd, rfl⟩⟩; have hnb122 := NB198_199.out; have hnc122 := NB199_198.out; have hcz123_0 := czz BK198.out 0; have hcz123_1 := czz BK198.out 1; have hcz123_2 := czz BK198.out 2; have hcz123_3 := czz BK198.out 3; have hfz123_0 := fz BK198.out 0; have hfz123_1 := fz BK198.out 1; have hfz123_2 := fz BK198.out 2; have hfz123_3 := fz BK198.out 3) | (go_at_call 40; (with_reducible refine (saronref00_Bears.calls a0_1 a0_2 t235 true _ A112.out).mono ?_); rintro e w124 ⟨rfl, hb⟩; replace HO_11 := Aside0.mk (Kd.R_below (TRo HO_11.out) hb); replace HO_12 := Aside0.mk (Kd.R_below (TRo HO_12.out) hb); replace HO_13 := Aside0.mk (Kd.R_below (TRo HO_13.out) hb); replace HO234 := Aside0.mk (Kd.V_below (by (with_reducible repeat (first | apply Kd.V_alloc | apply Kd.V_drewN | apply Kd.V_drew)); exact HO234.out) hb); replace BK198 := Aside0.mk (blk_below (g := gb198) (o := .cells #[.slice A0_0 l0_0.length c0_0, .int .i64 a0_1, .int .i64 a0_2, .slice (some ad203) l0_3.length c0_3] 27 (0, 0)) (by (with_reducible repeat (first | refine blk_drewN ?_ _ | refine blk_drew ?_ | refine blk_alloc ?_ _)); exact BK198.out) hb); replace BK199 := Aside0.mk (blk_below (g := gb199) (o := .cells #[.int .i64 a1_0, .int .i64 a1_1] 28 (0, 0)) (by (with_reducible repeat (first | refine blk_drewN ?_ _ | refine blk_drew ?_ | refine blk_alloc ?_ _)); exact BK199.out) hb); replace HB := Aside0.mk (below_step (TB2 GE198.out GE199.out) hb); (try clear hb); (try clear hb2); (try clear hk); (try clear hi)))
              go_meet
              case rel => exact ⟨_, (false), TT, H', ⟨by have := HJ3.out; have := HJ22.out; first | omega | exact Nat.le_refl _⟩, ⟨by (with_reducible repeat (first | apply Kd.R_alloc | apply Kd.R_drewN | apply Kd.R_drew)); exact HO_11.out⟩, ⟨by (with_reducible repeat (first | apply Kd.R_alloc | apply Kd.R_drewN | apply Kd.R_drew)); exact HO_12.out⟩, ⟨by (with_reducible repeat (first | apply Kd.R_alloc | apply Kd.R_drewN | apply Kd.R_drew)); exact HO_13.out⟩, ⟨by (with_reducible repeat (first | refine blk_drewN ?_ _ | refine blk_drew ?_ | refine blk_alloc ?_ _)); exact BK198.out⟩, ⟨by (with_reducible repeat (first | refine blk_drewN ?_ _ | refine blk_drew ?_ | refine blk_alloc ?_ _)); exact BK199.out⟩, ⟨TB2 GE198.out GE199.out⟩⟩
            ·replace c113 := Bool.eq_false_iff.mpr c113
             subst c113
             have H1 : (saronlaw03_RaspPlayed.j3 kj22 t202 t204 x11_22 x12_22 x13_22 true l0_0 a0_1 a0_2 l0_3) = some r := by rw [if_neg (show ¬ (false = true) by decide)] at H; exact H
             clear H
             have H := H1
             clear H1
             have H' := Aside0.mk H
             clear H
             obtain ⟨Ao125, co125, eo125⟩ := Kd.V_slice HO234.out
             subst eo125
             obtain ⟨Ao126, co126, eo126⟩ := Kd.R_slice HO_11.out
             subst eo126
             go_wp2_with (first | (go_at_call 27; (with_reducible refine (saronref00_Equal.calls kj22 _ _ t232 _ _ x11_22 true _ ?side1 ?side2 ?side3 ?side4 A109.out).mono ?_); (case side1 => repeat (first | exact (Kd.V_reads' HO234.out).2.2 | (with_reducible refine Kd.C_alloc ?_ _) | (with_reducible refine Kd.C_drewN ?_ _) | (with_reducible refine Kd.C_drew ?_))); (case side2 => exact (Kd.V_reads' HO234.out).2.1); (case side3 => repeat (first | exact (Kd.R_reads' HO_11.out).2.2 | (with_reducible refine Kd.C_alloc ?_ _) | (with_reducible refine Kd.C_drewN ?_ _) | (with_reducible refine Kd.C_drew ?_))); (case side4 => exact (Kd.R_reads' HO_11.out).2.1); rintro e w' ⟨rfl, ⟨nd, rfl⟩⟩; have hnb127 := NB198_199.out; have hnc127 := NB199_198.out; have hcz128_0 := czz BK198.out 0; have hcz128_1 := czz BK198.out 1; have hcz128_2 := czz BK198.out 2; have hcz128_3 := czz BK198.out 3; have hfz128_0 := fz BK198.out 0; have hfz128_1 := fz BK198.out 1; have hfz128_2 := fz BK198.out 2; have hfz128_3 := fz BK198.out 3) | (go_at_call 40; (with_reducible refine (saronref00_Bears.calls a0_1 a0_2 t235 false _ A112.out).mono ?_); rintro e w129 ⟨rfl, hb⟩; replace HO_11 := Aside0.mk (Kd.R_below (TRo HO_11.out) hb); replace HO_12 := Aside0.mk (Kd.R_below (TRo HO_12.out) hb); replace HO_13 := Aside0.mk (Kd.R_below (TRo HO_13.out) hb); replace HO234 := Aside0.mk (Kd.V_below (by (with_reducible repeat (first | apply Kd.V_alloc | apply Kd.V_drewN | apply Kd.V_drew)); exact HO234.out) hb); replace BK198 := Aside0.mk (blk_below (g := gb198) (o := .cells #[.slice A0_0 l0_0.length c0_0, .int .i64 a0_1, .int .i64 a0_2, .slice (some ad203) l0_3.length c0_3] 27 (0, 0)) (by (with_reducible repeat (first | refine blk_drewN ?_ _ | refine blk_drew ?_ | refine blk_alloc ?_ _)); exact BK198.out) hb); replace BK199 := Aside0.mk (blk_below (g := gb199) (o := .cells #[.int .i64 a1_0, .int .i64 a1_1] 28 (0, 0)) (by (with_reducible repeat (first | refine blk_drewN ?_ _ | refine blk_drew ?_ | refine blk_alloc ?_ _)); exact BK199.out) hb); replace HB := Aside0.mk (below_step (TB2 GE198.out GE199.out) hb); (try clear hb); (try clear hb2); (try clear hk); (try clear hi)))
             go_meet
             case rel => exact ⟨_, (true), TT, H', ⟨by have := HJ3.out; have := HJ22.out; first | omega | exact Nat.le_refl _⟩, ⟨by (with_reducible repeat (first | apply Kd.R_alloc | apply Kd.R_drewN | apply Kd.R_drew)); exact HO_11.out⟩, ⟨by (with_reducible repeat (first | apply Kd.R_alloc | apply Kd.R_drewN | apply Kd.R_drew)); exact HO_12.out⟩, ⟨by (with_reducible repeat (first | apply Kd.R_alloc | apply Kd.R_drewN | apply Kd.R_drew)); exact HO_13.out⟩, ⟨by (with_reducible repeat (first | refine blk_drewN ?_ _ | refine blk_drew ?_ | refine blk_alloc ?_ _)); exact BK198.out⟩, ⟨by (with_reducible repeat (first | refine blk_drewN ?_ _ | refine blk_drew ?_ | refine blk_alloc ?_ _)); exact BK199.out⟩, ⟨TB2 GE198.out GE199.out⟩⟩
           ·rw [if_neg c111] at H
            have c111b0 : (t235 == x8_22) = false := beq_eq_false_iff_ne.mpr c111
            have c111b1 : (t235 != x8_22) = true := bne_iff_ne.mpr c111
            have H' := Aside0.mk H
            clear H
            obtain ⟨Ao130, co130, eo130⟩ := Kd.V_slice HO234.out
            subst eo130
            obtain ⟨Ao131, co131, eo131⟩ := Kd.R_slice HO_11.out
            subst eo131
            go_wp2_with (first | (go_at_call 27; (with_reducible refine (saronref00_Equal.calls kj22 _ _ t232 _ _ x11_22 true _ ?side1 ?side2 ?side3 ?side4 A109.out).mono ?_); (case side1 => repeat (first | exact (Kd.V_reads' HO234.out).2.2 | (with_reducible refine Kd.C_alloc ?_ _) | (with_reducible refine Kd.C_drewN ?_ _) | (with_reducible refine Kd.C_drew ?_))); (case side2 => exact (Kd.V_reads' HO234.out).2.1); (case side3 => repeat (first | exact (Kd.R_reads' HO_11.out).2.2 | (with_reducible refine Kd.C_alloc ?_ _) | (with_reducible refine Kd.C_drewN ?_ _) | (with_reducible refine Kd.C_drew ?_))); (case side4 => exact (Kd.R_reads' HO_11.out).2.1); rintro e w' ⟨rfl, ⟨nd, rfl⟩⟩))
            go_meet
            case rel => exact ⟨_, (true), TT, H', ⟨by have := HJ3.out; have := HJ22.out; first | omega | exact Nat.le_refl _⟩, ⟨by (with_reducible repeat (first | apply Kd.R_alloc | apply Kd.R_drewN | apply Kd.R_drew)); exact HO_11.out⟩, ⟨by (with_reducible repeat (first | apply Kd.R_alloc | apply Kd.R_drewN | apply Kd.R_drew)); exact HO_12.out⟩, ⟨by (with_reducible repeat (first | apply Kd.R_alloc | apply Kd.R_drewN | apply Kd.R_drew)); exact HO_13.out⟩, ⟨by (with_reducible repeat (first | refine blk_drewN ?_ _ | refine blk_drew ?_ | refine blk_alloc ?_ _)); exact BK198.out⟩, ⟨by (with_reducible repeat (first | refine blk_drewN ?_ _ | refine blk_drew ?_ | refine blk_alloc ?_ _)); exact BK199.out⟩, ⟨TB2 GE198.out GE199.out⟩⟩
          ·replace c110 := Bool.eq_false_iff.mpr c110
           subst c110
           have H1 : (saronlaw03_RaspPlayed.j3 kj22 t202 t204 x11_22 x12_22 x13_22 true l0_0 a0_1 a0_2 l0_3) = some r := by rw [if_neg (show ¬ (false = true) by decide)] at H; exact H
           clear H
           have H := H1
           clear H1
           have H' := Aside0.mk H
           clear H
           obtain ⟨Ao132, co132, eo132⟩ := Kd.V_slice HO234.out
           subst eo132
           obtain ⟨Ao133, co133, eo133⟩ := Kd.R_slice HO_11.out
           subst eo133
           go_wp2_with (first | (go_at_call 27; (with_reducible refine (saronref00_Equal.calls kj22 _ _ t232 _ _ x11_22 false _ ?side1 ?side2 ?side3 ?side4 A109.out).mono ?_); (case side1 => repeat (first | exact (Kd.V_reads' HO234.out).2.2 | (with_reducible refine Kd.C_alloc ?_ _) | (with_reducible refine Kd.C_drewN ?_ _) | (with_reducible refine Kd.C_drew ?_))); (case side2 => exact (Kd.V_reads' HO234.out).2.1); (case side3 => repeat (first | exact (Kd.R_reads' HO_11.out).2.2 | (with_reducible refine Kd.C_alloc ?_ _) | (with_reducible refine Kd.C_drewN ?_ _) | (with_reducible refine Kd.C_drew ?_))); (case side4 => exact (Kd.R_reads' HO_11.out).2.1); rintro e w' ⟨rfl, ⟨nd, rfl⟩⟩))
           go_meet
           case rel => exact ⟨_, (true), TT, H', ⟨by have := HJ3.out; have := HJ22.out; first | omega | exact Nat.le_refl _⟩, ⟨by (with_reducible repeat (first | apply Kd.R_alloc | apply Kd.R_drewN | apply Kd.R_drew)); exact HO_11.out⟩, ⟨by (with_reducible repeat (first | apply Kd.R_alloc | apply Kd.R_drewN | apply Kd.R_drew)); exact HO_12.out⟩, ⟨by (with_reducible repeat (first | apply Kd.R_alloc | apply Kd.R_drewN | apply Kd.R_drew)); exact HO_13.out⟩, ⟨by (with_reducible repeat (first | refine blk_drewN ?_ _ | refine blk_drew ?_ | refine blk_alloc ?_ _)); exact BK198.out⟩, ⟨by (with_reducible repeat (first | refine blk_drewN ?_ _ | refine blk_drew ?_ | refine blk_alloc ?_ _)); exact BK199.out⟩, ⟨TB2 GE198.out GE199.out⟩⟩
         ·rw [if_neg c108] at H
          have c108b0 : (t236 == 0) = false := beq_eq_false_iff_ne.mpr c108
          have c108b1 : (t236 != 0) = true := bne_iff_ne.mpr c108
          (first | rw [c108b0] | (simp only [i64_w, i32_w]; rw [c108b0]) | skip)
          have H' := Aside0.mk H
          clear H
          go_wp2
          go_meet
          case rel => exact ⟨_, (true), TT, H', ⟨by have := HJ3.out; have := HJ22.out; first | omega | exact Nat.le_refl _⟩, ⟨by (with_reducible repeat (first | apply Kd.R_alloc | apply Kd.R_drewN | apply Kd.R_drew)); exact HO_11.out⟩, ⟨by (with_reducible repeat (first | apply Kd.R_alloc | apply Kd.R_drewN | apply Kd.R_drew)); exact HO_12.out⟩, ⟨by (with_reducible repeat (first | apply Kd.R_alloc | apply Kd.R_drewN | apply Kd.R_drew)); exact HO_13.out⟩, ⟨by (with_reducible repeat (first | refine blk_drewN ?_ _ | refine blk_drew ?_ | refine blk_alloc ?_ _)); exact BK198.out⟩, ⟨by (with_reducible repeat (first | refine blk_drewN ?_ _ | refine blk_drew ?_ | refine blk_alloc ?_ _)); exact BK199.out⟩, ⟨TB2 GE198.out GE199.out⟩⟩
        case rest => as_aux_lemma =>
         clear HC101
         try clear c1
         try clear c2
         try clear p2
         try clear q2
         try clear hx2
         try clear c3
         try clear c4
         try clear c6
         try clear p6
         try clear c7
         try clear c8
         try clear c9
         try clear c10
         try clear c11
         try clear c12
         try clear c16
         try clear p20
         try clear q20
         try clear hx20
         try clear p21
         try clear q21
         try clear hx21
         try clear p22
         try clear q22
         try clear hx22
         try clear c23
         try clear c31
         try clear c31b0
         try clear c31b1
         try clear c32
         try clear c33
         try clear c33b0
         try clear c33b1
         try clear c34
         try clear c34b0
         try clear c34b1
         try clear c36
         try clear c39
         try clear c40
         try clear c41
         try clear c41b0
         try clear c42
         try clear c42b0
         try clear c45
         try clear c46
         try clear c47
         try clear c49
         try clear c60
         try clear p64
         try clear c65
         try clear c65b0
         try clear c65b1
         try clear c66
         try clear c66b0
         try clear c66b1
         try clear c66b2
         try clear c67
         try clear c67b0
         try clear c67b1
         try clear c70
         try clear c78
         try clear c85
         try clear c92
         try clear c102
         try clear c108
         try clear c108b0
         try clear c108b1
         try clear c110
         try clear c111
         try clear c111b0
         try clear c111b1
         try clear c113
         try clear c114
         try clear c114b0
         try clear c114b1
         try clear c117
         try clear c122
         try clear c127
         try clear hcz103_0 hcz103_1 hcz103_2 hcz103_3
         try clear hcz106_0 hcz106_1 hcz106_2 hcz106_3
         try clear hcz118_0 hcz118_1 hcz118_2 hcz118_3
         try clear hcz123_0 hcz123_1 hcz123_2 hcz123_3
         try clear hcz128_0 hcz128_1 hcz128_2 hcz128_3
         try clear hcz37_0 hcz37_1 hcz37_2 hcz37_3
         try clear hcz50_0 hcz50_1 hcz50_2 hcz50_3
         try clear hcz52_0 hcz52_1 hcz52_2 hcz52_3
         try clear hcz61_0 hcz61_1 hcz61_2 hcz61_3
         try clear hcz63_0 hcz63_1 hcz63_2 hcz63_3
         try clear hcz71_0 hcz71_1 hcz71_2 hcz71_3
         try clear hcz73_0 hcz73_1 hcz73_2 hcz73_3
         try clear hcz79_0 hcz79_1 hcz79_2 hcz79_3
         try clear hcz81_0 hcz81_1 hcz81_2 hcz81_3
         try clear hcz86_0 hcz86_1 hcz86_2 hcz86_3
         try clear hcz88_0 hcz88_1 hcz88_2 hcz88_3
         try clear hcz93_0 hcz93_1 hcz93_2 hcz93_3
         try clear hcz95_0 hcz95_1 hcz95_2 hcz95_3
         try clear hfz103_0 hfz103_1 hfz103_2 hfz103_3
         try clear hfz106_0 hfz106_1 hfz106_2 hfz106_3
         try clear hfz10_0 hfz10_1 hfz10_2 hfz10_3
         try clear hfz118_0 hfz118_1 hfz118_2 hfz118_3
         try clear hfz123_0 hfz123_1 hfz123_2 hfz123_3
         try clear hfz128_0 hfz128_1 hfz128_2 hfz128_3
         try clear hfz12_0 hfz12_1 hfz12_2 hfz12_3
         try clear hfz14_0 hfz14_1 hfz14_2 hfz14_3
         try clear hfz25_0 hfz25_1
         try clear hfz26_0 hfz26_1 hfz26_2 hfz26_3
         try clear hfz37_0 hfz37_1 hfz37_2 hfz37_3
         try clear hfz50_0 hfz50_1 hfz50_2 hfz50_3
         try clear hfz52_0 hfz52_1 hfz52_2 hfz52_3
         try clear hfz61_0 hfz61_1 hfz61_2 hfz61_3
         try clear hfz63_0 hfz63_1 hfz63_2 hfz63_3
         try clear hfz71_0 hfz71_1 hfz71_2 hfz71_3
         try clear hfz73_0 hfz73_1 hfz73_2 hfz73_3
         try clear hfz79_0 hfz79_1 hfz79_2 hfz79_3
         try clear hfz81_0 hfz81_1 hfz81_2 hfz81_3
         try clear hfz86_0 hfz86_1 hfz86_2 hfz86_3
         try clear hfz88_0 hfz88_1 hfz88_2 hfz88_3
         try clear hfz93_0 hfz93_1 hfz93_2 hfz93_3
         try clear hfz95_0 hfz95_1 hfz95_2 hfz95_3
         try clear hx203_0
         try clear hx203_1
         try clear hx203_2
         try clear hx205_0
         try clear hx205_1
         try clear hx205_2
         try clear hx219_0
         try clear hx219_1
         try clear hx219_2
         try clear hx228_0
         try clear hx228_1
         try clear hx228_2
         try clear p2
         try clear p20
         try clear p203
         try clear p205
         try clear p21
         try clear p219
         try clear p22
         try clear p228
         try clear p6
         try clear p64
         try clear q2
         try clear q20
         try clear q203
         try clear q205
         try clear q21
         try clear q219
         try clear q22
         try clear q228
         obtain ⟨kq, x190_100, rfl, HA, HJ100, HO_11, HO_12, HO_13, BK198, BK199, HB⟩ := hcut
         cases kq with
         | zero => exact absurd HA.out (by simp [saronlaw03_RaspPlayed.j3])
         | succ kj100 =>
          have H := HA.out
          clear HA
          simp only [saronlaw03_RaspPlayed.j3] at H
          by_cases c134 : x190_100 = true
          ·subst c134
           have H1 : (some false) = some r := by rw [if_pos rfl] at H; exact H
           clear H
           have H := H1
           clear H1
           obtain rfl := Option.some.inj H
           go_wp2
           go_ret
           exact ⟨TR, TB2 GE198.out GE199.out⟩
          ·replace c134 := Bool.eq_false_iff.mpr c134
           subst c134
           have H1 : ((saronref00_More.f x12_22 0).bind fun t241 => ((rasp_Play.f l0_0 a0_1 a0_2 l0_3 t202 t204 t241).bind fun bt244 => (if bt244.2.2 = 32 then (if (x12_22.length : Int) > 0 then (if 0 ≤ (wrap64 ((x12_22.length : Int) - 1)) then (if (wrap64 ((x12_22.length : Int) - 1)) ≤ (x12_22.length : Int) then ((rasp_Play.f l0_0 a0_1 a0_2 l0_3 t202 t204 (x12_22.take ((wrap64 ((x12_22.length : Int) - 1)) : Int).toNat)).bind fun bt253 => (if bt253.2.2 = 32 then (saronlaw03_RaspPlayed.j4 kj100 x11_22 x13_22 l0_0 a0_1 a0_2 l0_3) else (some false))) else (none)) else (none)) else (saronlaw03_RaspPlayed.j4 kj100 x11_22 x13_22 l0_0 a0_1 a0_2 l0_3)) else (some false)))) = some r := by rw [if_neg (show ¬ (false = true) by decide)] at H; exact H
           clear H
           have H := H1
           clear H1
           replace H := Option.bind_eq_some_iff.mp H
           obtain ⟨t241, A1350, H⟩ := H
           replace H : ((rasp_Play.f l0_0 a0_1 a0_2 l0_3 t202 t204 t241).bind fun bt244 => (if bt244.2.2 = 32 then (if (x12_22.length : Int) > 0 then (if 0 ≤ (wrap64 ((x12_22.length : Int) - 1)) then (if (wrap64 ((x12_22.length : Int) - 1)) ≤ (x12_22.length : Int) then ((rasp_Play.f l0_0 a0_1 a0_2 l0_3 t202 t204 (x12_22.take ((wrap64 ((x12_22.length : Int) - 1)) : Int).toNat)).bind fun bt253 => (if bt253.2.2 = 32 then (saronlaw03_RaspPlayed.j4 kj100 x11_22 x13_22 l0_0 a0_1 a0_2 l0_3) else (some false))) else (none)) else (none)) else (saronlaw03_RaspPlayed.j4 kj100 x11_22 x13_22 l0_0 a0_1 a0_2 l0_3)) else (some false))) = some r := H
           have A135 := Aside0.mk A1350
           clear A1350
           replace H := Option.bind_eq_some_iff.mp H
           obtain ⟨⟨t244, t247, t248⟩, A1360, H⟩ := H
           replace H : (if t248 = 32 then (if (x12_22.length : Int) > 0 then (if 0 ≤ (wrap64 ((x12_22.length : Int) - 1)) then (if (wrap64 ((x12_22.length : Int) - 1)) ≤ (x12_22.length : Int) then ((rasp_Play.f l0_0 a0_1 a0_2 l0_3 t202 t204 (x12_22.take ((wrap64 ((x12_22.length : Int) - 1)) : Int).toNat)).bind fun bt253 => (if bt253.2.2 = 32 then (saronlaw03_RaspPlayed.j4 kj100 x11_22 x13_22 l0_0 a0_1 a0_2 l0_3) else (some false))) else (none)) else (none)) else (saronlaw03_RaspPlayed.j4 kj100 x11_22 x13_22 l0_0 a0_1 a0_2 l0_3)) else (some false)) = some r := H
           have A136 := Aside0.mk A1360
           clear A1360
           by_cases c137 : t248 = 32
           ·rw [if_pos c137] at H
            have c137b0 : (t248 == 32) = true := beq_iff_eq.mpr c137
            have c137b1 : (t248 != 32) = false := bne_eq_false_iff_eq.mpr c137
            clear c137
            have HC138 := Aside0.mk H
            clear H
            try go_wp2
            have n0_ := Aside0.mk (Kd.R_drew HO_11.out)
            have n1_ := Aside0.mk (Kd.R_drew HO_12.out)
            have n2_ := Aside0.mk (Kd.R_drew HO_13.out)
            have n3_ := Aside0.mk (blk_drew BK198.out)
            have n4_ := Aside0.mk (blk_drew BK199.out)
            have n5_ := Aside0.mk (below_drew1 HB.out)
            clear HO_11
            clear HO_12
            clear HO_13
            clear BK198
            clear BK199
            clear HB
            have HO_11 := n0_
            have HO_12 := n1_
            have HO_13 := n2_
            have BK198 := n3_
            have BK199 := n4_
            have HB := n5_
            clear n0_ n1_ n2_ n3_ n4_ n5_
            refine start_ (n := 13) (S := fun w' => w'.cell? ⟨gb198, 0, none⟩ = some (.slice A0_0 l0_0.length c0_0) ∧ w'.cell? ⟨gb198, 1, none⟩ = some (.int .i64 a0_1) ∧ w'.cell? ⟨gb198, 2, none⟩ = some (.int .i64 a0_2) ∧ w'.cell? ⟨gb198, 3, none⟩ = some (.slice (some ad203) l0_3.length c0_3)) (ds := []) (.replicate 13 false) (by kernel_rfl) rfl rfl ⟨czz BK198.out 0, czz BK198.out 1, czz BK198.out 2, czz BK198.out 3⟩ (fun hHeld => ?_); refine with_tabW saronlaw03_RaspPlayed.tab24 saronlaw03_RaspPlayed.bits24 (fun HT_ HW_ => ?_)
            generalize wc.drew = w139 at HO_11 HO_12 HO_13 BK198 BK199 HB hHeld ⊢
            refine pT 1 193 (bt 13 2) (k := ?_)
            refine pT 2 194 (bt 13 6) (k := ?_)
            refine pT 3 195 (bt 13 14) (k := ?_)
            refine tT4 0 192 (bt 13 15) hHeld (k := ?_)
            refine one_ (i := 4) (N := some 196) (bt 13 31) rfl rfl (one_of HT_.out (by kernel_rfl)) (by decide) (fun K hK => ?_)
            refine goes_ Tryd.func49 (by kernel_rfl) rfl #[.slice Ao104 x12_22.length co104, .int .i64 0] (by rfl) rfl rfl TM ?_
            with_reducible refine (saronref00_More.calls _ _ x12_22 0 t241 _ ?side1 ?side2 A135.out).mono ?_
            (case side1 => repeat (first | exact (Kd.R_reads' HO_12.out).2.2 | (with_reducible refine Kd.C_alloc ?_ _) | (with_reducible refine Kd.C_drewN ?_ _) | (with_reducible refine Kd.C_drew ?_)))
            (case side2 => exact (Kd.R_reads' HO_12.out).2.1)
            rintro e w140 ⟨v242, rfl, ho0, hb⟩
            refine ⟨_, rfl, ?_⟩
            have n0_ := Aside0.mk (Kd.R_elder' (TRo HO_11.out) (Kd.R_base ho0) hb)
            have n1_ := Aside0.mk (Kd.R_elder' (TRo HO_12.out) (Kd.R_base ho0) hb)
            have n2_ := Aside0.mk (Kd.R_elder' (TRo HO_13.out) (Kd.R_base ho0) hb)
            have n3_ := Aside0.mk (Kd.R_lower (Kd.R_new' (Kd.R_new' (Kd.R_new' ho0 (Kd.R_lt (TRo HO_11.out))) (Kd.R_lt (TRo HO_12.out))) (Kd.R_lt (TRo HO_13.out))) (below_size (TB2 GE198.out GE199.out)))
            have n4_ := Aside0.mk (blk_below (g := gb198) (o := .cells #[.slice A0_0 l0_0.length c0_0, .int .i64 a0_1, .int .i64 a0_2, .slice (some ad203) l0_3.length c0_3] 27 (0, 0)) (by (with_reducible repeat (first | refine blk_drewN ?_ _ | refine blk_drew ?_ | refine blk_alloc ?_ _)); exact BK198.out) hb)
            have n5_ := Aside0.mk (blk_below (g := gb199) (o := .cells #[.int .i64 a1_0, .int .i64 a1_1] 28 (0, 0)) (by (with_reducible repeat (first | refine blk_drewN ?_ _ | refine blk_drew ?_ | refine blk_alloc ?_ _)); exact BK199.out) hb)
            have n6_ := Aside0.mk (below_step (TB2 GE198.out GE199.out) hb)
            clear HO_11
            clear HO_12
            clear HO_13
            clear BK198
            clear BK199
            clear HB
            have HO_11 := n0_
            have HO_12 := n1_
            have HO_13 := n2_
            have HO243 := n3_
            have BK198 := n4_
            have BK199 := n5_
            have HB := n6_
            clear n0_ n1_ n2_ n3_ n4_ n5_ n6_
            (try clear hb)
            (try clear hb2)
            (try clear hk)
            (try clear hi)
            (try clear ho0)
            obtain ⟨Ao141, co141, eo141⟩ := Kd.R_slice HO243.out
            (first | subst eo141 | (injection eo141 with f1_ f2_ f3_; have f4_ := f1_.symm; have f5_ := f3_.symm; clear f1_ f2_ f3_; subst f4_; subst f5_))
            refine hK.out _ _ ⟨czz BK198.out 0, czz BK198.out 1, czz BK198.out 2, czz BK198.out 3⟩ (fun hHeld => ?_)
            clear hK K
            refine norm_ (a' := ?_) ?_ ?_
            rotate_left
            ·show Act.put _ (some 196) _ = _
             simp only [Act.put, lA, lZ, lS, i64_w, i32_w]
             rfl
            refine one_ (i := 5) (N := some 197) (bt 13 63) rfl rfl (one_of HT_.out (by kernel_rfl)) (by decide) (fun K hK => ?_)
            refine goes_ Tryd.func32 (by kernel_rfl) rfl #[.agg #[.slice A0_0 l0_0.length c0_0, .int .i64 a0_1, .int .i64 a0_2, .slice (some ad203) l0_3.length c0_3], .int .i64 t202, .int .i64 t204, .slice Ao141 t241.length co141] (by rfl) rfl rfl TM ?_
            with_reducible refine (rasp_Play.calls _ _ l0_0 a0_1 a0_2 _ _ l0_3 t202 t204 _ _ t241 t244 t247 t248 _ ?side1 ?side2 ?side3 ?side4 ?side5 ?side6 ?side7 A136.out).mono ?_
            (case side1 => exact TC HR0_0.out)
            (case side2 => exact HC0_0.out)
            (case side3 => exact TC HR0_3.out)
            (case side4 => exact HC0_3.out)
            (case side5 => repeat (first | exact (Kd.R_reads' HO243.out).2.2 | (with_reducible refine Kd.C_alloc ?_ _) | (with_reducible refine Kd.C_drewN ?_ _) | (with_reducible refine Kd.C_drew ?_)))
            (case side6 => exact (Kd.R_reads' HO243.out).2.1)
            (case side7 => exact Glob.fr HG.out (Fr.of_below (TB2 GE198.out GE199.out)))
            rintro e w142 ⟨v245, rfl, ho0, hb⟩
            refine ⟨_, rfl, ?_⟩
            have n0_ := Aside0.mk (Kd.R_below (TRo HO_11.out) hb)
            have n1_ := Aside0.mk (Kd.R_below (TRo HO_12.out) hb)
            have n2_ := Aside0.mk (Kd.R_below (TRo HO_13.out) hb)
            have n3_ := Aside0.mk (Kd.R_below (TRo HO243.out) hb)
            have n4_ := Aside0.mk (Kd.V_lower (Kd.V_mono (ok' := fun k_ => some k_ ≠ (u11 : Value).ownBlock ∧ some k_ ≠ (.slice Ao104 x12_22.length co104 : Value).ownBlock ∧ some k_ ≠ (u13 : Value).ownBlock ∧ some k_ ≠ (.slice Ao141 t241.length co141 : Value).ownBlock ∧ k_ ≠ gb198 ∧ k_ ≠ gb199) ho0 (fun k_ hk_ => ⟨(Kd.fresh' (Kd.R_lt (TRo HO_11.out)) k_ hk_), (Kd.fresh' (Kd.R_lt (TRo HO_12.out)) k_ hk_), (Kd.fresh' (Kd.R_lt (TRo HO_13.out)) k_ hk_), (Kd.fresh' (Kd.R_lt (TRo HO243.out)) k_ hk_), (Kd.freshB (g := gb198) (o := .cells #[.slice A0_0 l0_0.length c0_0, .int .i64 a0_1, .int .i64 a0_2, .slice (some ad203) l0_3.length c0_3] 27 (0, 0)) (by (with_reducible repeat (first | refine blk_drewN ?_ _ | refine blk_drew ?_ | refine blk_alloc ?_ _)); exact BK198.out) k_ hk_), (Kd.freshB (g := gb199) (o := .cells #[.int .i64 a1_0, .int .i64 a1_1] 28 (0, 0)) (by (with_reducible repeat (first | refine blk_drewN ?_ _ | refine blk_drew ?_ | refine blk_alloc ?_ _)); exact BK199.out) k_ hk_)⟩)) (below_size (TB2 GE198.out GE199.out)))
            have n5_ := Aside0.mk (blk_below (g := gb198) (o := .cells #[.slice A0_0 l0_0.length c0_0, .int .i64 a0_1, .int .i64 a0_2, .slice (some ad203) l0_3.length c0_3] 27 (0, 0)) (by (with_reducible repeat (first | refine blk_drewN ?_ _ | refine blk_drew ?_ | refine blk_alloc ?_ _)); exact BK198.out) hb)
            have n6_ := Aside0.mk (blk_below (g := gb199) (o := .cells #[.int .i64 a1_0, .int .i64 a1_1] 28 (0, 0)) (by (with_reducible repeat (first | refine blk_drewN ?_ _ | refine blk_drew ?_ | refine blk_alloc ?_ _)); exact BK199.out) hb)
            have n7_ := Aside0.mk (below_step (TB2 GE198.out GE199.out) hb)
            clear HO_11
            clear HO_12
            clear HO_13
            clear HO243
            clear BK198
            clear BK199
            clear HB
            have HO_11 := n0_
            have HO_12 := n1_
            have HO_13 := n2_
            have HO243 := n3_
            have HO246 := n4_
            have BK198 := n5_
            have BK199 := n6_
            have HB := n7_
            clear n0_ n1_ n2_ n3_ n4_ n5_ n6_ n7_
            (try clear hb)
            (try clear hb2)
            (try clear hk)
            (try clear hi)
            (try clear ho0)
            refine hK.out _ _ ⟨czz BK198.out 0, czz BK198.out 1, czz BK198.out 2, czz BK198.out 3⟩ (fun hHeld => ?_)
            clear hK K
            refine norm_ (a' := ?_) ?_ ?_
            rotate_left
            ·show Act.put _ (some 197) _ = _
             simp only [Act.put, lA, lZ, lS, i64_w, i32_w]
             rfl
            refine pT 6 191 (bt 13 127) (k := ?_)
            refine pT 7 198 (bt 13 255) (k := ?_)
            refine pT 8 199 (bt 13 511) (k := ?_)
            refine pT 9 200 (bt 13 1023) (k := ?_)
            refine pT 10 26 (bt 13 2047) (k := ?_)
            refine pT 11 27 (bt 13 4095) (k := ?_)
            refine pT 12 28 (bt 13 8191) (k := ?_)
            refine done_ (done_of HT_.out (by kernel_rfl)) ?_
            go_upto_if 205 with (fail)
            go_cut [] (fun wc => ∃ (kq : Nat), Aside0 (saronlaw03_RaspPlayed.j4 kq x11_22 x13_22 l0_0 a0_1 a0_2 l0_3 = some r) ∧ Aside0 (kq ≤ kj100) ∧ Aside0 (Kd.R (Kd.int .i64) 3 wc w.heap.size (fun k_ => some k_ ≠ (u13 : Value).ownBlock) u11 x11_22) ∧ Aside0 (Kd.R (Kd.int .i64) 3 wc w.heap.size (fun k_ => some k_ ≠ (u11 : Value).ownBlock) u13 x13_22) ∧ Aside0 (wc.heap[gb198]? = some (.cells #[(.slice A0_0 l0_0.length c0_0), .int .i64 a0_1, .int .i64 a0_2, (.slice (some ad203) l0_3.length c0_3)] 27 (0, 0))) ∧ Aside0 (wc.heap[gb199]? = some (.cells #[.int .i64 a1_0, .int .i64 a1_1] 28 (0, 0))) ∧ Aside0 (Below w.heap.size w wc))
            case first => as_aux_lemma =>
             have H := HC138.out
             clear HC138
             by_cases c143 : (x12_22.length : Int) > 0
             ·rw [if_pos c143] at H
              have c143b0 : decide (0 < (x12_22.length : Int)) = true := decide_eq_true c143
              have c143b1 : decide (0 < x12_22.length) = true := decide_eq_true (by omega)
              have c143b2 : decide (x12_22 = []) = false := decide_eq_false (fun h_ => by rw [h_] at c143; simp at c143)
              have c143b3 : decide (¬ (x12_22 = [])) = true := by rw [decide_not, c143b2]; rfl
              (try rw [c143b1]); (try simp only [c143b2, c143b3, Bool.not_true, Bool.not_false])
              clear c143
              (first | rw [c143b0] | (simp only [i64_w, i32_w]; rw [c143b0]) | skip)
              obtain ⟨ji144, hji144⟩ : ∃ j_ : Int, (wrap64 ((x12_22.length : Int) - 1)) = j_ := ⟨_, rfl⟩
              replace H : (if 0 ≤ (ji144) then (if (ji144) ≤ (x12_22.length : Int) then ((rasp_Play.f l0_0 a0_1 a0_2 l0_3 t202 t204 (x12_22.take ((ji144) : Int).toNat)).bind fun bt253 => (if bt253.2.2 = 32 then (saronlaw03_RaspPlayed.j4 kj100 x11_22 x13_22 l0_0 a0_1 a0_2 l0_3) else (some false))) else (none)) else (none)) = some r := by first | (rw [hji144] at H; exact H) | (simp only [hji144] at H ⊢; exact H)
              have hji144w : (IntKind.i64.wrap ((x12_22.length : Int) - 1)) = ji144 := (i64_w _).trans hji144
              by_cases c145 : 0 ≤ (ji144)
              ·rw [if_pos c145] at H
               have c145b0 := eq_true c145
               have c145b1 : decide (0 ≤ (ji144)) = true := decide_eq_true c145
               clear c145
               by_cases c146 : (ji144) ≤ (x12_22.length : Int)
               ·rw [if_pos c146] at H
                have c146b0 := eq_true c146
                have c146b1 : decide ((ji144) ≤ (x12_22.length : Int)) = true := decide_eq_true c146
                clear c146
                obtain ⟨y249, hy249⟩ : ∃ y_ : List Int, y_ = (x12_22.take ((ji144) : Int).toNat) := ⟨_, rfl⟩
                replace H : ((rasp_Play.f l0_0 a0_1 a0_2 l0_3 t202 t204 y249).bind fun bt253 => (if bt253.2.2 = 32 then (saronlaw03_RaspPlayed.j4 kj100 x11_22 x13_22 l0_0 a0_1 a0_2 l0_3) else (some false))) = some r := by first | (rw [hy249]; with_reducible exact H) | (have H2_ := (Option.bind_some _ _).symm.trans H; rw [hy249]; with_reducible exact H2_) | (have H2_ := (Option.bind_some _ _).symm.trans H; with_reducible exact H2_) | with_reducible exact H | (rw [hy249]; exact H) | exact H
                have Ny249 := Aside0.mk hy249
                clear hy249
                replace H := Option.bind_eq_some_iff.mp H
                obtain ⟨⟨t253, t256, t257⟩, A1470, H⟩ := H
                replace H : (if t257 = 32 then (saronlaw03_RaspPlayed.j4 kj100 x11_22 x13_22 l0_0 a0_1 a0_2 l0_3) else (some false)) = some r := H
                have A147 := Aside0.mk A1470
                clear A1470
                by_cases c148 : t257 = 32
                ·rw [if_pos c148] at H
                 have c148b0 : (t257 == 32) = true := beq_iff_eq.mpr c148
                 have c148b1 : (t257 != 32) = false := bne_eq_false_iff_eq.mpr c148
                 clear c148
                 have H' := Aside0.mk H
                 clear H
                 try go_wp2
                 have n0_ := Aside0.mk (Kd.R_drew HO_11.out)
                 have n1_ := Aside0.mk (Kd.R_drew HO_12.out)
                 have n2_ := Aside0.mk (Kd.R_drew HO_13.out)
                 have n3_ := Aside0.mk (Kd.R_drew HO243.out)
                 have n4_ := Aside0.mk (Kd.V_drew HO246.out)
                 have n5_ := Aside0.mk (blk_drew BK198.out)
                 have n6_ := Aside0.mk (blk_drew BK199.out)
                 have n7_ := Aside0.mk (below_drew1 HB.out)
                 clear HO_11
                 clear HO_12
                 clear HO_13
                 clear HO243
                 clear HO246
                 clear BK198
                 clear BK199
                 clear HB
                 have HO_11 := n0_
                 have HO_12 := n1_
                 have HO_13 := n2_
                 have HO243 := n3_
                 have HO246 := n4_
                 have BK198 := n5_
                 have BK199 := n6_
                 have HB := n7_
                 clear n0_ n1_ n2_ n3_ n4_ n5_ n6_ n7_
                 have q150 : ((ji144) : Int) ≤ ((x12_22.length : Int) : Int) := of_decide_eq_true TA
                 obtain ⟨i0150, hi0150, _, hsz150, _⟩ := info_parts info3
                 have hroom150 : x12_22.length ≤ co104 := (Kd.R_reads' HO_12.out).2.1
                 have hC150 : Kd.C (Kd.int .i64) _ Ao104 x12_22.length x12_22 := (Kd.R_reads' HO_12.out).2.2
                 have hcut150 := cut_to (P := Tryd.prog) 38 3 .i64 Tryd.underlying38 hi0150 Ao104 x12_22.length co104 (ji144) (of_decide_eq_true TA) q150 hroom150
                 have hr150 := Kd.C_take (m := ((ji144) : Int).toNat) hC150 (by omega)
                 have hy150 : y249.length = ((ji144) : Int).toNat := (by rw [Ny249.out, List.length_take]; omega)
                 rw [← Ny249.out] at hr150
                 rw [← hy150] at hcut150
                 have HR252 := Aside0.mk hr150
                 have HC252 := Aside0.mk (show y249.length ≤ co104 from by omega)
                 clear hr150 hC150 hroom150 hi0150 hsz150
                 have KY150 := Aside0.mk hy150
                 clear hy150
                 have KL150 := Aside0.mk (show ((ji144) : Int).toNat ≤ x12_22.length from by omega)
                 replace q150 := eq_true q150
                 refine start_ (n := 14) (S := fun w' => w'.cell? ⟨gb198, 0, none⟩ = some (.slice A0_0 l0_0.length c0_0) ∧ w'.cell? ⟨gb198, 1, none⟩ = some (.int .i64 a0_1) ∧ w'.cell? ⟨gb198, 2, none⟩ = some (.int .i64 a0_2) ∧ w'.cell? ⟨gb198, 3, none⟩ = some (.slice (some ad203) l0_3.length c0_3)) (ds := []) (.replicate 14 false) (by kernel_rfl) rfl rfl ⟨czz BK198.out 0, czz BK198.out 1, czz BK198.out 2, czz BK198.out 3⟩ (fun hHeld => ?_); refine with_tabW saronlaw03_RaspPlayed.tab28 saronlaw03_RaspPlayed.bits28 (fun HT_ HW_ => ?_)
                 generalize w142.drew = w149 at HO_11 HO_12 HO_13 HO243 HO246 BK198 BK199 HB HR252 hHeld ⊢
                 refine pT 1 208 (bt 14 2) (k := ?_)
                 refine pT 2 209 (bt 14 6) (k := ?_)
                 refine pT 3 210 (bt 14 14) (k := ?_)
                 refine pT 4 211 (bt 14 30) (k := ?_)
                 refine pT 5 212 (bt 14 62) (k := ?_)
                 refine pT 6 213 (bt 14 126) (k := ?_)
                 refine pT 7 214 (bt 14 254) (k := ?_)
                 refine tT4 0 207 (bt 14 255) hHeld (k := ?_)
                 refine one_ (i := 8) (N := some 215) (bt 14 511) rfl rfl (one_of HT_.out (by kernel_rfl)) (by decide) (fun K hK => ?_)
                 refine goes_ Tryd.func32 (by kernel_rfl) rfl #[.agg #[.slice A0_0 l0_0.length c0_0, .int .i64 a0_1, .int .i64 a0_2, .slice (some ad203) l0_3.length c0_3], .int .i64 t202, .int .i64 t204, .slice Ao104 y249.length co104] (by rfl) rfl rfl TM ?_
                 with_reducible refine (rasp_Play.calls _ _ l0_0 a0_1 a0_2 _ _ l0_3 t202 t204 _ _ y249 t253 t256 t257 _ ?side1 ?side2 ?side3 ?side4 ?side5 ?side6 ?side7 A147.out).mono ?_
                 (case side1 => exact TC HR0_0.out)
                 (case side2 => exact HC0_0.out)
                 (case side3 => exact TC HR0_3.out)
                 (case side4 => exact HC0_3.out)
                 (case side5 => repeat (first | exact (by repeat (first | (with_reducible exact HR252.out) | (with_reducible refine Kd.C_alloc ?_ _) | (with_reducible refine Kd.C_drewN ?_ _) | (with_reducible refine Kd.C_drew ?_) | exact HR252.out)) | (with_reducible refine Kd.C_alloc ?_ _) | (with_reducible refine Kd.C_drewN ?_ _) | (with_reducible refine Kd.C_drew ?_)))
                 (case side6 => exact HC252.out)
                 (case side7 => exact Glob.fr HG.out (Fr.of_below (TB2 GE198.out GE199.out)))
                 rintro e w151 ⟨v254, rfl, ho0, hb⟩
                 refine ⟨_, rfl, ?_⟩
                 have n0_ := Aside0.mk (Kd.R_below (TRo HO_11.out) hb)
                 have n1_ := Aside0.mk (Kd.R_below (TRo HO_12.out) hb)
                 have n2_ := Aside0.mk (Kd.R_below (TRo HO_13.out) hb)
                 have n3_ := Aside0.mk (Kd.R_below (TRo HO243.out) hb)
                 have n4_ := Aside0.mk (Kd.V_below (by (with_reducible repeat (first | apply Kd.V_alloc | apply Kd.V_drewN | apply Kd.V_drew)); exact HO246.out) hb)
                 have n5_ := Aside0.mk (Kd.V_lower (Kd.V_mono (ok' := fun k_ => some k_ ≠ (u11 : Value).ownBlock ∧ some k_ ≠ (.slice Ao104 x12_22.length co104 : Value).ownBlock ∧ some k_ ≠ (u13 : Value).ownBlock ∧ some k_ ≠ (.slice Ao141 t241.length co141 : Value).ownBlock ∧ k_ ≠ gb198 ∧ k_ ≠ gb199) ho0 (fun k_ hk_ => ⟨(Kd.fresh' (Kd.R_lt (TRo HO_11.out)) k_ hk_), (Kd.fresh' (Kd.R_lt (TRo HO_12.out)) k_ hk_), (Kd.fresh' (Kd.R_lt (TRo HO_13.out)) k_ hk_), (Kd.fresh' (Kd.R_lt (TRo HO243.out)) k_ hk_), (Kd.freshB (g := gb198) (o := .cells #[.slice A0_0 l0_0.length c0_0, .int .i64 a0_1, .int .i64 a0_2, .slice (some ad203) l0_3.length c0_3] 27 (0, 0)) (by (with_reducible repeat (first | refine blk_drewN ?_ _ | refine blk_drew ?_ | refine blk_alloc ?_ _)); exact BK198.out) k_ hk_), (Kd.freshB (g := gb199) (o := .cells #[.int .i64 a1_0, .int .i64 a1_1] 28 (0, 0)) (by (with_reducible repeat (first | refine blk_drewN ?_ _ | refine blk_drew ?_ | refine blk_alloc ?_ _)); exact BK199.out) k_ hk_)⟩)) (below_size (TB2 GE198.out GE199.out)))
                 have n6_ := Aside0.mk (blk_below (g := gb198) (o := .cells #[.slice A0_0 l0_0.length c0_0, .int .i64 a0_1, .int .i64 a0_2, .slice (some ad203) l0_3.length c0_3] 27 (0, 0)) (by (with_reducible repeat (first | refine blk_drewN ?_ _ | refine blk_drew ?_ | refine blk_alloc ?_ _)); exact BK198.out) hb)
                 have n7_ := Aside0.mk (blk_below (g := gb199) (o := .cells #[.int .i64 a1_0, .int .i64 a1_1] 28 (0, 0)) (by (with_reducible repeat (first | refine blk_drewN ?_ _ | refine blk_drew ?_ | refine blk_alloc ?_ _)); exact BK199.out) hb)
                 have n8_ := Aside0.mk (Kd.C_below (by repeat (first | (with_reducible exact HR252.out) | (with_reducible refine Kd.C_alloc ?_ _) | (with_reducible refine Kd.C_drewN ?_ _) | (with_reducible refine Kd.C_drew ?_) | exact HR252.out)) hb)
                 have n9_ := Aside0.mk (below_step (TB2 GE198.out GE199.out) hb)
                 clear HO_11
                 clear HO_12
                 clear HO_13
                 clear HO243
                 clear HO246
                 clear BK198
                 clear BK199
                 clear HR252
                 clear HB
                 have HO_11 := n0_
                 have HO_12 := n1_
                 have HO_13 := n2_
                 have HO243 := n3_
                 have HO246 := n4_
                 have HO255 := n5_
                 have BK198 := n6_
                 have BK199 := n7_
                 have HR252 := n8_
                 have HB := n9_
                 clear n0_ n1_ n2_ n3_ n4_ n5_ n6_ n7_ n8_ n9_
                 (try clear hb)
                 (try clear hb2)
                 (try clear hk)
                 (try clear hi)
                 (try clear ho0)
                 refine hK.out _ _ ⟨czz BK198.out 0, czz BK198.out 1, czz BK198.out 2, czz BK198.out 3⟩ (fun hHeld => ?_)
                 clear hK K
                 refine norm_ (a' := ?_) ?_ ?_
                 rotate_left
                 ·show Act.put _ (some 215) _ = _
                  simp only [Act.put, lA, lZ, lS, i64_w, i32_w]
                  rfl
                 refine pT 9 206 (bt 14 1023) (k := ?_)
                 refine pT 10 216 (bt 14 2047) (k := ?_)
                 refine pT 11 217 (bt 14 4095) (k := ?_)
                 refine pT 12 218 (bt 14 8191) (k := ?_)
                 refine pT 13 28 (bt 14 16383) (k := ?_)
                 refine done_ (done_of HT_.out (by kernel_rfl)) ?_
                 try go_wp2
                 go_meet
                 case rel => exact ⟨_, H', ⟨by have := HJ3.out; have := HJ22.out; have := HJ100.out; first | omega | exact Nat.le_refl _⟩, ⟨by (with_reducible repeat (first | apply Kd.R_alloc | apply Kd.R_drewN | apply Kd.R_drew)); exact Kd.R_mono HO_11.out (fun _ hk => hk.1.2)⟩, ⟨by (with_reducible repeat (first | apply Kd.R_alloc | apply Kd.R_drewN | apply Kd.R_drew)); exact Kd.R_mono HO_13.out (fun _ hk => hk.1.1)⟩, ⟨by (with_reducible repeat (first | refine blk_drewN ?_ _ | refine blk_drew ?_ | refine blk_alloc ?_ _)); exact BK198.out⟩, ⟨by (with_reducible repeat (first | refine blk_drewN ?_ _ | refine blk_drew ?_ | refine blk_alloc ?_ _)); exact BK199.out⟩, ⟨TB2 GE198.out GE199.out⟩⟩
                ·rw [if_neg c148] at H
                 have c148b0 : (t257 == 32) = false := beq_eq_false_iff_ne.mpr c148
                 have c148b1 : (t257 != 32) = true := bne_iff_ne.mpr c148
                 obtain rfl := Option.some.inj H
                 try go_wp2
                 have n0_ := Aside0.mk (Kd.R_drew HO_11.out)
                 have n1_ := Aside0.mk (Kd.R_drew HO_12.out)
                 have n2_ := Aside0.mk (Kd.R_drew HO_13.out)
                 have n3_ := Aside0.mk (Kd.R_drew HO243.out)
                 have n4_ := Aside0.mk (Kd.V_drew HO246.out)
                 have n5_ := Aside0.mk (blk_drew BK198.out)
                 have n6_ := Aside0.mk (blk_drew BK199.out)
                 have n7_ := Aside0.mk (below_drew1 HB.out)
                 clear HO_11
                 clear HO_12
                 clear HO_13
                 clear HO243
                 clear HO246
                 clear BK198
                 clear BK199
                 clear HB
                 have HO_11 := n0_
                 have HO_12 := n1_
                 have HO_13 := n2_
                 have HO243 := n3_
                 have HO246 := n4_
                 have BK198 := n5_
                 have BK199 := n6_
                 have HB := n7_
                 clear n0_ n1_ n2_ n3_ n4_ n5_ n6_ n7_
                 have q153 : ((ji144) : Int) ≤ ((x12_22.length : Int) : Int) := of_decide_eq_true TA
                 obtain ⟨i0153, hi0153, _, hsz153, _⟩ := info_parts info3
                 have hroom153 : x12_22.length ≤ co104 := (Kd.R_reads' HO_12.out).2.1
                 have hC153 : Kd.C (Kd.int .i64) _ Ao104 x12_22.length x12_22 := (Kd.R_reads' HO_12.out).2.2
                 have hcut153 := cut_to (P := Tryd.prog) 38 3 .i64 Tryd.underlying38 hi0153 Ao104 x12_22.length co104 (ji144) (of_decide_eq_true TA) q153 hroom153
                 have hr153 := Kd.C_take (m := ((ji144) : Int).toNat) hC153 (by omega)
                 have hy153 : y249.length = ((ji144) : Int).toNat := (by rw [Ny249.out, List.length_take]; omega)
                 rw [← Ny249.out] at hr153
                 rw [← hy153] at hcut153
                 have HR252 := Aside0.mk hr153
                 have HC252 := Aside0.mk (show y249.length ≤ co104 from by omega)
                 clear hr153 hC153 hroom153 hi0153 hsz153
                 have KY153 := Aside0.mk hy153
                 clear hy153
                 have KL153 := Aside0.mk (show ((ji144) : Int).toNat ≤ x12_22.length from by omega)
                 replace q153 := eq_true q153
                 refine start_ (n := 14) (S := fun w' => w'.cell? ⟨gb198, 0, none⟩ = some (.slice A0_0 l0_0.length c0_0) ∧ w'.cell? ⟨gb198, 1, none⟩ = some (.int .i64 a0_1) ∧ w'.cell? ⟨gb198, 2, none⟩ = some (.int .i64 a0_2) ∧ w'.cell? ⟨gb198, 3, none⟩ = some (.slice (some ad203) l0_3.length c0_3)) (ds := []) (.replicate 14 false) (by kernel_rfl) rfl rfl ⟨czz BK198.out 0, czz BK198.out 1, czz BK198.out 2, czz BK198.out 3⟩ (fun hHeld => ?_); refine with_tabW saronlaw03_RaspPlayed.tab28 saronlaw03_RaspPlayed.bits28 (fun HT_ HW_ => ?_)
                 generalize w142.drew = w152 at HO_11 HO_12 HO_13 HO243 HO246 BK198 BK199 HB HR252 hHeld ⊢
                 refine pT 1 208 (bt 14 2) (k := ?_)
                 refine pT 2 209 (bt 14 6) (k := ?_)
                 refine pT 3 210 (bt 14 14) (k := ?_)
                 refine pT 4 211 (bt 14 30) (k := ?_)
                 refine pT 5 212 (bt 14 62) (k := ?_)
                 refine pT 6 213 (bt 14 126) (k := ?_)
                 refine pT 7 214 (bt 14 254) (k := ?_)
                 refine tT4 0 207 (bt 14 255) hHeld (k := ?_)
                 refine one_ (i := 8) (N := some 215) (bt 14 511) rfl rfl (one_of HT_.out (by kernel_rfl)) (by decide) (fun K hK => ?_)
                 refine goes_ Tryd.func32 (by kernel_rfl) rfl #[.agg #[.slice A0_0 l0_0.length c0_0, .int .i64 a0_1, .int .i64 a0_2, .slice (some ad203) l0_3.length c0_3], .int .i64 t202, .int .i64 t204, .slice Ao104 y249.length co104] (by rfl) rfl rfl TM ?_
                 with_reducible refine (rasp_Play.calls _ _ l0_0 a0_1 a0_2 _ _ l0_3 t202 t204 _ _ y249 t253 t256 t257 _ ?side1 ?side2 ?side3 ?side4 ?side5 ?side6 ?side7 A147.out).mono ?_
                 (case side1 => exact TC HR0_0.out)
                 (case side2 => exact HC0_0.out)
                 (case side3 => exact TC HR0_3.out)
                 (case side4 => exact HC0_3.out)
                 (case side5 => repeat (first | exact (by repeat (first | (with_reducible exact HR252.out) | (with_reducible refine Kd.C_alloc ?_ _) | (with_reducible refine Kd.C_drewN ?_ _) | (with_reducible refine Kd.C_drew ?_) | exact HR252.out)) | (with_reducible refine Kd.C_alloc ?_ _) | (with_reducible refine Kd.C_drewN ?_ _) | (with_reducible refine Kd.C_drew ?_)))
                 (case side6 => exact HC252.out)
                 (case side7 => exact Glob.fr HG.out (Fr.of_below (TB2 GE198.out GE199.out)))
                 rintro e w154 ⟨v254, rfl, ho0, hb⟩
                 refine ⟨_, rfl, ?_⟩
                 have n0_ := Aside0.mk (Kd.R_below (TRo HO_11.out) hb)
                 have n1_ := Aside0.mk (Kd.R_below (TRo HO_12.out) hb)
                 have n2_ := Aside0.mk (Kd.R_below (TRo HO_13.out) hb)
                 have n3_ := Aside0.mk (Kd.R_below (TRo HO243.out) hb)
                 have n4_ := Aside0.mk (Kd.V_below (by (with_reducible repeat (first | apply Kd.V_alloc | apply Kd.V_drewN | apply Kd.V_drew)); exact HO246.out) hb)
                 have n5_ := Aside0.mk (Kd.V_lower (Kd.V_mono (ok' := fun k_ => some k_ ≠ (u11 : Value).ownBlock ∧ some k_ ≠ (.slice Ao104 x12_22.length co104 : Value).ownBlock ∧ some k_ ≠ (u13 : Value).ownBlock ∧ some k_ ≠ (.slice Ao141 t241.length co141 : Value).ownBlock ∧ k_ ≠ gb198 ∧ k_ ≠ gb199) ho0 (fun k_ hk_ => ⟨(Kd.fresh' (Kd.R_lt (TRo HO_11.out)) k_ hk_), (Kd.fresh' (Kd.R_lt (TRo HO_12.out)) k_ hk_), (Kd.fresh' (Kd.R_lt (TRo HO_13.out)) k_ hk_), (Kd.fresh' (Kd.R_lt (TRo HO243.out)) k_ hk_), (Kd.freshB (g := gb198) (o := .cells #[.slice A0_0 l0_0.length c0_0, .int .i64 a0_1, .int .i64 a0_2, .slice (some ad203) l0_3.length c0_3] 27 (0, 0)) (by (with_reducible repeat (first | refine blk_drewN ?_ _ | refine blk_drew ?_ | refine blk_alloc ?_ _)); exact BK198.out) k_ hk_), (Kd.freshB (g := gb199) (o := .cells #[.int .i64 a1_0, .int .i64 a1_1] 28 (0, 0)) (by (with_reducible repeat (first | refine blk_drewN ?_ _ | refine blk_drew ?_ | refine blk_alloc ?_ _)); exact BK199.out) k_ hk_)⟩)) (below_size (TB2 GE198.out GE199.out)))
                 have n6_ := Aside0.mk (blk_below (g := gb198) (o := .cells #[.slice A0_0 l0_0.length c0_0, .int .i64 a0_1, .int .i64 a0_2, .slice (some ad203) l0_3.length c0_3] 27 (0, 0)) (by (with_reducible repeat (first | refine blk_drewN ?_ _ | refine blk_drew ?_ | refine blk_alloc ?_ _)); exact BK198.out) hb)
                 have n7_ := Aside0.mk (blk_below (g := gb199) (o := .cells #[.int .i64 a1_0, .int .i64 a1_1] 28 (0, 0)) (by (with_reducible repeat (first | refine blk_drewN ?_ _ | refine blk_drew ?_ | refine blk_alloc ?_ _)); exact BK199.out) hb)
                 have n8_ := Aside0.mk (Kd.C_below (by repeat (first | (with_reducible exact HR252.out) | (with_reducible refine Kd.C_alloc ?_ _) | (with_reducible refine Kd.C_drewN ?_ _) | (with_reducible refine Kd.C_drew ?_) | exact HR252.out)) hb)
                 have n9_ := Aside0.mk (below_step (TB2 GE198.out GE199.out) hb)
                 clear HO_11
                 clear HO_12
                 clear HO_13
                 clear HO243
                 clear HO246
                 clear BK198
                 clear BK199
                 clear HR252
                 clear HB
                 have HO_11 := n0_
                 have HO_12 := n1_
                 have HO_13 := n2_
                 have HO243 := n3_
                 have HO246 := n4_
                 have HO255 := n5_
                 have BK198 := n6_
                 have BK199 := n7_
                 have HR252 := n8_
                 have HB := n9_
                 clear n0_ n1_ n2_ n3_ n4_ n5_ n6_ n7_ n8_ n9_
                 (try clear hb)
                 (try clear hb2)
                 (try clear hk)
                 (try clear hi)
                 (try clear ho0)
                 refine hK.out _ _ ⟨czz BK198.out 0, czz BK198.out 1, czz BK198.out 2, czz BK198.out 3⟩ (fun hHeld => ?_)
                 clear hK K
                 refine norm_ (a' := ?_) ?_ ?_
                 rotate_left
                 ·show Act.put _ (some 215) _ = _
                  simp only [Act.put, lA, lZ, lS, i64_w, i32_w]
                  rfl
                 refine pT 9 206 (bt 14 1023) (k := ?_)
                 refine pT 10 216 (bt 14 2047) (k := ?_)
                 refine pT 11 217 (bt 14 4095) (k := ?_)
                 refine pT 12 218 (bt 14 8191) (k := ?_)
                 refine pT 13 28 (bt 14 16383) (k := ?_)
                 refine done_ (done_of HT_.out (by kernel_rfl)) ?_
                 try go_wp2
                 go_ret
                 exact ⟨by first | rfl | (simp [errW_none, errW_some] <;> rfl) | (simp only [← hji144]; first | rfl | (simp [errW_none, errW_some] <;> rfl)) | (simp [*, errW_none, errW_some] <;> rfl), TB2 GE198.out GE199.out⟩
               ·rw [if_neg c146] at H
                exact absurd H (by simp)
              ·rw [if_neg c145] at H
               exact absurd H (by simp)
             ·rw [if_neg c143] at H
              have c143b0 : decide (0 < (x12_22.length : Int)) = false := decide_eq_false c143
              have c143b1 : decide (0 < x12_22.length) = false := decide_eq_false (by omega)
              have c143b2 : decide (x12_22 = []) = true := decide_eq_true (List.length_eq_zero_iff.1 (by omega))
              have c143b3 : decide (¬ (x12_22 = [])) = false := by rw [decide_not, c143b2]; rfl
              (try rw [c143b1]); (try simp only [c143b2, c143b3, Bool.not_true, Bool.not_false])
              clear c143
              (first | rw [c143b0] | (simp only [i64_w, i32_w]; rw [c143b0]) | skip)
              have H' := Aside0.mk H
              clear H
              go_wp2
              go_meet
              case rel => exact ⟨_, H', ⟨by have := HJ3.out; have := HJ22.out; have := HJ100.out; first | omega | exact Nat.le_refl _⟩, ⟨by (with_reducible repeat (first | apply Kd.R_alloc | apply Kd.R_drewN | apply Kd.R_drew)); exact Kd.R_mono HO_11.out (fun _ hk => hk.1.2)⟩, ⟨by (with_reducible repeat (first | apply Kd.R_alloc | apply Kd.R_drewN | apply Kd.R_drew)); exact Kd.R_mono HO_13.out (fun _ hk => hk.1.1)⟩, ⟨by (with_reducible repeat (first | refine blk_drewN ?_ _ | refine blk_drew ?_ | refine blk_alloc ?_ _)); exact BK198.out⟩, ⟨by (with_reducible repeat (first | refine blk_drewN ?_ _ | refine blk_drew ?_ | refine blk_alloc ?_ _)); exact BK199.out⟩, ⟨TB2 GE198.out GE199.out⟩⟩
            case rest => as_aux_lemma =>
             clear HC138
             try clear c1
             try clear q1
             try clear p2
             try clear c3
             try clear p6
             try clear c14
             try clear q15
             try clear c32
             try clear p64
             try clear c143
             try clear c143b0
             try clear c143b1
             try clear c145
             try clear c145b0
             try clear c145b1
             try clear c146
             try clear c146b0
             try clear c146b1
             try clear c148
             try clear c148b0
             try clear c148b1
             try clear q150
             try clear q153
             try clear q150
             try clear q153
             obtain ⟨kq, HA, HJ137, HO_11, HO_13, BK198, BK199, HB⟩ := hcut
             cases kq with
             | zero => exact absurd HA.out (by simp [saronlaw03_RaspPlayed.j4])
             | succ kj137 =>
              have H := HA.out
              clear HA
              simp only [saronlaw03_RaspPlayed.j4] at H
              replace H := Option.bind_eq_some_iff.mp H
              obtain ⟨⟨t258, t261⟩, A1550, H⟩ := H
              replace H : (if t261 = 0 then (saronlaw03_RaspPlayed.j5 kj137 x11_22 t258 ((t258.length : Int) != (x11_22.length : Int)) l0_0 a0_1 a0_2 l0_3) else (saronlaw03_RaspPlayed.j5 kj137 x11_22 t258 true l0_0 a0_1 a0_2 l0_3)) = some r := H
              have A155 := Aside0.mk A1550
              clear A1550
              have HC156 := Aside0.mk H
              clear H
              have hnb157 := NB198_199.out
              have hnc157 := NB199_198.out
              have hcz158_0 := czz BK198.out 0
              have hcz158_1 := czz BK198.out 1
              have hcz158_2 := czz BK198.out 2
              have hcz158_3 := czz BK198.out 3
              have hfz158_0 := fz BK198.out 0
              have hfz158_1 := fz BK198.out 1
              have hfz158_2 := fz BK198.out 2
              have hfz158_3 := fz BK198.out 3
              obtain ⟨Ao159, co159, eo159⟩ := Kd.R_slice HO_13.out
              subst eo159
              go_upto_region 32 with (first | ((with_reducible refine gate_callee (f := 34) rfl ?_); refine goesL_ (some 224) rfl rfl Tryd.func34 (by kernel_rfl) rfl #[.agg #[.slice A0_0 l0_0.length c0_0, .int .i64 a0_1, .int .i64 a0_2, .slice (some ad203) l0_3.length c0_3], .slice Ao159 x13_22.length co159] rfl TM ?_; (with_reducible refine (rasp_Told.calls kj137 _ _ l0_0 a0_1 a0_2 _ _ l0_3 _ _ x13_22 t258 t261 _ ?side1 ?side2 ?side3 ?side4 ?side5 ?side6 ?side7 A155.out).mono ?_); (case side1 => exact TC HR0_0.out); (case side2 => exact HC0_0.out); (case side3 => exact TC HR0_3.out); (case side4 => exact HC0_3.out); (case side5 => repeat (first | exact (Kd.R_reads' HO_13.out).2.2 | (with_reducible refine Kd.C_alloc ?_ _) | (with_reducible refine Kd.C_drewN ?_ _) | (with_reducible refine Kd.C_drew ?_))); (case side6 => exact (Kd.R_reads' HO_13.out).2.1); (case side7 => exact Glob.fr HG.out (Fr.of_below (TB2 GE198.out GE199.out))); rintro e w160 ⟨v259, rfl, ho0, hb⟩; refine ⟨_, rfl, ?_⟩; have HO260 := Aside0.mk (Kd.V_lower (Kd.V_mono (ok' := fun k_ => some k_ ≠ (u11 : Value).ownBlock ∧ some k_ ≠ (.slice Ao159 x13_22.length co159 : Value).ownBlock ∧ k_ ≠ gb198 ∧ k_ ≠ gb199) ho0 (fun k_ hk_ => ⟨(Kd.fresh' (Kd.R_lt (TRo HO_11.out)) k_ hk_), (Kd.fresh' (Kd.R_lt (TRo HO_13.out)) k_ hk_), (Kd.freshB (g := gb198) (o := .cells #[.slice A0_0 l0_0.length c0_0, .int .i64 a0_1, .int .i64 a0_2, .slice (some ad203) l0_3.length c0_3] 27 (0, 0)) (by (with_reducible repeat (first | refine blk_drewN ?_ _ | refine blk_drew ?_ | refine blk_alloc ?_ _)); exact BK198.out) k_ hk_), (Kd.freshB (g := gb199) (o := .cells #[.int .i64 a1_0, .int .i64 a1_1] 28 (0, 0)) (by (with_reducible repeat (first | refine blk_drewN ?_ _ | refine blk_drew ?_ | refine blk_alloc ?_ _)); exact BK199.out) k_ hk_)⟩)) (below_size (TB2 GE198.out GE199.out))); replace HO_11 := Aside0.mk (Kd.R_below (TRo HO_11.out) hb); replace HO_13 := Aside0.mk (Kd.R_below (TRo HO_13.out) hb); replace BK198 := Aside0.mk (blk_below (g := gb198) (o := .cells #[.slice A0_0 l0_0.length c0_0, .int .i64 a0_1, .int .i64 a0_2, .slice (some ad203) l0_3.length c0_3] 27 (0, 0)) (by (with_reducible repeat (first | refine blk_drewN ?_ _ | refine blk_drew ?_ | refine blk_alloc ?_ _)); exact BK198.out) hb); replace BK199 := Aside0.mk (blk_below (g := gb199) (o := .cells #[.int .i64 a1_0, .int .i64 a1_1] 28 (0, 0)) (by (with_reducible repeat (first | refine blk_drewN ?_ _ | refine blk_drew ?_ | refine blk_alloc ?_ _)); exact BK199.out) hb); replace HB := Aside0.mk (below_step (TB2 GE198.out GE199.out) hb); (try clear hb); (try clear hb2); (try clear hk); (try clear hi); (try clear ho0)))
              (try simp only [Act.put, lA, lZ, lS])
              go_cut [235] (fun v235 wc => ∃ (kq : Nat) (x235_155 : Bool), v235 = .bool x235_155 ∧ Aside0 (saronlaw03_RaspPlayed.j5 kq x11_22 t258 x235_155 l0_0 a0_1 a0_2 l0_3 = some r) ∧ Aside0 (kq ≤ kj137) ∧ Aside0 (Kd.R (Kd.int .i64) 3 wc w.heap.size (fun _ => True) u11 x11_22) ∧ Aside0 (Kd.V (Kd.slice 3 (Kd.int .i64)) 38 wc w.heap.size (fun k_ => some k_ ≠ (u11 : Value).ownBlock ∧ k_ ≠ gb198 ∧ k_ ≠ gb199) v259 t258) ∧ Aside0 (wc.heap[gb198]? = some (.cells #[(.slice A0_0 l0_0.length c0_0), .int .i64 a0_1, .int .i64 a0_2, (.slice (some ad203) l0_3.length c0_3)] 27 (0, 0))) ∧ Aside0 (wc.heap[gb199]? = some (.cells #[.int .i64 a1_0, .int .i64 a1_1] 28 (0, 0))) ∧ Aside0 (Below w.heap.size w wc))
              case first => as_aux_lemma =>
               have H := HC156.out
               clear HC156
               by_cases c161 : t261 = 0
               ·rw [if_pos c161] at H
                have c161b0 : (t261 == 0) = true := beq_iff_eq.mpr c161
                have c161b1 : (t261 != 0) = false := bne_eq_false_iff_eq.mpr c161
                clear c161
                (first | rw [c161b0] | (simp only [i64_w, i32_w]; rw [c161b0]) | skip)
                have H' := Aside0.mk H
                clear H
                obtain ⟨Ao162, co162, eo162⟩ := Kd.V_slice HO260.out
                subst eo162
                obtain ⟨Ao163, co163, eo163⟩ := Kd.R_slice HO_11.out
                subst eo163
                go_wp2
                go_meet
                case rel => exact ⟨_, (((t258.length : Int) != (x11_22.length : Int))), TT, H', ⟨by have := HJ3.out; have := HJ22.out; have := HJ100.out; have := HJ137.out; first | omega | exact Nat.le_refl _⟩, ⟨by (with_reducible repeat (first | apply Kd.R_alloc | apply Kd.R_drewN | apply Kd.R_drew)); exact Kd.R_mono HO_11.out (fun _ hk => trivial)⟩, ⟨by (with_reducible repeat (first | apply Kd.V_alloc | apply Kd.V_drewN | apply Kd.V_drew)); exact Kd.V_mono HO260.out (fun _ hk => ⟨hk.1, ⟨hk.2.2.1, hk.2.2.2⟩⟩)⟩, ⟨by (with_reducible repeat (first | refine blk_drewN ?_ _ | refine blk_drew ?_ | refine blk_alloc ?_ _)); exact BK198.out⟩, ⟨by (with_reducible repeat (first | refine blk_drewN ?_ _ | refine blk_drew ?_ | refine blk_alloc ?_ _)); exact BK199.out⟩, ⟨TB2 GE198.out GE199.out⟩⟩
               ·rw [if_neg c161] at H
                have c161b0 : (t261 == 0) = false := beq_eq_false_iff_ne.mpr c161
                have c161b1 : (t261 != 0) = true := bne_iff_ne.mpr c161
                (first | rw [c161b0] | (simp only [i64_w, i32_w]; rw [c161b0]) | skip)
                have H' := Aside0.mk H
                clear H
                go_wp2
                go_meet
                case rel => exact ⟨_, (true), TT, H', ⟨by have := HJ3.out; have := HJ22.out; have := HJ100.out; have := HJ137.out; first | omega | exact Nat.le_refl _⟩, ⟨by (with_reducible repeat (first | apply Kd.R_alloc | apply Kd.R_drewN | apply Kd.R_drew)); exact Kd.R_mono HO_11.out (fun _ hk => trivial)⟩, ⟨by (with_reducible repeat (first | apply Kd.V_alloc | apply Kd.V_drewN | apply Kd.V_drew)); exact Kd.V_mono HO260.out (fun _ hk => ⟨hk.1, ⟨hk.2.2.1, hk.2.2.2⟩⟩)⟩, ⟨by (with_reducible repeat (first | refine blk_drewN ?_ _ | refine blk_drew ?_ | refine blk_alloc ?_ _)); exact BK198.out⟩, ⟨by (with_reducible repeat (first | refine blk_drewN ?_ _ | refine blk_drew ?_ | refine blk_alloc ?_ _)); exact BK199.out⟩, ⟨TB2 GE198.out GE199.out⟩⟩
              case rest => as_aux_lemma =>
               clear HC156
               try clear c1
               try clear q1
               try clear p2
               try clear c3
               try clear p6
               try clear c14
               try clear c15
               try clear q15
               try clear c16
               try clear c32
               try clear c34
               try clear p64
               try clear c143
               try clear c143b0
               try clear c143b1
               try clear c145
               try clear c145b0
               try clear c145b1
               try clear c146
               try clear c146b0
               try clear c146b1
               try clear c148
               try clear c148b0
               try clear c148b1
               try clear q150
               try clear q153
               try clear c157
               try clear c161
               try clear c161b0
               try clear c161b1
               try clear hcz158_0 hcz158_1 hcz158_2 hcz158_3 hfz158_0 hfz158_1 hfz158_2 hfz158_3
               try clear p2
               try clear p6
               try clear p64
               try clear q1
               try clear q15
               try clear q150
               try clear q153
               obtain ⟨kq, x235_155, rfl, HA, HJ155, HO_11, HO_29, BK198, BK199, HB⟩ := hcut
               cases kq with
               | zero => exact absurd HA.out (by simp [saronlaw03_RaspPlayed.j5])
               | succ kj155 =>
                have H := HA.out
                clear HA
                simp only [saronlaw03_RaspPlayed.j5] at H
                by_cases c164 : x235_155 = true
                ·subst c164
                 have H1 : (some false) = some r := by rw [if_pos rfl] at H; exact H
                 clear H
                 have H := H1
                 clear H1
                 obtain rfl := Option.some.inj H
                 go_wp2
                 go_ret
                 exact ⟨TR, TB2 GE198.out GE199.out⟩
                ·replace c164 := Bool.eq_false_iff.mpr c164
                 subst c164
                 have H1 : (saronlaw03_RaspPlayed.l1 kj155 x11_22 t258 0 l0_0 a0_1 a0_2 l0_3) = some r := by rw [if_neg (show ¬ (false = true) by decide)] at H; exact H
                 clear H
                 have H := H1
                 clear H1
                 have H' := Aside0.mk H
                 clear H
                 go_wp2
                 go_loopg [31] kj155 (fun kq v31 w' => ∃ (x31_6 : Int), v31 = .int .i64 x31_6 ∧ Aside0 (saronlaw03_RaspPlayed.l1 kq x11_22 t258 x31_6 l0_0 a0_1 a0_2 l0_3 = some r) ∧ Aside0 (kq ≤ kj155) ∧ Aside0 (Kd.R (Kd.int .i64) 3 w' w.heap.size (fun _ => True) u11 x11_22) ∧ Aside0 (Kd.V (Kd.slice 3 (Kd.int .i64)) 38 w' w.heap.size (fun k_ => some k_ ≠ (u11 : Value).ownBlock ∧ k_ ≠ gb198 ∧ k_ ≠ gb199) v259 t258) ∧ Aside0 (w'.heap[gb198]? = some (.cells #[(.slice A0_0 l0_0.length c0_0), .int .i64 a0_1, .int .i64 a0_2, (.slice (some ad203) l0_3.length c0_3)] 27 (0, 0))) ∧ Aside0 (w'.heap[gb199]? = some (.cells #[.int .i64 a1_0, .int .i64 a1_1] 28 (0, 0))) ∧ Aside0 (Below w.heap.size w w'))
                 case atStart => exact ⟨(0), TT, H', ⟨Nat.le_refl _⟩, ⟨by (with_reducible repeat (first | apply Kd.R_alloc | apply Kd.R_drewN | apply Kd.R_drew)); exact HO_11.out⟩, ⟨by (with_reducible repeat (first | apply Kd.V_alloc | apply Kd.V_drewN | apply Kd.V_drew)); exact HO_29.out⟩, ⟨by (with_reducible repeat (first | refine blk_drewN ?_ _ | refine blk_drew ?_ | refine blk_alloc ?_ _)); exact BK198.out⟩, ⟨by (with_reducible repeat (first | refine blk_drewN ?_ _ | refine blk_drew ?_ | refine blk_alloc ?_ _)); exact BK199.out⟩, ⟨TB2 GE198.out GE199.out⟩⟩
                 case round => as_aux_lemma =>
                  clear H'
                  try clear c1
                  try clear q1
                  try clear p2
                  try clear c3
                  try clear p6
                  try clear c14
                  try clear c15
                  try clear q15
                  try clear c16
                  try clear c32
                  try clear c34
                  try clear p64
                  try clear c143
                  try clear c143b0
                  try clear c143b1
                  try clear c145
                  try clear c145b0
                  try clear c145b1
                  try clear c146
                  try clear c146b0
                  try clear c146b1
                  try clear c148
                  try clear c148b0
                  try clear c148b1
                  try clear q150
                  try clear q153
                  try clear c157
                  try clear c161
                  try clear c161b0
                  try clear c161b1
                  try clear c164
                  try clear hcz158_0 hcz158_1 hcz158_2 hcz158_3 hfz158_0 hfz158_1 hfz158_2 hfz158_3
                  try clear p2
                  try clear p6
                  try clear p64
                  try clear q1
                  try clear q15
                  try clear q150
                  try clear q153
                  obtain ⟨x31_6, rfl, HA, HK6, HO_11, HO_29, BK198, BK199, HB⟩ := hrel
                  cases gk with
                  | zero => exact absurd HA.out (by simp [saronlaw03_RaspPlayed.l1])
                  | succ k6 =>
                   have H := HA.out
                   clear HA
                   simp only [saronlaw03_RaspPlayed.l1] at H
                   by_cases c165 : x31_6 < (t258.length : Int)
                   ·rw [if_pos c165] at H
                    have c165b0 : decide (x31_6 < (t258.length : Int)) = true := decide_eq_true c165
                    clear c165
                    by_cases c166 : 0 ≤ x31_6
                    ·rw [if_pos c166] at H
                     have c166b0 : decide (0 ≤ x31_6) = true := decide_eq_true c166
                     clear c166
                     by_cases c167 : x31_6 < (x11_22.length : Int)
                     ·rw [if_pos c167] at H
                      have c167b0 : decide (x31_6 < (x11_22.length : Int)) = true := decide_eq_true c167
                      clear c167
                      replace H := Option.bind_eq_some_iff.mp H
                      obtain ⟨t265, A1680, H⟩ := H
                      replace H : (if t265 < 0 then (some false) else ((saronref00_Grows.f k6 (rd_L4 t258 x31_6) (l0_0.length : Int)).bind fun t267 => (if t267 = true then (saronlaw03_RaspPlayed.l1 k6 x11_22 t258 (wrap64 (x31_6 + 1)) l0_0 a0_1 a0_2 l0_3) else (some false)))) = some r := H
                      have A168 := Aside0.mk A1680
                      clear A1680
                      by_cases c169 : t265 < 0
                      ·rw [if_pos c169] at H
                       have c169b0 : decide (t265 < 0) = true := decide_eq_true c169
                       clear c169
                       obtain rfl := Option.some.inj H
                       obtain ⟨Ao170, co170, eo170⟩ := Kd.V_slice HO_29.out
                       subst eo170
                       try go_wp2
                       have n0_ := Aside0.mk (Kd.R_drew HO_11.out)
                       have n1_ := Aside0.mk (Kd.V_drew HO_29.out)
                       have n2_ := Aside0.mk (blk_drew BK198.out)
                       have n3_ := Aside0.mk (blk_drew BK199.out)
                       have n4_ := Aside0.mk (below_drew1 HB.out)
                       clear HO_11
                       clear HO_29
                       clear BK198
                       clear BK199
                       clear HB
                       have HO_11 := n0_
                       have HO_29 := n1_
                       have BK198 := n2_
                       have BK199 := n3_
                       have HB := n4_
                       clear n0_ n1_ n2_ n3_ n4_
                       have p263 : 0 ≤ (x31_6 : Int) := of_decide_eq_true TA
                       have q263 : x31_6 < (t258.length : Int) := of_decide_eq_true TA
                       obtain ⟨ad263, A263_0, c263_0, e263, hx263_0, hl263_0, hi263_0⟩ := at_L4 (Kd.V_reads' HO_29.out).2.2 x31_6 p263 q263
                       cases e263
                       obtain ⟨ce263, hce263, hMe263, hcc263⟩ := Kd.V_get HO_29.out [] x31_6 p263 (by first | exact q263 | exact of_decide_eq_true TA | (have e_ := (Kd.V_reads' HO_29.out).1; omega))
                       obtain ⟨ua263_0, uc263_0, rfl, ul263_0, ge263_0⟩ := Kd.FK_slice_open hMe263
                       have hv263_0 := hcc263 0 _ rfl
                       rw [Nat.add_zero, show ((Kd.slice 3 (Kd.int .i64))).sz = 1 from rfl, Nat.mul_one] at hv263_0
                       replace hv263_0 := Option.some.inj (hv263_0.symm.trans hx263_0)
                       injection hv263_0 with hva_ hvn_ hvc_
                       rw [hva_] at ge263_0
                       rw [hvc_] at ul263_0
                       have HL263_0 := Aside0.mk (show Kd.V (Kd.int .i64) 3 _ w.heap.size _ _ (rd_L4 t258 x31_6) from Kd.V_mk ul263_0 ge263_0)
                       clear hva_ hvn_ hvc_ ge263_0 ul263_0
                       clear hcc263 hce263
                       have HR263_0 := Aside0.mk hi263_0
                       have HC263_0 := Aside0.mk hl263_0
                       clear hi263_0 hl263_0
                       replace p263 := eq_true p263
                       replace q263 := eq_true q263
                       obtain ⟨Ao172, co172, eo172⟩ := Kd.R_slice HO_11.out
                       (first | subst eo172 | (injection eo172 with f1_ f2_ f3_; have f4_ := f1_.symm; have f5_ := f3_.symm; clear f1_ f2_ f3_; subst f4_; subst f5_))
                       have p264 : 0 ≤ (x31_6 : Int) := of_decide_eq_true TA
                       have q264 : x31_6 < (x11_22.length : Int) := of_decide_eq_true TA
                       obtain ⟨ad264, e264, hx264_0⟩ := Kd.at_int (Kd.R_reads' HO_11.out).2.2 x31_6 p264 q264
                       cases e264
                       replace p264 := eq_true p264
                       replace q264 := eq_true q264
                       refine start_ (n := 21) (S := fun w' => w'.cell? (ad263.add (x31_6).toNat) = some (.slice A263_0 (rd_L4 t258 x31_6).length c263_0) ∧ w'.cell? (ad264.add (x31_6).toNat) = some (.int .i64 (rd x11_22 x31_6))) (ds := []) (.replicate 21 false) (by kernel_rfl) rfl rfl ⟨hx263_0, hx264_0⟩ (fun hHeld => ?_); refine with_tabW saronlaw03_RaspPlayed.tab37 saronlaw03_RaspPlayed.bits37 (fun HT_ HW_ => ?_)
                       generalize wr.drew = w171 at HO_11 HO_29 BK198 BK199 HB HL263_0 HR263_0 hx263_0 hx264_0 hHeld ⊢
                       refine pT 0 242 (bt 21 1) (k := ?_)
                       refine pT 1 243 (bt 21 3) (k := ?_)
                       refine pT 2 244 (bt 21 7) (k := ?_)
                       refine pT 4 246 (bt 21 23) (k := ?_)
                       refine pT 5 247 (bt 21 55) (k := ?_)
                       refine pT 6 248 (bt 21 119) (k := ?_)
                       refine tT2 3 245 (bt 21 127) hHeld (k := ?_)
                       refine tT2 7 249 (bt 21 255) hHeld (k := ?_)
                       refine one_ (i := 8) (N := some 250) (bt 21 511) rfl rfl (one_of HT_.out (by kernel_rfl)) (by decide) (fun K hK => ?_)
                       refine goes_ Tryd.func47 (by kernel_rfl) rfl #[.slice A263_0 (rd_L4 t258 x31_6).length c263_0, .int .i64 (rd x11_22 x31_6)] (by rfl) rfl rfl TM ?_
                       with_reducible refine (saronref00_Where.calls k6 _ _ (rd_L4 t258 x31_6) (rd x11_22 x31_6) t265 _ ?side1 ?side2 A168.out).mono ?_
                       (case side1 => repeat (first | exact (by repeat (first | (with_reducible exact HR263_0.out) | (with_reducible refine Kd.C_alloc ?_ _) | (with_reducible refine Kd.C_drewN ?_ _) | (with_reducible refine Kd.C_drew ?_) | exact HR263_0.out)) | (with_reducible refine Kd.C_alloc ?_ _) | (with_reducible refine Kd.C_drewN ?_ _) | (with_reducible refine Kd.C_drew ?_)))
                       (case side2 => exact HC263_0.out)
                       rintro e w' ⟨rfl, ⟨nd, rfl⟩⟩
                       refine ⟨_, rfl, ?_⟩
                       refine hK.out _ _ ⟨hHeld.1, hHeld.2⟩ (fun hHeld => ?_)
                       clear hK K
                       refine norm_ (a' := ?_) ?_ ?_
                       rotate_left
                       ·show Act.put _ (some 250) _ = _
                        simp only [Act.put, lA, lZ, lS, i64_w, i32_w]
                        rfl
                       refine pT 9 251 (bt 21 1023) (k := ?_)
                       refine pT 10 252 (bt 21 2047) (k := ?_)
                       refine pU 11 253 (bt 21 4095) (k := ?_)
                       refine pU 12 254 (bt 21 8191) (k := ?_)
                       refine pU 13 255 (bt 21 16383) (k := ?_)
                       refine pU 14 256 (bt 21 32767) (k := ?_)
                       refine pU 15 257 (bt 21 65535) (k := ?_)
                       refine pU 16 258 (bt 21 131071) (k := ?_)
                       refine pU 17 259 (bt 21 262143) (k := ?_)
                       refine pU 18 260 (bt 21 524287) (k := ?_)
                       refine pU 19 261 (bt 21 1048575) (k := ?_)
                       refine pT 20 262 (bt 21 2097151) (k := ?_)
                       refine done_ (done_of HT_.out (by kernel_rfl)) ?_
                       try go_wp2
                       go_ret
                       exact ⟨TR, TB2 GE198.out GE199.out⟩
                      ·rw [if_neg c169] at H
                       have c169b0 : decide (t265 < 0) = false := decide_eq_false c169
                       clear c169
                       replace H := Option.bind_eq_some_iff.mp H
                       obtain ⟨t267, A1730, H⟩ := H
                       replace H : (if t267 = true then (saronlaw03_RaspPlayed.l1 k6 x11_22 t258 (wrap64 (x31_6 + 1)) l0_0 a0_1 a0_2 l0_3) else (some false)) = some r := H
                       have A173 := Aside0.mk A1730
                       clear A1730
                       by_cases c174 : t267 = true
                       ·subst c174
                        have H1 : (saronlaw03_RaspPlayed.l1 k6 x11_22 t258 (wrap64 (x31_6 + 1)) l0_0 a0_1 a0_2 l0_3) = some r := by rw [if_pos rfl] at H; exact H
                        clear H
                        have H := H1
                        clear H1
                        have H' := Aside0.mk H
                        clear H
                        obtain ⟨Ao175, co175, eo175⟩ := Kd.V_slice HO_29.out
                        subst eo175
                        try go_wp2
                        have n0_ := Aside0.mk (Kd.R_drew HO_11.out)
                        have n1_ := Aside0.mk (Kd.V_drew HO_29.out)
                        have n2_ := Aside0.mk (blk_drew BK198.out)
                        have n3_ := Aside0.mk (blk_drew BK199.out)
                        have n4_ := Aside0.mk (below_drew1 HB.out)
                        clear HO_11
                        clear HO_29
                        clear BK198
                        clear BK199
                        clear HB
                        have HO_11 := n0_
                        have HO_29 := n1_
                        have BK198 := n2_
                        have BK199 := n3_
                        have HB := n4_
                        clear n0_ n1_ n2_ n3_ n4_
                        have p263 : 0 ≤ (x31_6 : Int) := of_decide_eq_true TA
                        have q263 : x31_6 < (t258.length : Int) := of_decide_eq_true TA
                        obtain ⟨ad263, A263_0, c263_0, e263, hx263_0, hl263_0, hi263_0⟩ := at_L4 (Kd.V_reads' HO_29.out).2.2 x31_6 p263 q263
                        cases e263
                        obtain ⟨ce263, hce263, hMe263, hcc263⟩ := Kd.V_get HO_29.out [] x31_6 p263 (by first | exact q263 | exact of_decide_eq_true TA | (have e_ := (Kd.V_reads' HO_29.out).1; omega))
                        obtain ⟨ua263_0, uc263_0, rfl, ul263_0, ge263_0⟩ := Kd.FK_slice_open hMe263
                        have hv263_0 := hcc263 0 _ rfl
                        rw [Nat.add_zero, show ((Kd.slice 3 (Kd.int .i64))).sz = 1 from rfl, Nat.mul_one] at hv263_0
                        replace hv263_0 := Option.some.inj (hv263_0.symm.trans hx263_0)
                        injection hv263_0 with hva_ hvn_ hvc_
                        rw [hva_] at ge263_0
                        rw [hvc_] at ul263_0
                        have HL263_0 := Aside0.mk (show Kd.V (Kd.int .i64) 3 _ w.heap.size _ _ (rd_L4 t258 x31_6) from Kd.V_mk ul263_0 ge263_0)
                        clear hva_ hvn_ hvc_ ge263_0 ul263_0
                        clear hcc263 hce263
                        have HR263_0 := Aside0.mk hi263_0
                        have HC263_0 := Aside0.mk hl263_0
                        clear hi263_0 hl263_0
                        replace p263 := eq_true p263
                        replace q263 := eq_true q263
                        obtain ⟨Ao177, co177, eo177⟩ := Kd.R_slice HO_11.out
                        (first | subst eo177 | (injection eo177 with f1_ f2_ f3_; have f4_ := f1_.symm; have f5_ := f3_.symm; clear f1_ f2_ f3_; subst f4_; subst f5_))
                        have p264 : 0 ≤ (x31_6 : Int) := of_decide_eq_true TA
                        have q264 : x31_6 < (x11_22.length : Int) := of_decide_eq_true TA
                        obtain ⟨ad264, e264, hx264_0⟩ := Kd.at_int (Kd.R_reads' HO_11.out).2.2 x31_6 p264 q264
                        cases e264
                        replace p264 := eq_true p264
                        replace q264 := eq_true q264
                        have p266 : 0 ≤ (x31_6 : Int) := of_decide_eq_true TA
                        have q266 : x31_6 < (t258.length : Int) := of_decide_eq_true TA
                        obtain ⟨ad266, A266_0, c266_0, e266, hx266_0, hl266_0, hi266_0⟩ := at_L4 (Kd.V_reads' HO_29.out).2.2 x31_6 p266 q266
                        obtain rfl : ad263 = ad266 := (by injection e266)
                        obtain ⟨ce266, hce266, hMe266, hcc266⟩ := Kd.V_get HO_29.out [] x31_6 p266 (by first | exact q266 | exact of_decide_eq_true TA | (have e_ := (Kd.V_reads' HO_29.out).1; omega))
                        obtain ⟨ua266_0, uc266_0, rfl, ul266_0, ge266_0⟩ := Kd.FK_slice_open hMe266
                        have hv266_0 := hcc266 0 _ rfl
                        rw [Nat.add_zero, show ((Kd.slice 3 (Kd.int .i64))).sz = 1 from rfl, Nat.mul_one] at hv266_0
                        replace hv266_0 := Option.some.inj (hv266_0.symm.trans hx266_0)
                        injection hv266_0 with hva_ hvn_ hvc_
                        rw [hva_] at ge266_0
                        rw [hvc_] at ul266_0
                        have HL266_0 := Aside0.mk (show Kd.V (Kd.int .i64) 3 _ w.heap.size _ _ (rd_L4 t258 x31_6) from Kd.V_mk ul266_0 ge266_0)
                        clear hva_ hvn_ hvc_ ge266_0 ul266_0
                        clear hcc266 hce266
                        have HR266_0 := Aside0.mk hi266_0
                        have HC266_0 := Aside0.mk hl266_0
                        clear hi266_0 hl266_0
                        replace p266 := eq_true p266
                        replace q266 := eq_true q266
                        have ea_ := Option.some.inj (hx263_0.symm.trans hx266_0)
                        injection ea_ with ea_ en_ ec_
                        subst ea_
                        subst ec_
                        clear en_
                        refine start_ (n := 21) (S := fun w' => w'.cell? ⟨gb198, 0, none⟩ = some (.slice A0_0 l0_0.length c0_0) ∧ w'.cell? ⟨gb198, 1, none⟩ = some (.int .i64 a0_1) ∧ w'.cell? ⟨gb198, 2, none⟩ = some (.int .i64 a0_2) ∧ w'.cell? ⟨gb198, 3, none⟩ = some (.slice (some ad203) l0_3.length c0_3) ∧ w'.cell? (ad263.add (x31_6).toNat) = some (.slice A263_0 (rd_L4 t258 x31_6).length c263_0) ∧ w'.cell? (ad264.add (x31_6).toNat) = some (.int .i64 (rd x11_22 x31_6)) ∧ w'.cell? (ad263.add (x31_6).toNat) = some (.slice A263_0 (rd_L4 t258 x31_6).length c263_0)) (ds := []) (.replicate 21 false) (by kernel_rfl) rfl rfl ⟨czz BK198.out 0, czz BK198.out 1, czz BK198.out 2, czz BK198.out 3, hx263_0, hx264_0, hx266_0⟩ (fun hHeld => ?_); refine with_tabW saronlaw03_RaspPlayed.tab37 saronlaw03_RaspPlayed.bits37 (fun HT_ HW_ => ?_)
                        generalize wr.drew = w176 at HO_11 HO_29 BK198 BK199 HB HL263_0 HL266_0 HR263_0 HR266_0 hx263_0 hx264_0 hx266_0 hHeld ⊢
                        refine pT 0 242 (bt 21 1) (k := ?_)
                        refine pT 1 243 (bt 21 3) (k := ?_)
                        refine pT 2 244 (bt 21 7) (k := ?_)
                        refine pT 4 246 (bt 21 23) (k := ?_)
                        refine pT 5 247 (bt 21 55) (k := ?_)
                        refine pT 6 248 (bt 21 119) (k := ?_)
                        refine tT7 3 245 (bt 21 127) hHeld (k := ?_)
                        refine tT7 7 249 (bt 21 255) hHeld (k := ?_)
                        refine one_ (i := 8) (N := some 250) (bt 21 511) rfl rfl (one_of HT_.out (by kernel_rfl)) (by decide) (fun K hK => ?_)
                        refine goes_ Tryd.func47 (by kernel_rfl) rfl #[.slice A263_0 (rd_L4 t258 x31_6).length c263_0, .int .i64 (rd x11_22 x31_6)] (by rfl) rfl rfl TM ?_
                        with_reducible refine (saronref00_Where.calls k6 _ _ (rd_L4 t258 x31_6) (rd x11_22 x31_6) t265 _ ?side1 ?side2 A168.out).mono ?_
                        (case side1 => repeat (first | exact (by repeat (first | (with_reducible exact HR263_0.out) | (with_reducible refine Kd.C_alloc ?_ _) | (with_reducible refine Kd.C_drewN ?_ _) | (with_reducible refine Kd.C_drew ?_) | exact HR263_0.out)) | (with_reducible refine Kd.C_alloc ?_ _) | (with_reducible refine Kd.C_drewN ?_ _) | (with_reducible refine Kd.C_drew ?_)))
                        (case side2 => exact HC263_0.out)
                        rintro e w' ⟨rfl, ⟨nd, rfl⟩⟩
                        refine ⟨_, rfl, ?_⟩
                        refine hK.out _ _ ⟨czz BK198.out 0, czz BK198.out 1, czz BK198.out 2, czz BK198.out 3, hHeld.2.2.2.2.1, hHeld.2.2.2.2.2.1, hHeld.2.2.2.2.2.2⟩ (fun hHeld => ?_)
                        clear hK K
                        refine norm_ (a' := ?_) ?_ ?_
                        rotate_left
                        ·show Act.put _ (some 250) _ = _
                         simp only [Act.put, lA, lZ, lS, i64_w, i32_w]
                         rfl
                        refine pT 9 251 (bt 21 1023) (k := ?_)
                        refine pT 10 252 (bt 21 2047) (k := ?_)
                        refine pT 11 253 (bt 21 4095) (k := ?_)
                        refine pT 12 254 (bt 21 8191) (k := ?_)
                        refine pT 13 255 (bt 21 16383) (k := ?_)
                        refine pT 15 257 (bt 21 49151) (k := ?_)
                        refine tT7 14 256 (bt 21 65535) hHeld (k := ?_)
                        refine tT7 16 258 (bt 21 131071) hHeld (k := ?_)
                        refine pT 17 259 (bt 21 262143) (k := ?_)
                        refine one_ (i := 18) (N := some 260) (bt 21 524287) rfl rfl (one_of HT_.out (by kernel_rfl)) (by decide) (fun K hK => ?_)
                        refine goes_ Tryd.func46 (by kernel_rfl) rfl #[.slice A263_0 (rd_L4 t258 x31_6).length c263_0, .int .i64 (l0_0.length : Int)] (by rfl) rfl rfl TM ?_
                        with_reducible refine (saronref00_Grows.calls k6 _ _ (rd_L4 t258 x31_6) (l0_0.length : Int) true _ ?side1 ?side2 A173.out).mono ?_
                        (case side1 => repeat (first | exact (by repeat (first | (with_reducible exact HR266_0.out) | (with_reducible refine Kd.C_alloc ?_ _) | (with_reducible refine Kd.C_drewN ?_ _) | (with_reducible refine Kd.C_drew ?_) | exact HR266_0.out)) | (with_reducible refine Kd.C_alloc ?_ _) | (with_reducible refine Kd.C_drewN ?_ _) | (with_reducible refine Kd.C_drew ?_)))
                        (case side2 => exact HC266_0.out)
                        rintro e w' ⟨rfl, ⟨nd, rfl⟩⟩
                        refine ⟨_, rfl, ?_⟩
                        refine hK.out _ _ ⟨czz BK198.out 0, czz BK198.out 1, czz BK198.out 2, czz BK198.out 3, hHeld.2.2.2.2.1, hHeld.2.2.2.2.2.1, hHeld.2.2.2.2.2.2⟩ (fun hHeld => ?_)
                        clear hK K
                        refine norm_ (a' := ?_) ?_ ?_
                        rotate_left
                        ·show Act.put _ (some 260) _ = _
                         simp only [Act.put, lA, lZ, lS, i64_w, i32_w]
                         rfl
                        refine pT 19 261 (bt 21 1048575) (k := ?_)
                        refine pT 20 262 (bt 21 2097151) (k := ?_)
                        refine done_ (done_of HT_.out (by kernel_rfl)) ?_
                        try go_wp2
                        go_roundg k6
                        case measure => have := HJ3.out; have := HJ22.out; have := HJ100.out; have := HJ137.out; have := HJ155.out; have := HK6.out; omega
                        case rel => exact ⟨(wrap64 (x31_6 + 1)), TT, H', ⟨by have := HJ3.out; have := HJ22.out; have := HJ100.out; have := HJ137.out; have := HJ155.out; have := HK6.out; omega⟩, ⟨by (with_reducible repeat (first | apply Kd.R_alloc | apply Kd.R_drewN | apply Kd.R_drew)); exact HO_11.out⟩, ⟨by (with_reducible repeat (first | apply Kd.V_alloc | apply Kd.V_drewN | apply Kd.V_drew)); exact HO_29.out⟩, ⟨by (with_reducible repeat (first | refine blk_drewN ?_ _ | refine blk_drew ?_ | refine blk_alloc ?_ _)); exact BK198.out⟩, ⟨by (with_reducible repeat (first | refine blk_drewN ?_ _ | refine blk_drew ?_ | refine blk_alloc ?_ _)); exact BK199.out⟩, ⟨TB2 GE198.out GE199.out⟩⟩
                       ·replace c174 := Bool.eq_false_iff.mpr c174
                        subst c174
                        have H1 : (some false) = some r := by rw [if_neg (show ¬ (false = true) by decide)] at H; exact H
                        clear H
                        have H := H1
                        clear H1
                        obtain rfl := Option.some.inj H
                        obtain ⟨Ao178, co178, eo178⟩ := Kd.V_slice HO_29.out
                        subst eo178
                        try go_wp2
                        have n0_ := Aside0.mk (Kd.R_drew HO_11.out)
                        have n1_ := Aside0.mk (Kd.V_drew HO_29.out)
                        have n2_ := Aside0.mk (blk_drew BK198.out)
                        have n3_ := Aside0.mk (blk_drew BK199.out)
                        have n4_ := Aside0.mk (below_drew1 HB.out)
                        clear HO_11
                        clear HO_29
                        clear BK198
                        clear BK199
                        clear HB
                        have HO_11 := n0_
                        have HO_29 := n1_
                        have BK198 := n2_
                        have BK199 := n3_
                        have HB := n4_
                        clear n0_ n1_ n2_ n3_ n4_
                        have p263 : 0 ≤ (x31_6 : Int) := of_decide_eq_true TA
                        have q263 : x31_6 < (t258.length : Int) := of_decide_eq_true TA
                        obtain ⟨ad263, A263_0, c263_0, e263, hx263_0, hl263_0, hi263_0⟩ := at_L4 (Kd.V_reads' HO_29.out).2.2 x31_6 p263 q263
                        cases e263
                        obtain ⟨ce263, hce263, hMe263, hcc263⟩ := Kd.V_get HO_29.out [] x31_6 p263 (by first | exact q263 | exact of_decide_eq_true TA | (have e_ := (Kd.V_reads' HO_29.out).1; omega))
                        obtain ⟨ua263_0, uc263_0, rfl, ul263_0, ge263_0⟩ := Kd.FK_slice_open hMe263
                        have hv263_0 := hcc263 0 _ rfl
                        rw [Nat.add_zero, show ((Kd.slice 3 (Kd.int .i64))).sz = 1 from rfl, Nat.mul_one] at hv263_0
                        replace hv263_0 := Option.some.inj (hv263_0.symm.trans hx263_0)
                        injection hv263_0 with hva_ hvn_ hvc_
                        rw [hva_] at ge263_0
                        rw [hvc_] at ul263_0
                        have HL263_0 := Aside0.mk (show Kd.V (Kd.int .i64) 3 _ w.heap.size _ _ (rd_L4 t258 x31_6) from Kd.V_mk ul263_0 ge263_0)
                        clear hva_ hvn_ hvc_ ge263_0 ul263_0
                        clear hcc263 hce263
                        have HR263_0 := Aside0.mk hi263_0
                        have HC263_0 := Aside0.mk hl263_0
                        clear hi263_0 hl263_0
                        replace p263 := eq_true p263
                        replace q263 := eq_true q263
                        obtain ⟨Ao180, co180, eo180⟩ := Kd.R_slice HO_11.out
                        (first | subst eo180 | (injection eo180 with f1_ f2_ f3_; have f4_ := f1_.symm; have f5_ := f3_.symm; clear f1_ f2_ f3_; subst f4_; subst f5_))
                        have p264 : 0 ≤ (x31_6 : Int) := of_decide_eq_true TA
                        have q264 : x31_6 < (x11_22.length : Int) := of_decide_eq_true TA
                        obtain ⟨ad264, e264, hx264_0⟩ := Kd.at_int (Kd.R_reads' HO_11.out).2.2 x31_6 p264 q264
                        cases e264
                        replace p264 := eq_true p264
                        replace q264 := eq_true q264
                        have p266 : 0 ≤ (x31_6 : Int) := of_decide_eq_true TA
                        have q266 : x31_6 < (t258.length : Int) := of_decide_eq_true TA
                        obtain ⟨ad266, A266_0, c266_0, e266, hx266_0, hl266_0, hi266_0⟩ := at_L4 (Kd.V_reads' HO_29.out).2.2 x31_6 p266 q266
                        obtain rfl : ad263 = ad266 := (by injection e266)
                        obtain ⟨ce266, hce266, hMe266, hcc266⟩ := Kd.V_get HO_29.out [] x31_6 p266 (by first | exact q266 | exact of_decide_eq_true TA | (have e_ := (Kd.V_reads' HO_29.out).1; omega))
                        obtain ⟨ua266_0, uc266_0, rfl, ul266_0, ge266_0⟩ := Kd.FK_slice_open hMe266
                        have hv266_0 := hcc266 0 _ rfl
                        rw [Nat.add_zero, show ((Kd.slice 3 (Kd.int .i64))).sz = 1 from rfl, Nat.mul_one] at hv266_0
                        replace hv266_0 := Option.some.inj (hv266_0.symm.trans hx266_0)
                        injection hv266_0 with hva_ hvn_ hvc_
                        rw [hva_] at ge266_0
                        rw [hvc_] at ul266_0
                        have HL266_0 := Aside0.mk (show Kd.V (Kd.int .i64) 3 _ w.heap.size _ _ (rd_L4 t258 x31_6) from Kd.V_mk ul266_0 ge266_0)
                        clear hva_ hvn_ hvc_ ge266_0 ul266_0
                        clear hcc266 hce266
                        have HR266_0 := Aside0.mk hi266_0
                        have HC266_0 := Aside0.mk hl266_0
                        clear hi266_0 hl266_0
                        replace p266 := eq_true p266
                        replace q266 := eq_true q266
                        have ea_ := Option.some.inj (hx263_0.symm.trans hx266_0)
                        injection ea_ with ea_ en_ ec_
                        subst ea_
                        subst ec_
                        clear en_
                        refine start_ (n := 21) (S := fun w' => w'.cell? ⟨gb198, 0, none⟩ = some (.slice A0_0 l0_0.length c0_0) ∧ w'.cell? ⟨gb198, 1, none⟩ = some (.int .i64 a0_1) ∧ w'.cell? ⟨gb198, 2, none⟩ = some (.int .i64 a0_2) ∧ w'.cell? ⟨gb198, 3, none⟩ = some (.slice (some ad203) l0_3.length c0_3) ∧ w'.cell? (ad263.add (x31_6).toNat) = some (.slice A263_0 (rd_L4 t258 x31_6).length c263_0) ∧ w'.cell? (ad264.add (x31_6).toNat) = some (.int .i64 (rd x11_22 x31_6)) ∧ w'.cell? (ad263.add (x31_6).toNat) = some (.slice A263_0 (rd_L4 t258 x31_6).length c263_0)) (ds := []) (.replicate 21 false) (by kernel_rfl) rfl rfl ⟨czz BK198.out 0, czz BK198.out 1, czz BK198.out 2, czz BK198.out 3, hx263_0, hx264_0, hx266_0⟩ (fun hHeld => ?_); refine with_tabW saronlaw03_RaspPlayed.tab37 saronlaw03_RaspPlayed.bits37 (fun HT_ HW_ => ?_)
                        generalize wr.drew = w179 at HO_11 HO_29 BK198 BK199 HB HL263_0 HL266_0 HR263_0 HR266_0 hx263_0 hx264_0 hx266_0 hHeld ⊢
                        refine pT 0 242 (bt 21 1) (k := ?_)
                        refine pT 1 243 (bt 21 3) (k := ?_)
                        refine pT 2 244 (bt 21 7) (k := ?_)
                        refine pT 4 246 (bt 21 23) (k := ?_)
                        refine pT 5 247 (bt 21 55) (k := ?_)
                        refine pT 6 248 (bt 21 119) (k := ?_)
                        refine tT7 3 245 (bt 21 127) hHeld (k := ?_)
                        refine tT7 7 249 (bt 21 255) hHeld (k := ?_)
                        refine one_ (i := 8) (N := some 250) (bt 21 511) rfl rfl (one_of HT_.out (by kernel_rfl)) (by decide) (fun K hK => ?_)
                        refine goes_ Tryd.func47 (by kernel_rfl) rfl #[.slice A263_0 (rd_L4 t258 x31_6).length c263_0, .int .i64 (rd x11_22 x31_6)] (by rfl) rfl rfl TM ?_
                        with_reducible refine (saronref00_Where.calls k6 _ _ (rd_L4 t258 x31_6) (rd x11_22 x31_6) t265 _ ?side1 ?side2 A168.out).mono ?_
                        (case side1 => repeat (first | exact (by repeat (first | (with_reducible exact HR263_0.out) | (with_reducible refine Kd.C_alloc ?_ _) | (with_reducible refine Kd.C_drewN ?_ _) | (with_reducible refine Kd.C_drew ?_) | exact HR263_0.out)) | (with_reducible refine Kd.C_alloc ?_ _) | (with_reducible refine Kd.C_drewN ?_ _) | (with_reducible refine Kd.C_drew ?_)))
                        (case side2 => exact HC263_0.out)
                        rintro e w' ⟨rfl, ⟨nd, rfl⟩⟩
                        refine ⟨_, rfl, ?_⟩
                        refine hK.out _ _ ⟨czz BK198.out 0, czz BK198.out 1, czz BK198.out 2, czz BK198.out 3, hHeld.2.2.2.2.1, hHeld.2.2.2.2.2.1, hHeld.2.2.2.2.2.2⟩ (fun hHeld => ?_)
                        clear hK K
                        refine norm_ (a' := ?_) ?_ ?_
                        rotate_left
                        ·show Act.put _ (some 250) _ = _
                         simp only [Act.put, lA, lZ, lS, i64_w, i32_w]
                         rfl
                        refine pT 9 251 (bt 21 1023) (k := ?_)
                        refine pT 10 252 (bt 21 2047) (k := ?_)
                        refine pT 11 253 (bt 21 4095) (k := ?_)
                        refine pT 12 254 (bt 21 8191) (k := ?_)
                        refine pT 13 255 (bt 21 16383) (k := ?_)
                        refine pT 15 257 (bt 21 49151) (k := ?_)
                        refine tT7 14 256 (bt 21 65535) hHeld (k := ?_)
                        refine tT7 16 258 (bt 21 131071) hHeld (k := ?_)
                        refine pT 17 259 (bt 21 262143) (k := ?_)
                        refine one_ (i := 18) (N := some 260) (bt 21 524287) rfl rfl (one_of HT_.out (by kernel_rfl)) (by decide) (fun K hK => ?_)
                        refine goes_ Tryd.func46 (by kernel_rfl) rfl #[.slice A263_0 (rd_L4 t258 x31_6).length c263_0, .int .i64 (l0_0.length : Int)] (by rfl) rfl rfl TM ?_
                        with_reducible refine (saronref00_Grows.calls k6 _ _ (rd_L4 t258 x31_6) (l0_0.length : Int) false _ ?side1 ?side2 A173.out).mono ?_
                        (case side1 => repeat (first | exact (by repeat (first | (with_reducible exact HR266_0.out) | (with_reducible refine Kd.C_alloc ?_ _) | (with_reducible refine Kd.C_drewN ?_ _) | (with_reducible refine Kd.C_drew ?_) | exact HR266_0.out)) | (with_reducible refine Kd.C_alloc ?_ _) | (with_reducible refine Kd.C_drewN ?_ _) | (with_reducible refine Kd.C_drew ?_)))
                        (case side2 => exact HC266_0.out)
                        rintro e w' ⟨rfl, ⟨nd, rfl⟩⟩
                        refine ⟨_, rfl, ?_⟩
                        refine hK.out _ _ ⟨czz BK198.out 0, czz BK198.out 1, czz BK198.out 2, czz BK198.out 3, hHeld.2.2.2.2.1, hHeld.2.2.2.2.2.1, hHeld.2.2.2.2.2.2⟩ (fun hHeld => ?_)
                        clear hK K
                        refine norm_ (a' := ?_) ?_ ?_
                        rotate_left
                        ·show Act.put _ (some 260) _ = _
                         simp only [Act.put, lA, lZ, lS, i64_w, i32_w]
                         rfl
                        refine pT 19 261 (bt 21 1048575) (k := ?_)
                        refine pT 20 262 (bt 21 2097151) (k := ?_)
                        refine done_ (done_of HT_.out (by kernel_rfl)) ?_
                        try go_wp2
                        go_ret
                        exact ⟨TR, TB2 GE198.out GE199.out⟩
                     ·rw [if_neg c167] at H
                      exact absurd H (by simp)
                    ·rw [if_neg c166] at H
                     exact absurd H (by simp)
                   ·rw [if_neg c165] at H
                    have c165b0 : decide (x31_6 < (t258.length : Int)) = false := decide_eq_false c165
                    clear c165
                    replace H := Option.bind_eq_some_iff.mp H
                    obtain ⟨t262, A1810, H⟩ := H
                    replace H : (some t262) = some r := H
                    have A181 := Aside0.mk A1810
                    clear A1810
                    obtain rfl := Option.some.inj H
                    obtain ⟨Ao182, co182, eo182⟩ := Kd.V_slice HO_29.out
                    subst eo182
                    go_wp2_with (first | ((with_reducible refine gate_callee (f := 22) rfl ?_); refine goesL_ (some 263) rfl rfl Tryd.func22 (by kernel_rfl) rfl #[] rfl TM ?_; (with_reducible refine (saronlaw03_filed.calls  t262 _ ?side1 A181.out).mono ?_); (case side1 => exact Glob.fr HG.out (Fr.of_below (TB2 GE198.out GE199.out))); rintro e w183 ⟨rfl, hb⟩; refine ⟨_, rfl, ?_⟩; replace HO_11 := Aside0.mk (Kd.R_below (TRo HO_11.out) hb); replace HO_29 := Aside0.mk (Kd.V_below (by (with_reducible repeat (first | apply Kd.V_alloc | apply Kd.V_drewN | apply Kd.V_drew)); exact HO_29.out) hb); replace BK198 := Aside0.mk (blk_below (g := gb198) (o := .cells #[.slice A0_0 l0_0.length c0_0, .int .i64 a0_1, .int .i64 a0_2, .slice (some ad203) l0_3.length c0_3] 27 (0, 0)) (by (with_reducible repeat (first | refine blk_drewN ?_ _ | refine blk_drew ?_ | refine blk_alloc ?_ _)); exact BK198.out) hb); replace BK199 := Aside0.mk (blk_below (g := gb199) (o := .cells #[.int .i64 a1_0, .int .i64 a1_1] 28 (0, 0)) (by (with_reducible repeat (first | refine blk_drewN ?_ _ | refine blk_drew ?_ | refine blk_alloc ?_ _)); exact BK199.out) hb); replace HB := Aside0.mk (below_step (TB2 GE198.out GE199.out) hb); (try clear hb); (try clear hb2); (try clear hk); (try clear hi)))
                    go_ret
                    exact ⟨TR, TB2 GE198.out GE199.out⟩
           ·rw [if_neg c137] at H
            have c137b0 : (t248 == 32) = false := beq_eq_false_iff_ne.mpr c137
            have c137b1 : (t248 != 32) = true := bne_iff_ne.mpr c137
            obtain rfl := Option.some.inj H
            try go_wp2
            have n0_ := Aside0.mk (Kd.R_drew HO_11.out)
            have n1_ := Aside0.mk (Kd.R_drew HO_12.out)
            have n2_ := Aside0.mk (Kd.R_drew HO_13.out)
            have n3_ := Aside0.mk (blk_drew BK198.out)
            have n4_ := Aside0.mk (blk_drew BK199.out)
            have n5_ := Aside0.mk (below_drew1 HB.out)
            clear HO_11
            clear HO_12
            clear HO_13
            clear BK198
            clear BK199
            clear HB
            have HO_11 := n0_
            have HO_12 := n1_
            have HO_13 := n2_
            have BK198 := n3_
            have BK199 := n4_
            have HB := n5_
            clear n0_ n1_ n2_ n3_ n4_ n5_
            refine start_ (n := 13) (S := fun w' => w'.cell? ⟨gb198, 0, none⟩ = some (.slice A0_0 l0_0.length c0_0) ∧ w'.cell? ⟨gb198, 1, none⟩ = some (.int .i64 a0_1) ∧ w'.cell? ⟨gb198, 2, none⟩ = some (.int .i64 a0_2) ∧ w'.cell? ⟨gb198, 3, none⟩ = some (.slice (some ad203) l0_3.length c0_3)) (ds := []) (.replicate 13 false) (by kernel_rfl) rfl rfl ⟨czz BK198.out 0, czz BK198.out 1, czz BK198.out 2, czz BK198.out 3⟩ (fun hHeld => ?_); refine with_tabW saronlaw03_RaspPlayed.tab24 saronlaw03_RaspPlayed.bits24 (fun HT_ HW_ => ?_)
            generalize wc.drew = w184 at HO_11 HO_12 HO_13 BK198 BK199 HB hHeld ⊢
            refine pT 1 193 (bt 13 2) (k := ?_)
            refine pT 2 194 (bt 13 6) (k := ?_)
            refine pT 3 195 (bt 13 14) (k := ?_)
            refine tT4 0 192 (bt 13 15) hHeld (k := ?_)
            refine one_ (i := 4) (N := some 196) (bt 13 31) rfl rfl (one_of HT_.out (by kernel_rfl)) (by decide) (fun K hK => ?_)
            refine goes_ Tryd.func49 (by kernel_rfl) rfl #[.slice Ao104 x12_22.length co104, .int .i64 0] (by rfl) rfl rfl TM ?_
            with_reducible refine (saronref00_More.calls _ _ x12_22 0 t241 _ ?side1 ?side2 A135.out).mono ?_
            (case side1 => repeat (first | exact (Kd.R_reads' HO_12.out).2.2 | (with_reducible refine Kd.C_alloc ?_ _) | (with_reducible refine Kd.C_drewN ?_ _) | (with_reducible refine Kd.C_drew ?_)))
            (case side2 => exact (Kd.R_reads' HO_12.out).2.1)
            rintro e w185 ⟨v242, rfl, ho0, hb⟩
            refine ⟨_, rfl, ?_⟩
            have n0_ := Aside0.mk (Kd.R_elder' (TRo HO_11.out) (Kd.R_base ho0) hb)
            have n1_ := Aside0.mk (Kd.R_elder' (TRo HO_12.out) (Kd.R_base ho0) hb)
            have n2_ := Aside0.mk (Kd.R_elder' (TRo HO_13.out) (Kd.R_base ho0) hb)
            have n3_ := Aside0.mk (Kd.R_lower (Kd.R_new' (Kd.R_new' (Kd.R_new' ho0 (Kd.R_lt (TRo HO_11.out))) (Kd.R_lt (TRo HO_12.out))) (Kd.R_lt (TRo HO_13.out))) (below_size (TB2 GE198.out GE199.out)))
            have n4_ := Aside0.mk (blk_below (g := gb198) (o := .cells #[.slice A0_0 l0_0.length c0_0, .int .i64 a0_1, .int .i64 a0_2, .slice (some ad203) l0_3.length c0_3] 27 (0, 0)) (by (with_reducible repeat (first | refine blk_drewN ?_ _ | refine blk_drew ?_ | refine blk_alloc ?_ _)); exact BK198.out) hb)
            have n5_ := Aside0.mk (blk_below (g := gb199) (o := .cells #[.int .i64 a1_0, .int .i64 a1_1] 28 (0, 0)) (by (with_reducible repeat (first | refine blk_drewN ?_ _ | refine blk_drew ?_ | refine blk_alloc ?_ _)); exact BK199.out) hb)
            have n6_ := Aside0.mk (below_step (TB2 GE198.out GE199.out) hb)
            clear HO_11
            clear HO_12
            clear HO_13
            clear BK198
            clear BK199
            clear HB
            have HO_11 := n0_
            have HO_12 := n1_
            have HO_13 := n2_
            have HO243 := n3_
            have BK198 := n4_
            have BK199 := n5_
            have HB := n6_
            clear n0_ n1_ n2_ n3_ n4_ n5_ n6_
            (try clear hb)
            (try clear hb2)
            (try clear hk)
            (try clear hi)
            (try clear ho0)
            obtain ⟨Ao186, co186, eo186⟩ := Kd.R_slice HO243.out
            (first | subst eo186 | (injection eo186 with f1_ f2_ f3_; have f4_ := f1_.symm; have f5_ := f3_.symm; clear f1_ f2_ f3_; subst f4_; subst f5_))
            refine hK.out _ _ ⟨czz BK198.out 0, czz BK198.out 1, czz BK198.out 2, czz BK198.out 3⟩ (fun hHeld => ?_)
            clear hK K
            refine norm_ (a' := ?_) ?_ ?_
            rotate_left
            ·show Act.put _ (some 196) _ = _
             simp only [Act.put, lA, lZ, lS, i64_w, i32_w]
             rfl
            refine one_ (i := 5) (N := some 197) (bt 13 63) rfl rfl (one_of HT_.out (by kernel_rfl)) (by decide) (fun K hK => ?_)
            refine goes_ Tryd.func32 (by kernel_rfl) rfl #[.agg #[.slice A0_0 l0_0.length c0_0, .int .i64 a0_1, .int .i64 a0_2, .slice (some ad203) l0_3.length c0_3], .int .i64 t202, .int .i64 t204, .slice Ao186 t241.length co186] (by rfl) rfl rfl TM ?_
            with_reducible refine (rasp_Play.calls _ _ l0_0 a0_1 a0_2 _ _ l0_3 t202 t204 _ _ t241 t244 t247 t248 _ ?side1 ?side2 ?side3 ?side4 ?side5 ?side6 ?side7 A136.out).mono ?_
            (case side1 => exact TC HR0_0.out)
            (case side2 => exact HC0_0.out)
            (case side3 => exact TC HR0_3.out)
            (case side4 => exact HC0_3.out)
            (case side5 => repeat (first | exact (Kd.R_reads' HO243.out).2.2 | (with_reducible refine Kd.C_alloc ?_ _) | (with_reducible refine Kd.C_drewN ?_ _) | (with_reducible refine Kd.C_drew ?_)))
            (case side6 => exact (Kd.R_reads' HO243.out).2.1)
            (case side7 => exact Glob.fr HG.out (Fr.of_below (TB2 GE198.out GE199.out)))
            rintro e w187 ⟨v245, rfl, ho0, hb⟩
            refine ⟨_, rfl, ?_⟩
            have n0_ := Aside0.mk (Kd.R_below (TRo HO_11.out) hb)
            have n1_ := Aside0.mk (Kd.R_below (TRo HO_12.out) hb)
            have n2_ := Aside0.mk (Kd.R_below (TRo HO_13.out) hb)
            have n3_ := Aside0.mk (Kd.R_below (TRo HO243.out) hb)
            have n4_ := Aside0.mk (Kd.V_lower (Kd.V_mono (ok' := fun k_ => some k_ ≠ (u11 : Value).ownBlock ∧ some k_ ≠ (.slice Ao104 x12_22.length co104 : Value).ownBlock ∧ some k_ ≠ (u13 : Value).ownBlock ∧ some k_ ≠ (.slice Ao186 t241.length co186 : Value).ownBlock ∧ k_ ≠ gb198 ∧ k_ ≠ gb199) ho0 (fun k_ hk_ => ⟨(Kd.fresh' (Kd.R_lt (TRo HO_11.out)) k_ hk_), (Kd.fresh' (Kd.R_lt (TRo HO_12.out)) k_ hk_), (Kd.fresh' (Kd.R_lt (TRo HO_13.out)) k_ hk_), (Kd.fresh' (Kd.R_lt (TRo HO243.out)) k_ hk_), (Kd.freshB (g := gb198) (o := .cells #[.slice A0_0 l0_0.length c0_0, .int .i64 a0_1, .int .i64 a0_2, .slice (some ad203) l0_3.length c0_3] 27 (0, 0)) (by (with_reducible repeat (first | refine blk_drewN ?_ _ | refine blk_drew ?_ | refine blk_alloc ?_ _)); exact BK198.out) k_ hk_), (Kd.freshB (g := gb199) (o := .cells #[.int .i64 a1_0, .int .i64 a1_1] 28 (0, 0)) (by (with_reducible repeat (first | refine blk_drewN ?_ _ | refine blk_drew ?_ | refine blk_alloc ?_ _)); exact BK199.out) k_ hk_)⟩)) (below_size (TB2 GE198.out GE199.out)))
            have n5_ := Aside0.mk (blk_below (g := gb198) (o := .cells #[.slice A0_0 l0_0.length c0_0, .int .i64 a0_1, .int .i64 a0_2, .slice (some ad203) l0_3.length c0_3] 27 (0, 0)) (by (with_reducible repeat (first | refine blk_drewN ?_ _ | refine blk_drew ?_ | refine blk_alloc ?_ _)); exact BK198.out) hb)
            have n6_ := Aside0.mk (blk_below (g := gb199) (o := .cells #[.int .i64 a1_0, .int .i64 a1_1] 28 (0, 0)) (by (with_reducible repeat (first | refine blk_drewN ?_ _ | refine blk_drew ?_ | refine blk_alloc ?_ _)); exact BK199.out) hb)
            have n7_ := Aside0.mk (below_step (TB2 GE198.out GE199.out) hb)
            clear HO_11
            clear HO_12
            clear HO_13
            clear HO243
            clear BK198
            clear BK199
            clear HB
            have HO_11 := n0_
            have HO_12 := n1_
            have HO_13 := n2_
            have HO243 := n3_
            have HO246 := n4_
            have BK198 := n5_
            have BK199 := n6_
            have HB := n7_
            clear n0_ n1_ n2_ n3_ n4_ n5_ n6_ n7_
            (try clear hb)
            (try clear hb2)
            (try clear hk)
            (try clear hi)
            (try clear ho0)
            refine hK.out _ _ ⟨czz BK198.out 0, czz BK198.out 1, czz BK198.out 2, czz BK198.out 3⟩ (fun hHeld => ?_)
            clear hK K
            refine norm_ (a' := ?_) ?_ ?_
            rotate_left
            ·show Act.put _ (some 197) _ = _
             simp only [Act.put, lA, lZ, lS, i64_w, i32_w]
             rfl
            refine pT 6 191 (bt 13 127) (k := ?_)
            refine pT 7 198 (bt 13 255) (k := ?_)
            refine pT 8 199 (bt 13 511) (k := ?_)
            refine pT 9 200 (bt 13 1023) (k := ?_)
            refine pT 10 26 (bt 13 2047) (k := ?_)
            refine pT 11 27 (bt 13 4095) (k := ?_)
            refine pT 12 28 (bt 13 8191) (k := ?_)
            refine done_ (done_of HT_.out (by kernel_rfl)) ?_
            try go_wp2
            go_ret
            exact ⟨TR, TB2 GE198.out GE199.out⟩
     ·rw [if_neg c21] at H
      exact absurd H (by simp)
    ·rw [if_neg c20] at H
     exact absurd H (by simp)
end Go.Proofs.YtfmpbkolpjlfbaaDoor.PRaspKeys
