import Derived.Test.YtfdenclnneigfaaDoorC1
import Derived.Test.YtfdenclnneigfaaDoorCT
import Derived.Test.YtfdenclnneigfaaDoorS30
import Derived.Test.YtfdenclnneigfaaDoorM0
import Derived.Test.YtfdenclnneigfaaDoorProg
import Derived.Below
import Derived.Deep.Draws
import Derived.Deep.AppendLies
import Derived.Maps.AppendAt
import Derived.OwnWalk
import Derived.Laws.BytesArg
import Derived.Laws.MakeOwn
import Derived.Laws.OwnMore
import Derived.Deep.OwnRows
import Derived.Tactics
import Derived.Lib.ConvBytes
import Derived.Laws.Slices
import Derived.WalkKit
import Derived.KernelRfl
import Derived.RowKit3
import Derived.Deep.LoopGhost
import Derived.Deep.QuietTactic
import Derived.BigQuiet
import Derived.WideLaws
import Derived.Deep.DeepCutAuto
import Derived.Deep.CutBlock
import Derived.Deep.RegionHeld3
import Derived.Laws.Rows
import Derived.Lib.AppendStr
import Derived.ArgAppend
import Derived.Laws.IdiomCopy
import Derived.OrdersHeld
import Derived.Laws.BitsLemmas
import Derived.RowKit
set_option linter.unusedVariables false
set_option linter.unusedSimpArgs false
namespace Go.Proofs.YtfdenclnneigfaaDoor.M
open Go.RowKit Go.Proofs.YtfdenclnneigfaaDoorW.PrintWords Go.Proofs.YtfdenclnneigfaaDoorW.PrintLast
section
variable {P : Program} {md : Region.Mode} {ops : Array Oper} {Q : Exit → Act → World → Prop} {S : World → Prop} {ds : List Nat}
variable (i : Nat) (N : Tmp) {oi : Oper} {v : Value} {fuel : Nat} {l : Array Bool} {a a' : Act} {w : World} (l' : Array Bool)
theorem tT11 (hH : S w) (hi : ops[i]? = some oi := by exact rfl) (hN : oi.dst = some N := by exact rfl) (hc : takeB md ops ds l l' i = true := by exact take_ofW HT_.out HW_.out (by kernel_rfl)) (hQ : ∀ c a w, Q (.panic c) (a.put oi.dst v) w → Q (.panic c) a w := by exact fun _ _ _ h => h)
  (hy : YieldsIf P ops S oi v a := by (refine Or.inl ⟨by rfl, ?_⟩; rintro w' ⟨s0, s1, s2, s3, s4, s5, s6, s7, s8, s9, s10⟩; go_simp; with_reducible rfl)) (ha : a.put (some N) v = a' := by (simp only [Act.put, lA, lZ, lS, i64_w, i32_w]; rfl)) (k : wpAnyLast P md ops Q S ds fuel l' a' w) : wpAnyLast P md ops Q S ds (fuel + 1) l a w :=
 take_ l' hi hN hc hQ hy hH ha k
end
end Go.Proofs.YtfdenclnneigfaaDoor.M
namespace Go.Proofs.YtfdenclnneigfaaDoor.PRaspKeys
open Go.RowKit Go.Proofs.YtfdenclnneigfaaDoorW.PrintWords Go.Proofs.YtfdenclnneigfaaDoorW.PrintLast Go.Proofs.YtfdenclnneigfaaDoorW.PrintMore Go.Proofs.YtfdenclnneigfaaDoor.M
attribute [local go_sem] max2_int min2_int max_two min_two max_three min_three max_four min_four   -- for this text's walks alone
/-! #### struct type 114 -/
/-! #### struct type 62 -/
/-! #### struct type 30 -/
end Go.Proofs.YtfdenclnneigfaaDoor.PRaspKeys
namespace Go.Proofs.YtfdenclnneigfaaDoor.PRaspKeys
open Go.RowKit Go.Proofs.YtfdenclnneigfaaDoorW.PrintWords Go.Proofs.YtfdenclnneigfaaDoorW.PrintLast Go.Proofs.YtfdenclnneigfaaDoorW.PrintMore Go.Proofs.YtfdenclnneigfaaDoor.M
attribute [local go_sem] max2_int min2_int max_two min_two max_three min_three max_four min_four   -- for this text's walks alone
mutual
def rA.j1 : Nat → List (S30) → Bool → Int → List (S114) → List (S62) → Option (List Int × Int)
 | 0, _, _, _, _, _ => none
 | k + 1, x1, x6, x216000, x216001, x216002 => (saronref09_asked.f k x216000 x216001 x216002 x6).bind fun t219 => (if t219 = 0 then (rA.l1 k x1 ([] : List Int) 0 x216000 x216001 x216002) else (some (([] : List Int), t219)))
def rA.l1 : Nat → List (S30) → List Int → Int → Int → List (S114) → List (S62) → Option (List Int × Int)
 | 0, _, _, _, _, _, _ => none
 | k + 1, x1, x9, x10, x216000, x216001, x216002 => if x10 < (x216002.length : Int) then (rA.l2 k x1 x9 x10 true 0 x216000 x216001 x216002) else (some (x9, 0))
def rA.l2 : Nat → List (S30) → List Int → Int → Bool → Int → Int → List (S114) → List (S62) → Option (List Int × Int)
 | 0, _, _, _, _, _, _, _, _ => none
 | k + 1, x1, x9, x10, x11, x12, x216000, x216001, x216002 => if x12 < (x1.length : Int) then (if x11 = true then (if 0 ≤ x12 then ((rB.f k x216000 x216001 x216002 x10 ((rd_T30 x1 x12).f0) ((rd_T30 x1 x12).f1) ((rd_T30 x1 x12).f2) ((rd_T30 x1 x12).f3) ((rd_T30 x1 x12).f2)).bind fun t222 => (rA.l2 k x1 x9 x10 (decide ((t222.length : Int) > 0)) (wrap64 (x12 + 1)) x216000 x216001 x216002)) else (none)) else (rA.l2 k x1 x9 x10 false (wrap64 (x12 + 1)) x216000 x216001 x216002)) else (if x11 = true then (if x9.length < 17592186044416 then (rA.l1 k x1 (x9 ++ [x10]) (wrap64 (x10 + 1)) x216000 x216001 x216002) else (none)) else (rA.l1 k x1 x9 (wrap64 (x10 + 1)) x216000 x216001 x216002))
def rA.l0 : Nat → List (S30) → Bool → Int → Int → List (S114) → List (S62) → Option (List Int × Int)
 | 0, _, _, _, _, _, _ => none
 | k + 1, x1, x6, x7, x216000, x216001, x216002 => if x6 = true then (if x7 < (x1.length : Int) then (if 0 ≤ x7 then ((rN.f k ((rd_T30 x1 x7).f0) ((rd_T30 x1 x7).f1) ((rd_T30 x1 x7).f2) ((rd_T30 x1 x7).f3)).bind fun t218 => (rA.l0 k x1 t218 (wrap64 (x7 + 1)) x216000 x216001 x216002)) else (none)) else (rA.j1 k x1 x6 x216000 x216001 x216002)) else (rA.j1 k x1 x6 x216000 x216001 x216002)
end
def rA.f (k : Nat) (a0_0 : Int) (l0_1 : List (S114)) (l0_2 : List (S62)) (l1 : List (S30)) : Option (List Int × Int) := (saronref00_Sits.f (l1.length : Int) 1 6).bind fun t216 => (rA.l0 k l1 t216 0 a0_0 l0_1 l0_2)
theorem rA.mono_l : ∀ k, (∀ y0 y1 y2 y3 y4, LeO (rA.j1 k y0 y1 y2 y3 y4) (rA.j1 (k + 1) y0 y1 y2 y3 y4)) ∧ (∀ y0 y1 y2 y3 y4 y5, LeO (rA.l1 k y0 y1 y2 y3 y4 y5) (rA.l1 (k + 1) y0 y1 y2 y3 y4 y5)) ∧ (∀ y0 y1 y2 y3 y4 y5 y6 y7, LeO (rA.l2 k y0 y1 y2 y3 y4 y5 y6 y7) (rA.l2 (k + 1) y0 y1 y2 y3 y4 y5 y6 y7)) ∧ (∀ y0 y1 y2 y3 y4 y5, LeO (rA.l0 k y0 y1 y2 y3 y4 y5) (rA.l0 (k + 1) y0 y1 y2 y3 y4 y5))
 | 0 => ⟨fun _ _ _ _ _ r h => by simp [rA.j1] at h, fun _ _ _ _ _ _ r h => by simp [rA.l1] at h, fun _ _ _ _ _ _ _ _ r h => by simp [rA.l2] at h, fun _ _ _ _ _ _ r h => by simp [rA.l0] at h⟩
 | k + 1 => by
  obtain ⟨ih0, ih1, ih2, ih3⟩ := rA.mono_l k
  refine ⟨?_, ?_, ?_, ?_⟩
  ·intro y0 y1 y2 y3 y4
   unfold rA.j1
   repeat' first
   | (with_reducible exact ih0 _ _ _ _ _)
   | (with_reducible exact ih1 _ _ _ _ _ _)
   | (with_reducible exact ih2 _ _ _ _ _ _ _ _)
   | (with_reducible exact ih3 _ _ _ _ _ _)
   | (with_reducible exact rN.mono _ _ _ _ _)
   | (with_reducible exact saronref09_asked.mono _ _ _ _ _)
   | (with_reducible exact rB.mono _ _ _ _ _ _ _ _ _ _)
   | (with_reducible exact LeO.refl _)
   | (with_reducible exact LeO.none _)
   | (with_reducible refine LeO.ite ?_ ?_)
   | (with_reducible refine LeO.bind ?_ (fun _ => ?_))
   | exact ih0 _ _ _ _ _
   | exact ih1 _ _ _ _ _ _
   | exact ih2 _ _ _ _ _ _ _ _
   | exact ih3 _ _ _ _ _ _
   | exact rN.mono _ _ _ _ _
   | exact saronref09_asked.mono _ _ _ _ _
   | exact rB.mono _ _ _ _ _ _ _ _ _ _
   | exact LeO.none _
   | refine LeO.ite ?_ ?_
   | refine LeO.bind ?_ (fun _ => ?_)
  ·intro y0 y1 y2 y3 y4 y5
   unfold rA.l1
   repeat' first
   | (with_reducible exact ih0 _ _ _ _ _)
   | (with_reducible exact ih1 _ _ _ _ _ _)
   | (with_reducible exact ih2 _ _ _ _ _ _ _ _)
   | (with_reducible exact ih3 _ _ _ _ _ _)
   | (with_reducible exact rN.mono _ _ _ _ _)
   | (with_reducible exact saronref09_asked.mono _ _ _ _ _)
   | (with_reducible exact rB.mono _ _ _ _ _ _ _ _ _ _)
   | (with_reducible exact LeO.refl _)
   | (with_reducible exact LeO.none _)
   | (with_reducible refine LeO.ite ?_ ?_)
   | (with_reducible refine LeO.bind ?_ (fun _ => ?_))
   | exact ih0 _ _ _ _ _
   | exact ih1 _ _ _ _ _ _
   | exact ih2 _ _ _ _ _ _ _ _
   | exact ih3 _ _ _ _ _ _
   | exact rN.mono _ _ _ _ _
   | exact saronref09_asked.mono _ _ _ _ _
   | exact rB.mono _ _ _ _ _ _ _ _ _ _
   | exact LeO.none _
   | refine LeO.ite ?_ ?_
   | refine LeO.bind ?_ (fun _ => ?_)
  ·intro y0 y1 y2 y3 y4 y5 y6 y7
   unfold rA.l2
   repeat' first
   | (with_reducible exact ih0 _ _ _ _ _)
   | (with_reducible exact ih1 _ _ _ _ _ _)
   | (with_reducible exact ih2 _ _ _ _ _ _ _ _)
   | (with_reducible exact ih3 _ _ _ _ _ _)
   | (with_reducible exact rN.mono _ _ _ _ _)
   | (with_reducible exact saronref09_asked.mono _ _ _ _ _)
   | (with_reducible exact rB.mono _ _ _ _ _ _ _ _ _ _)
   | (with_reducible exact LeO.refl _)
   | (with_reducible exact LeO.none _)
   | (with_reducible refine LeO.ite ?_ ?_)
   | (with_reducible refine LeO.bind ?_ (fun _ => ?_))
   | exact ih0 _ _ _ _ _
   | exact ih1 _ _ _ _ _ _
   | exact ih2 _ _ _ _ _ _ _ _
   | exact ih3 _ _ _ _ _ _
   | exact rN.mono _ _ _ _ _
   | exact saronref09_asked.mono _ _ _ _ _
   | exact rB.mono _ _ _ _ _ _ _ _ _ _
   | exact LeO.none _
   | refine LeO.ite ?_ ?_
   | refine LeO.bind ?_ (fun _ => ?_)
  intro y0 y1 y2 y3 y4 y5
  unfold rA.l0
  repeat' first
  | (with_reducible exact ih0 _ _ _ _ _)
  | (with_reducible exact ih1 _ _ _ _ _ _)
  | (with_reducible exact ih2 _ _ _ _ _ _ _ _)
  | (with_reducible exact ih3 _ _ _ _ _ _)
  | (with_reducible exact rN.mono _ _ _ _ _)
  | (with_reducible exact saronref09_asked.mono _ _ _ _ _)
  | (with_reducible exact rB.mono _ _ _ _ _ _ _ _ _ _)
  | (with_reducible exact LeO.refl _)
  | (with_reducible exact LeO.none _)
  | (with_reducible refine LeO.ite ?_ ?_)
  | (with_reducible refine LeO.bind ?_ (fun _ => ?_))
  | exact ih0 _ _ _ _ _
  | exact ih1 _ _ _ _ _ _
  | exact ih2 _ _ _ _ _ _ _ _
  | exact ih3 _ _ _ _ _ _
  | exact rN.mono _ _ _ _ _
  | exact saronref09_asked.mono _ _ _ _ _
  | exact rB.mono _ _ _ _ _ _ _ _ _ _
  | exact LeO.none _
  | refine LeO.ite ?_ ?_
  | refine LeO.bind ?_ (fun _ => ?_)
theorem rA.mono : ∀ a0 a1 a2 a3 k, LeO (rA.f k a0 a1 a2 a3) (rA.f (k + 1) a0 a1 a2 a3) := by
 intro a0 a1 a2 a3 k
 obtain ⟨ih0, ih1, ih2, ih3⟩ := rA.mono_l k
 unfold rA.f
 repeat' first
   | (with_reducible exact ih0 _ _ _ _ _)
   | (with_reducible exact ih1 _ _ _ _ _ _)
   | (with_reducible exact ih2 _ _ _ _ _ _ _ _)
   | (with_reducible exact ih3 _ _ _ _ _ _)
   | (with_reducible exact rN.mono _ _ _ _ _)
   | (with_reducible exact saronref09_asked.mono _ _ _ _ _)
   | (with_reducible exact rB.mono _ _ _ _ _ _ _ _ _ _)
   | (with_reducible exact LeO.refl _)
   | (with_reducible exact LeO.none _)
   | (with_reducible refine LeO.ite ?_ ?_)
   | (with_reducible refine LeO.bind ?_ (fun _ => ?_))
   | exact ih0 _ _ _ _ _
   | exact ih1 _ _ _ _ _ _
   | exact ih2 _ _ _ _ _ _ _ _
   | exact ih3 _ _ _ _ _ _
   | exact rN.mono _ _ _ _ _
   | exact saronref09_asked.mono _ _ _ _ _
   | exact rB.mono _ _ _ _ _ _ _ _ _ _
   | exact LeO.none _
   | refine LeO.ite ?_ ?_
   | refine LeO.bind ?_ (fun _ => ?_)
def rA.T17 : Bool × List (List Nat × List Nat) := (true, [([], []), ([0], [0]), ([1], [1]), ([1], [1]), ([1], [1]), ([1], [1]), ([4, 5, 1], [1, 4, 5]), ([6, 1], [1, 6]), ([1], [1]), ([1], [1]), ([8, 9, 1], [1, 8, 9]), ([10, 1], [1, 10]), ([11, 1], [1, 11]), ([2, 3, 7, 12, 1, 1], [1, 2, 3, 7, 12]), ([13, 1], [1, 13]), ([14, 1], [1, 14]), ([1, 15], [1, 15]), ([16, 13, 0, 1, 2, 3, 4, 5, 6, 7, 8, 9, 10, 11, 12, 13, 14, 15, 16], [0, 16])])
def rA.B17 : List Nat := [0, 1, 3, 3, 3, 3, 51, 115, 3, 3, 771, 1795, 3843, 8191, 16383, 32767, 65535, 131071]
theorem rA.tab17 : rtab .any (opsOf Tryd.f29 17) = rA.T17 := by kernel_rfl
theorem rA.bits17 : waitsOk rA.T17.2 rA.B17 = true := by kernel_rfl
set_option maxHeartbeats 8000000 in
set_option maxRecDepth 100000 in
theorem rA.calls (k : Nat) (a0_0 : Int) (A0_1 : Option Addr) (c0_1 : Nat) (l0_1 : List (S114)) (A0_2 : Option Addr) (c0_2 : Nat) (l0_2 : List (S62)) (A1 : Option Addr) (c1 : Nat) (l1 : List (S30)) (r1 : List Int) (r2 : Int) (w : World) (hr0_1 : Kd.C k114 w A0_1 l0_1.length l0_1) (hc0_1 : l0_1.length ≤ c0_1) (hr0_2 : Kd.C k62 w A0_2 l0_2.length l0_2) (hc0_2 : l0_2.length ≤ c0_2) (hr1 : Kd.C k30 w A1 l1.length l1) (hc1 : l1.length ≤ c1) (h : rA.f k a0_0 l0_1 l0_2 l1 = some (r1, r2)) :
  Calls Tryd.prog 29 #[.agg #[.int .i64 a0_0, .slice A0_1 l0_1.length c0_1, .slice A0_2 l0_2.length c0_2], .slice A1 l1.length c1] w fun e w' => ∃ v0_ : Value, e = .returned (.tuple #[v0_, .int .i64 r2]) ∧ Kd.R (Kd.int .i64) 3 w' w.heap.size (fun _ => True) v0_ r1 ∧ Below w.heap.size w w' := by
 have hu27 := Tryd.underlying27
 have hu30 := Tryd.underlying30
 have HR0_1 := aS hr0_1
 have HC0_1 := aS hc0_1
 clear hr0_1 hc0_1
 have HR0_2 := aS hr0_2
 have HC0_2 := aS hc0_2
 clear hr0_2 hc0_2
 have HR1 := aS hr1
 have HC1 := aS hc1
 clear hr1 hc1
 have HB := aS (Below.refl w.heap.size w)
 have H : ((saronref00_Sits.f (l1.length : Int) 1 6).bind fun t216 => (rA.l0 k l1 t216 0 a0_0 l0_1 l0_2)) = some (r1, r2) := h
 clear h
 replace H := Option.bind_eq_some_iff.mp H
 obtain ⟨t216, A30, H⟩ := H
 replace H : (rA.l0 k l1 t216 0 a0_0 l0_1 l0_2) = some (r1, r2) := H
 have A3 := aS A30
 clear A30
 have HC4 := aS H
 clear H
 go_enter Tryd.func29, Tryd.ntmps29
 go_upto_block 0 with (first | ((with_reducible refine gate_dst (N := 2) rfl ?_); (try (refine gate_guard (by rfl) ?_; dsimp only)); refine box_event ?hg (N := 2) ?hd (cs := #[.int .i64 a0_0, .slice A0_1 l0_1.length c0_1, .slice A0_2 l0_2.length c0_2]) (t := 27) ?hr ?_; (case hd => rfl); (case hg => rfl); (case hr => exact TS); intro gb215 hg w5 hbox hb; have BK215 := aS (hbox); have GW215 := aS ((TG : w.heap.size ≤ gb215)); have GE215 := aS ((TG : w.heap.size ≤ gb215)); replace HB := aS (below_step TB hb); clear hb hbox hg) | ((with_reducible refine gate_callee (f := 40) rfl ?_); refine goesL_ (some 15) rfl rfl Tryd.func40 (by kernel_rfl) rfl #[.int .i64 (l1.length : Int), .int .i64 1, .int .i64 6] rfl TM ?_; (with_reducible refine (saronref00_Sits.calls (l1.length : Int) 1 6 t216 _ A3.out).mono ?_); rintro e w' ⟨rfl, ⟨nd, rfl⟩⟩; refine ⟨_, rfl, ?_⟩))
 (try simp only [Act.put, lA, lZ, lS])
 go_cut [6] (fun v6 wc => ∃ (kq : Nat) (x6_3 : Bool), v6 = .bool x6_3 ∧ Aside0 (rA.j1 kq l1 x6_3 a0_0 l0_1 l0_2 = some (r1, r2)) ∧ Aside0 (kq ≤ k) ∧ Aside0 (wc.heap[gb215]? = some (.cells #[.int .i64 a0_0, (.slice A0_1 l0_1.length c0_1), (.slice A0_2 l0_2.length c0_2)] 27 (0, 0))) ∧ Aside0 (Below w.heap.size w wc))
 case first => as_aux_lemma =>
  have H := HC4.out
  clear HC4
  have H' := aS H
  clear H
  go_wp2
  go_loopg [6, 7] k (fun kq v6 v7 w' => ∃ (x6_1 : Bool) (x7_1 : Int), v6 = .bool x6_1 ∧ v7 = .int .i64 x7_1 ∧ Aside0 (rA.l0 kq l1 x6_1 x7_1 a0_0 l0_1 l0_2 = some (r1, r2)) ∧ Aside0 (kq ≤ k) ∧ Aside0 (w'.heap[gb215]? = some (.cells #[.int .i64 a0_0, (.slice A0_1 l0_1.length c0_1), (.slice A0_2 l0_2.length c0_2)] 27 (0, 0))) ∧ Aside0 (Below w.heap.size w w'))
  case atStart => exact ⟨(t216), (0), TT, TT, H', ⟨Nat.le_refl _⟩, ⟨TK BK215.out⟩, ⟨TB1 GE215.out⟩⟩
  case round => as_aux_lemma =>
   clear H'
   try clear c1
   try clear c2
   try clear p2
   try clear c4
   obtain ⟨x6_1, x7_1, rfl, rfl, HA, HK1, BK215, HB⟩ := hrel
   cases gk with
   | zero => exact absurd HA.out (by simp [rA.l0])
   | succ k1 =>
    have H := HA.out
    clear HA
    simp only [rA.l0] at H
    by_cases c6 : x6_1 = true
    rotate_left
    ·replace c6 := Bool.eq_false_iff.mpr c6
     subst c6
     have H1 : (rA.j1 k1 l1 false a0_0 l0_1 l0_2) = some (r1, r2) := by rw [if_neg (show ¬ (false = true) by decide)] at H; exact H
     clear H
     have H := H1
     clear H1
     have H' := aS H
     clear H
     go_wp2
     go_meet
     case rel => exact ⟨_, (false), TT, H', ⟨by have := HK1.out; first | omega | exact Nat.le_refl _⟩, ⟨TK BK215.out⟩, ⟨TB1 GE215.out⟩⟩
    subst c6
    have H1 : (if x7_1 < (l1.length : Int) then (if 0 ≤ x7_1 then ((rN.f k1 ((rd_T30 l1 x7_1).f0) ((rd_T30 l1 x7_1).f1) ((rd_T30 l1 x7_1).f2) ((rd_T30 l1 x7_1).f3)).bind fun t218 => (rA.l0 k1 l1 t218 (wrap64 (x7_1 + 1)) a0_0 l0_1 l0_2)) else (none)) else (rA.j1 k1 l1 true a0_0 l0_1 l0_2)) = some (r1, r2) := by rw [if_pos rfl] at H; exact H
    clear H
    have H := H1
    clear H1
    by_cases c7 : x7_1 < (l1.length : Int)
    rotate_left
    ·rw [if_neg c7] at H
     have c7b0 : decide (x7_1 < (l1.length : Int)) = false := decide_eq_false c7
     clear c7
     (first | rw [c7b0] | (simp only [i64_w, i32_w]; rw [c7b0]) | skip)
     have H' := aS H
     clear H
     go_wp2
     go_meet
     case rel => exact ⟨_, (true), TT, H', ⟨by have := HK1.out; first | omega | exact Nat.le_refl _⟩, ⟨TK BK215.out⟩, ⟨TB1 GE215.out⟩⟩
    rw [if_pos c7] at H
    have c7b0 : decide (x7_1 < (l1.length : Int)) = true := decide_eq_true c7
    clear c7
    (first | rw [c7b0] | (simp only [i64_w, i32_w]; rw [c7b0]) | skip)
    by_cases c8 : 0 ≤ x7_1
    rotate_left
    ·rw [if_neg c8] at H
     exact absurd H (by simp)
    rw [if_pos c8] at H
    have c8b0 : decide (0 ≤ x7_1) = true := decide_eq_true c8
    clear c8
    replace H := Option.bind_eq_some_iff.mp H
    obtain ⟨t218, A90, H⟩ := H
    replace H : (rA.l0 k1 l1 t218 (wrap64 (x7_1 + 1)) a0_0 l0_1 l0_2) = some (r1, r2) := H
    have A9 := aS A90
    clear A90
    have H' := aS H
    clear H
    have p217 : 0 ≤ (x7_1 : Int) := of_decide_eq_true TA
    have q217 : x7_1 < (l1.length : Int) := of_decide_eq_true TA
    obtain ⟨ad217, A217_0, c217_0, A217_1, c217_1, e217, hx217_0, hx217_1, hx217_2, hx217_3, hl217_0, hi217_0, hl217_1, hi217_1⟩ := at_T30 HR1.out x7_1 p217 q217
    cases e217
    replace hx217_0 := hx HB.out hx217_0
    replace hx217_1 := hx HB.out hx217_1
    replace hx217_2 := hx HB.out hx217_2
    replace hx217_3 := hx HB.out hx217_3
    have HR217_0 := aS hi217_0
    have HC217_0 := aS hl217_0
    clear hi217_0 hl217_0
    have HR217_1 := aS hi217_1
    have HC217_1 := aS hl217_1
    clear hi217_1 hl217_1
    replace p217 := eq_true p217
    replace q217 := eq_true q217
    go_wp2_with (first | ((with_reducible refine gate_callee (f := 56) rfl ?_); refine goesL_ (some 29) rfl rfl Tryd.func56 (by kernel_rfl) rfl #[.agg #[.slice A217_0 ((rd_T30 l1 x7_1).f0).length c217_0, .slice A217_1 ((rd_T30 l1 x7_1).f1).length c217_1, .int .i64 ((rd_T30 l1 x7_1).f2), .int .i64 ((rd_T30 l1 x7_1).f3)]] rfl TM ?_; (with_reducible refine (rN.calls k1 _ _ ((rd_T30 l1 x7_1).f0) _ _ ((rd_T30 l1 x7_1).f1) ((rd_T30 l1 x7_1).f2) ((rd_T30 l1 x7_1).f3) t218 _ ?side1 ?side2 ?side3 ?side4 A9.out).mono ?_); (case side1 => exact TC HR217_0.out); (case side2 => exact HC217_0.out); (case side3 => exact TC HR217_1.out); (case side4 => exact HC217_1.out); rintro e w10 ⟨rfl, hb⟩; refine ⟨_, rfl, ?_⟩; replace BK215 := aS (TKb hb BK215.out); replace HB := aS (below_step (TB1 GE215.out) hb); (try clear hb); (try clear hb2); (try clear hk); (try clear hi)))
    go_roundg k1
    case measure => have := HK1.out; omega
    case rel => exact ⟨(t218), (wrap64 (x7_1 + 1)), TT, TT, H', ⟨by have := HK1.out; omega⟩, ⟨TK BK215.out⟩, ⟨TB1 GE215.out⟩⟩
 case rest => as_aux_lemma =>
  clear HC4
  try clear c1
  try clear c2
  try clear p2
  try clear q2
  try clear hx2
  try clear c4
  try clear c5
  try clear c6
  try clear p6
  try clear c7
  try clear c7b0
  try clear c8
  try clear c8b0
  try clear hx217_0
  try clear hx217_1
  try clear hx217_2
  try clear hx217_3
  try clear p2
  try clear p217
  try clear q217
  obtain ⟨kq, x6_3, rfl, HA, HJ3, BK215, HB⟩ := hcut
  cases kq with
  | zero => exact absurd HA.out (by simp [rA.j1])
  | succ kj3 =>
   have H := HA.out
   clear HA
   simp only [rA.j1] at H
   replace H := Option.bind_eq_some_iff.mp H
   obtain ⟨t219, A110, H⟩ := H
   replace H : (if t219 = 0 then (rA.l1 kj3 l1 ([] : List Int) 0 a0_0 l0_1 l0_2) else (some (([] : List Int), t219))) = some (r1, r2) := H
   have A11 := aS A110
   clear A110
   by_cases c12 : t219 = 0
   rotate_left
   ·rw [if_neg c12] at H
    have c12b0 : (t219 == 0) = false := beq_eq_false_iff_ne.mpr c12
    have c12b1 : (t219 != 0) = true := bne_iff_ne.mpr c12
    simp only [Option.some.injEq, Prod.mk.injEq] at H
    obtain ⟨rfl, rfl⟩ := H
    have hcz29_0 := cz BK215.out 0
    have hcz29_1 := cz BK215.out 1
    have hcz29_2 := cz BK215.out 2
    have hfz29_0 := fz BK215.out 0
    have hfz29_1 := fz BK215.out 1
    have hfz29_2 := fz BK215.out 2
    go_wp2_with (first | ((with_reducible refine gate_callee (f := 54) rfl ?_); refine goesL_ (some 32) rfl rfl Tryd.func54 (by kernel_rfl) rfl #[.agg #[.int .i64 a0_0, .slice A0_1 l0_1.length c0_1, .slice A0_2 l0_2.length c0_2], .bool x6_3] rfl TM ?_; (with_reducible refine (saronref09_asked.calls kj3 a0_0 _ _ l0_1 _ _ l0_2 x6_3 t219 _ ?side1 ?side2 ?side3 ?side4 A11.out).mono ?_); (case side1 => exact TC HR0_1.out); (case side2 => exact HC0_1.out); (case side3 => exact TC HR0_2.out); (case side4 => exact HC0_2.out); rintro e w30 ⟨rfl, hb⟩; refine ⟨_, rfl, ?_⟩; replace BK215 := aS (TKb hb BK215.out); replace HB := aS (below_step (TB1 GE215.out) hb); (try clear hb); (try clear hb2); (try clear hk); (try clear hi)))
    go_ret2
    exact ⟨_, TR, by first | exact Kd.R_nil _ _ _ _ _ | exact Kd.N_nil _ _ _ _ _ | exact Kd.V_nil _ _ _ _ _ | exact Kd.Q_nil _ _ _ _ _ | exact Kd.S_nil _ _ _ _ _, TB1 GE215.out⟩
   rw [if_pos c12] at H
   have c12b0 : (t219 == 0) = true := beq_iff_eq.mpr c12
   have c12b1 : (t219 != 0) = false := bne_eq_false_iff_eq.mpr c12
   clear c12
   have H' := aS H
   clear H
   have hcz13_0 := cz BK215.out 0
   have hcz13_1 := cz BK215.out 1
   have hcz13_2 := cz BK215.out 2
   have hfz13_0 := fz BK215.out 0
   have hfz13_1 := fz BK215.out 1
   have hfz13_2 := fz BK215.out 2
   go_wp2_with (first | ((with_reducible refine gate_callee (f := 54) rfl ?_); refine goesL_ (some 32) rfl rfl Tryd.func54 (by kernel_rfl) rfl #[.agg #[.int .i64 a0_0, .slice A0_1 l0_1.length c0_1, .slice A0_2 l0_2.length c0_2], .bool x6_3] rfl TM ?_; (with_reducible refine (saronref09_asked.calls kj3 a0_0 _ _ l0_1 _ _ l0_2 x6_3 t219 _ ?side1 ?side2 ?side3 ?side4 A11.out).mono ?_); (case side1 => exact TC HR0_1.out); (case side2 => exact HC0_1.out); (case side3 => exact TC HR0_2.out); (case side4 => exact HC0_2.out); rintro e w14 ⟨rfl, hb⟩; refine ⟨_, rfl, ?_⟩; replace BK215 := aS (TKb hb BK215.out); replace HB := aS (below_step (TB1 GE215.out) hb); (try clear hb); (try clear hb2); (try clear hk); (try clear hi)))
   go_loopg [9, 10] kj3 (fun kq v9 v10 w' => ∃ (x9_2 : List Int) (x10_2 : Int), v10 = .int .i64 x10_2 ∧ Aside0 (rA.l1 kq l1 x9_2 x10_2 a0_0 l0_1 l0_2 = some (r1, r2)) ∧ Aside0 (kq ≤ kj3) ∧ Aside0 (Kd.R (Kd.int .i64) 3 w' w.heap.size (fun _ => True) v9 x9_2) ∧ Aside0 (w'.heap[gb215]? = some (.cells #[.int .i64 a0_0, (.slice A0_1 l0_1.length c0_1), (.slice A0_2 l0_2.length c0_2)] 27 (0, 0))) ∧ Aside0 (Below w.heap.size w w'))
   case atStart => exact ⟨(([] : List Int)), (0), TT, H', ⟨Nat.le_refl _⟩, ⟨by first | exact Kd.R_nil _ _ _ _ _ | exact Kd.N_nil _ _ _ _ _ | exact Kd.V_nil _ _ _ _ _ | exact Kd.Q_nil _ _ _ _ _ | exact Kd.S_nil _ _ _ _ _⟩, ⟨TK BK215.out⟩, ⟨TB1 GE215.out⟩⟩
   case round => as_aux_lemma =>
    clear H'
    try clear c1
    try clear c2
    try clear p2
    try clear q2
    try clear hx2
    try clear c4
    try clear c5
    try clear c6
    try clear p6
    try clear c7
    try clear c7b0
    try clear c8
    try clear c8b0
    try clear c12
    try clear c12b0
    try clear c12b1
    try clear hcz13_0 hcz13_1 hcz13_2 hfz13_0 hfz13_1 hfz13_2
    try clear hx217_0
    try clear hx217_1
    try clear hx217_2
    try clear hx217_3
    try clear p2
    try clear p217
    try clear p6
    try clear q2
    try clear q217
    obtain ⟨x9_2, x10_2, rfl, HA, HK2, HO_9, BK215, HB⟩ := hrel
    cases gk with
    | zero => exact absurd HA.out (by simp [rA.l1])
    | succ k2 =>
     have H := HA.out
     clear HA
     simp only [rA.l1] at H
     by_cases c15 : x10_2 < (l0_2.length : Int)
     rotate_left
     ·rw [if_neg c15] at H
      have c15b0 : decide (x10_2 < (l0_2.length : Int)) = false := decide_eq_false c15
      clear c15
      simp only [Option.some.injEq, Prod.mk.injEq] at H
      obtain ⟨rfl, rfl⟩ := H
      have hcz28_0 := cz BK215.out 0
      have hcz28_1 := cz BK215.out 1
      have hcz28_2 := cz BK215.out 2
      have hfz28_0 := fz BK215.out 0
      have hfz28_1 := fz BK215.out 1
      have hfz28_2 := fz BK215.out 2
      go_wp2
      go_ret2
      exact ⟨_, TR, by (with_reducible repeat (first | apply Kd.R_alloc | apply Kd.R_drewN | apply Kd.R_drew)); exact HO_9.out, TB1 GE215.out⟩
     rw [if_pos c15] at H
     have c15b0 : decide (x10_2 < (l0_2.length : Int)) = true := decide_eq_true c15
     clear c15
     have H' := aS H
     clear H
     have hcz16_0 := cz BK215.out 0
     have hcz16_1 := cz BK215.out 1
     have hcz16_2 := cz BK215.out 2
     have hfz16_0 := fz BK215.out 0
     have hfz16_1 := fz BK215.out 1
     have hfz16_2 := fz BK215.out 2
     go_wp2
     go_loopg [11, 12] k2 (fun kq v11 v12 w' => ∃ (x11_3 : Bool) (x12_3 : Int), v11 = .bool x11_3 ∧ v12 = .int .i64 x12_3 ∧ Aside0 (rA.l2 kq l1 x9_2 x10_2 x11_3 x12_3 a0_0 l0_1 l0_2 = some (r1, r2)) ∧ Aside0 (kq ≤ k2) ∧ Aside0 (Kd.R (Kd.int .i64) 3 w' w.heap.size (fun _ => True) u9 x9_2) ∧ Aside0 (w'.heap[gb215]? = some (.cells #[.int .i64 a0_0, (.slice A0_1 l0_1.length c0_1), (.slice A0_2 l0_2.length c0_2)] 27 (0, 0))) ∧ Aside0 (Below w.heap.size w w'))
     case atStart => exact ⟨(true), (0), TT, TT, H', ⟨Nat.le_refl _⟩, ⟨TRo HO_9.out⟩, ⟨TK BK215.out⟩, ⟨TB1 GE215.out⟩⟩
     case round => as_aux_lemma =>
      clear H'
      try clear c1
      try clear c2
      try clear p2
      try clear q2
      try clear hx2
      try clear c4
      try clear c5
      try clear c6
      try clear p6
      try clear c7
      try clear c7b0
      try clear c8
      try clear c8b0
      try clear c12
      try clear c12b0
      try clear c12b1
      try clear c15
      try clear c15b0
      try clear hcz13_0 hcz13_1 hcz13_2
      try clear hcz16_0 hcz16_1 hcz16_2
      try clear hfz13_0 hfz13_1 hfz13_2
      try clear hfz16_0 hfz16_1 hfz16_2
      try clear hx217_0
      try clear hx217_1
      try clear hx217_2
      try clear hx217_3
      try clear p2
      try clear p217
      try clear p6
      try clear q2
      try clear q217
      obtain ⟨x11_3, x12_3, rfl, rfl, HA, HK3, HO_9, BK215, HB⟩ := hrel
      cases gk with
      | zero => exact absurd HA.out (by simp [rA.l2])
      | succ k3 =>
       have H := HA.out
       clear HA
       simp only [rA.l2] at H
       by_cases c17 : x12_3 < (l1.length : Int)
       rotate_left
       ·rw [if_neg c17] at H
        have c17b0 : decide (x12_3 < (l1.length : Int)) = false := decide_eq_false c17
        clear c17
        by_cases c25 : x11_3 = true
        rotate_left
        ·replace c25 := Bool.eq_false_iff.mpr c25
         subst c25
         have H1 : (rA.l1 k3 l1 x9_2 (wrap64 (x10_2 + 1)) a0_0 l0_1 l0_2) = some (r1, r2) := by rw [if_neg (show ¬ (false = true) by decide)] at H; exact H
         clear H
         have H := H1
         clear H1
         have H' := aS H
         clear H
         go_wp2
         go_roundg k3
         case measure => have := HJ3.out; have := HK2.out; have := HK3.out; omega
         case rel => exact ⟨(x9_2), (wrap64 (x10_2 + 1)), TT, H', ⟨by have := HJ3.out; have := HK2.out; have := HK3.out; omega⟩, ⟨TRo HO_9.out⟩, ⟨TK BK215.out⟩, ⟨TB1 GE215.out⟩⟩
        subst c25
        have H1 : (if x9_2.length < 17592186044416 then (rA.l1 k3 l1 (x9_2 ++ [x10_2]) (wrap64 (x10_2 + 1)) a0_0 l0_1 l0_2) else (none)) = some (r1, r2) := by rw [if_pos rfl] at H; exact H
        clear H
        have H := H1
        clear H1
        by_cases c26 : x9_2.length < 17592186044416
        rotate_left
        ·rw [if_neg c26] at H
         exact absurd H (by simp)
        rw [if_pos c26] at H
        have LMc26 := aS c26
        clear c26
        obtain ⟨y225, hy225⟩ : ∃ y_ : List Int, y_ = (x9_2 ++ [x10_2]) := ⟨_, rfl⟩
        replace H : (rA.l1 k3 l1 y225 (wrap64 (x10_2 + 1)) a0_0 l0_1 l0_2) = some (r1, r2) := by first | (rw [hy225]; with_reducible exact H) | (have H2_ := (Option.bind_some _ _).symm.trans H; rw [hy225]; with_reducible exact H2_) | (have H2_ := (Option.bind_some _ _).symm.trans H; with_reducible exact H2_) | with_reducible exact H | (rw [hy225]; exact H) | exact H
        have Ny225 := aS hy225
        clear hy225
        have H' := aS H
        clear H
        go_wp2_with (first | ((with_reducible refine gate_builtin (b := .append) (xs := #[.tmp 67, .tmp 69]) rfl ?_); (try (refine gate_guard (by rfl) ?_; dsimp only)); at_builtin; refine Kd.R_append (Kd.int .i64) (w0 := w) w.heap.size rfl (.tmp 67) (.tmp 69) 28 3 (.int .i64 0) 8 rfl Tryd.underlying28 info3 rfl (by decide) (by omega) u9 x9_2 x10_2 [.int .i64 x10_2] (fun _ => True) (fun _ => False) rfl rfl ?aP (fun _ hk => hk.elim) ?aF ?aO ?aB ?aS ?aL ?_; (case aP => exact rfl); (case aB => exact (TB1 GE215.out)); (case aF => exact (fun _ _ => trivial)); (case aO => exact (TRo HO_9.out)); (case aS => exact (below_size (TB1 GE215.out))); (case aL => have := LMc26.out; omega); intro v226 w27 ho hb hg hat; rw [← Ny225.out] at ho; have HO227 := aS (ho); replace BK215 := aS (blk_grown (g := gb215) (o := .cells #[.int .i64 a0_0, .slice A0_1 l0_1.length c0_1, .slice A0_2 l0_2.length c0_2] 27 (0, 0)) (TK BK215.out) hg (Kd.R_ne HO_9.out BK215.out (by decide))); replace HB := aS (hb); clear HO_9; clear ho hb hg hat))
        go_roundg k3
        case measure => have := HJ3.out; have := HK2.out; have := HK3.out; omega
        case rel => exact ⟨(y225), (wrap64 (x10_2 + 1)), TT, H', ⟨by have := HJ3.out; have := HK2.out; have := HK3.out; omega⟩, ⟨TRo HO227.out⟩, ⟨TK BK215.out⟩, ⟨TB1 GE215.out⟩⟩
       rw [if_pos c17] at H
       have c17b0 : decide (x12_3 < (l1.length : Int)) = true := decide_eq_true c17
       clear c17
       by_cases c18 : x11_3 = true
       rotate_left
       ·replace c18 := Bool.eq_false_iff.mpr c18
        subst c18
        have H1 : (rA.l2 k3 l1 x9_2 x10_2 false (wrap64 (x12_3 + 1)) a0_0 l0_1 l0_2) = some (r1, r2) := by rw [if_neg (show ¬ (false = true) by decide)] at H; exact H
        clear H
        have H := H1
        clear H1
        have H' := aS H
        clear H
        try go_wp2
        have n0_ := aS (Kd.R_drew HO_9.out)
        have n1_ := aS (blk_drew BK215.out)
        have n2_ := aS (below_drew1 HB.out)
        clear HO_9
        clear BK215
        clear HB
        have HO_9 := n0_
        have BK215 := n1_
        have HB := n2_
        clear n0_ n1_ n2_
        refine start_ (n := 18) (S := fun w' => True) (ds := []) (.replicate 18 false) (by kernel_rfl) rfl rfl trivial (fun hHeld => ?_); refine with_tabW rA.tab17 rA.bits17 (fun HT_ HW_ => ?_)
        generalize wr.drew = w24 at HO_9 BK215 HB hHeld ⊢
        refine pT 0 49 (bt 18 1) (k := ?_)
        refine pT 1 50 (bt 18 3) (k := ?_)
        refine pU 2 51 (bt 18 7) (k := ?_)
        refine pU 3 52 (bt 18 15) (k := ?_)
        refine pU 4 53 (bt 18 31) (k := ?_)
        refine pU 5 54 (bt 18 63) (k := ?_)
        refine pU 6 55 (bt 18 127) (k := ?_)
        refine pU 7 56 (bt 18 255) (k := ?_)
        refine pU 8 57 (bt 18 511) (k := ?_)
        refine pU 9 58 (bt 18 1023) (k := ?_)
        refine pU 10 59 (bt 18 2047) (k := ?_)
        refine pU 11 60 (bt 18 4095) (k := ?_)
        refine pU 12 61 (bt 18 8191) (k := ?_)
        refine pU 13 62 (bt 18 16383) (k := ?_)
        refine pU 14 63 (bt 18 32767) (k := ?_)
        refine pU 15 64 (bt 18 65535) (k := ?_)
        refine pT 16 65 (bt 18 131071) (k := ?_)
        refine pT 17 11 (bt 18 262143) (k := ?_)
        refine done_ (done_of HT_.out (by kernel_rfl)) ?_
        try go_wp2
        go_roundg k3
        case measure => have := HJ3.out; have := HK2.out; have := HK3.out; omega
        case rel => exact ⟨(false), (wrap64 (x12_3 + 1)), TT, TT, H', ⟨by have := HJ3.out; have := HK2.out; have := HK3.out; omega⟩, ⟨TRo HO_9.out⟩, ⟨TK BK215.out⟩, ⟨TB1 GE215.out⟩⟩
       subst c18
       have H1 : (if 0 ≤ x12_3 then ((rB.f k3 a0_0 l0_1 l0_2 x10_2 ((rd_T30 l1 x12_3).f0) ((rd_T30 l1 x12_3).f1) ((rd_T30 l1 x12_3).f2) ((rd_T30 l1 x12_3).f3) ((rd_T30 l1 x12_3).f2)).bind fun t222 => (rA.l2 k3 l1 x9_2 x10_2 (decide ((t222.length : Int) > 0)) (wrap64 (x12_3 + 1)) a0_0 l0_1 l0_2)) else (none)) = some (r1, r2) := by rw [if_pos rfl] at H; exact H
       clear H
       have H := H1
       clear H1
       by_cases c19 : 0 ≤ x12_3
       rotate_left
       ·rw [if_neg c19] at H
        exact absurd H (by simp)
       rw [if_pos c19] at H
       have c19b0 : decide (0 ≤ x12_3) = true := decide_eq_true c19
       clear c19
       replace H := Option.bind_eq_some_iff.mp H
       obtain ⟨t222, A200, H⟩ := H
       replace H : (rA.l2 k3 l1 x9_2 x10_2 (decide ((t222.length : Int) > 0)) (wrap64 (x12_3 + 1)) a0_0 l0_1 l0_2) = some (r1, r2) := H
       have A20 := aS A200
       clear A200
       have H' := aS H
       clear H
       try go_wp2
       have n0_ := aS (Kd.R_drew HO_9.out)
       have n1_ := aS (blk_drew BK215.out)
       have n2_ := aS (below_drew1 HB.out)
       clear HO_9
       clear BK215
       clear HB
       have HO_9 := n0_
       have BK215 := n1_
       have HB := n2_
       clear n0_ n1_ n2_
       have p220 : 0 ≤ (x12_3 : Int) := of_decide_eq_true TA
       have q220 : x12_3 < (l1.length : Int) := of_decide_eq_true TA
       obtain ⟨ad220, A220_0, c220_0, A220_1, c220_1, e220, hx220_0, hx220_1, hx220_2, hx220_3, hl220_0, hi220_0, hl220_1, hi220_1⟩ := at_T30 HR1.out x12_3 p220 q220
       have hw220_3 := hx220_3
       have hw220_2 := hx220_2
       have hw220_1 := hx220_1
       have hw220_0 := hx220_0
       cases e220
       replace hx220_0 := hx HB.out hx220_0
       replace hx220_1 := hx HB.out hx220_1
       replace hx220_2 := hx HB.out hx220_2
       replace hx220_3 := hx HB.out hx220_3
       have HR220_0 := aS hi220_0
       have HC220_0 := aS hl220_0
       clear hi220_0 hl220_0
       have HR220_1 := aS hi220_1
       have HC220_1 := aS hl220_1
       clear hi220_1 hl220_1
       replace p220 := eq_true p220
       replace q220 := eq_true q220
       have p221 : 0 ≤ (x12_3 : Int) := of_decide_eq_true TA
       have q221 : x12_3 < (l1.length : Int) := of_decide_eq_true TA
       obtain ⟨ad221, A221_0, c221_0, A221_1, c221_1, e221, hx221_0, hx221_1, hx221_2, hx221_3, hl221_0, hi221_0, hl221_1, hi221_1⟩ := at_T30 HR1.out x12_3 p221 q221
       have hw221_3 := hx221_3
       have hw221_2 := hx221_2
       have hw221_1 := hx221_1
       have hw221_0 := hx221_0
       obtain rfl : ad220 = ad221 := (by injection e221)
       replace hx221_0 := hx HB.out hx221_0
       replace hx221_1 := hx HB.out hx221_1
       replace hx221_2 := hx HB.out hx221_2
       replace hx221_3 := hx HB.out hx221_3
       have HR221_0 := aS hi221_0
       have HC221_0 := aS hl221_0
       clear hi221_0 hl221_0
       have HR221_1 := aS hi221_1
       have HC221_1 := aS hl221_1
       clear hi221_1 hl221_1
       replace p221 := eq_true p221
       replace q221 := eq_true q221
       have ea_ := Option.some.inj (hx220_0.symm.trans hx221_0)
       injection ea_ with ea_ en_ ec_
       subst ea_
       subst ec_
       clear en_
       have ea_ := Option.some.inj (hx220_1.symm.trans hx221_1)
       injection ea_ with ea_ en_ ec_
       subst ea_
       subst ec_
       clear en_
       refine start_ (n := 18) (S := fun w' => w'.cell? ⟨gb215, 0, none⟩ = some (.int .i64 a0_0) ∧ w'.cell? ⟨gb215, 1, none⟩ = some (.slice A0_1 l0_1.length c0_1) ∧ w'.cell? ⟨gb215, 2, none⟩ = some (.slice A0_2 l0_2.length c0_2) ∧ w'.cell? (ad220.add ((x12_3).toNat * 4)) = some (.slice A220_0 ((rd_T30 l1 x12_3).f0).length c220_0) ∧ w'.cell? ⟨(ad220.add ((x12_3).toNat * 4)).block, (ad220.add ((x12_3).toNat * 4)).off + 1, none⟩ = some (.slice A220_1 ((rd_T30 l1 x12_3).f1).length c220_1) ∧ w'.cell? ⟨(ad220.add ((x12_3).toNat * 4)).block, (ad220.add ((x12_3).toNat * 4)).off + 2, none⟩ = some (.int .i64 ((rd_T30 l1 x12_3).f2)) ∧ w'.cell? ⟨(ad220.add ((x12_3).toNat * 4)).block, (ad220.add ((x12_3).toNat * 4)).off + 3, none⟩ = some (.int .i64 ((rd_T30 l1 x12_3).f3)) ∧ w'.cell? (ad220.add ((x12_3).toNat * 4)) = some (.slice A220_0 ((rd_T30 l1 x12_3).f0).length c220_0) ∧ w'.cell? ⟨(ad220.add ((x12_3).toNat * 4)).block, (ad220.add ((x12_3).toNat * 4)).off + 1, none⟩ = some (.slice A220_1 ((rd_T30 l1 x12_3).f1).length c220_1) ∧ w'.cell? ⟨(ad220.add ((x12_3).toNat * 4)).block, (ad220.add ((x12_3).toNat * 4)).off + 2, none⟩ = some (.int .i64 ((rd_T30 l1 x12_3).f2)) ∧ w'.cell? ⟨(ad220.add ((x12_3).toNat * 4)).block, (ad220.add ((x12_3).toNat * 4)).off + 3, none⟩ = some (.int .i64 ((rd_T30 l1 x12_3).f3))) (ds := []) (.replicate 18 false) (by kernel_rfl) rfl rfl ⟨cz BK215.out 0, cz BK215.out 1, cz BK215.out 2, (hx HB.out hw220_0), (hx HB.out hw220_1), (hx HB.out hw220_2), (hx HB.out hw220_3), (hx HB.out hw221_0), (hx HB.out hw221_1), (hx HB.out hw221_2), (hx HB.out hw221_3)⟩ (fun hHeld => ?_); refine with_tabW rA.tab17 rA.bits17 (fun HT_ HW_ => ?_)
       generalize wr.drew = w21 at HO_9 BK215 HB HR220_0 HR220_1 HR221_0 HR221_1 hx220_0 hx220_1 hx220_2 hx220_3 hx221_0 hx221_1 hx221_2 hx221_3 hHeld ⊢
       refine pT 0 49 (bt 18 1) (k := ?_)
       refine pT 1 50 (bt 18 3) (k := ?_)
       refine pT 3 52 (bt 18 11) (k := ?_)
       refine pT 4 53 (bt 18 27) (k := ?_)
       refine pT 5 54 (bt 18 59) (k := ?_)
       refine pT 6 55 (bt 18 123) (k := ?_)
       refine pT 8 57 (bt 18 379) (k := ?_)
       refine pT 9 58 (bt 18 891) (k := ?_)
       refine pT 10 59 (bt 18 1915) (k := ?_)
       refine pT 11 60 (bt 18 3963) (k := ?_)
       refine tT11 2 51 (bt 18 3967) hHeld (k := ?_)
       refine tT11 7 56 (bt 18 4095) hHeld (k := ?_)
       refine tT11 12 61 (bt 18 8191) hHeld (k := ?_)
       refine one_ (i := 13) (N := some 62) (bt 18 16383) rfl rfl (one_of HT_.out (by kernel_rfl)) (by decide) (fun K hK => ?_)
       refine goes_ Tryd.func57 (by kernel_rfl) rfl #[.agg #[.int .i64 a0_0, .slice A0_1 l0_1.length c0_1, .slice A0_2 l0_2.length c0_2], .int .i64 x10_2, .agg #[.slice A220_0 ((rd_T30 l1 x12_3).f0).length c220_0, .slice A220_1 ((rd_T30 l1 x12_3).f1).length c220_1, .int .i64 ((rd_T30 l1 x12_3).f2), .int .i64 ((rd_T30 l1 x12_3).f3)], .int .i64 ((rd_T30 l1 x12_3).f2)] (by rfl) rfl rfl TM ?_
       with_reducible refine (rB.calls k3 a0_0 _ _ l0_1 _ _ l0_2 x10_2 _ _ ((rd_T30 l1 x12_3).f0) _ _ ((rd_T30 l1 x12_3).f1) ((rd_T30 l1 x12_3).f2) ((rd_T30 l1 x12_3).f3) ((rd_T30 l1 x12_3).f2) t222 _ ?side1 ?side2 ?side3 ?side4 ?side5 ?side6 ?side7 ?side8 A20.out).mono ?_
       (case side1 => exact TC HR0_1.out)
       (case side2 => exact HC0_1.out)
       (case side3 => exact TC HR0_2.out)
       (case side4 => exact HC0_2.out)
       (case side5 => exact TC HR220_0.out)
       (case side6 => exact HC220_0.out)
       (case side7 => exact TC HR220_1.out)
       (case side8 => exact HC220_1.out)
       rintro e w22 ⟨v223, rfl, ho0, hb⟩
       refine ⟨_, rfl, ?_⟩
       have n0_ := aS (Kd.R_elder' (TRo HO_9.out) (Kd.R_base ho0) hb)
       have n1_ := aS (Kd.R_lower (Kd.R_new' ho0 (Kd.R_lt (TRo HO_9.out))) (below_size (TB1 GE215.out)))
       have n2_ := aS (TKb hb BK215.out)
       have n3_ := aS (below_step (TB1 GE215.out) hb)
       clear HO_9
       clear BK215
       clear HB
       have HO_9 := n0_
       have HO224 := n1_
       have BK215 := n2_
       have HB := n3_
       clear n0_ n1_ n2_ n3_
       (try clear hb)
       (try clear hb2)
       (try clear hk)
       (try clear hi)
       (try clear ho0)
       obtain ⟨Ao23, co23, eo23⟩ := Kd.R_slice HO224.out
       (first | subst eo23 | (injection eo23 with f1_ f2_ f3_; have f4_ := f1_.symm; have f5_ := f3_.symm; clear f1_ f2_ f3_; subst f4_; subst f5_))
       refine hK.out _ _ ⟨cz BK215.out 0, cz BK215.out 1, cz BK215.out 2, (hx HB.out hw220_0), (hx HB.out hw220_1), (hx HB.out hw220_2), (hx HB.out hw220_3), (hx HB.out hw221_0), (hx HB.out hw221_1), (hx HB.out hw221_2), (hx HB.out hw221_3)⟩ (fun hHeld => ?_)
       clear hK K
       refine norm_ (a' := ?_) ?_ ?_
       rotate_left
       ·show Act.put _ (some 62) _ = _
        simp only [Act.put, lA, lZ, lS, i64_w, i32_w]
        rfl
       refine pT 14 63 (bt 18 32767) (k := ?_)
       refine pT 15 64 (bt 18 65535) (k := ?_)
       refine pT 16 65 (bt 18 131071) (k := ?_)
       refine pT 17 11 (bt 18 262143) (k := ?_)
       refine done_ (done_of HT_.out (by kernel_rfl)) ?_
       try go_wp2
       go_roundg k3
       case measure => have := HJ3.out; have := HK2.out; have := HK3.out; omega
       case rel => exact ⟨(decide ((t222.length : Int) > 0)), (wrap64 (x12_3 + 1)), TT, TT, H', ⟨by have := HJ3.out; have := HK2.out; have := HK3.out; omega⟩, ⟨by (with_reducible repeat (first | apply Kd.R_alloc | apply Kd.R_drewN | apply Kd.R_drew)); exact Kd.R_mono HO_9.out (fun _ hk => trivial)⟩, ⟨TK BK215.out⟩, ⟨TB1 GE215.out⟩⟩
end Go.Proofs.YtfdenclnneigfaaDoor.PRaspKeys
