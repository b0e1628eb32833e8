import Derived.Test.YtfdenclnneigfaaDoorM0
import Derived.Test.YtfdenclnneigfaaDoorVRepsOne
import Derived.Test.YtfdenclnneigfaaDoorVEqStruct
import Derived.Test.YtfdenclnneigfaaDoorVGuard
import Derived.Test.YtfdenclnneigfaaDoorProg
import Derived.Below
import Derived.Deep.Draws
import Derived.Deep.AppendLies
import Derived.Maps.AppendAt
import Derived.OwnWalk
import Derived.Laws.BytesArg
import Derived.Laws.MakeOwn
import Derived.Laws.OwnMore
import Derived.Deep.OwnRows
import Derived.Tactics
import Derived.Lib.ConvBytes
import Derived.Laws.Slices
import Derived.WalkKit
import Derived.KernelRfl
import Derived.RowKit3
import Derived.Deep.LoopGhost
import Derived.Deep.QuietTactic
import Derived.BigQuiet
import Derived.WideLaws
import Derived.Deep.DeepCutAuto
import Derived.Deep.CutBlock
import Derived.Deep.RegionHeld3
import Derived.Laws.Rows
import Derived.Lib.AppendStr
import Derived.ArgAppend
import Derived.Laws.IdiomCopy
import Derived.OrdersHeld
import Derived.Laws.BitsLemmas
import Derived.RowKit
set_option linter.unusedVariables false
set_option linter.unusedSimpArgs false
namespace Go.Proofs.YtfdenclnneigfaaDoor.PRaspKeys
open Go.RowKit Go.Proofs.YtfdenclnneigfaaDoorW.PrintWords Go.Proofs.YtfdenclnneigfaaDoorW.PrintLast Go.Proofs.YtfdenclnneigfaaDoorW.PrintMore Go.Proofs.YtfdenclnneigfaaDoor.M
attribute [local go_sem] max2_int min2_int max_two min_two max_three min_three max_four min_four   -- for this text's walks alone
def errW : Option Int → Value
 | none => .nilIface
 | some c => .iface 0 (.int .i64 c)
theorem errW_none : errW none = .nilIface := rfl
theorem errW_some (c : Int) : errW (some c) = .iface 0 (.int .i64 c) := rfl
theorem info3 : (Tryd.prog.info? 3).map (fun i => (i.zero, i.size, i.bytes)) = some (some (.int .i64 0), 1, 8) := by kernel_rfl
theorem info28 : (Tryd.prog.info? 28).map (fun i => (i.zero, i.size, i.bytes)) = some (some (.slice none 0 0), 1, 24) := by kernel_rfl
theorem info62 : (Tryd.prog.info? 62).map (fun i => (i.zero, i.size, i.bytes)) = some (some (.agg #[(.int .i64 0), (.slice none 0 0)]), 2, 32) := by kernel_rfl
theorem info114 : (Tryd.prog.info? 114).map (fun i => (i.zero, i.size, i.bytes)) = some (some (.agg #[(.int .i64 0), (.slice none 0 0)]), 2, 32) := by kernel_rfl
def rd_L1 (xs : List (List Int)) (i : Int) : (List Int) := xs.getD i.toNat ([] : List Int)
theorem at_L1 {w : World} {A : Option Addr} {n : Nat} {xs : List (List Int)} (h : Kd.C (Kd.slice 3 (Kd.int .i64)) w A n xs) (i : Int) (h0 : 0 ≤ i) (h1 : i < n) : ∃ ad A0 c0, A = some ad ∧ w.cell? (ad.add i.toNat) = some (.slice A0 (rd_L1 xs i).length c0) ∧ (rd_L1 xs i).length ≤ c0 ∧ (Kd.int .i64).C w A0 (rd_L1 xs i).length (rd_L1 xs i) := by
 obtain ⟨ad, c, e, _, hK, hc0⟩ := Kd.C_get h ([] : List Int) i h0 h1
 have hc : ∀ j u, c[j]? = some u → w.cell? (ad.add (i.toNat * 1 + j)) = some u := hc0
 obtain ⟨A0, c0, rfl, l0, g0⟩ := hK
 exact ⟨ad, A0, c0, e, by have hq := hc 0 _ rfl; rwa [Nat.mul_one, Nat.add_zero] at hq, l0, g0⟩
def rd_L2 (xs : List (List (List Int))) (i : Int) : (List (List Int)) := xs.getD i.toNat ([] : List (List Int))
theorem at_L2 {w : World} {A : Option Addr} {n : Nat} {xs : List (List (List Int))} (h : Kd.C (Kd.slice 28 (Kd.slice 3 (Kd.int .i64))) w A n xs) (i : Int) (h0 : 0 ≤ i) (h1 : i < n) : ∃ ad A0 c0, A = some ad ∧ w.cell? (ad.add i.toNat) = some (.slice A0 (rd_L2 xs i).length c0) ∧ (rd_L2 xs i).length ≤ c0 ∧ (Kd.slice 3 (Kd.int .i64)).C w A0 (rd_L2 xs i).length (rd_L2 xs i) := by
 obtain ⟨ad, c, e, _, hK, hc0⟩ := Kd.C_get h ([] : List (List Int)) i h0 h1
 have hc : ∀ j u, c[j]? = some u → w.cell? (ad.add (i.toNat * 1 + j)) = some u := hc0
 obtain ⟨A0, c0, rfl, l0, g0⟩ := hK
 exact ⟨ad, A0, c0, e, by have hq := hc 0 _ rfl; rwa [Nat.mul_one, Nat.add_zero] at hq, l0, g0⟩
/-! #### struct type 114 -/
structure S114 where
 f0 : Int
 f1 : (List (List Int))
def z114 : S114 := ⟨(0 : Int), ([] : List (List Int))⟩
def k114 : Kd S114 := Kd.iso (Kd.pair (Kd.int .i64) (Kd.slice 28 (Kd.slice 3 (Kd.int .i64)))) (fun x : S114 => (x.f0, x.f1))
theorem k114_open {w : World} {x : S114} {cs : List Value} (h : k114.K w x cs) : ∃ A1 c1, cs = [.int .i64 x.f0, .slice A1 x.f1.length c1] ∧ x.f1.length ≤ c1 ∧ (Kd.slice 3 (Kd.int .i64)).C w A1 x.f1.length x.f1 := by
 obtain ⟨_, _, rfl, rfl, ⟨A1, c1, rfl, l1, g1⟩⟩ := h
 exact ⟨A1, c1, rfl, l1, g1⟩
theorem k114_openM {w : World} {base : Nat} {ok : Nat → Prop} {x : S114} {cs : List Value} (h : k114.M w base ok x cs) : ∃ v1, cs = [.int .i64 x.f0, v1] ∧ (Kd.slice 3 (Kd.int .i64)).R 28 w base ok v1 x.f1 := by
 obtain ⟨_, _, rfl, rfl, ⟨v1, rfl, g1⟩⟩ := h
 exact ⟨v1, rfl, g1⟩
theorem k114_mk (w : World) (x : S114) {A1 : Option Addr} {c1 : Nat} (l1 : x.f1.length ≤ c1) (g1 : (Kd.slice 3 (Kd.int .i64)).C w A1 x.f1.length x.f1) : k114.K w x [.int .i64 x.f0, .slice A1 x.f1.length c1] := ⟨[.int .i64 x.f0], [.slice A1 x.f1.length c1], rfl, rfl, ⟨A1, c1, rfl, l1, g1⟩⟩
theorem k114_mkM (w : World) (base : Nat) (ok : Nat → Prop) (x : S114) {v1 : Value} (g1 : (Kd.slice 3 (Kd.int .i64)).R 28 w base ok v1 x.f1) : k114.M w base ok x [.int .i64 x.f0, v1] := ⟨[.int .i64 x.f0], [v1], rfl, rfl, ⟨v1, rfl, g1⟩⟩
theorem k114_openF {W : World} {ok : Nat → Prop} {x : S114} {cs : List Value} (h : Kd.FK k114 W ok x cs) : ∃ A1 c1, cs = [.int .i64 x.f0, .slice A1 x.f1.length c1] ∧ x.f1.length ≤ c1 ∧ Kd.F (Kd.slice 3 (Kd.int .i64)) W ok A1 x.f1.length x.f1 := by
 obtain ⟨A1, c1, rfl, l1, _⟩ := k114_open (Kd.FK_now h)
 exact ⟨A1, c1, rfl, l1, (fun W' hW => by obtain ⟨A1_, c1_, he, l1_, g1_⟩ := k114_open (h W' hW); injection (Option.some.inj (show some (Value.slice A1 x.f1.length c1) = some (Value.slice A1_ x.f1.length c1_) from congrArg (fun l => l[1]?) he)) with ha_ _ _; rw [ha_]; exact g1_)⟩
theorem k114_mkF (W : World) (ok : Nat → Prop) (x : S114) {A1 : Option Addr} {c1 : Nat} (l1 : x.f1.length ≤ c1) (g1 : Kd.F (Kd.slice 3 (Kd.int .i64)) W ok A1 x.f1.length x.f1) : Kd.FK k114 W ok x [.int .i64 x.f0, .slice A1 x.f1.length c1] := fun W2 hW => k114_mk W2 x l1 (g1 W2 hW)
def rd_T114 (xs : List S114) (i : Int) : S114 := xs.getD i.toNat z114
theorem at_T114 {w : World} {A : Option Addr} {n : Nat} {xs : List S114} (h : Kd.C k114 w A n xs) (i : Int) (h0 : 0 ≤ i) (h1 : i < n) : ∃ ad A1 c1, A = some ad ∧ w.cell? (ad.add (i.toNat * 2)) = some (.int .i64 (rd_T114 xs i).f0) ∧ w.cell? ⟨(ad.add (i.toNat * 2)).block, (ad.add (i.toNat * 2)).off + 1, none⟩ = some (.slice A1 (rd_T114 xs i).f1.length c1) ∧ (rd_T114 xs i).f1.length ≤ c1 ∧ (Kd.slice 3 (Kd.int .i64)).C w A1 (rd_T114 xs i).f1.length (rd_T114 xs i).f1 := by
 obtain ⟨ad, c, e, _, hK, hc0⟩ := Kd.C_get h z114 i h0 h1
 have hc : ∀ j u, c[j]? = some u → w.cell? (ad.add (i.toNat * 2 + j)) = some u := hc0
 obtain ⟨A1, c1, rfl, l1, g1⟩ := k114_open hK
 exact ⟨ad, A1, c1, e, hc 0 _ rfl, by rw [← add_field _ _ 1 (by omega)]; exact hc 1 _ rfl, l1, g1⟩
/-! #### struct type 62 -/
structure S62 where
 f0 : Int
 f1 : (List Int)
def z62 : S62 := ⟨(0 : Int), ([] : List Int)⟩
def k62 : Kd S62 := Kd.iso (Kd.pair (Kd.int .i64) (Kd.slice 3 (Kd.int .i64))) (fun x : S62 => (x.f0, x.f1))
theorem k62_open {w : World} {x : S62} {cs : List Value} (h : k62.K w x cs) : ∃ A1 c1, cs = [.int .i64 x.f0, .slice A1 x.f1.length c1] ∧ x.f1.length ≤ c1 ∧ (Kd.int .i64).C w A1 x.f1.length x.f1 := by
 obtain ⟨_, _, rfl, rfl, ⟨A1, c1, rfl, l1, g1⟩⟩ := h
 exact ⟨A1, c1, rfl, l1, g1⟩
theorem k62_openM {w : World} {base : Nat} {ok : Nat → Prop} {x : S62} {cs : List Value} (h : k62.M w base ok x cs) : ∃ v1, cs = [.int .i64 x.f0, v1] ∧ (Kd.int .i64).R 3 w base ok v1 x.f1 := by
 obtain ⟨_, _, rfl, rfl, ⟨v1, rfl, g1⟩⟩ := h
 exact ⟨v1, rfl, g1⟩
theorem k62_mk (w : World) (x : S62) {A1 : Option Addr} {c1 : Nat} (l1 : x.f1.length ≤ c1) (g1 : (Kd.int .i64).C w A1 x.f1.length x.f1) : k62.K w x [.int .i64 x.f0, .slice A1 x.f1.length c1] := ⟨[.int .i64 x.f0], [.slice A1 x.f1.length c1], rfl, rfl, ⟨A1, c1, rfl, l1, g1⟩⟩
theorem k62_mkM (w : World) (base : Nat) (ok : Nat → Prop) (x : S62) {v1 : Value} (g1 : (Kd.int .i64).R 3 w base ok v1 x.f1) : k62.M w base ok x [.int .i64 x.f0, v1] := ⟨[.int .i64 x.f0], [v1], rfl, rfl, ⟨v1, rfl, g1⟩⟩
theorem k62_openF {W : World} {ok : Nat → Prop} {x : S62} {cs : List Value} (h : Kd.FK k62 W ok x cs) : ∃ A1 c1, cs = [.int .i64 x.f0, .slice A1 x.f1.length c1] ∧ x.f1.length ≤ c1 ∧ Kd.F (Kd.int .i64) W ok A1 x.f1.length x.f1 := by
 obtain ⟨A1, c1, rfl, l1, _⟩ := k62_open (Kd.FK_now h)
 exact ⟨A1, c1, rfl, l1, (fun W' hW => by obtain ⟨A1_, c1_, he, l1_, g1_⟩ := k62_open (h W' hW); injection (Option.some.inj (show some (Value.slice A1 x.f1.length c1) = some (Value.slice A1_ x.f1.length c1_) from congrArg (fun l => l[1]?) he)) with ha_ _ _; rw [ha_]; exact g1_)⟩
theorem k62_mkF (W : World) (ok : Nat → Prop) (x : S62) {A1 : Option Addr} {c1 : Nat} (l1 : x.f1.length ≤ c1) (g1 : Kd.F (Kd.int .i64) W ok A1 x.f1.length x.f1) : Kd.FK k62 W ok x [.int .i64 x.f0, .slice A1 x.f1.length c1] := fun W2 hW => k62_mk W2 x l1 (g1 W2 hW)
def rd_T62 (xs : List S62) (i : Int) : S62 := xs.getD i.toNat z62
theorem at_T62 {w : World} {A : Option Addr} {n : Nat} {xs : List S62} (h : Kd.C k62 w A n xs) (i : Int) (h0 : 0 ≤ i) (h1 : i < n) : ∃ ad A1 c1, A = some ad ∧ w.cell? (ad.add (i.toNat * 2)) = some (.int .i64 (rd_T62 xs i).f0) ∧ w.cell? ⟨(ad.add (i.toNat * 2)).block, (ad.add (i.toNat * 2)).off + 1, none⟩ = some (.slice A1 (rd_T62 xs i).f1.length c1) ∧ (rd_T62 xs i).f1.length ≤ c1 ∧ (Kd.int .i64).C w A1 (rd_T62 xs i).f1.length (rd_T62 xs i).f1 := by
 obtain ⟨ad, c, e, _, hK, hc0⟩ := Kd.C_get h z62 i h0 h1
 have hc : ∀ j u, c[j]? = some u → w.cell? (ad.add (i.toNat * 2 + j)) = some u := hc0
 obtain ⟨A1, c1, rfl, l1, g1⟩ := k62_open hK
 exact ⟨ad, A1, c1, e, hc 0 _ rfl, by rw [← add_field _ _ 1 (by omega)]; exact hc 1 _ rfl, l1, g1⟩
end Go.Proofs.YtfdenclnneigfaaDoor.PRaspKeys
namespace Go.Proofs.YtfdenclnneigfaaDoor.PRaspKeys
open Go.RowKit Go.Proofs.YtfdenclnneigfaaDoorW.PrintWords Go.Proofs.YtfdenclnneigfaaDoorW.PrintLast Go.Proofs.YtfdenclnneigfaaDoorW.PrintMore Go.Proofs.YtfdenclnneigfaaDoor.M
attribute [local go_sem] max2_int min2_int max_two min_two max_three min_three max_four min_four   -- for this text's walks alone
/-! ### cycle_lies: function 84 -/
def cycle_lies.f (a0 : Int) (a1 : Int) (a2 : Int) : Option (Bool) := if a1 ≤ a0 then (some (decide (a0 ≤ a2))) else (some false)
set_option maxHeartbeats 8000000 in
set_option maxRecDepth 100000 in
theorem cycle_lies.calls (a0 : Int) (a1 : Int) (a2 : Int) (r : Bool) (w : World) (h : cycle_lies.f a0 a1 a2 = some r) :
  Calls Tryd.prog 84 #[.int .i64 a0, .int .i64 a1, .int .i64 a2] w fun e w' => e = .returned (.bool r) ∧ Drawn0 w w' := by
 have H : (if a1 ≤ a0 then (some (decide (a0 ≤ a2))) else (some false)) = some r := h
 clear h
 by_cases c4 : a1 ≤ a0
 ·rw [if_pos c4] at H
  have c4b0 : decide (a1 ≤ a0) = true := decide_eq_true c4
  clear c4
  obtain rfl := Option.some.inj H
  go_enter Tryd.func84, Tryd.ntmps84
  go_wp2
  go_ret
  exact ⟨by first | rfl | (simp; done) | (simp [*]; done), by repeat (first | exact Drawn0.refl _ | apply Drawn0.step)⟩
 ·rw [if_neg c4] at H
  have c4b0 : decide (a1 ≤ a0) = false := decide_eq_false c4
  clear c4
  obtain rfl := Option.some.inj H
  go_enter Tryd.func84, Tryd.ntmps84
  go_wp2
  go_ret
  exact ⟨by first | rfl | (simp; done) | (simp [*]; done), by repeat (first | exact Drawn0.refl _ | apply Drawn0.step)⟩
/-! ### cycle_grows: function 85 -/
def cycle_grows.l0 : Nat → Int → Int → List Int → Int → Int → Option (Bool)
 | 0, _, _, _, _, _ => none
 | k + 1, x1, x5, x8, x9, x10 => if x10 < x9 then (if 0 ≤ x10 then (if x10 < (x8.length : Int) then ((cycle_lies.f (rd x8 x10) (wrap64 (x5 + 1)) (wrap64 (x1 - 1))).bind fun t102 => (if t102 = true then (cycle_grows.l0 k x1 (rd x8 x10) x8 x9 (wrap64 (x10 + 1))) else (some false))) else (none)) else (none)) else (some true)
def cycle_grows.f (k : Nat) (l0 : List Int) (a1 : Int) : Option (Bool) := cycle_grows.l0 k a1 (-1) l0 (l0.length : Int) 0
theorem cycle_grows.mono_l : ∀ k, (∀ y0 y1 y2 y3 y4, LeO (cycle_grows.l0 k y0 y1 y2 y3 y4) (cycle_grows.l0 (k + 1) y0 y1 y2 y3 y4))
 | 0 => fun _ _ _ _ _ r h => by simp [cycle_grows.l0] at h
 | k + 1 => by
  have ih0 := cycle_grows.mono_l k
  ·intro y0 y1 y2 y3 y4
   unfold cycle_grows.l0
   repeat' first
   | (with_reducible exact ih0 _ _ _ _ _)
   | (with_reducible exact LeO.refl _)
   | (with_reducible exact LeO.none _)
   | (with_reducible refine LeO.ite ?_ ?_)
   | (with_reducible refine LeO.bind ?_ (fun _ => ?_))
   | exact ih0 _ _ _ _ _
   | exact LeO.none _
   | refine LeO.ite ?_ ?_
   | refine LeO.bind ?_ (fun _ => ?_)
theorem cycle_grows.mono : ∀ a0 a1 k, LeO (cycle_grows.f k a0 a1) (cycle_grows.f (k + 1) a0 a1) := by
 intro a0 a1 k
 have ih0 := cycle_grows.mono_l k
 unfold cycle_grows.f
 repeat' first
   | (with_reducible exact ih0 _ _ _ _ _)
   | (with_reducible exact LeO.refl _)
   | (with_reducible exact LeO.none _)
   | (with_reducible refine LeO.ite ?_ ?_)
   | (with_reducible refine LeO.bind ?_ (fun _ => ?_))
   | exact ih0 _ _ _ _ _
   | exact LeO.none _
   | refine LeO.ite ?_ ?_
   | refine LeO.bind ?_ (fun _ => ?_)
set_option maxHeartbeats 8000000 in
set_option maxRecDepth 100000 in
theorem cycle_grows.calls (k : Nat) (A0 : Option Addr) (c0 : Nat) (l0 : List Int) (a1 : Int) (r : Bool) (w : World) (hr0 : Kd.C (Kd.int .i64) w A0 l0.length l0) (hc0 : l0.length ≤ c0) (h : cycle_grows.f k l0 a1 = some r) :
  Calls Tryd.prog 85 #[.slice A0 l0.length c0, .int .i64 a1] w fun e w' => e = .returned (.bool r) ∧ Drawn0 w w' := by
 have HR0 := Aside0.mk hr0
 have HC0 := Aside0.mk hc0
 clear hr0 hc0
 have H : (cycle_grows.l0 k a1 (-1) l0 (l0.length : Int) 0) = some r := h
 clear h
 have H' := Aside0.mk H
 clear H
 go_enter Tryd.func85, Tryd.ntmps85
 go_wp2
 go_loopg [5, 10] k (fun kq v5 v10 w' => ∃ (x5_1 : Int) (x10_1 : Int), v5 = .int .i64 x5_1 ∧ v10 = .int .i64 x10_1 ∧ Aside0 (cycle_grows.l0 kq a1 x5_1 l0 (l0.length : Int) x10_1 = some r) ∧ Aside0 (kq ≤ k) ∧ Drawn0 w w')
 case atStart => exact ⟨((-1)), (0), TT, TT, H', ⟨Nat.le_refl _⟩, by repeat (first | exact Drawn0.refl _ | apply Drawn0.step)⟩
 case round => as_aux_lemma =>
  clear H'
  try clear p2
  obtain ⟨x5_1, x10_1, rfl, rfl, HA, HK1, ⟨m1, rfl⟩⟩ := hrel
  cases gk with
  | zero => exact absurd HA.out (by simp [cycle_grows.l0])
  | succ k1 =>
   have H := HA.out
   clear HA
   simp only [cycle_grows.l0] at H
   by_cases c3 : x10_1 < (l0.length : Int)
   ·rw [if_pos c3] at H
    have c3b0 : decide (x10_1 < (l0.length : Int)) = true := decide_eq_true c3
    clear c3
    by_cases c4 : 0 ≤ x10_1
    ·rw [if_pos c4] at H
     have c4b0 : decide (0 ≤ x10_1) = true := decide_eq_true c4
     clear c4
     by_cases c5 : x10_1 < (l0.length : Int)
     ·rw [if_pos c5] at H
      have c5b0 : decide (x10_1 < (l0.length : Int)) = true := decide_eq_true c5
      clear c5
      replace H := Option.bind_eq_some_iff.mp H
      obtain ⟨t102, A60, H⟩ := H
      replace H : (if t102 = true then (cycle_grows.l0 k1 a1 (rd l0 x10_1) l0 (l0.length : Int) (wrap64 (x10_1 + 1))) else (some false)) = some r := H
      have A6 := Aside0.mk A60
      clear A60
      by_cases c7 : t102 = true
      ·subst c7
       have H1 : (cycle_grows.l0 k1 a1 (rd l0 x10_1) l0 (l0.length : Int) (wrap64 (x10_1 + 1))) = some r := by rw [if_pos rfl] at H; exact H
       clear H
       have H := H1
       clear H1
       have H' := Aside0.mk H
       clear H
       have p101 : 0 ≤ (x10_1 : Int) := of_decide_eq_true TA
       have q101 : x10_1 < (l0.length : Int) := of_decide_eq_true TA
       obtain ⟨ad101, e101, hx101_0⟩ := Kd.at_int HR0.out x10_1 p101 q101
       cases e101
       replace p101 := eq_true p101
       replace q101 := eq_true q101
       go_wp2_with (first | ((with_reducible refine gate_callee (f := 84) rfl ?_); refine goesL_ (some 19) rfl rfl Tryd.func84 (by kernel_rfl) rfl #[.int .i64 (rd l0 x10_1), .int .i64 (wrap64 (x5_1 + 1)), .int .i64 (wrap64 (a1 - 1))] rfl TM ?_; (with_reducible refine (cycle_lies.calls (rd l0 x10_1) (wrap64 (x5_1 + 1)) (wrap64 (a1 - 1)) true _ A6.out).mono ?_); rintro e w' ⟨rfl, ⟨nd, rfl⟩⟩; refine ⟨_, rfl, ?_⟩))
       go_roundg k1
       case measure => have := HK1.out; omega
       case rel => exact ⟨(rd l0 x10_1), (wrap64 (x10_1 + 1)), TT, TT, H', ⟨by have := HK1.out; omega⟩, by repeat (first | exact Drawn0.refl _ | apply Drawn0.step)⟩
      ·replace c7 := Bool.eq_false_iff.mpr c7
       subst c7
       have H1 : (some false) = some r := by rw [if_neg (show ¬ (false = true) by decide)] at H; exact H
       clear H
       have H := H1
       clear H1
       obtain rfl := Option.some.inj H
       have p101 : 0 ≤ (x10_1 : Int) := of_decide_eq_true TA
       have q101 : x10_1 < (l0.length : Int) := of_decide_eq_true TA
       obtain ⟨ad101, e101, hx101_0⟩ := Kd.at_int HR0.out x10_1 p101 q101
       cases e101
       replace p101 := eq_true p101
       replace q101 := eq_true q101
       go_wp2_with (first | ((with_reducible refine gate_callee (f := 84) rfl ?_); refine goesL_ (some 19) rfl rfl Tryd.func84 (by kernel_rfl) rfl #[.int .i64 (rd l0 x10_1), .int .i64 (wrap64 (x5_1 + 1)), .int .i64 (wrap64 (a1 - 1))] rfl TM ?_; (with_reducible refine (cycle_lies.calls (rd l0 x10_1) (wrap64 (x5_1 + 1)) (wrap64 (a1 - 1)) false _ A6.out).mono ?_); rintro e w' ⟨rfl, ⟨nd, rfl⟩⟩; refine ⟨_, rfl, ?_⟩))
       go_ret
       exact ⟨by first | rfl | (simp; done) | (simp [*]; done), by repeat (first | exact Drawn0.refl _ | apply Drawn0.step)⟩
     ·rw [if_neg c5] at H
      exact absurd H (by simp)
    ·rw [if_neg c4] at H
     exact absurd H (by simp)
   ·rw [if_neg c3] at H
    have c3b0 : decide (x10_1 < (l0.length : Int)) = false := decide_eq_false c3
    clear c3
    obtain rfl := Option.some.inj H
    go_wp2
    go_ret
    exact ⟨by first | rfl | (simp; done) | (simp [*]; done), by repeat (first | exact Drawn0.refl _ | apply Drawn0.step)⟩
/-! ### slices_Equal_int_int: function 86 -/
def slices_Equal_int_int.l0 : Nat → List Int → List Int → Int → Int → Option (Bool)
 | 0, _, _, _, _ => none
 | k + 1, x0, x1, x12, x13 => if x13 < x12 then (if 0 ≤ x13 then (if x13 < (x0.length : Int) then (if x13 < (x1.length : Int) then (if (rd x0 x13) = (rd x1 x13) then (slices_Equal_int_int.l0 k x0 x1 x12 (wrap64 (x13 + 1))) else (some false)) else (none)) else (none)) else (none)) else (some true)
def slices_Equal_int_int.f (k : Nat) (l0 : List Int) (l1 : List Int) : Option (Bool) := if (l0.length : Int) = (l1.length : Int) then (slices_Equal_int_int.l0 k l0 l1 (l0.length : Int) 0) else (some false)
theorem slices_Equal_int_int.mono_l : ∀ k, (∀ y0 y1 y2 y3, LeO (slices_Equal_int_int.l0 k y0 y1 y2 y3) (slices_Equal_int_int.l0 (k + 1) y0 y1 y2 y3))
 | 0 => fun _ _ _ _ r h => by simp [slices_Equal_int_int.l0] at h
 | k + 1 => by
  have ih0 := slices_Equal_int_int.mono_l k
  ·intro y0 y1 y2 y3
   unfold slices_Equal_int_int.l0
   repeat' first
   | (with_reducible exact ih0 _ _ _ _)
   | (with_reducible exact LeO.refl _)
   | (with_reducible exact LeO.none _)
   | (with_reducible refine LeO.ite ?_ ?_)
   | (with_reducible refine LeO.bind ?_ (fun _ => ?_))
   | exact ih0 _ _ _ _
   | exact LeO.none _
   | refine LeO.ite ?_ ?_
   | refine LeO.bind ?_ (fun _ => ?_)
theorem slices_Equal_int_int.mono : ∀ a0 a1 k, LeO (slices_Equal_int_int.f k a0 a1) (slices_Equal_int_int.f (k + 1) a0 a1) := by
 intro a0 a1 k
 have ih0 := slices_Equal_int_int.mono_l k
 unfold slices_Equal_int_int.f
 repeat' first
   | (with_reducible exact ih0 _ _ _ _)
   | (with_reducible exact LeO.refl _)
   | (with_reducible exact LeO.none _)
   | (with_reducible refine LeO.ite ?_ ?_)
   | (with_reducible refine LeO.bind ?_ (fun _ => ?_))
   | exact ih0 _ _ _ _
   | exact LeO.none _
   | refine LeO.ite ?_ ?_
   | refine LeO.bind ?_ (fun _ => ?_)
set_option maxHeartbeats 8000000 in
set_option maxRecDepth 100000 in
theorem slices_Equal_int_int.calls (k : Nat) (A0 : Option Addr) (c0 : Nat) (l0 : List Int) (A1 : Option Addr) (c1 : Nat) (l1 : List Int) (r : Bool) (w : World) (hr0 : Kd.C (Kd.int .i64) w A0 l0.length l0) (hc0 : l0.length ≤ c0) (hr1 : Kd.C (Kd.int .i64) w A1 l1.length l1) (hc1 : l1.length ≤ c1) (h : slices_Equal_int_int.f k l0 l1 = some r) :
  Calls Tryd.prog 86 #[.slice A0 l0.length c0, .slice A1 l1.length c1] w fun e w' => e = .returned (.bool r) ∧ Drawn0 w w' := by
 have HR0 := Aside0.mk hr0
 have HC0 := Aside0.mk hc0
 clear hr0 hc0
 have HR1 := Aside0.mk hr1
 have HC1 := Aside0.mk hc1
 clear hr1 hc1
 have H : (if (l0.length : Int) = (l1.length : Int) then (slices_Equal_int_int.l0 k l0 l1 (l0.length : Int) 0) else (some false)) = some r := h
 clear h
 by_cases c3 : (l0.length : Int) = (l1.length : Int)
 ·rw [if_pos c3] at H
  have c3b0 : ((l0.length : Int) == (l1.length : Int)) = true := beq_iff_eq.mpr c3
  have c3b1 : ((l0.length : Int) != (l1.length : Int)) = false := bne_eq_false_iff_eq.mpr c3
  have c3b2 : (l0.length == l1.length) = true := by first | simpa using c3 | (simp at c3 ⊢; omega)
  clear c3
  have H' := Aside0.mk H
  clear H
  go_enter Tryd.func86, Tryd.ntmps86
  go_wp2
  repeat (go_quiet (fail); try go_wp2)
  go_loopg [13] k (fun kq v13 w' => ∃ (x13_1 : Int), v13 = .int .i64 x13_1 ∧ Aside0 (slices_Equal_int_int.l0 kq l0 l1 (l0.length : Int) x13_1 = some r) ∧ Aside0 (kq ≤ k) ∧ Drawn0 w w')
  case atStart => exact ⟨(0), TT, H', ⟨Nat.le_refl _⟩, by repeat (first | exact Drawn0.refl _ | apply Drawn0.step)⟩
  case round => as_aux_lemma =>
   clear H'
   try clear c1
   try clear p2
   try clear c3
   try clear c3b0
   try clear c3b1
   try clear c3b2
   obtain ⟨x13_1, rfl, HA, HK1, ⟨m1, rfl⟩⟩ := hrel
   cases gk with
   | zero => exact absurd HA.out (by simp [slices_Equal_int_int.l0])
   | succ k1 =>
    have H := HA.out
    clear HA
    simp only [slices_Equal_int_int.l0] at H
    by_cases c4 : x13_1 < (l0.length : Int)
    ·rw [if_pos c4] at H
     have c4b0 : decide (x13_1 < (l0.length : Int)) = true := decide_eq_true c4
     clear c4
     by_cases c5 : 0 ≤ x13_1
     ·rw [if_pos c5] at H
      have c5b0 : decide (0 ≤ x13_1) = true := decide_eq_true c5
      clear c5
      by_cases c6 : x13_1 < (l0.length : Int)
      ·rw [if_pos c6] at H
       have c6b0 : decide (x13_1 < (l0.length : Int)) = true := decide_eq_true c6
       clear c6
       by_cases c7 : x13_1 < (l1.length : Int)
       ·rw [if_pos c7] at H
        have c7b0 : decide (x13_1 < (l1.length : Int)) = true := decide_eq_true c7
        clear c7
        by_cases c8 : (rd l0 x13_1) = (rd l1 x13_1)
        ·rw [if_pos c8] at H
         have c8b0 : ((rd l0 x13_1) == (rd l1 x13_1)) = true := beq_iff_eq.mpr c8
         have c8b1 : ((rd l0 x13_1) != (rd l1 x13_1)) = false := bne_eq_false_iff_eq.mpr c8
         clear c8
         have H' := Aside0.mk H
         clear H
         have p103 : 0 ≤ (x13_1 : Int) := of_decide_eq_true TA
         have q103 : x13_1 < (l0.length : Int) := of_decide_eq_true TA
         obtain ⟨ad103, e103, hx103_0⟩ := Kd.at_int HR0.out x13_1 p103 q103
         cases e103
         replace p103 := eq_true p103
         replace q103 := eq_true q103
         have p104 : 0 ≤ (x13_1 : Int) := of_decide_eq_true TA
         have q104 : x13_1 < (l1.length : Int) := of_decide_eq_true TA
         obtain ⟨ad104, e104, hx104_0⟩ := Kd.at_int HR1.out x13_1 p104 q104
         cases e104
         replace p104 := eq_true p104
         replace q104 := eq_true q104
         go_wp2
         repeat (go_quiet (fail); try go_wp2)
         go_roundg k1
         case measure => have := HK1.out; omega
         case rel => exact ⟨(wrap64 (x13_1 + 1)), TT, H', ⟨by have := HK1.out; omega⟩, by repeat (first | exact Drawn0.refl _ | apply Drawn0.step)⟩
        ·rw [if_neg c8] at H
         have c8b0 : ((rd l0 x13_1) == (rd l1 x13_1)) = false := beq_eq_false_iff_ne.mpr c8
         have c8b1 : ((rd l0 x13_1) != (rd l1 x13_1)) = true := bne_iff_ne.mpr c8
         obtain rfl := Option.some.inj H
         have p103 : 0 ≤ (x13_1 : Int) := of_decide_eq_true TA
         have q103 : x13_1 < (l0.length : Int) := of_decide_eq_true TA
         obtain ⟨ad103, e103, hx103_0⟩ := Kd.at_int HR0.out x13_1 p103 q103
         cases e103
         replace p103 := eq_true p103
         replace q103 := eq_true q103
         have p104 : 0 ≤ (x13_1 : Int) := of_decide_eq_true TA
         have q104 : x13_1 < (l1.length : Int) := of_decide_eq_true TA
         obtain ⟨ad104, e104, hx104_0⟩ := Kd.at_int HR1.out x13_1 p104 q104
         cases e104
         replace p104 := eq_true p104
         replace q104 := eq_true q104
         go_wp2
         repeat (go_quiet (fail); try go_wp2)
         go_ret
         exact ⟨by first | rfl | (simp; done) | (simp [*]; done), by repeat (first | exact Drawn0.refl _ | apply Drawn0.step)⟩
       ·rw [if_neg c7] at H
        exact absurd H (by simp)
      ·rw [if_neg c6] at H
       exact absurd H (by simp)
     ·rw [if_neg c5] at H
      exact absurd H (by simp)
    ·rw [if_neg c4] at H
     have c4b0 : decide (x13_1 < (l0.length : Int)) = false := decide_eq_false c4
     clear c4
     obtain rfl := Option.some.inj H
     go_wp2
     repeat (go_quiet (fail); try go_wp2)
     go_ret
     exact ⟨by first | rfl | (simp; done) | (simp [*]; done), by repeat (first | exact Drawn0.refl _ | apply Drawn0.step)⟩
 ·rw [if_neg c3] at H
  have c3b0 : ((l0.length : Int) == (l1.length : Int)) = false := beq_eq_false_iff_ne.mpr c3
  have c3b1 : ((l0.length : Int) != (l1.length : Int)) = true := bne_iff_ne.mpr c3
  have c3b2 : (l0.length == l1.length) = false := by first | simpa using c3 | (simp at c3 ⊢; omega)
  obtain rfl := Option.some.inj H
  go_enter Tryd.func86, Tryd.ntmps86
  go_wp2
  repeat (go_quiet (fail); try go_wp2)
  go_ret
  exact ⟨by first | rfl | (simp; done) | (simp [*]; done), by repeat (first | exact Drawn0.refl _ | apply Drawn0.step)⟩
end Go.Proofs.YtfdenclnneigfaaDoor.PRaspKeys
namespace Go.Proofs.YtfdenclnneigfaaDoor.PRaspKeys
open Go.RowKit Go.Proofs.YtfdenclnneigfaaDoorW.PrintWords Go.Proofs.YtfdenclnneigfaaDoorW.PrintLast Go.Proofs.YtfdenclnneigfaaDoorW.PrintMore Go.Proofs.YtfdenclnneigfaaDoor.M
attribute [local go_sem] max2_int min2_int max_two min_two max_three min_three max_four min_four   -- for this text's walks alone
/-! ### cycle_Check: function 58 -/
mutual
def cycle_Check.j0 : Nat → Bool → Int → List (S114) → Option (Int)
 | 0, _, _, _ => none
 | k + 1, x3, x106000, x106001 => cycle_Check.l0 k x3 x106001 (x106001.length : Int) 0 x106000 x106001
def cycle_Check.l0 : Nat → Bool → List (S114) → Int → Int → Int → List (S114) → Option (Int)
 | 0, _, _, _, _, _, _ => none
 | k + 1, x3, x18, x19, x20, x106000, x106001 => if x20 < x19 then (if 0 ≤ x20 then (if x20 < (x18.length : Int) then (if x3 = true then ((cycle_lies.f ((rd_T114 x18 x20).f0) 2 32).bind fun t110 => (if t110 = true then (cycle_Check.j2 k ((((rd_T114 x18 x20).f1).length : Int) == x106000) x18 x19 x20 x106000 x106001 ((rd_T114 x18 x20).f0) ((rd_T114 x18 x20).f1)) else (cycle_Check.j2 k false x18 x19 x20 x106000 x106001 ((rd_T114 x18 x20).f0) ((rd_T114 x18 x20).f1)))) else (cycle_Check.j2 k false x18 x19 x20 x106000 x106001 ((rd_T114 x18 x20).f0) ((rd_T114 x18 x20).f1))) else (none)) else (none)) else (if x3 = true then (some 0) else (some 50))
def cycle_Check.j2 : Nat → Bool → List (S114) → Int → Int → Int → List (S114) → Int → List (List Int) → Option (Int)
 | 0, _, _, _, _, _, _, _, _ => none
 | k + 1, x3, x18, x19, x20, x106000, x106001, x110000, x110001 => cycle_Check.l1 k x3 x18 x19 x20 x110001 (x110001.length : Int) 0 x106000 x106001 x110000 x110001
def cycle_Check.l1 : Nat → Bool → List (S114) → Int → Int → List (List Int) → Int → Int → Int → List (S114) → Int → List (List Int) → Option (Int)
 | 0, _, _, _, _, _, _, _, _, _, _, _ => none
 | k + 1, x3, x18, x19, x20, x39, x40, x41, x106000, x106001, x110000, x110001 => if x41 < x40 then (if 0 ≤ x41 then (if x41 < (x39.length : Int) then (if x3 = true then ((cycle_grows.f k (rd_L1 x39 x41) x110000).bind fun t112 => (if t112 = true then (if x41 > 0 then (cycle_Check.l1 k true x18 x19 x20 x39 x40 (wrap64 (x41 + 1)) x106000 x106001 x110000 x110001) else ((slices_Equal_int_int.f k (rd_L1 x39 x41) (([wrap64 (x110000 - 1)] : List Int))).bind fun t116 => (cycle_Check.l1 k t116 x18 x19 x20 x39 x40 (wrap64 (x41 + 1)) x106000 x106001 x110000 x110001))) else (cycle_Check.l1 k false x18 x19 x20 x39 x40 (wrap64 (x41 + 1)) x106000 x106001 x110000 x110001))) else (cycle_Check.l1 k false x18 x19 x20 x39 x40 (wrap64 (x41 + 1)) x106000 x106001 x110000 x110001)) else (none)) else (none)) else (cycle_Check.l0 k x3 x18 x19 (wrap64 (x20 + 1)) x106000 x106001)
end
def cycle_Check.f (k : Nat) (a0_0 : Int) (l0_1 : List (S114)) : Option (Int) := (cycle_lies.f a0_0 1 5).bind fun t106 => (if t106 = true then ((cycle_lies.f (l0_1.length : Int) 1 4).bind fun t107 => (cycle_Check.j0 k t107 a0_0 l0_1)) else (cycle_Check.j0 k false a0_0 l0_1))
theorem cycle_Check.mono_l : ∀ k, (∀ y0 y1 y2, LeO (cycle_Check.j0 k y0 y1 y2) (cycle_Check.j0 (k + 1) y0 y1 y2)) ∧ (∀ y0 y1 y2 y3 y4 y5, LeO (cycle_Check.l0 k y0 y1 y2 y3 y4 y5) (cycle_Check.l0 (k + 1) y0 y1 y2 y3 y4 y5)) ∧ (∀ y0 y1 y2 y3 y4 y5 y6 y7, LeO (cycle_Check.j2 k y0 y1 y2 y3 y4 y5 y6 y7) (cycle_Check.j2 (k + 1) y0 y1 y2 y3 y4 y5 y6 y7)) ∧ (∀ y0 y1 y2 y3 y4 y5 y6 y7 y8 y9 y10, LeO (cycle_Check.l1 k y0 y1 y2 y3 y4 y5 y6 y7 y8 y9 y10) (cycle_Check.l1 (k + 1) y0 y1 y2 y3 y4 y5 y6 y7 y8 y9 y10))
 | 0 => ⟨fun _ _ _ r h => by simp [cycle_Check.j0] at h, fun _ _ _ _ _ _ r h => by simp [cycle_Check.l0] at h, fun _ _ _ _ _ _ _ _ r h => by simp [cycle_Check.j2] at h, fun _ _ _ _ _ _ _ _ _ _ _ r h => by simp [cycle_Check.l1] at h⟩
 | k + 1 => by
  obtain ⟨ih0, ih1, ih2, ih3⟩ := cycle_Check.mono_l k
  refine ⟨?_, ?_, ?_, ?_⟩
  ·intro y0 y1 y2
   unfold cycle_Check.j0
   repeat' first
   | (with_reducible exact ih0 _ _ _)
   | (with_reducible exact ih1 _ _ _ _ _ _)
   | (with_reducible exact ih2 _ _ _ _ _ _ _ _)
   | (with_reducible exact ih3 _ _ _ _ _ _ _ _ _ _ _)
   | (with_reducible exact cycle_grows.mono _ _ _)
   | (with_reducible exact slices_Equal_int_int.mono _ _ _)
   | (with_reducible exact LeO.refl _)
   | (with_reducible exact LeO.none _)
   | (with_reducible refine LeO.ite ?_ ?_)
   | (with_reducible refine LeO.bind ?_ (fun _ => ?_))
   | exact ih0 _ _ _
   | exact ih1 _ _ _ _ _ _
   | exact ih2 _ _ _ _ _ _ _ _
   | exact ih3 _ _ _ _ _ _ _ _ _ _ _
   | exact cycle_grows.mono _ _ _
   | exact slices_Equal_int_int.mono _ _ _
   | exact LeO.none _
   | refine LeO.ite ?_ ?_
   | refine LeO.bind ?_ (fun _ => ?_)
  ·intro y0 y1 y2 y3 y4 y5
   unfold cycle_Check.l0
   repeat' first
   | (with_reducible exact ih0 _ _ _)
   | (with_reducible exact ih1 _ _ _ _ _ _)
   | (with_reducible exact ih2 _ _ _ _ _ _ _ _)
   | (with_reducible exact ih3 _ _ _ _ _ _ _ _ _ _ _)
   | (with_reducible exact cycle_grows.mono _ _ _)
   | (with_reducible exact slices_Equal_int_int.mono _ _ _)
   | (with_reducible exact LeO.refl _)
   | (with_reducible exact LeO.none _)
   | (with_reducible refine LeO.ite ?_ ?_)
   | (with_reducible refine LeO.bind ?_ (fun _ => ?_))
   | exact ih0 _ _ _
   | exact ih1 _ _ _ _ _ _
   | exact ih2 _ _ _ _ _ _ _ _
   | exact ih3 _ _ _ _ _ _ _ _ _ _ _
   | exact cycle_grows.mono _ _ _
   | exact slices_Equal_int_int.mono _ _ _
   | exact LeO.none _
   | refine LeO.ite ?_ ?_
   | refine LeO.bind ?_ (fun _ => ?_)
  ·intro y0 y1 y2 y3 y4 y5 y6 y7
   unfold cycle_Check.j2
   repeat' first
   | (with_reducible exact ih0 _ _ _)
   | (with_reducible exact ih1 _ _ _ _ _ _)
   | (with_reducible exact ih2 _ _ _ _ _ _ _ _)
   | (with_reducible exact ih3 _ _ _ _ _ _ _ _ _ _ _)
   | (with_reducible exact cycle_grows.mono _ _ _)
   | (with_reducible exact slices_Equal_int_int.mono _ _ _)
   | (with_reducible exact LeO.refl _)
   | (with_reducible exact LeO.none _)
   | (with_reducible refine LeO.ite ?_ ?_)
   | (with_reducible refine LeO.bind ?_ (fun _ => ?_))
   | exact ih0 _ _ _
   | exact ih1 _ _ _ _ _ _
   | exact ih2 _ _ _ _ _ _ _ _
   | exact ih3 _ _ _ _ _ _ _ _ _ _ _
   | exact cycle_grows.mono _ _ _
   | exact slices_Equal_int_int.mono _ _ _
   | exact LeO.none _
   | refine LeO.ite ?_ ?_
   | refine LeO.bind ?_ (fun _ => ?_)
  ·intro y0 y1 y2 y3 y4 y5 y6 y7 y8 y9 y10
   unfold cycle_Check.l1
   repeat' first
   | (with_reducible exact ih0 _ _ _)
   | (with_reducible exact ih1 _ _ _ _ _ _)
   | (with_reducible exact ih2 _ _ _ _ _ _ _ _)
   | (with_reducible exact ih3 _ _ _ _ _ _ _ _ _ _ _)
   | (with_reducible exact cycle_grows.mono _ _ _)
   | (with_reducible exact slices_Equal_int_int.mono _ _ _)
   | (with_reducible exact LeO.refl _)
   | (with_reducible exact LeO.none _)
   | (with_reducible refine LeO.ite ?_ ?_)
   | (with_reducible refine LeO.bind ?_ (fun _ => ?_))
   | exact ih0 _ _ _
   | exact ih1 _ _ _ _ _ _
   | exact ih2 _ _ _ _ _ _ _ _
   | exact ih3 _ _ _ _ _ _ _ _ _ _ _
   | exact cycle_grows.mono _ _ _
   | exact slices_Equal_int_int.mono _ _ _
   | exact LeO.none _
   | refine LeO.ite ?_ ?_
   | refine LeO.bind ?_ (fun _ => ?_)
theorem cycle_Check.mono : ∀ a0 a1 k, LeO (cycle_Check.f k a0 a1) (cycle_Check.f (k + 1) a0 a1) := by
 intro a0 a1 k
 obtain ⟨ih0, ih1, ih2, ih3⟩ := cycle_Check.mono_l k
 unfold cycle_Check.f
 repeat' first
   | (with_reducible exact ih0 _ _ _)
   | (with_reducible exact ih1 _ _ _ _ _ _)
   | (with_reducible exact ih2 _ _ _ _ _ _ _ _)
   | (with_reducible exact ih3 _ _ _ _ _ _ _ _ _ _ _)
   | (with_reducible exact cycle_grows.mono _ _ _)
   | (with_reducible exact slices_Equal_int_int.mono _ _ _)
   | (with_reducible exact LeO.refl _)
   | (with_reducible exact LeO.none _)
   | (with_reducible refine LeO.ite ?_ ?_)
   | (with_reducible refine LeO.bind ?_ (fun _ => ?_))
   | exact ih0 _ _ _
   | exact ih1 _ _ _ _ _ _
   | exact ih2 _ _ _ _ _ _ _ _
   | exact ih3 _ _ _ _ _ _ _ _ _ _ _
   | exact cycle_grows.mono _ _ _
   | exact slices_Equal_int_int.mono _ _ _
   | exact LeO.none _
   | refine LeO.ite ?_ ?_
   | refine LeO.bind ?_ (fun _ => ?_)
set_option maxHeartbeats 8000000 in
set_option maxRecDepth 100000 in
theorem cycle_Check.calls (k : Nat) (a0_0 : Int) (A0_1 : Option Addr) (c0_1 : Nat) (l0_1 : List (S114)) (r : Int) (w : World) (hr0_1 : Kd.C k114 w A0_1 l0_1.length l0_1) (hc0_1 : l0_1.length ≤ c0_1) (h : cycle_Check.f k a0_0 l0_1 = some r) :
  Calls Tryd.prog 58 #[.agg #[.int .i64 a0_0, .slice A0_1 l0_1.length c0_1]] w fun e w' => e = .returned (.int .i64 r) ∧ Below w.heap.size w w' := by
 have hu24 := Tryd.underlying24
 have hu114 := Tryd.underlying114
 have HR0_1 := Aside0.mk hr0_1
 have HC0_1 := Aside0.mk hc0_1
 clear hr0_1 hc0_1
 have HB := Aside0.mk (Below.refl w.heap.size w)
 have H : ((cycle_lies.f a0_0 1 5).bind fun t106 => (if t106 = true then ((cycle_lies.f (l0_1.length : Int) 1 4).bind fun t107 => (cycle_Check.j0 k t107 a0_0 l0_1)) else (cycle_Check.j0 k false a0_0 l0_1))) = some r := h
 clear h
 have HC2 := Aside0.mk H
 clear H
 go_enter Tryd.func58, Tryd.ntmps58
 go_upto_region 1 with (first | ((with_reducible refine gate_dst (N := 1) rfl ?_); (try (refine gate_guard (by rfl) ?_; dsimp only)); refine box_event ?hg (N := 1) ?hd (cs := #[.int .i64 a0_0, .slice A0_1 l0_1.length c0_1]) (t := 24) ?hr ?_; (case hd => rfl); (case hg => rfl); (case hr => exact TS); intro gb105 hg w3 hbox hb; have BK105 := Aside0.mk (hbox); have GW105 := Aside0.mk ((TG : w.heap.size ≤ gb105)); have GE105 := Aside0.mk ((TG : w.heap.size ≤ gb105)); replace HB := Aside0.mk (below_step TB hb); clear hb hbox hg))
 (try simp only [Act.put, lA, lZ, lS])
 go_cut [3] (fun v3 wc => ∃ (kq : Nat) (x3_1 : Bool), v3 = .bool x3_1 ∧ Aside0 (cycle_Check.j0 kq x3_1 a0_0 l0_1 = some r) ∧ Aside0 (kq ≤ k) ∧ Aside0 (wc.heap[gb105]? = some (.cells #[.int .i64 a0_0, (.slice A0_1 l0_1.length c0_1)] 24 (0, 0))) ∧ Aside0 (Below w.heap.size w wc))
 case first => as_aux_lemma =>
  have H := HC2.out
  clear HC2
  replace H := Option.bind_eq_some_iff.mp H
  obtain ⟨t106, A40, H⟩ := H
  replace H : (if t106 = true then ((cycle_lies.f (l0_1.length : Int) 1 4).bind fun t107 => (cycle_Check.j0 k t107 a0_0 l0_1)) else (cycle_Check.j0 k false a0_0 l0_1)) = some r := H
  have A4 := Aside0.mk A40
  clear A40
  by_cases c5 : t106 = true
  ·subst c5
   have H1 : ((cycle_lies.f (l0_1.length : Int) 1 4).bind fun t107 => (cycle_Check.j0 k t107 a0_0 l0_1)) = some r := by rw [if_pos rfl] at H; exact H
   clear H
   have H := H1
   clear H1
   replace H := Option.bind_eq_some_iff.mp H
   obtain ⟨t107, A60, H⟩ := H
   replace H : (cycle_Check.j0 k t107 a0_0 l0_1) = some r := H
   have A6 := Aside0.mk A60
   clear A60
   have H' := Aside0.mk H
   clear H
   have hcz7_0 := cz BK105.out 0
   have hcz7_1 := cz BK105.out 1
   have hfz7_0 := fz BK105.out 0
   have hfz7_1 := fz BK105.out 1
   go_wp2_with (first | ((with_reducible refine gate_callee (f := 84) rfl ?_); refine goesL_ (some 10) rfl rfl Tryd.func84 (by kernel_rfl) rfl #[.int .i64 a0_0, .int .i64 1, .int .i64 5] rfl TM ?_; (with_reducible refine (cycle_lies.calls a0_0 1 5 true _ A4.out).mono ?_); rintro e w' ⟨rfl, ⟨nd, rfl⟩⟩; refine ⟨_, rfl, ?_⟩) | (go_at_call 84; (with_reducible refine (cycle_lies.calls (l0_1.length : Int) 1 4 t107 _ A6.out).mono ?_); rintro e w' ⟨rfl, ⟨nd, rfl⟩⟩))
   go_meet
   case rel => exact ⟨_, (t107), TT, H', ⟨by first | omega | exact Nat.le_refl _⟩, ⟨TK BK105.out⟩, ⟨TB1 GE105.out⟩⟩
  ·replace c5 := Bool.eq_false_iff.mpr c5
   subst c5
   have H1 : (cycle_Check.j0 k false a0_0 l0_1) = some r := by rw [if_neg (show ¬ (false = true) by decide)] at H; exact H
   clear H
   have H := H1
   clear H1
   have H' := Aside0.mk H
   clear H
   have hcz8_0 := cz BK105.out 0
   have hcz8_1 := cz BK105.out 1
   have hfz8_0 := fz BK105.out 0
   have hfz8_1 := fz BK105.out 1
   go_wp2_with (first | ((with_reducible refine gate_callee (f := 84) rfl ?_); refine goesL_ (some 10) rfl rfl Tryd.func84 (by kernel_rfl) rfl #[.int .i64 a0_0, .int .i64 1, .int .i64 5] rfl TM ?_; (with_reducible refine (cycle_lies.calls a0_0 1 5 false _ A4.out).mono ?_); rintro e w' ⟨rfl, ⟨nd, rfl⟩⟩; refine ⟨_, rfl, ?_⟩))
   go_meet
   case rel => exact ⟨_, (false), TT, H', ⟨by first | omega | exact Nat.le_refl _⟩, ⟨TK BK105.out⟩, ⟨TB1 GE105.out⟩⟩
 case rest => as_aux_lemma =>
  clear HC2
  try clear p2
  try clear c5
  try clear c8
  try clear hcz7_0 hcz7_1
  try clear hcz8_0 hcz8_1
  try clear hfz7_0 hfz7_1
  try clear hfz8_0 hfz8_1
  obtain ⟨kq, x3_1, rfl, HA, HJ1, BK105, HB⟩ := hcut
  cases kq with
  | zero => exact absurd HA.out (by simp [cycle_Check.j0])
  | succ kj1 =>
   have H := HA.out
   clear HA
   simp only [cycle_Check.j0] at H
   have H' := Aside0.mk H
   clear H
   have hcz9_0 := cz BK105.out 0
   have hcz9_1 := cz BK105.out 1
   have hfz9_0 := fz BK105.out 0
   have hfz9_1 := fz BK105.out 1
   go_wp2
   go_loopg [3, 20] kj1 (fun kq v3 v20 w' => ∃ (x3_2 : Bool) (x20_2 : Int), v3 = .bool x3_2 ∧ v20 = .int .i64 x20_2 ∧ Aside0 (cycle_Check.l0 kq x3_2 l0_1 (l0_1.length : Int) x20_2 a0_0 l0_1 = some r) ∧ Aside0 (kq ≤ kj1) ∧ Aside0 (w'.heap[gb105]? = some (.cells #[.int .i64 a0_0, (.slice A0_1 l0_1.length c0_1)] 24 (0, 0))) ∧ Aside0 (Below w.heap.size w w'))
   case atStart => exact ⟨(x3_1), (0), TT, TT, H', ⟨Nat.le_refl _⟩, ⟨TK BK105.out⟩, ⟨TB1 GE105.out⟩⟩
   case round => as_aux_lemma =>
    clear H'
    try clear p2
    try clear c5
    try clear c8
    try clear hcz7_0 hcz7_1
    try clear hcz8_0 hcz8_1
    try clear hcz9_0 hcz9_1
    try clear hfz7_0 hfz7_1
    try clear hfz8_0 hfz8_1
    try clear hfz9_0 hfz9_1
    try clear p2
    obtain ⟨x3_2, x20_2, rfl, rfl, HA, HK2, BK105, HB⟩ := hrel
    cases gk with
    | zero => exact absurd HA.out (by simp [cycle_Check.l0])
    | succ k2 =>
     have H := HA.out
     clear HA
     simp only [cycle_Check.l0] at H
     by_cases c10 : x20_2 < (l0_1.length : Int)
     ·rw [if_pos c10] at H
      have c10b0 : decide (x20_2 < (l0_1.length : Int)) = true := decide_eq_true c10
      clear c10
      by_cases c11 : 0 ≤ x20_2
      ·rw [if_pos c11] at H
       have c11b0 : decide (0 ≤ x20_2) = true := decide_eq_true c11
       clear c11
       by_cases c12 : x20_2 < (l0_1.length : Int)
       ·rw [if_pos c12] at H
        have c12b0 : decide (x20_2 < (l0_1.length : Int)) = true := decide_eq_true c12
        clear c12
        have HC13 := Aside0.mk H
        clear H
        have p108 : 0 ≤ (x20_2 : Int) := of_decide_eq_true TA
        have q108 : x20_2 < (l0_1.length : Int) := of_decide_eq_true TA
        obtain ⟨ad108, A108_1, c108_1, e108, hx108_0, hx108_1, hl108_1, hi108_1⟩ := at_T114 HR0_1.out x20_2 p108 q108
        cases e108
        replace hx108_0 := hx HB.out hx108_0
        replace hx108_1 := hx HB.out hx108_1
        have HR108_1 := Aside0.mk hi108_1
        have HC108_1 := Aside0.mk hl108_1
        clear hi108_1 hl108_1
        replace p108 := eq_true p108
        replace q108 := eq_true q108
        go_upto_region 5 with (first | ((with_reducible refine gate_dst (N := 5) rfl ?_); (try (refine gate_guard (by rfl) ?_; dsimp only)); refine box_event ?hg (N := 5) ?hd (cs := #[.int .i64 0, .slice none 0 0]) (t := 114) ?hr ?_; (case hd => rfl); (case hg => rfl); (case hr => exact TS); intro gb109 hg w14 hbox hb; have BK109 := Aside0.mk (hbox); have GW109 := Aside0.mk ((TG1 GE105.out : w.heap.size ≤ gb109)); have GE109 := Aside0.mk ((TG1 GE105.out : w.heap.size ≤ gb109)); have NB105_109 := Aside0.mk ((by rw [hg]; exact Nat.ne_of_lt (blk_lt (g := gb105) (o := .cells #[.int .i64 a0_0, .slice (some ad108) l0_1.length c0_1] 24 (0, 0)) (TK BK105.out)) : gb105 ≠ gb109)); have NB109_105 := Aside0.mk ((by rw [hg]; exact Nat.ne_of_gt (blk_lt (g := gb105) (o := .cells #[.int .i64 a0_0, .slice (some ad108) l0_1.length c0_1] 24 (0, 0)) (TK BK105.out)) : gb109 ≠ gb105)); replace BK105 := Aside0.mk (TKb hb BK105.out); replace HB := Aside0.mk (below_step (TB1 GE105.out) hb); clear hb hbox hg; have hnb15 := NB109_105.out; have hnc15 := NB105_109.out; have hcz16_0 := cz BK109.out 0; have hcz16_1 := cz BK109.out 1; have hfz16_0 := fz BK109.out 0; have hfz16_1 := fz BK109.out 1))
        (try simp only [Act.put, lA, lZ, lS])
        go_cut [3] (fun v3 wc => ∃ (kq : Nat) (x3_12 : Bool), v3 = .bool x3_12 ∧ Aside0 (cycle_Check.j2 kq x3_12 l0_1 (l0_1.length : Int) x20_2 a0_0 l0_1 ((rd_T114 l0_1 x20_2).f0) ((rd_T114 l0_1 x20_2).f1) = some r) ∧ Aside0 (kq ≤ k2) ∧ Aside0 (wc.heap[gb105]? = some (.cells #[.int .i64 a0_0, (.slice (some ad108) l0_1.length c0_1)] 24 (0, 0))) ∧ Aside0 (wc.heap[gb109]? = some (.cells #[.int .i64 ((rd_T114 l0_1 x20_2).f0), (.slice A108_1 ((rd_T114 l0_1 x20_2).f1).length c108_1)] 114 (0, 0))) ∧ Aside0 (Below w.heap.size w wc))
        case first => as_aux_lemma =>
         have H := HC13.out
         clear HC13
         by_cases c17 : x3_2 = true
         ·subst c17
          have H1 : ((cycle_lies.f ((rd_T114 l0_1 x20_2).f0) 2 32).bind fun t110 => (if t110 = true then (cycle_Check.j2 k2 ((((rd_T114 l0_1 x20_2).f1).length : Int) == a0_0) l0_1 (l0_1.length : Int) x20_2 a0_0 l0_1 ((rd_T114 l0_1 x20_2).f0) ((rd_T114 l0_1 x20_2).f1)) else (cycle_Check.j2 k2 false l0_1 (l0_1.length : Int) x20_2 a0_0 l0_1 ((rd_T114 l0_1 x20_2).f0) ((rd_T114 l0_1 x20_2).f1)))) = some r := by rw [if_pos rfl] at H; exact H
          clear H
          have H := H1
          clear H1
          replace H := Option.bind_eq_some_iff.mp H
          obtain ⟨t110, A180, H⟩ := H
          replace H : (if t110 = true then (cycle_Check.j2 k2 ((((rd_T114 l0_1 x20_2).f1).length : Int) == a0_0) l0_1 (l0_1.length : Int) x20_2 a0_0 l0_1 ((rd_T114 l0_1 x20_2).f0) ((rd_T114 l0_1 x20_2).f1)) else (cycle_Check.j2 k2 false l0_1 (l0_1.length : Int) x20_2 a0_0 l0_1 ((rd_T114 l0_1 x20_2).f0) ((rd_T114 l0_1 x20_2).f1))) = some r := H
          have A18 := Aside0.mk A180
          clear A180
          by_cases c19 : t110 = true
          ·subst c19
           have H1 : (cycle_Check.j2 k2 ((((rd_T114 l0_1 x20_2).f1).length : Int) == a0_0) l0_1 (l0_1.length : Int) x20_2 a0_0 l0_1 ((rd_T114 l0_1 x20_2).f0) ((rd_T114 l0_1 x20_2).f1)) = some r := by rw [if_pos rfl] at H; exact H
           clear H
           have H := H1
           clear H1
           have H' := Aside0.mk H
           clear H
           have hnb20 := NB109_105.out
           have hnc20 := NB105_109.out
           have hcz21_0 := cz BK109.out 0
           have hcz21_1 := cz BK109.out 1
           have hfz21_0 := fz BK109.out 0
           have hfz21_1 := fz BK109.out 1
           go_wp2_with (first | (go_at_call 84; (with_reducible refine (cycle_lies.calls ((rd_T114 l0_1 x20_2).f0) 2 32 true _ A18.out).mono ?_); rintro e w' ⟨rfl, ⟨nd, rfl⟩⟩; have hcz22_0 := cz BK105.out 0; have hcz22_1 := cz BK105.out 1; have hfz22_0 := fz BK105.out 0; have hfz22_1 := fz BK105.out 1))
           go_meet
           case rel => exact ⟨_, (((((rd_T114 l0_1 x20_2).f1).length : Int) == a0_0)), TT, H', ⟨by have := HJ1.out; have := HK2.out; first | omega | exact Nat.le_refl _⟩, ⟨by (with_reducible repeat (first | refine blk_drewN ?_ _ | refine blk_drew ?_ | refine blk_alloc ?_ _)); refine blk_far ?_ NB105_109.out _; (with_reducible repeat (first | refine blk_drewN ?_ _ | refine blk_drew ?_ | refine blk_alloc ?_ _)); refine blk_far ?_ NB105_109.out _; (with_reducible repeat (first | refine blk_drewN ?_ _ | refine blk_drew ?_ | refine blk_alloc ?_ _)); exact BK105.out⟩, ⟨by (with_reducible repeat (first | refine blk_drewN ?_ _ | refine blk_drew ?_ | refine blk_alloc ?_ _)); refine blk_put (cs := #[.int .i64 ((rd_T114 l0_1 x20_2).f0), .slice none 0 0]) ?_ 1 _ rfl; (with_reducible repeat (first | refine blk_drewN ?_ _ | refine blk_drew ?_ | refine blk_alloc ?_ _)); refine blk_put (cs := #[.int .i64 0, .slice none 0 0]) ?_ 0 _ rfl; (with_reducible repeat (first | refine blk_drewN ?_ _ | refine blk_drew ?_ | refine blk_alloc ?_ _)); exact BK109.out⟩, ⟨TB2 GE105.out GE109.out⟩⟩
          ·replace c19 := Bool.eq_false_iff.mpr c19
           subst c19
           have H1 : (cycle_Check.j2 k2 false l0_1 (l0_1.length : Int) x20_2 a0_0 l0_1 ((rd_T114 l0_1 x20_2).f0) ((rd_T114 l0_1 x20_2).f1)) = some r := by rw [if_neg (show ¬ (false = true) by decide)] at H; exact H
           clear H
           have H := H1
           clear H1
           have H' := Aside0.mk H
           clear H
           have hnb23 := NB109_105.out
           have hnc23 := NB105_109.out
           have hcz24_0 := cz BK109.out 0
           have hcz24_1 := cz BK109.out 1
           have hfz24_0 := fz BK109.out 0
           have hfz24_1 := fz BK109.out 1
           go_wp2_with (first | (go_at_call 84; (with_reducible refine (cycle_lies.calls ((rd_T114 l0_1 x20_2).f0) 2 32 false _ A18.out).mono ?_); rintro e w' ⟨rfl, ⟨nd, rfl⟩⟩))
           go_meet
           case rel => exact ⟨_, (false), TT, H', ⟨by have := HJ1.out; have := HK2.out; first | omega | exact Nat.le_refl _⟩, ⟨by (with_reducible repeat (first | refine blk_drewN ?_ _ | refine blk_drew ?_ | refine blk_alloc ?_ _)); refine blk_far ?_ NB105_109.out _; (with_reducible repeat (first | refine blk_drewN ?_ _ | refine blk_drew ?_ | refine blk_alloc ?_ _)); refine blk_far ?_ NB105_109.out _; (with_reducible repeat (first | refine blk_drewN ?_ _ | refine blk_drew ?_ | refine blk_alloc ?_ _)); exact BK105.out⟩, ⟨by (with_reducible repeat (first | refine blk_drewN ?_ _ | refine blk_drew ?_ | refine blk_alloc ?_ _)); refine blk_put (cs := #[.int .i64 ((rd_T114 l0_1 x20_2).f0), .slice none 0 0]) ?_ 1 _ rfl; (with_reducible repeat (first | refine blk_drewN ?_ _ | refine blk_drew ?_ | refine blk_alloc ?_ _)); refine blk_put (cs := #[.int .i64 0, .slice none 0 0]) ?_ 0 _ rfl; (with_reducible repeat (first | refine blk_drewN ?_ _ | refine blk_drew ?_ | refine blk_alloc ?_ _)); exact BK109.out⟩, ⟨TB2 GE105.out GE109.out⟩⟩
         ·replace c17 := Bool.eq_false_iff.mpr c17
          subst c17
          have H1 : (cycle_Check.j2 k2 false l0_1 (l0_1.length : Int) x20_2 a0_0 l0_1 ((rd_T114 l0_1 x20_2).f0) ((rd_T114 l0_1 x20_2).f1)) = some r := by rw [if_neg (show ¬ (false = true) by decide)] at H; exact H
          clear H
          have H := H1
          clear H1
          have H' := Aside0.mk H
          clear H
          go_wp2
          go_meet
          case rel => exact ⟨_, (false), TT, H', ⟨by have := HJ1.out; have := HK2.out; first | omega | exact Nat.le_refl _⟩, ⟨by (with_reducible repeat (first | refine blk_drewN ?_ _ | refine blk_drew ?_ | refine blk_alloc ?_ _)); refine blk_far ?_ NB105_109.out _; (with_reducible repeat (first | refine blk_drewN ?_ _ | refine blk_drew ?_ | refine blk_alloc ?_ _)); refine blk_far ?_ NB105_109.out _; (with_reducible repeat (first | refine blk_drewN ?_ _ | refine blk_drew ?_ | refine blk_alloc ?_ _)); exact BK105.out⟩, ⟨by (with_reducible repeat (first | refine blk_drewN ?_ _ | refine blk_drew ?_ | refine blk_alloc ?_ _)); refine blk_put (cs := #[.int .i64 ((rd_T114 l0_1 x20_2).f0), .slice none 0 0]) ?_ 1 _ rfl; (with_reducible repeat (first | refine blk_drewN ?_ _ | refine blk_drew ?_ | refine blk_alloc ?_ _)); refine blk_put (cs := #[.int .i64 0, .slice none 0 0]) ?_ 0 _ rfl; (with_reducible repeat (first | refine blk_drewN ?_ _ | refine blk_drew ?_ | refine blk_alloc ?_ _)); exact BK109.out⟩, ⟨TB2 GE105.out GE109.out⟩⟩
        case rest => as_aux_lemma =>
         clear HC13
         try clear c1
         try clear p1
         try clear q1
         try clear hx1
         try clear c2
         try clear p2
         try clear c5
         try clear c8
         try clear c10
         try clear c10b0
         try clear p10
         try clear q10
         try clear hx10
         try clear c11
         try clear c11b0
         try clear c12
         try clear c12b0
         try clear c15
         try clear c17
         try clear c19
         try clear c20
         try clear c23
         try clear hcz16_0 hcz16_1
         try clear hcz21_0 hcz21_1
         try clear hcz22_0 hcz22_1
         try clear hcz24_0 hcz24_1
         try clear hcz7_0 hcz7_1
         try clear hcz8_0 hcz8_1
         try clear hcz9_0 hcz9_1
         try clear hfz16_0 hfz16_1
         try clear hfz21_0 hfz21_1
         try clear hfz22_0 hfz22_1
         try clear hfz24_0 hfz24_1
         try clear hfz7_0 hfz7_1
         try clear hfz8_0 hfz8_1
         try clear hfz9_0 hfz9_1
         try clear hx108_0
         try clear hx108_1
         try clear p108
         try clear p2
         try clear q108
         obtain ⟨kq, x3_12, rfl, HA, HJ12, BK105, BK109, HB⟩ := hcut
         cases kq with
         | zero => exact absurd HA.out (by simp [cycle_Check.j2])
         | succ kj12 =>
          have H := HA.out
          clear HA
          simp only [cycle_Check.j2] at H
          have H' := Aside0.mk H
          clear H
          have hnb25 := NB109_105.out
          have hnc25 := NB105_109.out
          have hcz26_0 := cz BK109.out 0
          have hcz26_1 := cz BK109.out 1
          have hfz26_0 := fz BK109.out 0
          have hfz26_1 := fz BK109.out 1
          go_wp2
          go_loopg [3, 41] kj12 (fun kq v3 v41 w' => ∃ (x3_4 : Bool) (x41_4 : Int), v3 = .bool x3_4 ∧ v41 = .int .i64 x41_4 ∧ Aside0 (cycle_Check.l1 kq x3_4 l0_1 (l0_1.length : Int) x20_2 ((rd_T114 l0_1 x20_2).f1) (((rd_T114 l0_1 x20_2).f1).length : Int) x41_4 a0_0 l0_1 ((rd_T114 l0_1 x20_2).f0) ((rd_T114 l0_1 x20_2).f1) = some r) ∧ Aside0 (kq ≤ kj12) ∧ Aside0 (w'.heap[gb105]? = some (.cells #[.int .i64 a0_0, (.slice (some ad108) l0_1.length c0_1)] 24 (0, 0))) ∧ Aside0 (w'.heap[gb109]? = some (.cells #[.int .i64 ((rd_T114 l0_1 x20_2).f0), (.slice A108_1 ((rd_T114 l0_1 x20_2).f1).length c108_1)] 114 (0, 0))) ∧ Aside0 (Below w.heap.size w w'))
          case atStart => exact ⟨(x3_12), (0), TT, TT, H', ⟨Nat.le_refl _⟩, ⟨TK BK105.out⟩, ⟨TK BK109.out⟩, ⟨TB2 GE105.out GE109.out⟩⟩
          case round => as_aux_lemma =>
           clear H'
           try clear c1
           try clear p1
           try clear q1
           try clear hx1
           try clear c2
           try clear p2
           try clear c5
           try clear c8
           try clear c10
           try clear c10b0
           try clear p10
           try clear q10
           try clear hx10
           try clear c11
           try clear c11b0
           try clear c12
           try clear c12b0
           try clear c15
           try clear c17
           try clear c19
           try clear c20
           try clear c23
           try clear c25
           try clear hcz16_0 hcz16_1
           try clear hcz21_0 hcz21_1
           try clear hcz22_0 hcz22_1
           try clear hcz24_0 hcz24_1
           try clear hcz26_0 hcz26_1
           try clear hcz7_0 hcz7_1
           try clear hcz8_0 hcz8_1
           try clear hcz9_0 hcz9_1
           try clear hfz16_0 hfz16_1
           try clear hfz21_0 hfz21_1
           try clear hfz22_0 hfz22_1
           try clear hfz24_0 hfz24_1
           try clear hfz26_0 hfz26_1
           try clear hfz7_0 hfz7_1
           try clear hfz8_0 hfz8_1
           try clear hfz9_0 hfz9_1
           try clear hx108_0
           try clear hx108_1
           try clear p1
           try clear p10
           try clear p108
           try clear p2
           try clear q1
           try clear q10
           try clear q108
           obtain ⟨x3_4, x41_4, rfl, rfl, HA, HK4, BK105, BK109, HB⟩ := hrel
           cases gk with
           | zero => exact absurd HA.out (by simp [cycle_Check.l1])
           | succ k4 =>
            have H := HA.out
            clear HA
            simp only [cycle_Check.l1] at H
            by_cases c27 : x41_4 < (((rd_T114 l0_1 x20_2).f1).length : Int)
            ·rw [if_pos c27] at H
             have c27b0 : decide (x41_4 < (((rd_T114 l0_1 x20_2).f1).length : Int)) = true := decide_eq_true c27
             clear c27
             by_cases c28 : 0 ≤ x41_4
             ·rw [if_pos c28] at H
              have c28b0 : decide (0 ≤ x41_4) = true := decide_eq_true c28
              clear c28
              by_cases c29 : x41_4 < (((rd_T114 l0_1 x20_2).f1).length : Int)
              ·rw [if_pos c29] at H
               have c29b0 : decide (x41_4 < (((rd_T114 l0_1 x20_2).f1).length : Int)) = true := decide_eq_true c29
               clear c29
               by_cases c30 : x3_4 = true
               ·subst c30
                have H1 : ((cycle_grows.f k4 (rd_L1 ((rd_T114 l0_1 x20_2).f1) x41_4) ((rd_T114 l0_1 x20_2).f0)).bind fun t112 => (if t112 = true then (if x41_4 > 0 then (cycle_Check.l1 k4 true l0_1 (l0_1.length : Int) x20_2 ((rd_T114 l0_1 x20_2).f1) (((rd_T114 l0_1 x20_2).f1).length : Int) (wrap64 (x41_4 + 1)) a0_0 l0_1 ((rd_T114 l0_1 x20_2).f0) ((rd_T114 l0_1 x20_2).f1)) else ((slices_Equal_int_int.f k4 (rd_L1 ((rd_T114 l0_1 x20_2).f1) x41_4) (([wrap64 (((rd_T114 l0_1 x20_2).f0) - 1)] : List Int))).bind fun t116 => (cycle_Check.l1 k4 t116 l0_1 (l0_1.length : Int) x20_2 ((rd_T114 l0_1 x20_2).f1) (((rd_T114 l0_1 x20_2).f1).length : Int) (wrap64 (x41_4 + 1)) a0_0 l0_1 ((rd_T114 l0_1 x20_2).f0) ((rd_T114 l0_1 x20_2).f1)))) else (cycle_Check.l1 k4 false l0_1 (l0_1.length : Int) x20_2 ((rd_T114 l0_1 x20_2).f1) (((rd_T114 l0_1 x20_2).f1).length : Int) (wrap64 (x41_4 + 1)) a0_0 l0_1 ((rd_T114 l0_1 x20_2).f0) ((rd_T114 l0_1 x20_2).f1)))) = some r := by rw [if_pos rfl] at H; exact H
                clear H
                have H := H1
                clear H1
                replace H := Option.bind_eq_some_iff.mp H
                obtain ⟨t112, A310, H⟩ := H
                replace H : (if t112 = true then (if x41_4 > 0 then (cycle_Check.l1 k4 true l0_1 (l0_1.length : Int) x20_2 ((rd_T114 l0_1 x20_2).f1) (((rd_T114 l0_1 x20_2).f1).length : Int) (wrap64 (x41_4 + 1)) a0_0 l0_1 ((rd_T114 l0_1 x20_2).f0) ((rd_T114 l0_1 x20_2).f1)) else ((slices_Equal_int_int.f k4 (rd_L1 ((rd_T114 l0_1 x20_2).f1) x41_4) (([wrap64 (((rd_T114 l0_1 x20_2).f0) - 1)] : List Int))).bind fun t116 => (cycle_Check.l1 k4 t116 l0_1 (l0_1.length : Int) x20_2 ((rd_T114 l0_1 x20_2).f1) (((rd_T114 l0_1 x20_2).f1).length : Int) (wrap64 (x41_4 + 1)) a0_0 l0_1 ((rd_T114 l0_1 x20_2).f0) ((rd_T114 l0_1 x20_2).f1)))) else (cycle_Check.l1 k4 false l0_1 (l0_1.length : Int) x20_2 ((rd_T114 l0_1 x20_2).f1) (((rd_T114 l0_1 x20_2).f1).length : Int) (wrap64 (x41_4 + 1)) a0_0 l0_1 ((rd_T114 l0_1 x20_2).f0) ((rd_T114 l0_1 x20_2).f1))) = some r := H
                have A31 := Aside0.mk A310
                clear A310
                by_cases c32 : t112 = true
                ·subst c32
                 have H1 : (if x41_4 > 0 then (cycle_Check.l1 k4 true l0_1 (l0_1.length : Int) x20_2 ((rd_T114 l0_1 x20_2).f1) (((rd_T114 l0_1 x20_2).f1).length : Int) (wrap64 (x41_4 + 1)) a0_0 l0_1 ((rd_T114 l0_1 x20_2).f0) ((rd_T114 l0_1 x20_2).f1)) else ((slices_Equal_int_int.f k4 (rd_L1 ((rd_T114 l0_1 x20_2).f1) x41_4) (([wrap64 (((rd_T114 l0_1 x20_2).f0) - 1)] : List Int))).bind fun t116 => (cycle_Check.l1 k4 t116 l0_1 (l0_1.length : Int) x20_2 ((rd_T114 l0_1 x20_2).f1) (((rd_T114 l0_1 x20_2).f1).length : Int) (wrap64 (x41_4 + 1)) a0_0 l0_1 ((rd_T114 l0_1 x20_2).f0) ((rd_T114 l0_1 x20_2).f1)))) = some r := by rw [if_pos rfl] at H; exact H
                 clear H
                 have H := H1
                 clear H1
                 by_cases c33 : x41_4 > 0
                 ·rw [if_pos c33] at H
                  have c33b0 : decide (0 < x41_4) = true := decide_eq_true c33
                  clear c33
                  have H' := Aside0.mk H
                  clear H
                  have p111 : 0 ≤ (x41_4 : Int) := of_decide_eq_true TA
                  have q111 : x41_4 < (((rd_T114 l0_1 x20_2).f1).length : Int) := of_decide_eq_true TA
                  obtain ⟨ad111, A111_0, c111_0, e111, hx111_0, hl111_0, hi111_0⟩ := at_L1 HR108_1.out x41_4 p111 q111
                  cases e111
                  replace hx111_0 := hx HB.out hx111_0
                  have HR111_0 := Aside0.mk hi111_0
                  have HC111_0 := Aside0.mk hl111_0
                  clear hi111_0 hl111_0
                  replace p111 := eq_true p111
                  replace q111 := eq_true q111
                  have hnb34 := NB109_105.out
                  have hnc34 := NB105_109.out
                  have hcz35_0 := cz BK109.out 0
                  have hcz35_1 := cz BK109.out 1
                  have hfz35_0 := fz BK109.out 0
                  have hfz35_1 := fz BK109.out 1
                  go_wp2_with (first | (go_at_call 85; (with_reducible refine (cycle_grows.calls k4 _ _ (rd_L1 ((rd_T114 l0_1 x20_2).f1) x41_4) ((rd_T114 l0_1 x20_2).f0) true _ ?side1 ?side2 A31.out).mono ?_); (case side1 => exact TC HR111_0.out); (case side2 => exact HC111_0.out); rintro e w' ⟨rfl, ⟨nd, rfl⟩⟩))
                  go_roundg k4
                  case measure => have := HJ1.out; have := HK2.out; have := HJ12.out; have := HK4.out; omega
                  case rel => exact ⟨(true), (wrap64 (x41_4 + 1)), TT, TT, H', ⟨by have := HJ1.out; have := HK2.out; have := HJ12.out; have := HK4.out; omega⟩, ⟨TK BK105.out⟩, ⟨TK BK109.out⟩, ⟨TB2 GE105.out GE109.out⟩⟩
                 ·rw [if_neg c33] at H
                  have c33b0 : decide (0 < x41_4) = false := decide_eq_false c33
                  clear c33
                  obtain ⟨y113, hy113⟩ : ∃ y_ : List Int, y_ = (([wrap64 (((rd_T114 l0_1 x20_2).f0) - 1)] : List Int)) := ⟨_, rfl⟩
                  replace H : ((slices_Equal_int_int.f k4 (rd_L1 ((rd_T114 l0_1 x20_2).f1) x41_4) y113).bind fun t116 => (cycle_Check.l1 k4 t116 l0_1 (l0_1.length : Int) x20_2 ((rd_T114 l0_1 x20_2).f1) (((rd_T114 l0_1 x20_2).f1).length : Int) (wrap64 (x41_4 + 1)) a0_0 l0_1 ((rd_T114 l0_1 x20_2).f0) ((rd_T114 l0_1 x20_2).f1))) = some r := by first | (rw [hy113]; with_reducible exact H) | (have H2_ := (Option.bind_some _ _).symm.trans H; rw [hy113]; with_reducible exact H2_) | (have H2_ := (Option.bind_some _ _).symm.trans H; with_reducible exact H2_) | with_reducible exact H | (rw [hy113]; exact H) | exact H
                  have Ny113 := Aside0.mk hy113
                  clear hy113
                  replace H := Option.bind_eq_some_iff.mp H
                  obtain ⟨t116, A360, H⟩ := H
                  replace H : (cycle_Check.l1 k4 t116 l0_1 (l0_1.length : Int) x20_2 ((rd_T114 l0_1 x20_2).f1) (((rd_T114 l0_1 x20_2).f1).length : Int) (wrap64 (x41_4 + 1)) a0_0 l0_1 ((rd_T114 l0_1 x20_2).f0) ((rd_T114 l0_1 x20_2).f1)) = some r := H
                  have A36 := Aside0.mk A360
                  clear A360
                  have H' := Aside0.mk H
                  clear H
                  have p111 : 0 ≤ (x41_4 : Int) := of_decide_eq_true TA
                  have q111 : x41_4 < (((rd_T114 l0_1 x20_2).f1).length : Int) := of_decide_eq_true TA
                  obtain ⟨ad111, A111_0, c111_0, e111, hx111_0, hl111_0, hi111_0⟩ := at_L1 HR108_1.out x41_4 p111 q111
                  cases e111
                  replace hx111_0 := hx HB.out hx111_0
                  have HR111_0 := Aside0.mk hi111_0
                  have HC111_0 := Aside0.mk hl111_0
                  clear hi111_0 hl111_0
                  replace p111 := eq_true p111
                  replace q111 := eq_true q111
                  have hnb37 := NB109_105.out
                  have hnc37 := NB105_109.out
                  have hcz38_0 := cz BK109.out 0
                  have hcz38_1 := cz BK109.out 1
                  have hfz38_0 := fz BK109.out 0
                  have hfz38_1 := fz BK109.out 1
                  go_wp2_with (first | (go_at_call 85; (with_reducible refine (cycle_grows.calls k4 _ _ (rd_L1 ((rd_T114 l0_1 x20_2).f1) x41_4) ((rd_T114 l0_1 x20_2).f0) true _ ?side1 ?side2 A31.out).mono ?_); (case side1 => exact TC HR111_0.out); (case side2 => exact HC111_0.out); rintro e w' ⟨rfl, ⟨nd, rfl⟩⟩) | ((with_reducible refine gate_dst (N := 61) rfl ?_); (try (refine gate_guard (by rfl) ?_; dsimp only)); refine Kd.R_lit (Kd.int .i64) _ 3 ?hg (N := 61) ?hd (xs := ([wrap64 (((rd_T114 l0_1 x20_2).f0) - 1)] : List Int)) (inner := [.int .i64 (wrap64 (((rd_T114 l0_1 x20_2).f0) - 1))]) (ok := fun _ => True) (okp := fun _ => True) ?hr ?hp (fun _ hk => hk) trivial (Below.refl _ _) (Nat.le_refl _) (by simp) ?_; (case hd => rfl); (case hg => rfl); (case hr => exact TS); (case hp => exact (Reps.one (show Kd.M (Kd.int .i64) _ _ _ (wrap64 (((rd_T114 l0_1 x20_2).f0) - 1)) [.int .i64 (wrap64 (((rd_T114 l0_1 x20_2).f0) - 1))] from rfl) (Reps.none _ _))); intro v114 w39 ho40 hb hg_ hnew_; clear hg_ hnew_; (first | rw [← Ny113.out] at ho40 | (simp only [Int.reduceToNat] at ho40; rw [← Ny113.out] at ho40)); have HO115 := Aside0.mk (Kd.R_lower ho40 (below_size (TB2 GE105.out GE109.out))); replace BK105 := Aside0.mk (TKb hb BK105.out); replace BK109 := Aside0.mk (TKb hb BK109.out); replace HB := Aside0.mk (below_step (TB2 GE105.out GE109.out) hb); clear hb ho40; obtain ⟨Ao41, co41, eo41⟩ := Kd.R_slice HO115.out; subst eo41) | (go_at_call 86; (with_reducible refine (slices_Equal_int_int.calls k4 _ _ (rd_L1 ((rd_T114 l0_1 x20_2).f1) x41_4) _ _ y113 t116 _ ?side1 ?side2 ?side3 ?side4 A36.out).mono ?_); (case side1 => exact TC HR111_0.out); (case side2 => exact HC111_0.out); (case side3 => repeat (first | exact (Kd.R_reads' HO115.out).2.2 | (with_reducible refine Kd.C_alloc ?_ _) | (with_reducible refine Kd.C_drewN ?_ _) | (with_reducible refine Kd.C_drew ?_))); (case side4 => exact (Kd.R_reads' HO115.out).2.1); rintro e w' ⟨rfl, ⟨nd, rfl⟩⟩))
                  go_roundg k4
                  case measure => have := HJ1.out; have := HK2.out; have := HJ12.out; have := HK4.out; omega
                  case rel => exact ⟨(t116), (wrap64 (x41_4 + 1)), TT, TT, H', ⟨by have := HJ1.out; have := HK2.out; have := HJ12.out; have := HK4.out; omega⟩, ⟨TK BK105.out⟩, ⟨TK BK109.out⟩, ⟨TB2 GE105.out GE109.out⟩⟩
                ·replace c32 := Bool.eq_false_iff.mpr c32
                 subst c32
                 have H1 : (cycle_Check.l1 k4 false l0_1 (l0_1.length : Int) x20_2 ((rd_T114 l0_1 x20_2).f1) (((rd_T114 l0_1 x20_2).f1).length : Int) (wrap64 (x41_4 + 1)) a0_0 l0_1 ((rd_T114 l0_1 x20_2).f0) ((rd_T114 l0_1 x20_2).f1)) = some r := by rw [if_neg (show ¬ (false = true) by decide)] at H; exact H
                 clear H
                 have H := H1
                 clear H1
                 have H' := Aside0.mk H
                 clear H
                 have p111 : 0 ≤ (x41_4 : Int) := of_decide_eq_true TA
                 have q111 : x41_4 < (((rd_T114 l0_1 x20_2).f1).length : Int) := of_decide_eq_true TA
                 obtain ⟨ad111, A111_0, c111_0, e111, hx111_0, hl111_0, hi111_0⟩ := at_L1 HR108_1.out x41_4 p111 q111
                 cases e111
                 replace hx111_0 := hx HB.out hx111_0
                 have HR111_0 := Aside0.mk hi111_0
                 have HC111_0 := Aside0.mk hl111_0
                 clear hi111_0 hl111_0
                 replace p111 := eq_true p111
                 replace q111 := eq_true q111
                 have hnb42 := NB109_105.out
                 have hnc42 := NB105_109.out
                 have hcz43_0 := cz BK109.out 0
                 have hcz43_1 := cz BK109.out 1
                 have hfz43_0 := fz BK109.out 0
                 have hfz43_1 := fz BK109.out 1
                 go_wp2_with (first | (go_at_call 85; (with_reducible refine (cycle_grows.calls k4 _ _ (rd_L1 ((rd_T114 l0_1 x20_2).f1) x41_4) ((rd_T114 l0_1 x20_2).f0) false _ ?side1 ?side2 A31.out).mono ?_); (case side1 => exact TC HR111_0.out); (case side2 => exact HC111_0.out); rintro e w' ⟨rfl, ⟨nd, rfl⟩⟩))
                 go_roundg k4
                 case measure => have := HJ1.out; have := HK2.out; have := HJ12.out; have := HK4.out; omega
                 case rel => exact ⟨(false), (wrap64 (x41_4 + 1)), TT, TT, H', ⟨by have := HJ1.out; have := HK2.out; have := HJ12.out; have := HK4.out; omega⟩, ⟨TK BK105.out⟩, ⟨TK BK109.out⟩, ⟨TB2 GE105.out GE109.out⟩⟩
               ·replace c30 := Bool.eq_false_iff.mpr c30
                subst c30
                have H1 : (cycle_Check.l1 k4 false l0_1 (l0_1.length : Int) x20_2 ((rd_T114 l0_1 x20_2).f1) (((rd_T114 l0_1 x20_2).f1).length : Int) (wrap64 (x41_4 + 1)) a0_0 l0_1 ((rd_T114 l0_1 x20_2).f0) ((rd_T114 l0_1 x20_2).f1)) = some r := by rw [if_neg (show ¬ (false = true) by decide)] at H; exact H
                clear H
                have H := H1
                clear H1
                have H' := Aside0.mk H
                clear H
                have p111 : 0 ≤ (x41_4 : Int) := of_decide_eq_true TA
                have q111 : x41_4 < (((rd_T114 l0_1 x20_2).f1).length : Int) := of_decide_eq_true TA
                obtain ⟨ad111, A111_0, c111_0, e111, hx111_0, hl111_0, hi111_0⟩ := at_L1 HR108_1.out x41_4 p111 q111
                cases e111
                replace hx111_0 := hx HB.out hx111_0
                have HR111_0 := Aside0.mk hi111_0
                have HC111_0 := Aside0.mk hl111_0
                clear hi111_0 hl111_0
                replace p111 := eq_true p111
                replace q111 := eq_true q111
                go_wp2
                go_roundg k4
                case measure => have := HJ1.out; have := HK2.out; have := HJ12.out; have := HK4.out; omega
                case rel => exact ⟨(false), (wrap64 (x41_4 + 1)), TT, TT, H', ⟨by have := HJ1.out; have := HK2.out; have := HJ12.out; have := HK4.out; omega⟩, ⟨TK BK105.out⟩, ⟨TK BK109.out⟩, ⟨TB2 GE105.out GE109.out⟩⟩
              ·rw [if_neg c29] at H
               exact absurd H (by simp)
             ·rw [if_neg c28] at H
              exact absurd H (by simp)
            ·rw [if_neg c27] at H
             have c27b0 : decide (x41_4 < (((rd_T114 l0_1 x20_2).f1).length : Int)) = false := decide_eq_false c27
             clear c27
             have H' := Aside0.mk H
             clear H
             go_wp2
             go_roundg k4
             case measure => have := HJ1.out; have := HK2.out; have := HJ12.out; have := HK4.out; omega
             case rel => exact ⟨(x3_4), (wrap64 (x20_2 + 1)), TT, TT, H', ⟨by have := HJ1.out; have := HK2.out; have := HJ12.out; have := HK4.out; omega⟩, ⟨TK BK105.out⟩, ⟨TB2 GE105.out GE109.out⟩⟩
       ·rw [if_neg c12] at H
        exact absurd H (by simp)
      ·rw [if_neg c11] at H
       exact absurd H (by simp)
     ·rw [if_neg c10] at H
      have c10b0 : decide (x20_2 < (l0_1.length : Int)) = false := decide_eq_false c10
      clear c10
      by_cases c44 : x3_2 = true
      ·subst c44
       have H1 : (some 0) = some r := by rw [if_pos rfl] at H; exact H
       clear H
       have H := H1
       clear H1
       obtain rfl := Option.some.inj H
       go_wp2
       go_ret
       exact ⟨TR, TB1 GE105.out⟩
      ·replace c44 := Bool.eq_false_iff.mpr c44
       subst c44
       have H1 : (some 50) = some r := by rw [if_neg (show ¬ (false = true) by decide)] at H; exact H
       clear H
       have H := H1
       clear H1
       obtain rfl := Option.some.inj H
       go_wp2
       go_ret
       exact ⟨TR, TB1 GE105.out⟩
/-! ### heard_greatest_int: function 75 -/
def heard_greatest_int.l0 : Nat → Int → List Int → Int → Int → Option (Int)
 | 0, _, _, _, _ => none
 | k + 1, x0, x7, x8, x9 => if x9 < x8 then (if 0 ≤ x9 then (if x9 < (x7.length : Int) then (heard_greatest_int.l0 k (mx x0 (rd x7 x9)) x7 x8 (wrap64 (x9 + 1))) else (none)) else (none)) else (some x0)
def heard_greatest_int.f (k : Nat) (a0 : Int) (l1 : List Int) : Option (Int) := heard_greatest_int.l0 k a0 l1 (l1.length : Int) 0
theorem heard_greatest_int.mono_l : ∀ k, (∀ y0 y1 y2 y3, LeO (heard_greatest_int.l0 k y0 y1 y2 y3) (heard_greatest_int.l0 (k + 1) y0 y1 y2 y3))
 | 0 => fun _ _ _ _ r h => by simp [heard_greatest_int.l0] at h
 | k + 1 => by
  have ih0 := heard_greatest_int.mono_l k
  ·intro y0 y1 y2 y3
   unfold heard_greatest_int.l0
   repeat' first
   | (with_reducible exact ih0 _ _ _ _)
   | (with_reducible exact LeO.refl _)
   | (with_reducible exact LeO.none _)
   | (with_reducible refine LeO.ite ?_ ?_)
   | (with_reducible refine LeO.bind ?_ (fun _ => ?_))
   | exact ih0 _ _ _ _
   | exact LeO.none _
   | refine LeO.ite ?_ ?_
   | refine LeO.bind ?_ (fun _ => ?_)
theorem heard_greatest_int.mono : ∀ a0 a1 k, LeO (heard_greatest_int.f k a0 a1) (heard_greatest_int.f (k + 1) a0 a1) := by
 intro a0 a1 k
 have ih0 := heard_greatest_int.mono_l k
 unfold heard_greatest_int.f
 repeat' first
   | (with_reducible exact ih0 _ _ _ _)
   | (with_reducible exact LeO.refl _)
   | (with_reducible exact LeO.none _)
   | (with_reducible refine LeO.ite ?_ ?_)
   | (with_reducible refine LeO.bind ?_ (fun _ => ?_))
   | exact ih0 _ _ _ _
   | exact LeO.none _
   | refine LeO.ite ?_ ?_
   | refine LeO.bind ?_ (fun _ => ?_)
set_option maxHeartbeats 8000000 in
set_option maxRecDepth 100000 in
theorem heard_greatest_int.calls (k : Nat) (a0 : Int) (A1 : Option Addr) (c1 : Nat) (l1 : List Int) (r : Int) (w : World) (hr1 : Kd.C (Kd.int .i64) w A1 l1.length l1) (hc1 : l1.length ≤ c1) (h : heard_greatest_int.f k a0 l1 = some r) :
  Calls Tryd.prog 75 #[.int .i64 a0, .slice A1 l1.length c1] w fun e w' => e = .returned (.int .i64 r) ∧ Below w.heap.size w w' := by
 have HR1 := Aside0.mk hr1
 have HC1 := Aside0.mk hc1
 clear hr1 hc1
 have HB := Aside0.mk (Below.refl w.heap.size w)
 have H : (heard_greatest_int.l0 k a0 l1 (l1.length : Int) 0) = some r := h
 clear h
 have H' := Aside0.mk H
 clear H
 go_enter Tryd.func75, Tryd.ntmps75
 go_wp2
 go_loopg [0, 9] k (fun kq v0 v9 w' => ∃ (x0_1 : Int) (x9_1 : Int), v0 = .int .i64 x0_1 ∧ v9 = .int .i64 x9_1 ∧ Aside0 (heard_greatest_int.l0 kq x0_1 l1 (l1.length : Int) x9_1 = some r) ∧ Aside0 (kq ≤ k) ∧ Aside0 (Below w.heap.size w w'))
 case atStart => exact ⟨(a0), (0), TT, TT, H', ⟨Nat.le_refl _⟩, ⟨TB⟩⟩
 case round => as_aux_lemma =>
  clear H'
  try clear c1
  try clear p2
  obtain ⟨x0_1, x9_1, rfl, rfl, HA, HK1, HB⟩ := hrel
  cases gk with
  | zero => exact absurd HA.out (by simp [heard_greatest_int.l0])
  | succ k1 =>
   have H := HA.out
   clear HA
   simp only [heard_greatest_int.l0] at H
   by_cases c3 : x9_1 < (l1.length : Int)
   ·rw [if_pos c3] at H
    have c3b0 : decide (x9_1 < (l1.length : Int)) = true := decide_eq_true c3
    clear c3
    by_cases c4 : 0 ≤ x9_1
    ·rw [if_pos c4] at H
     have c4b0 : decide (0 ≤ x9_1) = true := decide_eq_true c4
     clear c4
     by_cases c5 : x9_1 < (l1.length : Int)
     ·rw [if_pos c5] at H
      have c5b0 : decide (x9_1 < (l1.length : Int)) = true := decide_eq_true c5
      clear c5
      obtain ⟨ji6, hji6⟩ : ∃ j_ : Int, (mx x0_1 (rd l1 x9_1)) = j_ := ⟨_, rfl⟩
      replace H : (heard_greatest_int.l0 k1 ji6 l1 (l1.length : Int) (wrap64 (x9_1 + 1))) = some r := by first | (rw [hji6] at H; exact H) | (simp only [hji6] at H ⊢; exact H)
      have hji6_ : (if x0_1 < (rd l1 x9_1) then (rd l1 x9_1) else x0_1) = ji6 := hji6
      have H' := Aside0.mk H
      clear H
      have p117 : 0 ≤ (x9_1 : Int) := of_decide_eq_true TA
      have q117 : x9_1 < (l1.length : Int) := of_decide_eq_true TA
      obtain ⟨ad117, e117, hx117_0⟩ := Kd.at_int HR1.out x9_1 p117 q117
      cases e117
      replace hx117_0 := hx HB.out hx117_0
      replace p117 := eq_true p117
      replace q117 := eq_true q117
      go_wp2
      go_roundg k1
      case measure => have := HK1.out; omega
      case rel => exact ⟨(ji6), (wrap64 (x9_1 + 1)), (by first | rfl | (simp; done) | (simp only [← hji6] <;> (first | rfl | simp)) | (simp [*]; done)), TT, H', ⟨by have := HK1.out; omega⟩, ⟨TB⟩⟩
     ·rw [if_neg c5] at H
      exact absurd H (by simp)
    ·rw [if_neg c4] at H
     exact absurd H (by simp)
   ·rw [if_neg c3] at H
    have c3b0 : decide (x9_1 < (l1.length : Int)) = false := decide_eq_false c3
    clear c3
    obtain rfl := Option.some.inj H
    go_wp2
    go_ret
    exact ⟨TR, TB⟩
/-! ### heard_turned_int: function 95 -/
def heard_turned_int.l0 : Nat → List Int → List Int → Int → Int → Option (List Int)
 | 0, _, _, _, _ => none
 | k + 1, x3, x6, x7, x8 => if x8 < x7 then (if 0 ≤ x8 then (if x8 < (x6.length : Int) then (if x3.length < 17592186044416 then (heard_turned_int.l0 k (x3 ++ [wrap64 (-(rd x6 x8))]) x6 x7 (wrap64 (x8 + 1))) else (none)) else (none)) else (none)) else (some x3)
def heard_turned_int.f (k : Nat) (l0 : List Int) : Option (List Int) := heard_turned_int.l0 k ([] : List Int) l0 (l0.length : Int) 0
theorem heard_turned_int.mono_l : ∀ k, (∀ y0 y1 y2 y3, LeO (heard_turned_int.l0 k y0 y1 y2 y3) (heard_turned_int.l0 (k + 1) y0 y1 y2 y3))
 | 0 => fun _ _ _ _ r h => by simp [heard_turned_int.l0] at h
 | k + 1 => by
  have ih0 := heard_turned_int.mono_l k
  ·intro y0 y1 y2 y3
   unfold heard_turned_int.l0
   repeat' first
   | (with_reducible exact ih0 _ _ _ _)
   | (with_reducible exact LeO.refl _)
   | (with_reducible exact LeO.none _)
   | (with_reducible refine LeO.ite ?_ ?_)
   | (with_reducible refine LeO.bind ?_ (fun _ => ?_))
   | exact ih0 _ _ _ _
   | exact LeO.none _
   | refine LeO.ite ?_ ?_
   | refine LeO.bind ?_ (fun _ => ?_)
theorem heard_turned_int.mono : ∀ a0 k, LeO (heard_turned_int.f k a0) (heard_turned_int.f (k + 1) a0) := by
 intro a0 k
 have ih0 := heard_turned_int.mono_l k
 unfold heard_turned_int.f
 repeat' first
   | (with_reducible exact ih0 _ _ _ _)
   | (with_reducible exact LeO.refl _)
   | (with_reducible exact LeO.none _)
   | (with_reducible refine LeO.ite ?_ ?_)
   | (with_reducible refine LeO.bind ?_ (fun _ => ?_))
   | exact ih0 _ _ _ _
   | exact LeO.none _
   | refine LeO.ite ?_ ?_
   | refine LeO.bind ?_ (fun _ => ?_)
set_option maxHeartbeats 8000000 in
set_option maxRecDepth 100000 in
theorem heard_turned_int.calls (k : Nat) (A0 : Option Addr) (c0 : Nat) (l0 : List Int) (r : List Int) (w : World) (hr0 : Kd.C (Kd.int .i64) w A0 l0.length l0) (hc0 : l0.length ≤ c0) (h : heard_turned_int.f k l0 = some r) :
  Calls Tryd.prog 95 #[.slice A0 l0.length c0] w fun e w' => ∃ v0_ : Value, e = .returned (v0_) ∧ Kd.R (Kd.int .i64) 3 w' w.heap.size (fun _ => True) v0_ r ∧ Below w.heap.size w w' := by
 have HR0 := Aside0.mk hr0
 have HC0 := Aside0.mk hc0
 clear hr0 hc0
 have HB := Aside0.mk (Below.refl w.heap.size w)
 have H : (heard_turned_int.l0 k ([] : List Int) l0 (l0.length : Int) 0) = some r := h
 clear h
 have H' := Aside0.mk H
 clear H
 go_enter Tryd.func95, Tryd.ntmps95
 go_wp2
 go_loopg [3, 8] k (fun kq v3 v8 w' => ∃ (x3_1 : List Int) (x8_1 : Int), v8 = .int .i64 x8_1 ∧ Aside0 (heard_turned_int.l0 kq x3_1 l0 (l0.length : Int) x8_1 = some r) ∧ Aside0 (kq ≤ k) ∧ Aside0 (Kd.R (Kd.int .i64) 3 w' w.heap.size (fun _ => True) v3 x3_1) ∧ Aside0 (Below w.heap.size w w'))
 case atStart => exact ⟨(([] : List Int)), (0), TT, H', ⟨Nat.le_refl _⟩, ⟨by first | exact Kd.R_nil _ _ _ _ _ | exact Kd.N_nil _ _ _ _ _ | exact Kd.V_nil _ _ _ _ _ | exact Kd.Q_nil _ _ _ _ _ | exact Kd.S_nil _ _ _ _ _⟩, ⟨TB⟩⟩
 case round => as_aux_lemma =>
  clear H'
  obtain ⟨x3_1, x8_1, rfl, HA, HK1, HO_3, HB⟩ := hrel
  cases gk with
  | zero => exact absurd HA.out (by simp [heard_turned_int.l0])
  | succ k1 =>
   have H := HA.out
   clear HA
   simp only [heard_turned_int.l0] at H
   by_cases c2 : x8_1 < (l0.length : Int)
   ·rw [if_pos c2] at H
    have c2b0 : decide (x8_1 < (l0.length : Int)) = true := decide_eq_true c2
    clear c2
    by_cases c3 : 0 ≤ x8_1
    ·rw [if_pos c3] at H
     have c3b0 : decide (0 ≤ x8_1) = true := decide_eq_true c3
     clear c3
     by_cases c4 : x8_1 < (l0.length : Int)
     ·rw [if_pos c4] at H
      have c4b0 : decide (x8_1 < (l0.length : Int)) = true := decide_eq_true c4
      clear c4
      by_cases c5 : x3_1.length < 17592186044416
      ·rw [if_pos c5] at H
       have LMc5 := Aside0.mk c5
       clear c5
       obtain ⟨y119, hy119⟩ : ∃ y_ : List Int, y_ = (x3_1 ++ [wrap64 (-(rd l0 x8_1))]) := ⟨_, rfl⟩
       replace H : (heard_turned_int.l0 k1 y119 l0 (l0.length : Int) (wrap64 (x8_1 + 1))) = some r := by first | (rw [hy119]; with_reducible exact H) | (have H2_ := (Option.bind_some _ _).symm.trans H; rw [hy119]; with_reducible exact H2_) | (have H2_ := (Option.bind_some _ _).symm.trans H; with_reducible exact H2_) | with_reducible exact H | (rw [hy119]; exact H) | exact H
       have Ny119 := Aside0.mk hy119
       clear hy119
       have H' := Aside0.mk H
       clear H
       have p118 : 0 ≤ (x8_1 : Int) := of_decide_eq_true TA
       have q118 : x8_1 < (l0.length : Int) := of_decide_eq_true TA
       obtain ⟨ad118, e118, hx118_0⟩ := Kd.at_int HR0.out x8_1 p118 q118
       cases e118
       replace hx118_0 := hx HB.out hx118_0
       replace p118 := eq_true p118
       replace q118 := eq_true q118
       go_wp2_with (first | ((with_reducible refine gate_builtin (b := .append) (xs := #[.tmp 12, .tmp 15]) rfl ?_); at_builtin; refine Kd.R_append (Kd.int .i64) (w0 := w) w.heap.size rfl (.tmp 12) (.tmp 15) 28 3 (.int .i64 0) 8 rfl Tryd.underlying28 info3 rfl (by decide) (by omega) u3 x3_1 (wrap64 (-(rd l0 x8_1))) [.int .i64 (wrap64 (-(rd l0 x8_1)))] (fun _ => True) (fun _ => False) rfl rfl ?aP (fun _ hk => hk.elim) ?aF ?aO ?aB ?aS ?aL ?_; (case aP => exact rfl); (case aB => exact TB); (case aF => exact (fun _ _ => trivial)); (case aO => exact (TRo HO_3.out)); (case aS => exact (below_size TB)); (case aL => have := LMc5.out; omega); intro v120 w6 ho hb hg hat; rw [← Ny119.out] at ho; have HO121 := Aside0.mk (ho); replace HB := Aside0.mk (hb); clear HO_3; clear ho hb hg hat))
       go_roundg k1
       case measure => have := HK1.out; omega
       case rel => exact ⟨(y119), (wrap64 (x8_1 + 1)), TT, H', ⟨by have := HK1.out; omega⟩, ⟨by (with_reducible repeat (first | apply Kd.R_alloc | apply Kd.R_drewN | apply Kd.R_drew)); exact HO121.out⟩, ⟨TB⟩⟩
      ·rw [if_neg c5] at H
       exact absurd H (by simp)
     ·rw [if_neg c4] at H
      exact absurd H (by simp)
    ·rw [if_neg c3] at H
     exact absurd H (by simp)
   ·rw [if_neg c2] at H
    have c2b0 : decide (x8_1 < (l0.length : Int)) = false := decide_eq_false c2
    clear c2
    obtain rfl := Option.some.inj H
    go_wp2
    go_ret
    exact ⟨_, TR, by (with_reducible repeat (first | apply Kd.R_alloc | apply Kd.R_drewN | apply Kd.R_drew)); exact HO_3.out, TB⟩
end Go.Proofs.YtfdenclnneigfaaDoor.PRaspKeys
namespace Go.Proofs.YtfdenclnneigfaaDoor.PRaspKeys
open Go.RowKit Go.Proofs.YtfdenclnneigfaaDoorW.PrintWords Go.Proofs.YtfdenclnneigfaaDoorW.PrintLast Go.Proofs.YtfdenclnneigfaaDoorW.PrintMore Go.Proofs.YtfdenclnneigfaaDoor.M
attribute [local go_sem] max2_int min2_int max_two min_two max_three min_three max_four min_four   -- for this text's walks alone
/-! ### heard_least_int: function 74 -/
def heard_least_int.f (k : Nat) (a0 : Int) (l1 : List Int) : Option (Int) := (heard_turned_int.f k l1).bind fun t122 => ((heard_greatest_int.f k (wrap64 (-a0)) t122).bind fun t125 => (some (wrap64 (-t125))))
theorem heard_least_int.mono : ∀ a0 a1 k, LeO (heard_least_int.f k a0 a1) (heard_least_int.f (k + 1) a0 a1) := by
 intro a0 a1 k
 unfold heard_least_int.f
 repeat' first
   | (with_reducible exact heard_greatest_int.mono _ _ _)
   | (with_reducible exact heard_turned_int.mono _ _)
   | (with_reducible exact LeO.refl _)
   | (with_reducible exact LeO.none _)
   | (with_reducible refine LeO.ite ?_ ?_)
   | (with_reducible refine LeO.bind ?_ (fun _ => ?_))
   | exact heard_greatest_int.mono _ _ _
   | exact heard_turned_int.mono _ _
   | exact LeO.none _
   | refine LeO.ite ?_ ?_
   | refine LeO.bind ?_ (fun _ => ?_)
set_option maxHeartbeats 8000000 in
set_option maxRecDepth 100000 in
theorem heard_least_int.calls (k : Nat) (a0 : Int) (A1 : Option Addr) (c1 : Nat) (l1 : List Int) (r : Int) (w : World) (hr1 : Kd.C (Kd.int .i64) w A1 l1.length l1) (hc1 : l1.length ≤ c1) (h : heard_least_int.f k a0 l1 = some r) :
  Calls Tryd.prog 74 #[.int .i64 a0, .slice A1 l1.length c1] w fun e w' => e = .returned (.int .i64 r) ∧ Below w.heap.size w w' := by
 have HR1 := Aside0.mk hr1
 have HC1 := Aside0.mk hc1
 clear hr1 hc1
 have HB := Aside0.mk (Below.refl w.heap.size w)
 have H : ((heard_turned_int.f k l1).bind fun t122 => ((heard_greatest_int.f k (wrap64 (-a0)) t122).bind fun t125 => (some (wrap64 (-t125))))) = some r := h
 clear h
 replace H := Option.bind_eq_some_iff.mp H
 obtain ⟨t122, A30, H⟩ := H
 replace H : ((heard_greatest_int.f k (wrap64 (-a0)) t122).bind fun t125 => (some (wrap64 (-t125)))) = some r := H
 have A3 := Aside0.mk A30
 clear A30
 replace H := Option.bind_eq_some_iff.mp H
 obtain ⟨t125, A40, H⟩ := H
 replace H : (some (wrap64 (-t125))) = some r := H
 have A4 := Aside0.mk A40
 clear A40
 obtain rfl := Option.some.inj H
 go_enter Tryd.func74, Tryd.ntmps74
 go_wp2_with (first | ((with_reducible refine gate_callee (f := 95) rfl ?_); refine goesL_ (some 8) rfl rfl Tryd.func95 (by kernel_rfl) rfl #[.slice A1 l1.length c1] rfl TM ?_; (with_reducible refine (heard_turned_int.calls k _ _ l1 t122 _ ?side1 ?side2 A3.out).mono ?_); (case side1 => exact TE HR1.out); (case side2 => exact HC1.out); rintro e w5 ⟨v123, rfl, ho0, hb⟩; refine ⟨_, rfl, ?_⟩; have HO124 := Aside0.mk (Kd.R_lower ho0 (below_size TB)); replace HB := Aside0.mk (below_step TB hb); (try clear hb); (try clear hb2); (try clear hk); (try clear hi); (try clear ho0); obtain ⟨Ao6, co6, eo6⟩ := Kd.R_slice HO124.out; subst eo6) | ((with_reducible refine gate_callee (f := 75) rfl ?_); refine goesL_ (some 9) rfl rfl Tryd.func75 (by kernel_rfl) rfl #[.int .i64 (wrap64 (-a0)), .slice Ao6 t122.length co6] rfl TM ?_; (with_reducible refine (heard_greatest_int.calls k (wrap64 (-a0)) _ _ t122 t125 _ ?side1 ?side2 A4.out).mono ?_); (case side1 => repeat (first | exact (Kd.R_reads' HO124.out).2.2 | (with_reducible refine Kd.C_alloc ?_ _) | (with_reducible refine Kd.C_drewN ?_ _) | (with_reducible refine Kd.C_drew ?_))); (case side2 => exact (Kd.R_reads' HO124.out).2.1); rintro e w7 ⟨rfl, hb⟩; refine ⟨_, rfl, ?_⟩; replace HO124 := Aside0.mk (Kd.R_below (TRo HO124.out) hb); replace HB := Aside0.mk (below_step TB hb); (try clear hb); (try clear hb2); (try clear hk); (try clear hi)))
 go_ret
 exact ⟨TR, TB⟩
/-! ### saronref00_Equal: function 20 -/
def saronref00_Equal.l0 : Nat → List Int → List Int → Bool → Int → Option (Bool)
 | 0, _, _, _, _ => none
 | k + 1, x0, x1, x5, x6 => if x5 = true then (if x6 < (x0.length : Int) then (if 0 ≤ x6 then (if x6 < (x1.length : Int) then (saronref00_Equal.l0 k x0 x1 ((rd x0 x6) == (rd x1 x6)) (wrap64 (x6 + 1))) else (none)) else (none)) else (some x5)) else (some x5)
def saronref00_Equal.f (k : Nat) (l0 : List Int) (l1 : List Int) : Option (Bool) := saronref00_Equal.l0 k l0 l1 ((l0.length : Int) == (l1.length : Int)) 0
theorem saronref00_Equal.mono_l : ∀ k, (∀ y0 y1 y2 y3, LeO (saronref00_Equal.l0 k y0 y1 y2 y3) (saronref00_Equal.l0 (k + 1) y0 y1 y2 y3))
 | 0 => fun _ _ _ _ r h => by simp [saronref00_Equal.l0] at h
 | k + 1 => by
  have ih0 := saronref00_Equal.mono_l k
  ·intro y0 y1 y2 y3
   unfold saronref00_Equal.l0
   repeat' first
   | (with_reducible exact ih0 _ _ _ _)
   | (with_reducible exact LeO.refl _)
   | (with_reducible exact LeO.none _)
   | (with_reducible refine LeO.ite ?_ ?_)
   | (with_reducible refine LeO.bind ?_ (fun _ => ?_))
   | exact ih0 _ _ _ _
   | exact LeO.none _
   | refine LeO.ite ?_ ?_
   | refine LeO.bind ?_ (fun _ => ?_)
theorem saronref00_Equal.mono : ∀ a0 a1 k, LeO (saronref00_Equal.f k a0 a1) (saronref00_Equal.f (k + 1) a0 a1) := by
 intro a0 a1 k
 have ih0 := saronref00_Equal.mono_l k
 unfold saronref00_Equal.f
 repeat' first
   | (with_reducible exact ih0 _ _ _ _)
   | (with_reducible exact LeO.refl _)
   | (with_reducible exact LeO.none _)
   | (with_reducible refine LeO.ite ?_ ?_)
   | (with_reducible refine LeO.bind ?_ (fun _ => ?_))
   | exact ih0 _ _ _ _
   | exact LeO.none _
   | refine LeO.ite ?_ ?_
   | refine LeO.bind ?_ (fun _ => ?_)
set_option maxHeartbeats 8000000 in
set_option maxRecDepth 100000 in
theorem saronref00_Equal.calls (k : Nat) (A0 : Option Addr) (c0 : Nat) (l0 : List Int) (A1 : Option Addr) (c1 : Nat) (l1 : List Int) (r : Bool) (w : World) (hr0 : Kd.C (Kd.int .i64) w A0 l0.length l0) (hc0 : l0.length ≤ c0) (hr1 : Kd.C (Kd.int .i64) w A1 l1.length l1) (hc1 : l1.length ≤ c1) (h : saronref00_Equal.f k l0 l1 = some r) :
  Calls Tryd.prog 20 #[.slice A0 l0.length c0, .slice A1 l1.length c1] w fun e w' => e = .returned (.bool r) ∧ Drawn0 w w' := by
 have HR0 := Aside0.mk hr0
 have HC0 := Aside0.mk hc0
 clear hr0 hc0
 have HR1 := Aside0.mk hr1
 have HC1 := Aside0.mk hc1
 clear hr1 hc1
 have H : (saronref00_Equal.l0 k l0 l1 ((l0.length : Int) == (l1.length : Int)) 0) = some r := h
 clear h
 have H' := Aside0.mk H
 clear H
 go_enter Tryd.func20, Tryd.ntmps20
 go_wp2
 repeat (go_quiet (fail); try go_wp2)
 go_loopg [5, 6] k (fun kq v5 v6 w' => ∃ (x5_1 : Bool) (x6_1 : Int), v5 = .bool x5_1 ∧ v6 = .int .i64 x6_1 ∧ Aside0 (saronref00_Equal.l0 kq l0 l1 x5_1 x6_1 = some r) ∧ Aside0 (kq ≤ k) ∧ Drawn0 w w')
 case atStart => exact ⟨(((l0.length : Int) == (l1.length : Int))), (0), TT, TT, H', ⟨Nat.le_refl _⟩, by repeat (first | exact Drawn0.refl _ | apply Drawn0.step)⟩
 case round => as_aux_lemma =>
  clear H'
  try clear c1
  try clear c2
  try clear p2
  obtain ⟨x5_1, x6_1, rfl, rfl, HA, HK1, ⟨m1, rfl⟩⟩ := hrel
  cases gk with
  | zero => exact absurd HA.out (by simp [saronref00_Equal.l0])
  | succ k1 =>
   have H := HA.out
   clear HA
   simp only [saronref00_Equal.l0] at H
   by_cases c3 : x5_1 = true
   ·subst c3
    have H1 : (if x6_1 < (l0.length : Int) then (if 0 ≤ x6_1 then (if x6_1 < (l1.length : Int) then (saronref00_Equal.l0 k1 l0 l1 ((rd l0 x6_1) == (rd l1 x6_1)) (wrap64 (x6_1 + 1))) else (none)) else (none)) else (some true)) = some r := by rw [if_pos rfl] at H; exact H
    clear H
    have H := H1
    clear H1
    by_cases c4 : x6_1 < (l0.length : Int)
    ·rw [if_pos c4] at H
     have c4b0 : decide (x6_1 < (l0.length : Int)) = true := decide_eq_true c4
     clear c4
     by_cases c5 : 0 ≤ x6_1
     ·rw [if_pos c5] at H
      have c5b0 : decide (0 ≤ x6_1) = true := decide_eq_true c5
      clear c5
      by_cases c6 : x6_1 < (l1.length : Int)
      ·rw [if_pos c6] at H
       have c6b0 : decide (x6_1 < (l1.length : Int)) = true := decide_eq_true c6
       clear c6
       have H' := Aside0.mk H
       clear H
       have p126 : 0 ≤ (x6_1 : Int) := of_decide_eq_true TA
       have q126 : x6_1 < (l0.length : Int) := of_decide_eq_true TA
       obtain ⟨ad126, e126, hx126_0⟩ := Kd.at_int HR0.out x6_1 p126 q126
       cases e126
       replace p126 := eq_true p126
       replace q126 := eq_true q126
       have p127 : 0 ≤ (x6_1 : Int) := of_decide_eq_true TA
       have q127 : x6_1 < (l1.length : Int) := of_decide_eq_true TA
       obtain ⟨ad127, e127, hx127_0⟩ := Kd.at_int HR1.out x6_1 p127 q127
       cases e127
       replace p127 := eq_true p127
       replace q127 := eq_true q127
       go_wp2
       repeat (go_quiet (fail); try go_wp2)
       go_roundg k1
       case measure => have := HK1.out; omega
       case rel => exact ⟨(((rd l0 x6_1) == (rd l1 x6_1))), (wrap64 (x6_1 + 1)), TT, TT, H', ⟨by have := HK1.out; omega⟩, by repeat (first | exact Drawn0.refl _ | apply Drawn0.step)⟩
      ·rw [if_neg c6] at H
       exact absurd H (by simp)
     ·rw [if_neg c5] at H
      exact absurd H (by simp)
    ·rw [if_neg c4] at H
     have c4b0 : decide (x6_1 < (l0.length : Int)) = false := decide_eq_false c4
     clear c4
     obtain rfl := Option.some.inj H
     go_wp2
     repeat (go_quiet (fail); try go_wp2)
     go_ret
     exact ⟨by first | rfl | (simp; done) | (simp [*]; done), by repeat (first | exact Drawn0.refl _ | apply Drawn0.step)⟩
   ·replace c3 := Bool.eq_false_iff.mpr c3
    subst c3
    have H1 : (some false) = some r := by rw [if_neg (show ¬ (false = true) by decide)] at H; exact H
    clear H
    have H := H1
    clear H1
    obtain rfl := Option.some.inj H
    go_wp2
    repeat (go_quiet (fail); try go_wp2)
    go_ret
    exact ⟨by first | rfl | (simp; done) | (simp [*]; done), by repeat (first | exact Drawn0.refl _ | apply Drawn0.step)⟩
/-- THE ONE PURE STATEMENT of saronref00_Equal: yours. -/
def saronref00_Equal.Pure : Prop := ∀ (l0 : List Int) (l1 : List Int), l0.length ≤ maxLen → l0.length * 8 ≤ 140737488351232 → (∀ x ∈ l0, (Lit.int .i64 x).wf = true) → l1.length ≤ maxLen → l1.length * 8 ≤ 140737488351232 → (∀ x ∈ l1, (Lit.int .i64 x).wf = true) → ∃ k, saronref00_Equal.f k l0 l1 = some true
theorem saronref00_Equal.walk (P : saronref00_Equal.Pure) (a0 : Option Addr) (len0 cap0 : Nat) (z0 : List Int) (a1 : Option Addr) (len1 cap1 : Nat) (z1 : List Int) (w : World) (w0 : (a0 = none ∧ len0 = 0 ∧ cap0 = 0 ∧ z0 = []) ∨ ∃ x, a0 = some x ∧ len0 ≤ cap0 ∧ cap0 ≤ maxLen ∧ z0.length = cap0 ∧ (∀ i, i < z0.length → w.cell? (x.add i) = some (.int .i64 (z0.getD i 0))) ∧ ∀ n ∈ z0, (Lit.int .i64 n).wf = true) (y0 : len0 * 8 ≤ 140737488351232) (w1 : (a1 = none ∧ len1 = 0 ∧ cap1 = 0 ∧ z1 = []) ∨ ∃ x, a1 = some x ∧ len1 ≤ cap1 ∧ cap1 ≤ maxLen ∧ z1.length = cap1 ∧ (∀ i, i < z1.length → w.cell? (x.add i) = some (.int .i64 (z1.getD i 0))) ∧ ∀ n ∈ z1, (Lit.int .i64 n).wf = true) (y1 : len1 * 8 ≤ 140737488351232) :
  Calls Tryd.prog 20 #[.slice a0 len0 cap0, .slice a1 len1 cap1] w fun e w' => e = .returned (.bool true) ∧ Below w.heap.size w w' := by
 obtain ⟨l0, rfl, hr0, hm0, hw0, hc0⟩ := ReadsInt.ofRowC w0
 obtain ⟨l1, rfl, hr1, hm1, hw1, hc1⟩ := ReadsInt.ofRowC w1
 obtain ⟨k, h⟩ := P l0 l1 hm0 y0 hw0 hm1 y1 hw1
 refine (saronref00_Equal.calls k _ _ l0 _ _ l1 true w (Kd.C_of_reads (d := (0 : Int)) (h1 := fun _ => rfl) hr0) hc0 (Kd.C_of_reads (d := (0 : Int)) (h1 := fun _ => rfl) hr1) hc1 h).mono ?_
 rintro e w' ⟨rfl, hd⟩
 exact ⟨rfl, hd.below⟩
/-! ### saronlaw09_book: function 49 -/
def saronlaw09_book.f  : Option (Int × (List (S114)) × (List (S62))) := some (3, (([(⟨8, (([(([7] : List Int)), (([3, 7] : List Int)), (([0, 2, 4, 6] : List Int))] : List (List Int)))⟩ : S114), (⟨4, (([(([3] : List Int)), (([1] : List Int)), (([0, 2] : List Int))] : List (List Int)))⟩ : S114)] : List (S114))), (([(⟨1, (([0, 2, 4, 2, 1, 0] : List Int))⟩ : S62), (⟨0, (([0, 2, 3, 2, 4, 2, 1] : List Int))⟩ : S62), (⟨1, (([4, 2, 1, 0, 2] : List Int))⟩ : S62)] : List (S62))))
set_option maxHeartbeats 8000000 in
set_option maxRecDepth 100000 in
theorem saronlaw09_book.calls  (r1 : Int) (r2 : List (S114)) (r3 : List (S62)) (w : World) (h : saronlaw09_book.f  = some (r1, r2, r3)) :
  Calls Tryd.prog 49 #[] w fun e w' => ∃ v1_ v2_ : Value, e = .returned (.agg #[.int .i64 r1, v1_, v2_]) ∧ Kd.N k114 114 w' w.heap.size (fun k_ => (w.heap.size ≤ k_) ∧ some k_ ≠ (v2_ : Value).ownBlock) v1_ r2 ∧ Kd.N k62 62 w' w.heap.size (fun k_ => (w.heap.size ≤ k_) ∧ some k_ ≠ (v1_ : Value).ownBlock) v2_ r3 ∧ Below w.heap.size w w' := by
 have hu27 := Tryd.underlying27
 have hu114 := Tryd.underlying114
 have hu24 := Tryd.underlying24
 have hu62 := Tryd.underlying62
 have HB := Aside0.mk (Below.refl w.heap.size w)
 have H : (some (3, (([(⟨8, (([(([7] : List Int)), (([3, 7] : List Int)), (([0, 2, 4, 6] : List Int))] : List (List Int)))⟩ : S114), (⟨4, (([(([3] : List Int)), (([1] : List Int)), (([0, 2] : List Int))] : List (List Int)))⟩ : S114)] : List (S114))), (([(⟨1, (([0, 2, 4, 2, 1, 0] : List Int))⟩ : S62), (⟨0, (([0, 2, 3, 2, 4, 2, 1] : List Int))⟩ : S62), (⟨1, (([4, 2, 1, 0, 2] : List Int))⟩ : S62)] : List (S62))))) = some (r1, r2, r3) := h
 clear h
 obtain ⟨y129, hy129⟩ : ∃ y_ : List Int, y_ = (([7] : List Int)) := ⟨_, rfl⟩
 replace H : (some (3, (([(⟨8, (([y129, (([3, 7] : List Int)), (([0, 2, 4, 6] : List Int))] : List (List Int)))⟩ : S114), (⟨4, (([(([3] : List Int)), (([1] : List Int)), (([0, 2] : List Int))] : List (List Int)))⟩ : S114)] : List (S114))), (([(⟨1, (([0, 2, 4, 2, 1, 0] : List Int))⟩ : S62), (⟨0, (([0, 2, 3, 2, 4, 2, 1] : List Int))⟩ : S62), (⟨1, (([4, 2, 1, 0, 2] : List Int))⟩ : S62)] : List (S62))))) = some (r1, r2, r3) := by first | (rw [hy129]; with_reducible exact H) | (have H2_ := (Option.bind_some _ _).symm.trans H; rw [hy129]; with_reducible exact H2_) | (have H2_ := (Option.bind_some _ _).symm.trans H; with_reducible exact H2_) | with_reducible exact H | (rw [hy129]; exact H) | exact H
 have Ny129 := Aside0.mk hy129
 clear hy129
 obtain ⟨y132, hy132⟩ : ∃ y_ : List Int, y_ = (([3, 7] : List Int)) := ⟨_, rfl⟩
 replace H : (some (3, (([(⟨8, (([y129, y132, (([0, 2, 4, 6] : List Int))] : List (List Int)))⟩ : S114), (⟨4, (([(([3] : List Int)), (([1] : List Int)), (([0, 2] : List Int))] : List (List Int)))⟩ : S114)] : List (S114))), (([(⟨1, (([0, 2, 4, 2, 1, 0] : List Int))⟩ : S62), (⟨0, (([0, 2, 3, 2, 4, 2, 1] : List Int))⟩ : S62), (⟨1, (([4, 2, 1, 0, 2] : List Int))⟩ : S62)] : List (S62))))) = some (r1, r2, r3) := by first | (rw [hy132]; with_reducible exact H) | (have H2_ := (Option.bind_some _ _).symm.trans H; rw [hy132]; with_reducible exact H2_) | (have H2_ := (Option.bind_some _ _).symm.trans H; with_reducible exact H2_) | with_reducible exact H | (rw [hy132]; exact H) | exact H
 have Ny132 := Aside0.mk hy132
 clear hy132
 obtain ⟨y135, hy135⟩ : ∃ y_ : List Int, y_ = (([0, 2, 4, 6] : List Int)) := ⟨_, rfl⟩
 replace H : (some (3, (([(⟨8, (([y129, y132, y135] : List (List Int)))⟩ : S114), (⟨4, (([(([3] : List Int)), (([1] : List Int)), (([0, 2] : List Int))] : List (List Int)))⟩ : S114)] : List (S114))), (([(⟨1, (([0, 2, 4, 2, 1, 0] : List Int))⟩ : S62), (⟨0, (([0, 2, 3, 2, 4, 2, 1] : List Int))⟩ : S62), (⟨1, (([4, 2, 1, 0, 2] : List Int))⟩ : S62)] : List (S62))))) = some (r1, r2, r3) := by first | (rw [hy135]; with_reducible exact H) | (have H2_ := (Option.bind_some _ _).symm.trans H; rw [hy135]; with_reducible exact H2_) | (have H2_ := (Option.bind_some _ _).symm.trans H; with_reducible exact H2_) | with_reducible exact H | (rw [hy135]; exact H) | exact H
 have Ny135 := Aside0.mk hy135
 clear hy135
 obtain ⟨y138, hy138⟩ : ∃ y_ : List (List Int), y_ = (([y129, y132, y135] : List (List Int))) := ⟨_, rfl⟩
 replace H : (some (3, (([(⟨8, y138⟩ : S114), (⟨4, (([(([3] : List Int)), (([1] : List Int)), (([0, 2] : List Int))] : List (List Int)))⟩ : S114)] : List (S114))), (([(⟨1, (([0, 2, 4, 2, 1, 0] : List Int))⟩ : S62), (⟨0, (([0, 2, 3, 2, 4, 2, 1] : List Int))⟩ : S62), (⟨1, (([4, 2, 1, 0, 2] : List Int))⟩ : S62)] : List (S62))))) = some (r1, r2, r3) := by first | (rw [hy138]; with_reducible exact H) | (have H2_ := (Option.bind_some _ _).symm.trans H; rw [hy138]; with_reducible exact H2_) | (have H2_ := (Option.bind_some _ _).symm.trans H; with_reducible exact H2_) | with_reducible exact H | (rw [hy138]; exact H) | exact H
 have Ny138 := Aside0.mk hy138
 clear hy138
 obtain ⟨y141, hy141⟩ : ∃ y_ : List Int, y_ = (([3] : List Int)) := ⟨_, rfl⟩
 replace H : (some (3, (([(⟨8, y138⟩ : S114), (⟨4, (([y141, (([1] : List Int)), (([0, 2] : List Int))] : List (List Int)))⟩ : S114)] : List (S114))), (([(⟨1, (([0, 2, 4, 2, 1, 0] : List Int))⟩ : S62), (⟨0, (([0, 2, 3, 2, 4, 2, 1] : List Int))⟩ : S62), (⟨1, (([4, 2, 1, 0, 2] : List Int))⟩ : S62)] : List (S62))))) = some (r1, r2, r3) := by first | (rw [hy141]; with_reducible exact H) | (have H2_ := (Option.bind_some _ _).symm.trans H; rw [hy141]; with_reducible exact H2_) | (have H2_ := (Option.bind_some _ _).symm.trans H; with_reducible exact H2_) | with_reducible exact H | (rw [hy141]; exact H) | exact H
 have Ny141 := Aside0.mk hy141
 clear hy141
 obtain ⟨y144, hy144⟩ : ∃ y_ : List Int, y_ = (([1] : List Int)) := ⟨_, rfl⟩
 replace H : (some (3, (([(⟨8, y138⟩ : S114), (⟨4, (([y141, y144, (([0, 2] : List Int))] : List (List Int)))⟩ : S114)] : List (S114))), (([(⟨1, (([0, 2, 4, 2, 1, 0] : List Int))⟩ : S62), (⟨0, (([0, 2, 3, 2, 4, 2, 1] : List Int))⟩ : S62), (⟨1, (([4, 2, 1, 0, 2] : List Int))⟩ : S62)] : List (S62))))) = some (r1, r2, r3) := by first | (rw [hy144]; with_reducible exact H) | (have H2_ := (Option.bind_some _ _).symm.trans H; rw [hy144]; with_reducible exact H2_) | (have H2_ := (Option.bind_some _ _).symm.trans H; with_reducible exact H2_) | with_reducible exact H | (rw [hy144]; exact H) | exact H
 have Ny144 := Aside0.mk hy144
 clear hy144
 obtain ⟨y147, hy147⟩ : ∃ y_ : List Int, y_ = (([0, 2] : List Int)) := ⟨_, rfl⟩
 replace H : (some (3, (([(⟨8, y138⟩ : S114), (⟨4, (([y141, y144, y147] : List (List Int)))⟩ : S114)] : List (S114))), (([(⟨1, (([0, 2, 4, 2, 1, 0] : List Int))⟩ : S62), (⟨0, (([0, 2, 3, 2, 4, 2, 1] : List Int))⟩ : S62), (⟨1, (([4, 2, 1, 0, 2] : List Int))⟩ : S62)] : List (S62))))) = some (r1, r2, r3) := by first | (rw [hy147]; with_reducible exact H) | (have H2_ := (Option.bind_some _ _).symm.trans H; rw [hy147]; with_reducible exact H2_) | (have H2_ := (Option.bind_some _ _).symm.trans H; with_reducible exact H2_) | with_reducible exact H | (rw [hy147]; exact H) | exact H
 have Ny147 := Aside0.mk hy147
 clear hy147
 obtain ⟨y150, hy150⟩ : ∃ y_ : List (List Int), y_ = (([y141, y144, y147] : List (List Int))) := ⟨_, rfl⟩
 replace H : (some (3, (([(⟨8, y138⟩ : S114), (⟨4, y150⟩ : S114)] : List (S114))), (([(⟨1, (([0, 2, 4, 2, 1, 0] : List Int))⟩ : S62), (⟨0, (([0, 2, 3, 2, 4, 2, 1] : List Int))⟩ : S62), (⟨1, (([4, 2, 1, 0, 2] : List Int))⟩ : S62)] : List (S62))))) = some (r1, r2, r3) := by first | (rw [hy150]; with_reducible exact H) | (have H2_ := (Option.bind_some _ _).symm.trans H; rw [hy150]; with_reducible exact H2_) | (have H2_ := (Option.bind_some _ _).symm.trans H; with_reducible exact H2_) | with_reducible exact H | (rw [hy150]; exact H) | exact H
 have Ny150 := Aside0.mk hy150
 clear hy150
 obtain ⟨y153, hy153⟩ : ∃ y_ : List (S114), y_ = (([(⟨8, y138⟩ : S114), (⟨4, y150⟩ : S114)] : List (S114))) := ⟨_, rfl⟩
 replace H : (some (3, y153, (([(⟨1, (([0, 2, 4, 2, 1, 0] : List Int))⟩ : S62), (⟨0, (([0, 2, 3, 2, 4, 2, 1] : List Int))⟩ : S62), (⟨1, (([4, 2, 1, 0, 2] : List Int))⟩ : S62)] : List (S62))))) = some (r1, r2, r3) := by first | (rw [hy153]; with_reducible exact H) | (have H2_ := (Option.bind_some _ _).symm.trans H; rw [hy153]; with_reducible exact H2_) | (have H2_ := (Option.bind_some _ _).symm.trans H; with_reducible exact H2_) | with_reducible exact H | (rw [hy153]; exact H) | exact H
 have Ny153 := Aside0.mk hy153
 clear hy153
 obtain ⟨y157, hy157⟩ : ∃ y_ : List Int, y_ = (([0, 2, 4, 2, 1, 0] : List Int)) := ⟨_, rfl⟩
 replace H : (some (3, y153, (([(⟨1, y157⟩ : S62), (⟨0, (([0, 2, 3, 2, 4, 2, 1] : List Int))⟩ : S62), (⟨1, (([4, 2, 1, 0, 2] : List Int))⟩ : S62)] : List (S62))))) = some (r1, r2, r3) := by first | (rw [hy157]; with_reducible exact H) | (have H2_ := (Option.bind_some _ _).symm.trans H; rw [hy157]; with_reducible exact H2_) | (have H2_ := (Option.bind_some _ _).symm.trans H; with_reducible exact H2_) | with_reducible exact H | (rw [hy157]; exact H) | exact H
 have Ny157 := Aside0.mk hy157
 clear hy157
 obtain ⟨y160, hy160⟩ : ∃ y_ : List Int, y_ = (([0, 2, 3, 2, 4, 2, 1] : List Int)) := ⟨_, rfl⟩
 replace H : (some (3, y153, (([(⟨1, y157⟩ : S62), (⟨0, y160⟩ : S62), (⟨1, (([4, 2, 1, 0, 2] : List Int))⟩ : S62)] : List (S62))))) = some (r1, r2, r3) := by first | (rw [hy160]; with_reducible exact H) | (have H2_ := (Option.bind_some _ _).symm.trans H; rw [hy160]; with_reducible exact H2_) | (have H2_ := (Option.bind_some _ _).symm.trans H; with_reducible exact H2_) | with_reducible exact H | (rw [hy160]; exact H) | exact H
 have Ny160 := Aside0.mk hy160
 clear hy160
 obtain ⟨y163, hy163⟩ : ∃ y_ : List Int, y_ = (([4, 2, 1, 0, 2] : List Int)) := ⟨_, rfl⟩
 replace H : (some (3, y153, (([(⟨1, y157⟩ : S62), (⟨0, y160⟩ : S62), (⟨1, y163⟩ : S62)] : List (S62))))) = some (r1, r2, r3) := by first | (rw [hy163]; with_reducible exact H) | (have H2_ := (Option.bind_some _ _).symm.trans H; rw [hy163]; with_reducible exact H2_) | (have H2_ := (Option.bind_some _ _).symm.trans H; with_reducible exact H2_) | with_reducible exact H | (rw [hy163]; exact H) | exact H
 have Ny163 := Aside0.mk hy163
 clear hy163
 obtain ⟨y166, hy166⟩ : ∃ y_ : List (S62), y_ = (([(⟨1, y157⟩ : S62), (⟨0, y160⟩ : S62), (⟨1, y163⟩ : S62)] : List (S62))) := ⟨_, rfl⟩
 replace H : (some (3, y153, y166)) = some (r1, r2, r3) := by first | (rw [hy166]; with_reducible exact H) | (have H2_ := (Option.bind_some _ _).symm.trans H; rw [hy166]; with_reducible exact H2_) | (have H2_ := (Option.bind_some _ _).symm.trans H; with_reducible exact H2_) | with_reducible exact H | (rw [hy166]; exact H) | exact H
 have Ny166 := Aside0.mk hy166
 clear hy166
 simp only [Option.some.injEq, Prod.mk.injEq] at H
 obtain ⟨rfl, rfl, rfl⟩ := H
 go_enter Tryd.func49, Tryd.ntmps49
 go_wp2_with (first | ((with_reducible refine gate_dst (N := 0) rfl ?_); refine box_event ?hg (N := 0) ?hd (cs := #[.int .i64 0, .slice none 0 0, .slice none 0 0]) (t := 27) ?hr ?_; (case hd => rfl); (case hg => rfl); (case hr => exact TS); intro gb128 hg w1 hbox hb; have BK128 := Aside0.mk (hbox); have GW128 := Aside0.mk ((TG : w.heap.size ≤ gb128)); have GE128 := Aside0.mk ((TG : w.heap.size ≤ gb128)); replace HB := Aside0.mk (below_step TB hb); clear hb hbox hg) | ((with_reducible refine gate_dst (N := 2) rfl ?_); refine Kd.R_lit (Kd.int .i64) _ 3 ?hg (N := 2) ?hd (xs := ([7] : List Int)) (inner := [.int .i64 7]) (ok := fun _ => True) (okp := fun _ => True) ?hr ?hp (fun _ hk => hk) trivial (Below.refl _ _) (Nat.le_refl _) (by simp) ?_; (case hd => rfl); (case hg => rfl); (case hr => exact TS); (case hp => exact (Reps.one (show Kd.M (Kd.int .i64) _ _ _ 7 [.int .i64 7] from rfl) (Reps.none _ _))); intro v130 w2 ho3 hb hg_ hnew_; clear hg_ hnew_; (first | rw [← Ny129.out] at ho3 | (simp only [Int.reduceToNat] at ho3; rw [← Ny129.out] at ho3)); have HO131 := Aside0.mk (Kd.R_lower (Kd.R_newM (M := fun k_ => (w.heap.size ≤ k_)) ho3 (below_size (TB1 GE128.out)) (fun k_ h_ => h_)) (below_size (TB1 GE128.out))); replace BK128 := Aside0.mk (TKb hb BK128.out); replace HB := Aside0.mk (below_step (TB1 GE128.out) hb); clear hb ho3) | ((with_reducible refine gate_dst (N := 3) rfl ?_); refine Kd.R_lit (Kd.int .i64) _ 3 ?hg (N := 3) ?hd (xs := ([3, 7] : List Int)) (inner := [.int .i64 3, .int .i64 7]) (ok := fun _ => True) (okp := fun _ => True) ?hr ?hp (fun _ hk => hk) trivial (Below.refl _ _) (Nat.le_refl _) (by simp) ?_; (case hd => rfl); (case hg => rfl); (case hr => exact TS); (case hp => exact (Reps.one (show Kd.M (Kd.int .i64) _ _ _ 3 [.int .i64 3] from rfl) (Reps.one (show Kd.M (Kd.int .i64) _ _ _ 7 [.int .i64 7] from rfl) (Reps.none _ _)))); intro v133 w4 ho5 hb hg_ hnew_; clear hg_ hnew_; (first | rw [← Ny132.out] at ho5 | (simp only [Int.reduceToNat] at ho5; rw [← Ny132.out] at ho5)); have HO134 := Aside0.mk (Kd.R_lower (Kd.R_new' (Kd.R_newM (M := fun k_ => (w.heap.size ≤ k_)) ho5 (below_size (TB1 GE128.out)) (fun k_ h_ => h_)) (Kd.R_lt (TRo HO131.out))) (below_size (TB1 GE128.out))); replace HO131 := Aside0.mk (Kd.R_elder' (TRo HO131.out) (Kd.R_base ho5) hb); replace BK128 := Aside0.mk (TKb hb BK128.out); replace HB := Aside0.mk (below_step (TB1 GE128.out) hb); clear hb ho5) | ((with_reducible refine gate_dst (N := 4) rfl ?_); refine Kd.R_lit (Kd.int .i64) _ 3 ?hg (N := 4) ?hd (xs := ([0, 2, 4, 6] : List Int)) (inner := [.int .i64 0, .int .i64 2, .int .i64 4, .int .i64 6]) (ok := fun _ => True) (okp := fun _ => True) ?hr ?hp (fun _ hk => hk) trivial (Below.refl _ _) (Nat.le_refl _) (by simp) ?_; (case hd => rfl); (case hg => rfl); (case hr => exact TS); (case hp => exact (Reps.one (show Kd.M (Kd.int .i64) _ _ _ 0 [.int .i64 0] from rfl) (Reps.one (show Kd.M (Kd.int .i64) _ _ _ 2 [.int .i64 2] from rfl) (Reps.one (show Kd.M (Kd.int .i64) _ _ _ 4 [.int .i64 4] from rfl) (Reps.one (show Kd.M (Kd.int .i64) _ _ _ 6 [.int .i64 6] from rfl) (Reps.none _ _)))))); intro v136 w6 ho7 hb hg_ hnew_; clear hg_ hnew_; (first | rw [← Ny135.out] at ho7 | (simp only [Int.reduceToNat] at ho7; rw [← Ny135.out] at ho7)); have HO137 := Aside0.mk (Kd.R_lower (Kd.R_new' (Kd.R_new' (Kd.R_newM (M := fun k_ => (w.heap.size ≤ k_)) ho7 (below_size (TB1 GE128.out)) (fun k_ h_ => h_)) (Kd.R_lt (TRo HO131.out))) (Kd.R_lt (TRo HO134.out))) (below_size (TB1 GE128.out))); replace HO131 := Aside0.mk (Kd.R_elder' (TRo HO131.out) (Kd.R_base ho7) hb); replace HO134 := Aside0.mk (Kd.R_elder' (TRo HO134.out) (Kd.R_base ho7) hb); replace BK128 := Aside0.mk (TKb hb BK128.out); replace HB := Aside0.mk (below_step (TB1 GE128.out) hb); clear hb ho7; obtain ⟨Ao8, co8, eo8⟩ := Kd.R_slice HO131.out; subst eo8; obtain ⟨Ao9, co9, eo9⟩ := Kd.R_slice HO134.out; subst eo9; obtain ⟨Ao10, co10, eo10⟩ := Kd.R_slice HO137.out; subst eo10) | ((with_reducible refine gate_dst (N := 5) rfl ?_); refine Kd.N_lit (Kd.slice 3 (Kd.int .i64)) _ 28 ?hg (N' := 5) ?hd (xs := ([y129, y132, y135] : List (List Int))) (inner := [.slice Ao8 y129.length co8, .slice Ao9 y132.length co9, .slice Ao10 y135.length co10]) (ok := (fun k_ => (w.heap.size ≤ k_) ∧ k_ ≠ gb128)) (okp := (fun k_ => (w.heap.size ≤ k_) ∧ k_ ≠ gb128)) ?hr ?hp (fun _ hk => hk) ((show ∀ k_, w6.heap.size ≤ k_ → (fun k_ => (w.heap.size ≤ k_) ∧ k_ ≠ gb128) k_ from fun k_ hk => ⟨(Nat.le_trans (below_size (TB1 GE128.out)) hk), Kd.freshB (g := gb128) (o := .cells #[.int .i64 0, .slice none 0 0, .slice none 0 0] 27 (0, 0)) (TK BK128.out) k_ hk⟩) _ (Nat.le_refl _)) (Below.refl _ _) (Nat.le_refl _) (by simp) ?_; (case hd => rfl); (case hg => rfl); (case hr => exact TS); (case hp => exact (Reps.one (show Kd.FK (Kd.slice 3 (Kd.int .i64)) _ _ y129 [.slice Ao8 y129.length co8] from (Kd.FK_slice_mk (Kd.R_reads' (Kd.R_mono (ok' := (fun k_ => (w.heap.size ≤ k_) ∧ k_ ≠ gb128)) (Kd.R_types (HO131.out) BK128.out (by decide)) (fun k_ hk => ⟨hk.1.1.1.1, hk.2⟩))).2.1 (Kd.R_F (Kd.R_mono (ok' := (fun k_ => (w.heap.size ≤ k_) ∧ k_ ≠ gb128)) (Kd.R_types (HO131.out) BK128.out (by decide)) (fun k_ hk => ⟨hk.1.1.1.1, hk.2⟩))))) (Reps.one (show Kd.FK (Kd.slice 3 (Kd.int .i64)) _ _ y132 [.slice Ao9 y132.length co9] from (Kd.FK_slice_mk (Kd.R_reads' (Kd.R_mono (ok' := (fun k_ => (w.heap.size ≤ k_) ∧ k_ ≠ gb128)) (Kd.R_types (HO134.out) BK128.out (by decide)) (fun k_ hk => ⟨hk.1.1.1.1, hk.2⟩))).2.1 (Kd.R_F (Kd.R_mono (ok' := (fun k_ => (w.heap.size ≤ k_) ∧ k_ ≠ gb128)) (Kd.R_types (HO134.out) BK128.out (by decide)) (fun k_ hk => ⟨hk.1.1.1.1, hk.2⟩))))) (Reps.one (show Kd.FK (Kd.slice 3 (Kd.int .i64)) _ _ y135 [.slice Ao10 y135.length co10] from (Kd.FK_slice_mk (Kd.R_reads' (Kd.R_mono (ok' := (fun k_ => (w.heap.size ≤ k_) ∧ k_ ≠ gb128)) (Kd.R_types (HO137.out) BK128.out (by decide)) (fun k_ hk => ⟨hk.1.1.1.1, hk.2⟩))).2.1 (Kd.R_F (Kd.R_mono (ok' := (fun k_ => (w.heap.size ≤ k_) ∧ k_ ≠ gb128)) (Kd.R_types (HO137.out) BK128.out (by decide)) (fun k_ hk => ⟨hk.1.1.1.1, hk.2⟩))))) (Reps.none _ _))))); intro v139 w11 ho12 hb hg_ hnew_; clear hg_ hnew_; (first | rw [← Ny138.out] at ho12 | (simp only [Int.reduceToNat] at ho12; rw [← Ny138.out] at ho12)); have HO140 := Aside0.mk (Kd.N_lower ho12 (below_size (TB1 GE128.out))); replace BK128 := Aside0.mk (TKb hb BK128.out); replace HB := Aside0.mk (below_step (TB1 GE128.out) hb); clear HO131 HO134 HO137; clear hb ho12; obtain ⟨Ao13, co13, eo13⟩ := Kd.N_slice HO140.out; subst eo13) | ((with_reducible refine gate_dst (N := 7) rfl ?_); refine Kd.R_lit (Kd.int .i64) _ 3 ?hg (N := 7) ?hd (xs := ([3] : List Int)) (inner := [.int .i64 3]) (ok := fun _ => True) (okp := fun _ => True) ?hr ?hp (fun _ hk => hk) trivial (Below.refl _ _) (Nat.le_refl _) (by simp) ?_; (case hd => rfl); (case hg => rfl); (case hr => exact TS); (case hp => exact (Reps.one (show Kd.M (Kd.int .i64) _ _ _ 3 [.int .i64 3] from rfl) (Reps.none _ _))); intro v142 w14 ho15 hb hg_ hnew_; clear hg_ hnew_; (first | rw [← Ny141.out] at ho15 | (simp only [Int.reduceToNat] at ho15; rw [← Ny141.out] at ho15)); have HO143 := Aside0.mk (Kd.R_lower (Kd.R_newM (M := fun k_ => (w.heap.size ≤ k_)) ho15 (below_size (TB1 GE128.out)) (fun k_ h_ => h_)) (below_size (TB1 GE128.out))); replace HO140 := Aside0.mk (Kd.N_elder' (TNo HO140.out) (Kd.R_base ho15) hb); replace BK128 := Aside0.mk (TKb hb BK128.out); replace HB := Aside0.mk (below_step (TB1 GE128.out) hb); clear hb ho15) | ((with_reducible refine gate_dst (N := 8) rfl ?_); refine Kd.R_lit (Kd.int .i64) _ 3 ?hg (N := 8) ?hd (xs := ([1] : List Int)) (inner := [.int .i64 1]) (ok := fun _ => True) (okp := fun _ => True) ?hr ?hp (fun _ hk => hk) trivial (Below.refl _ _) (Nat.le_refl _) (by simp) ?_; (case hd => rfl); (case hg => rfl); (case hr => exact TS); (case hp => exact (Reps.one (show Kd.M (Kd.int .i64) _ _ _ 1 [.int .i64 1] from rfl) (Reps.none _ _))); intro v145 w16 ho17 hb hg_ hnew_; clear hg_ hnew_; (first | rw [← Ny144.out] at ho17 | (simp only [Int.reduceToNat] at ho17; rw [← Ny144.out] at ho17)); have HO146 := Aside0.mk (Kd.R_lower (Kd.R_new' (Kd.R_newM (M := fun k_ => (w.heap.size ≤ k_)) ho17 (below_size (TB1 GE128.out)) (fun k_ h_ => h_)) (Kd.R_lt (TRo HO143.out))) (below_size (TB1 GE128.out))); replace HO140 := Aside0.mk (Kd.N_elder' (TNo HO140.out) (Kd.R_base ho17) hb); replace HO143 := Aside0.mk (Kd.R_elder' (TRo HO143.out) (Kd.R_base ho17) hb); replace BK128 := Aside0.mk (TKb hb BK128.out); replace HB := Aside0.mk (below_step (TB1 GE128.out) hb); clear hb ho17) | ((with_reducible refine gate_dst (N := 9) rfl ?_); refine Kd.R_lit (Kd.int .i64) _ 3 ?hg (N := 9) ?hd (xs := ([0, 2] : List Int)) (inner := [.int .i64 0, .int .i64 2]) (ok := fun _ => True) (okp := fun _ => True) ?hr ?hp (fun _ hk => hk) trivial (Below.refl _ _) (Nat.le_refl _) (by simp) ?_; (case hd => rfl); (case hg => rfl); (case hr => exact TS); (case hp => exact (Reps.one (show Kd.M (Kd.int .i64) _ _ _ 0 [.int .i64 0] from rfl) (Reps.one (show Kd.M (Kd.int .i64) _ _ _ 2 [.int .i64 2] from rfl) (Reps.none _ _)))); intro v148 w18 ho19 hb hg_ hnew_; clear hg_ hnew_; (first | rw [← Ny147.out] at ho19 | (simp only [Int.reduceToNat] at ho19; rw [← Ny147.out] at ho19)); have HO149 := Aside0.mk (Kd.R_lower (Kd.R_new' (Kd.R_new' (Kd.R_newM (M := fun k_ => (w.heap.size ≤ k_)) ho19 (below_size (TB1 GE128.out)) (fun k_ h_ => h_)) (Kd.R_lt (TRo HO143.out))) (Kd.R_lt (TRo HO146.out))) (below_size (TB1 GE128.out))); replace HO140 := Aside0.mk (Kd.N_elder' (TNo HO140.out) (Kd.R_base ho19) hb); replace HO143 := Aside0.mk (Kd.R_elder' (TRo HO143.out) (Kd.R_base ho19) hb); replace HO146 := Aside0.mk (Kd.R_elder' (TRo HO146.out) (Kd.R_base ho19) hb); replace BK128 := Aside0.mk (TKb hb BK128.out); replace HB := Aside0.mk (below_step (TB1 GE128.out) hb); clear hb ho19; obtain ⟨Ao20, co20, eo20⟩ := Kd.R_slice HO143.out; subst eo20; obtain ⟨Ao21, co21, eo21⟩ := Kd.R_slice HO146.out; subst eo21; obtain ⟨Ao22, co22, eo22⟩ := Kd.R_slice HO149.out; subst eo22) | ((with_reducible refine gate_dst (N := 10) rfl ?_); refine Kd.N_lit (Kd.slice 3 (Kd.int .i64)) _ 28 ?hg (N' := 10) ?hd (xs := ([y141, y144, y147] : List (List Int))) (inner := [.slice Ao20 y141.length co20, .slice Ao21 y144.length co21, .slice Ao22 y147.length co22]) (ok := (fun k_ => (w.heap.size ≤ k_) ∧ some k_ ≠ (.slice Ao13 y138.length co13 : Value).ownBlock ∧ k_ ≠ gb128)) (okp := (fun k_ => (w.heap.size ≤ k_) ∧ some k_ ≠ (.slice Ao13 y138.length co13 : Value).ownBlock ∧ k_ ≠ gb128)) ?hr ?hp (fun _ hk => hk) ((show ∀ k_, w18.heap.size ≤ k_ → (fun k_ => (w.heap.size ≤ k_) ∧ some k_ ≠ (.slice Ao13 y138.length co13 : Value).ownBlock ∧ k_ ≠ gb128) k_ from fun k_ hk => ⟨(Nat.le_trans (below_size (TB1 GE128.out)) hk), Kd.fresh' (Kd.N_lt (TNo HO140.out)) k_ hk, Kd.freshB (g := gb128) (o := .cells #[.int .i64 0, .slice none 0 0, .slice none 0 0] 27 (0, 0)) (TK BK128.out) k_ hk⟩) _ (Nat.le_refl _)) (Below.refl _ _) (Nat.le_refl _) (by simp) ?_; (case hd => rfl); (case hg => rfl); (case hr => exact TS); (case hp => exact (Reps.one (show Kd.FK (Kd.slice 3 (Kd.int .i64)) _ _ y141 [.slice Ao20 y141.length co20] from (Kd.FK_slice_mk (Kd.R_reads' (Kd.R_mono (ok' := (fun k_ => (w.heap.size ≤ k_) ∧ some k_ ≠ (.slice Ao13 y138.length co13 : Value).ownBlock ∧ k_ ≠ gb128)) (Kd.R_types (Kd.R_apart' (HO143.out) (Kd.N_typed HO140.out) (by decide)) BK128.out (by decide)) (fun k_ hk => ⟨hk.1.1.1.1.1, ⟨hk.1.2, hk.2⟩⟩))).2.1 (Kd.R_F (Kd.R_mono (ok' := (fun k_ => (w.heap.size ≤ k_) ∧ some k_ ≠ (.slice Ao13 y138.length co13 : Value).ownBlock ∧ k_ ≠ gb128)) (Kd.R_types (Kd.R_apart' (HO143.out) (Kd.N_typed HO140.out) (by decide)) BK128.out (by decide)) (fun k_ hk => ⟨hk.1.1.1.1.1, ⟨hk.1.2, hk.2⟩⟩))))) (Reps.one (show Kd.FK (Kd.slice 3 (Kd.int .i64)) _ _ y144 [.slice Ao21 y144.length co21] from (Kd.FK_slice_mk (Kd.R_reads' (Kd.R_mono (ok' := (fun k_ => (w.heap.size ≤ k_) ∧ some k_ ≠ (.slice Ao13 y138.length co13 : Value).ownBlock ∧ k_ ≠ gb128)) (Kd.R_types (Kd.R_apart' (HO146.out) (Kd.N_typed HO140.out) (by decide)) BK128.out (by decide)) (fun k_ hk => ⟨hk.1.1.1.1.1, ⟨hk.1.2, hk.2⟩⟩))).2.1 (Kd.R_F (Kd.R_mono (ok' := (fun k_ => (w.heap.size ≤ k_) ∧ some k_ ≠ (.slice Ao13 y138.length co13 : Value).ownBlock ∧ k_ ≠ gb128)) (Kd.R_types (Kd.R_apart' (HO146.out) (Kd.N_typed HO140.out) (by decide)) BK128.out (by decide)) (fun k_ hk => ⟨hk.1.1.1.1.1, ⟨hk.1.2, hk.2⟩⟩))))) (Reps.one (show Kd.FK (Kd.slice 3 (Kd.int .i64)) _ _ y147 [.slice Ao22 y147.length co22] from (Kd.FK_slice_mk (Kd.R_reads' (Kd.R_mono (ok' := (fun k_ => (w.heap.size ≤ k_) ∧ some k_ ≠ (.slice Ao13 y138.length co13 : Value).ownBlock ∧ k_ ≠ gb128)) (Kd.R_types (Kd.R_apart' (HO149.out) (Kd.N_typed HO140.out) (by decide)) BK128.out (by decide)) (fun k_ hk => ⟨hk.1.1.1.1.1, ⟨hk.1.2, hk.2⟩⟩))).2.1 (Kd.R_F (Kd.R_mono (ok' := (fun k_ => (w.heap.size ≤ k_) ∧ some k_ ≠ (.slice Ao13 y138.length co13 : Value).ownBlock ∧ k_ ≠ gb128)) (Kd.R_types (Kd.R_apart' (HO149.out) (Kd.N_typed HO140.out) (by decide)) BK128.out (by decide)) (fun k_ hk => ⟨hk.1.1.1.1.1, ⟨hk.1.2, hk.2⟩⟩))))) (Reps.none _ _))))); intro v151 w23 ho24 hb hg_ hnew_; clear hg_ hnew_; (first | rw [← Ny150.out] at ho24 | (simp only [Int.reduceToNat] at ho24; rw [← Ny150.out] at ho24)); have HO152 := Aside0.mk (Kd.N_lower ho24 (below_size (TB1 GE128.out))); replace HO140 := Aside0.mk (Kd.N_elder' (TNo HO140.out) (Kd.N_base ho24) hb); replace BK128 := Aside0.mk (TKb hb BK128.out); replace HB := Aside0.mk (below_step (TB1 GE128.out) hb); clear HO143 HO146 HO149; clear hb ho24; obtain ⟨Ao25, co25, eo25⟩ := Kd.N_slice HO152.out; subst eo25) | ((with_reducible refine gate_dst (N := 12) rfl ?_); refine Kd.N_lit k114 _ 114 ?hg (N' := 12) ?hd (xs := ([(⟨8, y138⟩ : S114), (⟨4, y150⟩ : S114)] : List (S114))) (inner := [.int .i64 8, .slice Ao13 y138.length co13, .int .i64 4, .slice Ao25 y150.length co25]) (ok := (fun k_ => (w.heap.size ≤ k_) ∧ k_ ≠ gb128)) (okp := (fun k_ => (w.heap.size ≤ k_) ∧ k_ ≠ gb128)) ?hr ?hp (fun _ hk => hk) ((show ∀ k_, w23.heap.size ≤ k_ → (fun k_ => (w.heap.size ≤ k_) ∧ k_ ≠ gb128) k_ from fun k_ hk => ⟨(Nat.le_trans (below_size (TB1 GE128.out)) hk), Kd.freshB (g := gb128) (o := .cells #[.int .i64 0, .slice none 0 0, .slice none 0 0] 27 (0, 0)) (TK BK128.out) k_ hk⟩) _ (Nat.le_refl _)) (Below.refl _ _) (Nat.le_refl _) (by simp) ?_; (case hd => rfl); (case hg => rfl); (case hr => exact TS); (case hp => exact (Reps.c2 (show Kd.FK k114 _ _ (⟨8, y138⟩ : S114) [.int .i64 8, .slice Ao13 y138.length co13] from (k114_mkF _ _ (⟨8, y138⟩ : S114) (Kd.N_reads' (Kd.N_mono (ok' := (fun k_ => (w.heap.size ≤ k_) ∧ k_ ≠ gb128)) (HO140.out) (fun k_ hk => ⟨hk.1.1.1.1.1, hk.1.1.1.1.2⟩))).2.1 (Kd.N_F (Kd.N_mono (ok' := (fun k_ => (w.heap.size ≤ k_) ∧ k_ ≠ gb128)) (HO140.out) (fun k_ hk => ⟨hk.1.1.1.1.1, hk.1.1.1.1.2⟩))))) (Reps.c2 (show Kd.FK k114 _ _ (⟨4, y150⟩ : S114) [.int .i64 4, .slice Ao25 y150.length co25] from (k114_mkF _ _ (⟨4, y150⟩ : S114) (Kd.N_reads' (Kd.N_mono (ok' := (fun k_ => (w.heap.size ≤ k_) ∧ k_ ≠ gb128)) (HO152.out) (fun k_ hk => ⟨hk.1, hk.2.2⟩))).2.1 (Kd.N_F (Kd.N_mono (ok' := (fun k_ => (w.heap.size ≤ k_) ∧ k_ ≠ gb128)) (HO152.out) (fun k_ hk => ⟨hk.1, hk.2.2⟩))))) (Reps.none _ _)))); intro v154 w26 ho27 hb hg_ hnew_; clear hg_ hnew_; (first | rw [← Ny153.out] at ho27 | (simp only [Int.reduceToNat] at ho27; rw [← Ny153.out] at ho27)); have HO155 := Aside0.mk (Kd.N_lower ho27 (below_size (TB1 GE128.out))); replace BK128 := Aside0.mk (TKb hb BK128.out); replace HB := Aside0.mk (below_step (TB1 GE128.out) hb); clear HO140 HO152; clear hb ho27; obtain ⟨Ao28, co28, eo28⟩ := Kd.N_slice HO155.out; subst eo28) | ((with_reducible refine gate_dst (N := 1) rfl ?_); refine box_event ?hg (N := 1) ?hd (cs := #[.int .i64 0, .slice none 0 0]) (t := 24) ?hr ?_; (case hd => rfl); (case hg => rfl); (case hr => exact TS); intro gb156 hg w29 hbox hb; have BK156 := Aside0.mk (hbox); have GW156 := Aside0.mk ((TG1 GE128.out : w.heap.size ≤ gb156)); have GE156 := Aside0.mk ((TG1 GE128.out : w.heap.size ≤ gb156)); have NB128_156 := Aside0.mk ((by rw [hg]; exact Nat.ne_of_lt (blk_lt (g := gb128) (o := .cells #[.int .i64 0, .slice none 0 0, .slice none 0 0] 27 (0, 0)) (TK BK128.out)) : gb128 ≠ gb156)); have NB156_128 := Aside0.mk ((by rw [hg]; exact Nat.ne_of_gt (blk_lt (g := gb128) (o := .cells #[.int .i64 0, .slice none 0 0, .slice none 0 0] 27 (0, 0)) (TK BK128.out)) : gb156 ≠ gb128)); replace HO155 := Aside0.mk (Kd.N_below (Kd.N_elderB (TNo HO155.out) gb156 (Nat.le_of_eq hg.symm)) hb); replace BK128 := Aside0.mk (TKb hb BK128.out); replace HB := Aside0.mk (below_step (TB1 GE128.out) hb); clear hb hbox hg; have hnb30 := NB156_128.out; have hnc30 := NB128_156.out; have hcz31_0 := cz BK156.out 0; have hcz31_1 := cz BK156.out 1; have hfz31_0 := fz BK156.out 0; have hfz31_1 := fz BK156.out 1) | ((with_reducible refine gate_dst (N := 15) rfl ?_); refine Kd.R_lit (Kd.int .i64) _ 3 ?hg (N := 15) ?hd (xs := ([0, 2, 4, 2, 1, 0] : List Int)) (inner := [.int .i64 0, .int .i64 2, .int .i64 4, .int .i64 2, .int .i64 1, .int .i64 0]) (ok := fun _ => True) (okp := fun _ => True) ?hr ?hp (fun _ hk => hk) trivial (Below.refl _ _) (Nat.le_refl _) (by simp) ?_; (case hd => rfl); (case hg => rfl); (case hr => exact TS); (case hp => exact (Reps.one (show Kd.M (Kd.int .i64) _ _ _ 0 [.int .i64 0] from rfl) (Reps.one (show Kd.M (Kd.int .i64) _ _ _ 2 [.int .i64 2] from rfl) (Reps.one (show Kd.M (Kd.int .i64) _ _ _ 4 [.int .i64 4] from rfl) (Reps.one (show Kd.M (Kd.int .i64) _ _ _ 2 [.int .i64 2] from rfl) (Reps.one (show Kd.M (Kd.int .i64) _ _ _ 1 [.int .i64 1] from rfl) (Reps.one (show Kd.M (Kd.int .i64) _ _ _ 0 [.int .i64 0] from rfl) (Reps.none _ _)))))))); intro v158 w32 ho33 hb hg_ hnew_; clear hg_ hnew_; (first | rw [← Ny157.out] at ho33 | (simp only [Int.reduceToNat] at ho33; rw [← Ny157.out] at ho33)); have HO159 := Aside0.mk (Kd.R_lower (Kd.R_newM (M := fun k_ => (w.heap.size ≤ k_)) ho33 (below_size (TB2 GE128.out GE156.out)) (fun k_ h_ => h_)) (below_size (TB2 GE128.out GE156.out))); replace HO155 := Aside0.mk (Kd.N_elder' (by (with_reducible repeat (first | apply Kd.N_alloc | apply Kd.N_drewN | apply Kd.N_drew)); exact (Kd.N_mono (Kd.N_far (p := ⟨gb156, 1, none⟩) (Kd.N_far (p := ⟨gb156, 0, none⟩) (Kd.N_mono HO155.out (fun k_ hk => (⟨hk, hk.2⟩ : _ ∧ k_ ≠ gb156))) (fun _ hk => hk.2) (.int .i64 3)) (fun _ hk => hk.2) (.slice Ao28 y153.length co28)) (fun _ h_ => h_.1))) (Kd.R_base ho33) hb); replace BK128 := Aside0.mk (blk_below (g := gb128) (o := .cells #[.int .i64 0, .slice none 0 0, .slice none 0 0] 27 (0, 0)) (by (with_reducible repeat (first | refine blk_drewN ?_ _ | refine blk_drew ?_ | refine blk_alloc ?_ _)); refine blk_far ?_ NB128_156.out _; (with_reducible repeat (first | refine blk_drewN ?_ _ | refine blk_drew ?_ | refine blk_alloc ?_ _)); refine blk_far ?_ NB128_156.out _; (with_reducible repeat (first | refine blk_drewN ?_ _ | refine blk_drew ?_ | refine blk_alloc ?_ _)); exact BK128.out) hb); replace BK156 := Aside0.mk (blk_below (g := gb156) (o := .cells #[.int .i64 3, .slice Ao28 y153.length co28] 24 (0, 0)) (by (with_reducible repeat (first | refine blk_drewN ?_ _ | refine blk_drew ?_ | refine blk_alloc ?_ _)); refine blk_put (cs := #[.int .i64 3, .slice none 0 0]) ?_ 1 _ rfl; (with_reducible repeat (first | refine blk_drewN ?_ _ | refine blk_drew ?_ | refine blk_alloc ?_ _)); refine blk_put (cs := #[.int .i64 0, .slice none 0 0]) ?_ 0 _ rfl; (with_reducible repeat (first | refine blk_drewN ?_ _ | refine blk_drew ?_ | refine blk_alloc ?_ _)); exact BK156.out) hb); replace HB := Aside0.mk (below_step (TB2 GE128.out GE156.out) hb); clear hb ho33; obtain ⟨Ao34, co34, eo34⟩ := Kd.R_slice HO159.out; subst eo34) | ((with_reducible refine gate_dst (N := 17) rfl ?_); refine Kd.R_lit (Kd.int .i64) _ 3 ?hg (N := 17) ?hd (xs := ([0, 2, 3, 2, 4, 2, 1] : List Int)) (inner := [.int .i64 0, .int .i64 2, .int .i64 3, .int .i64 2, .int .i64 4, .int .i64 2, .int .i64 1]) (ok := fun _ => True) (okp := fun _ => True) ?hr ?hp (fun _ hk => hk) trivial (Below.refl _ _) (Nat.le_refl _) (by simp) ?_; (case hd => rfl); (case hg => rfl); (case hr => exact TS); (case hp => exact (Reps.one (show Kd.M (Kd.int .i64) _ _ _ 0 [.int .i64 0] from rfl) (Reps.one (show Kd.M (Kd.int .i64) _ _ _ 2 [.int .i64 2] from rfl) (Reps.one (show Kd.M (Kd.int .i64) _ _ _ 3 [.int .i64 3] from rfl) (Reps.one (show Kd.M (Kd.int .i64) _ _ _ 2 [.int .i64 2] from rfl) (Reps.one (show Kd.M (Kd.int .i64) _ _ _ 4 [.int .i64 4] from rfl) (Reps.one (show Kd.M (Kd.int .i64) _ _ _ 2 [.int .i64 2] from rfl) (Reps.one (show Kd.M (Kd.int .i64) _ _ _ 1 [.int .i64 1] from rfl) (Reps.none _ _))))))))); intro v161 w35 ho36 hb hg_ hnew_; clear hg_ hnew_; (first | rw [← Ny160.out] at ho36 | (simp only [Int.reduceToNat] at ho36; rw [← Ny160.out] at ho36)); have HO162 := Aside0.mk (Kd.R_lower (Kd.R_new' (Kd.R_newM (M := fun k_ => (w.heap.size ≤ k_)) ho36 (below_size (TB2 GE128.out GE156.out)) (fun k_ h_ => h_)) (Kd.R_lt (TRo HO159.out))) (below_size (TB2 GE128.out GE156.out))); replace HO155 := Aside0.mk (Kd.N_elder' (TNo HO155.out) (Kd.R_base ho36) hb); replace HO159 := Aside0.mk (Kd.R_elder' (TRo HO159.out) (Kd.R_base ho36) hb); replace BK128 := Aside0.mk (TKb hb BK128.out); replace BK156 := Aside0.mk (TKb hb BK156.out); replace HB := Aside0.mk (below_step (TB2 GE128.out GE156.out) hb); clear hb ho36; obtain ⟨Ao37, co37, eo37⟩ := Kd.R_slice HO162.out; subst eo37) | ((with_reducible refine gate_dst (N := 19) rfl ?_); refine Kd.R_lit (Kd.int .i64) _ 3 ?hg (N := 19) ?hd (xs := ([4, 2, 1, 0, 2] : List Int)) (inner := [.int .i64 4, .int .i64 2, .int .i64 1, .int .i64 0, .int .i64 2]) (ok := fun _ => True) (okp := fun _ => True) ?hr ?hp (fun _ hk => hk) trivial (Below.refl _ _) (Nat.le_refl _) (by simp) ?_; (case hd => rfl); (case hg => rfl); (case hr => exact TS); (case hp => exact (Reps.one (show Kd.M (Kd.int .i64) _ _ _ 4 [.int .i64 4] from rfl) (Reps.one (show Kd.M (Kd.int .i64) _ _ _ 2 [.int .i64 2] from rfl) (Reps.one (show Kd.M (Kd.int .i64) _ _ _ 1 [.int .i64 1] from rfl) (Reps.one (show Kd.M (Kd.int .i64) _ _ _ 0 [.int .i64 0] from rfl) (Reps.one (show Kd.M (Kd.int .i64) _ _ _ 2 [.int .i64 2] from rfl) (Reps.none _ _))))))); intro v164 w38 ho39 hb hg_ hnew_; clear hg_ hnew_; (first | rw [← Ny163.out] at ho39 | (simp only [Int.reduceToNat] at ho39; rw [← Ny163.out] at ho39)); have HO165 := Aside0.mk (Kd.R_lower (Kd.R_new' (Kd.R_new' (Kd.R_newM (M := fun k_ => (w.heap.size ≤ k_)) ho39 (below_size (TB2 GE128.out GE156.out)) (fun k_ h_ => h_)) (Kd.R_lt (TRo HO159.out))) (Kd.R_lt (TRo HO162.out))) (below_size (TB2 GE128.out GE156.out))); replace HO155 := Aside0.mk (Kd.N_elder' (TNo HO155.out) (Kd.R_base ho39) hb); replace HO159 := Aside0.mk (Kd.R_elder' (TRo HO159.out) (Kd.R_base ho39) hb); replace HO162 := Aside0.mk (Kd.R_elder' (TRo HO162.out) (Kd.R_base ho39) hb); replace BK128 := Aside0.mk (TKb hb BK128.out); replace BK156 := Aside0.mk (TKb hb BK156.out); replace HB := Aside0.mk (below_step (TB2 GE128.out GE156.out) hb); clear hb ho39; obtain ⟨Ao40, co40, eo40⟩ := Kd.R_slice HO165.out; subst eo40) | ((with_reducible refine gate_dst (N := 21) rfl ?_); refine Kd.N_lit k62 _ 62 ?hg (N' := 21) ?hd (xs := ([(⟨1, y157⟩ : S62), (⟨0, y160⟩ : S62), (⟨1, y163⟩ : S62)] : List (S62))) (inner := [.int .i64 1, .slice Ao34 y157.length co34, .int .i64 0, .slice Ao37 y160.length co37, .int .i64 1, .slice Ao40 y163.length co40]) (ok := (fun k_ => (w.heap.size ≤ k_) ∧ some k_ ≠ (.slice Ao28 y153.length co28 : Value).ownBlock ∧ k_ ≠ gb128 ∧ k_ ≠ gb156)) (okp := (fun k_ => (w.heap.size ≤ k_) ∧ some k_ ≠ (.slice Ao28 y153.length co28 : Value).ownBlock ∧ k_ ≠ gb128 ∧ k_ ≠ gb156)) ?hr ?hp (fun _ hk => hk) ((show ∀ k_, w38.heap.size ≤ k_ → (fun k_ => (w.heap.size ≤ k_) ∧ some k_ ≠ (.slice Ao28 y153.length co28 : Value).ownBlock ∧ k_ ≠ gb128 ∧ k_ ≠ gb156) k_ from fun k_ hk => ⟨(Nat.le_trans (below_size (TB2 GE128.out GE156.out)) hk), Kd.fresh' (Kd.N_lt (TNo HO155.out)) k_ hk, Kd.freshB (g := gb128) (o := .cells #[.int .i64 0, .slice none 0 0, .slice none 0 0] 27 (0, 0)) (TK BK128.out) k_ hk, Kd.freshB (g := gb156) (o := .cells #[.int .i64 3, .slice Ao28 y153.length co28] 24 (0, 0)) (TK BK156.out) k_ hk⟩) _ (Nat.le_refl _)) (Below.refl _ _) (Nat.le_refl _) (by simp) ?_; (case hd => rfl); (case hg => rfl); (case hr => exact TS); (case hp => exact (Reps.c2 (show Kd.FK k62 _ _ (⟨1, y157⟩ : S62) [.int .i64 1, .slice Ao34 y157.length co34] from (k62_mkF _ _ (⟨1, y157⟩ : S62) (Kd.R_reads' (Kd.R_mono (ok' := (fun k_ => (w.heap.size ≤ k_) ∧ some k_ ≠ (.slice Ao28 y153.length co28 : Value).ownBlock ∧ k_ ≠ gb128 ∧ k_ ≠ gb156)) (Kd.R_types (Kd.R_types (Kd.R_apart' (HO159.out) (Kd.N_typed HO155.out) (by decide)) BK128.out (by decide)) BK156.out (by decide)) (fun k_ hk => ⟨hk.1.1.1.1.1.1, ⟨hk.1.1.2, ⟨hk.1.2, hk.2⟩⟩⟩))).2.1 (Kd.R_F (Kd.R_mono (ok' := (fun k_ => (w.heap.size ≤ k_) ∧ some k_ ≠ (.slice Ao28 y153.length co28 : Value).ownBlock ∧ k_ ≠ gb128 ∧ k_ ≠ gb156)) (Kd.R_types (Kd.R_types (Kd.R_apart' (HO159.out) (Kd.N_typed HO155.out) (by decide)) BK128.out (by decide)) BK156.out (by decide)) (fun k_ hk => ⟨hk.1.1.1.1.1.1, ⟨hk.1.1.2, ⟨hk.1.2, hk.2⟩⟩⟩))))) (Reps.c2 (show Kd.FK k62 _ _ (⟨0, y160⟩ : S62) [.int .i64 0, .slice Ao37 y160.length co37] from (k62_mkF _ _ (⟨0, y160⟩ : S62) (Kd.R_reads' (Kd.R_mono (ok' := (fun k_ => (w.heap.size ≤ k_) ∧ some k_ ≠ (.slice Ao28 y153.length co28 : Value).ownBlock ∧ k_ ≠ gb128 ∧ k_ ≠ gb156)) (Kd.R_types (Kd.R_types (Kd.R_apart' (HO162.out) (Kd.N_typed HO155.out) (by decide)) BK128.out (by decide)) BK156.out (by decide)) (fun k_ hk => ⟨hk.1.1.1.1.1.1, ⟨hk.1.1.2, ⟨hk.1.2, hk.2⟩⟩⟩))).2.1 (Kd.R_F (Kd.R_mono (ok' := (fun k_ => (w.heap.size ≤ k_) ∧ some k_ ≠ (.slice Ao28 y153.length co28 : Value).ownBlock ∧ k_ ≠ gb128 ∧ k_ ≠ gb156)) (Kd.R_types (Kd.R_types (Kd.R_apart' (HO162.out) (Kd.N_typed HO155.out) (by decide)) BK128.out (by decide)) BK156.out (by decide)) (fun k_ hk => ⟨hk.1.1.1.1.1.1, ⟨hk.1.1.2, ⟨hk.1.2, hk.2⟩⟩⟩))))) (Reps.c2 (show Kd.FK k62 _ _ (⟨1, y163⟩ : S62) [.int .i64 1, .slice Ao40 y163.length co40] from (k62_mkF _ _ (⟨1, y163⟩ : S62) (Kd.R_reads' (Kd.R_mono (ok' := (fun k_ => (w.heap.size ≤ k_) ∧ some k_ ≠ (.slice Ao28 y153.length co28 : Value).ownBlock ∧ k_ ≠ gb128 ∧ k_ ≠ gb156)) (Kd.R_types (Kd.R_types (Kd.R_apart' (HO165.out) (Kd.N_typed HO155.out) (by decide)) BK128.out (by decide)) BK156.out (by decide)) (fun k_ hk => ⟨hk.1.1.1.1.1.1, ⟨hk.1.1.2, ⟨hk.1.2, hk.2⟩⟩⟩))).2.1 (Kd.R_F (Kd.R_mono (ok' := (fun k_ => (w.heap.size ≤ k_) ∧ some k_ ≠ (.slice Ao28 y153.length co28 : Value).ownBlock ∧ k_ ≠ gb128 ∧ k_ ≠ gb156)) (Kd.R_types (Kd.R_types (Kd.R_apart' (HO165.out) (Kd.N_typed HO155.out) (by decide)) BK128.out (by decide)) BK156.out (by decide)) (fun k_ hk => ⟨hk.1.1.1.1.1.1, ⟨hk.1.1.2, ⟨hk.1.2, hk.2⟩⟩⟩))))) (Reps.none _ _))))); intro v167 w41 ho42 hb hg_ hnew_; clear hg_ hnew_; (first | rw [← Ny166.out] at ho42 | (simp only [Int.reduceToNat] at ho42; rw [← Ny166.out] at ho42)); have HO168 := Aside0.mk (Kd.N_lower ho42 (below_size (TB2 GE128.out GE156.out))); replace HO155 := Aside0.mk (Kd.N_elder' (TNo HO155.out) (Kd.N_base ho42) hb); replace BK128 := Aside0.mk (TKb hb BK128.out); replace BK156 := Aside0.mk (TKb hb BK156.out); replace HB := Aside0.mk (below_step (TB2 GE128.out GE156.out) hb); clear HO159 HO162 HO165; clear hb ho42; obtain ⟨Ao43, co43, eo43⟩ := Kd.N_slice HO168.out; subst eo43; have hcz44_0 := cz BK128.out 0; have hcz44_1 := cz BK128.out 1; have hcz44_2 := cz BK128.out 2; have hfz44_0 := fz BK128.out 0; have hfz44_1 := fz BK128.out 1; have hfz44_2 := fz BK128.out 2))
 refine bodyPost_ret (results_cell_row rfl _ _ gb128 27 #[.int .i64 3, .slice Ao28 y153.length co28, .slice Ao43 y166.length co43] (0, 0) _ rfl (by (with_reducible repeat (first | refine blk_drewN ?_ _ | refine blk_drew ?_ | refine blk_alloc ?_ _)); refine blk_put (cs := #[.int .i64 3, .slice Ao28 y153.length co28, .slice none 0 0]) ?_ 2 _ rfl; (with_reducible repeat (first | refine blk_drewN ?_ _ | refine blk_drew ?_ | refine blk_alloc ?_ _)); refine blk_put (cs := #[.int .i64 3, .slice none 0 0, .slice none 0 0]) ?_ 1 _ rfl; (with_reducible repeat (first | refine blk_drewN ?_ _ | refine blk_drew ?_ | refine blk_alloc ?_ _)); refine blk_put (cs := #[.int .i64 0, .slice none 0 0, .slice none 0 0]) ?_ 0 _ rfl; (with_reducible repeat (first | refine blk_drewN ?_ _ | refine blk_drew ?_ | refine blk_alloc ?_ _)); exact BK128.out) Tryd.underlying27 rfl (by kernel_rfl)) rfl ?_
 exact ⟨_, _, TR, by (with_reducible repeat (first | apply Kd.N_alloc | apply Kd.N_drewN | apply Kd.N_drew)); exact Kd.N_mono (Kd.N_far (p := ⟨gb128, 2, none⟩) (Kd.N_far (p := ⟨gb128, 1, none⟩) (Kd.N_far (p := ⟨gb128, 0, none⟩) (Kd.N_mono HO155.out (fun k_ hk => (⟨hk, hk.1.1.1.1.1.2⟩ : _ ∧ k_ ≠ gb128))) (fun _ hk => hk.2) (.int .i64 3)) (fun _ hk => hk.2) (.slice Ao28 y153.length co28)) (fun _ hk => hk.2) (.slice Ao43 y166.length co43)) (fun _ hk => ⟨hk.1.1.1.1.1.1.1, hk.1.2⟩), by (with_reducible repeat (first | apply Kd.N_alloc | apply Kd.N_drewN | apply Kd.N_drew)); exact Kd.N_mono (Kd.N_far (p := ⟨gb128, 2, none⟩) (Kd.N_far (p := ⟨gb128, 1, none⟩) (Kd.N_far (p := ⟨gb128, 0, none⟩) (Kd.N_mono HO168.out (fun k_ hk => (⟨hk, hk.2.2.1⟩ : _ ∧ k_ ≠ gb128))) (fun _ hk => hk.2) (.int .i64 3)) (fun _ hk => hk.2) (.slice Ao28 y153.length co28)) (fun _ hk => hk.2) (.slice Ao43 y166.length co43)) (fun _ hk => ⟨hk.1.1, hk.1.2.1⟩), TB2 GE128.out GE156.out⟩
/-! ### saronlaw09_first: function 51 -/
def saronlaw09_first.f (a0 : Int) (a1 : Int) : Option (List Int × List Int × Int × Int) := some ((([2, 4, 1] : List Int)), ([] : List Int), a0, a1)
set_option maxHeartbeats 8000000 in
set_option maxRecDepth 100000 in
theorem saronlaw09_first.calls (a0 : Int) (a1 : Int) (r1 : List Int) (r2 : List Int) (r3 : Int) (r4 : Int) (w : World) (h : saronlaw09_first.f a0 a1 = some (r1, r2, r3, r4)) :
  Calls Tryd.prog 51 #[.int .i64 a0, .int .i64 a1] w fun e w' => ∃ v0_ v1_ : Value, e = .returned (.agg #[v0_, v1_, .int .i64 r3, .int .i64 r4]) ∧ Kd.R (Kd.int .i64) 3 w' w.heap.size (fun k_ => some k_ ≠ (v1_ : Value).ownBlock) v0_ r1 ∧ Kd.R (Kd.int .i64) 3 w' w.heap.size (fun k_ => some k_ ≠ (v0_ : Value).ownBlock) v1_ r2 ∧ Below w.heap.size w w' := by
 have hu30 := Tryd.underlying30
 have HB := Aside0.mk (Below.refl w.heap.size w)
 have H : (some ((([2, 4, 1] : List Int)), ([] : List Int), a0, a1)) = some (r1, r2, r3, r4) := h
 clear h
 obtain ⟨y170, hy170⟩ : ∃ y_ : List Int, y_ = (([2, 4, 1] : List Int)) := ⟨_, rfl⟩
 replace H : (some (y170, ([] : List Int), a0, a1)) = some (r1, r2, r3, r4) := by first | (rw [hy170]; with_reducible exact H) | (have H2_ := (Option.bind_some _ _).symm.trans H; rw [hy170]; with_reducible exact H2_) | (have H2_ := (Option.bind_some _ _).symm.trans H; with_reducible exact H2_) | with_reducible exact H | (rw [hy170]; exact H) | exact H
 have Ny170 := Aside0.mk hy170
 clear hy170
 simp only [Option.some.injEq, Prod.mk.injEq] at H
 obtain ⟨rfl, rfl, rfl, rfl⟩ := H
 go_enter Tryd.func51, Tryd.ntmps51
 go_wp2_with (first | ((with_reducible refine gate_dst (N := 4) rfl ?_); refine box_event ?hg (N := 4) ?hd (cs := #[.slice none 0 0, .slice none 0 0, .int .i64 0, .int .i64 0]) (t := 30) ?hr ?_; (case hd => rfl); (case hg => rfl); (case hr => exact TS); intro gb169 hg w3 hbox hb; have BK169 := Aside0.mk (hbox); have GW169 := Aside0.mk ((TG : w.heap.size ≤ gb169)); have GE169 := Aside0.mk ((TG : w.heap.size ≤ gb169)); replace HB := Aside0.mk (below_step TB hb); clear hb hbox hg) | ((with_reducible refine gate_dst (N := 5) rfl ?_); refine Kd.R_lit (Kd.int .i64) _ 3 ?hg (N := 5) ?hd (xs := ([2, 4, 1] : List Int)) (inner := [.int .i64 2, .int .i64 4, .int .i64 1]) (ok := fun _ => True) (okp := fun _ => True) ?hr ?hp (fun _ hk => hk) trivial (Below.refl _ _) (Nat.le_refl _) (by simp) ?_; (case hd => rfl); (case hg => rfl); (case hr => exact TS); (case hp => exact (Reps.one (show Kd.M (Kd.int .i64) _ _ _ 2 [.int .i64 2] from rfl) (Reps.one (show Kd.M (Kd.int .i64) _ _ _ 4 [.int .i64 4] from rfl) (Reps.one (show Kd.M (Kd.int .i64) _ _ _ 1 [.int .i64 1] from rfl) (Reps.none _ _))))); intro v171 w4 ho5 hb hg_ hnew_; clear hg_ hnew_; (first | rw [← Ny170.out] at ho5 | (simp only [Int.reduceToNat] at ho5; rw [← Ny170.out] at ho5)); have HO172 := Aside0.mk (Kd.R_lower ho5 (below_size (TB1 GE169.out))); replace BK169 := Aside0.mk (TKb hb BK169.out); replace HB := Aside0.mk (below_step (TB1 GE169.out) hb); clear hb ho5; obtain ⟨Ao6, co6, eo6⟩ := Kd.R_slice HO172.out; subst eo6; have hcz7_0 := cz BK169.out 0; have hcz7_1 := cz BK169.out 1; have hcz7_2 := cz BK169.out 2; have hcz7_3 := cz BK169.out 3; have hfz7_0 := fz BK169.out 0; have hfz7_1 := fz BK169.out 1; have hfz7_2 := fz BK169.out 2; have hfz7_3 := fz BK169.out 3))
 refine bodyPost_ret (results_cell_row rfl _ _ gb169 30 #[.slice Ao6 y170.length co6, .slice none 0 0, .int .i64 a0, .int .i64 a1] (0, 0) _ rfl (by (with_reducible repeat (first | refine blk_drewN ?_ _ | refine blk_drew ?_ | refine blk_alloc ?_ _)); refine blk_put (cs := #[.slice Ao6 y170.length co6, .slice none 0 0, .int .i64 a0, .int .i64 0]) ?_ 3 _ rfl; (with_reducible repeat (first | refine blk_drewN ?_ _ | refine blk_drew ?_ | refine blk_alloc ?_ _)); refine blk_put (cs := #[.slice Ao6 y170.length co6, .slice none 0 0, .int .i64 0, .int .i64 0]) ?_ 2 _ rfl; (with_reducible repeat (first | refine blk_drewN ?_ _ | refine blk_drew ?_ | refine blk_alloc ?_ _)); refine blk_put (cs := #[.slice Ao6 y170.length co6, .slice none 0 0, .int .i64 0, .int .i64 0]) ?_ 1 _ rfl; (with_reducible repeat (first | refine blk_drewN ?_ _ | refine blk_drew ?_ | refine blk_alloc ?_ _)); refine blk_put (cs := #[.slice none 0 0, .slice none 0 0, .int .i64 0, .int .i64 0]) ?_ 0 _ rfl; (with_reducible repeat (first | refine blk_drewN ?_ _ | refine blk_drew ?_ | refine blk_alloc ?_ _)); exact BK169.out) Tryd.underlying30 rfl (by kernel_rfl)) rfl ?_
 exact ⟨_, _, TR, by (with_reducible repeat (first | apply Kd.R_alloc | apply Kd.R_drewN | apply Kd.R_drew)); exact Kd.R_mono (Kd.R_far (p := ⟨gb169, 3, none⟩) (Kd.R_far (p := ⟨gb169, 2, none⟩) (Kd.R_far (p := ⟨gb169, 1, none⟩) (Kd.R_far (p := ⟨gb169, 0, none⟩) (Kd.R_types HO172.out BK169.out (by decide)) (fun _ hk => hk.2) (.slice Ao6 y170.length co6)) (fun _ hk => hk.2) (.slice none 0 0)) (fun _ hk => hk.2) (.int .i64 a0)) (fun _ hk => hk.2) (.int .i64 a1)) (fun _ hk => (by simp [Value.ownBlock])), by first | exact Kd.R_nil _ _ _ _ _ | exact Kd.N_nil _ _ _ _ _ | exact Kd.V_nil _ _ _ _ _ | exact Kd.Q_nil _ _ _ _ _ | exact Kd.S_nil _ _ _ _ _, TB1 GE169.out⟩
end Go.Proofs.YtfdenclnneigfaaDoor.PRaspKeys
