import Derived.Test.YtephecfapclgfaaDoorM0
import Derived.Test.YtephecfapclgfaaDoorVRepsOne
import Derived.Test.YtephecfapclgfaaDoorVEqStruct
import Derived.Test.YtephecfapclgfaaDoorVGuard
import Derived.Test.YtephecfapclgfaaDoorProg
import Derived.Below
import Derived.Deep.Draws
import Derived.Deep.AppendLies
import Derived.Maps.AppendAt
import Derived.OwnWalk
import Derived.Laws.BytesArg
import Derived.Laws.MakeOwn
import Derived.Laws.OwnMore
import Derived.Deep.OwnRows
import Derived.Tactics
import Derived.Lib.ConvBytes
import Derived.Laws.Slices
import Derived.WalkKit
import Derived.KernelRfl
import Derived.RowKit3
import Derived.Deep.LoopGhost
import Derived.Deep.QuietTactic
import Derived.BigQuiet
import Derived.WideLaws
import Derived.Deep.DeepCutAuto
import Derived.Deep.CutBlock
import Derived.Deep.RegionHeld3
import Derived.Laws.Rows
import Derived.Lib.AppendStr
import Derived.ArgAppend
import Derived.Laws.IdiomCopy
import Derived.OrdersHeld
import Derived.Laws.BitsLemmas
import Derived.RowKit
set_option linter.unusedVariables false
set_option linter.unusedSimpArgs false
namespace Go.Proofs.YtephecfapclgfaaDoor.PRaspKeys
open Go.RowKit Go.Proofs.YtephecfapclgfaaDoorW.PrintWords Go.Proofs.YtephecfapclgfaaDoorW.PrintLast Go.Proofs.YtephecfapclgfaaDoorW.PrintMore Go.Proofs.YtephecfapclgfaaDoor.M
attribute [local go_sem] max2_int min2_int max_two min_two max_three min_three max_four min_four   -- for this text's walks alone
def errW : Option Int → Value
 | none => .nilIface
 | some c => .iface 0 (.int .i64 c)
theorem errW_none : errW none = .nilIface := rfl
theorem errW_some (c : Int) : errW (some c) = .iface 0 (.int .i64 c) := rfl
theorem info3 : (Tryd.prog.info? 3).map (fun i => (i.zero, i.size, i.bytes)) = some (some (.int .i64 0), 1, 8) := by kernel_rfl
theorem info26 : (Tryd.prog.info? 26).map (fun i => (i.zero, i.size, i.bytes)) = some (some (.slice none 0 0), 1, 24) := by kernel_rfl
theorem info63 : (Tryd.prog.info? 63).map (fun i => (i.zero, i.size, i.bytes)) = some (some (.agg #[(.int .i64 0), (.slice none 0 0)]), 2, 32) := by kernel_rfl
def rd_L1 (xs : List (List Int)) (i : Int) : (List Int) := xs.getD i.toNat ([] : List Int)
theorem at_L1 {w : World} {A : Option Addr} {n : Nat} {xs : List (List Int)} (h : Kd.C (Kd.slice 3 (Kd.int .i64)) w A n xs) (i : Int) (h0 : 0 ≤ i) (h1 : i < n) : ∃ ad A0 c0, A = some ad ∧ w.cell? (ad.add i.toNat) = some (.slice A0 (rd_L1 xs i).length c0) ∧ (rd_L1 xs i).length ≤ c0 ∧ (Kd.int .i64).C w A0 (rd_L1 xs i).length (rd_L1 xs i) := by
 obtain ⟨ad, c, e, _, hK, hc0⟩ := Kd.C_get h ([] : List Int) i h0 h1
 have hc : ∀ j u, c[j]? = some u → w.cell? (ad.add (i.toNat * 1 + j)) = some u := hc0
 obtain ⟨A0, c0, rfl, l0, g0⟩ := hK
 exact ⟨ad, A0, c0, e, by have hq := hc 0 _ rfl; rwa [Nat.mul_one, Nat.add_zero] at hq, l0, g0⟩
def rd_L2 (xs : List (List (List Int))) (i : Int) : (List (List Int)) := xs.getD i.toNat ([] : List (List Int))
theorem at_L2 {w : World} {A : Option Addr} {n : Nat} {xs : List (List (List Int))} (h : Kd.C (Kd.slice 26 (Kd.slice 3 (Kd.int .i64))) w A n xs) (i : Int) (h0 : 0 ≤ i) (h1 : i < n) : ∃ ad A0 c0, A = some ad ∧ w.cell? (ad.add i.toNat) = some (.slice A0 (rd_L2 xs i).length c0) ∧ (rd_L2 xs i).length ≤ c0 ∧ (Kd.slice 3 (Kd.int .i64)).C w A0 (rd_L2 xs i).length (rd_L2 xs i) := by
 obtain ⟨ad, c, e, _, hK, hc0⟩ := Kd.C_get h ([] : List (List Int)) i h0 h1
 have hc : ∀ j u, c[j]? = some u → w.cell? (ad.add (i.toNat * 1 + j)) = some u := hc0
 obtain ⟨A0, c0, rfl, l0, g0⟩ := hK
 exact ⟨ad, A0, c0, e, by have hq := hc 0 _ rfl; rwa [Nat.mul_one, Nat.add_zero] at hq, l0, g0⟩
/-! #### struct type 63 -/
structure S63 where
 f0 : Int
 f1 : (List (List Int))
def z63 : S63 := ⟨(0 : Int), ([] : List (List Int))⟩
def k63 : Kd S63 := Kd.iso (Kd.pair (Kd.int .i64) (Kd.slice 26 (Kd.slice 3 (Kd.int .i64)))) (fun x : S63 => (x.f0, x.f1))
theorem k63_open {w : World} {x : S63} {cs : List Value} (h : k63.K w x cs) : ∃ A1 c1, cs = [.int .i64 x.f0, .slice A1 x.f1.length c1] ∧ x.f1.length ≤ c1 ∧ (Kd.slice 3 (Kd.int .i64)).C w A1 x.f1.length x.f1 := by
 obtain ⟨_, _, rfl, rfl, ⟨A1, c1, rfl, l1, g1⟩⟩ := h
 exact ⟨A1, c1, rfl, l1, g1⟩
theorem k63_openM {w : World} {base : Nat} {ok : Nat → Prop} {x : S63} {cs : List Value} (h : k63.M w base ok x cs) : ∃ v1, cs = [.int .i64 x.f0, v1] ∧ (Kd.slice 3 (Kd.int .i64)).R 26 w base ok v1 x.f1 := by
 obtain ⟨_, _, rfl, rfl, ⟨v1, rfl, g1⟩⟩ := h
 exact ⟨v1, rfl, g1⟩
theorem k63_mk (w : World) (x : S63) {A1 : Option Addr} {c1 : Nat} (l1 : x.f1.length ≤ c1) (g1 : (Kd.slice 3 (Kd.int .i64)).C w A1 x.f1.length x.f1) : k63.K w x [.int .i64 x.f0, .slice A1 x.f1.length c1] := ⟨[.int .i64 x.f0], [.slice A1 x.f1.length c1], rfl, rfl, ⟨A1, c1, rfl, l1, g1⟩⟩
theorem k63_mkM (w : World) (base : Nat) (ok : Nat → Prop) (x : S63) {v1 : Value} (g1 : (Kd.slice 3 (Kd.int .i64)).R 26 w base ok v1 x.f1) : k63.M w base ok x [.int .i64 x.f0, v1] := ⟨[.int .i64 x.f0], [v1], rfl, rfl, ⟨v1, rfl, g1⟩⟩
theorem k63_openF {W : World} {ok : Nat → Prop} {x : S63} {cs : List Value} (h : Kd.FK k63 W ok x cs) : ∃ A1 c1, cs = [.int .i64 x.f0, .slice A1 x.f1.length c1] ∧ x.f1.length ≤ c1 ∧ Kd.F (Kd.slice 3 (Kd.int .i64)) W ok A1 x.f1.length x.f1 := by
 obtain ⟨A1, c1, rfl, l1, _⟩ := k63_open (Kd.FK_now h)
 exact ⟨A1, c1, rfl, l1, (fun W' hW => by obtain ⟨A1_, c1_, he, l1_, g1_⟩ := k63_open (h W' hW); injection (Option.some.inj (show some (Value.slice A1 x.f1.length c1) = some (Value.slice A1_ x.f1.length c1_) from congrArg (fun l => l[1]?) he)) with ha_ _ _; rw [ha_]; exact g1_)⟩
theorem k63_mkF (W : World) (ok : Nat → Prop) (x : S63) {A1 : Option Addr} {c1 : Nat} (l1 : x.f1.length ≤ c1) (g1 : Kd.F (Kd.slice 3 (Kd.int .i64)) W ok A1 x.f1.length x.f1) : Kd.FK k63 W ok x [.int .i64 x.f0, .slice A1 x.f1.length c1] := fun W2 hW => k63_mk W2 x l1 (g1 W2 hW)
def rd_T63 (xs : List S63) (i : Int) : S63 := xs.getD i.toNat z63
theorem at_T63 {w : World} {A : Option Addr} {n : Nat} {xs : List S63} (h : Kd.C k63 w A n xs) (i : Int) (h0 : 0 ≤ i) (h1 : i < n) : ∃ ad A1 c1, A = some ad ∧ w.cell? (ad.add (i.toNat * 2)) = some (.int .i64 (rd_T63 xs i).f0) ∧ w.cell? ⟨(ad.add (i.toNat * 2)).block, (ad.add (i.toNat * 2)).off + 1, none⟩ = some (.slice A1 (rd_T63 xs i).f1.length c1) ∧ (rd_T63 xs i).f1.length ≤ c1 ∧ (Kd.slice 3 (Kd.int .i64)).C w A1 (rd_T63 xs i).f1.length (rd_T63 xs i).f1 := by
 obtain ⟨ad, c, e, _, hK, hc0⟩ := Kd.C_get h z63 i h0 h1
 have hc : ∀ j u, c[j]? = some u → w.cell? (ad.add (i.toNat * 2 + j)) = some u := hc0
 obtain ⟨A1, c1, rfl, l1, g1⟩ := k63_open hK
 exact ⟨ad, A1, c1, e, hc 0 _ rfl, by rw [← add_field _ _ 1 (by omega)]; exact hc 1 _ rfl, l1, g1⟩
/-! #### struct type 38 -/
structure S38 where
 f0 : Int
 f1 : Int
def z38 : S38 := ⟨(0 : Int), (0 : Int)⟩
def k38 : Kd S38 := Kd.iso (Kd.pair (Kd.int .i64) (Kd.int .i64)) (fun x : S38 => (x.f0, x.f1))
theorem k38_open {w : World} {x : S38} {cs : List Value} (h : k38.K w x cs) : cs = [.int .i64 x.f0, .int .i64 x.f1] := by
 obtain ⟨_, _, rfl, rfl, rfl⟩ := h
 exact rfl
theorem k38_openM {w : World} {base : Nat} {ok : Nat → Prop} {x : S38} {cs : List Value} (h : k38.M w base ok x cs) : cs = [.int .i64 x.f0, .int .i64 x.f1] := by
 obtain ⟨_, _, rfl, rfl, rfl⟩ := h
 exact rfl
theorem k38_mk (w : World) (x : S38)  : k38.K w x [.int .i64 x.f0, .int .i64 x.f1] := ⟨[.int .i64 x.f0], [.int .i64 x.f1], rfl, rfl, rfl⟩
theorem k38_mkM (w : World) (base : Nat) (ok : Nat → Prop) (x : S38)  : k38.M w base ok x [.int .i64 x.f0, .int .i64 x.f1] := ⟨[.int .i64 x.f0], [.int .i64 x.f1], rfl, rfl, rfl⟩
theorem k38_mkF (W : World) (ok : Nat → Prop) (x : S38) : Kd.FK k38 W ok x [.int .i64 x.f0, .int .i64 x.f1] := fun W2 _ => k38_mk W2 x
def rd_T38 (xs : List S38) (i : Int) : S38 := xs.getD i.toNat z38
theorem at_T38 {w : World} {A : Option Addr} {n : Nat} {xs : List S38} (h : Kd.C k38 w A n xs) (i : Int) (h0 : 0 ≤ i) (h1 : i < n) : ∃ ad , A = some ad ∧ w.cell? (ad.add (i.toNat * 2)) = some (.int .i64 (rd_T38 xs i).f0) ∧ w.cell? ⟨(ad.add (i.toNat * 2)).block, (ad.add (i.toNat * 2)).off + 1, none⟩ = some (.int .i64 (rd_T38 xs i).f1) := by
 obtain ⟨ad, c, e, _, hK, hc0⟩ := Kd.C_get h z38 i h0 h1
 have hc : ∀ j u, c[j]? = some u → w.cell? (ad.add (i.toNat * 2 + j)) = some u := hc0
 obtain rfl := k38_open hK
 exact ⟨ad, e, hc 0 _ rfl, by rw [← add_field _ _ 1 (by omega)]; exact hc 1 _ rfl⟩
/-! #### struct type 97 -/
structure S97 where
 f0 : Int
 f1 : Int
def z97 : S97 := ⟨(0 : Int), (0 : Int)⟩
def k97 : Kd S97 := Kd.iso (Kd.pair (Kd.int .i64) (Kd.int .i64)) (fun x : S97 => (x.f0, x.f1))
theorem k97_open {w : World} {x : S97} {cs : List Value} (h : k97.K w x cs) : cs = [.int .i64 x.f0, .int .i64 x.f1] := by
 obtain ⟨_, _, rfl, rfl, rfl⟩ := h
 exact rfl
theorem k97_openM {w : World} {base : Nat} {ok : Nat → Prop} {x : S97} {cs : List Value} (h : k97.M w base ok x cs) : cs = [.int .i64 x.f0, .int .i64 x.f1] := by
 obtain ⟨_, _, rfl, rfl, rfl⟩ := h
 exact rfl
theorem k97_mk (w : World) (x : S97)  : k97.K w x [.int .i64 x.f0, .int .i64 x.f1] := ⟨[.int .i64 x.f0], [.int .i64 x.f1], rfl, rfl, rfl⟩
theorem k97_mkM (w : World) (base : Nat) (ok : Nat → Prop) (x : S97)  : k97.M w base ok x [.int .i64 x.f0, .int .i64 x.f1] := ⟨[.int .i64 x.f0], [.int .i64 x.f1], rfl, rfl, rfl⟩
theorem k97_mkF (W : World) (ok : Nat → Prop) (x : S97) : Kd.FK k97 W ok x [.int .i64 x.f0, .int .i64 x.f1] := fun W2 _ => k97_mk W2 x
def rd_T97 (xs : List S97) (i : Int) : S97 := xs.getD i.toNat z97
theorem at_T97 {w : World} {A : Option Addr} {n : Nat} {xs : List S97} (h : Kd.C k97 w A n xs) (i : Int) (h0 : 0 ≤ i) (h1 : i < n) : ∃ ad , A = some ad ∧ w.cell? (ad.add (i.toNat * 2)) = some (.int .i64 (rd_T97 xs i).f0) ∧ w.cell? ⟨(ad.add (i.toNat * 2)).block, (ad.add (i.toNat * 2)).off + 1, none⟩ = some (.int .i64 (rd_T97 xs i).f1) := by
 obtain ⟨ad, c, e, _, hK, hc0⟩ := Kd.C_get h z97 i h0 h1
 have hc : ∀ j u, c[j]? = some u → w.cell? (ad.add (i.toNat * 2 + j)) = some u := hc0
 obtain rfl := k97_open hK
 exact ⟨ad, e, hc 0 _ rfl, by rw [← add_field _ _ 1 (by omega)]; exact hc 1 _ rfl⟩
end Go.Proofs.YtephecfapclgfaaDoor.PRaspKeys
namespace Go.Proofs.YtephecfapclgfaaDoor.PRaspKeys
open Go.RowKit Go.Proofs.YtephecfapclgfaaDoorW.PrintWords Go.Proofs.YtephecfapclgfaaDoorW.PrintLast Go.Proofs.YtephecfapclgfaaDoorW.PrintMore Go.Proofs.YtephecfapclgfaaDoor.M
attribute [local go_sem] max2_int min2_int max_two min_two max_three min_three max_four min_four   -- for this text's walks alone
theorem eqA38 (d : Nat) (w : World) (x0 y0 : Int) (x1 y1 : Int) :
  (Op.equalIn (d + 2) 38 (.agg #[.int .i64 x0, .int .i64 x1]) (.agg #[.int .i64 y0, .int .i64 y1])).run Tryd.prog w = .ok (x0 == y0 && (x1 == y1)) w := by
 refine eqA_of Tryd.underlying38 (by kernel_rfl) ?_
 refine eqf_cons (by rfl) (by go_simp; rfl) (by go_simp; rfl) (by go_simp) ?_
 exact eqf_last (by rfl) (by go_simp; rfl) (by go_simp; rfl) (by go_simp)
end Go.Proofs.YtephecfapclgfaaDoor.PRaspKeys
namespace Go.Proofs.YtephecfapclgfaaDoor.PRaspKeys
open Go.RowKit Go.Proofs.YtephecfapclgfaaDoorW.PrintWords Go.Proofs.YtephecfapclgfaaDoorW.PrintLast Go.Proofs.YtephecfapclgfaaDoorW.PrintMore Go.Proofs.YtephecfapclgfaaDoor.M
attribute [local go_sem] max2_int min2_int max_two min_two max_three min_three max_four min_four   -- for this text's walks alone
theorem eqA97 (d : Nat) (w : World) (x0 y0 : Int) (x1 y1 : Int) :
  (Op.equalIn (d + 2) 97 (.agg #[.int .i64 x0, .int .i64 x1]) (.agg #[.int .i64 y0, .int .i64 y1])).run Tryd.prog w = .ok (x0 == y0 && (x1 == y1)) w := by
 refine eqA_of Tryd.underlying97 (by kernel_rfl) ?_
 refine eqf_cons (by rfl) (by go_simp; rfl) (by go_simp; rfl) (by go_simp) ?_
 exact eqf_last (by rfl) (by go_simp; rfl) (by go_simp; rfl) (by go_simp)
end Go.Proofs.YtephecfapclgfaaDoor.PRaspKeys
namespace Go.Proofs.YtephecfapclgfaaDoor.PRaspKeys
open Go.RowKit Go.Proofs.YtephecfapclgfaaDoorW.PrintWords Go.Proofs.YtephecfapclgfaaDoorW.PrintLast Go.Proofs.YtephecfapclgfaaDoorW.PrintMore Go.Proofs.YtephecfapclgfaaDoor.M
attribute [local go_sem] max2_int min2_int max_two min_two max_three min_three max_four min_four   -- for this text's walks alone
/-! ### cycle_lies: function 61 -/
def cycle_lies.f (a0 : Int) (a1 : Int) (a2 : Int) : Option (Bool) := if a1 ≤ a0 then (some (decide (a0 ≤ a2))) else (some false)
set_option maxHeartbeats 8000000 in
set_option maxRecDepth 100000 in
theorem cycle_lies.calls (a0 : Int) (a1 : Int) (a2 : Int) (r : Bool) (w : World) (h : cycle_lies.f a0 a1 a2 = some r) :
  Calls Tryd.prog 61 #[.int .i64 a0, .int .i64 a1, .int .i64 a2] w fun e w' => e = .returned (.bool r) ∧ Drawn0 w w' := by
 have H : (if a1 ≤ a0 then (some (decide (a0 ≤ a2))) else (some false)) = some r := h
 clear h
 by_cases c4 : a1 ≤ a0
 ·rw [if_pos c4] at H
  have c4b0 : decide (a1 ≤ a0) = true := decide_eq_true c4
  clear c4
  obtain rfl := Option.some.inj H
  go_enter Tryd.func61, Tryd.ntmps61
  go_wp2
  go_ret
  exact ⟨by first | rfl | (simp; done) | (simp [*]; done), by repeat (first | exact Drawn0.refl _ | apply Drawn0.step)⟩
 ·rw [if_neg c4] at H
  have c4b0 : decide (a1 ≤ a0) = false := decide_eq_false c4
  clear c4
  obtain rfl := Option.some.inj H
  go_enter Tryd.func61, Tryd.ntmps61
  go_wp2
  go_ret
  exact ⟨by first | rfl | (simp; done) | (simp [*]; done), by repeat (first | exact Drawn0.refl _ | apply Drawn0.step)⟩
/-! ### cycle_grows: function 62 -/
def cycle_grows.l0 : Nat → Int → Int → List Int → Int → Int → Option (Bool)
 | 0, _, _, _, _, _ => none
 | k + 1, x1, x5, x8, x9, x10 => if x10 < x9 then (if 0 ≤ x10 then (if x10 < (x8.length : Int) then ((cycle_lies.f (rd x8 x10) (wrap64 (x5 + 1)) (wrap64 (x1 - 1))).bind fun t102 => (if t102 = true then (cycle_grows.l0 k x1 (rd x8 x10) x8 x9 (wrap64 (x10 + 1))) else (some false))) else (none)) else (none)) else (some true)
def cycle_grows.f (k : Nat) (l0 : List Int) (a1 : Int) : Option (Bool) := cycle_grows.l0 k a1 (-1) l0 (l0.length : Int) 0
theorem cycle_grows.mono_l : ∀ k, (∀ y0 y1 y2 y3 y4, LeO (cycle_grows.l0 k y0 y1 y2 y3 y4) (cycle_grows.l0 (k + 1) y0 y1 y2 y3 y4))
 | 0 => fun _ _ _ _ _ r h => by simp [cycle_grows.l0] at h
 | k + 1 => by
  have ih0 := cycle_grows.mono_l k
  ·intro y0 y1 y2 y3 y4
   unfold cycle_grows.l0
   repeat' first
   | (with_reducible exact ih0 _ _ _ _ _)
   | (with_reducible exact LeO.refl _)
   | (with_reducible exact LeO.none _)
   | (with_reducible refine LeO.ite ?_ ?_)
   | (with_reducible refine LeO.bind ?_ (fun _ => ?_))
   | exact ih0 _ _ _ _ _
   | exact LeO.none _
   | refine LeO.ite ?_ ?_
   | refine LeO.bind ?_ (fun _ => ?_)
theorem cycle_grows.mono : ∀ a0 a1 k, LeO (cycle_grows.f k a0 a1) (cycle_grows.f (k + 1) a0 a1) := by
 intro a0 a1 k
 have ih0 := cycle_grows.mono_l k
 unfold cycle_grows.f
 repeat' first
   | (with_reducible exact ih0 _ _ _ _ _)
   | (with_reducible exact LeO.refl _)
   | (with_reducible exact LeO.none _)
   | (with_reducible refine LeO.ite ?_ ?_)
   | (with_reducible refine LeO.bind ?_ (fun _ => ?_))
   | exact ih0 _ _ _ _ _
   | exact LeO.none _
   | refine LeO.ite ?_ ?_
   | refine LeO.bind ?_ (fun _ => ?_)
set_option maxHeartbeats 8000000 in
set_option maxRecDepth 100000 in
theorem cycle_grows.calls (k : Nat) (A0 : Option Addr) (c0 : Nat) (l0 : List Int) (a1 : Int) (r : Bool) (w : World) (hr0 : Kd.C (Kd.int .i64) w A0 l0.length l0) (hc0 : l0.length ≤ c0) (h : cycle_grows.f k l0 a1 = some r) :
  Calls Tryd.prog 62 #[.slice A0 l0.length c0, .int .i64 a1] w fun e w' => e = .returned (.bool r) ∧ Drawn0 w w' := by
 have HR0 := Aside0.mk hr0
 have HC0 := Aside0.mk hc0
 clear hr0 hc0
 have H : (cycle_grows.l0 k a1 (-1) l0 (l0.length : Int) 0) = some r := h
 clear h
 have H' := Aside0.mk H
 clear H
 go_enter Tryd.func62, Tryd.ntmps62
 go_wp2
 go_loopg [5, 10] k (fun kq v5 v10 w' => ∃ (x5_1 : Int) (x10_1 : Int), v5 = .int .i64 x5_1 ∧ v10 = .int .i64 x10_1 ∧ Aside0 (cycle_grows.l0 kq a1 x5_1 l0 (l0.length : Int) x10_1 = some r) ∧ Aside0 (kq ≤ k) ∧ Drawn0 w w')
 case atStart => exact ⟨((-1)), (0), TT, TT, H', ⟨Nat.le_refl _⟩, by repeat (first | exact Drawn0.refl _ | apply Drawn0.step)⟩
 case round => as_aux_lemma =>
  clear H'
  try clear p2
  obtain ⟨x5_1, x10_1, rfl, rfl, HA, HK1, ⟨m1, rfl⟩⟩ := hrel
  cases gk with
  | zero => exact absurd HA.out (by simp [cycle_grows.l0])
  | succ k1 =>
   have H := HA.out
   clear HA
   simp only [cycle_grows.l0] at H
   by_cases c3 : x10_1 < (l0.length : Int)
   ·rw [if_pos c3] at H
    have c3b0 : decide (x10_1 < (l0.length : Int)) = true := decide_eq_true c3
    clear c3
    by_cases c4 : 0 ≤ x10_1
    ·rw [if_pos c4] at H
     have c4b0 : decide (0 ≤ x10_1) = true := decide_eq_true c4
     clear c4
     by_cases c5 : x10_1 < (l0.length : Int)
     ·rw [if_pos c5] at H
      have c5b0 : decide (x10_1 < (l0.length : Int)) = true := decide_eq_true c5
      clear c5
      replace H := Option.bind_eq_some_iff.mp H
      obtain ⟨t102, A60, H⟩ := H
      replace H : (if t102 = true then (cycle_grows.l0 k1 a1 (rd l0 x10_1) l0 (l0.length : Int) (wrap64 (x10_1 + 1))) else (some false)) = some r := H
      have A6 := Aside0.mk A60
      clear A60
      by_cases c7 : t102 = true
      ·subst c7
       have H1 : (cycle_grows.l0 k1 a1 (rd l0 x10_1) l0 (l0.length : Int) (wrap64 (x10_1 + 1))) = some r := by rw [if_pos rfl] at H; exact H
       clear H
       have H := H1
       clear H1
       have H' := Aside0.mk H
       clear H
       have p101 : 0 ≤ (x10_1 : Int) := of_decide_eq_true TA
       have q101 : x10_1 < (l0.length : Int) := of_decide_eq_true TA
       obtain ⟨ad101, e101, hx101_0⟩ := Kd.at_int HR0.out x10_1 p101 q101
       cases e101
       replace p101 := eq_true p101
       replace q101 := eq_true q101
       go_wp2_with (first | ((with_reducible refine gate_callee (f := 61) rfl ?_); refine goesL_ (some 19) rfl rfl Tryd.func61 (by kernel_rfl) rfl #[.int .i64 (rd l0 x10_1), .int .i64 (wrap64 (x5_1 + 1)), .int .i64 (wrap64 (a1 - 1))] rfl TM ?_; (with_reducible refine (cycle_lies.calls (rd l0 x10_1) (wrap64 (x5_1 + 1)) (wrap64 (a1 - 1)) true _ A6.out).mono ?_); rintro e w' ⟨rfl, ⟨nd, rfl⟩⟩; refine ⟨_, rfl, ?_⟩))
       go_roundg k1
       case measure => have := HK1.out; omega
       case rel => exact ⟨(rd l0 x10_1), (wrap64 (x10_1 + 1)), TT, TT, H', ⟨by have := HK1.out; omega⟩, by repeat (first | exact Drawn0.refl _ | apply Drawn0.step)⟩
      ·replace c7 := Bool.eq_false_iff.mpr c7
       subst c7
       have H1 : (some false) = some r := by rw [if_neg (show ¬ (false = true) by decide)] at H; exact H
       clear H
       have H := H1
       clear H1
       obtain rfl := Option.some.inj H
       have p101 : 0 ≤ (x10_1 : Int) := of_decide_eq_true TA
       have q101 : x10_1 < (l0.length : Int) := of_decide_eq_true TA
       obtain ⟨ad101, e101, hx101_0⟩ := Kd.at_int HR0.out x10_1 p101 q101
       cases e101
       replace p101 := eq_true p101
       replace q101 := eq_true q101
       go_wp2_with (first | ((with_reducible refine gate_callee (f := 61) rfl ?_); refine goesL_ (some 19) rfl rfl Tryd.func61 (by kernel_rfl) rfl #[.int .i64 (rd l0 x10_1), .int .i64 (wrap64 (x5_1 + 1)), .int .i64 (wrap64 (a1 - 1))] rfl TM ?_; (with_reducible refine (cycle_lies.calls (rd l0 x10_1) (wrap64 (x5_1 + 1)) (wrap64 (a1 - 1)) false _ A6.out).mono ?_); rintro e w' ⟨rfl, ⟨nd, rfl⟩⟩; refine ⟨_, rfl, ?_⟩))
       go_ret
       exact ⟨by first | rfl | (simp; done) | (simp [*]; done), by repeat (first | exact Drawn0.refl _ | apply Drawn0.step)⟩
     ·rw [if_neg c5] at H
      exact absurd H (by simp)
    ·rw [if_neg c4] at H
     exact absurd H (by simp)
   ·rw [if_neg c3] at H
    have c3b0 : decide (x10_1 < (l0.length : Int)) = false := decide_eq_false c3
    clear c3
    obtain rfl := Option.some.inj H
    go_wp2
    go_ret
    exact ⟨by first | rfl | (simp; done) | (simp [*]; done), by repeat (first | exact Drawn0.refl _ | apply Drawn0.step)⟩
/-! ### slices_Equal_int_int: function 63 -/
def slices_Equal_int_int.l0 : Nat → List Int → List Int → Int → Int → Option (Bool)
 | 0, _, _, _, _ => none
 | k + 1, x0, x1, x12, x13 => if x13 < x12 then (if 0 ≤ x13 then (if x13 < (x0.length : Int) then (if x13 < (x1.length : Int) then (if (rd x0 x13) = (rd x1 x13) then (slices_Equal_int_int.l0 k x0 x1 x12 (wrap64 (x13 + 1))) else (some false)) else (none)) else (none)) else (none)) else (some true)
def slices_Equal_int_int.f (k : Nat) (l0 : List Int) (l1 : List Int) : Option (Bool) := if (l0.length : Int) = (l1.length : Int) then (slices_Equal_int_int.l0 k l0 l1 (l0.length : Int) 0) else (some false)
theorem slices_Equal_int_int.mono_l : ∀ k, (∀ y0 y1 y2 y3, LeO (slices_Equal_int_int.l0 k y0 y1 y2 y3) (slices_Equal_int_int.l0 (k + 1) y0 y1 y2 y3))
 | 0 => fun _ _ _ _ r h => by simp [slices_Equal_int_int.l0] at h
 | k + 1 => by
  have ih0 := slices_Equal_int_int.mono_l k
  ·intro y0 y1 y2 y3
   unfold slices_Equal_int_int.l0
   repeat' first
   | (with_reducible exact ih0 _ _ _ _)
   | (with_reducible exact LeO.refl _)
   | (with_reducible exact LeO.none _)
   | (with_reducible refine LeO.ite ?_ ?_)
   | (with_reducible refine LeO.bind ?_ (fun _ => ?_))
   | exact ih0 _ _ _ _
   | exact LeO.none _
   | refine LeO.ite ?_ ?_
   | refine LeO.bind ?_ (fun _ => ?_)
theorem slices_Equal_int_int.mono : ∀ a0 a1 k, LeO (slices_Equal_int_int.f k a0 a1) (slices_Equal_int_int.f (k + 1) a0 a1) := by
 intro a0 a1 k
 have ih0 := slices_Equal_int_int.mono_l k
 unfold slices_Equal_int_int.f
 repeat' first
   | (with_reducible exact ih0 _ _ _ _)
   | (with_reducible exact LeO.refl _)
   | (with_reducible exact LeO.none _)
   | (with_reducible refine LeO.ite ?_ ?_)
   | (with_reducible refine LeO.bind ?_ (fun _ => ?_))
   | exact ih0 _ _ _ _
   | exact LeO.none _
   | refine LeO.ite ?_ ?_
   | refine LeO.bind ?_ (fun _ => ?_)
set_option maxHeartbeats 8000000 in
set_option maxRecDepth 100000 in
theorem slices_Equal_int_int.calls (k : Nat) (A0 : Option Addr) (c0 : Nat) (l0 : List Int) (A1 : Option Addr) (c1 : Nat) (l1 : List Int) (r : Bool) (w : World) (hr0 : Kd.C (Kd.int .i64) w A0 l0.length l0) (hc0 : l0.length ≤ c0) (hr1 : Kd.C (Kd.int .i64) w A1 l1.length l1) (hc1 : l1.length ≤ c1) (h : slices_Equal_int_int.f k l0 l1 = some r) :
  Calls Tryd.prog 63 #[.slice A0 l0.length c0, .slice A1 l1.length c1] w fun e w' => e = .returned (.bool r) ∧ Drawn0 w w' := by
 have HR0 := Aside0.mk hr0
 have HC0 := Aside0.mk hc0
 clear hr0 hc0
 have HR1 := Aside0.mk hr1
 have HC1 := Aside0.mk hc1
 clear hr1 hc1
 have H : (if (l0.length : Int) = (l1.length : Int) then (slices_Equal_int_int.l0 k l0 l1 (l0.length : Int) 0) else (some false)) = some r := h
 clear h
 by_cases c3 : (l0.length : Int) = (l1.length : Int)
 ·rw [if_pos c3] at H
  have c3b0 : ((l0.length : Int) == (l1.length : Int)) = true := beq_iff_eq.mpr c3
  have c3b1 : ((l0.length : Int) != (l1.length : Int)) = false := bne_eq_false_iff_eq.mpr c3
  have c3b2 : (l0.length == l1.length) = true := by first | simpa using c3 | (simp at c3 ⊢; omega)
  clear c3
  have H' := Aside0.mk H
  clear H
  go_enter Tryd.func63, Tryd.ntmps63
  go_wp2
  repeat (go_quiet (fail); try go_wp2)
  go_loopg [13] k (fun kq v13 w' => ∃ (x13_1 : Int), v13 = .int .i64 x13_1 ∧ Aside0 (slices_Equal_int_int.l0 kq l0 l1 (l0.length : Int) x13_1 = some r) ∧ Aside0 (kq ≤ k) ∧ Drawn0 w w')
  case atStart => exact ⟨(0), TT, H', ⟨Nat.le_refl _⟩, by repeat (first | exact Drawn0.refl _ | apply Drawn0.step)⟩
  case round => as_aux_lemma =>
   clear H'
   try clear c1
   try clear p2
   try clear c3
   try clear c3b0
   try clear c3b1
   try clear c3b2
   obtain ⟨x13_1, rfl, HA, HK1, ⟨m1, rfl⟩⟩ := hrel
   cases gk with
   | zero => exact absurd HA.out (by simp [slices_Equal_int_int.l0])
   | succ k1 =>
    have H := HA.out
    clear HA
    simp only [slices_Equal_int_int.l0] at H
    by_cases c4 : x13_1 < (l0.length : Int)
    ·rw [if_pos c4] at H
     have c4b0 : decide (x13_1 < (l0.length : Int)) = true := decide_eq_true c4
     clear c4
     by_cases c5 : 0 ≤ x13_1
     ·rw [if_pos c5] at H
      have c5b0 : decide (0 ≤ x13_1) = true := decide_eq_true c5
      clear c5
      by_cases c6 : x13_1 < (l0.length : Int)
      ·rw [if_pos c6] at H
       have c6b0 : decide (x13_1 < (l0.length : Int)) = true := decide_eq_true c6
       clear c6
       by_cases c7 : x13_1 < (l1.length : Int)
       ·rw [if_pos c7] at H
        have c7b0 : decide (x13_1 < (l1.length : Int)) = true := decide_eq_true c7
        clear c7
        by_cases c8 : (rd l0 x13_1) = (rd l1 x13_1)
        ·rw [if_pos c8] at H
         have c8b0 : ((rd l0 x13_1) == (rd l1 x13_1)) = true := beq_iff_eq.mpr c8
         have c8b1 : ((rd l0 x13_1) != (rd l1 x13_1)) = false := bne_eq_false_iff_eq.mpr c8
         clear c8
         have H' := Aside0.mk H
         clear H
         have p103 : 0 ≤ (x13_1 : Int) := of_decide_eq_true TA
         have q103 : x13_1 < (l0.length : Int) := of_decide_eq_true TA
         obtain ⟨ad103, e103, hx103_0⟩ := Kd.at_int HR0.out x13_1 p103 q103
         cases e103
         replace p103 := eq_true p103
         replace q103 := eq_true q103
         have p104 : 0 ≤ (x13_1 : Int) := of_decide_eq_true TA
         have q104 : x13_1 < (l1.length : Int) := of_decide_eq_true TA
         obtain ⟨ad104, e104, hx104_0⟩ := Kd.at_int HR1.out x13_1 p104 q104
         cases e104
         replace p104 := eq_true p104
         replace q104 := eq_true q104
         go_wp2
         repeat (go_quiet (fail); try go_wp2)
         go_roundg k1
         case measure => have := HK1.out; omega
         case rel => exact ⟨(wrap64 (x13_1 + 1)), TT, H', ⟨by have := HK1.out; omega⟩, by repeat (first | exact Drawn0.refl _ | apply Drawn0.step)⟩
        ·rw [if_neg c8] at H
         have c8b0 : ((rd l0 x13_1) == (rd l1 x13_1)) = false := beq_eq_false_iff_ne.mpr c8
         have c8b1 : ((rd l0 x13_1) != (rd l1 x13_1)) = true := bne_iff_ne.mpr c8
         obtain rfl := Option.some.inj H
         have p103 : 0 ≤ (x13_1 : Int) := of_decide_eq_true TA
         have q103 : x13_1 < (l0.length : Int) := of_decide_eq_true TA
         obtain ⟨ad103, e103, hx103_0⟩ := Kd.at_int HR0.out x13_1 p103 q103
         cases e103
         replace p103 := eq_true p103
         replace q103 := eq_true q103
         have p104 : 0 ≤ (x13_1 : Int) := of_decide_eq_true TA
         have q104 : x13_1 < (l1.length : Int) := of_decide_eq_true TA
         obtain ⟨ad104, e104, hx104_0⟩ := Kd.at_int HR1.out x13_1 p104 q104
         cases e104
         replace p104 := eq_true p104
         replace q104 := eq_true q104
         go_wp2
         repeat (go_quiet (fail); try go_wp2)
         go_ret
         exact ⟨by first | rfl | (simp; done) | (simp [*]; done), by repeat (first | exact Drawn0.refl _ | apply Drawn0.step)⟩
       ·rw [if_neg c7] at H
        exact absurd H (by simp)
      ·rw [if_neg c6] at H
       exact absurd H (by simp)
     ·rw [if_neg c5] at H
      exact absurd H (by simp)
    ·rw [if_neg c4] at H
     have c4b0 : decide (x13_1 < (l0.length : Int)) = false := decide_eq_false c4
     clear c4
     obtain rfl := Option.some.inj H
     go_wp2
     repeat (go_quiet (fail); try go_wp2)
     go_ret
     exact ⟨by first | rfl | (simp; done) | (simp [*]; done), by repeat (first | exact Drawn0.refl _ | apply Drawn0.step)⟩
 ·rw [if_neg c3] at H
  have c3b0 : ((l0.length : Int) == (l1.length : Int)) = false := beq_eq_false_iff_ne.mpr c3
  have c3b1 : ((l0.length : Int) != (l1.length : Int)) = true := bne_iff_ne.mpr c3
  have c3b2 : (l0.length == l1.length) = false := by first | simpa using c3 | (simp at c3 ⊢; omega)
  obtain rfl := Option.some.inj H
  go_enter Tryd.func63, Tryd.ntmps63
  go_wp2
  repeat (go_quiet (fail); try go_wp2)
  go_ret
  exact ⟨by first | rfl | (simp; done) | (simp [*]; done), by repeat (first | exact Drawn0.refl _ | apply Drawn0.step)⟩
end Go.Proofs.YtephecfapclgfaaDoor.PRaspKeys
namespace Go.Proofs.YtephecfapclgfaaDoor.PRaspKeys
open Go.RowKit Go.Proofs.YtephecfapclgfaaDoorW.PrintWords Go.Proofs.YtephecfapclgfaaDoorW.PrintLast Go.Proofs.YtephecfapclgfaaDoorW.PrintMore Go.Proofs.YtephecfapclgfaaDoor.M
attribute [local go_sem] max2_int min2_int max_two min_two max_three min_three max_four min_four   -- for this text's walks alone
/-! ### cycle_Check: function 17 -/
mutual
def cycle_Check.j0 : Nat → Bool → Int → List (S63) → Option (Int)
 | 0, _, _, _ => none
 | k + 1, x3, x106000, x106001 => cycle_Check.l0 k x3 x106001 (x106001.length : Int) 0 x106000 x106001
def cycle_Check.l0 : Nat → Bool → List (S63) → Int → Int → Int → List (S63) → Option (Int)
 | 0, _, _, _, _, _, _ => none
 | k + 1, x3, x18, x19, x20, x106000, x106001 => if x20 < x19 then (if 0 ≤ x20 then (if x20 < (x18.length : Int) then (if x3 = true then ((cycle_lies.f ((rd_T63 x18 x20).f0) 2 32).bind fun t110 => (if t110 = true then (cycle_Check.j2 k ((((rd_T63 x18 x20).f1).length : Int) == x106000) x18 x19 x20 x106000 x106001 ((rd_T63 x18 x20).f0) ((rd_T63 x18 x20).f1)) else (cycle_Check.j2 k false x18 x19 x20 x106000 x106001 ((rd_T63 x18 x20).f0) ((rd_T63 x18 x20).f1)))) else (cycle_Check.j2 k false x18 x19 x20 x106000 x106001 ((rd_T63 x18 x20).f0) ((rd_T63 x18 x20).f1))) else (none)) else (none)) else (if x3 = true then (some 0) else (some 50))
def cycle_Check.j2 : Nat → Bool → List (S63) → Int → Int → Int → List (S63) → Int → List (List Int) → Option (Int)
 | 0, _, _, _, _, _, _, _, _ => none
 | k + 1, x3, x18, x19, x20, x106000, x106001, x110000, x110001 => cycle_Check.l1 k x3 x18 x19 x20 x110001 (x110001.length : Int) 0 x106000 x106001 x110000 x110001
def cycle_Check.l1 : Nat → Bool → List (S63) → Int → Int → List (List Int) → Int → Int → Int → List (S63) → Int → List (List Int) → Option (Int)
 | 0, _, _, _, _, _, _, _, _, _, _, _ => none
 | k + 1, x3, x18, x19, x20, x39, x40, x41, x106000, x106001, x110000, x110001 => if x41 < x40 then (if 0 ≤ x41 then (if x41 < (x39.length : Int) then (if x3 = true then ((cycle_grows.f k (rd_L1 x39 x41) x110000).bind fun t112 => (if t112 = true then (if x41 > 0 then (cycle_Check.l1 k true x18 x19 x20 x39 x40 (wrap64 (x41 + 1)) x106000 x106001 x110000 x110001) else ((slices_Equal_int_int.f k (rd_L1 x39 x41) (([wrap64 (x110000 - 1)] : List Int))).bind fun t116 => (cycle_Check.l1 k t116 x18 x19 x20 x39 x40 (wrap64 (x41 + 1)) x106000 x106001 x110000 x110001))) else (cycle_Check.l1 k false x18 x19 x20 x39 x40 (wrap64 (x41 + 1)) x106000 x106001 x110000 x110001))) else (cycle_Check.l1 k false x18 x19 x20 x39 x40 (wrap64 (x41 + 1)) x106000 x106001 x110000 x110001)) else (none)) else (none)) else (cycle_Check.l0 k x3 x18 x19 (wrap64 (x20 + 1)) x106000 x106001)
end
def cycle_Check.f (k : Nat) (a0_0 : Int) (l0_1 : List (S63)) : Option (Int) := (cycle_lies.f a0_0 1 5).bind fun t106 => (if t106 = true then ((cycle_lies.f (l0_1.length : Int) 1 4).bind fun t107 => (cycle_Check.j0 k t107 a0_0 l0_1)) else (cycle_Check.j0 k false a0_0 l0_1))
theorem cycle_Check.mono_l : ∀ k, (∀ y0 y1 y2, LeO (cycle_Check.j0 k y0 y1 y2) (cycle_Check.j0 (k + 1) y0 y1 y2)) ∧ (∀ y0 y1 y2 y3 y4 y5, LeO (cycle_Check.l0 k y0 y1 y2 y3 y4 y5) (cycle_Check.l0 (k + 1) y0 y1 y2 y3 y4 y5)) ∧ (∀ y0 y1 y2 y3 y4 y5 y6 y7, LeO (cycle_Check.j2 k y0 y1 y2 y3 y4 y5 y6 y7) (cycle_Check.j2 (k + 1) y0 y1 y2 y3 y4 y5 y6 y7)) ∧ (∀ y0 y1 y2 y3 y4 y5 y6 y7 y8 y9 y10, LeO (cycle_Check.l1 k y0 y1 y2 y3 y4 y5 y6 y7 y8 y9 y10) (cycle_Check.l1 (k + 1) y0 y1 y2 y3 y4 y5 y6 y7 y8 y9 y10))
 | 0 => ⟨fun _ _ _ r h => by simp [cycle_Check.j0] at h, fun _ _ _ _ _ _ r h => by simp [cycle_Check.l0] at h, fun _ _ _ _ _ _ _ _ r h => by simp [cycle_Check.j2] at h, fun _ _ _ _ _ _ _ _ _ _ _ r h => by simp [cycle_Check.l1] at h⟩
 | k + 1 => by
  obtain ⟨ih0, ih1, ih2, ih3⟩ := cycle_Check.mono_l k
  refine ⟨?_, ?_, ?_, ?_⟩
  ·intro y0 y1 y2
   unfold cycle_Check.j0
   repeat' first
   | (with_reducible exact ih0 _ _ _)
   | (with_reducible exact ih1 _ _ _ _ _ _)
   | (with_reducible exact ih2 _ _ _ _ _ _ _ _)
   | (with_reducible exact ih3 _ _ _ _ _ _ _ _ _ _ _)
   | (with_reducible exact cycle_grows.mono _ _ _)
   | (with_reducible exact slices_Equal_int_int.mono _ _ _)
   | (with_reducible exact LeO.refl _)
   | (with_reducible exact LeO.none _)
   | (with_reducible refine LeO.ite ?_ ?_)
   | (with_reducible refine LeO.bind ?_ (fun _ => ?_))
   | exact ih0 _ _ _
   | exact ih1 _ _ _ _ _ _
   | exact ih2 _ _ _ _ _ _ _ _
   | exact ih3 _ _ _ _ _ _ _ _ _ _ _
   | exact cycle_grows.mono _ _ _
   | exact slices_Equal_int_int.mono _ _ _
   | exact LeO.none _
   | refine LeO.ite ?_ ?_
   | refine LeO.bind ?_ (fun _ => ?_)
  ·intro y0 y1 y2 y3 y4 y5
   unfold cycle_Check.l0
   repeat' first
   | (with_reducible exact ih0 _ _ _)
   | (with_reducible exact ih1 _ _ _ _ _ _)
   | (with_reducible exact ih2 _ _ _ _ _ _ _ _)
   | (with_reducible exact ih3 _ _ _ _ _ _ _ _ _ _ _)
   | (with_reducible exact cycle_grows.mono _ _ _)
   | (with_reducible exact slices_Equal_int_int.mono _ _ _)
   | (with_reducible exact LeO.refl _)
   | (with_reducible exact LeO.none _)
   | (with_reducible refine LeO.ite ?_ ?_)
   | (with_reducible refine LeO.bind ?_ (fun _ => ?_))
   | exact ih0 _ _ _
   | exact ih1 _ _ _ _ _ _
   | exact ih2 _ _ _ _ _ _ _ _
   | exact ih3 _ _ _ _ _ _ _ _ _ _ _
   | exact cycle_grows.mono _ _ _
   | exact slices_Equal_int_int.mono _ _ _
   | exact LeO.none _
   | refine LeO.ite ?_ ?_
   | refine LeO.bind ?_ (fun _ => ?_)
  ·intro y0 y1 y2 y3 y4 y5 y6 y7
   unfold cycle_Check.j2
   repeat' first
   | (with_reducible exact ih0 _ _ _)
   | (with_reducible exact ih1 _ _ _ _ _ _)
   | (with_reducible exact ih2 _ _ _ _ _ _ _ _)
   | (with_reducible exact ih3 _ _ _ _ _ _ _ _ _ _ _)
   | (with_reducible exact cycle_grows.mono _ _ _)
   | (with_reducible exact slices_Equal_int_int.mono _ _ _)
   | (with_reducible exact LeO.refl _)
   | (with_reducible exact LeO.none _)
   | (with_reducible refine LeO.ite ?_ ?_)
   | (with_reducible refine LeO.bind ?_ (fun _ => ?_))
   | exact ih0 _ _ _
   | exact ih1 _ _ _ _ _ _
   | exact ih2 _ _ _ _ _ _ _ _
   | exact ih3 _ _ _ _ _ _ _ _ _ _ _
   | exact cycle_grows.mono _ _ _
   | exact slices_Equal_int_int.mono _ _ _
   | exact LeO.none _
   | refine LeO.ite ?_ ?_
   | refine LeO.bind ?_ (fun _ => ?_)
  ·intro y0 y1 y2 y3 y4 y5 y6 y7 y8 y9 y10
   unfold cycle_Check.l1
   repeat' first
   | (with_reducible exact ih0 _ _ _)
   | (with_reducible exact ih1 _ _ _ _ _ _)
   | (with_reducible exact ih2 _ _ _ _ _ _ _ _)
   | (with_reducible exact ih3 _ _ _ _ _ _ _ _ _ _ _)
   | (with_reducible exact cycle_grows.mono _ _ _)
   | (with_reducible exact slices_Equal_int_int.mono _ _ _)
   | (with_reducible exact LeO.refl _)
   | (with_reducible exact LeO.none _)
   | (with_reducible refine LeO.ite ?_ ?_)
   | (with_reducible refine LeO.bind ?_ (fun _ => ?_))
   | exact ih0 _ _ _
   | exact ih1 _ _ _ _ _ _
   | exact ih2 _ _ _ _ _ _ _ _
   | exact ih3 _ _ _ _ _ _ _ _ _ _ _
   | exact cycle_grows.mono _ _ _
   | exact slices_Equal_int_int.mono _ _ _
   | exact LeO.none _
   | refine LeO.ite ?_ ?_
   | refine LeO.bind ?_ (fun _ => ?_)
theorem cycle_Check.mono : ∀ a0 a1 k, LeO (cycle_Check.f k a0 a1) (cycle_Check.f (k + 1) a0 a1) := by
 intro a0 a1 k
 obtain ⟨ih0, ih1, ih2, ih3⟩ := cycle_Check.mono_l k
 unfold cycle_Check.f
 repeat' first
   | (with_reducible exact ih0 _ _ _)
   | (with_reducible exact ih1 _ _ _ _ _ _)
   | (with_reducible exact ih2 _ _ _ _ _ _ _ _)
   | (with_reducible exact ih3 _ _ _ _ _ _ _ _ _ _ _)
   | (with_reducible exact cycle_grows.mono _ _ _)
   | (with_reducible exact slices_Equal_int_int.mono _ _ _)
   | (with_reducible exact LeO.refl _)
   | (with_reducible exact LeO.none _)
   | (with_reducible refine LeO.ite ?_ ?_)
   | (with_reducible refine LeO.bind ?_ (fun _ => ?_))
   | exact ih0 _ _ _
   | exact ih1 _ _ _ _ _ _
   | exact ih2 _ _ _ _ _ _ _ _
   | exact ih3 _ _ _ _ _ _ _ _ _ _ _
   | exact cycle_grows.mono _ _ _
   | exact slices_Equal_int_int.mono _ _ _
   | exact LeO.none _
   | refine LeO.ite ?_ ?_
   | refine LeO.bind ?_ (fun _ => ?_)
set_option maxHeartbeats 8000000 in
set_option maxRecDepth 100000 in
theorem cycle_Check.calls (k : Nat) (a0_0 : Int) (A0_1 : Option Addr) (c0_1 : Nat) (l0_1 : List (S63)) (r : Int) (w : World) (hr0_1 : Kd.C k63 w A0_1 l0_1.length l0_1) (hc0_1 : l0_1.length ≤ c0_1) (h : cycle_Check.f k a0_0 l0_1 = some r) :
  Calls Tryd.prog 17 #[.agg #[.int .i64 a0_0, .slice A0_1 l0_1.length c0_1]] w fun e w' => e = .returned (.int .i64 r) ∧ Below w.heap.size w w' := by
 have hu24 := Tryd.underlying24
 have hu63 := Tryd.underlying63
 have HR0_1 := Aside0.mk hr0_1
 have HC0_1 := Aside0.mk hc0_1
 clear hr0_1 hc0_1
 have HB := Aside0.mk (Below.refl w.heap.size w)
 have H : ((cycle_lies.f a0_0 1 5).bind fun t106 => (if t106 = true then ((cycle_lies.f (l0_1.length : Int) 1 4).bind fun t107 => (cycle_Check.j0 k t107 a0_0 l0_1)) else (cycle_Check.j0 k false a0_0 l0_1))) = some r := h
 clear h
 have HC2 := Aside0.mk H
 clear H
 go_enter Tryd.func17, Tryd.ntmps17
 go_upto_region 1 with (first | ((with_reducible refine gate_dst (N := 1) rfl ?_); (try (refine gate_guard (by rfl) ?_; dsimp only)); refine box_event ?hg (N := 1) ?hd (cs := #[.int .i64 a0_0, .slice A0_1 l0_1.length c0_1]) (t := 24) ?hr ?_; (case hd => rfl); (case hg => rfl); (case hr => exact TS); intro gb105 hg w3 hbox hb; have BK105 := Aside0.mk (hbox); have GW105 := Aside0.mk ((TG : w.heap.size ≤ gb105)); have GE105 := Aside0.mk ((TG : w.heap.size ≤ gb105)); replace HB := Aside0.mk (below_step TB hb); clear hb hbox hg))
 (try simp only [Act.put, lA, lZ, lS])
 go_cut [3] (fun v3 wc => ∃ (kq : Nat) (x3_1 : Bool), v3 = .bool x3_1 ∧ Aside0 (cycle_Check.j0 kq x3_1 a0_0 l0_1 = some r) ∧ Aside0 (kq ≤ k) ∧ Aside0 (wc.heap[gb105]? = some (.cells #[.int .i64 a0_0, (.slice A0_1 l0_1.length c0_1)] 24 (0, 0))) ∧ Aside0 (Below w.heap.size w wc))
 case first => as_aux_lemma =>
  have H := HC2.out
  clear HC2
  replace H := Option.bind_eq_some_iff.mp H
  obtain ⟨t106, A40, H⟩ := H
  replace H : (if t106 = true then ((cycle_lies.f (l0_1.length : Int) 1 4).bind fun t107 => (cycle_Check.j0 k t107 a0_0 l0_1)) else (cycle_Check.j0 k false a0_0 l0_1)) = some r := H
  have A4 := Aside0.mk A40
  clear A40
  by_cases c5 : t106 = true
  ·subst c5
   have H1 : ((cycle_lies.f (l0_1.length : Int) 1 4).bind fun t107 => (cycle_Check.j0 k t107 a0_0 l0_1)) = some r := by rw [if_pos rfl] at H; exact H
   clear H
   have H := H1
   clear H1
   replace H := Option.bind_eq_some_iff.mp H
   obtain ⟨t107, A60, H⟩ := H
   replace H : (cycle_Check.j0 k t107 a0_0 l0_1) = some r := H
   have A6 := Aside0.mk A60
   clear A60
   have H' := Aside0.mk H
   clear H
   have hcz7_0 := cz BK105.out 0
   have hcz7_1 := cz BK105.out 1
   have hfz7_0 := fz BK105.out 0
   have hfz7_1 := fz BK105.out 1
   go_wp2_with (first | ((with_reducible refine gate_callee (f := 61) rfl ?_); refine goesL_ (some 10) rfl rfl Tryd.func61 (by kernel_rfl) rfl #[.int .i64 a0_0, .int .i64 1, .int .i64 5] rfl TM ?_; (with_reducible refine (cycle_lies.calls a0_0 1 5 true _ A4.out).mono ?_); rintro e w' ⟨rfl, ⟨nd, rfl⟩⟩; refine ⟨_, rfl, ?_⟩) | (go_at_call 61; (with_reducible refine (cycle_lies.calls (l0_1.length : Int) 1 4 t107 _ A6.out).mono ?_); rintro e w' ⟨rfl, ⟨nd, rfl⟩⟩))
   go_meet
   case rel => exact ⟨_, (t107), TT, H', ⟨by first | omega | exact Nat.le_refl _⟩, ⟨TK BK105.out⟩, ⟨TB1 GE105.out⟩⟩
  ·replace c5 := Bool.eq_false_iff.mpr c5
   subst c5
   have H1 : (cycle_Check.j0 k false a0_0 l0_1) = some r := by rw [if_neg (show ¬ (false = true) by decide)] at H; exact H
   clear H
   have H := H1
   clear H1
   have H' := Aside0.mk H
   clear H
   have hcz8_0 := cz BK105.out 0
   have hcz8_1 := cz BK105.out 1
   have hfz8_0 := fz BK105.out 0
   have hfz8_1 := fz BK105.out 1
   go_wp2_with (first | ((with_reducible refine gate_callee (f := 61) rfl ?_); refine goesL_ (some 10) rfl rfl Tryd.func61 (by kernel_rfl) rfl #[.int .i64 a0_0, .int .i64 1, .int .i64 5] rfl TM ?_; (with_reducible refine (cycle_lies.calls a0_0 1 5 false _ A4.out).mono ?_); rintro e w' ⟨rfl, ⟨nd, rfl⟩⟩; refine ⟨_, rfl, ?_⟩))
   go_meet
   case rel => exact ⟨_, (false), TT, H', ⟨by first | omega | exact Nat.le_refl _⟩, ⟨TK BK105.out⟩, ⟨TB1 GE105.out⟩⟩
 case rest => as_aux_lemma =>
  clear HC2
  try clear c1
  try clear p2
  try clear c5
  try clear c6
  try clear hcz7_0 hcz7_1
  try clear hcz8_0 hcz8_1
  try clear hfz7_0 hfz7_1
  try clear hfz8_0 hfz8_1
  obtain ⟨kq, x3_1, rfl, HA, HJ1, BK105, HB⟩ := hcut
  cases kq with
  | zero => exact absurd HA.out (by simp [cycle_Check.j0])
  | succ kj1 =>
   have H := HA.out
   clear HA
   simp only [cycle_Check.j0] at H
   have H' := Aside0.mk H
   clear H
   have hcz9_0 := cz BK105.out 0
   have hcz9_1 := cz BK105.out 1
   have hfz9_0 := fz BK105.out 0
   have hfz9_1 := fz BK105.out 1
   go_wp2
   go_loopg [3, 20] kj1 (fun kq v3 v20 w' => ∃ (x3_2 : Bool) (x20_2 : Int), v3 = .bool x3_2 ∧ v20 = .int .i64 x20_2 ∧ Aside0 (cycle_Check.l0 kq x3_2 l0_1 (l0_1.length : Int) x20_2 a0_0 l0_1 = some r) ∧ Aside0 (kq ≤ kj1) ∧ Aside0 (w'.heap[gb105]? = some (.cells #[.int .i64 a0_0, (.slice A0_1 l0_1.length c0_1)] 24 (0, 0))) ∧ Aside0 (Below w.heap.size w w'))
   case atStart => exact ⟨(x3_1), (0), TT, TT, H', ⟨Nat.le_refl _⟩, ⟨TK BK105.out⟩, ⟨TB1 GE105.out⟩⟩
   case round => as_aux_lemma =>
    clear H'
    try clear c1
    try clear p2
    try clear c5
    try clear c6
    try clear hcz7_0 hcz7_1
    try clear hcz8_0 hcz8_1
    try clear hcz9_0 hcz9_1
    try clear hfz7_0 hfz7_1
    try clear hfz8_0 hfz8_1
    try clear hfz9_0 hfz9_1
    try clear p2
    obtain ⟨x3_2, x20_2, rfl, rfl, HA, HK2, BK105, HB⟩ := hrel
    cases gk with
    | zero => exact absurd HA.out (by simp [cycle_Check.l0])
    | succ k2 =>
     have H := HA.out
     clear HA
     simp only [cycle_Check.l0] at H
     by_cases c10 : x20_2 < (l0_1.length : Int)
     ·rw [if_pos c10] at H
      have c10b0 : decide (x20_2 < (l0_1.length : Int)) = true := decide_eq_true c10
      clear c10
      by_cases c11 : 0 ≤ x20_2
      ·rw [if_pos c11] at H
       have c11b0 : decide (0 ≤ x20_2) = true := decide_eq_true c11
       clear c11
       by_cases c12 : x20_2 < (l0_1.length : Int)
       ·rw [if_pos c12] at H
        have c12b0 : decide (x20_2 < (l0_1.length : Int)) = true := decide_eq_true c12
        clear c12
        have HC13 := Aside0.mk H
        clear H
        have p108 : 0 ≤ (x20_2 : Int) := of_decide_eq_true TA
        have q108 : x20_2 < (l0_1.length : Int) := of_decide_eq_true TA
        obtain ⟨ad108, A108_1, c108_1, e108, hx108_0, hx108_1, hl108_1, hi108_1⟩ := at_T63 HR0_1.out x20_2 p108 q108
        cases e108
        replace hx108_0 := hx HB.out hx108_0
        replace hx108_1 := hx HB.out hx108_1
        have HR108_1 := Aside0.mk hi108_1
        have HC108_1 := Aside0.mk hl108_1
        clear hi108_1 hl108_1
        replace p108 := eq_true p108
        replace q108 := eq_true q108
        go_upto_region 5 with (first | ((with_reducible refine gate_dst (N := 5) rfl ?_); (try (refine gate_guard (by rfl) ?_; dsimp only)); refine box_event ?hg (N := 5) ?hd (cs := #[.int .i64 0, .slice none 0 0]) (t := 63) ?hr ?_; (case hd => rfl); (case hg => rfl); (case hr => exact TS); intro gb109 hg w14 hbox hb; have BK109 := Aside0.mk (hbox); have GW109 := Aside0.mk ((TG1 GE105.out : w.heap.size ≤ gb109)); have GE109 := Aside0.mk ((TG1 GE105.out : w.heap.size ≤ gb109)); have NB105_109 := Aside0.mk ((by rw [hg]; exact Nat.ne_of_lt (blk_lt (g := gb105) (o := .cells #[.int .i64 a0_0, .slice (some ad108) l0_1.length c0_1] 24 (0, 0)) (TK BK105.out)) : gb105 ≠ gb109)); have NB109_105 := Aside0.mk ((by rw [hg]; exact Nat.ne_of_gt (blk_lt (g := gb105) (o := .cells #[.int .i64 a0_0, .slice (some ad108) l0_1.length c0_1] 24 (0, 0)) (TK BK105.out)) : gb109 ≠ gb105)); replace BK105 := Aside0.mk (TKb hb BK105.out); replace HB := Aside0.mk (below_step (TB1 GE105.out) hb); clear hb hbox hg; have hnb15 := NB109_105.out; have hnc15 := NB105_109.out; have hcz16_0 := cz BK109.out 0; have hcz16_1 := cz BK109.out 1; have hfz16_0 := fz BK109.out 0; have hfz16_1 := fz BK109.out 1))
        (try simp only [Act.put, lA, lZ, lS])
        go_cut [3] (fun v3 wc => ∃ (kq : Nat) (x3_12 : Bool), v3 = .bool x3_12 ∧ Aside0 (cycle_Check.j2 kq x3_12 l0_1 (l0_1.length : Int) x20_2 a0_0 l0_1 ((rd_T63 l0_1 x20_2).f0) ((rd_T63 l0_1 x20_2).f1) = some r) ∧ Aside0 (kq ≤ k2) ∧ Aside0 (wc.heap[gb105]? = some (.cells #[.int .i64 a0_0, (.slice (some ad108) l0_1.length c0_1)] 24 (0, 0))) ∧ Aside0 (wc.heap[gb109]? = some (.cells #[.int .i64 ((rd_T63 l0_1 x20_2).f0), (.slice A108_1 ((rd_T63 l0_1 x20_2).f1).length c108_1)] 63 (0, 0))) ∧ Aside0 (Below w.heap.size w wc))
        case first => as_aux_lemma =>
         have H := HC13.out
         clear HC13
         by_cases c17 : x3_2 = true
         ·subst c17
          have H1 : ((cycle_lies.f ((rd_T63 l0_1 x20_2).f0) 2 32).bind fun t110 => (if t110 = true then (cycle_Check.j2 k2 ((((rd_T63 l0_1 x20_2).f1).length : Int) == a0_0) l0_1 (l0_1.length : Int) x20_2 a0_0 l0_1 ((rd_T63 l0_1 x20_2).f0) ((rd_T63 l0_1 x20_2).f1)) else (cycle_Check.j2 k2 false l0_1 (l0_1.length : Int) x20_2 a0_0 l0_1 ((rd_T63 l0_1 x20_2).f0) ((rd_T63 l0_1 x20_2).f1)))) = some r := by rw [if_pos rfl] at H; exact H
          clear H
          have H := H1
          clear H1
          replace H := Option.bind_eq_some_iff.mp H
          obtain ⟨t110, A180, H⟩ := H
          replace H : (if t110 = true then (cycle_Check.j2 k2 ((((rd_T63 l0_1 x20_2).f1).length : Int) == a0_0) l0_1 (l0_1.length : Int) x20_2 a0_0 l0_1 ((rd_T63 l0_1 x20_2).f0) ((rd_T63 l0_1 x20_2).f1)) else (cycle_Check.j2 k2 false l0_1 (l0_1.length : Int) x20_2 a0_0 l0_1 ((rd_T63 l0_1 x20_2).f0) ((rd_T63 l0_1 x20_2).f1))) = some r := H
          have A18 := Aside0.mk A180
          clear A180
          by_cases c19 : t110 = true
          ·subst c19
           have H1 : (cycle_Check.j2 k2 ((((rd_T63 l0_1 x20_2).f1).length : Int) == a0_0) l0_1 (l0_1.length : Int) x20_2 a0_0 l0_1 ((rd_T63 l0_1 x20_2).f0) ((rd_T63 l0_1 x20_2).f1)) = some r := by rw [if_pos rfl] at H; exact H
           clear H
           have H := H1
           clear H1
           have H' := Aside0.mk H
           clear H
           have hnb20 := NB109_105.out
           have hnc20 := NB105_109.out
           have hcz21_0 := cz BK109.out 0
           have hcz21_1 := cz BK109.out 1
           have hfz21_0 := fz BK109.out 0
           have hfz21_1 := fz BK109.out 1
           go_wp2_with (first | (go_at_call 61; (with_reducible refine (cycle_lies.calls ((rd_T63 l0_1 x20_2).f0) 2 32 true _ A18.out).mono ?_); rintro e w' ⟨rfl, ⟨nd, rfl⟩⟩; have hcz22_0 := cz BK105.out 0; have hcz22_1 := cz BK105.out 1; have hfz22_0 := fz BK105.out 0; have hfz22_1 := fz BK105.out 1))
           go_meet
           case rel => exact ⟨_, (((((rd_T63 l0_1 x20_2).f1).length : Int) == a0_0)), TT, H', ⟨by have := HJ1.out; have := HK2.out; first | omega | exact Nat.le_refl _⟩, ⟨by (with_reducible repeat (first | refine blk_drewN ?_ _ | refine blk_drew ?_ | refine blk_alloc ?_ _)); refine blk_far ?_ NB105_109.out _; (with_reducible repeat (first | refine blk_drewN ?_ _ | refine blk_drew ?_ | refine blk_alloc ?_ _)); refine blk_far ?_ NB105_109.out _; (with_reducible repeat (first | refine blk_drewN ?_ _ | refine blk_drew ?_ | refine blk_alloc ?_ _)); exact BK105.out⟩, ⟨by (with_reducible repeat (first | refine blk_drewN ?_ _ | refine blk_drew ?_ | refine blk_alloc ?_ _)); refine blk_put (cs := #[.int .i64 ((rd_T63 l0_1 x20_2).f0), .slice none 0 0]) ?_ 1 _ rfl; (with_reducible repeat (first | refine blk_drewN ?_ _ | refine blk_drew ?_ | refine blk_alloc ?_ _)); refine blk_put (cs := #[.int .i64 0, .slice none 0 0]) ?_ 0 _ rfl; (with_reducible repeat (first | refine blk_drewN ?_ _ | refine blk_drew ?_ | refine blk_alloc ?_ _)); exact BK109.out⟩, ⟨TB2 GE105.out GE109.out⟩⟩
          ·replace c19 := Bool.eq_false_iff.mpr c19
           subst c19
           have H1 : (cycle_Check.j2 k2 false l0_1 (l0_1.length : Int) x20_2 a0_0 l0_1 ((rd_T63 l0_1 x20_2).f0) ((rd_T63 l0_1 x20_2).f1)) = some r := by rw [if_neg (show ¬ (false = true) by decide)] at H; exact H
           clear H
           have H := H1
           clear H1
           have H' := Aside0.mk H
           clear H
           have hnb23 := NB109_105.out
           have hnc23 := NB105_109.out
           have hcz24_0 := cz BK109.out 0
           have hcz24_1 := cz BK109.out 1
           have hfz24_0 := fz BK109.out 0
           have hfz24_1 := fz BK109.out 1
           go_wp2_with (first | (go_at_call 61; (with_reducible refine (cycle_lies.calls ((rd_T63 l0_1 x20_2).f0) 2 32 false _ A18.out).mono ?_); rintro e w' ⟨rfl, ⟨nd, rfl⟩⟩))
           go_meet
           case rel => exact ⟨_, (false), TT, H', ⟨by have := HJ1.out; have := HK2.out; first | omega | exact Nat.le_refl _⟩, ⟨by (with_reducible repeat (first | refine blk_drewN ?_ _ | refine blk_drew ?_ | refine blk_alloc ?_ _)); refine blk_far ?_ NB105_109.out _; (with_reducible repeat (first | refine blk_drewN ?_ _ | refine blk_drew ?_ | refine blk_alloc ?_ _)); refine blk_far ?_ NB105_109.out _; (with_reducible repeat (first | refine blk_drewN ?_ _ | refine blk_drew ?_ | refine blk_alloc ?_ _)); exact BK105.out⟩, ⟨by (with_reducible repeat (first | refine blk_drewN ?_ _ | refine blk_drew ?_ | refine blk_alloc ?_ _)); refine blk_put (cs := #[.int .i64 ((rd_T63 l0_1 x20_2).f0), .slice none 0 0]) ?_ 1 _ rfl; (with_reducible repeat (first | refine blk_drewN ?_ _ | refine blk_drew ?_ | refine blk_alloc ?_ _)); refine blk_put (cs := #[.int .i64 0, .slice none 0 0]) ?_ 0 _ rfl; (with_reducible repeat (first | refine blk_drewN ?_ _ | refine blk_drew ?_ | refine blk_alloc ?_ _)); exact BK109.out⟩, ⟨TB2 GE105.out GE109.out⟩⟩
         ·replace c17 := Bool.eq_false_iff.mpr c17
          subst c17
          have H1 : (cycle_Check.j2 k2 false l0_1 (l0_1.length : Int) x20_2 a0_0 l0_1 ((rd_T63 l0_1 x20_2).f0) ((rd_T63 l0_1 x20_2).f1)) = some r := by rw [if_neg (show ¬ (false = true) by decide)] at H; exact H
          clear H
          have H := H1
          clear H1
          have H' := Aside0.mk H
          clear H
          go_wp2
          go_meet
          case rel => exact ⟨_, (false), TT, H', ⟨by have := HJ1.out; have := HK2.out; first | omega | exact Nat.le_refl _⟩, ⟨by (with_reducible repeat (first | refine blk_drewN ?_ _ | refine blk_drew ?_ | refine blk_alloc ?_ _)); refine blk_far ?_ NB105_109.out _; (with_reducible repeat (first | refine blk_drewN ?_ _ | refine blk_drew ?_ | refine blk_alloc ?_ _)); refine blk_far ?_ NB105_109.out _; (with_reducible repeat (first | refine blk_drewN ?_ _ | refine blk_drew ?_ | refine blk_alloc ?_ _)); exact BK105.out⟩, ⟨by (with_reducible repeat (first | refine blk_drewN ?_ _ | refine blk_drew ?_ | refine blk_alloc ?_ _)); refine blk_put (cs := #[.int .i64 ((rd_T63 l0_1 x20_2).f0), .slice none 0 0]) ?_ 1 _ rfl; (with_reducible repeat (first | refine blk_drewN ?_ _ | refine blk_drew ?_ | refine blk_alloc ?_ _)); refine blk_put (cs := #[.int .i64 0, .slice none 0 0]) ?_ 0 _ rfl; (with_reducible repeat (first | refine blk_drewN ?_ _ | refine blk_drew ?_ | refine blk_alloc ?_ _)); exact BK109.out⟩, ⟨TB2 GE105.out GE109.out⟩⟩
        case rest => as_aux_lemma =>
         clear HC13
         try clear c1
         try clear p1
         try clear q1
         try clear hx1
         try clear c2
         try clear p2
         try clear c5
         try clear c6
         try clear c10
         try clear c10b0
         try clear p10
         try clear q10
         try clear hx10
         try clear c11
         try clear c11b0
         try clear c12
         try clear c12b0
         try clear c15
         try clear c17
         try clear c19
         try clear c20
         try clear c23
         try clear hcz16_0 hcz16_1
         try clear hcz21_0 hcz21_1
         try clear hcz22_0 hcz22_1
         try clear hcz24_0 hcz24_1
         try clear hcz7_0 hcz7_1
         try clear hcz8_0 hcz8_1
         try clear hcz9_0 hcz9_1
         try clear hfz16_0 hfz16_1
         try clear hfz21_0 hfz21_1
         try clear hfz22_0 hfz22_1
         try clear hfz24_0 hfz24_1
         try clear hfz7_0 hfz7_1
         try clear hfz8_0 hfz8_1
         try clear hfz9_0 hfz9_1
         try clear hx108_0
         try clear hx108_1
         try clear p108
         try clear p2
         try clear q108
         obtain ⟨kq, x3_12, rfl, HA, HJ12, BK105, BK109, HB⟩ := hcut
         cases kq with
         | zero => exact absurd HA.out (by simp [cycle_Check.j2])
         | succ kj12 =>
          have H := HA.out
          clear HA
          simp only [cycle_Check.j2] at H
          have H' := Aside0.mk H
          clear H
          have hnb25 := NB109_105.out
          have hnc25 := NB105_109.out
          have hcz26_0 := cz BK109.out 0
          have hcz26_1 := cz BK109.out 1
          have hfz26_0 := fz BK109.out 0
          have hfz26_1 := fz BK109.out 1
          go_wp2
          go_loopg [3, 41] kj12 (fun kq v3 v41 w' => ∃ (x3_4 : Bool) (x41_4 : Int), v3 = .bool x3_4 ∧ v41 = .int .i64 x41_4 ∧ Aside0 (cycle_Check.l1 kq x3_4 l0_1 (l0_1.length : Int) x20_2 ((rd_T63 l0_1 x20_2).f1) (((rd_T63 l0_1 x20_2).f1).length : Int) x41_4 a0_0 l0_1 ((rd_T63 l0_1 x20_2).f0) ((rd_T63 l0_1 x20_2).f1) = some r) ∧ Aside0 (kq ≤ kj12) ∧ Aside0 (w'.heap[gb105]? = some (.cells #[.int .i64 a0_0, (.slice (some ad108) l0_1.length c0_1)] 24 (0, 0))) ∧ Aside0 (w'.heap[gb109]? = some (.cells #[.int .i64 ((rd_T63 l0_1 x20_2).f0), (.slice A108_1 ((rd_T63 l0_1 x20_2).f1).length c108_1)] 63 (0, 0))) ∧ Aside0 (Below w.heap.size w w'))
          case atStart => exact ⟨(x3_12), (0), TT, TT, H', ⟨Nat.le_refl _⟩, ⟨TK BK105.out⟩, ⟨TK BK109.out⟩, ⟨TB2 GE105.out GE109.out⟩⟩
          case round => as_aux_lemma =>
           clear H'
           try clear c1
           try clear p1
           try clear q1
           try clear hx1
           try clear c2
           try clear p2
           try clear c5
           try clear c6
           try clear c10
           try clear c10b0
           try clear p10
           try clear q10
           try clear hx10
           try clear c11
           try clear c11b0
           try clear c12
           try clear c12b0
           try clear c15
           try clear c17
           try clear c19
           try clear c20
           try clear c23
           try clear c25
           try clear hcz16_0 hcz16_1
           try clear hcz21_0 hcz21_1
           try clear hcz22_0 hcz22_1
           try clear hcz24_0 hcz24_1
           try clear hcz26_0 hcz26_1
           try clear hcz7_0 hcz7_1
           try clear hcz8_0 hcz8_1
           try clear hcz9_0 hcz9_1
           try clear hfz16_0 hfz16_1
           try clear hfz21_0 hfz21_1
           try clear hfz22_0 hfz22_1
           try clear hfz24_0 hfz24_1
           try clear hfz26_0 hfz26_1
           try clear hfz7_0 hfz7_1
           try clear hfz8_0 hfz8_1
           try clear hfz9_0 hfz9_1
           try clear hx108_0
           try clear hx108_1
           try clear p1
           try clear p10
           try clear p108
           try clear p2
           try clear q1
           try clear q10
           try clear q108
           obtain ⟨x3_4, x41_4, rfl, rfl, HA, HK4, BK105, BK109, HB⟩ := hrel
           cases gk with
           | zero => exact absurd HA.out (by simp [cycle_Check.l1])
           | succ k4 =>
            have H := HA.out
            clear HA
            simp only [cycle_Check.l1] at H
            by_cases c27 : x41_4 < (((rd_T63 l0_1 x20_2).f1).length : Int)
            ·rw [if_pos c27] at H
             have c27b0 : decide (x41_4 < (((rd_T63 l0_1 x20_2).f1).length : Int)) = true := decide_eq_true c27
             clear c27
             by_cases c28 : 0 ≤ x41_4
             ·rw [if_pos c28] at H
              have c28b0 : decide (0 ≤ x41_4) = true := decide_eq_true c28
              clear c28
              by_cases c29 : x41_4 < (((rd_T63 l0_1 x20_2).f1).length : Int)
              ·rw [if_pos c29] at H
               have c29b0 : decide (x41_4 < (((rd_T63 l0_1 x20_2).f1).length : Int)) = true := decide_eq_true c29
               clear c29
               by_cases c30 : x3_4 = true
               ·subst c30
                have H1 : ((cycle_grows.f k4 (rd_L1 ((rd_T63 l0_1 x20_2).f1) x41_4) ((rd_T63 l0_1 x20_2).f0)).bind fun t112 => (if t112 = true then (if x41_4 > 0 then (cycle_Check.l1 k4 true l0_1 (l0_1.length : Int) x20_2 ((rd_T63 l0_1 x20_2).f1) (((rd_T63 l0_1 x20_2).f1).length : Int) (wrap64 (x41_4 + 1)) a0_0 l0_1 ((rd_T63 l0_1 x20_2).f0) ((rd_T63 l0_1 x20_2).f1)) else ((slices_Equal_int_int.f k4 (rd_L1 ((rd_T63 l0_1 x20_2).f1) x41_4) (([wrap64 (((rd_T63 l0_1 x20_2).f0) - 1)] : List Int))).bind fun t116 => (cycle_Check.l1 k4 t116 l0_1 (l0_1.length : Int) x20_2 ((rd_T63 l0_1 x20_2).f1) (((rd_T63 l0_1 x20_2).f1).length : Int) (wrap64 (x41_4 + 1)) a0_0 l0_1 ((rd_T63 l0_1 x20_2).f0) ((rd_T63 l0_1 x20_2).f1)))) else (cycle_Check.l1 k4 false l0_1 (l0_1.length : Int) x20_2 ((rd_T63 l0_1 x20_2).f1) (((rd_T63 l0_1 x20_2).f1).length : Int) (wrap64 (x41_4 + 1)) a0_0 l0_1 ((rd_T63 l0_1 x20_2).f0) ((rd_T63 l0_1 x20_2).f1)))) = some r := by rw [if_pos rfl] at H; exact H
                clear H
                have H := H1
                clear H1
                replace H := Option.bind_eq_some_iff.mp H
                obtain ⟨t112, A310, H⟩ := H
                replace H : (if t112 = true then (if x41_4 > 0 then (cycle_Check.l1 k4 true l0_1 (l0_1.length : Int) x20_2 ((rd_T63 l0_1 x20_2).f1) (((rd_T63 l0_1 x20_2).f1).length : Int) (wrap64 (x41_4 + 1)) a0_0 l0_1 ((rd_T63 l0_1 x20_2).f0) ((rd_T63 l0_1 x20_2).f1)) else ((slices_Equal_int_int.f k4 (rd_L1 ((rd_T63 l0_1 x20_2).f1) x41_4) (([wrap64 (((rd_T63 l0_1 x20_2).f0) - 1)] : List Int))).bind fun t116 => (cycle_Check.l1 k4 t116 l0_1 (l0_1.length : Int) x20_2 ((rd_T63 l0_1 x20_2).f1) (((rd_T63 l0_1 x20_2).f1).length : Int) (wrap64 (x41_4 + 1)) a0_0 l0_1 ((rd_T63 l0_1 x20_2).f0) ((rd_T63 l0_1 x20_2).f1)))) else (cycle_Check.l1 k4 false l0_1 (l0_1.length : Int) x20_2 ((rd_T63 l0_1 x20_2).f1) (((rd_T63 l0_1 x20_2).f1).length : Int) (wrap64 (x41_4 + 1)) a0_0 l0_1 ((rd_T63 l0_1 x20_2).f0) ((rd_T63 l0_1 x20_2).f1))) = some r := H
                have A31 := Aside0.mk A310
                clear A310
                by_cases c32 : t112 = true
                ·subst c32
                 have H1 : (if x41_4 > 0 then (cycle_Check.l1 k4 true l0_1 (l0_1.length : Int) x20_2 ((rd_T63 l0_1 x20_2).f1) (((rd_T63 l0_1 x20_2).f1).length : Int) (wrap64 (x41_4 + 1)) a0_0 l0_1 ((rd_T63 l0_1 x20_2).f0) ((rd_T63 l0_1 x20_2).f1)) else ((slices_Equal_int_int.f k4 (rd_L1 ((rd_T63 l0_1 x20_2).f1) x41_4) (([wrap64 (((rd_T63 l0_1 x20_2).f0) - 1)] : List Int))).bind fun t116 => (cycle_Check.l1 k4 t116 l0_1 (l0_1.length : Int) x20_2 ((rd_T63 l0_1 x20_2).f1) (((rd_T63 l0_1 x20_2).f1).length : Int) (wrap64 (x41_4 + 1)) a0_0 l0_1 ((rd_T63 l0_1 x20_2).f0) ((rd_T63 l0_1 x20_2).f1)))) = some r := by rw [if_pos rfl] at H; exact H
                 clear H
                 have H := H1
                 clear H1
                 by_cases c33 : x41_4 > 0
                 ·rw [if_pos c33] at H
                  have c33b0 : decide (0 < x41_4) = true := decide_eq_true c33
                  clear c33
                  have H' := Aside0.mk H
                  clear H
                  have p111 : 0 ≤ (x41_4 : Int) := of_decide_eq_true TA
                  have q111 : x41_4 < (((rd_T63 l0_1 x20_2).f1).length : Int) := of_decide_eq_true TA
                  obtain ⟨ad111, A111_0, c111_0, e111, hx111_0, hl111_0, hi111_0⟩ := at_L1 HR108_1.out x41_4 p111 q111
                  cases e111
                  replace hx111_0 := hx HB.out hx111_0
                  have HR111_0 := Aside0.mk hi111_0
                  have HC111_0 := Aside0.mk hl111_0
                  clear hi111_0 hl111_0
                  replace p111 := eq_true p111
                  replace q111 := eq_true q111
                  have hnb34 := NB109_105.out
                  have hnc34 := NB105_109.out
                  have hcz35_0 := cz BK109.out 0
                  have hcz35_1 := cz BK109.out 1
                  have hfz35_0 := fz BK109.out 0
                  have hfz35_1 := fz BK109.out 1
                  go_wp2_with (first | (go_at_call 62; (with_reducible refine (cycle_grows.calls k4 _ _ (rd_L1 ((rd_T63 l0_1 x20_2).f1) x41_4) ((rd_T63 l0_1 x20_2).f0) true _ ?side1 ?side2 A31.out).mono ?_); (case side1 => exact TC HR111_0.out); (case side2 => exact HC111_0.out); rintro e w' ⟨rfl, ⟨nd, rfl⟩⟩))
                  go_roundg k4
                  case measure => have := HJ1.out; have := HK2.out; have := HJ12.out; have := HK4.out; omega
                  case rel => exact ⟨(true), (wrap64 (x41_4 + 1)), TT, TT, H', ⟨by have := HJ1.out; have := HK2.out; have := HJ12.out; have := HK4.out; omega⟩, ⟨TK BK105.out⟩, ⟨TK BK109.out⟩, ⟨TB2 GE105.out GE109.out⟩⟩
                 ·rw [if_neg c33] at H
                  have c33b0 : decide (0 < x41_4) = false := decide_eq_false c33
                  clear c33
                  obtain ⟨y113, hy113⟩ : ∃ y_ : List Int, y_ = (([wrap64 (((rd_T63 l0_1 x20_2).f0) - 1)] : List Int)) := ⟨_, rfl⟩
                  replace H : ((slices_Equal_int_int.f k4 (rd_L1 ((rd_T63 l0_1 x20_2).f1) x41_4) y113).bind fun t116 => (cycle_Check.l1 k4 t116 l0_1 (l0_1.length : Int) x20_2 ((rd_T63 l0_1 x20_2).f1) (((rd_T63 l0_1 x20_2).f1).length : Int) (wrap64 (x41_4 + 1)) a0_0 l0_1 ((rd_T63 l0_1 x20_2).f0) ((rd_T63 l0_1 x20_2).f1))) = some r := by first | (rw [hy113]; with_reducible exact H) | (have H2_ := (Option.bind_some _ _).symm.trans H; rw [hy113]; with_reducible exact H2_) | (have H2_ := (Option.bind_some _ _).symm.trans H; with_reducible exact H2_) | with_reducible exact H | (rw [hy113]; exact H) | exact H
                  have Ny113 := Aside0.mk hy113
                  clear hy113
                  replace H := Option.bind_eq_some_iff.mp H
                  obtain ⟨t116, A360, H⟩ := H
                  replace H : (cycle_Check.l1 k4 t116 l0_1 (l0_1.length : Int) x20_2 ((rd_T63 l0_1 x20_2).f1) (((rd_T63 l0_1 x20_2).f1).length : Int) (wrap64 (x41_4 + 1)) a0_0 l0_1 ((rd_T63 l0_1 x20_2).f0) ((rd_T63 l0_1 x20_2).f1)) = some r := H
                  have A36 := Aside0.mk A360
                  clear A360
                  have H' := Aside0.mk H
                  clear H
                  have p111 : 0 ≤ (x41_4 : Int) := of_decide_eq_true TA
                  have q111 : x41_4 < (((rd_T63 l0_1 x20_2).f1).length : Int) := of_decide_eq_true TA
                  obtain ⟨ad111, A111_0, c111_0, e111, hx111_0, hl111_0, hi111_0⟩ := at_L1 HR108_1.out x41_4 p111 q111
                  cases e111
                  replace hx111_0 := hx HB.out hx111_0
                  have HR111_0 := Aside0.mk hi111_0
                  have HC111_0 := Aside0.mk hl111_0
                  clear hi111_0 hl111_0
                  replace p111 := eq_true p111
                  replace q111 := eq_true q111
                  have hnb37 := NB109_105.out
                  have hnc37 := NB105_109.out
                  have hcz38_0 := cz BK109.out 0
                  have hcz38_1 := cz BK109.out 1
                  have hfz38_0 := fz BK109.out 0
                  have hfz38_1 := fz BK109.out 1
                  go_wp2_with (first | (go_at_call 62; (with_reducible refine (cycle_grows.calls k4 _ _ (rd_L1 ((rd_T63 l0_1 x20_2).f1) x41_4) ((rd_T63 l0_1 x20_2).f0) true _ ?side1 ?side2 A31.out).mono ?_); (case side1 => exact TC HR111_0.out); (case side2 => exact HC111_0.out); rintro e w' ⟨rfl, ⟨nd, rfl⟩⟩) | ((with_reducible refine gate_dst (N := 61) rfl ?_); (try (refine gate_guard (by rfl) ?_; dsimp only)); refine Kd.R_lit (Kd.int .i64) _ 3 ?hg (N := 61) ?hd (xs := ([wrap64 (((rd_T63 l0_1 x20_2).f0) - 1)] : List Int)) (inner := [.int .i64 (wrap64 (((rd_T63 l0_1 x20_2).f0) - 1))]) (ok := fun _ => True) (okp := fun _ => True) ?hr ?hp (fun _ hk => hk) trivial (Below.refl _ _) (Nat.le_refl _) (by simp) ?_; (case hd => rfl); (case hg => rfl); (case hr => exact TS); (case hp => exact (Reps.one (show Kd.M (Kd.int .i64) _ _ _ (wrap64 (((rd_T63 l0_1 x20_2).f0) - 1)) [.int .i64 (wrap64 (((rd_T63 l0_1 x20_2).f0) - 1))] from rfl) (Reps.none _ _))); intro v114 w39 ho40 hb hg_ hnew_; clear hg_ hnew_; (first | rw [← Ny113.out] at ho40 | (simp only [Int.reduceToNat] at ho40; rw [← Ny113.out] at ho40)); have HO115 := Aside0.mk (Kd.R_lower ho40 (below_size (TB2 GE105.out GE109.out))); replace BK105 := Aside0.mk (TKb hb BK105.out); replace BK109 := Aside0.mk (TKb hb BK109.out); replace HB := Aside0.mk (below_step (TB2 GE105.out GE109.out) hb); clear hb ho40; obtain ⟨Ao41, co41, eo41⟩ := Kd.R_slice HO115.out; subst eo41) | (go_at_call 63; (with_reducible refine (slices_Equal_int_int.calls k4 _ _ (rd_L1 ((rd_T63 l0_1 x20_2).f1) x41_4) _ _ y113 t116 _ ?side1 ?side2 ?side3 ?side4 A36.out).mono ?_); (case side1 => exact TC HR111_0.out); (case side2 => exact HC111_0.out); (case side3 => repeat (first | exact (Kd.R_reads' HO115.out).2.2 | (with_reducible refine Kd.C_alloc ?_ _) | (with_reducible refine Kd.C_drewN ?_ _) | (with_reducible refine Kd.C_drew ?_))); (case side4 => exact (Kd.R_reads' HO115.out).2.1); rintro e w' ⟨rfl, ⟨nd, rfl⟩⟩))
                  go_roundg k4
                  case measure => have := HJ1.out; have := HK2.out; have := HJ12.out; have := HK4.out; omega
                  case rel => exact ⟨(t116), (wrap64 (x41_4 + 1)), TT, TT, H', ⟨by have := HJ1.out; have := HK2.out; have := HJ12.out; have := HK4.out; omega⟩, ⟨TK BK105.out⟩, ⟨TK BK109.out⟩, ⟨TB2 GE105.out GE109.out⟩⟩
                ·replace c32 := Bool.eq_false_iff.mpr c32
                 subst c32
                 have H1 : (cycle_Check.l1 k4 false l0_1 (l0_1.length : Int) x20_2 ((rd_T63 l0_1 x20_2).f1) (((rd_T63 l0_1 x20_2).f1).length : Int) (wrap64 (x41_4 + 1)) a0_0 l0_1 ((rd_T63 l0_1 x20_2).f0) ((rd_T63 l0_1 x20_2).f1)) = some r := by rw [if_neg (show ¬ (false = true) by decide)] at H; exact H
                 clear H
                 have H := H1
                 clear H1
                 have H' := Aside0.mk H
                 clear H
                 have p111 : 0 ≤ (x41_4 : Int) := of_decide_eq_true TA
                 have q111 : x41_4 < (((rd_T63 l0_1 x20_2).f1).length : Int) := of_decide_eq_true TA
                 obtain ⟨ad111, A111_0, c111_0, e111, hx111_0, hl111_0, hi111_0⟩ := at_L1 HR108_1.out x41_4 p111 q111
                 cases e111
                 replace hx111_0 := hx HB.out hx111_0
                 have HR111_0 := Aside0.mk hi111_0
                 have HC111_0 := Aside0.mk hl111_0
                 clear hi111_0 hl111_0
                 replace p111 := eq_true p111
                 replace q111 := eq_true q111
                 have hnb42 := NB109_105.out
                 have hnc42 := NB105_109.out
                 have hcz43_0 := cz BK109.out 0
                 have hcz43_1 := cz BK109.out 1
                 have hfz43_0 := fz BK109.out 0
                 have hfz43_1 := fz BK109.out 1
                 go_wp2_with (first | (go_at_call 62; (with_reducible refine (cycle_grows.calls k4 _ _ (rd_L1 ((rd_T63 l0_1 x20_2).f1) x41_4) ((rd_T63 l0_1 x20_2).f0) false _ ?side1 ?side2 A31.out).mono ?_); (case side1 => exact TC HR111_0.out); (case side2 => exact HC111_0.out); rintro e w' ⟨rfl, ⟨nd, rfl⟩⟩))
                 go_roundg k4
                 case measure => have := HJ1.out; have := HK2.out; have := HJ12.out; have := HK4.out; omega
                 case rel => exact ⟨(false), (wrap64 (x41_4 + 1)), TT, TT, H', ⟨by have := HJ1.out; have := HK2.out; have := HJ12.out; have := HK4.out; omega⟩, ⟨TK BK105.out⟩, ⟨TK BK109.out⟩, ⟨TB2 GE105.out GE109.out⟩⟩
               ·replace c30 := Bool.eq_false_iff.mpr c30
                subst c30
                have H1 : (cycle_Check.l1 k4 false l0_1 (l0_1.length : Int) x20_2 ((rd_T63 l0_1 x20_2).f1) (((rd_T63 l0_1 x20_2).f1).length : Int) (wrap64 (x41_4 + 1)) a0_0 l0_1 ((rd_T63 l0_1 x20_2).f0) ((rd_T63 l0_1 x20_2).f1)) = some r := by rw [if_neg (show ¬ (false = true) by decide)] at H; exact H
                clear H
                have H := H1
                clear H1
                have H' := Aside0.mk H
                clear H
                have p111 : 0 ≤ (x41_4 : Int) := of_decide_eq_true TA
                have q111 : x41_4 < (((rd_T63 l0_1 x20_2).f1).length : Int) := of_decide_eq_true TA
                obtain ⟨ad111, A111_0, c111_0, e111, hx111_0, hl111_0, hi111_0⟩ := at_L1 HR108_1.out x41_4 p111 q111
                cases e111
                replace hx111_0 := hx HB.out hx111_0
                have HR111_0 := Aside0.mk hi111_0
                have HC111_0 := Aside0.mk hl111_0
                clear hi111_0 hl111_0
                replace p111 := eq_true p111
                replace q111 := eq_true q111
                go_wp2
                go_roundg k4
                case measure => have := HJ1.out; have := HK2.out; have := HJ12.out; have := HK4.out; omega
                case rel => exact ⟨(false), (wrap64 (x41_4 + 1)), TT, TT, H', ⟨by have := HJ1.out; have := HK2.out; have := HJ12.out; have := HK4.out; omega⟩, ⟨TK BK105.out⟩, ⟨TK BK109.out⟩, ⟨TB2 GE105.out GE109.out⟩⟩
              ·rw [if_neg c29] at H
               exact absurd H (by simp)
             ·rw [if_neg c28] at H
              exact absurd H (by simp)
            ·rw [if_neg c27] at H
             have c27b0 : decide (x41_4 < (((rd_T63 l0_1 x20_2).f1).length : Int)) = false := decide_eq_false c27
             clear c27
             have H' := Aside0.mk H
             clear H
             go_wp2
             go_roundg k4
             case measure => have := HJ1.out; have := HK2.out; have := HJ12.out; have := HK4.out; omega
             case rel => exact ⟨(x3_4), (wrap64 (x20_2 + 1)), TT, TT, H', ⟨by have := HJ1.out; have := HK2.out; have := HJ12.out; have := HK4.out; omega⟩, ⟨TK BK105.out⟩, ⟨TB2 GE105.out GE109.out⟩⟩
       ·rw [if_neg c12] at H
        exact absurd H (by simp)
      ·rw [if_neg c11] at H
       exact absurd H (by simp)
     ·rw [if_neg c10] at H
      have c10b0 : decide (x20_2 < (l0_1.length : Int)) = false := decide_eq_false c10
      clear c10
      by_cases c44 : x3_2 = true
      ·subst c44
       have H1 : (some 0) = some r := by rw [if_pos rfl] at H; exact H
       clear H
       have H := H1
       clear H1
       obtain rfl := Option.some.inj H
       go_wp2
       go_ret
       exact ⟨TR, TB1 GE105.out⟩
      ·replace c44 := Bool.eq_false_iff.mpr c44
       subst c44
       have H1 : (some 50) = some r := by rw [if_neg (show ¬ (false = true) by decide)] at H; exact H
       clear H
       have H := H1
       clear H1
       obtain rfl := Option.some.inj H
       go_wp2
       go_ret
       exact ⟨TR, TB1 GE105.out⟩
/-! ### cycle_greatest_int: function 89 -/
def cycle_greatest_int.l0 : Nat → Int → List Int → Int → Int → Option (Int)
 | 0, _, _, _, _ => none
 | k + 1, x0, x7, x8, x9 => if x9 < x8 then (if 0 ≤ x9 then (if x9 < (x7.length : Int) then (cycle_greatest_int.l0 k (mx x0 (rd x7 x9)) x7 x8 (wrap64 (x9 + 1))) else (none)) else (none)) else (some x0)
def cycle_greatest_int.f (k : Nat) (a0 : Int) (l1 : List Int) : Option (Int) := cycle_greatest_int.l0 k a0 l1 (l1.length : Int) 0
theorem cycle_greatest_int.mono_l : ∀ k, (∀ y0 y1 y2 y3, LeO (cycle_greatest_int.l0 k y0 y1 y2 y3) (cycle_greatest_int.l0 (k + 1) y0 y1 y2 y3))
 | 0 => fun _ _ _ _ r h => by simp [cycle_greatest_int.l0] at h
 | k + 1 => by
  have ih0 := cycle_greatest_int.mono_l k
  ·intro y0 y1 y2 y3
   unfold cycle_greatest_int.l0
   repeat' first
   | (with_reducible exact ih0 _ _ _ _)
   | (with_reducible exact LeO.refl _)
   | (with_reducible exact LeO.none _)
   | (with_reducible refine LeO.ite ?_ ?_)
   | (with_reducible refine LeO.bind ?_ (fun _ => ?_))
   | exact ih0 _ _ _ _
   | exact LeO.none _
   | refine LeO.ite ?_ ?_
   | refine LeO.bind ?_ (fun _ => ?_)
theorem cycle_greatest_int.mono : ∀ a0 a1 k, LeO (cycle_greatest_int.f k a0 a1) (cycle_greatest_int.f (k + 1) a0 a1) := by
 intro a0 a1 k
 have ih0 := cycle_greatest_int.mono_l k
 unfold cycle_greatest_int.f
 repeat' first
   | (with_reducible exact ih0 _ _ _ _)
   | (with_reducible exact LeO.refl _)
   | (with_reducible exact LeO.none _)
   | (with_reducible refine LeO.ite ?_ ?_)
   | (with_reducible refine LeO.bind ?_ (fun _ => ?_))
   | exact ih0 _ _ _ _
   | exact LeO.none _
   | refine LeO.ite ?_ ?_
   | refine LeO.bind ?_ (fun _ => ?_)
set_option maxHeartbeats 8000000 in
set_option maxRecDepth 100000 in
theorem cycle_greatest_int.calls (k : Nat) (a0 : Int) (A1 : Option Addr) (c1 : Nat) (l1 : List Int) (r : Int) (w : World) (hr1 : Kd.C (Kd.int .i64) w A1 l1.length l1) (hc1 : l1.length ≤ c1) (h : cycle_greatest_int.f k a0 l1 = some r) :
  Calls Tryd.prog 89 #[.int .i64 a0, .slice A1 l1.length c1] w fun e w' => e = .returned (.int .i64 r) ∧ Below w.heap.size w w' := by
 have HR1 := Aside0.mk hr1
 have HC1 := Aside0.mk hc1
 clear hr1 hc1
 have HB := Aside0.mk (Below.refl w.heap.size w)
 have H : (cycle_greatest_int.l0 k a0 l1 (l1.length : Int) 0) = some r := h
 clear h
 have H' := Aside0.mk H
 clear H
 go_enter Tryd.func89, Tryd.ntmps89
 go_wp2
 go_loopg [0, 9] k (fun kq v0 v9 w' => ∃ (x0_1 : Int) (x9_1 : Int), v0 = .int .i64 x0_1 ∧ v9 = .int .i64 x9_1 ∧ Aside0 (cycle_greatest_int.l0 kq x0_1 l1 (l1.length : Int) x9_1 = some r) ∧ Aside0 (kq ≤ k) ∧ Aside0 (Below w.heap.size w w'))
 case atStart => exact ⟨(a0), (0), TT, TT, H', ⟨Nat.le_refl _⟩, ⟨TB⟩⟩
 case round => as_aux_lemma =>
  clear H'
  try clear c1
  try clear p2
  obtain ⟨x0_1, x9_1, rfl, rfl, HA, HK1, HB⟩ := hrel
  cases gk with
  | zero => exact absurd HA.out (by simp [cycle_greatest_int.l0])
  | succ k1 =>
   have H := HA.out
   clear HA
   simp only [cycle_greatest_int.l0] at H
   by_cases c3 : x9_1 < (l1.length : Int)
   ·rw [if_pos c3] at H
    have c3b0 : decide (x9_1 < (l1.length : Int)) = true := decide_eq_true c3
    clear c3
    by_cases c4 : 0 ≤ x9_1
    ·rw [if_pos c4] at H
     have c4b0 : decide (0 ≤ x9_1) = true := decide_eq_true c4
     clear c4
     by_cases c5 : x9_1 < (l1.length : Int)
     ·rw [if_pos c5] at H
      have c5b0 : decide (x9_1 < (l1.length : Int)) = true := decide_eq_true c5
      clear c5
      obtain ⟨ji6, hji6⟩ : ∃ j_ : Int, (mx x0_1 (rd l1 x9_1)) = j_ := ⟨_, rfl⟩
      replace H : (cycle_greatest_int.l0 k1 ji6 l1 (l1.length : Int) (wrap64 (x9_1 + 1))) = some r := by first | (rw [hji6] at H; exact H) | (simp only [hji6] at H ⊢; exact H)
      have hji6_ : (if x0_1 < (rd l1 x9_1) then (rd l1 x9_1) else x0_1) = ji6 := hji6
      have H' := Aside0.mk H
      clear H
      have p117 : 0 ≤ (x9_1 : Int) := of_decide_eq_true TA
      have q117 : x9_1 < (l1.length : Int) := of_decide_eq_true TA
      obtain ⟨ad117, e117, hx117_0⟩ := Kd.at_int HR1.out x9_1 p117 q117
      cases e117
      replace hx117_0 := hx HB.out hx117_0
      replace p117 := eq_true p117
      replace q117 := eq_true q117
      go_wp2
      go_roundg k1
      case measure => have := HK1.out; omega
      case rel => exact ⟨(ji6), (wrap64 (x9_1 + 1)), (by first | rfl | (simp; done) | (simp only [← hji6] <;> (first | rfl | simp)) | (simp [*]; done)), TT, H', ⟨by have := HK1.out; omega⟩, ⟨TB⟩⟩
     ·rw [if_neg c5] at H
      exact absurd H (by simp)
    ·rw [if_neg c4] at H
     exact absurd H (by simp)
   ·rw [if_neg c3] at H
    have c3b0 : decide (x9_1 < (l1.length : Int)) = false := decide_eq_false c3
    clear c3
    obtain rfl := Option.some.inj H
    go_wp2
    go_ret
    exact ⟨TR, TB⟩
end Go.Proofs.YtephecfapclgfaaDoor.PRaspKeys
namespace Go.Proofs.YtephecfapclgfaaDoor.PRaspKeys
open Go.RowKit Go.Proofs.YtephecfapclgfaaDoorW.PrintWords Go.Proofs.YtephecfapclgfaaDoorW.PrintLast Go.Proofs.YtephecfapclgfaaDoorW.PrintMore Go.Proofs.YtephecfapclgfaaDoor.M
attribute [local go_sem] max2_int min2_int max_two min_two max_three min_three max_four min_four   -- for this text's walks alone
attribute [local go_sem high] eqA38 eqA97
/-! ### saronref00_Equal: function 16 -/
def saronref00_Equal.l0 : Nat → List Int → List Int → Bool → Int → Option (Bool)
 | 0, _, _, _, _ => none
 | k + 1, x0, x1, x5, x6 => if x5 = true then (if x6 < (x0.length : Int) then (if 0 ≤ x6 then (if x6 < (x1.length : Int) then (saronref00_Equal.l0 k x0 x1 ((rd x0 x6) == (rd x1 x6)) (wrap64 (x6 + 1))) else (none)) else (none)) else (some x5)) else (some x5)
def saronref00_Equal.f (k : Nat) (l0 : List Int) (l1 : List Int) : Option (Bool) := saronref00_Equal.l0 k l0 l1 ((l0.length : Int) == (l1.length : Int)) 0
theorem saronref00_Equal.mono_l : ∀ k, (∀ y0 y1 y2 y3, LeO (saronref00_Equal.l0 k y0 y1 y2 y3) (saronref00_Equal.l0 (k + 1) y0 y1 y2 y3))
 | 0 => fun _ _ _ _ r h => by simp [saronref00_Equal.l0] at h
 | k + 1 => by
  have ih0 := saronref00_Equal.mono_l k
  ·intro y0 y1 y2 y3
   unfold saronref00_Equal.l0
   repeat' first
   | (with_reducible exact ih0 _ _ _ _)
   | (with_reducible exact LeO.refl _)
   | (with_reducible exact LeO.none _)
   | (with_reducible refine LeO.ite ?_ ?_)
   | (with_reducible refine LeO.bind ?_ (fun _ => ?_))
   | exact ih0 _ _ _ _
   | exact LeO.none _
   | refine LeO.ite ?_ ?_
   | refine LeO.bind ?_ (fun _ => ?_)
theorem saronref00_Equal.mono : ∀ a0 a1 k, LeO (saronref00_Equal.f k a0 a1) (saronref00_Equal.f (k + 1) a0 a1) := by
 intro a0 a1 k
 have ih0 := saronref00_Equal.mono_l k
 unfold saronref00_Equal.f
 repeat' first
   | (with_reducible exact ih0 _ _ _ _)
   | (with_reducible exact LeO.refl _)
   | (with_reducible exact LeO.none _)
   | (with_reducible refine LeO.ite ?_ ?_)
   | (with_reducible refine LeO.bind ?_ (fun _ => ?_))
   | exact ih0 _ _ _ _
   | exact LeO.none _
   | refine LeO.ite ?_ ?_
   | refine LeO.bind ?_ (fun _ => ?_)
set_option maxHeartbeats 8000000 in
set_option maxRecDepth 100000 in
theorem saronref00_Equal.calls (k : Nat) (A0 : Option Addr) (c0 : Nat) (l0 : List Int) (A1 : Option Addr) (c1 : Nat) (l1 : List Int) (r : Bool) (w : World) (hr0 : Kd.C (Kd.int .i64) w A0 l0.length l0) (hc0 : l0.length ≤ c0) (hr1 : Kd.C (Kd.int .i64) w A1 l1.length l1) (hc1 : l1.length ≤ c1) (h : saronref00_Equal.f k l0 l1 = some r) :
  Calls Tryd.prog 16 #[.slice A0 l0.length c0, .slice A1 l1.length c1] w fun e w' => e = .returned (.bool r) ∧ Drawn0 w w' := by
 have HR0 := Aside0.mk hr0
 have HC0 := Aside0.mk hc0
 clear hr0 hc0
 have HR1 := Aside0.mk hr1
 have HC1 := Aside0.mk hc1
 clear hr1 hc1
 have H : (saronref00_Equal.l0 k l0 l1 ((l0.length : Int) == (l1.length : Int)) 0) = some r := h
 clear h
 have H' := Aside0.mk H
 clear H
 go_enter Tryd.func16, Tryd.ntmps16
 go_wp2
 repeat (go_quiet (fail); try go_wp2)
 go_loopg [5, 6] k (fun kq v5 v6 w' => ∃ (x5_1 : Bool) (x6_1 : Int), v5 = .bool x5_1 ∧ v6 = .int .i64 x6_1 ∧ Aside0 (saronref00_Equal.l0 kq l0 l1 x5_1 x6_1 = some r) ∧ Aside0 (kq ≤ k) ∧ Drawn0 w w')
 case atStart => exact ⟨(((l0.length : Int) == (l1.length : Int))), (0), TT, TT, H', ⟨Nat.le_refl _⟩, by repeat (first | exact Drawn0.refl _ | apply Drawn0.step)⟩
 case round => as_aux_lemma =>
  clear H'
  try clear c1
  try clear p2
  obtain ⟨x5_1, x6_1, rfl, rfl, HA, HK1, ⟨m1, rfl⟩⟩ := hrel
  cases gk with
  | zero => exact absurd HA.out (by simp [saronref00_Equal.l0])
  | succ k1 =>
   have H := HA.out
   clear HA
   simp only [saronref00_Equal.l0] at H
   by_cases c3 : x5_1 = true
   ·subst c3
    have H1 : (if x6_1 < (l0.length : Int) then (if 0 ≤ x6_1 then (if x6_1 < (l1.length : Int) then (saronref00_Equal.l0 k1 l0 l1 ((rd l0 x6_1) == (rd l1 x6_1)) (wrap64 (x6_1 + 1))) else (none)) else (none)) else (some true)) = some r := by rw [if_pos rfl] at H; exact H
    clear H
    have H := H1
    clear H1
    by_cases c4 : x6_1 < (l0.length : Int)
    ·rw [if_pos c4] at H
     have c4b0 : decide (x6_1 < (l0.length : Int)) = true := decide_eq_true c4
     clear c4
     by_cases c5 : 0 ≤ x6_1
     ·rw [if_pos c5] at H
      have c5b0 : decide (0 ≤ x6_1) = true := decide_eq_true c5
      clear c5
      by_cases c6 : x6_1 < (l1.length : Int)
      ·rw [if_pos c6] at H
       have c6b0 : decide (x6_1 < (l1.length : Int)) = true := decide_eq_true c6
       clear c6
       have H' := Aside0.mk H
       clear H
       have p118 : 0 ≤ (x6_1 : Int) := of_decide_eq_true TA
       have q118 : x6_1 < (l0.length : Int) := of_decide_eq_true TA
       obtain ⟨ad118, e118, hx118_0⟩ := Kd.at_int HR0.out x6_1 p118 q118
       cases e118
       replace p118 := eq_true p118
       replace q118 := eq_true q118
       have p119 : 0 ≤ (x6_1 : Int) := of_decide_eq_true TA
       have q119 : x6_1 < (l1.length : Int) := of_decide_eq_true TA
       obtain ⟨ad119, e119, hx119_0⟩ := Kd.at_int HR1.out x6_1 p119 q119
       cases e119
       replace p119 := eq_true p119
       replace q119 := eq_true q119
       go_wp2
       repeat (go_quiet (fail); try go_wp2)
       go_roundg k1
       case measure => have := HK1.out; omega
       case rel => exact ⟨(((rd l0 x6_1) == (rd l1 x6_1))), (wrap64 (x6_1 + 1)), TT, TT, H', ⟨by have := HK1.out; omega⟩, by repeat (first | exact Drawn0.refl _ | apply Drawn0.step)⟩
      ·rw [if_neg c6] at H
       exact absurd H (by simp)
     ·rw [if_neg c5] at H
      exact absurd H (by simp)
    ·rw [if_neg c4] at H
     have c4b0 : decide (x6_1 < (l0.length : Int)) = false := decide_eq_false c4
     clear c4
     obtain rfl := Option.some.inj H
     go_wp2
     repeat (go_quiet (fail); try go_wp2)
     go_ret
     exact ⟨by first | rfl | (simp; done) | (simp [*]; done), by repeat (first | exact Drawn0.refl _ | apply Drawn0.step)⟩
   ·replace c3 := Bool.eq_false_iff.mpr c3
    subst c3
    have H1 : (some false) = some r := by rw [if_neg (show ¬ (false = true) by decide)] at H; exact H
    clear H
    have H := H1
    clear H1
    obtain rfl := Option.some.inj H
    go_wp2
    repeat (go_quiet (fail); try go_wp2)
    go_ret
    exact ⟨by first | rfl | (simp; done) | (simp [*]; done), by repeat (first | exact Drawn0.refl _ | apply Drawn0.step)⟩
/-- THE ONE PURE STATEMENT of saronref00_Equal: yours. -/
def saronref00_Equal.Pure : Prop := ∀ (l0 : List Int) (l1 : List Int), l0.length ≤ maxLen → l0.length * 8 ≤ 140737488351232 → (∀ x ∈ l0, (Lit.int .i64 x).wf = true) → l1.length ≤ maxLen → l1.length * 8 ≤ 140737488351232 → (∀ x ∈ l1, (Lit.int .i64 x).wf = true) → ∃ k, saronref00_Equal.f k l0 l1 = some true
theorem saronref00_Equal.walk (P : saronref00_Equal.Pure) (a0 : Option Addr) (len0 cap0 : Nat) (z0 : List Int) (a1 : Option Addr) (len1 cap1 : Nat) (z1 : List Int) (w : World) (w0 : (a0 = none ∧ len0 = 0 ∧ cap0 = 0 ∧ z0 = []) ∨ ∃ x, a0 = some x ∧ len0 ≤ cap0 ∧ cap0 ≤ maxLen ∧ z0.length = cap0 ∧ (∀ i, i < z0.length → w.cell? (x.add i) = some (.int .i64 (z0.getD i 0))) ∧ ∀ n ∈ z0, (Lit.int .i64 n).wf = true) (y0 : len0 * 8 ≤ 140737488351232) (w1 : (a1 = none ∧ len1 = 0 ∧ cap1 = 0 ∧ z1 = []) ∨ ∃ x, a1 = some x ∧ len1 ≤ cap1 ∧ cap1 ≤ maxLen ∧ z1.length = cap1 ∧ (∀ i, i < z1.length → w.cell? (x.add i) = some (.int .i64 (z1.getD i 0))) ∧ ∀ n ∈ z1, (Lit.int .i64 n).wf = true) (y1 : len1 * 8 ≤ 140737488351232) :
  Calls Tryd.prog 16 #[.slice a0 len0 cap0, .slice a1 len1 cap1] w fun e w' => e = .returned (.bool true) ∧ Below w.heap.size w w' := by
 obtain ⟨l0, rfl, hr0, hm0, hw0, hc0⟩ := ReadsInt.ofRowC w0
 obtain ⟨l1, rfl, hr1, hm1, hw1, hc1⟩ := ReadsInt.ofRowC w1
 obtain ⟨k, h⟩ := P l0 l1 hm0 y0 hw0 hm1 y1 hw1
 refine (saronref00_Equal.calls k _ _ l0 _ _ l1 true w (Kd.C_of_reads (d := (0 : Int)) (h1 := fun _ => rfl) hr0) hc0 (Kd.C_of_reads (d := (0 : Int)) (h1 := fun _ => rfl) hr1) hc1 h).mono ?_
 rintro e w' ⟨rfl, hd⟩
 exact ⟨rfl, hd.below⟩
/-! ### saronref00_EqualRows: function 26 -/
def saronref00_EqualRows.l0 : Nat → List (List Int) → List (List Int) → Bool → Int → Option (Bool)
 | 0, _, _, _, _ => none
 | k + 1, x0, x1, x5, x6 => if x5 = true then (if x6 < (x0.length : Int) then (if 0 ≤ x6 then (if x6 < (x1.length : Int) then ((saronref00_Equal.f k (rd_L1 x0 x6) (rd_L1 x1 x6)).bind fun t122 => (saronref00_EqualRows.l0 k x0 x1 t122 (wrap64 (x6 + 1)))) else (none)) else (none)) else (some x5)) else (some x5)
def saronref00_EqualRows.f (k : Nat) (l0 : List (List Int)) (l1 : List (List Int)) : Option (Bool) := saronref00_EqualRows.l0 k l0 l1 ((l0.length : Int) == (l1.length : Int)) 0
theorem saronref00_EqualRows.mono_l : ∀ k, (∀ y0 y1 y2 y3, LeO (saronref00_EqualRows.l0 k y0 y1 y2 y3) (saronref00_EqualRows.l0 (k + 1) y0 y1 y2 y3))
 | 0 => fun _ _ _ _ r h => by simp [saronref00_EqualRows.l0] at h
 | k + 1 => by
  have ih0 := saronref00_EqualRows.mono_l k
  ·intro y0 y1 y2 y3
   unfold saronref00_EqualRows.l0
   repeat' first
   | (with_reducible exact ih0 _ _ _ _)
   | (with_reducible exact saronref00_Equal.mono _ _ _)
   | (with_reducible exact LeO.refl _)
   | (with_reducible exact LeO.none _)
   | (with_reducible refine LeO.ite ?_ ?_)
   | (with_reducible refine LeO.bind ?_ (fun _ => ?_))
   | exact ih0 _ _ _ _
   | exact saronref00_Equal.mono _ _ _
   | exact LeO.none _
   | refine LeO.ite ?_ ?_
   | refine LeO.bind ?_ (fun _ => ?_)
theorem saronref00_EqualRows.mono : ∀ a0 a1 k, LeO (saronref00_EqualRows.f k a0 a1) (saronref00_EqualRows.f (k + 1) a0 a1) := by
 intro a0 a1 k
 have ih0 := saronref00_EqualRows.mono_l k
 unfold saronref00_EqualRows.f
 repeat' first
   | (with_reducible exact ih0 _ _ _ _)
   | (with_reducible exact saronref00_Equal.mono _ _ _)
   | (with_reducible exact LeO.refl _)
   | (with_reducible exact LeO.none _)
   | (with_reducible refine LeO.ite ?_ ?_)
   | (with_reducible refine LeO.bind ?_ (fun _ => ?_))
   | exact ih0 _ _ _ _
   | exact saronref00_Equal.mono _ _ _
   | exact LeO.none _
   | refine LeO.ite ?_ ?_
   | refine LeO.bind ?_ (fun _ => ?_)
set_option maxHeartbeats 8000000 in
set_option maxRecDepth 100000 in
theorem saronref00_EqualRows.calls (k : Nat) (A0 : Option Addr) (c0 : Nat) (l0 : List (List Int)) (A1 : Option Addr) (c1 : Nat) (l1 : List (List Int)) (r : Bool) (w : World) (hr0 : Kd.C (Kd.slice 3 (Kd.int .i64)) w A0 l0.length l0) (hc0 : l0.length ≤ c0) (hr1 : Kd.C (Kd.slice 3 (Kd.int .i64)) w A1 l1.length l1) (hc1 : l1.length ≤ c1) (h : saronref00_EqualRows.f k l0 l1 = some r) :
  Calls Tryd.prog 26 #[.slice A0 l0.length c0, .slice A1 l1.length c1] w fun e w' => e = .returned (.bool r) ∧ Drawn0 w w' := by
 have HR0 := Aside0.mk hr0
 have HC0 := Aside0.mk hc0
 clear hr0 hc0
 have HR1 := Aside0.mk hr1
 have HC1 := Aside0.mk hc1
 clear hr1 hc1
 have H : (saronref00_EqualRows.l0 k l0 l1 ((l0.length : Int) == (l1.length : Int)) 0) = some r := h
 clear h
 have H' := Aside0.mk H
 clear H
 go_enter Tryd.func26, Tryd.ntmps26
 go_wp2
 repeat (go_quiet (fail); try go_wp2)
 go_loopg [5, 6] k (fun kq v5 v6 w' => ∃ (x5_1 : Bool) (x6_1 : Int), v5 = .bool x5_1 ∧ v6 = .int .i64 x6_1 ∧ Aside0 (saronref00_EqualRows.l0 kq l0 l1 x5_1 x6_1 = some r) ∧ Aside0 (kq ≤ k) ∧ Drawn0 w w')
 case atStart => exact ⟨(((l0.length : Int) == (l1.length : Int))), (0), TT, TT, H', ⟨Nat.le_refl _⟩, by repeat (first | exact Drawn0.refl _ | apply Drawn0.step)⟩
 case round => as_aux_lemma =>
  clear H'
  try clear c1
  try clear c2
  try clear p2
  obtain ⟨x5_1, x6_1, rfl, rfl, HA, HK1, ⟨m1, rfl⟩⟩ := hrel
  cases gk with
  | zero => exact absurd HA.out (by simp [saronref00_EqualRows.l0])
  | succ k1 =>
   have H := HA.out
   clear HA
   simp only [saronref00_EqualRows.l0] at H
   by_cases c3 : x5_1 = true
   ·subst c3
    have H1 : (if x6_1 < (l0.length : Int) then (if 0 ≤ x6_1 then (if x6_1 < (l1.length : Int) then ((saronref00_Equal.f k1 (rd_L1 l0 x6_1) (rd_L1 l1 x6_1)).bind fun t122 => (saronref00_EqualRows.l0 k1 l0 l1 t122 (wrap64 (x6_1 + 1)))) else (none)) else (none)) else (some true)) = some r := by rw [if_pos rfl] at H; exact H
    clear H
    have H := H1
    clear H1
    by_cases c4 : x6_1 < (l0.length : Int)
    ·rw [if_pos c4] at H
     have c4b0 : decide (x6_1 < (l0.length : Int)) = true := decide_eq_true c4
     clear c4
     by_cases c5 : 0 ≤ x6_1
     ·rw [if_pos c5] at H
      have c5b0 : decide (0 ≤ x6_1) = true := decide_eq_true c5
      clear c5
      by_cases c6 : x6_1 < (l1.length : Int)
      ·rw [if_pos c6] at H
       have c6b0 : decide (x6_1 < (l1.length : Int)) = true := decide_eq_true c6
       clear c6
       replace H := Option.bind_eq_some_iff.mp H
       obtain ⟨t122, A70, H⟩ := H
       replace H : (saronref00_EqualRows.l0 k1 l0 l1 t122 (wrap64 (x6_1 + 1))) = some r := H
       have A7 := Aside0.mk A70
       clear A70
       have H' := Aside0.mk H
       clear H
       have p120 : 0 ≤ (x6_1 : Int) := of_decide_eq_true TA
       have q120 : x6_1 < (l0.length : Int) := of_decide_eq_true TA
       obtain ⟨ad120, A120_0, c120_0, e120, hx120_0, hl120_0, hi120_0⟩ := at_L1 HR0.out x6_1 p120 q120
       cases e120
       have HR120_0 := Aside0.mk hi120_0
       have HC120_0 := Aside0.mk hl120_0
       clear hi120_0 hl120_0
       replace p120 := eq_true p120
       replace q120 := eq_true q120
       have p121 : 0 ≤ (x6_1 : Int) := of_decide_eq_true TA
       have q121 : x6_1 < (l1.length : Int) := of_decide_eq_true TA
       obtain ⟨ad121, A121_0, c121_0, e121, hx121_0, hl121_0, hi121_0⟩ := at_L1 HR1.out x6_1 p121 q121
       cases e121
       have HR121_0 := Aside0.mk hi121_0
       have HC121_0 := Aside0.mk hl121_0
       clear hi121_0 hl121_0
       replace p121 := eq_true p121
       replace q121 := eq_true q121
       go_wp2_with (first | (go_at_call 16; (with_reducible refine (saronref00_Equal.calls k1 _ _ (rd_L1 l0 x6_1) _ _ (rd_L1 l1 x6_1) t122 _ ?side1 ?side2 ?side3 ?side4 A7.out).mono ?_); (case side1 => exact TE HR120_0.out); (case side2 => exact HC120_0.out); (case side3 => exact TE HR121_0.out); (case side4 => exact HC121_0.out); rintro e w' ⟨rfl, ⟨nd, rfl⟩⟩; (try first | exact ⟨rfl, _, World.drewN_drewN _ _ _⟩ | exact ⟨rfl, _, Eq.trans (World.drewN_drewN _ _ _) (congrArg (World.drewN _) (Nat.add_assoc _ _ _))⟩)))
       repeat (go_quiet (first | (go_at_call 16; (with_reducible refine (saronref00_Equal.calls k1 _ _ (rd_L1 l0 x6_1) _ _ (rd_L1 l1 x6_1) t122 _ ?side1 ?side2 ?side3 ?side4 A7.out).mono ?_); (case side1 => exact TE HR120_0.out); (case side2 => exact HC120_0.out); (case side3 => exact TE HR121_0.out); (case side4 => exact HC121_0.out); rintro e w' ⟨rfl, ⟨nd, rfl⟩⟩; (try first | exact ⟨rfl, _, World.drewN_drewN _ _ _⟩ | exact ⟨rfl, _, Eq.trans (World.drewN_drewN _ _ _) (congrArg (World.drewN _) (Nat.add_assoc _ _ _))⟩))); try go_wp2_with (first | (go_at_call 16; (with_reducible refine (saronref00_Equal.calls k1 _ _ (rd_L1 l0 x6_1) _ _ (rd_L1 l1 x6_1) t122 _ ?side1 ?side2 ?side3 ?side4 A7.out).mono ?_); (case side1 => exact TE HR120_0.out); (case side2 => exact HC120_0.out); (case side3 => exact TE HR121_0.out); (case side4 => exact HC121_0.out); rintro e w' ⟨rfl, ⟨nd, rfl⟩⟩; (try first | exact ⟨rfl, _, World.drewN_drewN _ _ _⟩ | exact ⟨rfl, _, Eq.trans (World.drewN_drewN _ _ _) (congrArg (World.drewN _) (Nat.add_assoc _ _ _))⟩))))
       go_roundg k1
       case measure => have := HK1.out; omega
       case rel => exact ⟨(t122), (wrap64 (x6_1 + 1)), TT, TT, H', ⟨by have := HK1.out; omega⟩, by repeat (first | exact Drawn0.refl _ | apply Drawn0.step)⟩
      ·rw [if_neg c6] at H
       exact absurd H (by simp)
     ·rw [if_neg c5] at H
      exact absurd H (by simp)
    ·rw [if_neg c4] at H
     have c4b0 : decide (x6_1 < (l0.length : Int)) = false := decide_eq_false c4
     clear c4
     obtain rfl := Option.some.inj H
     go_wp2
     repeat (go_quiet (fail); try go_wp2)
     go_ret
     exact ⟨by first | rfl | (simp; done) | (simp [*]; done), by repeat (first | exact Drawn0.refl _ | apply Drawn0.step)⟩
   ·replace c3 := Bool.eq_false_iff.mpr c3
    subst c3
    have H1 : (some false) = some r := by rw [if_neg (show ¬ (false = true) by decide)] at H; exact H
    clear H
    have H := H1
    clear H1
    obtain rfl := Option.some.inj H
    go_wp2
    repeat (go_quiet (fail); try go_wp2)
    go_ret
    exact ⟨by first | rfl | (simp; done) | (simp [*]; done), by repeat (first | exact Drawn0.refl _ | apply Drawn0.step)⟩
/-! ### saronref05_SameSpots: function 29 -/
def saronref05_SameSpots.l0 : Nat → List (S38) → List (S38) → Bool → Int → Option (Bool)
 | 0, _, _, _, _ => none
 | k + 1, x0, x1, x5, x6 => if x5 = true then (if x6 < (x0.length : Int) then (if 0 ≤ x6 then (if x6 < (x1.length : Int) then (saronref05_SameSpots.l0 k x0 x1 (((rd_T38 x0 x6).f0) == ((rd_T38 x1 x6).f0) && (((rd_T38 x0 x6).f1) == ((rd_T38 x1 x6).f1))) (wrap64 (x6 + 1))) else (none)) else (none)) else (some x5)) else (some x5)
def saronref05_SameSpots.f (k : Nat) (l0 : List (S38)) (l1 : List (S38)) : Option (Bool) := saronref05_SameSpots.l0 k l0 l1 ((l0.length : Int) == (l1.length : Int)) 0
theorem saronref05_SameSpots.mono_l : ∀ k, (∀ y0 y1 y2 y3, LeO (saronref05_SameSpots.l0 k y0 y1 y2 y3) (saronref05_SameSpots.l0 (k + 1) y0 y1 y2 y3))
 | 0 => fun _ _ _ _ r h => by simp [saronref05_SameSpots.l0] at h
 | k + 1 => by
  have ih0 := saronref05_SameSpots.mono_l k
  ·intro y0 y1 y2 y3
   unfold saronref05_SameSpots.l0
   repeat' first
   | (with_reducible exact ih0 _ _ _ _)
   | (with_reducible exact LeO.refl _)
   | (with_reducible exact LeO.none _)
   | (with_reducible refine LeO.ite ?_ ?_)
   | (with_reducible refine LeO.bind ?_ (fun _ => ?_))
   | exact ih0 _ _ _ _
   | exact LeO.none _
   | refine LeO.ite ?_ ?_
   | refine LeO.bind ?_ (fun _ => ?_)
theorem saronref05_SameSpots.mono : ∀ a0 a1 k, LeO (saronref05_SameSpots.f k a0 a1) (saronref05_SameSpots.f (k + 1) a0 a1) := by
 intro a0 a1 k
 have ih0 := saronref05_SameSpots.mono_l k
 unfold saronref05_SameSpots.f
 repeat' first
   | (with_reducible exact ih0 _ _ _ _)
   | (with_reducible exact LeO.refl _)
   | (with_reducible exact LeO.none _)
   | (with_reducible refine LeO.ite ?_ ?_)
   | (with_reducible refine LeO.bind ?_ (fun _ => ?_))
   | exact ih0 _ _ _ _
   | exact LeO.none _
   | refine LeO.ite ?_ ?_
   | refine LeO.bind ?_ (fun _ => ?_)
set_option maxHeartbeats 8000000 in
set_option maxRecDepth 100000 in
theorem saronref05_SameSpots.calls (k : Nat) (A0 : Option Addr) (c0 : Nat) (l0 : List (S38)) (A1 : Option Addr) (c1 : Nat) (l1 : List (S38)) (r : Bool) (w : World) (hr0 : Kd.C k38 w A0 l0.length l0) (hc0 : l0.length ≤ c0) (hr1 : Kd.C k38 w A1 l1.length l1) (hc1 : l1.length ≤ c1) (h : saronref05_SameSpots.f k l0 l1 = some r) :
  Calls Tryd.prog 29 #[.slice A0 l0.length c0, .slice A1 l1.length c1] w fun e w' => e = .returned (.bool r) ∧ Drawn0 w w' := by
 have hu38 := Tryd.underlying38
 have HR0 := Aside0.mk hr0
 have HC0 := Aside0.mk hc0
 clear hr0 hc0
 have HR1 := Aside0.mk hr1
 have HC1 := Aside0.mk hc1
 clear hr1 hc1
 have H : (saronref05_SameSpots.l0 k l0 l1 ((l0.length : Int) == (l1.length : Int)) 0) = some r := h
 clear h
 have H' := Aside0.mk H
 clear H
 go_enter Tryd.func29, Tryd.ntmps29
 go_wp2
 repeat (go_quiet (fail); try go_wp2)
 go_loopg [5, 6] k (fun kq v5 v6 w' => ∃ (x5_1 : Bool) (x6_1 : Int), v5 = .bool x5_1 ∧ v6 = .int .i64 x6_1 ∧ Aside0 (saronref05_SameSpots.l0 kq l0 l1 x5_1 x6_1 = some r) ∧ Aside0 (kq ≤ k) ∧ Drawn0 w w')
 case atStart => exact ⟨(((l0.length : Int) == (l1.length : Int))), (0), TT, TT, H', ⟨Nat.le_refl _⟩, by repeat (first | exact Drawn0.refl _ | apply Drawn0.step)⟩
 case round => as_aux_lemma =>
  clear H'
  try clear c1
  try clear c2
  try clear p2
  obtain ⟨x5_1, x6_1, rfl, rfl, HA, HK1, ⟨m1, rfl⟩⟩ := hrel
  cases gk with
  | zero => exact absurd HA.out (by simp [saronref05_SameSpots.l0])
  | succ k1 =>
   have H := HA.out
   clear HA
   simp only [saronref05_SameSpots.l0] at H
   by_cases c3 : x5_1 = true
   ·subst c3
    have H1 : (if x6_1 < (l0.length : Int) then (if 0 ≤ x6_1 then (if x6_1 < (l1.length : Int) then (saronref05_SameSpots.l0 k1 l0 l1 (((rd_T38 l0 x6_1).f0) == ((rd_T38 l1 x6_1).f0) && (((rd_T38 l0 x6_1).f1) == ((rd_T38 l1 x6_1).f1))) (wrap64 (x6_1 + 1))) else (none)) else (none)) else (some true)) = some r := by rw [if_pos rfl] at H; exact H
    clear H
    have H := H1
    clear H1
    by_cases c4 : x6_1 < (l0.length : Int)
    ·rw [if_pos c4] at H
     have c4b0 : decide (x6_1 < (l0.length : Int)) = true := decide_eq_true c4
     clear c4
     by_cases c5 : 0 ≤ x6_1
     ·rw [if_pos c5] at H
      have c5b0 : decide (0 ≤ x6_1) = true := decide_eq_true c5
      clear c5
      by_cases c6 : x6_1 < (l1.length : Int)
      ·rw [if_pos c6] at H
       have c6b0 : decide (x6_1 < (l1.length : Int)) = true := decide_eq_true c6
       clear c6
       have H' := Aside0.mk H
       clear H
       have p123 : 0 ≤ (x6_1 : Int) := of_decide_eq_true TA
       have q123 : x6_1 < (l0.length : Int) := of_decide_eq_true TA
       obtain ⟨ad123, e123, hx123_0, hx123_1⟩ := at_T38 HR0.out x6_1 p123 q123
       cases e123
       replace p123 := eq_true p123
       replace q123 := eq_true q123
       have p124 : 0 ≤ (x6_1 : Int) := of_decide_eq_true TA
       have q124 : x6_1 < (l1.length : Int) := of_decide_eq_true TA
       obtain ⟨ad124, e124, hx124_0, hx124_1⟩ := at_T38 HR1.out x6_1 p124 q124
       cases e124
       replace p124 := eq_true p124
       replace q124 := eq_true q124
       go_wp2
       repeat (go_quiet (fail); try go_wp2)
       go_roundg k1
       case measure => have := HK1.out; omega
       case rel => exact ⟨((((rd_T38 l0 x6_1).f0) == ((rd_T38 l1 x6_1).f0) && (((rd_T38 l0 x6_1).f1) == ((rd_T38 l1 x6_1).f1)))), (wrap64 (x6_1 + 1)), TT, TT, H', ⟨by have := HK1.out; omega⟩, by repeat (first | exact Drawn0.refl _ | apply Drawn0.step)⟩
      ·rw [if_neg c6] at H
       exact absurd H (by simp)
     ·rw [if_neg c5] at H
      exact absurd H (by simp)
    ·rw [if_neg c4] at H
     have c4b0 : decide (x6_1 < (l0.length : Int)) = false := decide_eq_false c4
     clear c4
     obtain rfl := Option.some.inj H
     go_wp2
     repeat (go_quiet (fail); try go_wp2)
     go_ret
     exact ⟨by first | rfl | (simp; done) | (simp [*]; done), by repeat (first | exact Drawn0.refl _ | apply Drawn0.step)⟩
   ·replace c3 := Bool.eq_false_iff.mpr c3
    subst c3
    have H1 : (some false) = some r := by rw [if_neg (show ¬ (false = true) by decide)] at H; exact H
    clear H
    have H := H1
    clear H1
    obtain rfl := Option.some.inj H
    go_wp2
    repeat (go_quiet (fail); try go_wp2)
    go_ret
    exact ⟨by first | rfl | (simp; done) | (simp [*]; done), by repeat (first | exact Drawn0.refl _ | apply Drawn0.step)⟩
/-! ### saronref05_SameStrokes: function 34 -/
def saronref05_SameStrokes.l0 : Nat → List (S97) → List (S97) → Bool → Int → Option (Bool)
 | 0, _, _, _, _ => none
 | k + 1, x0, x1, x5, x6 => if x5 = true then (if x6 < (x0.length : Int) then (if 0 ≤ x6 then (if x6 < (x1.length : Int) then (saronref05_SameStrokes.l0 k x0 x1 (((rd_T97 x0 x6).f0) == ((rd_T97 x1 x6).f0) && (((rd_T97 x0 x6).f1) == ((rd_T97 x1 x6).f1))) (wrap64 (x6 + 1))) else (none)) else (none)) else (some x5)) else (some x5)
def saronref05_SameStrokes.f (k : Nat) (l0 : List (S97)) (l1 : List (S97)) : Option (Bool) := saronref05_SameStrokes.l0 k l0 l1 ((l0.length : Int) == (l1.length : Int)) 0
theorem saronref05_SameStrokes.mono_l : ∀ k, (∀ y0 y1 y2 y3, LeO (saronref05_SameStrokes.l0 k y0 y1 y2 y3) (saronref05_SameStrokes.l0 (k + 1) y0 y1 y2 y3))
 | 0 => fun _ _ _ _ r h => by simp [saronref05_SameStrokes.l0] at h
 | k + 1 => by
  have ih0 := saronref05_SameStrokes.mono_l k
  ·intro y0 y1 y2 y3
   unfold saronref05_SameStrokes.l0
   repeat' first
   | (with_reducible exact ih0 _ _ _ _)
   | (with_reducible exact LeO.refl _)
   | (with_reducible exact LeO.none _)
   | (with_reducible refine LeO.ite ?_ ?_)
   | (with_reducible refine LeO.bind ?_ (fun _ => ?_))
   | exact ih0 _ _ _ _
   | exact LeO.none _
   | refine LeO.ite ?_ ?_
   | refine LeO.bind ?_ (fun _ => ?_)
theorem saronref05_SameStrokes.mono : ∀ a0 a1 k, LeO (saronref05_SameStrokes.f k a0 a1) (saronref05_SameStrokes.f (k + 1) a0 a1) := by
 intro a0 a1 k
 have ih0 := saronref05_SameStrokes.mono_l k
 unfold saronref05_SameStrokes.f
 repeat' first
   | (with_reducible exact ih0 _ _ _ _)
   | (with_reducible exact LeO.refl _)
   | (with_reducible exact LeO.none _)
   | (with_reducible refine LeO.ite ?_ ?_)
   | (with_reducible refine LeO.bind ?_ (fun _ => ?_))
   | exact ih0 _ _ _ _
   | exact LeO.none _
   | refine LeO.ite ?_ ?_
   | refine LeO.bind ?_ (fun _ => ?_)
set_option maxHeartbeats 8000000 in
set_option maxRecDepth 100000 in
theorem saronref05_SameStrokes.calls (k : Nat) (A0 : Option Addr) (c0 : Nat) (l0 : List (S97)) (A1 : Option Addr) (c1 : Nat) (l1 : List (S97)) (r : Bool) (w : World) (hr0 : Kd.C k97 w A0 l0.length l0) (hc0 : l0.length ≤ c0) (hr1 : Kd.C k97 w A1 l1.length l1) (hc1 : l1.length ≤ c1) (h : saronref05_SameStrokes.f k l0 l1 = some r) :
  Calls Tryd.prog 34 #[.slice A0 l0.length c0, .slice A1 l1.length c1] w fun e w' => e = .returned (.bool r) ∧ Drawn0 w w' := by
 have hu97 := Tryd.underlying97
 have HR0 := Aside0.mk hr0
 have HC0 := Aside0.mk hc0
 clear hr0 hc0
 have HR1 := Aside0.mk hr1
 have HC1 := Aside0.mk hc1
 clear hr1 hc1
 have H : (saronref05_SameStrokes.l0 k l0 l1 ((l0.length : Int) == (l1.length : Int)) 0) = some r := h
 clear h
 have H' := Aside0.mk H
 clear H
 go_enter Tryd.func34, Tryd.ntmps34
 go_wp2
 repeat (go_quiet (fail); try go_wp2)
 go_loopg [5, 6] k (fun kq v5 v6 w' => ∃ (x5_1 : Bool) (x6_1 : Int), v5 = .bool x5_1 ∧ v6 = .int .i64 x6_1 ∧ Aside0 (saronref05_SameStrokes.l0 kq l0 l1 x5_1 x6_1 = some r) ∧ Aside0 (kq ≤ k) ∧ Drawn0 w w')
 case atStart => exact ⟨(((l0.length : Int) == (l1.length : Int))), (0), TT, TT, H', ⟨Nat.le_refl _⟩, by repeat (first | exact Drawn0.refl _ | apply Drawn0.step)⟩
 case round => as_aux_lemma =>
  clear H'
  try clear c1
  try clear p2
  obtain ⟨x5_1, x6_1, rfl, rfl, HA, HK1, ⟨m1, rfl⟩⟩ := hrel
  cases gk with
  | zero => exact absurd HA.out (by simp [saronref05_SameStrokes.l0])
  | succ k1 =>
   have H := HA.out
   clear HA
   simp only [saronref05_SameStrokes.l0] at H
   by_cases c3 : x5_1 = true
   ·subst c3
    have H1 : (if x6_1 < (l0.length : Int) then (if 0 ≤ x6_1 then (if x6_1 < (l1.length : Int) then (saronref05_SameStrokes.l0 k1 l0 l1 (((rd_T97 l0 x6_1).f0) == ((rd_T97 l1 x6_1).f0) && (((rd_T97 l0 x6_1).f1) == ((rd_T97 l1 x6_1).f1))) (wrap64 (x6_1 + 1))) else (none)) else (none)) else (some true)) = some r := by rw [if_pos rfl] at H; exact H
    clear H
    have H := H1
    clear H1
    by_cases c4 : x6_1 < (l0.length : Int)
    ·rw [if_pos c4] at H
     have c4b0 : decide (x6_1 < (l0.length : Int)) = true := decide_eq_true c4
     clear c4
     by_cases c5 : 0 ≤ x6_1
     ·rw [if_pos c5] at H
      have c5b0 : decide (0 ≤ x6_1) = true := decide_eq_true c5
      clear c5
      by_cases c6 : x6_1 < (l1.length : Int)
      ·rw [if_pos c6] at H
       have c6b0 : decide (x6_1 < (l1.length : Int)) = true := decide_eq_true c6
       clear c6
       have H' := Aside0.mk H
       clear H
       have p125 : 0 ≤ (x6_1 : Int) := of_decide_eq_true TA
       have q125 : x6_1 < (l0.length : Int) := of_decide_eq_true TA
       obtain ⟨ad125, e125, hx125_0, hx125_1⟩ := at_T97 HR0.out x6_1 p125 q125
       cases e125
       replace p125 := eq_true p125
       replace q125 := eq_true q125
       have p126 : 0 ≤ (x6_1 : Int) := of_decide_eq_true TA
       have q126 : x6_1 < (l1.length : Int) := of_decide_eq_true TA
       obtain ⟨ad126, e126, hx126_0, hx126_1⟩ := at_T97 HR1.out x6_1 p126 q126
       cases e126
       replace p126 := eq_true p126
       replace q126 := eq_true q126
       go_wp2
       repeat (go_quiet (fail); try go_wp2)
       go_roundg k1
       case measure => have := HK1.out; omega
       case rel => exact ⟨((((rd_T97 l0 x6_1).f0) == ((rd_T97 l1 x6_1).f0) && (((rd_T97 l0 x6_1).f1) == ((rd_T97 l1 x6_1).f1)))), (wrap64 (x6_1 + 1)), TT, TT, H', ⟨by have := HK1.out; omega⟩, by repeat (first | exact Drawn0.refl _ | apply Drawn0.step)⟩
      ·rw [if_neg c6] at H
       exact absurd H (by simp)
     ·rw [if_neg c5] at H
      exact absurd H (by simp)
    ·rw [if_neg c4] at H
     have c4b0 : decide (x6_1 < (l0.length : Int)) = false := decide_eq_false c4
     clear c4
     obtain rfl := Option.some.inj H
     go_wp2
     repeat (go_quiet (fail); try go_wp2)
     go_ret
     exact ⟨by first | rfl | (simp; done) | (simp [*]; done), by repeat (first | exact Drawn0.refl _ | apply Drawn0.step)⟩
   ·replace c3 := Bool.eq_false_iff.mpr c3
    subst c3
    have H1 : (some false) = some r := by rw [if_neg (show ¬ (false = true) by decide)] at H; exact H
    clear H
    have H := H1
    clear H1
    obtain rfl := Option.some.inj H
    go_wp2
    repeat (go_quiet (fail); try go_wp2)
    go_ret
    exact ⟨by first | rfl | (simp; done) | (simp [*]; done), by repeat (first | exact Drawn0.refl _ | apply Drawn0.step)⟩
/-! ### saronlaw05_book: function 50 -/
def saronlaw05_book.f  : Option (Int × (List (S63))) := some (3, (([(⟨8, (([(([7] : List Int)), (([3, 7] : List Int)), (([0, 2, 4, 6] : List Int))] : List (List Int)))⟩ : S63), (⟨4, (([(([3] : List Int)), (([1] : List Int)), (([0, 2] : List Int))] : List (List Int)))⟩ : S63)] : List (S63))))
set_option maxHeartbeats 8000000 in
set_option maxRecDepth 100000 in
theorem saronlaw05_book.calls  (r1 : Int) (r2 : List (S63)) (w : World) (h : saronlaw05_book.f  = some (r1, r2)) :
  Calls Tryd.prog 50 #[] w fun e w' => ∃ v1_ : Value, e = .returned (.agg #[.int .i64 r1, v1_]) ∧ Kd.N k63 63 w' w.heap.size (fun k_ => (w.heap.size ≤ k_)) v1_ r2 ∧ Below w.heap.size w w' := by
 have hu24 := Tryd.underlying24
 have hu63 := Tryd.underlying63
 have HB := Aside0.mk (Below.refl w.heap.size w)
 have H : (some (3, (([(⟨8, (([(([7] : List Int)), (([3, 7] : List Int)), (([0, 2, 4, 6] : List Int))] : List (List Int)))⟩ : S63), (⟨4, (([(([3] : List Int)), (([1] : List Int)), (([0, 2] : List Int))] : List (List Int)))⟩ : S63)] : List (S63))))) = some (r1, r2) := h
 clear h
 obtain ⟨y128, hy128⟩ : ∃ y_ : List Int, y_ = (([7] : List Int)) := ⟨_, rfl⟩
 replace H : (some (3, (([(⟨8, (([y128, (([3, 7] : List Int)), (([0, 2, 4, 6] : List Int))] : List (List Int)))⟩ : S63), (⟨4, (([(([3] : List Int)), (([1] : List Int)), (([0, 2] : List Int))] : List (List Int)))⟩ : S63)] : List (S63))))) = some (r1, r2) := by first | (rw [hy128]; with_reducible exact H) | (have H2_ := (Option.bind_some _ _).symm.trans H; rw [hy128]; with_reducible exact H2_) | (have H2_ := (Option.bind_some _ _).symm.trans H; with_reducible exact H2_) | with_reducible exact H | (rw [hy128]; exact H) | exact H
 have Ny128 := Aside0.mk hy128
 clear hy128
 obtain ⟨y131, hy131⟩ : ∃ y_ : List Int, y_ = (([3, 7] : List Int)) := ⟨_, rfl⟩
 replace H : (some (3, (([(⟨8, (([y128, y131, (([0, 2, 4, 6] : List Int))] : List (List Int)))⟩ : S63), (⟨4, (([(([3] : List Int)), (([1] : List Int)), (([0, 2] : List Int))] : List (List Int)))⟩ : S63)] : List (S63))))) = some (r1, r2) := by first | (rw [hy131]; with_reducible exact H) | (have H2_ := (Option.bind_some _ _).symm.trans H; rw [hy131]; with_reducible exact H2_) | (have H2_ := (Option.bind_some _ _).symm.trans H; with_reducible exact H2_) | with_reducible exact H | (rw [hy131]; exact H) | exact H
 have Ny131 := Aside0.mk hy131
 clear hy131
 obtain ⟨y134, hy134⟩ : ∃ y_ : List Int, y_ = (([0, 2, 4, 6] : List Int)) := ⟨_, rfl⟩
 replace H : (some (3, (([(⟨8, (([y128, y131, y134] : List (List Int)))⟩ : S63), (⟨4, (([(([3] : List Int)), (([1] : List Int)), (([0, 2] : List Int))] : List (List Int)))⟩ : S63)] : List (S63))))) = some (r1, r2) := by first | (rw [hy134]; with_reducible exact H) | (have H2_ := (Option.bind_some _ _).symm.trans H; rw [hy134]; with_reducible exact H2_) | (have H2_ := (Option.bind_some _ _).symm.trans H; with_reducible exact H2_) | with_reducible exact H | (rw [hy134]; exact H) | exact H
 have Ny134 := Aside0.mk hy134
 clear hy134
 obtain ⟨y137, hy137⟩ : ∃ y_ : List (List Int), y_ = (([y128, y131, y134] : List (List Int))) := ⟨_, rfl⟩
 replace H : (some (3, (([(⟨8, y137⟩ : S63), (⟨4, (([(([3] : List Int)), (([1] : List Int)), (([0, 2] : List Int))] : List (List Int)))⟩ : S63)] : List (S63))))) = some (r1, r2) := by first | (rw [hy137]; with_reducible exact H) | (have H2_ := (Option.bind_some _ _).symm.trans H; rw [hy137]; with_reducible exact H2_) | (have H2_ := (Option.bind_some _ _).symm.trans H; with_reducible exact H2_) | with_reducible exact H | (rw [hy137]; exact H) | exact H
 have Ny137 := Aside0.mk hy137
 clear hy137
 obtain ⟨y140, hy140⟩ : ∃ y_ : List Int, y_ = (([3] : List Int)) := ⟨_, rfl⟩
 replace H : (some (3, (([(⟨8, y137⟩ : S63), (⟨4, (([y140, (([1] : List Int)), (([0, 2] : List Int))] : List (List Int)))⟩ : S63)] : List (S63))))) = some (r1, r2) := by first | (rw [hy140]; with_reducible exact H) | (have H2_ := (Option.bind_some _ _).symm.trans H; rw [hy140]; with_reducible exact H2_) | (have H2_ := (Option.bind_some _ _).symm.trans H; with_reducible exact H2_) | with_reducible exact H | (rw [hy140]; exact H) | exact H
 have Ny140 := Aside0.mk hy140
 clear hy140
 obtain ⟨y143, hy143⟩ : ∃ y_ : List Int, y_ = (([1] : List Int)) := ⟨_, rfl⟩
 replace H : (some (3, (([(⟨8, y137⟩ : S63), (⟨4, (([y140, y143, (([0, 2] : List Int))] : List (List Int)))⟩ : S63)] : List (S63))))) = some (r1, r2) := by first | (rw [hy143]; with_reducible exact H) | (have H2_ := (Option.bind_some _ _).symm.trans H; rw [hy143]; with_reducible exact H2_) | (have H2_ := (Option.bind_some _ _).symm.trans H; with_reducible exact H2_) | with_reducible exact H | (rw [hy143]; exact H) | exact H
 have Ny143 := Aside0.mk hy143
 clear hy143
 obtain ⟨y146, hy146⟩ : ∃ y_ : List Int, y_ = (([0, 2] : List Int)) := ⟨_, rfl⟩
 replace H : (some (3, (([(⟨8, y137⟩ : S63), (⟨4, (([y140, y143, y146] : List (List Int)))⟩ : S63)] : List (S63))))) = some (r1, r2) := by first | (rw [hy146]; with_reducible exact H) | (have H2_ := (Option.bind_some _ _).symm.trans H; rw [hy146]; with_reducible exact H2_) | (have H2_ := (Option.bind_some _ _).symm.trans H; with_reducible exact H2_) | with_reducible exact H | (rw [hy146]; exact H) | exact H
 have Ny146 := Aside0.mk hy146
 clear hy146
 obtain ⟨y149, hy149⟩ : ∃ y_ : List (List Int), y_ = (([y140, y143, y146] : List (List Int))) := ⟨_, rfl⟩
 replace H : (some (3, (([(⟨8, y137⟩ : S63), (⟨4, y149⟩ : S63)] : List (S63))))) = some (r1, r2) := by first | (rw [hy149]; with_reducible exact H) | (have H2_ := (Option.bind_some _ _).symm.trans H; rw [hy149]; with_reducible exact H2_) | (have H2_ := (Option.bind_some _ _).symm.trans H; with_reducible exact H2_) | with_reducible exact H | (rw [hy149]; exact H) | exact H
 have Ny149 := Aside0.mk hy149
 clear hy149
 obtain ⟨y152, hy152⟩ : ∃ y_ : List (S63), y_ = (([(⟨8, y137⟩ : S63), (⟨4, y149⟩ : S63)] : List (S63))) := ⟨_, rfl⟩
 replace H : (some (3, y152)) = some (r1, r2) := by first | (rw [hy152]; with_reducible exact H) | (have H2_ := (Option.bind_some _ _).symm.trans H; rw [hy152]; with_reducible exact H2_) | (have H2_ := (Option.bind_some _ _).symm.trans H; with_reducible exact H2_) | with_reducible exact H | (rw [hy152]; exact H) | exact H
 have Ny152 := Aside0.mk hy152
 clear hy152
 simp only [Option.some.injEq, Prod.mk.injEq] at H
 obtain ⟨rfl, rfl⟩ := H
 go_enter Tryd.func50, Tryd.ntmps50
 go_wp2_with (first | ((with_reducible refine gate_dst (N := 0) rfl ?_); refine box_event ?hg (N := 0) ?hd (cs := #[.int .i64 0, .slice none 0 0]) (t := 24) ?hr ?_; (case hd => rfl); (case hg => rfl); (case hr => exact TS); intro gb127 hg w1 hbox hb; have BK127 := Aside0.mk (hbox); have GW127 := Aside0.mk ((TG : w.heap.size ≤ gb127)); have GE127 := Aside0.mk ((TG : w.heap.size ≤ gb127)); replace HB := Aside0.mk (below_step TB hb); clear hb hbox hg) | ((with_reducible refine gate_dst (N := 1) rfl ?_); refine Kd.R_lit (Kd.int .i64) _ 3 ?hg (N := 1) ?hd (xs := ([7] : List Int)) (inner := [.int .i64 7]) (ok := fun _ => True) (okp := fun _ => True) ?hr ?hp (fun _ hk => hk) trivial (Below.refl _ _) (Nat.le_refl _) (by simp) ?_; (case hd => rfl); (case hg => rfl); (case hr => exact TS); (case hp => exact (Reps.one (show Kd.M (Kd.int .i64) _ _ _ 7 [.int .i64 7] from rfl) (Reps.none _ _))); intro v129 w2 ho3 hb hg_ hnew_; clear hg_ hnew_; (first | rw [← Ny128.out] at ho3 | (simp only [Int.reduceToNat] at ho3; rw [← Ny128.out] at ho3)); have HO130 := Aside0.mk (Kd.R_lower (Kd.R_newM (M := fun k_ => (w.heap.size ≤ k_)) ho3 (below_size (TB1 GE127.out)) (fun k_ h_ => h_)) (below_size (TB1 GE127.out))); replace BK127 := Aside0.mk (TKb hb BK127.out); replace HB := Aside0.mk (below_step (TB1 GE127.out) hb); clear hb ho3) | ((with_reducible refine gate_dst (N := 2) rfl ?_); refine Kd.R_lit (Kd.int .i64) _ 3 ?hg (N := 2) ?hd (xs := ([3, 7] : List Int)) (inner := [.int .i64 3, .int .i64 7]) (ok := fun _ => True) (okp := fun _ => True) ?hr ?hp (fun _ hk => hk) trivial (Below.refl _ _) (Nat.le_refl _) (by simp) ?_; (case hd => rfl); (case hg => rfl); (case hr => exact TS); (case hp => exact (Reps.one (show Kd.M (Kd.int .i64) _ _ _ 3 [.int .i64 3] from rfl) (Reps.one (show Kd.M (Kd.int .i64) _ _ _ 7 [.int .i64 7] from rfl) (Reps.none _ _)))); intro v132 w4 ho5 hb hg_ hnew_; clear hg_ hnew_; (first | rw [← Ny131.out] at ho5 | (simp only [Int.reduceToNat] at ho5; rw [← Ny131.out] at ho5)); have HO133 := Aside0.mk (Kd.R_lower (Kd.R_new' (Kd.R_newM (M := fun k_ => (w.heap.size ≤ k_)) ho5 (below_size (TB1 GE127.out)) (fun k_ h_ => h_)) (Kd.R_lt (TRo HO130.out))) (below_size (TB1 GE127.out))); replace HO130 := Aside0.mk (Kd.R_elder' (TRo HO130.out) (Kd.R_base ho5) hb); replace BK127 := Aside0.mk (TKb hb BK127.out); replace HB := Aside0.mk (below_step (TB1 GE127.out) hb); clear hb ho5) | ((with_reducible refine gate_dst (N := 3) rfl ?_); refine Kd.R_lit (Kd.int .i64) _ 3 ?hg (N := 3) ?hd (xs := ([0, 2, 4, 6] : List Int)) (inner := [.int .i64 0, .int .i64 2, .int .i64 4, .int .i64 6]) (ok := fun _ => True) (okp := fun _ => True) ?hr ?hp (fun _ hk => hk) trivial (Below.refl _ _) (Nat.le_refl _) (by simp) ?_; (case hd => rfl); (case hg => rfl); (case hr => exact TS); (case hp => exact (Reps.one (show Kd.M (Kd.int .i64) _ _ _ 0 [.int .i64 0] from rfl) (Reps.one (show Kd.M (Kd.int .i64) _ _ _ 2 [.int .i64 2] from rfl) (Reps.one (show Kd.M (Kd.int .i64) _ _ _ 4 [.int .i64 4] from rfl) (Reps.one (show Kd.M (Kd.int .i64) _ _ _ 6 [.int .i64 6] from rfl) (Reps.none _ _)))))); intro v135 w6 ho7 hb hg_ hnew_; clear hg_ hnew_; (first | rw [← Ny134.out] at ho7 | (simp only [Int.reduceToNat] at ho7; rw [← Ny134.out] at ho7)); have HO136 := Aside0.mk (Kd.R_lower (Kd.R_new' (Kd.R_new' (Kd.R_newM (M := fun k_ => (w.heap.size ≤ k_)) ho7 (below_size (TB1 GE127.out)) (fun k_ h_ => h_)) (Kd.R_lt (TRo HO130.out))) (Kd.R_lt (TRo HO133.out))) (below_size (TB1 GE127.out))); replace HO130 := Aside0.mk (Kd.R_elder' (TRo HO130.out) (Kd.R_base ho7) hb); replace HO133 := Aside0.mk (Kd.R_elder' (TRo HO133.out) (Kd.R_base ho7) hb); replace BK127 := Aside0.mk (TKb hb BK127.out); replace HB := Aside0.mk (below_step (TB1 GE127.out) hb); clear hb ho7; obtain ⟨Ao8, co8, eo8⟩ := Kd.R_slice HO130.out; subst eo8; obtain ⟨Ao9, co9, eo9⟩ := Kd.R_slice HO133.out; subst eo9; obtain ⟨Ao10, co10, eo10⟩ := Kd.R_slice HO136.out; subst eo10) | ((with_reducible refine gate_dst (N := 4) rfl ?_); refine Kd.N_lit (Kd.slice 3 (Kd.int .i64)) _ 26 ?hg (N' := 4) ?hd (xs := ([y128, y131, y134] : List (List Int))) (inner := [.slice Ao8 y128.length co8, .slice Ao9 y131.length co9, .slice Ao10 y134.length co10]) (ok := (fun k_ => (w.heap.size ≤ k_) ∧ k_ ≠ gb127)) (okp := (fun k_ => (w.heap.size ≤ k_) ∧ k_ ≠ gb127)) ?hr ?hp (fun _ hk => hk) ((show ∀ k_, w6.heap.size ≤ k_ → (fun k_ => (w.heap.size ≤ k_) ∧ k_ ≠ gb127) k_ from fun k_ hk => ⟨(Nat.le_trans (below_size (TB1 GE127.out)) hk), Kd.freshB (g := gb127) (o := .cells #[.int .i64 0, .slice none 0 0] 24 (0, 0)) (TK BK127.out) k_ hk⟩) _ (Nat.le_refl _)) (Below.refl _ _) (Nat.le_refl _) (by simp) ?_; (case hd => rfl); (case hg => rfl); (case hr => exact TS); (case hp => exact (Reps.one (show Kd.FK (Kd.slice 3 (Kd.int .i64)) _ _ y128 [.slice Ao8 y128.length co8] from (Kd.FK_slice_mk (Kd.R_reads' (Kd.R_mono (ok' := (fun k_ => (w.heap.size ≤ k_) ∧ k_ ≠ gb127)) (Kd.R_types (HO130.out) BK127.out (by decide)) (fun k_ hk => ⟨hk.1.1.1.1, hk.2⟩))).2.1 (Kd.R_F (Kd.R_mono (ok' := (fun k_ => (w.heap.size ≤ k_) ∧ k_ ≠ gb127)) (Kd.R_types (HO130.out) BK127.out (by decide)) (fun k_ hk => ⟨hk.1.1.1.1, hk.2⟩))))) (Reps.one (show Kd.FK (Kd.slice 3 (Kd.int .i64)) _ _ y131 [.slice Ao9 y131.length co9] from (Kd.FK_slice_mk (Kd.R_reads' (Kd.R_mono (ok' := (fun k_ => (w.heap.size ≤ k_) ∧ k_ ≠ gb127)) (Kd.R_types (HO133.out) BK127.out (by decide)) (fun k_ hk => ⟨hk.1.1.1.1, hk.2⟩))).2.1 (Kd.R_F (Kd.R_mono (ok' := (fun k_ => (w.heap.size ≤ k_) ∧ k_ ≠ gb127)) (Kd.R_types (HO133.out) BK127.out (by decide)) (fun k_ hk => ⟨hk.1.1.1.1, hk.2⟩))))) (Reps.one (show Kd.FK (Kd.slice 3 (Kd.int .i64)) _ _ y134 [.slice Ao10 y134.length co10] from (Kd.FK_slice_mk (Kd.R_reads' (Kd.R_mono (ok' := (fun k_ => (w.heap.size ≤ k_) ∧ k_ ≠ gb127)) (Kd.R_types (HO136.out) BK127.out (by decide)) (fun k_ hk => ⟨hk.1.1.1.1, hk.2⟩))).2.1 (Kd.R_F (Kd.R_mono (ok' := (fun k_ => (w.heap.size ≤ k_) ∧ k_ ≠ gb127)) (Kd.R_types (HO136.out) BK127.out (by decide)) (fun k_ hk => ⟨hk.1.1.1.1, hk.2⟩))))) (Reps.none _ _))))); intro v138 w11 ho12 hb hg_ hnew_; clear hg_ hnew_; (first | rw [← Ny137.out] at ho12 | (simp only [Int.reduceToNat] at ho12; rw [← Ny137.out] at ho12)); have HO139 := Aside0.mk (Kd.N_lower ho12 (below_size (TB1 GE127.out))); replace BK127 := Aside0.mk (TKb hb BK127.out); replace HB := Aside0.mk (below_step (TB1 GE127.out) hb); clear HO130 HO133 HO136; clear hb ho12; obtain ⟨Ao13, co13, eo13⟩ := Kd.N_slice HO139.out; subst eo13) | ((with_reducible refine gate_dst (N := 6) rfl ?_); refine Kd.R_lit (Kd.int .i64) _ 3 ?hg (N := 6) ?hd (xs := ([3] : List Int)) (inner := [.int .i64 3]) (ok := fun _ => True) (okp := fun _ => True) ?hr ?hp (fun _ hk => hk) trivial (Below.refl _ _) (Nat.le_refl _) (by simp) ?_; (case hd => rfl); (case hg => rfl); (case hr => exact TS); (case hp => exact (Reps.one (show Kd.M (Kd.int .i64) _ _ _ 3 [.int .i64 3] from rfl) (Reps.none _ _))); intro v141 w14 ho15 hb hg_ hnew_; clear hg_ hnew_; (first | rw [← Ny140.out] at ho15 | (simp only [Int.reduceToNat] at ho15; rw [← Ny140.out] at ho15)); have HO142 := Aside0.mk (Kd.R_lower (Kd.R_newM (M := fun k_ => (w.heap.size ≤ k_)) ho15 (below_size (TB1 GE127.out)) (fun k_ h_ => h_)) (below_size (TB1 GE127.out))); replace HO139 := Aside0.mk (Kd.N_elder' (TNo HO139.out) (Kd.R_base ho15) hb); replace BK127 := Aside0.mk (TKb hb BK127.out); replace HB := Aside0.mk (below_step (TB1 GE127.out) hb); clear hb ho15) | ((with_reducible refine gate_dst (N := 7) rfl ?_); refine Kd.R_lit (Kd.int .i64) _ 3 ?hg (N := 7) ?hd (xs := ([1] : List Int)) (inner := [.int .i64 1]) (ok := fun _ => True) (okp := fun _ => True) ?hr ?hp (fun _ hk => hk) trivial (Below.refl _ _) (Nat.le_refl _) (by simp) ?_; (case hd => rfl); (case hg => rfl); (case hr => exact TS); (case hp => exact (Reps.one (show Kd.M (Kd.int .i64) _ _ _ 1 [.int .i64 1] from rfl) (Reps.none _ _))); intro v144 w16 ho17 hb hg_ hnew_; clear hg_ hnew_; (first | rw [← Ny143.out] at ho17 | (simp only [Int.reduceToNat] at ho17; rw [← Ny143.out] at ho17)); have HO145 := Aside0.mk (Kd.R_lower (Kd.R_new' (Kd.R_newM (M := fun k_ => (w.heap.size ≤ k_)) ho17 (below_size (TB1 GE127.out)) (fun k_ h_ => h_)) (Kd.R_lt (TRo HO142.out))) (below_size (TB1 GE127.out))); replace HO139 := Aside0.mk (Kd.N_elder' (TNo HO139.out) (Kd.R_base ho17) hb); replace HO142 := Aside0.mk (Kd.R_elder' (TRo HO142.out) (Kd.R_base ho17) hb); replace BK127 := Aside0.mk (TKb hb BK127.out); replace HB := Aside0.mk (below_step (TB1 GE127.out) hb); clear hb ho17) | ((with_reducible refine gate_dst (N := 8) rfl ?_); refine Kd.R_lit (Kd.int .i64) _ 3 ?hg (N := 8) ?hd (xs := ([0, 2] : List Int)) (inner := [.int .i64 0, .int .i64 2]) (ok := fun _ => True) (okp := fun _ => True) ?hr ?hp (fun _ hk => hk) trivial (Below.refl _ _) (Nat.le_refl _) (by simp) ?_; (case hd => rfl); (case hg => rfl); (case hr => exact TS); (case hp => exact (Reps.one (show Kd.M (Kd.int .i64) _ _ _ 0 [.int .i64 0] from rfl) (Reps.one (show Kd.M (Kd.int .i64) _ _ _ 2 [.int .i64 2] from rfl) (Reps.none _ _)))); intro v147 w18 ho19 hb hg_ hnew_; clear hg_ hnew_; (first | rw [← Ny146.out] at ho19 | (simp only [Int.reduceToNat] at ho19; rw [← Ny146.out] at ho19)); have HO148 := Aside0.mk (Kd.R_lower (Kd.R_new' (Kd.R_new' (Kd.R_newM (M := fun k_ => (w.heap.size ≤ k_)) ho19 (below_size (TB1 GE127.out)) (fun k_ h_ => h_)) (Kd.R_lt (TRo HO142.out))) (Kd.R_lt (TRo HO145.out))) (below_size (TB1 GE127.out))); replace HO139 := Aside0.mk (Kd.N_elder' (TNo HO139.out) (Kd.R_base ho19) hb); replace HO142 := Aside0.mk (Kd.R_elder' (TRo HO142.out) (Kd.R_base ho19) hb); replace HO145 := Aside0.mk (Kd.R_elder' (TRo HO145.out) (Kd.R_base ho19) hb); replace BK127 := Aside0.mk (TKb hb BK127.out); replace HB := Aside0.mk (below_step (TB1 GE127.out) hb); clear hb ho19; obtain ⟨Ao20, co20, eo20⟩ := Kd.R_slice HO142.out; subst eo20; obtain ⟨Ao21, co21, eo21⟩ := Kd.R_slice HO145.out; subst eo21; obtain ⟨Ao22, co22, eo22⟩ := Kd.R_slice HO148.out; subst eo22) | ((with_reducible refine gate_dst (N := 9) rfl ?_); refine Kd.N_lit (Kd.slice 3 (Kd.int .i64)) _ 26 ?hg (N' := 9) ?hd (xs := ([y140, y143, y146] : List (List Int))) (inner := [.slice Ao20 y140.length co20, .slice Ao21 y143.length co21, .slice Ao22 y146.length co22]) (ok := (fun k_ => (w.heap.size ≤ k_) ∧ some k_ ≠ (.slice Ao13 y137.length co13 : Value).ownBlock ∧ k_ ≠ gb127)) (okp := (fun k_ => (w.heap.size ≤ k_) ∧ some k_ ≠ (.slice Ao13 y137.length co13 : Value).ownBlock ∧ k_ ≠ gb127)) ?hr ?hp (fun _ hk => hk) ((show ∀ k_, w18.heap.size ≤ k_ → (fun k_ => (w.heap.size ≤ k_) ∧ some k_ ≠ (.slice Ao13 y137.length co13 : Value).ownBlock ∧ k_ ≠ gb127) k_ from fun k_ hk => ⟨(Nat.le_trans (below_size (TB1 GE127.out)) hk), Kd.fresh' (Kd.N_lt (TNo HO139.out)) k_ hk, Kd.freshB (g := gb127) (o := .cells #[.int .i64 0, .slice none 0 0] 24 (0, 0)) (TK BK127.out) k_ hk⟩) _ (Nat.le_refl _)) (Below.refl _ _) (Nat.le_refl _) (by simp) ?_; (case hd => rfl); (case hg => rfl); (case hr => exact TS); (case hp => exact (Reps.one (show Kd.FK (Kd.slice 3 (Kd.int .i64)) _ _ y140 [.slice Ao20 y140.length co20] from (Kd.FK_slice_mk (Kd.R_reads' (Kd.R_mono (ok' := (fun k_ => (w.heap.size ≤ k_) ∧ some k_ ≠ (.slice Ao13 y137.length co13 : Value).ownBlock ∧ k_ ≠ gb127)) (Kd.R_types (Kd.R_apart' (HO142.out) (Kd.N_typed HO139.out) (by decide)) BK127.out (by decide)) (fun k_ hk => ⟨hk.1.1.1.1.1, ⟨hk.1.2, hk.2⟩⟩))).2.1 (Kd.R_F (Kd.R_mono (ok' := (fun k_ => (w.heap.size ≤ k_) ∧ some k_ ≠ (.slice Ao13 y137.length co13 : Value).ownBlock ∧ k_ ≠ gb127)) (Kd.R_types (Kd.R_apart' (HO142.out) (Kd.N_typed HO139.out) (by decide)) BK127.out (by decide)) (fun k_ hk => ⟨hk.1.1.1.1.1, ⟨hk.1.2, hk.2⟩⟩))))) (Reps.one (show Kd.FK (Kd.slice 3 (Kd.int .i64)) _ _ y143 [.slice Ao21 y143.length co21] from (Kd.FK_slice_mk (Kd.R_reads' (Kd.R_mono (ok' := (fun k_ => (w.heap.size ≤ k_) ∧ some k_ ≠ (.slice Ao13 y137.length co13 : Value).ownBlock ∧ k_ ≠ gb127)) (Kd.R_types (Kd.R_apart' (HO145.out) (Kd.N_typed HO139.out) (by decide)) BK127.out (by decide)) (fun k_ hk => ⟨hk.1.1.1.1.1, ⟨hk.1.2, hk.2⟩⟩))).2.1 (Kd.R_F (Kd.R_mono (ok' := (fun k_ => (w.heap.size ≤ k_) ∧ some k_ ≠ (.slice Ao13 y137.length co13 : Value).ownBlock ∧ k_ ≠ gb127)) (Kd.R_types (Kd.R_apart' (HO145.out) (Kd.N_typed HO139.out) (by decide)) BK127.out (by decide)) (fun k_ hk => ⟨hk.1.1.1.1.1, ⟨hk.1.2, hk.2⟩⟩))))) (Reps.one (show Kd.FK (Kd.slice 3 (Kd.int .i64)) _ _ y146 [.slice Ao22 y146.length co22] from (Kd.FK_slice_mk (Kd.R_reads' (Kd.R_mono (ok' := (fun k_ => (w.heap.size ≤ k_) ∧ some k_ ≠ (.slice Ao13 y137.length co13 : Value).ownBlock ∧ k_ ≠ gb127)) (Kd.R_types (Kd.R_apart' (HO148.out) (Kd.N_typed HO139.out) (by decide)) BK127.out (by decide)) (fun k_ hk => ⟨hk.1.1.1.1.1, ⟨hk.1.2, hk.2⟩⟩))).2.1 (Kd.R_F (Kd.R_mono (ok' := (fun k_ => (w.heap.size ≤ k_) ∧ some k_ ≠ (.slice Ao13 y137.length co13 : Value).ownBlock ∧ k_ ≠ gb127)) (Kd.R_types (Kd.R_apart' (HO148.out) (Kd.N_typed HO139.out) (by decide)) BK127.out (by decide)) (fun k_ hk => ⟨hk.1.1.1.1.1, ⟨hk.1.2, hk.2⟩⟩))))) (Reps.none _ _))))); intro v150 w23 ho24 hb hg_ hnew_; clear hg_ hnew_; (first | rw [← Ny149.out] at ho24 | (simp only [Int.reduceToNat] at ho24; rw [← Ny149.out] at ho24)); have HO151 := Aside0.mk (Kd.N_lower ho24 (below_size (TB1 GE127.out))); replace HO139 := Aside0.mk (Kd.N_elder' (TNo HO139.out) (Kd.N_base ho24) hb); replace BK127 := Aside0.mk (TKb hb BK127.out); replace HB := Aside0.mk (below_step (TB1 GE127.out) hb); clear HO142 HO145 HO148; clear hb ho24; obtain ⟨Ao25, co25, eo25⟩ := Kd.N_slice HO151.out; subst eo25) | ((with_reducible refine gate_dst (N := 11) rfl ?_); refine Kd.N_lit k63 _ 63 ?hg (N' := 11) ?hd (xs := ([(⟨8, y137⟩ : S63), (⟨4, y149⟩ : S63)] : List (S63))) (inner := [.int .i64 8, .slice Ao13 y137.length co13, .int .i64 4, .slice Ao25 y149.length co25]) (ok := (fun k_ => (w.heap.size ≤ k_) ∧ k_ ≠ gb127)) (okp := (fun k_ => (w.heap.size ≤ k_) ∧ k_ ≠ gb127)) ?hr ?hp (fun _ hk => hk) ((show ∀ k_, w23.heap.size ≤ k_ → (fun k_ => (w.heap.size ≤ k_) ∧ k_ ≠ gb127) k_ from fun k_ hk => ⟨(Nat.le_trans (below_size (TB1 GE127.out)) hk), Kd.freshB (g := gb127) (o := .cells #[.int .i64 0, .slice none 0 0] 24 (0, 0)) (TK BK127.out) k_ hk⟩) _ (Nat.le_refl _)) (Below.refl _ _) (Nat.le_refl _) (by simp) ?_; (case hd => rfl); (case hg => rfl); (case hr => exact TS); (case hp => exact (Reps.c2 (show Kd.FK k63 _ _ (⟨8, y137⟩ : S63) [.int .i64 8, .slice Ao13 y137.length co13] from (k63_mkF _ _ (⟨8, y137⟩ : S63) (Kd.N_reads' (Kd.N_mono (ok' := (fun k_ => (w.heap.size ≤ k_) ∧ k_ ≠ gb127)) (HO139.out) (fun k_ hk => ⟨hk.1.1.1.1.1, hk.1.1.1.1.2⟩))).2.1 (Kd.N_F (Kd.N_mono (ok' := (fun k_ => (w.heap.size ≤ k_) ∧ k_ ≠ gb127)) (HO139.out) (fun k_ hk => ⟨hk.1.1.1.1.1, hk.1.1.1.1.2⟩))))) (Reps.c2 (show Kd.FK k63 _ _ (⟨4, y149⟩ : S63) [.int .i64 4, .slice Ao25 y149.length co25] from (k63_mkF _ _ (⟨4, y149⟩ : S63) (Kd.N_reads' (Kd.N_mono (ok' := (fun k_ => (w.heap.size ≤ k_) ∧ k_ ≠ gb127)) (HO151.out) (fun k_ hk => ⟨hk.1, hk.2.2⟩))).2.1 (Kd.N_F (Kd.N_mono (ok' := (fun k_ => (w.heap.size ≤ k_) ∧ k_ ≠ gb127)) (HO151.out) (fun k_ hk => ⟨hk.1, hk.2.2⟩))))) (Reps.none _ _)))); intro v153 w26 ho27 hb hg_ hnew_; clear hg_ hnew_; (first | rw [← Ny152.out] at ho27 | (simp only [Int.reduceToNat] at ho27; rw [← Ny152.out] at ho27)); have HO154 := Aside0.mk (Kd.N_lower ho27 (below_size (TB1 GE127.out))); replace BK127 := Aside0.mk (TKb hb BK127.out); replace HB := Aside0.mk (below_step (TB1 GE127.out) hb); clear HO139 HO151; clear hb ho27; obtain ⟨Ao28, co28, eo28⟩ := Kd.N_slice HO154.out; subst eo28; have hcz29_0 := cz BK127.out 0; have hcz29_1 := cz BK127.out 1; have hfz29_0 := fz BK127.out 0; have hfz29_1 := fz BK127.out 1))
 refine bodyPost_ret (results_cell_row rfl _ _ gb127 24 #[.int .i64 3, .slice Ao28 y152.length co28] (0, 0) _ rfl (by (with_reducible repeat (first | refine blk_drewN ?_ _ | refine blk_drew ?_ | refine blk_alloc ?_ _)); refine blk_put (cs := #[.int .i64 3, .slice none 0 0]) ?_ 1 _ rfl; (with_reducible repeat (first | refine blk_drewN ?_ _ | refine blk_drew ?_ | refine blk_alloc ?_ _)); refine blk_put (cs := #[.int .i64 0, .slice none 0 0]) ?_ 0 _ rfl; (with_reducible repeat (first | refine blk_drewN ?_ _ | refine blk_drew ?_ | refine blk_alloc ?_ _)); exact BK127.out) Tryd.underlying24 rfl (by kernel_rfl)) rfl ?_
 exact ⟨_, TR, by (with_reducible repeat (first | apply Kd.N_alloc | apply Kd.N_drewN | apply Kd.N_drew)); exact Kd.N_mono (Kd.N_far (p := ⟨gb127, 1, none⟩) (Kd.N_far (p := ⟨gb127, 0, none⟩) (Kd.N_mono HO154.out (fun k_ hk => (⟨hk, hk.2⟩ : _ ∧ k_ ≠ gb127))) (fun _ hk => hk.2) (.int .i64 3)) (fun _ hk => hk.2) (.slice Ao28 y152.length co28)) (fun _ hk => hk.1.1), TB1 GE127.out⟩
/-! ### saronlaw05_some: function 51 -/
def saronlaw05_some.f  : Option ((List (List Int))) := some (([(([2] : List Int)), (([] : List Int)), (([2] : List Int))] : List (List Int)))
set_option maxHeartbeats 8000000 in
set_option maxRecDepth 100000 in
theorem saronlaw05_some.calls  (r : List (List Int)) (w : World) (h : saronlaw05_some.f  = some r) :
  Calls Tryd.prog 51 #[] w fun e w' => ∃ v0_ : Value, e = .returned (v0_) ∧ Kd.N (Kd.slice 3 (Kd.int .i64)) 26 w' w.heap.size (fun k_ => (w.heap.size ≤ k_)) v0_ r ∧ Below w.heap.size w w' := by
 have HB := Aside0.mk (Below.refl w.heap.size w)
 have H : (some (([(([2] : List Int)), (([] : List Int)), (([2] : List Int))] : List (List Int)))) = some r := h
 clear h
 obtain ⟨y155, hy155⟩ : ∃ y_ : List Int, y_ = (([2] : List Int)) := ⟨_, rfl⟩
 replace H : (some (([y155, (([] : List Int)), (([2] : List Int))] : List (List Int)))) = some r := by first | (rw [hy155]; with_reducible exact H) | (have H2_ := (Option.bind_some _ _).symm.trans H; rw [hy155]; with_reducible exact H2_) | (have H2_ := (Option.bind_some _ _).symm.trans H; with_reducible exact H2_) | with_reducible exact H | (rw [hy155]; exact H) | exact H
 have Ny155 := Aside0.mk hy155
 clear hy155
 obtain ⟨y158, hy158⟩ : ∃ y_ : List Int, y_ = (([] : List Int)) := ⟨_, rfl⟩
 replace H : (some (([y155, y158, (([2] : List Int))] : List (List Int)))) = some r := by first | (rw [hy158]; with_reducible exact H) | (have H2_ := (Option.bind_some _ _).symm.trans H; rw [hy158]; with_reducible exact H2_) | (have H2_ := (Option.bind_some _ _).symm.trans H; with_reducible exact H2_) | with_reducible exact H | (rw [hy158]; exact H) | exact H
 have Ny158 := Aside0.mk hy158
 clear hy158
 obtain ⟨y161, hy161⟩ : ∃ y_ : List Int, y_ = (([2] : List Int)) := ⟨_, rfl⟩
 replace H : (some (([y155, y158, y161] : List (List Int)))) = some r := by first | (rw [hy161]; with_reducible exact H) | (have H2_ := (Option.bind_some _ _).symm.trans H; rw [hy161]; with_reducible exact H2_) | (have H2_ := (Option.bind_some _ _).symm.trans H; with_reducible exact H2_) | with_reducible exact H | (rw [hy161]; exact H) | exact H
 have Ny161 := Aside0.mk hy161
 clear hy161
 obtain ⟨y164, hy164⟩ : ∃ y_ : List (List Int), y_ = (([y155, y158, y161] : List (List Int))) := ⟨_, rfl⟩
 replace H : (some y164) = some r := by first | (rw [hy164]; with_reducible exact H) | (have H2_ := (Option.bind_some _ _).symm.trans H; rw [hy164]; with_reducible exact H2_) | (have H2_ := (Option.bind_some _ _).symm.trans H; with_reducible exact H2_) | with_reducible exact H | (rw [hy164]; exact H) | exact H
 have Ny164 := Aside0.mk hy164
 clear hy164
 obtain rfl := Option.some.inj H
 go_enter Tryd.func51, Tryd.ntmps51
 go_wp2_with (first | ((with_reducible refine gate_dst (N := 1) rfl ?_); refine Kd.R_lit (Kd.int .i64) _ 3 ?hg (N := 1) ?hd (xs := ([2] : List Int)) (inner := [.int .i64 2]) (ok := fun _ => True) (okp := fun _ => True) ?hr ?hp (fun _ hk => hk) trivial (Below.refl _ _) (Nat.le_refl _) (by simp) ?_; (case hd => rfl); (case hg => rfl); (case hr => exact TS); (case hp => exact (Reps.one (show Kd.M (Kd.int .i64) _ _ _ 2 [.int .i64 2] from rfl) (Reps.none _ _))); intro v156 w1 ho2 hb hg_ hnew_; clear hg_ hnew_; (first | rw [← Ny155.out] at ho2 | (simp only [Int.reduceToNat] at ho2; rw [← Ny155.out] at ho2)); have HO157 := Aside0.mk (Kd.R_lower (Kd.R_newM (M := fun k_ => (w.heap.size ≤ k_)) ho2 (below_size TB) (fun k_ h_ => h_)) (below_size TB)); replace HB := Aside0.mk (below_step TB hb); clear hb ho2) | ((with_reducible refine gate_dst (N := 2) rfl ?_); refine Kd.R_lit (Kd.int .i64) _ 3 ?hg (N := 2) ?hd (xs := ([] : List Int)) (inner := []) (ok := fun _ => True) (okp := fun _ => True) ?hr ?hp (fun _ hk => hk) trivial (Below.refl _ _) (Nat.le_refl _) (by simp) ?_; (case hd => rfl); (case hg => rfl); (case hr => exact TS); (case hp => exact (Reps.none _ _)); intro v159 w3 ho4 hb hg_ hnew_; clear hg_ hnew_; (first | rw [← Ny158.out] at ho4 | (simp only [Int.reduceToNat] at ho4; rw [← Ny158.out] at ho4)); have HO160 := Aside0.mk (Kd.R_lower (Kd.R_new' (Kd.R_newM (M := fun k_ => (w.heap.size ≤ k_)) ho4 (below_size TB) (fun k_ h_ => h_)) (Kd.R_lt (TRo HO157.out))) (below_size TB)); replace HO157 := Aside0.mk (Kd.R_elder' (TRo HO157.out) (Kd.R_base ho4) hb); replace HB := Aside0.mk (below_step TB hb); clear hb ho4) | ((with_reducible refine gate_dst (N := 3) rfl ?_); refine Kd.R_lit (Kd.int .i64) _ 3 ?hg (N := 3) ?hd (xs := ([2] : List Int)) (inner := [.int .i64 2]) (ok := fun _ => True) (okp := fun _ => True) ?hr ?hp (fun _ hk => hk) trivial (Below.refl _ _) (Nat.le_refl _) (by simp) ?_; (case hd => rfl); (case hg => rfl); (case hr => exact TS); (case hp => exact (Reps.one (show Kd.M (Kd.int .i64) _ _ _ 2 [.int .i64 2] from rfl) (Reps.none _ _))); intro v162 w5 ho6 hb hg_ hnew_; clear hg_ hnew_; (first | rw [← Ny161.out] at ho6 | (simp only [Int.reduceToNat] at ho6; rw [← Ny161.out] at ho6)); have HO163 := Aside0.mk (Kd.R_lower (Kd.R_new' (Kd.R_new' (Kd.R_newM (M := fun k_ => (w.heap.size ≤ k_)) ho6 (below_size TB) (fun k_ h_ => h_)) (Kd.R_lt (TRo HO157.out))) (Kd.R_lt (TRo HO160.out))) (below_size TB)); replace HO157 := Aside0.mk (Kd.R_elder' (TRo HO157.out) (Kd.R_base ho6) hb); replace HO160 := Aside0.mk (Kd.R_elder' (TRo HO160.out) (Kd.R_base ho6) hb); replace HB := Aside0.mk (below_step TB hb); clear hb ho6; obtain ⟨Ao7, co7, eo7⟩ := Kd.R_slice HO157.out; subst eo7; obtain ⟨Ao8, co8, eo8⟩ := Kd.R_slice HO160.out; subst eo8; obtain ⟨Ao9, co9, eo9⟩ := Kd.R_slice HO163.out; subst eo9) | ((with_reducible refine gate_dst (N := 4) rfl ?_); refine Kd.N_lit (Kd.slice 3 (Kd.int .i64)) _ 26 ?hg (N' := 4) ?hd (xs := ([y155, y158, y161] : List (List Int))) (inner := [.slice Ao7 y155.length co7, .slice Ao8 y158.length co8, .slice Ao9 y161.length co9]) (ok := (fun k_ => (w.heap.size ≤ k_))) (okp := (fun k_ => (w.heap.size ≤ k_))) ?hr ?hp (fun _ hk => hk) ((show ∀ k_, w5.heap.size ≤ k_ → (fun k_ => (w.heap.size ≤ k_)) k_ from fun k_ hk => (Nat.le_trans (below_size TB) hk)) _ (Nat.le_refl _)) (Below.refl _ _) (Nat.le_refl _) (by simp) ?_; (case hd => rfl); (case hg => rfl); (case hr => exact TS); (case hp => exact (Reps.one (show Kd.FK (Kd.slice 3 (Kd.int .i64)) _ _ y155 [.slice Ao7 y155.length co7] from (Kd.FK_slice_mk (Kd.R_reads' (Kd.R_mono (ok' := (fun k_ => (w.heap.size ≤ k_))) (HO157.out) (fun k_ hk => hk.1.1.1))).2.1 (Kd.R_F (Kd.R_mono (ok' := (fun k_ => (w.heap.size ≤ k_))) (HO157.out) (fun k_ hk => hk.1.1.1))))) (Reps.one (show Kd.FK (Kd.slice 3 (Kd.int .i64)) _ _ y158 [.slice Ao8 y158.length co8] from (Kd.FK_slice_mk (Kd.R_reads' (Kd.R_mono (ok' := (fun k_ => (w.heap.size ≤ k_))) (HO160.out) (fun k_ hk => hk.1.1.1))).2.1 (Kd.R_F (Kd.R_mono (ok' := (fun k_ => (w.heap.size ≤ k_))) (HO160.out) (fun k_ hk => hk.1.1.1))))) (Reps.one (show Kd.FK (Kd.slice 3 (Kd.int .i64)) _ _ y161 [.slice Ao9 y161.length co9] from (Kd.FK_slice_mk (Kd.R_reads' (Kd.R_mono (ok' := (fun k_ => (w.heap.size ≤ k_))) (HO163.out) (fun k_ hk => hk.1.1.1))).2.1 (Kd.R_F (Kd.R_mono (ok' := (fun k_ => (w.heap.size ≤ k_))) (HO163.out) (fun k_ hk => hk.1.1.1))))) (Reps.none _ _))))); intro v165 w10 ho11 hb hg_ hnew_; clear hg_ hnew_; (first | rw [← Ny164.out] at ho11 | (simp only [Int.reduceToNat] at ho11; rw [← Ny164.out] at ho11)); have HO166 := Aside0.mk (Kd.N_lower ho11 (below_size TB)); replace HB := Aside0.mk (below_step TB hb); clear HO157 HO160 HO163; clear hb ho11))
 go_ret
 exact ⟨_, TR, by (with_reducible repeat (first | apply Kd.N_alloc | apply Kd.N_drewN | apply Kd.N_drew)); exact HO166.out, TB⟩
end Go.Proofs.YtephecfapclgfaaDoor.PRaspKeys
