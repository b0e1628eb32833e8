import Derived.Test.YtfmpbkolpjlfbaaDoorM0
import Derived.Test.YtfmpbkolpjlfbaaDoorWRepsOne
import Derived.Test.YtfmpbkolpjlfbaaDoorWEqStruct
import Derived.Test.YtfmpbkolpjlfbaaDoorWGuard
import Derived.Test.YtfmpbkolpjlfbaaDoorProg
import Derived.Below
import Derived.Deep.Draws
import Derived.Deep.AppendLies
import Derived.Maps.AppendAt
import Derived.OwnWalk
import Derived.Laws.BytesArg
import Derived.Laws.MakeOwn
import Derived.Laws.OwnMore
import Derived.Deep.OwnRows
import Derived.Tactics
import Derived.Lib.ConvBytes
import Derived.Laws.Slices
import Derived.WalkKit
import Derived.KernelRfl
import Derived.RowKit3
import Derived.Deep.LoopGhost
import Derived.Deep.QuietTactic
import Derived.BigQuiet
import Derived.WideLaws
import Derived.Deep.DeepCutAuto
import Derived.Deep.CutBlock
import Derived.Deep.RegionHeld3
import Derived.Laws.Rows
import Derived.Lib.AppendStr
import Derived.ArgAppend
import Derived.Laws.IdiomCopy
import Derived.OrdersHeld
import Derived.Laws.BitsLemmas
import Derived.RowKit
set_option linter.unusedVariables false
set_option linter.unusedSimpArgs false
namespace Go.Proofs.YtfmpbkolpjlfbaaDoor.PRaspKeys
open Go.RowKit Go.Proofs.YtfmpbkolpjlfbaaDoorW.PrintWords Go.Proofs.YtfmpbkolpjlfbaaDoorW.PrintLast Go.Proofs.YtfmpbkolpjlfbaaDoorW.PrintMore Go.Proofs.YtfmpbkolpjlfbaaDoor.M
attribute [local go_sem] max2_int min2_int max_two min_two max_three min_three max_four min_four   -- for this text's walks alone
def errW : Option Int → Value
 | none => .nilIface
 | some c => .iface 0 (.int .i64 c)
theorem errW_none : errW none = .nilIface := rfl
theorem errW_some (c : Int) : errW (some c) = .iface 0 (.int .i64 c) := rfl
theorem info3 : (Tryd.prog.info? 3).map (fun i => (i.zero, i.size, i.bytes)) = some (some (.int .i64 0), 1, 8) := by kernel_rfl
theorem info57 : (Tryd.prog.info? 57).map (fun i => (i.zero, i.size, i.bytes)) = some (some (.agg #[(.int .i64 0), (.int .i64 0), (.int .i64 0)]), 3, 24) := by kernel_rfl
theorem info69 : (Tryd.prog.info? 69).map (fun i => (i.zero, i.size, i.bytes)) = some (some (.agg #[(.int .i64 0), (.int .i64 0), (.int .i64 0)]), 3, 24) := by kernel_rfl
/-! #### struct type 24 -/
structure S24 where
 f0 : Int
 f1 : Int
def z24 : S24 := ⟨(0 : Int), (0 : Int)⟩
def k24 : Kd S24 := Kd.iso (Kd.pair (Kd.int .i64) (Kd.int .i64)) (fun x : S24 => (x.f0, x.f1))
theorem k24_open {w : World} {x : S24} {cs : List Value} (h : k24.K w x cs) : cs = [.int .i64 x.f0, .int .i64 x.f1] := by
 obtain ⟨_, _, rfl, rfl, rfl⟩ := h
 exact rfl
theorem k24_openM {w : World} {base : Nat} {ok : Nat → Prop} {x : S24} {cs : List Value} (h : k24.M w base ok x cs) : cs = [.int .i64 x.f0, .int .i64 x.f1] := by
 obtain ⟨_, _, rfl, rfl, rfl⟩ := h
 exact rfl
theorem k24_mk (w : World) (x : S24)  : k24.K w x [.int .i64 x.f0, .int .i64 x.f1] := ⟨[.int .i64 x.f0], [.int .i64 x.f1], rfl, rfl, rfl⟩
theorem k24_mkM (w : World) (base : Nat) (ok : Nat → Prop) (x : S24)  : k24.M w base ok x [.int .i64 x.f0, .int .i64 x.f1] := ⟨[.int .i64 x.f0], [.int .i64 x.f1], rfl, rfl, rfl⟩
def rd_T24 (xs : List S24) (i : Int) : S24 := xs.getD i.toNat z24
theorem at_T24 {w : World} {A : Option Addr} {n : Nat} {xs : List S24} (h : Kd.C k24 w A n xs) (i : Int) (h0 : 0 ≤ i) (h1 : i < n) : ∃ ad , A = some ad ∧ w.cell? (ad.add (i.toNat * 2)) = some (.int .i64 (rd_T24 xs i).f0) ∧ w.cell? ⟨(ad.add (i.toNat * 2)).block, (ad.add (i.toNat * 2)).off + 1, none⟩ = some (.int .i64 (rd_T24 xs i).f1) := by
 obtain ⟨ad, c, e, _, hK, hc0⟩ := Kd.C_get h z24 i h0 h1
 have hc : ∀ j u, c[j]? = some u → w.cell? (ad.add (i.toNat * 2 + j)) = some u := hc0
 obtain rfl := k24_open hK
 exact ⟨ad, e, hc 0 _ rfl, by rw [← add_field _ _ 1 (by omega)]; exact hc 1 _ rfl⟩
/-! #### struct type 57 -/
structure S57 where
 f0 : S24
 f1 : Int
def z57 : S57 := ⟨z24, (0 : Int)⟩
def k57 : Kd S57 := Kd.iso (Kd.pair k24 (Kd.int .i64)) (fun x : S57 => (x.f0, x.f1))
theorem k57_open {w : World} {x : S57} {cs : List Value} (h : k57.K w x cs) : cs = [.int .i64 x.f0.f0, .int .i64 x.f0.f1, .int .i64 x.f1] := by
 obtain ⟨_, _, rfl, s0, rfl⟩ := h
 obtain rfl := k24_open s0
 exact rfl
theorem k57_openM {w : World} {base : Nat} {ok : Nat → Prop} {x : S57} {cs : List Value} (h : k57.M w base ok x cs) : cs = [.int .i64 x.f0.f0, .int .i64 x.f0.f1, .int .i64 x.f1] := by
 obtain ⟨_, _, rfl, s0, rfl⟩ := h
 obtain rfl := k24_openM s0
 exact rfl
theorem k57_mk (w : World) (x : S57)  : k57.K w x [.int .i64 x.f0.f0, .int .i64 x.f0.f1, .int .i64 x.f1] := ⟨[.int .i64 x.f0.f0, .int .i64 x.f0.f1], [.int .i64 x.f1], rfl, (k24_mk w x.f0 ), rfl⟩
theorem k57_mkM (w : World) (base : Nat) (ok : Nat → Prop) (x : S57)  : k57.M w base ok x [.int .i64 x.f0.f0, .int .i64 x.f0.f1, .int .i64 x.f1] := ⟨[.int .i64 x.f0.f0, .int .i64 x.f0.f1], [.int .i64 x.f1], rfl, (k24_mkM w base ok x.f0 ), rfl⟩
def rd_T57 (xs : List S57) (i : Int) : S57 := xs.getD i.toNat z57
theorem at_T57 {w : World} {A : Option Addr} {n : Nat} {xs : List S57} (h : Kd.C k57 w A n xs) (i : Int) (h0 : 0 ≤ i) (h1 : i < n) : ∃ ad , A = some ad ∧ w.cell? (ad.add (i.toNat * 3)) = some (.int .i64 (rd_T57 xs i).f0.f0) ∧ w.cell? ⟨(ad.add (i.toNat * 3)).block, (ad.add (i.toNat * 3)).off + 1, none⟩ = some (.int .i64 (rd_T57 xs i).f0.f1) ∧ w.cell? ⟨(ad.add (i.toNat * 3)).block, (ad.add (i.toNat * 3)).off + 2, none⟩ = some (.int .i64 (rd_T57 xs i).f1) := by
 obtain ⟨ad, c, e, _, hK, hc0⟩ := Kd.C_get h z57 i h0 h1
 have hc : ∀ j u, c[j]? = some u → w.cell? (ad.add (i.toNat * 3 + j)) = some u := hc0
 obtain rfl := k57_open hK
 exact ⟨ad, e, hc 0 _ rfl, by rw [← add_field _ _ 1 (by omega)]; exact hc 1 _ rfl, by rw [← add_field _ _ 2 (by omega)]; exact hc 2 _ rfl⟩
/-! #### struct type 69 -/
structure S69 where
 f0 : S24
 f1 : Int
def z69 : S69 := ⟨z24, (0 : Int)⟩
def k69 : Kd S69 := Kd.iso (Kd.pair k24 (Kd.int .i64)) (fun x : S69 => (x.f0, x.f1))
theorem k69_open {w : World} {x : S69} {cs : List Value} (h : k69.K w x cs) : cs = [.int .i64 x.f0.f0, .int .i64 x.f0.f1, .int .i64 x.f1] := by
 obtain ⟨_, _, rfl, s0, rfl⟩ := h
 obtain rfl := k24_open s0
 exact rfl
theorem k69_openM {w : World} {base : Nat} {ok : Nat → Prop} {x : S69} {cs : List Value} (h : k69.M w base ok x cs) : cs = [.int .i64 x.f0.f0, .int .i64 x.f0.f1, .int .i64 x.f1] := by
 obtain ⟨_, _, rfl, s0, rfl⟩ := h
 obtain rfl := k24_openM s0
 exact rfl
theorem k69_mk (w : World) (x : S69)  : k69.K w x [.int .i64 x.f0.f0, .int .i64 x.f0.f1, .int .i64 x.f1] := ⟨[.int .i64 x.f0.f0, .int .i64 x.f0.f1], [.int .i64 x.f1], rfl, (k24_mk w x.f0 ), rfl⟩
theorem k69_mkM (w : World) (base : Nat) (ok : Nat → Prop) (x : S69)  : k69.M w base ok x [.int .i64 x.f0.f0, .int .i64 x.f0.f1, .int .i64 x.f1] := ⟨[.int .i64 x.f0.f0, .int .i64 x.f0.f1], [.int .i64 x.f1], rfl, (k24_mkM w base ok x.f0 ), rfl⟩
def rd_T69 (xs : List S69) (i : Int) : S69 := xs.getD i.toNat z69
theorem at_T69 {w : World} {A : Option Addr} {n : Nat} {xs : List S69} (h : Kd.C k69 w A n xs) (i : Int) (h0 : 0 ≤ i) (h1 : i < n) : ∃ ad , A = some ad ∧ w.cell? (ad.add (i.toNat * 3)) = some (.int .i64 (rd_T69 xs i).f0.f0) ∧ w.cell? ⟨(ad.add (i.toNat * 3)).block, (ad.add (i.toNat * 3)).off + 1, none⟩ = some (.int .i64 (rd_T69 xs i).f0.f1) ∧ w.cell? ⟨(ad.add (i.toNat * 3)).block, (ad.add (i.toNat * 3)).off + 2, none⟩ = some (.int .i64 (rd_T69 xs i).f1) := by
 obtain ⟨ad, c, e, _, hK, hc0⟩ := Kd.C_get h z69 i h0 h1
 have hc : ∀ j u, c[j]? = some u → w.cell? (ad.add (i.toNat * 3 + j)) = some u := hc0
 obtain rfl := k69_open hK
 exact ⟨ad, e, hc 0 _ rfl, by rw [← add_field _ _ 1 (by omega)]; exact hc 1 _ rfl, by rw [← add_field _ _ 2 (by omega)]; exact hc 2 _ rfl⟩
def rd_L4 (xs : List (List Int)) (i : Int) : (List Int) := xs.getD i.toNat ([] : List Int)
theorem at_L4 {w : World} {A : Option Addr} {n : Nat} {xs : List (List Int)} (h : Kd.C (Kd.slice 3 (Kd.int .i64)) w A n xs) (i : Int) (h0 : 0 ≤ i) (h1 : i < n) : ∃ ad A0 c0, A = some ad ∧ w.cell? (ad.add i.toNat) = some (.slice A0 (rd_L4 xs i).length c0) ∧ (rd_L4 xs i).length ≤ c0 ∧ (Kd.int .i64).C w A0 (rd_L4 xs i).length (rd_L4 xs i) := by
 obtain ⟨ad, c, e, _, hK, hc0⟩ := Kd.C_get h ([] : List Int) i h0 h1
 have hc : ∀ j u, c[j]? = some u → w.cell? (ad.add (i.toNat * 1 + j)) = some u := hc0
 obtain ⟨A0, c0, rfl, l0, g0⟩ := hK
 exact ⟨ad, A0, c0, e, by have hq := hc 0 _ rfl; rwa [Nat.mul_one, Nat.add_zero] at hq, l0, g0⟩
end Go.Proofs.YtfmpbkolpjlfbaaDoor.PRaspKeys
namespace Go.Proofs.YtfmpbkolpjlfbaaDoor.PRaspKeys
open Go.RowKit Go.Proofs.YtfmpbkolpjlfbaaDoorW.PrintWords Go.Proofs.YtfmpbkolpjlfbaaDoorW.PrintLast Go.Proofs.YtfmpbkolpjlfbaaDoorW.PrintMore Go.Proofs.YtfmpbkolpjlfbaaDoor.M
attribute [local go_sem] max2_int min2_int max_two min_two max_three min_three max_four min_four   -- for this text's walks alone
/-! ### rasp_lies: function 58 -/
def rasp_lies.f (a0 : Int) (a1 : Int) (a2 : Int) : Option (Bool) := if a1 ≤ a0 then (some (decide (a0 ≤ a2))) else (some false)
set_option maxHeartbeats 8000000 in
set_option maxRecDepth 100000 in
theorem rasp_lies.calls (a0 : Int) (a1 : Int) (a2 : Int) (r : Bool) (w : World) (h : rasp_lies.f a0 a1 a2 = some r) :
  Calls Tryd.prog 58 #[.int .i64 a0, .int .i64 a1, .int .i64 a2] w fun e w' => e = .returned (.bool r) ∧ Drawn0 w w' := by
 have H : (if a1 ≤ a0 then (some (decide (a0 ≤ a2))) else (some false)) = some r := h
 clear h
 by_cases c4 : a1 ≤ a0
 ·rw [if_pos c4] at H
  have c4b0 : decide (a1 ≤ a0) = true := decide_eq_true c4
  clear c4
  obtain rfl := Option.some.inj H
  go_enter Tryd.func58, Tryd.ntmps58
  go_wp2
  go_ret
  exact ⟨by first | rfl | (simp; done) | (simp [*]; done), by repeat (first | exact Drawn0.refl _ | apply Drawn0.step)⟩
 ·rw [if_neg c4] at H
  have c4b0 : decide (a1 ≤ a0) = false := decide_eq_false c4
  clear c4
  obtain rfl := Option.some.inj H
  go_enter Tryd.func58, Tryd.ntmps58
  go_wp2
  go_ret
  exact ⟨by first | rfl | (simp; done) | (simp [*]; done), by repeat (first | exact Drawn0.refl _ | apply Drawn0.step)⟩
/-! ### rasp_isSpan: function 59 -/
def rasp_isSpan.f (a0_0 : Int) (a0_1 : Int) (a1 : Int) : Option (Bool) := if (wrap64 (-a1)) ≤ a0_0 then (if a0_0 ≤ a0_1 then (some (decide (a0_1 ≤ a1))) else (some false)) else (some false)
set_option maxHeartbeats 8000000 in
set_option maxRecDepth 100000 in
theorem rasp_isSpan.calls (a0_0 : Int) (a0_1 : Int) (a1 : Int) (r : Bool) (w : World) (h : rasp_isSpan.f a0_0 a0_1 a1 = some r) :
  Calls Tryd.prog 59 #[.agg #[.int .i64 a0_0, .int .i64 a0_1], .int .i64 a1] w fun e w' => e = .returned (.bool r) ∧ Below w.heap.size w w' := by
 have hu24 := Tryd.underlying24
 have HB := Aside0.mk (Below.refl w.heap.size w)
 have H : (if (wrap64 (-a1)) ≤ a0_0 then (if a0_0 ≤ a0_1 then (some (decide (a0_1 ≤ a1))) else (some false)) else (some false)) = some r := h
 clear h
 by_cases c3 : (wrap64 (-a1)) ≤ a0_0
 ·rw [if_pos c3] at H
  have c3b0 : decide ((wrap64 (-a1)) ≤ a0_0) = true := decide_eq_true c3
  clear c3
  by_cases c4 : a0_0 ≤ a0_1
  ·rw [if_pos c4] at H
   have c4b0 : decide (a0_0 ≤ a0_1) = true := decide_eq_true c4
   clear c4
   obtain rfl := Option.some.inj H
   go_enter Tryd.func59, Tryd.ntmps59
   go_wp2_with (first | ((with_reducible refine gate_dst (N := 2) rfl ?_); refine box_event ?hg (N := 2) ?hd (cs := #[.int .i64 a0_0, .int .i64 a0_1]) (t := 24) ?hr ?_; (case hd => rfl); (case hg => rfl); (case hr => exact TS); intro gb101 hg w5 hbox hb; have BK101 := Aside0.mk (hbox); have GW101 := Aside0.mk ((TG : w.heap.size ≤ gb101)); have GE101 := Aside0.mk ((TG : w.heap.size ≤ gb101)); replace HB := Aside0.mk (below_step TB hb); clear hb hbox hg; have hcz6_0 := cz BK101.out 0; have hcz6_1 := cz BK101.out 1; have hfz6_0 := fz BK101.out 0; have hfz6_1 := fz BK101.out 1))
   go_ret
   exact ⟨TR, TB1 GE101.out⟩
  ·rw [if_neg c4] at H
   have c4b0 : decide (a0_0 ≤ a0_1) = false := decide_eq_false c4
   clear c4
   obtain rfl := Option.some.inj H
   go_enter Tryd.func59, Tryd.ntmps59
   go_wp2_with (first | ((with_reducible refine gate_dst (N := 2) rfl ?_); refine box_event ?hg (N := 2) ?hd (cs := #[.int .i64 a0_0, .int .i64 a0_1]) (t := 24) ?hr ?_; (case hd => rfl); (case hg => rfl); (case hr => exact TS); intro gb101 hg w7 hbox hb; have BK101 := Aside0.mk (hbox); have GW101 := Aside0.mk ((TG : w.heap.size ≤ gb101)); have GE101 := Aside0.mk ((TG : w.heap.size ≤ gb101)); replace HB := Aside0.mk (below_step TB hb); clear hb hbox hg; have hcz8_0 := cz BK101.out 0; have hcz8_1 := cz BK101.out 1; have hfz8_0 := fz BK101.out 0; have hfz8_1 := fz BK101.out 1))
   go_ret
   exact ⟨TR, TB1 GE101.out⟩
 ·rw [if_neg c3] at H
  have c3b0 : decide ((wrap64 (-a1)) ≤ a0_0) = false := decide_eq_false c3
  clear c3
  obtain rfl := Option.some.inj H
  go_enter Tryd.func59, Tryd.ntmps59
  go_wp2_with (first | ((with_reducible refine gate_dst (N := 2) rfl ?_); refine box_event ?hg (N := 2) ?hd (cs := #[.int .i64 a0_0, .int .i64 a0_1]) (t := 24) ?hr ?_; (case hd => rfl); (case hg => rfl); (case hr => exact TS); intro gb101 hg w9 hbox hb; have BK101 := Aside0.mk (hbox); have GW101 := Aside0.mk ((TG : w.heap.size ≤ gb101)); have GE101 := Aside0.mk ((TG : w.heap.size ≤ gb101)); replace HB := Aside0.mk (below_step TB hb); clear hb hbox hg; have hcz10_0 := cz BK101.out 0; have hcz10_1 := cz BK101.out 1; have hfz10_0 := fz BK101.out 0; have hfz10_1 := fz BK101.out 1))
  go_ret
  exact ⟨TR, TB1 GE101.out⟩
/-! ### rasp_Check: function 18 -/
mutual
def rasp_Check.j0 : Nat → Bool → List (S57) → Int → Int → List (S69) → Option (Int)
 | 0, _, _, _, _, _ => none
 | k + 1, x3, x103000, x103001, x103002, x103003 => rasp_Check.l0 k x3 x103000 (x103000.length : Int) 0 x103000 x103001 x103002 x103003
def rasp_Check.l0 : Nat → Bool → List (S57) → Int → Int → List (S57) → Int → Int → List (S69) → Option (Int)
 | 0, _, _, _, _, _, _, _, _ => none
 | k + 1, x3, x24, x25, x26, x103000, x103001, x103002, x103003 => if x26 < x25 then (if 0 ≤ x26 then (if x26 < (x24.length : Int) then (if x3 = true then ((rasp_isSpan.f ((rd_T57 x24 x26).f0.f0) ((rd_T57 x24 x26).f0.f1) 30).bind fun t107 => (if t107 = true then ((rasp_lies.f ((rd_T57 x24 x26).f1) 1 10).bind fun t108 => (rasp_Check.l0 k t108 x24 x25 (wrap64 (x26 + 1)) x103000 x103001 x103002 x103003)) else (rasp_Check.l0 k false x24 x25 (wrap64 (x26 + 1)) x103000 x103001 x103002 x103003))) else (rasp_Check.l0 k false x24 x25 (wrap64 (x26 + 1)) x103000 x103001 x103002 x103003)) else (none)) else (none)) else (rasp_Check.l1 k x3 x103003 (x103003.length : Int) 0)
def rasp_Check.l1 : Nat → Bool → List (S69) → Int → Int → Option (Int)
 | 0, _, _, _, _ => none
 | k + 1, x3, x43, x44, x45 => if x45 < x44 then (if 0 ≤ x45 then (if x45 < (x43.length : Int) then (if x3 = true then ((rasp_isSpan.f ((rd_T69 x43 x45).f0.f0) ((rd_T69 x43 x45).f0.f1) 60).bind fun t111 => (if t111 = true then ((rasp_lies.f ((rd_T69 x43 x45).f1) 0 30).bind fun t112 => (rasp_Check.l1 k t112 x43 x44 (wrap64 (x45 + 1)))) else (rasp_Check.l1 k false x43 x44 (wrap64 (x45 + 1))))) else (rasp_Check.l1 k false x43 x44 (wrap64 (x45 + 1)))) else (none)) else (none)) else (if x3 = true then (some 0) else (some 30))
end
def rasp_Check.f (k : Nat) (l0_0 : List (S57)) (a0_1 : Int) (a0_2 : Int) (l0_3 : List (S69)) : Option (Int) := (rasp_lies.f (l0_0.length : Int) 1 4).bind fun t103 => (if t103 = true then ((rasp_isSpan.f a0_1 a0_2 60).bind fun t104 => (if t104 = true then (rasp_Check.j0 k (decide ((l0_3.length : Int) ≤ 6)) l0_0 a0_1 a0_2 l0_3) else (rasp_Check.j0 k false l0_0 a0_1 a0_2 l0_3))) else (rasp_Check.j0 k false l0_0 a0_1 a0_2 l0_3))
theorem rasp_Check.mono_l : ∀ k, (∀ y0 y1 y2 y3 y4, LeO (rasp_Check.j0 k y0 y1 y2 y3 y4) (rasp_Check.j0 (k + 1) y0 y1 y2 y3 y4)) ∧ (∀ y0 y1 y2 y3 y4 y5 y6 y7, LeO (rasp_Check.l0 k y0 y1 y2 y3 y4 y5 y6 y7) (rasp_Check.l0 (k + 1) y0 y1 y2 y3 y4 y5 y6 y7)) ∧ (∀ y0 y1 y2 y3, LeO (rasp_Check.l1 k y0 y1 y2 y3) (rasp_Check.l1 (k + 1) y0 y1 y2 y3))
 | 0 => ⟨fun _ _ _ _ _ r h => by simp [rasp_Check.j0] at h, fun _ _ _ _ _ _ _ _ r h => by simp [rasp_Check.l0] at h, fun _ _ _ _ r h => by simp [rasp_Check.l1] at h⟩
 | k + 1 => by
  obtain ⟨ih0, ih1, ih2⟩ := rasp_Check.mono_l k
  refine ⟨?_, ?_, ?_⟩
  ·intro y0 y1 y2 y3 y4
   unfold rasp_Check.j0
   repeat' first
   | (with_reducible exact ih0 _ _ _ _ _)
   | (with_reducible exact ih1 _ _ _ _ _ _ _ _)
   | (with_reducible exact ih2 _ _ _ _)
   | (with_reducible exact LeO.refl _)
   | (with_reducible exact LeO.none _)
   | (with_reducible refine LeO.ite ?_ ?_)
   | (with_reducible refine LeO.bind ?_ (fun _ => ?_))
   | exact ih0 _ _ _ _ _
   | exact ih1 _ _ _ _ _ _ _ _
   | exact ih2 _ _ _ _
   | exact LeO.none _
   | refine LeO.ite ?_ ?_
   | refine LeO.bind ?_ (fun _ => ?_)
  ·intro y0 y1 y2 y3 y4 y5 y6 y7
   unfold rasp_Check.l0
   repeat' first
   | (with_reducible exact ih0 _ _ _ _ _)
   | (with_reducible exact ih1 _ _ _ _ _ _ _ _)
   | (with_reducible exact ih2 _ _ _ _)
   | (with_reducible exact LeO.refl _)
   | (with_reducible exact LeO.none _)
   | (with_reducible refine LeO.ite ?_ ?_)
   | (with_reducible refine LeO.bind ?_ (fun _ => ?_))
   | exact ih0 _ _ _ _ _
   | exact ih1 _ _ _ _ _ _ _ _
   | exact ih2 _ _ _ _
   | exact LeO.none _
   | refine LeO.ite ?_ ?_
   | refine LeO.bind ?_ (fun _ => ?_)
  ·intro y0 y1 y2 y3
   unfold rasp_Check.l1
   repeat' first
   | (with_reducible exact ih0 _ _ _ _ _)
   | (with_reducible exact ih1 _ _ _ _ _ _ _ _)
   | (with_reducible exact ih2 _ _ _ _)
   | (with_reducible exact LeO.refl _)
   | (with_reducible exact LeO.none _)
   | (with_reducible refine LeO.ite ?_ ?_)
   | (with_reducible refine LeO.bind ?_ (fun _ => ?_))
   | exact ih0 _ _ _ _ _
   | exact ih1 _ _ _ _ _ _ _ _
   | exact ih2 _ _ _ _
   | exact LeO.none _
   | refine LeO.ite ?_ ?_
   | refine LeO.bind ?_ (fun _ => ?_)
theorem rasp_Check.mono : ∀ a0 a1 a2 a3 k, LeO (rasp_Check.f k a0 a1 a2 a3) (rasp_Check.f (k + 1) a0 a1 a2 a3) := by
 intro a0 a1 a2 a3 k
 obtain ⟨ih0, ih1, ih2⟩ := rasp_Check.mono_l k
 unfold rasp_Check.f
 repeat' first
   | (with_reducible exact ih0 _ _ _ _ _)
   | (with_reducible exact ih1 _ _ _ _ _ _ _ _)
   | (with_reducible exact ih2 _ _ _ _)
   | (with_reducible exact LeO.refl _)
   | (with_reducible exact LeO.none _)
   | (with_reducible refine LeO.ite ?_ ?_)
   | (with_reducible refine LeO.bind ?_ (fun _ => ?_))
   | exact ih0 _ _ _ _ _
   | exact ih1 _ _ _ _ _ _ _ _
   | exact ih2 _ _ _ _
   | exact LeO.none _
   | refine LeO.ite ?_ ?_
   | refine LeO.bind ?_ (fun _ => ?_)
set_option maxHeartbeats 8000000 in
set_option maxRecDepth 100000 in
theorem rasp_Check.calls (k : Nat) (A0_0 : Option Addr) (c0_0 : Nat) (l0_0 : List (S57)) (a0_1 : Int) (a0_2 : Int) (A0_3 : Option Addr) (c0_3 : Nat) (l0_3 : List (S69)) (r : Int) (w : World) (hr0_0 : Kd.C k57 w A0_0 l0_0.length l0_0) (hc0_0 : l0_0.length ≤ c0_0) (hr0_3 : Kd.C k69 w A0_3 l0_3.length l0_3) (hc0_3 : l0_3.length ≤ c0_3) (h : rasp_Check.f k l0_0 a0_1 a0_2 l0_3 = some r) :
  Calls Tryd.prog 18 #[.agg #[.slice A0_0 l0_0.length c0_0, .int .i64 a0_1, .int .i64 a0_2, .slice A0_3 l0_3.length c0_3]] w fun e w' => e = .returned (.int .i64 r) ∧ Below w.heap.size w w' := by
 have hu27 := Tryd.underlying27
 have hu24 := Tryd.underlying24
 have hu57 := Tryd.underlying57
 have hu69 := Tryd.underlying69
 have HR0_0 := Aside0.mk hr0_0
 have HC0_0 := Aside0.mk hc0_0
 clear hr0_0 hc0_0
 have HR0_3 := Aside0.mk hr0_3
 have HC0_3 := Aside0.mk hc0_3
 clear hr0_3 hc0_3
 have HB := Aside0.mk (Below.refl w.heap.size w)
 have H : ((rasp_lies.f (l0_0.length : Int) 1 4).bind fun t103 => (if t103 = true then ((rasp_isSpan.f a0_1 a0_2 60).bind fun t104 => (if t104 = true then (rasp_Check.j0 k (decide ((l0_3.length : Int) ≤ 6)) l0_0 a0_1 a0_2 l0_3) else (rasp_Check.j0 k false l0_0 a0_1 a0_2 l0_3))) else (rasp_Check.j0 k false l0_0 a0_1 a0_2 l0_3))) = some r := h
 clear h
 have HC2 := Aside0.mk H
 clear H
 go_enter Tryd.func18, Tryd.ntmps18
 go_upto_region 1 with (first | ((with_reducible refine gate_dst (N := 1) rfl ?_); (try (refine gate_guard (by rfl) ?_; dsimp only)); refine box_event ?hg (N := 1) ?hd (cs := #[.slice A0_0 l0_0.length c0_0, .int .i64 a0_1, .int .i64 a0_2, .slice A0_3 l0_3.length c0_3]) (t := 27) ?hr ?_; (case hd => rfl); (case hg => rfl); (case hr => exact TS); intro gb102 hg w3 hbox hb; have BK102 := Aside0.mk (hbox); have GW102 := Aside0.mk ((TG : w.heap.size ≤ gb102)); have GE102 := Aside0.mk ((TG : w.heap.size ≤ gb102)); replace HB := Aside0.mk (below_step TB hb); clear hb hbox hg))
 (try simp only [Act.put, lA, lZ, lS])
 go_cut [3] (fun v3 wc => ∃ (kq : Nat) (x3_1 : Bool), v3 = .bool x3_1 ∧ Aside0 (rasp_Check.j0 kq x3_1 l0_0 a0_1 a0_2 l0_3 = some r) ∧ Aside0 (kq ≤ k) ∧ Aside0 (wc.heap[gb102]? = some (.cells #[(.slice A0_0 l0_0.length c0_0), .int .i64 a0_1, .int .i64 a0_2, (.slice A0_3 l0_3.length c0_3)] 27 (0, 0))) ∧ Aside0 (Below w.heap.size w wc))
 case first =>
  have H := HC2.out
  clear HC2
  replace H := Option.bind_eq_some_iff.mp H
  obtain ⟨t103, A40, H⟩ := H
  replace H : (if t103 = true then ((rasp_isSpan.f a0_1 a0_2 60).bind fun t104 => (if t104 = true then (rasp_Check.j0 k (decide ((l0_3.length : Int) ≤ 6)) l0_0 a0_1 a0_2 l0_3) else (rasp_Check.j0 k false l0_0 a0_1 a0_2 l0_3))) else (rasp_Check.j0 k false l0_0 a0_1 a0_2 l0_3)) = some r := H
  have A4 := Aside0.mk A40
  clear A40
  by_cases c5 : t103 = true
  ·subst c5
   have H1 : ((rasp_isSpan.f a0_1 a0_2 60).bind fun t104 => (if t104 = true then (rasp_Check.j0 k (decide ((l0_3.length : Int) ≤ 6)) l0_0 a0_1 a0_2 l0_3) else (rasp_Check.j0 k false l0_0 a0_1 a0_2 l0_3))) = some r := by rw [if_pos rfl] at H; exact H
   clear H
   have H := H1
   clear H1
   replace H := Option.bind_eq_some_iff.mp H
   obtain ⟨t104, A60, H⟩ := H
   replace H : (if t104 = true then (rasp_Check.j0 k (decide ((l0_3.length : Int) ≤ 6)) l0_0 a0_1 a0_2 l0_3) else (rasp_Check.j0 k false l0_0 a0_1 a0_2 l0_3)) = some r := H
   have A6 := Aside0.mk A60
   clear A60
   by_cases c7 : t104 = true
   ·subst c7
    have H1 : (rasp_Check.j0 k (decide ((l0_3.length : Int) ≤ 6)) l0_0 a0_1 a0_2 l0_3) = some r := by rw [if_pos rfl] at H; exact H
    clear H
    have H := H1
    clear H1
    have H' := Aside0.mk H
    clear H
    have hcz8_0 := cz BK102.out 0
    have hcz8_1 := cz BK102.out 1
    have hcz8_2 := cz BK102.out 2
    have hcz8_3 := cz BK102.out 3
    have hfz8_0 := fz BK102.out 0
    have hfz8_1 := fz BK102.out 1
    have hfz8_2 := fz BK102.out 2
    have hfz8_3 := fz BK102.out 3
    go_wp2_with (first | ((with_reducible refine gate_callee (f := 58) rfl ?_); refine goesL_ (some 11) rfl rfl Tryd.func58 (by kernel_rfl) rfl #[.int .i64 (l0_0.length : Int), .int .i64 1, .int .i64 4] rfl TM ?_; (with_reducible refine (rasp_lies.calls (l0_0.length : Int) 1 4 true _ A4.out).mono ?_); rintro e w' ⟨rfl, ⟨nd, rfl⟩⟩; refine ⟨_, rfl, ?_⟩) | (go_at_call 59; (with_reducible refine (rasp_isSpan.calls a0_1 a0_2 60 true _ A6.out).mono ?_); rintro e w9 ⟨rfl, hb⟩; replace BK102 := Aside0.mk (TKb hb BK102.out); replace HB := Aside0.mk (below_step (TB1 GE102.out) hb); (try clear hb); (try clear hb2); (try clear hk); (try clear hi); have hcz10_0 := cz BK102.out 0; have hcz10_1 := cz BK102.out 1; have hcz10_2 := cz BK102.out 2; have hcz10_3 := cz BK102.out 3; have hfz10_0 := fz BK102.out 0; have hfz10_1 := fz BK102.out 1; have hfz10_2 := fz BK102.out 2; have hfz10_3 := fz BK102.out 3))
    go_meet
    case rel => exact ⟨_, (decide ((l0_3.length : Int) ≤ 6)), TT, H', ⟨by first | omega | exact Nat.le_refl _⟩, ⟨TK BK102.out⟩, ⟨TB1 GE102.out⟩⟩
   ·replace c7 := Bool.eq_false_iff.mpr c7
    subst c7
    have H1 : (rasp_Check.j0 k false l0_0 a0_1 a0_2 l0_3) = some r := by rw [if_neg (show ¬ (false = true) by decide)] at H; exact H
    clear H
    have H := H1
    clear H1
    have H' := Aside0.mk H
    clear H
    have hcz11_0 := cz BK102.out 0
    have hcz11_1 := cz BK102.out 1
    have hcz11_2 := cz BK102.out 2
    have hcz11_3 := cz BK102.out 3
    have hfz11_0 := fz BK102.out 0
    have hfz11_1 := fz BK102.out 1
    have hfz11_2 := fz BK102.out 2
    have hfz11_3 := fz BK102.out 3
    go_wp2_with (first | ((with_reducible refine gate_callee (f := 58) rfl ?_); refine goesL_ (some 11) rfl rfl Tryd.func58 (by kernel_rfl) rfl #[.int .i64 (l0_0.length : Int), .int .i64 1, .int .i64 4] rfl TM ?_; (with_reducible refine (rasp_lies.calls (l0_0.length : Int) 1 4 true _ A4.out).mono ?_); rintro e w' ⟨rfl, ⟨nd, rfl⟩⟩; refine ⟨_, rfl, ?_⟩) | (go_at_call 59; (with_reducible refine (rasp_isSpan.calls a0_1 a0_2 60 false _ A6.out).mono ?_); rintro e w12 ⟨rfl, hb⟩; replace BK102 := Aside0.mk (TKb hb BK102.out); replace HB := Aside0.mk (below_step (TB1 GE102.out) hb); (try clear hb); (try clear hb2); (try clear hk); (try clear hi)))
    go_meet
    case rel => exact ⟨_, (false), TT, H', ⟨by first | omega | exact Nat.le_refl _⟩, ⟨TK BK102.out⟩, ⟨TB1 GE102.out⟩⟩
  ·replace c5 := Bool.eq_false_iff.mpr c5
   subst c5
   have H1 : (rasp_Check.j0 k false l0_0 a0_1 a0_2 l0_3) = some r := by rw [if_neg (show ¬ (false = true) by decide)] at H; exact H
   clear H
   have H := H1
   clear H1
   have H' := Aside0.mk H
   clear H
   have hcz13_0 := cz BK102.out 0
   have hcz13_1 := cz BK102.out 1
   have hcz13_2 := cz BK102.out 2
   have hcz13_3 := cz BK102.out 3
   have hfz13_0 := fz BK102.out 0
   have hfz13_1 := fz BK102.out 1
   have hfz13_2 := fz BK102.out 2
   have hfz13_3 := fz BK102.out 3
   go_wp2_with (first | ((with_reducible refine gate_callee (f := 58) rfl ?_); refine goesL_ (some 11) rfl rfl Tryd.func58 (by kernel_rfl) rfl #[.int .i64 (l0_0.length : Int), .int .i64 1, .int .i64 4] rfl TM ?_; (with_reducible refine (rasp_lies.calls (l0_0.length : Int) 1 4 false _ A4.out).mono ?_); rintro e w' ⟨rfl, ⟨nd, rfl⟩⟩; refine ⟨_, rfl, ?_⟩))
   go_meet
   case rel => exact ⟨_, (false), TT, H', ⟨by first | omega | exact Nat.le_refl _⟩, ⟨TK BK102.out⟩, ⟨TB1 GE102.out⟩⟩
 case rest =>
  clear HC2
  try clear c1
  try clear p2
  try clear c5
  try clear c7
  try clear hcz10_0 hcz10_1 hcz10_2 hcz10_3
  try clear hcz11_0 hcz11_1 hcz11_2 hcz11_3
  try clear hcz13_0 hcz13_1 hcz13_2 hcz13_3
  try clear hcz8_0 hcz8_1 hcz8_2 hcz8_3
  try clear hfz10_0 hfz10_1 hfz10_2 hfz10_3
  try clear hfz11_0 hfz11_1 hfz11_2 hfz11_3
  try clear hfz13_0 hfz13_1 hfz13_2 hfz13_3
  try clear hfz8_0 hfz8_1 hfz8_2 hfz8_3
  obtain ⟨kq, x3_1, rfl, HA, HJ1, BK102, HB⟩ := hcut
  cases kq with
  | zero => exact absurd HA.out (by simp [rasp_Check.j0])
  | succ kj1 =>
   have H := HA.out
   clear HA
   simp only [rasp_Check.j0] at H
   have H' := Aside0.mk H
   clear H
   have hcz14_0 := cz BK102.out 0
   have hcz14_1 := cz BK102.out 1
   have hcz14_2 := cz BK102.out 2
   have hcz14_3 := cz BK102.out 3
   have hfz14_0 := fz BK102.out 0
   have hfz14_1 := fz BK102.out 1
   have hfz14_2 := fz BK102.out 2
   have hfz14_3 := fz BK102.out 3
   go_wp2
   go_loopg [3, 26] kj1 (fun kq v3 v26 w' => ∃ (x3_2 : Bool) (x26_2 : Int), v3 = .bool x3_2 ∧ v26 = .int .i64 x26_2 ∧ Aside0 (rasp_Check.l0 kq x3_2 l0_0 (l0_0.length : Int) x26_2 l0_0 a0_1 a0_2 l0_3 = some r) ∧ Aside0 (kq ≤ kj1) ∧ Aside0 (w'.heap[gb102]? = some (.cells #[(.slice A0_0 l0_0.length c0_0), .int .i64 a0_1, .int .i64 a0_2, (.slice A0_3 l0_3.length c0_3)] 27 (0, 0))) ∧ Aside0 (Below w.heap.size w w'))
   case atStart => exact ⟨(x3_1), (0), TT, TT, H', ⟨Nat.le_refl _⟩, ⟨TK BK102.out⟩, ⟨TB1 GE102.out⟩⟩
   case round =>
    clear H'
    try clear c1
    try clear p2
    try clear c5
    try clear c7
    try clear hcz10_0 hcz10_1 hcz10_2 hcz10_3
    try clear hcz11_0 hcz11_1 hcz11_2 hcz11_3
    try clear hcz13_0 hcz13_1 hcz13_2 hcz13_3
    try clear hcz14_0 hcz14_1 hcz14_2 hcz14_3
    try clear hcz8_0 hcz8_1 hcz8_2 hcz8_3
    try clear hfz10_0 hfz10_1 hfz10_2 hfz10_3
    try clear hfz11_0 hfz11_1 hfz11_2 hfz11_3
    try clear hfz13_0 hfz13_1 hfz13_2 hfz13_3
    try clear hfz14_0 hfz14_1 hfz14_2 hfz14_3
    try clear hfz8_0 hfz8_1 hfz8_2 hfz8_3
    try clear p2
    obtain ⟨x3_2, x26_2, rfl, rfl, HA, HK2, BK102, HB⟩ := hrel
    cases gk with
    | zero => exact absurd HA.out (by simp [rasp_Check.l0])
    | succ k2 =>
     have H := HA.out
     clear HA
     simp only [rasp_Check.l0] at H
     by_cases c15 : x26_2 < (l0_0.length : Int)
     ·rw [if_pos c15] at H
      have c15b0 : decide (x26_2 < (l0_0.length : Int)) = true := decide_eq_true c15
      clear c15
      by_cases c16 : 0 ≤ x26_2
      ·rw [if_pos c16] at H
       have c16b0 : decide (0 ≤ x26_2) = true := decide_eq_true c16
       clear c16
       by_cases c17 : x26_2 < (l0_0.length : Int)
       ·rw [if_pos c17] at H
        have c17b0 : decide (x26_2 < (l0_0.length : Int)) = true := decide_eq_true c17
        clear c17
        by_cases c18 : x3_2 = true
        ·subst c18
         have H1 : ((rasp_isSpan.f ((rd_T57 l0_0 x26_2).f0.f0) ((rd_T57 l0_0 x26_2).f0.f1) 30).bind fun t107 => (if t107 = true then ((rasp_lies.f ((rd_T57 l0_0 x26_2).f1) 1 10).bind fun t108 => (rasp_Check.l0 k2 t108 l0_0 (l0_0.length : Int) (wrap64 (x26_2 + 1)) l0_0 a0_1 a0_2 l0_3)) else (rasp_Check.l0 k2 false l0_0 (l0_0.length : Int) (wrap64 (x26_2 + 1)) l0_0 a0_1 a0_2 l0_3))) = some r := by rw [if_pos rfl] at H; exact H
         clear H
         have H := H1
         clear H1
         replace H := Option.bind_eq_some_iff.mp H
         obtain ⟨t107, A190, H⟩ := H
         replace H : (if t107 = true then ((rasp_lies.f ((rd_T57 l0_0 x26_2).f1) 1 10).bind fun t108 => (rasp_Check.l0 k2 t108 l0_0 (l0_0.length : Int) (wrap64 (x26_2 + 1)) l0_0 a0_1 a0_2 l0_3)) else (rasp_Check.l0 k2 false l0_0 (l0_0.length : Int) (wrap64 (x26_2 + 1)) l0_0 a0_1 a0_2 l0_3)) = some r := H
         have A19 := Aside0.mk A190
         clear A190
         by_cases c20 : t107 = true
         ·subst c20
          have H1 : ((rasp_lies.f ((rd_T57 l0_0 x26_2).f1) 1 10).bind fun t108 => (rasp_Check.l0 k2 t108 l0_0 (l0_0.length : Int) (wrap64 (x26_2 + 1)) l0_0 a0_1 a0_2 l0_3)) = some r := by rw [if_pos rfl] at H; exact H
          clear H
          have H := H1
          clear H1
          replace H := Option.bind_eq_some_iff.mp H
          obtain ⟨t108, A210, H⟩ := H
          replace H : (rasp_Check.l0 k2 t108 l0_0 (l0_0.length : Int) (wrap64 (x26_2 + 1)) l0_0 a0_1 a0_2 l0_3) = some r := H
          have A21 := Aside0.mk A210
          clear A210
          have H' := Aside0.mk H
          clear H
          have p105 : 0 ≤ (x26_2 : Int) := of_decide_eq_true TA
          have q105 : x26_2 < (l0_0.length : Int) := of_decide_eq_true TA
          obtain ⟨ad105, e105, hx105_0, hx105_1, hx105_2⟩ := at_T57 HR0_0.out x26_2 p105 q105
          cases e105
          replace hx105_0 := hx HB.out hx105_0
          replace hx105_1 := hx HB.out hx105_1
          replace hx105_2 := hx HB.out hx105_2
          replace p105 := eq_true p105
          replace q105 := eq_true q105
          go_wp2_with (first | ((with_reducible refine gate_dst (N := 5) rfl ?_); (try (refine gate_guard (by rfl) ?_; dsimp only)); refine box_event ?hg (N := 5) ?hd (cs := #[.int .i64 0, .int .i64 0, .int .i64 0]) (t := 57) ?hr ?_; (case hd => rfl); (case hg => rfl); (case hr => exact TS); intro gb106 hg w22 hbox hb; have BK106 := Aside0.mk (hbox); have GW106 := Aside0.mk ((TG1 GE102.out : w.heap.size ≤ gb106)); have GE106 := Aside0.mk ((TG1 GE102.out : w.heap.size ≤ gb106)); have NB102_106 := Aside0.mk ((by rw [hg]; exact Nat.ne_of_lt (blk_lt (g := gb102) (o := .cells #[.slice (some ad105) l0_0.length c0_0, .int .i64 a0_1, .int .i64 a0_2, .slice A0_3 l0_3.length c0_3] 27 (0, 0)) (TK BK102.out)) : gb102 ≠ gb106)); have NB106_102 := Aside0.mk ((by rw [hg]; exact Nat.ne_of_gt (blk_lt (g := gb102) (o := .cells #[.slice (some ad105) l0_0.length c0_0, .int .i64 a0_1, .int .i64 a0_2, .slice A0_3 l0_3.length c0_3] 27 (0, 0)) (TK BK102.out)) : gb106 ≠ gb102)); replace BK102 := Aside0.mk (TKb hb BK102.out); replace HB := Aside0.mk (below_step (TB1 GE102.out) hb); clear hb hbox hg; have hnb23 := NB106_102.out; have hnc23 := NB102_106.out; have hcz24_0 := cz BK106.out 0; have hcz24_1 := cz BK106.out 1; have hcz24_2 := cz BK106.out 2; have hfz24_0 := fz BK106.out 0; have hfz24_1 := fz BK106.out 1; have hfz24_2 := fz BK106.out 2) | (go_at_call 59; (with_reducible refine (rasp_isSpan.calls ((rd_T57 l0_0 x26_2).f0.f0) ((rd_T57 l0_0 x26_2).f0.f1) 30 true _ A19.out).mono ?_); rintro e w25 ⟨rfl, hb⟩; replace BK102 := Aside0.mk (blk_below (g := gb102) (o := .cells #[.slice (some ad105) l0_0.length c0_0, .int .i64 a0_1, .int .i64 a0_2, .slice A0_3 l0_3.length c0_3] 27 (0, 0)) (by (with_reducible repeat (first | refine blk_drewN ?_ _ | refine blk_drew ?_ | refine blk_alloc ?_ _)); refine blk_far ?_ NB102_106.out _; (with_reducible repeat (first | refine blk_drewN ?_ _ | refine blk_drew ?_ | refine blk_alloc ?_ _)); refine blk_far ?_ NB102_106.out _; (with_reducible repeat (first | refine blk_drewN ?_ _ | refine blk_drew ?_ | refine blk_alloc ?_ _)); refine blk_far ?_ NB102_106.out _; (with_reducible repeat (first | refine blk_drewN ?_ _ | refine blk_drew ?_ | refine blk_alloc ?_ _)); exact BK102.out) hb); replace BK106 := Aside0.mk (blk_below (g := gb106) (o := .cells #[.int .i64 ((rd_T57 l0_0 x26_2).f0.f0), .int .i64 ((rd_T57 l0_0 x26_2).f0.f1), .int .i64 ((rd_T57 l0_0 x26_2).f1)] 57 (0, 0)) (by (with_reducible repeat (first | refine blk_drewN ?_ _ | refine blk_drew ?_ | refine blk_alloc ?_ _)); refine blk_put (cs := #[.int .i64 ((rd_T57 l0_0 x26_2).f0.f0), .int .i64 ((rd_T57 l0_0 x26_2).f0.f1), .int .i64 0]) ?_ 2 _ rfl; (with_reducible repeat (first | refine blk_drewN ?_ _ | refine blk_drew ?_ | refine blk_alloc ?_ _)); refine blk_put (cs := #[.int .i64 ((rd_T57 l0_0 x26_2).f0.f0), .int .i64 0, .int .i64 0]) ?_ 1 _ rfl; (with_reducible repeat (first | refine blk_drewN ?_ _ | refine blk_drew ?_ | refine blk_alloc ?_ _)); refine blk_put (cs := #[.int .i64 0, .int .i64 0, .int .i64 0]) ?_ 0 _ rfl; (with_reducible repeat (first | refine blk_drewN ?_ _ | refine blk_drew ?_ | refine blk_alloc ?_ _)); exact BK106.out) hb); replace HB := Aside0.mk (below_step (TB2 GE102.out GE106.out) hb); (try clear hb); (try clear hb2); (try clear hk); (try clear hi); have hcz26_0 := cz BK106.out 0; have hcz26_1 := cz BK106.out 1; have hcz26_2 := cz BK106.out 2; have hfz26_0 := fz BK106.out 0; have hfz26_1 := fz BK106.out 1; have hfz26_2 := fz BK106.out 2) | (go_at_call 58; (with_reducible refine (rasp_lies.calls ((rd_T57 l0_0 x26_2).f1) 1 10 t108 _ A21.out).mono ?_); rintro e w' ⟨rfl, ⟨nd, rfl⟩⟩))
          go_roundg k2
          case measure => have := HJ1.out; have := HK2.out; omega
          case rel => exact ⟨(t108), (wrap64 (x26_2 + 1)), TT, TT, H', ⟨by have := HJ1.out; have := HK2.out; omega⟩, ⟨TK BK102.out⟩, ⟨TB2 GE102.out GE106.out⟩⟩
         ·replace c20 := Bool.eq_false_iff.mpr c20
          subst c20
          have H1 : (rasp_Check.l0 k2 false l0_0 (l0_0.length : Int) (wrap64 (x26_2 + 1)) l0_0 a0_1 a0_2 l0_3) = some r := by rw [if_neg (show ¬ (false = true) by decide)] at H; exact H
          clear H
          have H := H1
          clear H1
          have H' := Aside0.mk H
          clear H
          have p105 : 0 ≤ (x26_2 : Int) := of_decide_eq_true TA
          have q105 : x26_2 < (l0_0.length : Int) := of_decide_eq_true TA
          obtain ⟨ad105, e105, hx105_0, hx105_1, hx105_2⟩ := at_T57 HR0_0.out x26_2 p105 q105
          cases e105
          replace hx105_0 := hx HB.out hx105_0
          replace hx105_1 := hx HB.out hx105_1
          replace hx105_2 := hx HB.out hx105_2
          replace p105 := eq_true p105
          replace q105 := eq_true q105
          go_wp2_with (first | ((with_reducible refine gate_dst (N := 5) rfl ?_); (try (refine gate_guard (by rfl) ?_; dsimp only)); refine box_event ?hg (N := 5) ?hd (cs := #[.int .i64 0, .int .i64 0, .int .i64 0]) (t := 57) ?hr ?_; (case hd => rfl); (case hg => rfl); (case hr => exact TS); intro gb106 hg w27 hbox hb; have BK106 := Aside0.mk (hbox); have GW106 := Aside0.mk ((TG1 GE102.out : w.heap.size ≤ gb106)); have GE106 := Aside0.mk ((TG1 GE102.out : w.heap.size ≤ gb106)); have NB102_106 := Aside0.mk ((by rw [hg]; exact Nat.ne_of_lt (blk_lt (g := gb102) (o := .cells #[.slice (some ad105) l0_0.length c0_0, .int .i64 a0_1, .int .i64 a0_2, .slice A0_3 l0_3.length c0_3] 27 (0, 0)) (TK BK102.out)) : gb102 ≠ gb106)); have NB106_102 := Aside0.mk ((by rw [hg]; exact Nat.ne_of_gt (blk_lt (g := gb102) (o := .cells #[.slice (some ad105) l0_0.length c0_0, .int .i64 a0_1, .int .i64 a0_2, .slice A0_3 l0_3.length c0_3] 27 (0, 0)) (TK BK102.out)) : gb106 ≠ gb102)); replace BK102 := Aside0.mk (TKb hb BK102.out); replace HB := Aside0.mk (below_step (TB1 GE102.out) hb); clear hb hbox hg; have hnb28 := NB106_102.out; have hnc28 := NB102_106.out; have hcz29_0 := cz BK106.out 0; have hcz29_1 := cz BK106.out 1; have hcz29_2 := cz BK106.out 2; have hfz29_0 := fz BK106.out 0; have hfz29_1 := fz BK106.out 1; have hfz29_2 := fz BK106.out 2) | (go_at_call 59; (with_reducible refine (rasp_isSpan.calls ((rd_T57 l0_0 x26_2).f0.f0) ((rd_T57 l0_0 x26_2).f0.f1) 30 false _ A19.out).mono ?_); rintro e w30 ⟨rfl, hb⟩; replace BK102 := Aside0.mk (blk_below (g := gb102) (o := .cells #[.slice (some ad105) l0_0.length c0_0, .int .i64 a0_1, .int .i64 a0_2, .slice A0_3 l0_3.length c0_3] 27 (0, 0)) (by (with_reducible repeat (first | refine blk_drewN ?_ _ | refine blk_drew ?_ | refine blk_alloc ?_ _)); refine blk_far ?_ NB102_106.out _; (with_reducible repeat (first | refine blk_drewN ?_ _ | refine blk_drew ?_ | refine blk_alloc ?_ _)); refine blk_far ?_ NB102_106.out _; (with_reducible repeat (first | refine blk_drewN ?_ _ | refine blk_drew ?_ | refine blk_alloc ?_ _)); refine blk_far ?_ NB102_106.out _; (with_reducible repeat (first | refine blk_drewN ?_ _ | refine blk_drew ?_ | refine blk_alloc ?_ _)); exact BK102.out) hb); replace BK106 := Aside0.mk (blk_below (g := gb106) (o := .cells #[.int .i64 ((rd_T57 l0_0 x26_2).f0.f0), .int .i64 ((rd_T57 l0_0 x26_2).f0.f1), .int .i64 ((rd_T57 l0_0 x26_2).f1)] 57 (0, 0)) (by (with_reducible repeat (first | refine blk_drewN ?_ _ | refine blk_drew ?_ | refine blk_alloc ?_ _)); refine blk_put (cs := #[.int .i64 ((rd_T57 l0_0 x26_2).f0.f0), .int .i64 ((rd_T57 l0_0 x26_2).f0.f1), .int .i64 0]) ?_ 2 _ rfl; (with_reducible repeat (first | refine blk_drewN ?_ _ | refine blk_drew ?_ | refine blk_alloc ?_ _)); refine blk_put (cs := #[.int .i64 ((rd_T57 l0_0 x26_2).f0.f0), .int .i64 0, .int .i64 0]) ?_ 1 _ rfl; (with_reducible repeat (first | refine blk_drewN ?_ _ | refine blk_drew ?_ | refine blk_alloc ?_ _)); refine blk_put (cs := #[.int .i64 0, .int .i64 0, .int .i64 0]) ?_ 0 _ rfl; (with_reducible repeat (first | refine blk_drewN ?_ _ | refine blk_drew ?_ | refine blk_alloc ?_ _)); exact BK106.out) hb); replace HB := Aside0.mk (below_step (TB2 GE102.out GE106.out) hb); (try clear hb); (try clear hb2); (try clear hk); (try clear hi)))
          go_roundg k2
          case measure => have := HJ1.out; have := HK2.out; omega
          case rel => exact ⟨(false), (wrap64 (x26_2 + 1)), TT, TT, H', ⟨by have := HJ1.out; have := HK2.out; omega⟩, ⟨TK BK102.out⟩, ⟨TB2 GE102.out GE106.out⟩⟩
        ·replace c18 := Bool.eq_false_iff.mpr c18
         subst c18
         have H1 : (rasp_Check.l0 k2 false l0_0 (l0_0.length : Int) (wrap64 (x26_2 + 1)) l0_0 a0_1 a0_2 l0_3) = some r := by rw [if_neg (show ¬ (false = true) by decide)] at H; exact H
         clear H
         have H := H1
         clear H1
         have H' := Aside0.mk H
         clear H
         have p105 : 0 ≤ (x26_2 : Int) := of_decide_eq_true TA
         have q105 : x26_2 < (l0_0.length : Int) := of_decide_eq_true TA
         obtain ⟨ad105, e105, hx105_0, hx105_1, hx105_2⟩ := at_T57 HR0_0.out x26_2 p105 q105
         cases e105
         replace hx105_0 := hx HB.out hx105_0
         replace hx105_1 := hx HB.out hx105_1
         replace hx105_2 := hx HB.out hx105_2
         replace p105 := eq_true p105
         replace q105 := eq_true q105
         go_wp2_with (first | ((with_reducible refine gate_dst (N := 5) rfl ?_); (try (refine gate_guard (by rfl) ?_; dsimp only)); refine box_event ?hg (N := 5) ?hd (cs := #[.int .i64 0, .int .i64 0, .int .i64 0]) (t := 57) ?hr ?_; (case hd => rfl); (case hg => rfl); (case hr => exact TS); intro gb106 hg w31 hbox hb; have BK106 := Aside0.mk (hbox); have GW106 := Aside0.mk ((TG1 GE102.out : w.heap.size ≤ gb106)); have GE106 := Aside0.mk ((TG1 GE102.out : w.heap.size ≤ gb106)); have NB102_106 := Aside0.mk ((by rw [hg]; exact Nat.ne_of_lt (blk_lt (g := gb102) (o := .cells #[.slice (some ad105) l0_0.length c0_0, .int .i64 a0_1, .int .i64 a0_2, .slice A0_3 l0_3.length c0_3] 27 (0, 0)) (TK BK102.out)) : gb102 ≠ gb106)); have NB106_102 := Aside0.mk ((by rw [hg]; exact Nat.ne_of_gt (blk_lt (g := gb102) (o := .cells #[.slice (some ad105) l0_0.length c0_0, .int .i64 a0_1, .int .i64 a0_2, .slice A0_3 l0_3.length c0_3] 27 (0, 0)) (TK BK102.out)) : gb106 ≠ gb102)); replace BK102 := Aside0.mk (TKb hb BK102.out); replace HB := Aside0.mk (below_step (TB1 GE102.out) hb); clear hb hbox hg; have hnb32 := NB106_102.out; have hnc32 := NB102_106.out; have hcz33_0 := cz BK106.out 0; have hcz33_1 := cz BK106.out 1; have hcz33_2 := cz BK106.out 2; have hfz33_0 := fz BK106.out 0; have hfz33_1 := fz BK106.out 1; have hfz33_2 := fz BK106.out 2))
         go_roundg k2
         case measure => have := HJ1.out; have := HK2.out; omega
         case rel => exact ⟨(false), (wrap64 (x26_2 + 1)), TT, TT, H', ⟨by have := HJ1.out; have := HK2.out; omega⟩, ⟨by (with_reducible repeat (first | refine blk_drewN ?_ _ | refine blk_drew ?_ | refine blk_alloc ?_ _)); refine blk_far ?_ NB102_106.out _; (with_reducible repeat (first | refine blk_drewN ?_ _ | refine blk_drew ?_ | refine blk_alloc ?_ _)); refine blk_far ?_ NB102_106.out _; (with_reducible repeat (first | refine blk_drewN ?_ _ | refine blk_drew ?_ | refine blk_alloc ?_ _)); refine blk_far ?_ NB102_106.out _; (with_reducible repeat (first | refine blk_drewN ?_ _ | refine blk_drew ?_ | refine blk_alloc ?_ _)); exact BK102.out⟩, ⟨TB2 GE102.out GE106.out⟩⟩
       ·rw [if_neg c17] at H
        exact absurd H (by simp)
      ·rw [if_neg c16] at H
       exact absurd H (by simp)
     ·rw [if_neg c15] at H
      have c15b0 : decide (x26_2 < (l0_0.length : Int)) = false := decide_eq_false c15
      clear c15
      have H' := Aside0.mk H
      clear H
      have hcz34_0 := cz BK102.out 0
      have hcz34_1 := cz BK102.out 1
      have hcz34_2 := cz BK102.out 2
      have hcz34_3 := cz BK102.out 3
      have hfz34_0 := fz BK102.out 0
      have hfz34_1 := fz BK102.out 1
      have hfz34_2 := fz BK102.out 2
      have hfz34_3 := fz BK102.out 3
      go_wp2
      go_loopg [3, 45] k2 (fun kq v3 v45 w' => ∃ (x3_3 : Bool) (x45_3 : Int), v3 = .bool x3_3 ∧ v45 = .int .i64 x45_3 ∧ Aside0 (rasp_Check.l1 kq x3_3 l0_3 (l0_3.length : Int) x45_3 = some r) ∧ Aside0 (kq ≤ k2) ∧ Aside0 (w'.heap[gb102]? = some (.cells #[(.slice A0_0 l0_0.length c0_0), .int .i64 a0_1, .int .i64 a0_2, (.slice A0_3 l0_3.length c0_3)] 27 (0, 0))) ∧ Aside0 (Below w.heap.size w w'))
      case atStart => exact ⟨(x3_2), (0), TT, TT, H', ⟨Nat.le_refl _⟩, ⟨TK BK102.out⟩, ⟨TB1 GE102.out⟩⟩
      case round =>
       clear H'
       try clear c1
       try clear p1
       try clear q1
       try clear hx1
       try clear c2
       try clear p2
       try clear c3
       try clear c5
       try clear p6
       try clear c7
       try clear p10
       try clear q10
       try clear hx10
       try clear c15
       try clear c15b0
       try clear c16
       try clear c16b0
       try clear c17
       try clear c17b0
       try clear c18
       try clear c20
       try clear c23
       try clear c28
       try clear c32
       try clear hcz10_0 hcz10_1 hcz10_2 hcz10_3
       try clear hcz11_0 hcz11_1 hcz11_2 hcz11_3
       try clear hcz13_0 hcz13_1 hcz13_2 hcz13_3
       try clear hcz14_0 hcz14_1 hcz14_2 hcz14_3
       try clear hcz24_0 hcz24_1 hcz24_2
       try clear hcz26_0 hcz26_1 hcz26_2
       try clear hcz29_0 hcz29_1 hcz29_2
       try clear hcz33_0 hcz33_1 hcz33_2
       try clear hcz34_0 hcz34_1 hcz34_2 hcz34_3
       try clear hcz8_0 hcz8_1 hcz8_2 hcz8_3
       try clear hfz10_0 hfz10_1 hfz10_2 hfz10_3
       try clear hfz11_0 hfz11_1 hfz11_2 hfz11_3
       try clear hfz13_0 hfz13_1 hfz13_2 hfz13_3
       try clear hfz14_0 hfz14_1 hfz14_2 hfz14_3
       try clear hfz24_0 hfz24_1 hfz24_2
       try clear hfz26_0 hfz26_1 hfz26_2
       try clear hfz29_0 hfz29_1 hfz29_2
       try clear hfz33_0 hfz33_1 hfz33_2
       try clear hfz34_0 hfz34_1 hfz34_2 hfz34_3
       try clear hfz8_0 hfz8_1 hfz8_2 hfz8_3
       try clear hx105_0
       try clear hx105_1
       try clear hx105_2
       try clear p105
       try clear p2
       try clear q105
       obtain ⟨x3_3, x45_3, rfl, rfl, HA, HK3, BK102, HB⟩ := hrel
       cases gk with
       | zero => exact absurd HA.out (by simp [rasp_Check.l1])
       | succ k3 =>
        have H := HA.out
        clear HA
        simp only [rasp_Check.l1] at H
        by_cases c35 : x45_3 < (l0_3.length : Int)
        ·rw [if_pos c35] at H
         have c35b0 : decide (x45_3 < (l0_3.length : Int)) = true := decide_eq_true c35
         clear c35
         by_cases c36 : 0 ≤ x45_3
         ·rw [if_pos c36] at H
          have c36b0 : decide (0 ≤ x45_3) = true := decide_eq_true c36
          clear c36
          by_cases c37 : x45_3 < (l0_3.length : Int)
          ·rw [if_pos c37] at H
           have c37b0 : decide (x45_3 < (l0_3.length : Int)) = true := decide_eq_true c37
           clear c37
           by_cases c38 : x3_3 = true
           ·subst c38
            have H1 : ((rasp_isSpan.f ((rd_T69 l0_3 x45_3).f0.f0) ((rd_T69 l0_3 x45_3).f0.f1) 60).bind fun t111 => (if t111 = true then ((rasp_lies.f ((rd_T69 l0_3 x45_3).f1) 0 30).bind fun t112 => (rasp_Check.l1 k3 t112 l0_3 (l0_3.length : Int) (wrap64 (x45_3 + 1)))) else (rasp_Check.l1 k3 false l0_3 (l0_3.length : Int) (wrap64 (x45_3 + 1))))) = some r := by rw [if_pos rfl] at H; exact H
            clear H
            have H := H1
            clear H1
            replace H := Option.bind_eq_some_iff.mp H
            obtain ⟨t111, A390, H⟩ := H
            replace H : (if t111 = true then ((rasp_lies.f ((rd_T69 l0_3 x45_3).f1) 0 30).bind fun t112 => (rasp_Check.l1 k3 t112 l0_3 (l0_3.length : Int) (wrap64 (x45_3 + 1)))) else (rasp_Check.l1 k3 false l0_3 (l0_3.length : Int) (wrap64 (x45_3 + 1)))) = some r := H
            have A39 := Aside0.mk A390
            clear A390
            by_cases c40 : t111 = true
            ·subst c40
             have H1 : ((rasp_lies.f ((rd_T69 l0_3 x45_3).f1) 0 30).bind fun t112 => (rasp_Check.l1 k3 t112 l0_3 (l0_3.length : Int) (wrap64 (x45_3 + 1)))) = some r := by rw [if_pos rfl] at H; exact H
             clear H
             have H := H1
             clear H1
             replace H := Option.bind_eq_some_iff.mp H
             obtain ⟨t112, A410, H⟩ := H
             replace H : (rasp_Check.l1 k3 t112 l0_3 (l0_3.length : Int) (wrap64 (x45_3 + 1))) = some r := H
             have A41 := Aside0.mk A410
             clear A410
             have H' := Aside0.mk H
             clear H
             have p109 : 0 ≤ (x45_3 : Int) := of_decide_eq_true TA
             have q109 : x45_3 < (l0_3.length : Int) := of_decide_eq_true TA
             obtain ⟨ad109, e109, hx109_0, hx109_1, hx109_2⟩ := at_T69 HR0_3.out x45_3 p109 q109
             cases e109
             replace hx109_0 := hx HB.out hx109_0
             replace hx109_1 := hx HB.out hx109_1
             replace hx109_2 := hx HB.out hx109_2
             replace p109 := eq_true p109
             replace q109 := eq_true q109
             go_wp2_with (first | ((with_reducible refine gate_dst (N := 7) rfl ?_); (try (refine gate_guard (by rfl) ?_; dsimp only)); refine box_event ?hg (N := 7) ?hd (cs := #[.int .i64 0, .int .i64 0, .int .i64 0]) (t := 69) ?hr ?_; (case hd => rfl); (case hg => rfl); (case hr => exact TS); intro gb110 hg w42 hbox hb; have BK110 := Aside0.mk (hbox); have GW110 := Aside0.mk ((TG1 GE102.out : w.heap.size ≤ gb110)); have GE110 := Aside0.mk ((TG1 GE102.out : w.heap.size ≤ gb110)); have NB102_110 := Aside0.mk ((by rw [hg]; exact Nat.ne_of_lt (blk_lt (g := gb102) (o := .cells #[.slice A0_0 l0_0.length c0_0, .int .i64 a0_1, .int .i64 a0_2, .slice (some ad109) l0_3.length c0_3] 27 (0, 0)) (TK BK102.out)) : gb102 ≠ gb110)); have NB110_102 := Aside0.mk ((by rw [hg]; exact Nat.ne_of_gt (blk_lt (g := gb102) (o := .cells #[.slice A0_0 l0_0.length c0_0, .int .i64 a0_1, .int .i64 a0_2, .slice (some ad109) l0_3.length c0_3] 27 (0, 0)) (TK BK102.out)) : gb110 ≠ gb102)); replace BK102 := Aside0.mk (TKb hb BK102.out); replace HB := Aside0.mk (below_step (TB1 GE102.out) hb); clear hb hbox hg; have hnb43 := NB110_102.out; have hnc43 := NB102_110.out; have hcz44_0 := cz BK110.out 0; have hcz44_1 := cz BK110.out 1; have hcz44_2 := cz BK110.out 2; have hfz44_0 := fz BK110.out 0; have hfz44_1 := fz BK110.out 1; have hfz44_2 := fz BK110.out 2) | (go_at_call 59; (with_reducible refine (rasp_isSpan.calls ((rd_T69 l0_3 x45_3).f0.f0) ((rd_T69 l0_3 x45_3).f0.f1) 60 true _ A39.out).mono ?_); rintro e w45 ⟨rfl, hb⟩; replace BK102 := Aside0.mk (blk_below (g := gb102) (o := .cells #[.slice A0_0 l0_0.length c0_0, .int .i64 a0_1, .int .i64 a0_2, .slice (some ad109) l0_3.length c0_3] 27 (0, 0)) (by (with_reducible repeat (first | refine blk_drewN ?_ _ | refine blk_drew ?_ | refine blk_alloc ?_ _)); refine blk_far ?_ NB102_110.out _; (with_reducible repeat (first | refine blk_drewN ?_ _ | refine blk_drew ?_ | refine blk_alloc ?_ _)); refine blk_far ?_ NB102_110.out _; (with_reducible repeat (first | refine blk_drewN ?_ _ | refine blk_drew ?_ | refine blk_alloc ?_ _)); refine blk_far ?_ NB102_110.out _; (with_reducible repeat (first | refine blk_drewN ?_ _ | refine blk_drew ?_ | refine blk_alloc ?_ _)); exact BK102.out) hb); replace BK110 := Aside0.mk (blk_below (g := gb110) (o := .cells #[.int .i64 ((rd_T69 l0_3 x45_3).f0.f0), .int .i64 ((rd_T69 l0_3 x45_3).f0.f1), .int .i64 ((rd_T69 l0_3 x45_3).f1)] 69 (0, 0)) (by (with_reducible repeat (first | refine blk_drewN ?_ _ | refine blk_drew ?_ | refine blk_alloc ?_ _)); refine blk_put (cs := #[.int .i64 ((rd_T69 l0_3 x45_3).f0.f0), .int .i64 ((rd_T69 l0_3 x45_3).f0.f1), .int .i64 0]) ?_ 2 _ rfl; (with_reducible repeat (first | refine blk_drewN ?_ _ | refine blk_drew ?_ | refine blk_alloc ?_ _)); refine blk_put (cs := #[.int .i64 ((rd_T69 l0_3 x45_3).f0.f0), .int .i64 0, .int .i64 0]) ?_ 1 _ rfl; (with_reducible repeat (first | refine blk_drewN ?_ _ | refine blk_drew ?_ | refine blk_alloc ?_ _)); refine blk_put (cs := #[.int .i64 0, .int .i64 0, .int .i64 0]) ?_ 0 _ rfl; (with_reducible repeat (first | refine blk_drewN ?_ _ | refine blk_drew ?_ | refine blk_alloc ?_ _)); exact BK110.out) hb); replace HB := Aside0.mk (below_step (TB2 GE102.out GE110.out) hb); (try clear hb); (try clear hb2); (try clear hk); (try clear hi); have hcz46_0 := cz BK110.out 0; have hcz46_1 := cz BK110.out 1; have hcz46_2 := cz BK110.out 2; have hfz46_0 := fz BK110.out 0; have hfz46_1 := fz BK110.out 1; have hfz46_2 := fz BK110.out 2) | (go_at_call 58; (with_reducible refine (rasp_lies.calls ((rd_T69 l0_3 x45_3).f1) 0 30 t112 _ A41.out).mono ?_); rintro e w' ⟨rfl, ⟨nd, rfl⟩⟩))
             go_roundg k3
             case measure => have := HJ1.out; have := HK2.out; have := HK3.out; omega
             case rel => exact ⟨(t112), (wrap64 (x45_3 + 1)), TT, TT, H', ⟨by have := HJ1.out; have := HK2.out; have := HK3.out; omega⟩, ⟨TK BK102.out⟩, ⟨TB2 GE102.out GE110.out⟩⟩
            ·replace c40 := Bool.eq_false_iff.mpr c40
             subst c40
             have H1 : (rasp_Check.l1 k3 false l0_3 (l0_3.length : Int) (wrap64 (x45_3 + 1))) = some r := by rw [if_neg (show ¬ (false = true) by decide)] at H; exact H
             clear H
             have H := H1
             clear H1
             have H' := Aside0.mk H
             clear H
             have p109 : 0 ≤ (x45_3 : Int) := of_decide_eq_true TA
             have q109 : x45_3 < (l0_3.length : Int) := of_decide_eq_true TA
             obtain ⟨ad109, e109, hx109_0, hx109_1, hx109_2⟩ := at_T69 HR0_3.out x45_3 p109 q109
             cases e109
             replace hx109_0 := hx HB.out hx109_0
             replace hx109_1 := hx HB.out hx109_1
             replace hx109_2 := hx HB.out hx109_2
             replace p109 := eq_true p109
             replace q109 := eq_true q109
             go_wp2_with (first | ((with_reducible refine gate_dst (N := 7) rfl ?_); (try (refine gate_guard (by rfl) ?_; dsimp only)); refine box_event ?hg (N := 7) ?hd (cs := #[.int .i64 0, .int .i64 0, .int .i64 0]) (t := 69) ?hr ?_; (case hd => rfl); (case hg => rfl); (case hr => exact TS); intro gb110 hg w47 hbox hb; have BK110 := Aside0.mk (hbox); have GW110 := Aside0.mk ((TG1 GE102.out : w.heap.size ≤ gb110)); have GE110 := Aside0.mk ((TG1 GE102.out : w.heap.size ≤ gb110)); have NB102_110 := Aside0.mk ((by rw [hg]; exact Nat.ne_of_lt (blk_lt (g := gb102) (o := .cells #[.slice A0_0 l0_0.length c0_0, .int .i64 a0_1, .int .i64 a0_2, .slice (some ad109) l0_3.length c0_3] 27 (0, 0)) (TK BK102.out)) : gb102 ≠ gb110)); have NB110_102 := Aside0.mk ((by rw [hg]; exact Nat.ne_of_gt (blk_lt (g := gb102) (o := .cells #[.slice A0_0 l0_0.length c0_0, .int .i64 a0_1, .int .i64 a0_2, .slice (some ad109) l0_3.length c0_3] 27 (0, 0)) (TK BK102.out)) : gb110 ≠ gb102)); replace BK102 := Aside0.mk (TKb hb BK102.out); replace HB := Aside0.mk (below_step (TB1 GE102.out) hb); clear hb hbox hg; have hnb48 := NB110_102.out; have hnc48 := NB102_110.out; have hcz49_0 := cz BK110.out 0; have hcz49_1 := cz BK110.out 1; have hcz49_2 := cz BK110.out 2; have hfz49_0 := fz BK110.out 0; have hfz49_1 := fz BK110.out 1; have hfz49_2 := fz BK110.out 2) | (go_at_call 59; (with_reducible refine (rasp_isSpan.calls ((rd_T69 l0_3 x45_3).f0.f0) ((rd_T69 l0_3 x45_3).f0.f1) 60 false _ A39.out).mono ?_); rintro e w50 ⟨rfl, hb⟩; replace BK102 := Aside0.mk (blk_below (g := gb102) (o := .cells #[.slice A0_0 l0_0.length c0_0, .int .i64 a0_1, .int .i64 a0_2, .slice (some ad109) l0_3.length c0_3] 27 (0, 0)) (by (with_reducible repeat (first | refine blk_drewN ?_ _ | refine blk_drew ?_ | refine blk_alloc ?_ _)); refine blk_far ?_ NB102_110.out _; (with_reducible repeat (first | refine blk_drewN ?_ _ | refine blk_drew ?_ | refine blk_alloc ?_ _)); refine blk_far ?_ NB102_110.out _; (with_reducible repeat (first | refine blk_drewN ?_ _ | refine blk_drew ?_ | refine blk_alloc ?_ _)); refine blk_far ?_ NB102_110.out _; (with_reducible repeat (first | refine blk_drewN ?_ _ | refine blk_drew ?_ | refine blk_alloc ?_ _)); exact BK102.out) hb); replace BK110 := Aside0.mk (blk_below (g := gb110) (o := .cells #[.int .i64 ((rd_T69 l0_3 x45_3).f0.f0), .int .i64 ((rd_T69 l0_3 x45_3).f0.f1), .int .i64 ((rd_T69 l0_3 x45_3).f1)] 69 (0, 0)) (by (with_reducible repeat (first | refine blk_drewN ?_ _ | refine blk_drew ?_ | refine blk_alloc ?_ _)); refine blk_put (cs := #[.int .i64 ((rd_T69 l0_3 x45_3).f0.f0), .int .i64 ((rd_T69 l0_3 x45_3).f0.f1), .int .i64 0]) ?_ 2 _ rfl; (with_reducible repeat (first | refine blk_drewN ?_ _ | refine blk_drew ?_ | refine blk_alloc ?_ _)); refine blk_put (cs := #[.int .i64 ((rd_T69 l0_3 x45_3).f0.f0), .int .i64 0, .int .i64 0]) ?_ 1 _ rfl; (with_reducible repeat (first | refine blk_drewN ?_ _ | refine blk_drew ?_ | refine blk_alloc ?_ _)); refine blk_put (cs := #[.int .i64 0, .int .i64 0, .int .i64 0]) ?_ 0 _ rfl; (with_reducible repeat (first | refine blk_drewN ?_ _ | refine blk_drew ?_ | refine blk_alloc ?_ _)); exact BK110.out) hb); replace HB := Aside0.mk (below_step (TB2 GE102.out GE110.out) hb); (try clear hb); (try clear hb2); (try clear hk); (try clear hi)))
             go_roundg k3
             case measure => have := HJ1.out; have := HK2.out; have := HK3.out; omega
             case rel => exact ⟨(false), (wrap64 (x45_3 + 1)), TT, TT, H', ⟨by have := HJ1.out; have := HK2.out; have := HK3.out; omega⟩, ⟨TK BK102.out⟩, ⟨TB2 GE102.out GE110.out⟩⟩
           ·replace c38 := Bool.eq_false_iff.mpr c38
            subst c38
            have H1 : (rasp_Check.l1 k3 false l0_3 (l0_3.length : Int) (wrap64 (x45_3 + 1))) = some r := by rw [if_neg (show ¬ (false = true) by decide)] at H; exact H
            clear H
            have H := H1
            clear H1
            have H' := Aside0.mk H
            clear H
            have p109 : 0 ≤ (x45_3 : Int) := of_decide_eq_true TA
            have q109 : x45_3 < (l0_3.length : Int) := of_decide_eq_true TA
            obtain ⟨ad109, e109, hx109_0, hx109_1, hx109_2⟩ := at_T69 HR0_3.out x45_3 p109 q109
            cases e109
            replace hx109_0 := hx HB.out hx109_0
            replace hx109_1 := hx HB.out hx109_1
            replace hx109_2 := hx HB.out hx109_2
            replace p109 := eq_true p109
            replace q109 := eq_true q109
            go_wp2_with (first | ((with_reducible refine gate_dst (N := 7) rfl ?_); (try (refine gate_guard (by rfl) ?_; dsimp only)); refine box_event ?hg (N := 7) ?hd (cs := #[.int .i64 0, .int .i64 0, .int .i64 0]) (t := 69) ?hr ?_; (case hd => rfl); (case hg => rfl); (case hr => exact TS); intro gb110 hg w51 hbox hb; have BK110 := Aside0.mk (hbox); have GW110 := Aside0.mk ((TG1 GE102.out : w.heap.size ≤ gb110)); have GE110 := Aside0.mk ((TG1 GE102.out : w.heap.size ≤ gb110)); have NB102_110 := Aside0.mk ((by rw [hg]; exact Nat.ne_of_lt (blk_lt (g := gb102) (o := .cells #[.slice A0_0 l0_0.length c0_0, .int .i64 a0_1, .int .i64 a0_2, .slice (some ad109) l0_3.length c0_3] 27 (0, 0)) (TK BK102.out)) : gb102 ≠ gb110)); have NB110_102 := Aside0.mk ((by rw [hg]; exact Nat.ne_of_gt (blk_lt (g := gb102) (o := .cells #[.slice A0_0 l0_0.length c0_0, .int .i64 a0_1, .int .i64 a0_2, .slice (some ad109) l0_3.length c0_3] 27 (0, 0)) (TK BK102.out)) : gb110 ≠ gb102)); replace BK102 := Aside0.mk (TKb hb BK102.out); replace HB := Aside0.mk (below_step (TB1 GE102.out) hb); clear hb hbox hg; have hnb52 := NB110_102.out; have hnc52 := NB102_110.out; have hcz53_0 := cz BK110.out 0; have hcz53_1 := cz BK110.out 1; have hcz53_2 := cz BK110.out 2; have hfz53_0 := fz BK110.out 0; have hfz53_1 := fz BK110.out 1; have hfz53_2 := fz BK110.out 2))
            go_roundg k3
            case measure => have := HJ1.out; have := HK2.out; have := HK3.out; omega
            case rel => exact ⟨(false), (wrap64 (x45_3 + 1)), TT, TT, H', ⟨by have := HJ1.out; have := HK2.out; have := HK3.out; omega⟩, ⟨by (with_reducible repeat (first | refine blk_drewN ?_ _ | refine blk_drew ?_ | refine blk_alloc ?_ _)); refine blk_far ?_ NB102_110.out _; (with_reducible repeat (first | refine blk_drewN ?_ _ | refine blk_drew ?_ | refine blk_alloc ?_ _)); refine blk_far ?_ NB102_110.out _; (with_reducible repeat (first | refine blk_drewN ?_ _ | refine blk_drew ?_ | refine blk_alloc ?_ _)); refine blk_far ?_ NB102_110.out _; (with_reducible repeat (first | refine blk_drewN ?_ _ | refine blk_drew ?_ | refine blk_alloc ?_ _)); exact BK102.out⟩, ⟨TB2 GE102.out GE110.out⟩⟩
          ·rw [if_neg c37] at H
           exact absurd H (by simp)
         ·rw [if_neg c36] at H
          exact absurd H (by simp)
        ·rw [if_neg c35] at H
         have c35b0 : decide (x45_3 < (l0_3.length : Int)) = false := decide_eq_false c35
         clear c35
         by_cases c54 : x3_3 = true
         ·subst c54
          have H1 : (some 0) = some r := by rw [if_pos rfl] at H; exact H
          clear H
          have H := H1
          clear H1
          obtain rfl := Option.some.inj H
          go_wp2
          go_ret
          exact ⟨TR, TB1 GE102.out⟩
         ·replace c54 := Bool.eq_false_iff.mpr c54
          subst c54
          have H1 : (some 30) = some r := by rw [if_neg (show ¬ (false = true) by decide)] at H; exact H
          clear H
          have H := H1
          clear H1
          obtain rfl := Option.some.inj H
          go_wp2
          go_ret
          exact ⟨TR, TB1 GE102.out⟩
/-! ### rasp_isAsk: function 52 -/
def rasp_isAsk.f (a0 : Int) (a1 : Int) : Option (Bool) := (rasp_lies.f a0 (-60) 60).bind fun t113 => (if t113 = true then ((rasp_lies.f a1 0 30).bind fun t114 => (some t114)) else (some false))
set_option maxHeartbeats 8000000 in
set_option maxRecDepth 100000 in
theorem rasp_isAsk.calls (a0 : Int) (a1 : Int) (r : Bool) (w : World) (h : rasp_isAsk.f a0 a1 = some r) :
  Calls Tryd.prog 52 #[.int .i64 a0, .int .i64 a1] w fun e w' => e = .returned (.bool r) ∧ Drawn0 w w' := by
 have H : ((rasp_lies.f a0 (-60) 60).bind fun t113 => (if t113 = true then ((rasp_lies.f a1 0 30).bind fun t114 => (some t114)) else (some false))) = some r := h
 clear h
 replace H := Option.bind_eq_some_iff.mp H
 obtain ⟨t113, A30, H⟩ := H
 replace H : (if t113 = true then ((rasp_lies.f a1 0 30).bind fun t114 => (some t114)) else (some false)) = some r := H
 have A3 := Aside0.mk A30
 clear A30
 by_cases c4 : t113 = true
 ·subst c4
  have H1 : ((rasp_lies.f a1 0 30).bind fun t114 => (some t114)) = some r := by rw [if_pos rfl] at H; exact H
  clear H
  have H := H1
  clear H1
  replace H := Option.bind_eq_some_iff.mp H
  obtain ⟨t114, A50, H⟩ := H
  replace H : (some t114) = some r := H
  have A5 := Aside0.mk A50
  clear A50
  obtain rfl := Option.some.inj H
  go_enter Tryd.func52, Tryd.ntmps52
  go_wp2_with (first | ((with_reducible refine gate_callee (f := 58) rfl ?_); refine goesL_ (some 6) rfl rfl Tryd.func58 (by kernel_rfl) rfl #[.int .i64 a0, .int .i64 (-60), .int .i64 60] rfl TM ?_; (with_reducible refine (rasp_lies.calls a0 (-60) 60 true _ A3.out).mono ?_); rintro e w' ⟨rfl, ⟨nd, rfl⟩⟩; refine ⟨_, rfl, ?_⟩) | (go_at_call 58; (with_reducible refine (rasp_lies.calls a1 0 30 t114 _ A5.out).mono ?_); rintro e w' ⟨rfl, ⟨nd, rfl⟩⟩))
  go_ret
  exact ⟨by first | rfl | (simp; done) | (simp [*]; done), by repeat (first | exact Drawn0.refl _ | apply Drawn0.step)⟩
 ·replace c4 := Bool.eq_false_iff.mpr c4
  subst c4
  have H1 : (some false) = some r := by rw [if_neg (show ¬ (false = true) by decide)] at H; exact H
  clear H
  have H := H1
  clear H1
  obtain rfl := Option.some.inj H
  go_enter Tryd.func52, Tryd.ntmps52
  go_wp2_with (first | ((with_reducible refine gate_callee (f := 58) rfl ?_); refine goesL_ (some 6) rfl rfl Tryd.func58 (by kernel_rfl) rfl #[.int .i64 a0, .int .i64 (-60), .int .i64 60] rfl TM ?_; (with_reducible refine (rasp_lies.calls a0 (-60) 60 false _ A3.out).mono ?_); rintro e w' ⟨rfl, ⟨nd, rfl⟩⟩; refine ⟨_, rfl, ?_⟩))
  go_ret
  exact ⟨by first | rfl | (simp; done) | (simp [*]; done), by repeat (first | exact Drawn0.refl _ | apply Drawn0.step)⟩
/-- THE ONE PURE STATEMENT of rasp_isAsk: yours. -/
def rasp_isAsk.Pure : Prop := ∀ (a0 : Int) (a1 : Int), (Lit.int .i64 a0).wf = true → (Lit.int .i64 a1).wf = true → rasp_isAsk.f a0 a1 = some true
theorem rasp_isAsk.walk (P : rasp_isAsk.Pure) (a0 : Int) (a1 : Int) (w : World) (w0 : (Lit.int .i64 a0).wf = true) (w1 : (Lit.int .i64 a1).wf = true) :
  Calls Tryd.prog 52 #[.int .i64 a0, .int .i64 a1] w fun e w' => e = .returned (.bool true) ∧ Below w.heap.size w w' := by
 have h := P a0 a1 w0 w1
 refine (rasp_isAsk.calls a0 a1 true w h).mono ?_
 rintro e w' ⟨rfl, hd⟩
 exact ⟨rfl, hd.below⟩
/-! ### rasp_greatest_int: function 72 -/
def rasp_greatest_int.l0 : Nat → Int → List Int → Int → Int → Option (Int)
 | 0, _, _, _, _ => none
 | k + 1, x0, x7, x8, x9 => if x9 < x8 then (if 0 ≤ x9 then (if x9 < (x7.length : Int) then (rasp_greatest_int.l0 k (mx x0 (rd x7 x9)) x7 x8 (wrap64 (x9 + 1))) else (none)) else (none)) else (some x0)
def rasp_greatest_int.f (k : Nat) (a0 : Int) (l1 : List Int) : Option (Int) := rasp_greatest_int.l0 k a0 l1 (l1.length : Int) 0
theorem rasp_greatest_int.mono_l : ∀ k, (∀ y0 y1 y2 y3, LeO (rasp_greatest_int.l0 k y0 y1 y2 y3) (rasp_greatest_int.l0 (k + 1) y0 y1 y2 y3))
 | 0 => fun _ _ _ _ r h => by simp [rasp_greatest_int.l0] at h
 | k + 1 => by
  have ih0 := rasp_greatest_int.mono_l k
  ·intro y0 y1 y2 y3
   unfold rasp_greatest_int.l0
   repeat' first
   | (with_reducible exact ih0 _ _ _ _)
   | (with_reducible exact LeO.refl _)
   | (with_reducible exact LeO.none _)
   | (with_reducible refine LeO.ite ?_ ?_)
   | (with_reducible refine LeO.bind ?_ (fun _ => ?_))
   | exact ih0 _ _ _ _
   | exact LeO.none _
   | refine LeO.ite ?_ ?_
   | refine LeO.bind ?_ (fun _ => ?_)
theorem rasp_greatest_int.mono : ∀ a0 a1 k, LeO (rasp_greatest_int.f k a0 a1) (rasp_greatest_int.f (k + 1) a0 a1) := by
 intro a0 a1 k
 have ih0 := rasp_greatest_int.mono_l k
 unfold rasp_greatest_int.f
 repeat' first
   | (with_reducible exact ih0 _ _ _ _)
   | (with_reducible exact LeO.refl _)
   | (with_reducible exact LeO.none _)
   | (with_reducible refine LeO.ite ?_ ?_)
   | (with_reducible refine LeO.bind ?_ (fun _ => ?_))
   | exact ih0 _ _ _ _
   | exact LeO.none _
   | refine LeO.ite ?_ ?_
   | refine LeO.bind ?_ (fun _ => ?_)
set_option maxHeartbeats 8000000 in
set_option maxRecDepth 100000 in
theorem rasp_greatest_int.calls (k : Nat) (a0 : Int) (A1 : Option Addr) (c1 : Nat) (l1 : List Int) (r : Int) (w : World) (hr1 : Kd.C (Kd.int .i64) w A1 l1.length l1) (hc1 : l1.length ≤ c1) (h : rasp_greatest_int.f k a0 l1 = some r) :
  Calls Tryd.prog 72 #[.int .i64 a0, .slice A1 l1.length c1] w fun e w' => e = .returned (.int .i64 r) ∧ Below w.heap.size w w' := by
 have HR1 := Aside0.mk hr1
 have HC1 := Aside0.mk hc1
 clear hr1 hc1
 have HB := Aside0.mk (Below.refl w.heap.size w)
 have H : (rasp_greatest_int.l0 k a0 l1 (l1.length : Int) 0) = some r := h
 clear h
 have H' := Aside0.mk H
 clear H
 go_enter Tryd.func72, Tryd.ntmps72
 go_wp2
 go_loopg [0, 9] k (fun kq v0 v9 w' => ∃ (x0_1 : Int) (x9_1 : Int), v0 = .int .i64 x0_1 ∧ v9 = .int .i64 x9_1 ∧ Aside0 (rasp_greatest_int.l0 kq x0_1 l1 (l1.length : Int) x9_1 = some r) ∧ Aside0 (kq ≤ k) ∧ Aside0 (Below w.heap.size w w'))
 case atStart => exact ⟨(a0), (0), TT, TT, H', ⟨Nat.le_refl _⟩, ⟨TB⟩⟩
 case round =>
  clear H'
  try clear c1
  try clear p2
  obtain ⟨x0_1, x9_1, rfl, rfl, HA, HK1, HB⟩ := hrel
  cases gk with
  | zero => exact absurd HA.out (by simp [rasp_greatest_int.l0])
  | succ k1 =>
   have H := HA.out
   clear HA
   simp only [rasp_greatest_int.l0] at H
   by_cases c3 : x9_1 < (l1.length : Int)
   ·rw [if_pos c3] at H
    have c3b0 : decide (x9_1 < (l1.length : Int)) = true := decide_eq_true c3
    clear c3
    by_cases c4 : 0 ≤ x9_1
    ·rw [if_pos c4] at H
     have c4b0 : decide (0 ≤ x9_1) = true := decide_eq_true c4
     clear c4
     by_cases c5 : x9_1 < (l1.length : Int)
     ·rw [if_pos c5] at H
      have c5b0 : decide (x9_1 < (l1.length : Int)) = true := decide_eq_true c5
      clear c5
      obtain ⟨ji6, hji6⟩ : ∃ j_ : Int, (mx x0_1 (rd l1 x9_1)) = j_ := ⟨_, rfl⟩
      replace H : (rasp_greatest_int.l0 k1 ji6 l1 (l1.length : Int) (wrap64 (x9_1 + 1))) = some r := by first | (rw [hji6] at H; exact H) | (simp only [hji6] at H ⊢; exact H)
      have hji6_ : (if x0_1 < (rd l1 x9_1) then (rd l1 x9_1) else x0_1) = ji6 := hji6
      have H' := Aside0.mk H
      clear H
      have p115 : 0 ≤ (x9_1 : Int) := of_decide_eq_true TA
      have q115 : x9_1 < (l1.length : Int) := of_decide_eq_true TA
      obtain ⟨ad115, e115, hx115_0⟩ := Kd.at_int HR1.out x9_1 p115 q115
      cases e115
      replace hx115_0 := hx HB.out hx115_0
      replace p115 := eq_true p115
      replace q115 := eq_true q115
      go_wp2
      go_roundg k1
      case measure => have := HK1.out; omega
      case rel => exact ⟨(ji6), (wrap64 (x9_1 + 1)), (by first | rfl | (simp; done) | (simp only [← hji6] <;> (first | rfl | simp)) | (simp [*]; done)), TT, H', ⟨by have := HK1.out; omega⟩, ⟨TB⟩⟩
     ·rw [if_neg c5] at H
      exact absurd H (by simp)
    ·rw [if_neg c4] at H
     exact absurd H (by simp)
   ·rw [if_neg c3] at H
    have c3b0 : decide (x9_1 < (l1.length : Int)) = false := decide_eq_false c3
    clear c3
    obtain rfl := Option.some.inj H
    go_wp2
    go_ret
    exact ⟨TR, TB⟩
end Go.Proofs.YtfmpbkolpjlfbaaDoor.PRaspKeys
namespace Go.Proofs.YtfmpbkolpjlfbaaDoor.PRaspKeys
open Go.RowKit Go.Proofs.YtfmpbkolpjlfbaaDoorW.PrintWords Go.Proofs.YtfmpbkolpjlfbaaDoorW.PrintLast Go.Proofs.YtfmpbkolpjlfbaaDoorW.PrintMore Go.Proofs.YtfmpbkolpjlfbaaDoor.M
attribute [local go_sem] max2_int min2_int max_two min_two max_three min_three max_four min_four   -- for this text's walks alone
/-! ### rasp_turned_int: function 95 -/
def rasp_turned_int.l0 : Nat → List Int → List Int → Int → Int → Option (List Int)
 | 0, _, _, _, _ => none
 | k + 1, x3, x6, x7, x8 => if x8 < x7 then (if 0 ≤ x8 then (if x8 < (x6.length : Int) then (if x3.length < 17592186044416 then (rasp_turned_int.l0 k (x3 ++ [wrap64 (-(rd x6 x8))]) x6 x7 (wrap64 (x8 + 1))) else (none)) else (none)) else (none)) else (some x3)
def rasp_turned_int.f (k : Nat) (l0 : List Int) : Option (List Int) := rasp_turned_int.l0 k ([] : List Int) l0 (l0.length : Int) 0
theorem rasp_turned_int.mono_l : ∀ k, (∀ y0 y1 y2 y3, LeO (rasp_turned_int.l0 k y0 y1 y2 y3) (rasp_turned_int.l0 (k + 1) y0 y1 y2 y3))
 | 0 => fun _ _ _ _ r h => by simp [rasp_turned_int.l0] at h
 | k + 1 => by
  have ih0 := rasp_turned_int.mono_l k
  ·intro y0 y1 y2 y3
   unfold rasp_turned_int.l0
   repeat' first
   | (with_reducible exact ih0 _ _ _ _)
   | (with_reducible exact LeO.refl _)
   | (with_reducible exact LeO.none _)
   | (with_reducible refine LeO.ite ?_ ?_)
   | (with_reducible refine LeO.bind ?_ (fun _ => ?_))
   | exact ih0 _ _ _ _
   | exact LeO.none _
   | refine LeO.ite ?_ ?_
   | refine LeO.bind ?_ (fun _ => ?_)
theorem rasp_turned_int.mono : ∀ a0 k, LeO (rasp_turned_int.f k a0) (rasp_turned_int.f (k + 1) a0) := by
 intro a0 k
 have ih0 := rasp_turned_int.mono_l k
 unfold rasp_turned_int.f
 repeat' first
   | (with_reducible exact ih0 _ _ _ _)
   | (with_reducible exact LeO.refl _)
   | (with_reducible exact LeO.none _)
   | (with_reducible refine LeO.ite ?_ ?_)
   | (with_reducible refine LeO.bind ?_ (fun _ => ?_))
   | exact ih0 _ _ _ _
   | exact LeO.none _
   | refine LeO.ite ?_ ?_
   | refine LeO.bind ?_ (fun _ => ?_)
set_option maxHeartbeats 8000000 in
set_option maxRecDepth 100000 in
theorem rasp_turned_int.calls (k : Nat) (A0 : Option Addr) (c0 : Nat) (l0 : List Int) (r : List Int) (w : World) (hr0 : Kd.C (Kd.int .i64) w A0 l0.length l0) (hc0 : l0.length ≤ c0) (h : rasp_turned_int.f k l0 = some r) :
  Calls Tryd.prog 95 #[.slice A0 l0.length c0] w fun e w' => ∃ v0_ : Value, e = .returned (v0_) ∧ Kd.R (Kd.int .i64) 3 w' w.heap.size (fun _ => True) v0_ r ∧ Below w.heap.size w w' := by
 have HR0 := Aside0.mk hr0
 have HC0 := Aside0.mk hc0
 clear hr0 hc0
 have HB := Aside0.mk (Below.refl w.heap.size w)
 have H : (rasp_turned_int.l0 k ([] : List Int) l0 (l0.length : Int) 0) = some r := h
 clear h
 have H' := Aside0.mk H
 clear H
 go_enter Tryd.func95, Tryd.ntmps95
 go_wp2
 go_loopg [3, 8] k (fun kq v3 v8 w' => ∃ (x3_1 : List Int) (x8_1 : Int), v8 = .int .i64 x8_1 ∧ Aside0 (rasp_turned_int.l0 kq x3_1 l0 (l0.length : Int) x8_1 = some r) ∧ Aside0 (kq ≤ k) ∧ Aside0 (Kd.R (Kd.int .i64) 3 w' w.heap.size (fun _ => True) v3 x3_1) ∧ Aside0 (Below w.heap.size w w'))
 case atStart => exact ⟨(([] : List Int)), (0), TT, H', ⟨Nat.le_refl _⟩, ⟨by first | exact Kd.R_nil _ _ _ _ _ | exact Kd.N_nil _ _ _ _ _ | exact Kd.V_nil _ _ _ _ _ | exact Kd.Q_nil _ _ _ _ _ | exact Kd.S_nil _ _ _ _ _⟩, ⟨TB⟩⟩
 case round =>
  clear H'
  obtain ⟨x3_1, x8_1, rfl, HA, HK1, HO_3, HB⟩ := hrel
  cases gk with
  | zero => exact absurd HA.out (by simp [rasp_turned_int.l0])
  | succ k1 =>
   have H := HA.out
   clear HA
   simp only [rasp_turned_int.l0] at H
   by_cases c2 : x8_1 < (l0.length : Int)
   ·rw [if_pos c2] at H
    have c2b0 : decide (x8_1 < (l0.length : Int)) = true := decide_eq_true c2
    clear c2
    by_cases c3 : 0 ≤ x8_1
    ·rw [if_pos c3] at H
     have c3b0 : decide (0 ≤ x8_1) = true := decide_eq_true c3
     clear c3
     by_cases c4 : x8_1 < (l0.length : Int)
     ·rw [if_pos c4] at H
      have c4b0 : decide (x8_1 < (l0.length : Int)) = true := decide_eq_true c4
      clear c4
      by_cases c5 : x3_1.length < 17592186044416
      ·rw [if_pos c5] at H
       have LMc5 := Aside0.mk c5
       clear c5
       obtain ⟨y117, hy117⟩ : ∃ y_ : List Int, y_ = (x3_1 ++ [wrap64 (-(rd l0 x8_1))]) := ⟨_, rfl⟩
       replace H : (rasp_turned_int.l0 k1 y117 l0 (l0.length : Int) (wrap64 (x8_1 + 1))) = some r := by first | (rw [hy117]; with_reducible exact H) | (have H2_ := (Option.bind_some _ _).symm.trans H; rw [hy117]; with_reducible exact H2_) | (have H2_ := (Option.bind_some _ _).symm.trans H; with_reducible exact H2_) | with_reducible exact H | (rw [hy117]; exact H) | exact H
       have Ny117 := Aside0.mk hy117
       clear hy117
       have H' := Aside0.mk H
       clear H
       have p116 : 0 ≤ (x8_1 : Int) := of_decide_eq_true TA
       have q116 : x8_1 < (l0.length : Int) := of_decide_eq_true TA
       obtain ⟨ad116, e116, hx116_0⟩ := Kd.at_int HR0.out x8_1 p116 q116
       cases e116
       replace hx116_0 := hx HB.out hx116_0
       replace p116 := eq_true p116
       replace q116 := eq_true q116
       go_wp2_with (first | ((with_reducible refine gate_builtin (b := .append) (xs := #[.tmp 12, .tmp 15]) rfl ?_); at_builtin; refine Kd.R_append (Kd.int .i64) (w0 := w) w.heap.size rfl (.tmp 12) (.tmp 15) 38 3 (.int .i64 0) 8 rfl Tryd.underlying38 info3 rfl (by decide) (by omega) u3 x3_1 (wrap64 (-(rd l0 x8_1))) [.int .i64 (wrap64 (-(rd l0 x8_1)))] (fun _ => True) (fun _ => False) rfl rfl ?aP (fun _ hk => hk.elim) ?aF ?aO ?aB ?aS ?aL ?_; (case aP => exact rfl); (case aB => exact TB); (case aF => exact (fun _ _ => trivial)); (case aO => exact (TRo HO_3.out)); (case aS => exact (below_size TB)); (case aL => have := LMc5.out; omega); intro v118 w6 ho hb hg hat; rw [← Ny117.out] at ho; have HO119 := Aside0.mk (ho); replace HB := Aside0.mk (hb); clear HO_3; clear ho hb hg hat))
       go_roundg k1
       case measure => have := HK1.out; omega
       case rel => exact ⟨(y117), (wrap64 (x8_1 + 1)), TT, H', ⟨by have := HK1.out; omega⟩, ⟨by (with_reducible repeat (first | apply Kd.R_alloc | apply Kd.R_drewN | apply Kd.R_drew)); exact HO119.out⟩, ⟨TB⟩⟩
      ·rw [if_neg c5] at H
       exact absurd H (by simp)
     ·rw [if_neg c4] at H
      exact absurd H (by simp)
    ·rw [if_neg c3] at H
     exact absurd H (by simp)
   ·rw [if_neg c2] at H
    have c2b0 : decide (x8_1 < (l0.length : Int)) = false := decide_eq_false c2
    clear c2
    obtain rfl := Option.some.inj H
    go_wp2
    go_ret
    exact ⟨_, TR, by (with_reducible repeat (first | apply Kd.R_alloc | apply Kd.R_drewN | apply Kd.R_drew)); exact HO_3.out, TB⟩
/-! ### rasp_least_int: function 94 -/
def rasp_least_int.f (k : Nat) (a0 : Int) (l1 : List Int) : Option (Int) := (rasp_turned_int.f k l1).bind fun t120 => ((rasp_greatest_int.f k (wrap64 (-a0)) t120).bind fun t123 => (some (wrap64 (-t123))))
theorem rasp_least_int.mono : ∀ a0 a1 k, LeO (rasp_least_int.f k a0 a1) (rasp_least_int.f (k + 1) a0 a1) := by
 intro a0 a1 k
 unfold rasp_least_int.f
 repeat' first
   | (with_reducible exact rasp_greatest_int.mono _ _ _)
   | (with_reducible exact rasp_turned_int.mono _ _)
   | (with_reducible exact LeO.refl _)
   | (with_reducible exact LeO.none _)
   | (with_reducible refine LeO.ite ?_ ?_)
   | (with_reducible refine LeO.bind ?_ (fun _ => ?_))
   | exact rasp_greatest_int.mono _ _ _
   | exact rasp_turned_int.mono _ _
   | exact LeO.none _
   | refine LeO.ite ?_ ?_
   | refine LeO.bind ?_ (fun _ => ?_)
set_option maxHeartbeats 8000000 in
set_option maxRecDepth 100000 in
theorem rasp_least_int.calls (k : Nat) (a0 : Int) (A1 : Option Addr) (c1 : Nat) (l1 : List Int) (r : Int) (w : World) (hr1 : Kd.C (Kd.int .i64) w A1 l1.length l1) (hc1 : l1.length ≤ c1) (h : rasp_least_int.f k a0 l1 = some r) :
  Calls Tryd.prog 94 #[.int .i64 a0, .slice A1 l1.length c1] w fun e w' => e = .returned (.int .i64 r) ∧ Below w.heap.size w w' := by
 have HR1 := Aside0.mk hr1
 have HC1 := Aside0.mk hc1
 clear hr1 hc1
 have HB := Aside0.mk (Below.refl w.heap.size w)
 have H : ((rasp_turned_int.f k l1).bind fun t120 => ((rasp_greatest_int.f k (wrap64 (-a0)) t120).bind fun t123 => (some (wrap64 (-t123))))) = some r := h
 clear h
 replace H := Option.bind_eq_some_iff.mp H
 obtain ⟨t120, A30, H⟩ := H
 replace H : ((rasp_greatest_int.f k (wrap64 (-a0)) t120).bind fun t123 => (some (wrap64 (-t123)))) = some r := H
 have A3 := Aside0.mk A30
 clear A30
 replace H := Option.bind_eq_some_iff.mp H
 obtain ⟨t123, A40, H⟩ := H
 replace H : (some (wrap64 (-t123))) = some r := H
 have A4 := Aside0.mk A40
 clear A40
 obtain rfl := Option.some.inj H
 go_enter Tryd.func94, Tryd.ntmps94
 go_wp2_with (first | ((with_reducible refine gate_callee (f := 95) rfl ?_); refine goesL_ (some 8) rfl rfl Tryd.func95 (by kernel_rfl) rfl #[.slice A1 l1.length c1] rfl TM ?_; (with_reducible refine (rasp_turned_int.calls k _ _ l1 t120 _ ?side1 ?side2 A3.out).mono ?_); (case side1 => exact TE HR1.out); (case side2 => exact HC1.out); rintro e w5 ⟨v121, rfl, ho0, hb⟩; refine ⟨_, rfl, ?_⟩; have HO122 := Aside0.mk (Kd.R_lower ho0 (below_size TB)); replace HB := Aside0.mk (below_step TB hb); (try clear hb); (try clear hb2); (try clear hk); (try clear hi); (try clear ho0); obtain ⟨Ao6, co6, eo6⟩ := Kd.R_slice HO122.out; subst eo6) | ((with_reducible refine gate_callee (f := 72) rfl ?_); refine goesL_ (some 9) rfl rfl Tryd.func72 (by kernel_rfl) rfl #[.int .i64 (wrap64 (-a0)), .slice Ao6 t120.length co6] rfl TM ?_; (with_reducible refine (rasp_greatest_int.calls k (wrap64 (-a0)) _ _ t120 t123 _ ?side1 ?side2 A4.out).mono ?_); (case side1 => repeat (first | exact (Kd.R_reads' HO122.out).2.2 | (with_reducible refine Kd.C_alloc ?_ _) | (with_reducible refine Kd.C_drewN ?_ _) | (with_reducible refine Kd.C_drew ?_))); (case side2 => exact (Kd.R_reads' HO122.out).2.1); rintro e w7 ⟨rfl, hb⟩; refine ⟨_, rfl, ?_⟩; replace HO122 := Aside0.mk (Kd.R_below (TRo HO122.out) hb); replace HB := Aside0.mk (below_step TB hb); (try clear hb); (try clear hb2); (try clear hk); (try clear hi)))
 go_ret
 exact ⟨TR, TB⟩
/-! ### saronref00_Equal: function 27 -/
def saronref00_Equal.l0 : Nat → List Int → List Int → Bool → Int → Option (Bool)
 | 0, _, _, _, _ => none
 | k + 1, x0, x1, x5, x6 => if x5 = true then (if x6 < (x0.length : Int) then (if 0 ≤ x6 then (if x6 < (x1.length : Int) then (saronref00_Equal.l0 k x0 x1 ((rd x0 x6) == (rd x1 x6)) (wrap64 (x6 + 1))) else (none)) else (none)) else (some x5)) else (some x5)
def saronref00_Equal.f (k : Nat) (l0 : List Int) (l1 : List Int) : Option (Bool) := saronref00_Equal.l0 k l0 l1 ((l0.length : Int) == (l1.length : Int)) 0
theorem saronref00_Equal.mono_l : ∀ k, (∀ y0 y1 y2 y3, LeO (saronref00_Equal.l0 k y0 y1 y2 y3) (saronref00_Equal.l0 (k + 1) y0 y1 y2 y3))
 | 0 => fun _ _ _ _ r h => by simp [saronref00_Equal.l0] at h
 | k + 1 => by
  have ih0 := saronref00_Equal.mono_l k
  ·intro y0 y1 y2 y3
   unfold saronref00_Equal.l0
   repeat' first
   | (with_reducible exact ih0 _ _ _ _)
   | (with_reducible exact LeO.refl _)
   | (with_reducible exact LeO.none _)
   | (with_reducible refine LeO.ite ?_ ?_)
   | (with_reducible refine LeO.bind ?_ (fun _ => ?_))
   | exact ih0 _ _ _ _
   | exact LeO.none _
   | refine LeO.ite ?_ ?_
   | refine LeO.bind ?_ (fun _ => ?_)
theorem saronref00_Equal.mono : ∀ a0 a1 k, LeO (saronref00_Equal.f k a0 a1) (saronref00_Equal.f (k + 1) a0 a1) := by
 intro a0 a1 k
 have ih0 := saronref00_Equal.mono_l k
 unfold saronref00_Equal.f
 repeat' first
   | (with_reducible exact ih0 _ _ _ _)
   | (with_reducible exact LeO.refl _)
   | (with_reducible exact LeO.none _)
   | (with_reducible refine LeO.ite ?_ ?_)
   | (with_reducible refine LeO.bind ?_ (fun _ => ?_))
   | exact ih0 _ _ _ _
   | exact LeO.none _
   | refine LeO.ite ?_ ?_
   | refine LeO.bind ?_ (fun _ => ?_)
set_option maxHeartbeats 8000000 in
set_option maxRecDepth 100000 in
theorem saronref00_Equal.calls (k : Nat) (A0 : Option Addr) (c0 : Nat) (l0 : List Int) (A1 : Option Addr) (c1 : Nat) (l1 : List Int) (r : Bool) (w : World) (hr0 : Kd.C (Kd.int .i64) w A0 l0.length l0) (hc0 : l0.length ≤ c0) (hr1 : Kd.C (Kd.int .i64) w A1 l1.length l1) (hc1 : l1.length ≤ c1) (h : saronref00_Equal.f k l0 l1 = some r) :
  Calls Tryd.prog 27 #[.slice A0 l0.length c0, .slice A1 l1.length c1] w fun e w' => e = .returned (.bool r) ∧ Drawn0 w w' := by
 have HR0 := Aside0.mk hr0
 have HC0 := Aside0.mk hc0
 clear hr0 hc0
 have HR1 := Aside0.mk hr1
 have HC1 := Aside0.mk hc1
 clear hr1 hc1
 have H : (saronref00_Equal.l0 k l0 l1 ((l0.length : Int) == (l1.length : Int)) 0) = some r := h
 clear h
 have H' := Aside0.mk H
 clear H
 go_enter Tryd.func27, Tryd.ntmps27
 go_wp2
 repeat (go_quiet (fail); try go_wp2)
 go_loopg [5, 6] k (fun kq v5 v6 w' => ∃ (x5_1 : Bool) (x6_1 : Int), v5 = .bool x5_1 ∧ v6 = .int .i64 x6_1 ∧ Aside0 (saronref00_Equal.l0 kq l0 l1 x5_1 x6_1 = some r) ∧ Aside0 (kq ≤ k) ∧ Drawn0 w w')
 case atStart => exact ⟨(((l0.length : Int) == (l1.length : Int))), (0), TT, TT, H', ⟨Nat.le_refl _⟩, by repeat (first | exact Drawn0.refl _ | apply Drawn0.step)⟩
 case round =>
  clear H'
  try clear c1
  try clear c2
  try clear p2
  obtain ⟨x5_1, x6_1, rfl, rfl, HA, HK1, ⟨m1, rfl⟩⟩ := hrel
  cases gk with
  | zero => exact absurd HA.out (by simp [saronref00_Equal.l0])
  | succ k1 =>
   have H := HA.out
   clear HA
   simp only [saronref00_Equal.l0] at H
   by_cases c3 : x5_1 = true
   ·subst c3
    have H1 : (if x6_1 < (l0.length : Int) then (if 0 ≤ x6_1 then (if x6_1 < (l1.length : Int) then (saronref00_Equal.l0 k1 l0 l1 ((rd l0 x6_1) == (rd l1 x6_1)) (wrap64 (x6_1 + 1))) else (none)) else (none)) else (some true)) = some r := by rw [if_pos rfl] at H; exact H
    clear H
    have H := H1
    clear H1
    by_cases c4 : x6_1 < (l0.length : Int)
    ·rw [if_pos c4] at H
     have c4b0 : decide (x6_1 < (l0.length : Int)) = true := decide_eq_true c4
     clear c4
     by_cases c5 : 0 ≤ x6_1
     ·rw [if_pos c5] at H
      have c5b0 : decide (0 ≤ x6_1) = true := decide_eq_true c5
      clear c5
      by_cases c6 : x6_1 < (l1.length : Int)
      ·rw [if_pos c6] at H
       have c6b0 : decide (x6_1 < (l1.length : Int)) = true := decide_eq_true c6
       clear c6
       have H' := Aside0.mk H
       clear H
       have p124 : 0 ≤ (x6_1 : Int) := of_decide_eq_true TA
       have q124 : x6_1 < (l0.length : Int) := of_decide_eq_true TA
       obtain ⟨ad124, e124, hx124_0⟩ := Kd.at_int HR0.out x6_1 p124 q124
       cases e124
       replace p124 := eq_true p124
       replace q124 := eq_true q124
       have p125 : 0 ≤ (x6_1 : Int) := of_decide_eq_true TA
       have q125 : x6_1 < (l1.length : Int) := of_decide_eq_true TA
       obtain ⟨ad125, e125, hx125_0⟩ := Kd.at_int HR1.out x6_1 p125 q125
       cases e125
       replace p125 := eq_true p125
       replace q125 := eq_true q125
       go_wp2
       repeat (go_quiet (fail); try go_wp2)
       go_roundg k1
       case measure => have := HK1.out; omega
       case rel => exact ⟨(((rd l0 x6_1) == (rd l1 x6_1))), (wrap64 (x6_1 + 1)), TT, TT, H', ⟨by have := HK1.out; omega⟩, by repeat (first | exact Drawn0.refl _ | apply Drawn0.step)⟩
      ·rw [if_neg c6] at H
       exact absurd H (by simp)
     ·rw [if_neg c5] at H
      exact absurd H (by simp)
    ·rw [if_neg c4] at H
     have c4b0 : decide (x6_1 < (l0.length : Int)) = false := decide_eq_false c4
     clear c4
     obtain rfl := Option.some.inj H
     go_wp2
     repeat (go_quiet (fail); try go_wp2)
     go_ret
     exact ⟨by first | rfl | (simp; done) | (simp [*]; done), by repeat (first | exact Drawn0.refl _ | apply Drawn0.step)⟩
   ·replace c3 := Bool.eq_false_iff.mpr c3
    subst c3
    have H1 : (some false) = some r := by rw [if_neg (show ¬ (false = true) by decide)] at H; exact H
    clear H
    have H := H1
    clear H1
    obtain rfl := Option.some.inj H
    go_wp2
    repeat (go_quiet (fail); try go_wp2)
    go_ret
    exact ⟨by first | rfl | (simp; done) | (simp [*]; done), by repeat (first | exact Drawn0.refl _ | apply Drawn0.step)⟩
/-- THE ONE PURE STATEMENT of saronref00_Equal: yours. -/
def saronref00_Equal.Pure : Prop := ∀ (l0 : List Int) (l1 : List Int), l0.length ≤ maxLen → l0.length * 8 ≤ 140737488351232 → (∀ x ∈ l0, (Lit.int .i64 x).wf = true) → l1.length ≤ maxLen → l1.length * 8 ≤ 140737488351232 → (∀ x ∈ l1, (Lit.int .i64 x).wf = true) → ∃ k, saronref00_Equal.f k l0 l1 = some true
theorem saronref00_Equal.walk (P : saronref00_Equal.Pure) (a0 : Option Addr) (len0 cap0 : Nat) (z0 : List Int) (a1 : Option Addr) (len1 cap1 : Nat) (z1 : List Int) (w : World) (w0 : (a0 = none ∧ len0 = 0 ∧ cap0 = 0 ∧ z0 = []) ∨ ∃ x, a0 = some x ∧ len0 ≤ cap0 ∧ cap0 ≤ maxLen ∧ z0.length = cap0 ∧ (∀ i, i < z0.length → w.cell? (x.add i) = some (.int .i64 (z0.getD i 0))) ∧ ∀ n ∈ z0, (Lit.int .i64 n).wf = true) (y0 : len0 * 8 ≤ 140737488351232) (w1 : (a1 = none ∧ len1 = 0 ∧ cap1 = 0 ∧ z1 = []) ∨ ∃ x, a1 = some x ∧ len1 ≤ cap1 ∧ cap1 ≤ maxLen ∧ z1.length = cap1 ∧ (∀ i, i < z1.length → w.cell? (x.add i) = some (.int .i64 (z1.getD i 0))) ∧ ∀ n ∈ z1, (Lit.int .i64 n).wf = true) (y1 : len1 * 8 ≤ 140737488351232) :
  Calls Tryd.prog 27 #[.slice a0 len0 cap0, .slice a1 len1 cap1] w fun e w' => e = .returned (.bool true) ∧ Below w.heap.size w w' := by
 obtain ⟨l0, rfl, hr0, hm0, hw0, hc0⟩ := ReadsInt.ofRowC w0
 obtain ⟨l1, rfl, hr1, hm1, hw1, hc1⟩ := ReadsInt.ofRowC w1
 obtain ⟨k, h⟩ := P l0 l1 hm0 y0 hw0 hm1 y1 hw1
 refine (saronref00_Equal.calls k _ _ l0 _ _ l1 true w (Kd.C_of_reads (d := (0 : Int)) (h1 := fun _ => rfl) hr0) hc0 (Kd.C_of_reads (d := (0 : Int)) (h1 := fun _ => rfl) hr1) hc1 h).mono ?_
 rintro e w' ⟨rfl, hd⟩
 exact ⟨rfl, hd.below⟩
/-! ### saronref00_EqualRows: function 36 -/
def saronref00_EqualRows.l0 : Nat → List (List Int) → List (List Int) → Bool → Int → Option (Bool)
 | 0, _, _, _, _ => none
 | k + 1, x0, x1, x5, x6 => if x5 = true then (if x6 < (x0.length : Int) then (if 0 ≤ x6 then (if x6 < (x1.length : Int) then ((saronref00_Equal.f k (rd_L4 x0 x6) (rd_L4 x1 x6)).bind fun t128 => (saronref00_EqualRows.l0 k x0 x1 t128 (wrap64 (x6 + 1)))) else (none)) else (none)) else (some x5)) else (some x5)
def saronref00_EqualRows.f (k : Nat) (l0 : List (List Int)) (l1 : List (List Int)) : Option (Bool) := saronref00_EqualRows.l0 k l0 l1 ((l0.length : Int) == (l1.length : Int)) 0
theorem saronref00_EqualRows.mono_l : ∀ k, (∀ y0 y1 y2 y3, LeO (saronref00_EqualRows.l0 k y0 y1 y2 y3) (saronref00_EqualRows.l0 (k + 1) y0 y1 y2 y3))
 | 0 => fun _ _ _ _ r h => by simp [saronref00_EqualRows.l0] at h
 | k + 1 => by
  have ih0 := saronref00_EqualRows.mono_l k
  ·intro y0 y1 y2 y3
   unfold saronref00_EqualRows.l0
   repeat' first
   | (with_reducible exact ih0 _ _ _ _)
   | (with_reducible exact saronref00_Equal.mono _ _ _)
   | (with_reducible exact LeO.refl _)
   | (with_reducible exact LeO.none _)
   | (with_reducible refine LeO.ite ?_ ?_)
   | (with_reducible refine LeO.bind ?_ (fun _ => ?_))
   | exact ih0 _ _ _ _
   | exact saronref00_Equal.mono _ _ _
   | exact LeO.none _
   | refine LeO.ite ?_ ?_
   | refine LeO.bind ?_ (fun _ => ?_)
theorem saronref00_EqualRows.mono : ∀ a0 a1 k, LeO (saronref00_EqualRows.f k a0 a1) (saronref00_EqualRows.f (k + 1) a0 a1) := by
 intro a0 a1 k
 have ih0 := saronref00_EqualRows.mono_l k
 unfold saronref00_EqualRows.f
 repeat' first
   | (with_reducible exact ih0 _ _ _ _)
   | (with_reducible exact saronref00_Equal.mono _ _ _)
   | (with_reducible exact LeO.refl _)
   | (with_reducible exact LeO.none _)
   | (with_reducible refine LeO.ite ?_ ?_)
   | (with_reducible refine LeO.bind ?_ (fun _ => ?_))
   | exact ih0 _ _ _ _
   | exact saronref00_Equal.mono _ _ _
   | exact LeO.none _
   | refine LeO.ite ?_ ?_
   | refine LeO.bind ?_ (fun _ => ?_)
set_option maxHeartbeats 8000000 in
set_option maxRecDepth 100000 in
theorem saronref00_EqualRows.calls (k : Nat) (A0 : Option Addr) (c0 : Nat) (l0 : List (List Int)) (A1 : Option Addr) (c1 : Nat) (l1 : List (List Int)) (r : Bool) (w : World) (hr0 : Kd.C (Kd.slice 3 (Kd.int .i64)) w A0 l0.length l0) (hc0 : l0.length ≤ c0) (hr1 : Kd.C (Kd.slice 3 (Kd.int .i64)) w A1 l1.length l1) (hc1 : l1.length ≤ c1) (h : saronref00_EqualRows.f k l0 l1 = some r) :
  Calls Tryd.prog 36 #[.slice A0 l0.length c0, .slice A1 l1.length c1] w fun e w' => e = .returned (.bool r) ∧ Drawn0 w w' := by
 have HR0 := Aside0.mk hr0
 have HC0 := Aside0.mk hc0
 clear hr0 hc0
 have HR1 := Aside0.mk hr1
 have HC1 := Aside0.mk hc1
 clear hr1 hc1
 have H : (saronref00_EqualRows.l0 k l0 l1 ((l0.length : Int) == (l1.length : Int)) 0) = some r := h
 clear h
 have H' := Aside0.mk H
 clear H
 go_enter Tryd.func36, Tryd.ntmps36
 go_wp2
 repeat (go_quiet (fail); try go_wp2)
 go_loopg [5, 6] k (fun kq v5 v6 w' => ∃ (x5_1 : Bool) (x6_1 : Int), v5 = .bool x5_1 ∧ v6 = .int .i64 x6_1 ∧ Aside0 (saronref00_EqualRows.l0 kq l0 l1 x5_1 x6_1 = some r) ∧ Aside0 (kq ≤ k) ∧ Drawn0 w w')
 case atStart => exact ⟨(((l0.length : Int) == (l1.length : Int))), (0), TT, TT, H', ⟨Nat.le_refl _⟩, by repeat (first | exact Drawn0.refl _ | apply Drawn0.step)⟩
 case round =>
  clear H'
  try clear c1
  try clear p2
  obtain ⟨x5_1, x6_1, rfl, rfl, HA, HK1, ⟨m1, rfl⟩⟩ := hrel
  cases gk with
  | zero => exact absurd HA.out (by simp [saronref00_EqualRows.l0])
  | succ k1 =>
   have H := HA.out
   clear HA
   simp only [saronref00_EqualRows.l0] at H
   by_cases c3 : x5_1 = true
   ·subst c3
    have H1 : (if x6_1 < (l0.length : Int) then (if 0 ≤ x6_1 then (if x6_1 < (l1.length : Int) then ((saronref00_Equal.f k1 (rd_L4 l0 x6_1) (rd_L4 l1 x6_1)).bind fun t128 => (saronref00_EqualRows.l0 k1 l0 l1 t128 (wrap64 (x6_1 + 1)))) else (none)) else (none)) else (some true)) = some r := by rw [if_pos rfl] at H; exact H
    clear H
    have H := H1
    clear H1
    by_cases c4 : x6_1 < (l0.length : Int)
    ·rw [if_pos c4] at H
     have c4b0 : decide (x6_1 < (l0.length : Int)) = true := decide_eq_true c4
     clear c4
     by_cases c5 : 0 ≤ x6_1
     ·rw [if_pos c5] at H
      have c5b0 : decide (0 ≤ x6_1) = true := decide_eq_true c5
      clear c5
      by_cases c6 : x6_1 < (l1.length : Int)
      ·rw [if_pos c6] at H
       have c6b0 : decide (x6_1 < (l1.length : Int)) = true := decide_eq_true c6
       clear c6
       replace H := Option.bind_eq_some_iff.mp H
       obtain ⟨t128, A70, H⟩ := H
       replace H : (saronref00_EqualRows.l0 k1 l0 l1 t128 (wrap64 (x6_1 + 1))) = some r := H
       have A7 := Aside0.mk A70
       clear A70
       have H' := Aside0.mk H
       clear H
       have p126 : 0 ≤ (x6_1 : Int) := of_decide_eq_true TA
       have q126 : x6_1 < (l0.length : Int) := of_decide_eq_true TA
       obtain ⟨ad126, A126_0, c126_0, e126, hx126_0, hl126_0, hi126_0⟩ := at_L4 HR0.out x6_1 p126 q126
       cases e126
       have HR126_0 := Aside0.mk hi126_0
       have HC126_0 := Aside0.mk hl126_0
       clear hi126_0 hl126_0
       replace p126 := eq_true p126
       replace q126 := eq_true q126
       have p127 : 0 ≤ (x6_1 : Int) := of_decide_eq_true TA
       have q127 : x6_1 < (l1.length : Int) := of_decide_eq_true TA
       obtain ⟨ad127, A127_0, c127_0, e127, hx127_0, hl127_0, hi127_0⟩ := at_L4 HR1.out x6_1 p127 q127
       cases e127
       have HR127_0 := Aside0.mk hi127_0
       have HC127_0 := Aside0.mk hl127_0
       clear hi127_0 hl127_0
       replace p127 := eq_true p127
       replace q127 := eq_true q127
       go_wp2_with (first | (go_at_call 27; (with_reducible refine (saronref00_Equal.calls k1 _ _ (rd_L4 l0 x6_1) _ _ (rd_L4 l1 x6_1) t128 _ ?side1 ?side2 ?side3 ?side4 A7.out).mono ?_); (case side1 => exact TE HR126_0.out); (case side2 => exact HC126_0.out); (case side3 => exact TE HR127_0.out); (case side4 => exact HC127_0.out); rintro e w' ⟨rfl, ⟨nd, rfl⟩⟩; (try first | exact ⟨rfl, _, World.drewN_drewN _ _ _⟩ | exact ⟨rfl, _, Eq.trans (World.drewN_drewN _ _ _) (congrArg (World.drewN _) (Nat.add_assoc _ _ _))⟩)))
       repeat (go_quiet (first | (go_at_call 27; (with_reducible refine (saronref00_Equal.calls k1 _ _ (rd_L4 l0 x6_1) _ _ (rd_L4 l1 x6_1) t128 _ ?side1 ?side2 ?side3 ?side4 A7.out).mono ?_); (case side1 => exact TE HR126_0.out); (case side2 => exact HC126_0.out); (case side3 => exact TE HR127_0.out); (case side4 => exact HC127_0.out); rintro e w' ⟨rfl, ⟨nd, rfl⟩⟩; (try first | exact ⟨rfl, _, World.drewN_drewN _ _ _⟩ | exact ⟨rfl, _, Eq.trans (World.drewN_drewN _ _ _) (congrArg (World.drewN _) (Nat.add_assoc _ _ _))⟩))); try go_wp2_with (first | (go_at_call 27; (with_reducible refine (saronref00_Equal.calls k1 _ _ (rd_L4 l0 x6_1) _ _ (rd_L4 l1 x6_1) t128 _ ?side1 ?side2 ?side3 ?side4 A7.out).mono ?_); (case side1 => exact TE HR126_0.out); (case side2 => exact HC126_0.out); (case side3 => exact TE HR127_0.out); (case side4 => exact HC127_0.out); rintro e w' ⟨rfl, ⟨nd, rfl⟩⟩; (try first | exact ⟨rfl, _, World.drewN_drewN _ _ _⟩ | exact ⟨rfl, _, Eq.trans (World.drewN_drewN _ _ _) (congrArg (World.drewN _) (Nat.add_assoc _ _ _))⟩))))
       go_roundg k1
       case measure => have := HK1.out; omega
       case rel => exact ⟨(t128), (wrap64 (x6_1 + 1)), TT, TT, H', ⟨by have := HK1.out; omega⟩, by repeat (first | exact Drawn0.refl _ | apply Drawn0.step)⟩
      ·rw [if_neg c6] at H
       exact absurd H (by simp)
     ·rw [if_neg c5] at H
      exact absurd H (by simp)
    ·rw [if_neg c4] at H
     have c4b0 : decide (x6_1 < (l0.length : Int)) = false := decide_eq_false c4
     clear c4
     obtain rfl := Option.some.inj H
     go_wp2
     repeat (go_quiet (fail); try go_wp2)
     go_ret
     exact ⟨by first | rfl | (simp; done) | (simp [*]; done), by repeat (first | exact Drawn0.refl _ | apply Drawn0.step)⟩
   ·replace c3 := Bool.eq_false_iff.mpr c3
    subst c3
    have H1 : (some false) = some r := by rw [if_neg (show ¬ (false = true) by decide)] at H; exact H
    clear H
    have H := H1
    clear H1
    obtain rfl := Option.some.inj H
    go_wp2
    repeat (go_quiet (fail); try go_wp2)
    go_ret
    exact ⟨by first | rfl | (simp; done) | (simp [*]; done), by repeat (first | exact Drawn0.refl _ | apply Drawn0.step)⟩
/-! ### saronref00_Band: function 44 -/
def saronref00_Band.f (a0 : Int) (a1 : Int) : Option (Int × Int) := some (a0, a1)
set_option maxHeartbeats 8000000 in
set_option maxRecDepth 100000 in
theorem saronref00_Band.calls (a0 : Int) (a1 : Int) (r1 : Int) (r2 : Int) (w : World) (h : saronref00_Band.f a0 a1 = some (r1, r2)) :
  Calls Tryd.prog 44 #[.int .i64 a0, .int .i64 a1] w fun e w' => e = .returned (.agg #[.int .i64 r1, .int .i64 r2]) ∧ Below w.heap.size w w' := by
 have hu24 := Tryd.underlying24
 have HB := Aside0.mk (Below.refl w.heap.size w)
 have H : (some (a0, a1)) = some (r1, r2) := h
 clear h
 simp only [Option.some.injEq, Prod.mk.injEq] at H
 obtain ⟨rfl, rfl⟩ := H
 go_enter Tryd.func44, Tryd.ntmps44
 go_wp2_with (first | ((with_reducible refine gate_dst (N := 4) rfl ?_); refine box_event ?hg (N := 4) ?hd (cs := #[.int .i64 0, .int .i64 0]) (t := 24) ?hr ?_; (case hd => rfl); (case hg => rfl); (case hr => exact TS); intro gb129 hg w3 hbox hb; have BK129 := Aside0.mk (hbox); have GW129 := Aside0.mk ((TG : w.heap.size ≤ gb129)); have GE129 := Aside0.mk ((TG : w.heap.size ≤ gb129)); replace HB := Aside0.mk (below_step TB hb); clear hb hbox hg; have hcz4_0 := cz BK129.out 0; have hcz4_1 := cz BK129.out 1; have hfz4_0 := fz BK129.out 0; have hfz4_1 := fz BK129.out 1))
 refine bodyPost_ret (results_cell_row rfl _ _ gb129 24 #[.int .i64 a0, .int .i64 a1] (0, 0) _ rfl (by (with_reducible repeat (first | refine blk_drewN ?_ _ | refine blk_drew ?_ | refine blk_alloc ?_ _)); refine blk_put (cs := #[.int .i64 a0, .int .i64 0]) ?_ 1 _ rfl; (with_reducible repeat (first | refine blk_drewN ?_ _ | refine blk_drew ?_ | refine blk_alloc ?_ _)); refine blk_put (cs := #[.int .i64 0, .int .i64 0]) ?_ 0 _ rfl; (with_reducible repeat (first | refine blk_drewN ?_ _ | refine blk_drew ?_ | refine blk_alloc ?_ _)); exact BK129.out) Tryd.underlying24 rfl (by kernel_rfl)) rfl ?_
 exact ⟨TR, TB1 GE129.out⟩
/-! ### saronlaw03_key: function 48 -/
def saronlaw03_key.f (a0 : Int) (a1 : Int) (a2 : Int) : Option (Int × Int × Int) := (saronref00_Band.f a0 a1).bind fun bt131 => (some (bt131.1, bt131.2, a2))
set_option maxHeartbeats 8000000 in
set_option maxRecDepth 100000 in
theorem saronlaw03_key.calls (a0 : Int) (a1 : Int) (a2 : Int) (r1 : Int) (r2 : Int) (r3 : Int) (w : World) (h : saronlaw03_key.f a0 a1 a2 = some (r1, r2, r3)) :
  Calls Tryd.prog 48 #[.int .i64 a0, .int .i64 a1, .int .i64 a2] w fun e w' => e = .returned (.agg #[.int .i64 r1, .int .i64 r2, .int .i64 r3]) ∧ Below w.heap.size w w' := by
 have hu69 := Tryd.underlying69
 have HB := Aside0.mk (Below.refl w.heap.size w)
 have H : ((saronref00_Band.f a0 a1).bind fun bt131 => (some (bt131.1, bt131.2, a2))) = some (r1, r2, r3) := h
 clear h
 replace H := Option.bind_eq_some_iff.mp H
 obtain ⟨⟨t131, t132⟩, A40, H⟩ := H
 replace H : (some (t131, t132, a2)) = some (r1, r2, r3) := H
 have A4 := Aside0.mk A40
 clear A40
 simp only [Option.some.injEq, Prod.mk.injEq] at H
 obtain ⟨rfl, rfl, rfl⟩ := H
 go_enter Tryd.func48, Tryd.ntmps48
 go_wp2_with (first | ((with_reducible refine gate_dst (N := 6) rfl ?_); refine box_event ?hg (N := 6) ?hd (cs := #[.int .i64 0, .int .i64 0, .int .i64 0]) (t := 69) ?hr ?_; (case hd => rfl); (case hg => rfl); (case hr => exact TS); intro gb130 hg w5 hbox hb; have BK130 := Aside0.mk (hbox); have GW130 := Aside0.mk ((TG : w.heap.size ≤ gb130)); have GE130 := Aside0.mk ((TG : w.heap.size ≤ gb130)); replace HB := Aside0.mk (below_step TB hb); clear hb hbox hg) | ((with_reducible refine gate_callee (f := 44) rfl ?_); refine goesL_ (some 9) rfl rfl Tryd.func44 (by kernel_rfl) rfl #[.int .i64 a0, .int .i64 a1] rfl TM ?_; (with_reducible refine (saronref00_Band.calls a0 a1 t131 t132 _ A4.out).mono ?_); rintro e w6 ⟨rfl, hb⟩; refine ⟨_, rfl, ?_⟩; replace BK130 := Aside0.mk (TKb hb BK130.out); replace HB := Aside0.mk (below_step (TB1 GE130.out) hb); (try clear hb); (try clear hb2); (try clear hk); (try clear hi); have hcz7_0 := cz BK130.out 0; have hcz7_1 := cz BK130.out 1; have hcz7_2 := cz BK130.out 2; have hfz7_0 := fz BK130.out 0; have hfz7_1 := fz BK130.out 1; have hfz7_2 := fz BK130.out 2))
 refine bodyPost_ret (results_cell_row rfl _ _ gb130 69 #[.int .i64 t131, .int .i64 t132, .int .i64 a2] (0, 0) _ rfl (by (with_reducible repeat (first | refine blk_drewN ?_ _ | refine blk_drew ?_ | refine blk_alloc ?_ _)); refine blk_put (cs := #[.int .i64 t131, .int .i64 t132, .int .i64 0]) ?_ 2 _ rfl; (with_reducible repeat (first | refine blk_drewN ?_ _ | refine blk_drew ?_ | refine blk_alloc ?_ _)); refine blk_put (cs := #[.int .i64 t131, .int .i64 0, .int .i64 0]) ?_ 1 _ rfl; (with_reducible repeat (first | refine blk_drewN ?_ _ | refine blk_drew ?_ | refine blk_alloc ?_ _)); refine blk_put (cs := #[.int .i64 0, .int .i64 0, .int .i64 0]) ?_ 0 _ rfl; (with_reducible repeat (first | refine blk_drewN ?_ _ | refine blk_drew ?_ | refine blk_alloc ?_ _)); exact BK130.out) Tryd.underlying69 rfl (by kernel_rfl)) rfl ?_
 exact ⟨TR, TB1 GE130.out⟩
/-! ### saronlaw03_shop: function 50 -/
def saronlaw03_shop.f  : Option ((List (S57)) × Int × Int × (List (S69))) := (saronref00_Band.f (-6) (-4)).bind fun bt134 => ((saronref00_Band.f 2 3).bind fun bt136 => ((saronref00_Band.f (-2) 2).bind fun bt141 => ((saronlaw03_key.f 5 9 6).bind fun bt143 => ((saronlaw03_key.f (-7) (-5) 3).bind fun bt146 => ((saronlaw03_key.f 20 21 6).bind fun bt149 => (some ((([(⟨(⟨bt134.1, bt134.2⟩ : S24), 2⟩ : S57), (⟨(⟨bt136.1, bt136.2⟩ : S24), 1⟩ : S57)] : List (S57))), bt141.1, bt141.2, (([(⟨(⟨bt143.1, bt143.2.1⟩ : S24), bt143.2.2⟩ : S69), (⟨(⟨bt146.1, bt146.2.1⟩ : S24), bt146.2.2⟩ : S69), (⟨(⟨bt149.1, bt149.2.1⟩ : S24), bt149.2.2⟩ : S69)] : List (S69))))))))))
set_option maxHeartbeats 8000000 in
set_option maxRecDepth 100000 in
theorem saronlaw03_shop.calls  (r1 : List (S57)) (r2 : Int) (r3 : Int) (r4 : List (S69)) (w : World) (h : saronlaw03_shop.f  = some (r1, r2, r3, r4)) :
  Calls Tryd.prog 50 #[] w fun e w' => ∃ v0_ v3_ : Value, e = .returned (.agg #[v0_, .int .i64 r2, .int .i64 r3, v3_]) ∧ Kd.R k57 57 w' w.heap.size (fun _ => True) v0_ r1 ∧ Kd.R k69 69 w' w.heap.size (fun _ => True) v3_ r4 ∧ Below w.heap.size w w' := by
 have hu27 := Tryd.underlying27
 have hu57 := Tryd.underlying57
 have HB := Aside0.mk (Below.refl w.heap.size w)
 have H : ((saronref00_Band.f (-6) (-4)).bind fun bt134 => ((saronref00_Band.f 2 3).bind fun bt136 => ((saronref00_Band.f (-2) 2).bind fun bt141 => ((saronlaw03_key.f 5 9 6).bind fun bt143 => ((saronlaw03_key.f (-7) (-5) 3).bind fun bt146 => ((saronlaw03_key.f 20 21 6).bind fun bt149 => (some ((([(⟨(⟨bt134.1, bt134.2⟩ : S24), 2⟩ : S57), (⟨(⟨bt136.1, bt136.2⟩ : S24), 1⟩ : S57)] : List (S57))), bt141.1, bt141.2, (([(⟨(⟨bt143.1, bt143.2.1⟩ : S24), bt143.2.2⟩ : S69), (⟨(⟨bt146.1, bt146.2.1⟩ : S24), bt146.2.2⟩ : S69), (⟨(⟨bt149.1, bt149.2.1⟩ : S24), bt149.2.2⟩ : S69)] : List (S69))))))))))) = some (r1, r2, r3, r4) := h
 clear h
 replace H := Option.bind_eq_some_iff.mp H
 obtain ⟨⟨t134, t135⟩, A10, H⟩ := H
 replace H : ((saronref00_Band.f 2 3).bind fun bt136 => ((saronref00_Band.f (-2) 2).bind fun bt141 => ((saronlaw03_key.f 5 9 6).bind fun bt143 => ((saronlaw03_key.f (-7) (-5) 3).bind fun bt146 => ((saronlaw03_key.f 20 21 6).bind fun bt149 => (some ((([(⟨(⟨t134, t135⟩ : S24), 2⟩ : S57), (⟨(⟨bt136.1, bt136.2⟩ : S24), 1⟩ : S57)] : List (S57))), bt141.1, bt141.2, (([(⟨(⟨bt143.1, bt143.2.1⟩ : S24), bt143.2.2⟩ : S69), (⟨(⟨bt146.1, bt146.2.1⟩ : S24), bt146.2.2⟩ : S69), (⟨(⟨bt149.1, bt149.2.1⟩ : S24), bt149.2.2⟩ : S69)] : List (S69)))))))))) = some (r1, r2, r3, r4) := H
 have A1 := Aside0.mk A10
 clear A10
 replace H := Option.bind_eq_some_iff.mp H
 obtain ⟨⟨t136, t137⟩, A20, H⟩ := H
 replace H : ((saronref00_Band.f (-2) 2).bind fun bt141 => ((saronlaw03_key.f 5 9 6).bind fun bt143 => ((saronlaw03_key.f (-7) (-5) 3).bind fun bt146 => ((saronlaw03_key.f 20 21 6).bind fun bt149 => (some ((([(⟨(⟨t134, t135⟩ : S24), 2⟩ : S57), (⟨(⟨t136, t137⟩ : S24), 1⟩ : S57)] : List (S57))), bt141.1, bt141.2, (([(⟨(⟨bt143.1, bt143.2.1⟩ : S24), bt143.2.2⟩ : S69), (⟨(⟨bt146.1, bt146.2.1⟩ : S24), bt146.2.2⟩ : S69), (⟨(⟨bt149.1, bt149.2.1⟩ : S24), bt149.2.2⟩ : S69)] : List (S69))))))))) = some (r1, r2, r3, r4) := H
 have A2 := Aside0.mk A20
 clear A20
 obtain ⟨y138, hy138⟩ : ∃ y_ : List (S57), y_ = (([(⟨(⟨t134, t135⟩ : S24), 2⟩ : S57), (⟨(⟨t136, t137⟩ : S24), 1⟩ : S57)] : List (S57))) := ⟨_, rfl⟩
 replace H : ((saronref00_Band.f (-2) 2).bind fun bt141 => ((saronlaw03_key.f 5 9 6).bind fun bt143 => ((saronlaw03_key.f (-7) (-5) 3).bind fun bt146 => ((saronlaw03_key.f 20 21 6).bind fun bt149 => (some (y138, bt141.1, bt141.2, (([(⟨(⟨bt143.1, bt143.2.1⟩ : S24), bt143.2.2⟩ : S69), (⟨(⟨bt146.1, bt146.2.1⟩ : S24), bt146.2.2⟩ : S69), (⟨(⟨bt149.1, bt149.2.1⟩ : S24), bt149.2.2⟩ : S69)] : List (S69))))))))) = some (r1, r2, r3, r4) := by first | (rw [hy138]; with_reducible exact H) | (have H2_ := (Option.bind_some _ _).symm.trans H; rw [hy138]; with_reducible exact H2_) | (have H2_ := (Option.bind_some _ _).symm.trans H; with_reducible exact H2_) | with_reducible exact H | (rw [hy138]; exact H) | exact H
 have Ny138 := Aside0.mk hy138
 clear hy138
 replace H := Option.bind_eq_some_iff.mp H
 obtain ⟨⟨t141, t142⟩, A30, H⟩ := H
 replace H : ((saronlaw03_key.f 5 9 6).bind fun bt143 => ((saronlaw03_key.f (-7) (-5) 3).bind fun bt146 => ((saronlaw03_key.f 20 21 6).bind fun bt149 => (some (y138, t141, t142, (([(⟨(⟨bt143.1, bt143.2.1⟩ : S24), bt143.2.2⟩ : S69), (⟨(⟨bt146.1, bt146.2.1⟩ : S24), bt146.2.2⟩ : S69), (⟨(⟨bt149.1, bt149.2.1⟩ : S24), bt149.2.2⟩ : S69)] : List (S69)))))))) = some (r1, r2, r3, r4) := H
 have A3 := Aside0.mk A30
 clear A30
 replace H := Option.bind_eq_some_iff.mp H
 obtain ⟨⟨t143, t144, t145⟩, A40, H⟩ := H
 replace H : ((saronlaw03_key.f (-7) (-5) 3).bind fun bt146 => ((saronlaw03_key.f 20 21 6).bind fun bt149 => (some (y138, t141, t142, (([(⟨(⟨t143, t144⟩ : S24), t145⟩ : S69), (⟨(⟨bt146.1, bt146.2.1⟩ : S24), bt146.2.2⟩ : S69), (⟨(⟨bt149.1, bt149.2.1⟩ : S24), bt149.2.2⟩ : S69)] : List (S69))))))) = some (r1, r2, r3, r4) := H
 have A4 := Aside0.mk A40
 clear A40
 replace H := Option.bind_eq_some_iff.mp H
 obtain ⟨⟨t146, t147, t148⟩, A50, H⟩ := H
 replace H : ((saronlaw03_key.f 20 21 6).bind fun bt149 => (some (y138, t141, t142, (([(⟨(⟨t143, t144⟩ : S24), t145⟩ : S69), (⟨(⟨t146, t147⟩ : S24), t148⟩ : S69), (⟨(⟨bt149.1, bt149.2.1⟩ : S24), bt149.2.2⟩ : S69)] : List (S69)))))) = some (r1, r2, r3, r4) := H
 have A5 := Aside0.mk A50
 clear A50
 replace H := Option.bind_eq_some_iff.mp H
 obtain ⟨⟨t149, t150, t151⟩, A60, H⟩ := H
 replace H : (some (y138, t141, t142, (([(⟨(⟨t143, t144⟩ : S24), t145⟩ : S69), (⟨(⟨t146, t147⟩ : S24), t148⟩ : S69), (⟨(⟨t149, t150⟩ : S24), t151⟩ : S69)] : List (S69))))) = some (r1, r2, r3, r4) := H
 have A6 := Aside0.mk A60
 clear A60
 obtain ⟨y152, hy152⟩ : ∃ y_ : List (S69), y_ = (([(⟨(⟨t143, t144⟩ : S24), t145⟩ : S69), (⟨(⟨t146, t147⟩ : S24), t148⟩ : S69), (⟨(⟨t149, t150⟩ : S24), t151⟩ : S69)] : List (S69))) := ⟨_, rfl⟩
 replace H : (some (y138, t141, t142, y152)) = some (r1, r2, r3, r4) := by first | (rw [hy152]; with_reducible exact H) | (have H2_ := (Option.bind_some _ _).symm.trans H; rw [hy152]; with_reducible exact H2_) | (have H2_ := (Option.bind_some _ _).symm.trans H; with_reducible exact H2_) | with_reducible exact H | (rw [hy152]; exact H) | exact H
 have Ny152 := Aside0.mk hy152
 clear hy152
 simp only [Option.some.injEq, Prod.mk.injEq] at H
 obtain ⟨rfl, rfl, rfl, rfl⟩ := H
 go_enter Tryd.func50, Tryd.ntmps50
 go_wp2_with (first | ((with_reducible refine gate_dst (N := 0) rfl ?_); refine box_event ?hg (N := 0) ?hd (cs := #[.slice none 0 0, .int .i64 0, .int .i64 0, .slice none 0 0]) (t := 27) ?hr ?_; (case hd => rfl); (case hg => rfl); (case hr => exact TS); intro gb133 hg w7 hbox hb; have BK133 := Aside0.mk (hbox); have GW133 := Aside0.mk ((TG : w.heap.size ≤ gb133)); have GE133 := Aside0.mk ((TG : w.heap.size ≤ gb133)); replace HB := Aside0.mk (below_step TB hb); clear hb hbox hg) | ((with_reducible refine gate_callee (f := 44) rfl ?_); refine goesL_ (some 1) rfl rfl Tryd.func44 (by kernel_rfl) rfl #[.int .i64 (-6), .int .i64 (-4)] rfl TM ?_; (with_reducible refine (saronref00_Band.calls (-6) (-4) t134 t135 _ A1.out).mono ?_); rintro e w8 ⟨rfl, hb⟩; refine ⟨_, rfl, ?_⟩; replace BK133 := Aside0.mk (TKb hb BK133.out); replace HB := Aside0.mk (below_step (TB1 GE133.out) hb); (try clear hb); (try clear hb2); (try clear hk); (try clear hi)) | ((with_reducible refine gate_callee (f := 44) rfl ?_); refine goesL_ (some 3) rfl rfl Tryd.func44 (by kernel_rfl) rfl #[.int .i64 2, .int .i64 3] rfl TM ?_; (with_reducible refine (saronref00_Band.calls 2 3 t136 t137 _ A2.out).mono ?_); rintro e w9 ⟨rfl, hb⟩; refine ⟨_, rfl, ?_⟩; replace BK133 := Aside0.mk (TKb hb BK133.out); replace HB := Aside0.mk (below_step (TB1 GE133.out) hb); (try clear hb); (try clear hb2); (try clear hk); (try clear hi)) | ((with_reducible refine gate_dst (N := 5) rfl ?_); refine Kd.R_lit k57 _ 57 ?hg (N := 5) ?hd (xs := ([(⟨(⟨t134, t135⟩ : S24), 2⟩ : S57), (⟨(⟨t136, t137⟩ : S24), 1⟩ : S57)] : List (S57))) (inner := [.int .i64 t134, .int .i64 t135, .int .i64 2, .int .i64 t136, .int .i64 t137, .int .i64 1]) (ok := fun _ => True) (okp := fun _ => True) ?hr ?hp (fun _ hk => hk) trivial (Below.refl _ _) (Nat.le_refl _) (by simp) ?_; (case hd => rfl); (case hg => rfl); (case hr => exact TS); (case hp => exact (Reps.c3 (show Kd.M k57 _ _ _ (⟨(⟨t134, t135⟩ : S24), 2⟩ : S57) [.int .i64 t134, .int .i64 t135, .int .i64 2] from (k57_mkM _ _ _ (⟨(⟨t134, t135⟩ : S24), 2⟩ : S57) )) (Reps.c3 (show Kd.M k57 _ _ _ (⟨(⟨t136, t137⟩ : S24), 1⟩ : S57) [.int .i64 t136, .int .i64 t137, .int .i64 1] from (k57_mkM _ _ _ (⟨(⟨t136, t137⟩ : S24), 1⟩ : S57) )) (Reps.none _ _)))); intro v139 w10 ho11 hb hg_ hnew_; clear hg_ hnew_; (first | rw [← Ny138.out] at ho11 | (simp only [Int.reduceToNat] at ho11; rw [← Ny138.out] at ho11)); have HO140 := Aside0.mk (Kd.R_lower ho11 (below_size (TB1 GE133.out))); replace BK133 := Aside0.mk (TKb hb BK133.out); replace HB := Aside0.mk (below_step (TB1 GE133.out) hb); clear hb ho11) | ((with_reducible refine gate_callee (f := 44) rfl ?_); refine goesL_ (some 6) rfl rfl Tryd.func44 (by kernel_rfl) rfl #[.int .i64 (-2), .int .i64 2] rfl TM ?_; (with_reducible refine (saronref00_Band.calls (-2) 2 t141 t142 _ A3.out).mono ?_); rintro e w12 ⟨rfl, hb⟩; refine ⟨_, rfl, ?_⟩; replace HO140 := Aside0.mk (Kd.R_below (TRo HO140.out) hb); replace BK133 := Aside0.mk (TKb hb BK133.out); replace HB := Aside0.mk (below_step (TB1 GE133.out) hb); (try clear hb); (try clear hb2); (try clear hk); (try clear hi)) | ((with_reducible refine gate_callee (f := 48) rfl ?_); refine goesL_ (some 7) rfl rfl Tryd.func48 (by kernel_rfl) rfl #[.int .i64 5, .int .i64 9, .int .i64 6] rfl TM ?_; (with_reducible refine (saronlaw03_key.calls 5 9 6 t143 t144 t145 _ A4.out).mono ?_); rintro e w13 ⟨rfl, hb⟩; refine ⟨_, rfl, ?_⟩; replace HO140 := Aside0.mk (Kd.R_below (TRo HO140.out) hb); replace BK133 := Aside0.mk (TKb hb BK133.out); replace HB := Aside0.mk (below_step (TB1 GE133.out) hb); (try clear hb); (try clear hb2); (try clear hk); (try clear hi)) | ((with_reducible refine gate_callee (f := 48) rfl ?_); refine goesL_ (some 8) rfl rfl Tryd.func48 (by kernel_rfl) rfl #[.int .i64 (-7), .int .i64 (-5), .int .i64 3] rfl TM ?_; (with_reducible refine (saronlaw03_key.calls (-7) (-5) 3 t146 t147 t148 _ A5.out).mono ?_); rintro e w14 ⟨rfl, hb⟩; refine ⟨_, rfl, ?_⟩; replace HO140 := Aside0.mk (Kd.R_below (TRo HO140.out) hb); replace BK133 := Aside0.mk (TKb hb BK133.out); replace HB := Aside0.mk (below_step (TB1 GE133.out) hb); (try clear hb); (try clear hb2); (try clear hk); (try clear hi)) | ((with_reducible refine gate_callee (f := 48) rfl ?_); refine goesL_ (some 9) rfl rfl Tryd.func48 (by kernel_rfl) rfl #[.int .i64 20, .int .i64 21, .int .i64 6] rfl TM ?_; (with_reducible refine (saronlaw03_key.calls 20 21 6 t149 t150 t151 _ A6.out).mono ?_); rintro e w15 ⟨rfl, hb⟩; refine ⟨_, rfl, ?_⟩; replace HO140 := Aside0.mk (Kd.R_below (TRo HO140.out) hb); replace BK133 := Aside0.mk (TKb hb BK133.out); replace HB := Aside0.mk (below_step (TB1 GE133.out) hb); (try clear hb); (try clear hb2); (try clear hk); (try clear hi)) | ((with_reducible refine gate_dst (N := 10) rfl ?_); refine Kd.R_lit k69 _ 69 ?hg (N := 10) ?hd (xs := ([(⟨(⟨t143, t144⟩ : S24), t145⟩ : S69), (⟨(⟨t146, t147⟩ : S24), t148⟩ : S69), (⟨(⟨t149, t150⟩ : S24), t151⟩ : S69)] : List (S69))) (inner := [.int .i64 t143, .int .i64 t144, .int .i64 t145, .int .i64 t146, .int .i64 t147, .int .i64 t148, .int .i64 t149, .int .i64 t150, .int .i64 t151]) (ok := fun _ => True) (okp := fun _ => True) ?hr ?hp (fun _ hk => hk) trivial (Below.refl _ _) (Nat.le_refl _) (by simp) ?_; (case hd => rfl); (case hg => rfl); (case hr => exact TS); (case hp => exact (Reps.c3 (show Kd.M k69 _ _ _ (⟨(⟨t143, t144⟩ : S24), t145⟩ : S69) [.int .i64 t143, .int .i64 t144, .int .i64 t145] from (k69_mkM _ _ _ (⟨(⟨t143, t144⟩ : S24), t145⟩ : S69) )) (Reps.c3 (show Kd.M k69 _ _ _ (⟨(⟨t146, t147⟩ : S24), t148⟩ : S69) [.int .i64 t146, .int .i64 t147, .int .i64 t148] from (k69_mkM _ _ _ (⟨(⟨t146, t147⟩ : S24), t148⟩ : S69) )) (Reps.c3 (show Kd.M k69 _ _ _ (⟨(⟨t149, t150⟩ : S24), t151⟩ : S69) [.int .i64 t149, .int .i64 t150, .int .i64 t151] from (k69_mkM _ _ _ (⟨(⟨t149, t150⟩ : S24), t151⟩ : S69) )) (Reps.none _ _))))); intro v153 w16 ho17 hb hg_ hnew_; clear hg_ hnew_; (first | rw [← Ny152.out] at ho17 | (simp only [Int.reduceToNat] at ho17; rw [← Ny152.out] at ho17)); have HO154 := Aside0.mk (Kd.R_lower ho17 (below_size (TB1 GE133.out))); replace HO140 := Aside0.mk (Kd.R_below (TRo HO140.out) hb); replace BK133 := Aside0.mk (TKb hb BK133.out); replace HB := Aside0.mk (below_step (TB1 GE133.out) hb); clear hb ho17; obtain ⟨Ao18, co18, eo18⟩ := Kd.R_slice HO154.out; subst eo18; obtain ⟨Ao19, co19, eo19⟩ := Kd.R_slice HO140.out; subst eo19; have hcz20_0 := cz BK133.out 0; have hcz20_1 := cz BK133.out 1; have hcz20_2 := cz BK133.out 2; have hcz20_3 := cz BK133.out 3; have hfz20_0 := fz BK133.out 0; have hfz20_1 := fz BK133.out 1; have hfz20_2 := fz BK133.out 2; have hfz20_3 := fz BK133.out 3))
 refine bodyPost_ret (results_cell_row rfl _ _ gb133 27 #[.slice Ao19 y138.length co19, .int .i64 t141, .int .i64 t142, .slice Ao18 y152.length co18] (0, 0) _ rfl (by (with_reducible repeat (first | refine blk_drewN ?_ _ | refine blk_drew ?_ | refine blk_alloc ?_ _)); refine blk_put (cs := #[.slice Ao19 y138.length co19, .int .i64 t141, .int .i64 t142, .slice none 0 0]) ?_ 3 _ rfl; (with_reducible repeat (first | refine blk_drewN ?_ _ | refine blk_drew ?_ | refine blk_alloc ?_ _)); refine blk_put (cs := #[.slice Ao19 y138.length co19, .int .i64 t141, .int .i64 0, .slice none 0 0]) ?_ 2 _ rfl; (with_reducible repeat (first | refine blk_drewN ?_ _ | refine blk_drew ?_ | refine blk_alloc ?_ _)); refine blk_put (cs := #[.slice Ao19 y138.length co19, .int .i64 0, .int .i64 0, .slice none 0 0]) ?_ 1 _ rfl; (with_reducible repeat (first | refine blk_drewN ?_ _ | refine blk_drew ?_ | refine blk_alloc ?_ _)); refine blk_put (cs := #[.slice none 0 0, .int .i64 0, .int .i64 0, .slice none 0 0]) ?_ 0 _ rfl; (with_reducible repeat (first | refine blk_drewN ?_ _ | refine blk_drew ?_ | refine blk_alloc ?_ _)); exact BK133.out) Tryd.underlying27 rfl (by kernel_rfl)) rfl ?_
 exact ⟨_, _, TR, by (with_reducible repeat (first | apply Kd.R_alloc | apply Kd.R_drewN | apply Kd.R_drew)); exact Kd.R_mono (Kd.R_far (p := ⟨gb133, 3, none⟩) (Kd.R_far (p := ⟨gb133, 2, none⟩) (Kd.R_far (p := ⟨gb133, 1, none⟩) (Kd.R_far (p := ⟨gb133, 0, none⟩) (Kd.R_types HO140.out BK133.out (by decide)) (fun _ hk => hk.2) (.slice Ao19 y138.length co19)) (fun _ hk => hk.2) (.int .i64 t141)) (fun _ hk => hk.2) (.int .i64 t142)) (fun _ hk => hk.2) (.slice Ao18 y152.length co18)) (fun _ hk => trivial), by (with_reducible repeat (first | apply Kd.R_alloc | apply Kd.R_drewN | apply Kd.R_drew)); exact Kd.R_mono (Kd.R_far (p := ⟨gb133, 3, none⟩) (Kd.R_far (p := ⟨gb133, 2, none⟩) (Kd.R_far (p := ⟨gb133, 1, none⟩) (Kd.R_far (p := ⟨gb133, 0, none⟩) (Kd.R_types HO154.out BK133.out (by decide)) (fun _ hk => hk.2) (.slice Ao19 y138.length co19)) (fun _ hk => hk.2) (.int .i64 t141)) (fun _ hk => hk.2) (.int .i64 t142)) (fun _ hk => hk.2) (.slice Ao18 y152.length co18)) (fun _ hk => trivial), TB1 GE133.out⟩
end Go.Proofs.YtfmpbkolpjlfbaaDoor.PRaspKeys
