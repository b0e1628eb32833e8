import Derived.Test.YtfdenclnneigfaaDoorB
import Derived.Test.YtfdenclnneigfaaDoorX
import Derived.Test.YtfdenclnneigfaaDoorM0
import Derived.Lib.Hide
import Derived.Handy
import Derived.WalkSpells
import Derived.StillTailTactics
import Derived.Deep.DeepFit
import Derived.Outline
import Derived.LoopIn
import Derived.LoopNIn
import Derived.TacticsInMore
import Derived.OwnWalkIn
import Derived.WalkKit
import Derived.Shelf.RegionOpen
import Derived.Shelf.Abstract
import Derived.KernelRfl
set_option linter.unusedVariables false
set_option linter.unusedSimpArgs false
namespace Go.Proofs.YtfdenclnneigfaaDoor.R
open Go.RowKit Go.Shelf Go.Proofs.YtfdenclnneigfaaDoorW.PrintWords Go.Proofs.YtfdenclnneigfaaDoorW.PrintLast Go.Proofs.YtfdenclnneigfaaDoor.PRaspKeys Go.Proofs.YtfdenclnneigfaaDoor.X Go.Proofs.YtfdenclnneigfaaDoor.M
attribute [local go_sem] Oper.semAt_some
/-! ### Values -/
abbrev bookV (g : Int) (A : Option Addr) (n c : Nat) (m : Option Nat) : Value := .agg #[.int .i64 g, .slice A n c, .map m]
abbrev bookC (g : Int) (A : Option Addr) (n c : Nat) (m : Option Nat) : Array Value := #[.int .i64 g, .slice A n c, .map m]
def gv (h : Nat → Bool) : Value := .agg #[.bool (h 0), .bool (h 1), .bool (h 2), .bool (h 3), .bool (h 4)]
def gc (h : Nat → Bool) : Array Value := #[.bool (h 0), .bool (h 1), .bool (h 2), .bool (h 3), .bool (h 4)]
theorem gc_at (h : Nat → Bool) (i : Nat) (hi : i < 5) : (gc h)[i]? = some (.bool (h i)) := by
 match i, hi with
 | 0, _ | 1, _ | 2, _ | 3, _ | 4, _ => rfl
theorem gc_set (f g : Nat → Bool) (n : Nat) (h : n < 5) (hg : ∀ i, i ≠ n → g i = f i) : (gc f).setIfInBounds n (.bool (g n)) = gc g := by
 match n, h, hg with
 | 0, _, hg | 1, _, hg | 2, _, hg | 3, _, hg | 4, _, hg => simp [gc, hg]
def isIn (n lo hi : Int) : Bool := decide (lo ≤ n) && decide (n ≤ hi)
theorem isIn_iff {n lo hi : Int} : isIn n lo hi = true ↔ lo ≤ n ∧ n ≤ hi := by unfold isIn; rw [Bool.and_eq_true, decide_eq_true_eq, decide_eq_true_eq]
theorem lies_f (n lo hi : Int) : cycle_lies.f n lo hi = some (isIn n lo hi) := by
 unfold cycle_lies.f isIn
 by_cases c : lo ≤ n
 ·rw [if_pos c]; simp [c]
 ·rw [if_neg c]; simp [c]
theorem lies_any (n lo hi : Int) (w : World) : Calls Tryd.prog 84 #[.int .i64 n, .int .i64 lo, .int .i64 hi] w fun e w' => e = .returned (.bool (isIn n lo hi)) ∧ Fr0 w w' :=
 (cycle_lies.calls n lo hi _ w (lies_f n lo hi)).mono fun e w' h => ⟨h.1, by obtain ⟨nd, rfl⟩ := h.2; exact (Fr.refl _ _).drewN _⟩
/-! ### The rows of a book -/
def row (l : List S114) (f : Int) (g : Nat) : List Int := (rd_T114 l f).f1.getD g []
def hits (l : List S114) (f b : Int) (g : Nat) : Bool := (row l f g).contains b
/-- The globals: both sides. -/
structure Glob (w : World) : Prop where
 g0 : w.cell? ⟨0, 0, none⟩ = some (.func (.func 127) #[] #[])
 g1 : w.cell? ⟨0, 1, none⟩ = some (.func (.func 128) #[] #[])
theorem Glob.fr {w w' : World} (h : Glob w) (hf : Fr0 w w') : Glob w' := ⟨hf.cell0 h.g0, hf.cell0 h.g1⟩
theorem Fr0.trans {a b c : World} (h : Fr0 a b) (k : Fr0 b c) : Fr0 a c := Fr.trans h k
theorem C_fr {α : Type} {d : Kd α} {w w' : World} {A : Option Addr} {n : Nat} {xs : List α} (h : d.C w A n xs) (hf : Fr0 w w') : d.C w' A n xs := Kd.C_below h (hf.below (Nat.le_refl _) (fun _ _ h => h))
/-- A book, its rows and its map. -/
structure St (g : Int) (A : Option Addr) (c : Nat) (l : List S114) (mb : Nat) (w : World) : Prop where
 r : Kd.C k114 w A l.length l
 c : l.length ≤ c
 m : ∃ f, MapFn w mb f ∧ ∀ a b : Int, 0 ≤ a → a < l.length → (f a b).getD (gv fun _ => false) = gv (hits l a b)
 glob : Glob w
theorem St.fr {g : Int} {A : Option Addr} {c : Nat} {l : List S114} {mb : Nat} {w w' : World} (h : St g A c l mb w) (hf : Fr0 w w') : St g A c l mb w' := by
 obtain ⟨f, hm, hv⟩ := h.m
 exact ⟨C_fr h.r hf, h.c, ⟨f, hm.same (hf.block _ hm.lt (fun h => h)), hv⟩, h.glob.fr hf⟩
/-- What a form's beats are. -/
structure Beats (l : List S114) : Prop where
 len : l.length ≤ 4
 two : ∀ f : Int, 0 ≤ f → f < l.length → 2 ≤ (rd_T114 l f).f0 ∧ (rd_T114 l f).f0 ≤ 32
theorem key38 : Key2 Tryd.prog 127 where
 und := ⟨_, Tryd.underlying127⟩
 chk := fun e w a b => by
  show (Instr.checkKey e (9998 + 1 + 1) 127 (k2 a b)).run Tryd.prog w = _
  have h3 : ∀ (v : Value) w, (Instr.checkKey e (9998 + 1) 3 v).run Tryd.prog w = .ok () w := fun v w => by
   unfold Instr.checkKey
   simp only [Sem.run_bind, run_underlying Tryd.underlying3, Result.andThen_ok]
   rfl
  unfold Instr.checkKey
  simp only [Sem.run_bind, run_underlying Tryd.underlying127, Result.andThen_ok, k2]
  simp [h3, go_sem]
 eq := fun w a b x y => by
  show (Op.equalIn 10000 127 (k2 a b) (k2 x y)).run Tryd.prog w = _
  refine eqA_of (d := 9999) Tryd.underlying127 (by kernel_rfl) ?_
  refine eqf_cons (by rfl) (by go_simp; rfl) (by go_simp; rfl) (by go_simp) ?_
  exact eqf_last (by rfl) (by go_simp; rfl) (by go_simp; rfl) (by go_simp)
theorem _root_.Go.Proofs.YtfdenclnneigfaaDoor.X.Bx.of_new {w : World} {g : Nat} {t : TypeId} {cs : Array Value} (h : g = w.heap.size) : Bx (w.alloc (.cells cs t)) g t cs := by subst h; exact Bx.new _ _ _
theorem zero89 (w : World) : (zeroValue 110).run Tryd.prog w = .ok (gv fun _ => false) w := by kernel_rfl
theorem rem_eq {a b : Int} (ha : 0 ≤ a) : Int.tmod a b = a % b := Int.tmod_eq_emod_of_nonneg ha
theorem five_set {W : World} {g : Nat} {a0 a1 a2 a3 a4 : Value} (h : Bx W g 110 #[a0, a1, a2, a3, a4]) (b0 b1 b2 b3 b4 : Value) :
  Bx (((((W.setCell ⟨g, 0, none⟩ b0).setCell ⟨g, 1, none⟩ b1).setCell ⟨g, 2, none⟩ b2).setCell ⟨g, 3, none⟩ b3).setCell ⟨g, 4, none⟩ b4) g 110 #[b0, b1, b2, b3, b4] := by
 have h := ((((h.set_ 0 b0).set_ 1 b1).set_ 2 b2).set_ 3 b3).set_ 4 b4
 simp at h
 exact h
theorem res56 {w : World} {g : Nat} {b0 b1 b2 b3 b4 : Value} {tmps : Array Value} (h6 : tmps[6]?.getD undef = .pointer (some ⟨g, 0, none⟩)) (h : Bx w g 110 #[b0, b1, b2, b3, b4]) : (results Tryd.f81 tmps).run Tryd.prog w = .ok (.agg #[b0, b1, b2, b3, b4]) w := by
 have e0 := h.at_ 0 rfl
 have e1 := h.at_ 1 rfl
 have e2 := h.at_ 2 rfl
 have e3 := h.at_ 3 rfl
 have e4 := h.at_ 4 rfl
 simp only [results, Tryd.results81]
 simp [h6, go_sem, e0, e1, e2, e3, e4]
set_option maxHeartbeats 2000000 in
set_option maxRecDepth 100000 in
theorem at_any (g : Int) (A : Option Addr) (c : Nat) (l : List S114) (mb : Nat) (hl : Beats l) (form beat : Int) (w : World) (h : St g A c l mb w) (hf : 0 ≤ form) (hf' : form < l.length) (hb : 0 ≤ beat) (hb' : beat ≤ 1000000) :
  Calls Tryd.prog 81 #[bookV g A l.length c (some mb), .int .i64 form, .int .i64 beat] w fun e w' => e = .returned (gv (hits l form (beat % (rd_T114 l form).f0))) ∧ Fr0 w w' := by
 have HS := Lib.hid h
 obtain ⟨ad, A1, c1, rfl, hx0, -⟩ := at_T114 h.r form hf hf'
 have h2 := hl.two form hf hf'
 obtain ⟨f, hm, hv⟩ := h.m
 have hlk : ∀ W, Fr0 w W → (Instr.lookup 103 (.map (some mb)) (.agg #[.int .i64 form, .int .i64 (beat % (rd_T114 l form).f0)]) false).run Tryd.prog W = .ok (gv (hits l form (beat % (rd_T114 l form).f0))) W := fun W hW => by
  have := lookup_k2' key38 Tryd.underlying103 zero89 (hm.same (hW.block _ hm.lt (fun h => h))) form (beat % (rd_T114 l form).f0)
  rw [hv _ _ hf hf'] at this
  exact this
 have HL := Lib.hid hlk
 generalize hB : (rd_T114 l form).f0 = B at *
 have hp := Int.emod_nonneg beat (show B ≠ 0 by omega)
 have hlt := Int.emod_lt_of_pos beat (show 0 < B by omega)
 have hrem : beat.tmod B = beat % B := rem_eq hb
 have HREM := Lib.hid hrem
 clear h hm hv hlk hrem hB hl
 generalize hits l form (beat % B) = H at *
 unfold gv at *
 go_enter Tryd.func81, Tryd.ntmps81
 go_wp2
 have B0 := (Bx.new w 105 (bookC g (some ad) l.length c (some mb))).alloc (.cells #[.bool false, .bool false, .bool false, .bool false, .bool false] 110)
 have B1 : Bx ((w.alloc (.cells (bookC g (some ad) l.length c (some mb)) 105)).alloc (.cells #[.bool false, .bool false, .bool false, .bool false, .bool false] 110)) (w.heap.size + 1) 110 #[.bool false, .bool false, .bool false, .bool false, .bool false] := Bx.of_new (by simp)
 have hf0 : Fr0 w ((w.alloc (.cells (bookC g (some ad) l.length c (some mb)) 105)).alloc (.cells #[.bool false, .bool false, .bool false, .bool false, .bool false] 110)) := ((Fr.refl _ _).alloc _).alloc _
 have hx := hf0.cell0 hx0
 have b1 := B0.at_ 1 rfl
 have b2 := B0.at_ 2 rfl
 generalize hW : (w.alloc (.cells (bookC g (some ad) l.length c (some mb)) 105)).alloc (.cells #[.bool false, .bool false, .bool false, .bool false, .bool false] 110) = W at *
 have hB1 := Lib.hid B1
 clear B1 B0
 have q0 := hB1.out.at_ 0 rfl
 have z0 := hB1.out.frz 0
 have q1 := hB1.out.at_ 1 rfl
 have z1 := hB1.out.frz 1
 have q2 := hB1.out.at_ 2 rfl
 have z2 := hB1.out.frz 2
 have q3 := hB1.out.at_ 3 rfl
 have z3 := hB1.out.frz 3
 have q4 := hB1.out.at_ 4 rfl
 have z4 := hB1.out.frz 4
 have hB0 : ¬ B = 0 := by omega
 have hrem := HREM.out
 refine start_ (n := 15) (S := fun w' => w'.cell? ⟨w.heap.size, 1, none⟩ = some (.slice (some ad) l.length c) ∧ w'.cell? ⟨w.heap.size, 2, none⟩ = some (.map (some mb)) ∧ w'.cell? (ad.add (form.toNat * 2)) = some (.int .i64 B) ∧ (Instr.lookup 103 (.map (some mb)) (.agg #[.int .i64 form, .int .i64 (beat % B)]) false).run Tryd.prog w' = .ok (.agg #[.bool (H 0), .bool (H 1), .bool (H 2), .bool (H 3), .bool (H 4)]) w') (ds := [14]) (.replicate 15 false) (by kernel_rfl) rfl rfl ⟨b1, b2, hx, (HL.out _ (Fr.drew hf0))⟩ (fun hHeld => ?_)
 refine pu 0 7 (bt 15 1) (k := ?_)
 refine pu 2 9 (bt 15 5) (k := ?_)
 refine pu 3 10 (bt 15 13) (k := ?_)
 refine pu 4 11 (bt 15 29) (k := ?_)
 refine pu 5 12 (bt 15 61) (k := ?_)
 refine pu 7 14 (bt 15 189) (k := ?_)
 refine tk4 1 8 (bt 15 191) hHeld (k := ?_)
 refine tk4 6 13 (bt 15 255) hHeld (k := ?_)
 refine pu 8 15 (bt 15 511) (k := ?_)
 refine pu 9 16 (bt 15 1023) (k := ?_)
 refine tk4 10 17 (bt 15 2047) hHeld (k := ?_)
 refine pu 11 18 (bt 15 4095) (k := ?_)
 refine pu 12 19 (bt 15 8191) (k := ?_)
 refine tk4 13 20 (bt 15 16383) hHeld (k := ?_)
 refine last_ (i := 14) (N := none) (bt 15 32767) rfl rfl (by kernel_rfl) (by decide) (fun K hK => ?_)
 refine skip_ (w1 := ?_) (by rfl) rfl ?_ ?_
 rotate_left
 ·go_simp
  rfl
 refine hK.out _ _ ?_
 clear hK K
 refine done_ (by kernel_rfl) ?_
 clear q0 q1 q2 q3 q4 z0 z1 z2 z3 z4 hrem hB0 b1 b2 hx
 go_wp2
 refine bodyPost_ret (res56 rfl (five_set hB1.out _ _ _ _ _)) rfl ⟨rfl, ?_⟩
 repeat (first | exact hf0 | apply Fr.drew | (refine Fr.setCell ?_ (.inr (by simp)) _))
end Go.Proofs.YtfdenclnneigfaaDoor.R
namespace Go.Proofs.YtfdenclnneigfaaDoor.R
open Go.RowKit Go.Shelf Go.Proofs.YtfdenclnneigfaaDoorW.PrintWords Go.Proofs.YtfdenclnneigfaaDoorW.PrintLast Go.Proofs.YtfdenclnneigfaaDoor.PRaspKeys Go.Proofs.YtfdenclnneigfaaDoor.X Go.Proofs.YtfdenclnneigfaaDoor.M
attribute [local go_sem] Oper.semAt_some
theorem eq89 (b0 b1 b2 b3 b4 : Bool) (w : World) : (Op.equalIn 10000 110 (.agg #[.bool b0, .bool b1, .bool b2, .bool b3, .bool b4]) (.agg #[.bool false, .bool false, .bool false, .bool false, .bool false])).run Tryd.prog w = .ok (!(b0 || b1 || b2 || b3 || b4)) w := by
 cases b0 <;> cases b1 <;> cases b2 <;> cases b3 <;> cases b4 <;> kernel_rfl
def lst (h : Nat → Bool) : Nat → List Int
 | 0 => []
 | n + 1 => if h n = true then lst h n ++ [(n : Int)] else lst h n
theorem lst_len (h : Nat → Bool) : ∀ n, (lst h n).length ≤ n
 | 0 => by simp [lst]
 | n + 1 => by
  have := lst_len h n
  unfold lst
  split
  ·simp; omega
  ·omega
def anyG (h : Nat → Bool) : Bool := h 0 || h 1 || h 2 || h 3 || h 4
theorem lst_none {h : Nat → Bool} (ha : anyG h = false) : lst h 5 = [] := by
 unfold anyG at ha
 simp only [Bool.or_eq_false_iff] at ha
 obtain ⟨⟨⟨⟨h0, h1⟩, h2⟩, h3⟩, h4⟩ := ha
 simp [lst, h0, h1, h2, h3, h4]
set_option maxHeartbeats 2000000 in
set_option maxRecDepth 100000 in
theorem list_any (h : Nat → Bool) (w : World) :
  Calls Tryd.prog 82 #[gv h] w fun e w' => ∃ v, e = .returned v ∧ Kd.R (Kd.int .i64) 3 w' w.heap.size (fun k => w.heap.size ≤ k) v (lst h 5) ∧ Fr0 w w' := by
 have heq : ∀ w' : World, (Op.equalIn 10000 110 (.agg #[.bool (h 0), .bool (h 1), .bool (h 2), .bool (h 3), .bool (h 4)]) (.agg #[.bool false, .bool false, .bool false, .bool false, .bool false])).run Tryd.prog w' = .ok (!anyG h) w' := fun w' => eq89 _ _ _ _ _ w'
 unfold gv
 by_cases hany : anyG h = true
 ·go_enter Tryd.func82, Tryd.ntmps82
  go_wp2
  have hf0 : Fr0 w (w.alloc (.cells #[.bool (h 0), .bool (h 1), .bool (h 2), .bool (h 3), .bool (h 4)] 110)) := (Fr.refl _ _).alloc _
  have HF0 := Lib.hid hf0
  clear heq hf0 hany
  generalize hW8 : w.alloc (.cells #[.bool (h 0), .bool (h 1), .bool (h 2), .bool (h 3), .bool (h 4)] 110) = W8 at *
  clear hW8
  have HLEN := Lib.hid (lst_len h)
  have HST := Lib.hid (show ∀ n, lst h (n + 1) = if h n = true then lst h n ++ [(n : Int)] else lst h n from fun _ => rfl)
  have hix : ∀ (n : Nat) (w' : World), n < 5 → (Instr.index 110 (.agg #[.bool (h 0), .bool (h 1), .bool (h 2), .bool (h 3), .bool (h 4)]) (.int .i64 n)).run Tryd.prog w' = .ok (.bool (h n)) w' := fun n w' hn => by
   rcases (show n = 0 ∨ n = 1 ∨ n = 2 ∨ n = 3 ∨ n = 4 by omega) with rfl | rfl | rfl | rfl | rfl <;> kernel_rfl
  have HIX := Lib.hid hix
  clear hix
  go_loopw [3, 10] (fun v3 v10 wr => ∃ n : Nat, n ≤ 5 ∧ v10 = .int .i64 n ∧ Kd.R (Kd.int .i64) 3 wr W8.heap.size (fun k => W8.heap.size ≤ k) v3 (lst h n) ∧ Below W8.heap.size W8 wr) (fun _ v10 _ => (5 - intOf v10).toNat)
  case atStart => exact ⟨0, by omega, by rfl, Kd.R_nil _ _ _ _ _, Below.refl _ _⟩
  case round =>
   obtain ⟨n, hn, rfl, hR, hb⟩ := hrel
   have HR := Lib.hid hR
   have HBL := Lib.hid hb
   clear hR hb
   by_cases hlt : n < 5
   ·have hle : (n : Int) < 5 := by omega
    have hix := fun w' => HIX.out n w' hlt
    have HL := Lib.hid (HLEN.out n)
    have HSL := Lib.hid (HST.out n)
    generalize h n = sp at hix HSL
    generalize hxs : lst h n = xs at HR HSL HL
    clear hxs
    cases sp
    ·go_wp2
     refine ⟨⟨n + 1, by omega, by go_num, ?_, HBL.out⟩, by simp [intOf]; omega⟩
     rw [HSL.out]
     exact HR.out
    ·go_wp2_with (first | ((with_reducible refine gate_builtin (b := .append) (xs := #[.tmp 15, .tmp 17]) rfl ?_); at_builtin; refine Kd.R_append (Kd.int .i64) (w0 := W8) W8.heap.size rfl (.tmp 15) (.tmp 17) 28 3 (.int .i64 0) 8 rfl Tryd.underlying28 info3 rfl (by decide) (by omega) _ xs ((n : Int)) [.int .i64 (n : Int)] (fun k => W8.heap.size ≤ k) (fun _ => False) rfl rfl ?aP (fun _ hk => hk.elim) ?aF ?aO ?aB ?aS ?aL ?_; (case aP => exact rfl); (case aB => exact HBL.out); (case aF => exact (fun k hk => Nat.le_trans HBL.out.size hk)); (case aO => exact HR.out); (case aS => exact HBL.out.size); (case aL => have := HL.out; omega); intro v104 w6 ho hb hg hat))
     refine ⟨⟨n + 1, by omega, by go_num, ?_, hb⟩, by simp [intOf]; omega⟩
     rw [HSL.out]
     exact ho
   ·obtain rfl : n = 5 := by omega
    go_wp2
    go_ret
    exact ⟨_, rfl, Kd.R_mono (Kd.R_lower HR.out HF0.out.size) (fun k hk => Nat.le_trans HF0.out.size hk), HF0.out.trans (Fr.of_below HBL.out)⟩
 ·rw [Bool.not_eq_true] at hany
  have HN := Lib.hid (lst_none hany)
  go_enter Tryd.func82, Tryd.ntmps82
  go_wp2
  go_ret
  exact ⟨_, rfl, by rw [HN.out]; exact Kd.R_nil _ _ _ _ _, (Fr.refl _ _).alloc _⟩
end Go.Proofs.YtfdenclnneigfaaDoor.R
namespace Go.Proofs.YtfdenclnneigfaaDoor.R
open Go.RowKit Go.Proofs.YtfdenclnneigfaaDoorW.PrintWords Go.Proofs.YtfdenclnneigfaaDoorW.PrintLast Go.Proofs.YtfdenclnneigfaaDoorW.PrintMore Go.Proofs.YtfdenclnneigfaaDoor.PRaspKeys Go.Proofs.YtfdenclnneigfaaDoor.X Go.Proofs.YtfdenclnneigfaaDoor.M
/-! ### Small words -/
theorem w64 {x : Int} (h : -9223372036854775808 ≤ x) (h' : x ≤ 9223372036854775807) : wrap64 x = x := by unfold wrap64; omega
theorem evc {α : Type} {g f : Nat → Option α} {r : α} (h : ∀ k, g k = f k) (k : Ev f r) : Ev g r := Ev.congr h k
theorem ebind {α β : Type} {g : Nat → Option α} {f : Nat → α → Option β} {a : α} {r : β} (h : Ev g a) (k : Ev (fun n => f n a) r) : Ev (fun n => (g n).bind (f n)) r := Ev.bind h k
theorem ev_some {α : Type} {g : Nat → Option α} {r : α} (h : ∀ k, g k = some r) : Ev g r := ⟨0, fun k _ => h k⟩
theorem rd_nat (l : List Int) (n : Nat) : rd l (n : Int) = l.getD n 0 := by simp [rd]
/-! ### What a book is -/
def gr (below : Int) : Int → List Int → Bool
 | _, [] => true
 | last, x :: xs => isIn x (last + 1) (below - 1) && gr below x xs
def rowsOk (b : Int) (rows : List (List Int)) : Bool := rows.all (fun r => gr b (-1) r) && (match rows with | [] => true | r :: _ => r == [b - 1])
def formOk (g : Int) (f : S114) : Bool := isIn f.f0 2 32 && (((f.f1.length : Int) == g) && rowsOk f.f0 f.f1)
def bookOk (g : Int) (l : List S114) : Bool := (isIn g 1 5 && isIn l.length 1 4) && l.all (formOk g)
theorem gr_in {b : Int} : ∀ (l : List Int) (last : Int), gr b last l = true → ∀ x ∈ l, last < x ∧ x < b
 | [], _, _, x, hx => by cases hx
 | y :: l, last, h, x, hx => by
  unfold gr at h
  rw [Bool.and_eq_true, isIn_iff] at h
  rcases List.mem_cons.1 hx with rfl | hx
  ·omega
  ·have := gr_in l y h.2 x hx
   omega
theorem grows_l0 (b : Int) (hb : -1000000 ≤ b ∧ b ≤ 1000000) (l : List Int) (hl : l.length ≤ 9223372036854775807) : ∀ (d n : Nat) (last : Int), n + d = l.length → -1 ≤ last → last ≤ 1000000 →
  Ev (fun k => cycle_grows.l0 k b last l (l.length : Int) (n : Int)) (gr b last (l.drop n))
 | 0, n, last, hd, h1, h2 => by
  refine Ev.step (fun k => by rw [cycle_grows.l0, if_neg (by omega)]) ?_
  rw [List.drop_of_length_le (by omega)]
  exact Ev.now true
 | d + 1, n, last, hd, h1, h2 => by
  have hn : n < l.length := by omega
  rw [List.drop_eq_getElem_cons hn]
  refine Ev.step (fun k => by rw [cycle_grows.l0, if_pos (by omega), if_pos (by omega), if_pos (by omega), rd_nat, show l.getD n 0 = l[n] by simp [hn], lies_f, Option.bind_some, w64 (x := last + 1) (by omega) (by omega), w64 (x := b - 1) (by omega) (by omega), w64 (x := (n : Int) + 1) (by omega) (by omega), show ((n : Int) + 1) = ((n + 1 : Nat) : Int) by omega]) ?_
  unfold gr
  by_cases c : isIn l[n] (last + 1) (b - 1) = true
  ·have hi := isIn_iff.1 c
   refine evc (fun k => by rw [if_pos c]) ?_
   rw [c, Bool.true_and]
   exact grows_l0 b hb l hl d (n + 1) l[n] (by omega) (by omega) (by omega)
  ·refine evc (fun k => by rw [if_neg c]) ?_
   rw [Bool.not_eq_true] at c
   rw [c]
   exact Ev.now false
theorem grows_f (b : Int) (hb : -1000000 ≤ b ∧ b ≤ 1000000) (l : List Int) (hl : l.length ≤ 9223372036854775807) : Ev (fun k => cycle_grows.f k l b) (gr b (-1) l) := by
 have := grows_l0 b hb l hl l.length 0 (-1) (by omega) (by omega) (by omega)
 exact this
theorem equal1_f (l : List Int) (x : Int) (hl : l.length ≤ 9223372036854775807) : Ev (fun k => slices_Equal_int_int.f k l [x]) (l == [x]) := by
 match l, hl with
 | [], _ => exact evc (fun k => by rw [slices_Equal_int_int.f, if_neg (by simp)]) (Ev.now false)
 | a :: b :: r, _ => exact evc (fun k => by rw [slices_Equal_int_int.f, if_neg (by simp; omega)]) (by simpa using Ev.now false)
 | [a], _ =>
  refine evc (fun k => by rw [slices_Equal_int_int.f, if_pos (by simp)]) ?_
  by_cases c : a = x
  ·subst c
   refine Ev.step (fun k => by rw [slices_Equal_int_int.l0, if_pos (by simp), if_pos (by omega), if_pos (by simp), if_pos (by simp), if_pos (by simp [rd]), w64 (x := 0 + 1) (by omega) (by omega)]) ?_
   refine Ev.step (fun k => by rw [slices_Equal_int_int.l0, if_neg (by simp)]) ?_
   rw [show (([a] : List Int) == [a]) = true by simp]
   exact Ev.now true
  ·refine Ev.step (fun k => by rw [slices_Equal_int_int.l0, if_pos (by simp), if_pos (by omega), if_pos (by simp), if_pos (by simp), if_neg (by simpa [rd] using c)]) ?_
   rw [show (([a] : List Int) == [x]) = false by simpa using c]
   exact Ev.now false
section
variable (g : Int) (l : List S114)
/-- Whether the rows from place n on are as they should be. -/
def rowsFrom (b : Int) (rows : List (List Int)) (n : Nat) : Bool := (rows.drop n).all (fun r => gr b (-1) r) && (if n = 0 then (match rows with | [] => true | r :: _ => r == [b - 1]) else true)
theorem check_l1 (x18 : List S114) (x19 x20 : Int) (b : Int) (hb : 2 ≤ b ∧ b ≤ 32) (rows : List (List Int)) (hr : ∀ r ∈ rows, r.length ≤ 9223372036854775807) (hl : rows.length ≤ 9223372036854775807) {R : Int} : ∀ (d n : Nat) (q : Bool), n + d = rows.length →
  Ev (fun k => cycle_Check.l0 k (q && rowsFrom b rows n) x18 x19 (wrap64 (x20 + 1)) g l) R → Ev (fun k => cycle_Check.l1 k q x18 x19 x20 rows (rows.length : Int) (n : Int) g l b rows) R
 | 0, n, q, hd, h => by
  refine Ev.step (fun k => by rw [cycle_Check.l1, if_neg (by omega)]) ?_
  have e : rowsFrom b rows n = true := by
   unfold rowsFrom
   rw [List.drop_of_length_le (by omega)]
   split
   ·have : rows = [] := List.eq_nil_of_length_eq_zero (by omega)
    subst this; rfl
   ·rfl
  rw [e, Bool.and_true] at h
  exact h
 | d + 1, n, q, hd, h => by
  have hn : n < rows.length := by omega
  have hg : rd_L1 rows (n : Int) = rows[n] := by simp [rd_L1, hn]
  refine Ev.step (fun k => by rw [cycle_Check.l1, if_pos (by omega), if_pos (by omega), if_pos (by omega), hg, w64 (x := (n : Int) + 1) (by omega) (by omega), show ((n : Int) + 1) = ((n + 1 : Nat) : Int) by omega]) ?_
  have hstep : rowsFrom b rows n = (gr b (-1) rows[n] && ((if n = 0 then rows[n] == [b - 1] else true) && rowsFrom b rows (n + 1))) := by
   unfold rowsFrom
   rw [List.drop_eq_getElem_cons hn, List.all_cons, if_neg (show ¬ n + 1 = 0 by omega), Bool.and_true]
   split
   ·rename_i e
    subst e
    match rows, hn with
    | r :: rs, _ => simp [Bool.and_comm, Bool.and_assoc, Bool.and_left_comm]
   ·simp
  rw [hstep] at h
  cases q with
  | false =>
   refine evc (fun k => by rw [if_neg (by simp)]) ?_
   refine check_l1 x18 x19 x20 b hb rows hr hl d (n + 1) false (by omega) ?_
   simpa using h
  | true =>
   refine evc (fun k => by rw [if_pos rfl]) ?_
   refine ebind (grows_f b (by omega) rows[n] (hr _ (List.getElem_mem hn))) ?_
   rw [Bool.true_and] at h
   by_cases c : gr b (-1) rows[n] = true
   ·rw [c, Bool.true_and] at h
    by_cases h0 : n = 0
    ·refine evc (fun k => by rw [if_pos c, if_neg (by omega)]) ?_
     rw [if_pos h0] at h
     have := equal1_f rows[n] (wrap64 (b - 1)) (hr _ (List.getElem_mem hn))
     rw [w64 (x := b - 1) (by omega) (by omega)] at this
     refine ebind (evc (fun k => by rw [w64 (x := b - 1) (by omega) (by omega)]) this) ?_
     exact check_l1 x18 x19 x20 b hb rows hr hl d (n + 1) _ (by omega) h
    ·refine evc (fun k => by rw [if_pos c, if_pos (by omega)]) ?_
     rw [if_neg h0, Bool.true_and] at h
     refine check_l1 x18 x19 x20 b hb rows hr hl d (n + 1) true (by omega) ?_
     simpa using h
   ·refine evc (fun k => by rw [if_neg c]) ?_
    rw [Bool.not_eq_true] at c
    rw [c, Bool.false_and] at h
    refine check_l1 x18 x19 x20 b hb rows hr hl d (n + 1) false (by omega) ?_
    simpa using h
theorem check_l1_no (x18 : List S114) (x19 x20 : Int) (b : Int) (rows : List (List Int)) (hl : rows.length ≤ 9223372036854775807) {R : Int} : ∀ (d n : Nat), n + d = rows.length →
  Ev (fun k => cycle_Check.l0 k false x18 x19 (wrap64 (x20 + 1)) g l) R → Ev (fun k => cycle_Check.l1 k false x18 x19 x20 rows (rows.length : Int) (n : Int) g l b rows) R
 | 0, n, hd, h => by
  refine Ev.step (fun k => by rw [cycle_Check.l1, if_neg (by omega)]) ?_
  exact h
 | d + 1, n, hd, h => by
  refine Ev.step (fun k => by rw [cycle_Check.l1, if_pos (by omega), if_pos (by omega), if_pos (by omega), if_neg (by simp), w64 (x := (n : Int) + 1) (by omega) (by omega), show ((n : Int) + 1) = ((n + 1 : Nat) : Int) by omega]) ?_
  exact check_l1_no x18 x19 x20 b rows hl d (n + 1) (by omega) h
theorem rows_from (b : Int) (rows : List (List Int)) : rowsFrom b rows 0 = rowsOk b rows := by
 unfold rowsFrom rowsOk
 rw [List.drop_zero, if_pos rfl]
theorem check_l0 (hs : l.length ≤ 9223372036854775807) (hr : ∀ f ∈ l, f.f1.length ≤ 9223372036854775807 ∧ ∀ r ∈ f.f1, r.length ≤ 9223372036854775807) : ∀ (d n : Nat) (q : Bool), n + d = l.length →
  Ev (fun k => cycle_Check.l0 k q l (l.length : Int) (n : Int) g l) (if (q && (l.drop n).all (formOk g)) = true then 0 else 50)
 | 0, n, q, hd => by
  refine Ev.step (fun k => by rw [cycle_Check.l0, if_neg (by omega)]) ?_
  rw [List.drop_of_length_le (by omega)]
  cases q
  ·exact Ev.now 50
  ·exact Ev.now 0
 | d + 1, n, q, hd => by
  have hn : n < l.length := by omega
  have hg : rd_T114 l (n : Int) = l[n] := by simp [rd_T114, hn]
  obtain ⟨hr1, hr2⟩ := hr _ (List.getElem_mem hn)
  refine Ev.step (fun k => by rw [cycle_Check.l0, if_pos (by omega), if_pos (by omega), if_pos (by omega), hg]) ?_
  rw [List.drop_eq_getElem_cons hn, List.all_cons]
  have e0 : wrap64 ((n : Int) + 1) = ((n + 1 : Nat) : Int) := by rw [w64 (by omega) (by omega)]; omega
  have no : ∀ {R : Int}, R = 50 → Ev (fun k => cycle_Check.j2 k false l (l.length : Int) (n : Int) g l l[n].f0 l[n].f1) R := by
   rintro R rfl
   refine Ev.step (fun k => by rw [cycle_Check.j2]) ?_
   have := check_l0 hs hr d (n + 1) false (by omega)
   rw [Bool.false_and, if_neg (by simp)] at this
   exact check_l1_no g l l _ _ l[n].f0 l[n].f1 hr1 l[n].f1.length 0 (by omega) (by rw [e0]; exact this)
  cases q with
  | false =>
   refine evc (fun k => by rw [if_neg (by simp)]) ?_
   exact no (by simp)
  | true =>
   refine evc (fun k => by rw [if_pos rfl, lies_f, Option.bind_some]) ?_
   by_cases c : isIn l[n].f0 2 32 = true
   ·refine evc (fun k => by rw [if_pos c]) ?_
    refine Ev.step (fun k => by rw [cycle_Check.j2]) ?_
    refine check_l1 g l l _ _ l[n].f0 (isIn_iff.1 c) l[n].f1 hr2 hr1 l[n].f1.length 0 _ (by omega) ?_
    rw [rows_from, e0]
    have := check_l0 hs hr d (n + 1) (((l[n].f1.length : Int) == g) && rowsOk l[n].f0 l[n].f1) (by omega)
    unfold formOk at this ⊢
    rw [c]
    simpa [Bool.and_assoc] using this
   ·refine evc (fun k => by rw [if_neg c]) ?_
    refine no ?_
    rw [Bool.not_eq_true] at c
    unfold formOk
    rw [c]
    simp
def checkE : Int := if bookOk g l = true then 0 else 50
theorem check_f (hs : l.length ≤ 9223372036854775807) (hr : ∀ f ∈ l, f.f1.length ≤ 9223372036854775807 ∧ ∀ r ∈ f.f1, r.length ≤ 9223372036854775807) : Ev (fun k => cycle_Check.f k g l) (checkE g l) := by
 have hj : ∀ q, Ev (fun k => cycle_Check.j0 k q g l) (if (q && l.all (formOk g)) = true then 0 else 50) := fun q => by
  refine Ev.step (fun k => by rw [cycle_Check.j0]) ?_
  have := check_l0 g l hs hr l.length 0 q (by omega)
  rwa [List.drop_zero] at this
 refine evc (fun k => by rw [cycle_Check.f, lies_f, Option.bind_some]) ?_
 unfold checkE bookOk
 by_cases c : isIn g 1 5 = true
 ·refine evc (fun k => by rw [if_pos c, lies_f, Option.bind_some]) ?_
  have := hj (isIn (l.length : Int) 1 4)
  rw [c, Bool.true_and]
  exact this
 ·refine evc (fun k => by rw [if_neg c]) ?_
  have := hj false
  rw [Bool.not_eq_true] at c
  rw [c, Bool.false_and, Bool.false_and]
  exact this
end
end Go.Proofs.YtfdenclnneigfaaDoor.R
namespace Go.Proofs.YtfdenclnneigfaaDoor.R
open Go.RowKit Go.Shelf Go.Proofs.YtfdenclnneigfaaDoorW.PrintWords Go.Proofs.YtfdenclnneigfaaDoorW.PrintLast Go.Proofs.YtfdenclnneigfaaDoor.PRaspKeys Go.Proofs.YtfdenclnneigfaaDoor.X Go.Proofs.YtfdenclnneigfaaDoor.M
attribute [local go_sem] Oper.semAt_some
theorem C_len {α : Type} {d : Kd α} {w : World} {A : Option Addr} {n : Nat} {xs : List α} (h : d.C w A n xs) : n ≤ 9223372036854775807 := by have := h.2.1; omega
theorem C63_len {w : World} {A : Option Addr} {l : List S114} (h : Kd.C k114 w A l.length l) : ∀ f ∈ l, f.f1.length ≤ 9223372036854775807 ∧ ∀ r ∈ f.f1, r.length ≤ 9223372036854775807 := by
 intro f hf
 obtain ⟨i, hi, rfl⟩ := List.getElem_of_mem hf
 obtain ⟨ad, A1, c1, _, _, _, _, hC⟩ := at_T114 h (i : Int) (by omega) (by omega)
 rw [show rd_T114 l (i : Int) = l[i] by simp [rd_T114, hi]] at hC
 refine ⟨C_len hC, fun r hr => ?_⟩
 obtain ⟨j, hj, rfl⟩ := List.getElem_of_mem hr
 obtain ⟨ad2, A2, c2, _, _, _, hC2⟩ := at_L1 hC (j : Int) (by omega) (by omega)
 rw [show rd_L1 l[i].f1 (j : Int) = l[i].f1[j] by simp [rd_L1, hj]] at hC2
 exact C_len hC2
theorem beats_of {g : Int} {l : List S114} (h : bookOk g l = true) : Beats l := by
 unfold bookOk at h
 simp only [Bool.and_eq_true, isIn_iff, List.all_eq_true] at h
 refine ⟨by omega, fun f h0 h1 => ?_⟩
 have hn : f.toNat < l.length := by omega
 have := h.2 _ (List.getElem_mem hn)
 rw [show rd_T114 l f = l[f.toNat] by simp [rd_T114, hn]]
 unfold formOk at this
 simp only [Bool.and_eq_true, isIn_iff] at this
 exact this.1
theorem check_any (g : Int) (A : Option Addr) (c : Nat) (l : List S114) (w : World) (hr : Kd.C k114 w A l.length l) (hc : l.length ≤ c) :
  Calls Tryd.prog 58 #[.agg #[.int .i64 g, .slice A l.length c]] w fun e w' => e = .returned (.int .i64 (checkE g l)) ∧ Fr0 w w' := by
 obtain ⟨K, hK⟩ := check_f g l (C_len hr) (C63_len hr)
 exact (cycle_Check.calls K g A c l (checkE g l) w hr hc (hK K (Nat.le_refl _))).mono fun e w' h => ⟨h.1, Fr.of_below h.2⟩
set_option maxHeartbeats 1000000 in
theorem isForm_any (g : Int) (A : Option Addr) (n c : Nat) (m : Option Nat) (form : Int) (w : World) (hn : n ≤ 9223372036854775807) :
  Calls Tryd.prog 79 #[bookV g A n c m, .int .i64 form] w fun e w' => e = .returned (.bool (isIn form 0 ((n : Int) - 1))) ∧ Fr0 w w' := by
 have hn' : (n : Int) ≤ 9223372036854775807 := by omega
 go_enter Tryd.func79, Tryd.ntmps79
 go_wp2_with (go_at_call 84; refine (lies_any _ _ _ _).mono ?_; rintro e W1 ⟨rfl, hf⟩)
 go_ret
 exact ⟨rfl, Fr0.trans ((Fr.refl _ _).alloc _) hf⟩
set_option maxHeartbeats 1000000 in
theorem isBeat_any (beat : Int) (w : World) : Calls Tryd.prog 80 #[.int .i64 beat] w fun e w' => e = .returned (.bool (isIn beat 0 100000)) ∧ Fr0 w w' := by
 go_enter Tryd.func80, Tryd.ntmps80
 go_wp2_with (go_at_call 84; refine (lies_any _ _ _ _).mono ?_; rintro e W1 ⟨rfl, hf⟩)
 go_ret
 exact ⟨rfl, hf⟩
end Go.Proofs.YtfdenclnneigfaaDoor.R
namespace Go.Proofs.YtfdenclnneigfaaDoor.R
open Go.RowKit Go.Shelf Go.Proofs.YtfdenclnneigfaaDoorW.PrintWords Go.Proofs.YtfdenclnneigfaaDoorW.PrintLast Go.Proofs.YtfdenclnneigfaaDoor.PRaspKeys Go.Proofs.YtfdenclnneigfaaDoor.X Go.Proofs.YtfdenclnneigfaaDoor.M
attribute [local go_sem] Oper.semAt_some
theorem mk81 (W : World) : (Instr.makeMap 103 none).run Tryd.prog W = .ok (.map (some W.heap.size)) (W.alloc (.map #[] 0)) := by
 unfold Instr.makeMap
 simp only [Sem.run_bind, run_underlying Tryd.underlying103, Result.andThen_ok]
 rfl
/-- What the map tells. -/
def Mp (H : Int → Int → Nat → Bool) (mb : Nat) (w : World) : Prop := ∃ f, MapFn w mb f ∧ ∀ a b : Int, (f a b).getD (gv fun _ => false) = gv (H a b)
theorem Mp.fr {H : Int → Int → Nat → Bool} {mb : Nat} {w w' : World} (h : Mp H mb w) (hf : Fr0 w w') : Mp H mb w' := by
 obtain ⟨f, hm, hv⟩ := h
 exact ⟨f, hm.same (hf.block _ hm.lt (fun h => h)), hv⟩
theorem gv_congr {h h' : Nat → Bool} (e : ∀ i, h i = h' i) : gv h = gv h' := by rw [show h = h' from funext e]
/-- What was laid: forms, gongs, strokes. -/
def hT1 (l : List S114) (n : Nat) (a b : Int) (i : Nat) : Bool := decide (0 ≤ a ∧ a < n) && hits l a b i
def hT2 (l : List S114) (n gi : Nat) (a b : Int) (i : Nat) : Bool := hT1 l n a b i || (decide (a = n ∧ i < gi) && hits l n b i)
def hT3 (l : List S114) (n gi k : Nat) (a b : Int) (i : Nat) : Bool := hT2 l n gi a b i || (decide (a = n ∧ i = gi) && ((row l n gi).take k).contains b)
theorem hT2_0 (l : List S114) (n : Nat) : hT2 l n 0 = hT1 l n := by
 funext a b i
 simp [hT2]
theorem hT3_0 (l : List S114) (n gi : Nat) : hT3 l n gi 0 = hT2 l n gi := by
 funext a b i
 simp [hT3]
theorem hT3_all (l : List S114) (n gi : Nat) : hT3 l n gi (row l n gi).length = hT2 l n (gi + 1) := by
 funext a b i
 unfold hT3
 rw [List.take_length]
 unfold hT2
 by_cases ha : a = n
 ·by_cases hi : i = gi
  ·subst hi ha
   simp [hits]
  ·rw [decide_eq_false (show ¬ (a = n ∧ i = gi) by simp [hi]), show decide (a = (n : Int) ∧ i < gi + 1) = decide (a = (n : Int) ∧ i < gi) by congr 1; simp [ha]; omega]
   simp
 ·simp [ha]
theorem hT2_all (l : List S114) (n : Nat) : hT2 l n (rd_T114 l n).f1.length = hT1 l (n + 1) := by
 funext a b i
 unfold hT2 hT1
 by_cases ha : a = n
 ·subst ha
  rw [decide_eq_false (show ¬ (0 ≤ (n : Int) ∧ (n : Int) < n) by omega), decide_eq_true (show 0 ≤ (n : Int) ∧ (n : Int) < ((n + 1 : Nat) : Int) by omega)]
  by_cases hi : i < (rd_T114 l n).f1.length
  ·simp [hi]
  ·have : hits l n b i = false := by
    unfold hits row
    rw [List.getD_eq_getElem?_getD, List.getElem?_eq_none (by omega)]
    rfl
   rw [this]; simp
 ·rw [decide_eq_false (show ¬ (a = (n : Int) ∧ i < (rd_T114 l n).f1.length) by simp [ha]), show decide (0 ≤ a ∧ a < ((n + 1 : Nat) : Int)) = decide (0 ≤ a ∧ a < (n : Int)) by congr 1; simp; omega]
  simp
theorem hT3_step (l : List S114) (n gi k : Nat) (hk : k < (row l n gi).length) (a b : Int) (i : Nat) :
  hT3 l n gi (k + 1) a b i = if a = n ∧ b = (row l n gi)[k] then (if i = gi then true else hT3 l n gi k n ((row l n gi)[k]) i) else hT3 l n gi k a b i := by
 have hc : ∀ b, ((row l n gi).take (k + 1)).contains b = (((row l n gi).take k).contains b || b == (row l n gi)[k]) := fun b => by
  rw [List.take_succ_eq_append_getElem hk, Bool.eq_iff_iff]
  simp only [List.contains_eq_mem, List.mem_append, List.mem_singleton, Bool.or_eq_true, decide_eq_true_eq, beq_iff_eq]
 unfold hT3
 rw [hc]
 generalize (row l n gi)[k] = x
 generalize (row l n gi).take k = T
 by_cases ha : a = n
 ·subst ha
  by_cases hb : b = x
  ·rw [if_pos ⟨rfl, hb⟩, hb]
   by_cases hi : i = gi
   ·simp [hi]
   ·simp [hi]
  ·rw [if_neg (by simp [hb]), show (b == x) = false by simpa using hb, Bool.or_false]
 ·rw [if_neg (by simp [ha])]
  simp [ha]
/-- What holds while a book is opened. -/
structure Opn (w : World) (g : Int) (A : Option Addr) (n c mb g4 g7 : Nat) (H : Int → Int → Nat → Bool) (W : World) : Prop where
 fr : Fr0 w W
 b7 : Bx W g7 105 (bookC g A n c (some mb))
 b4 : Bx W g4 105 #[.int .i64 0, .slice none 0 0, .map none]
 m : Mp H mb W
 o : w.heap.size ≤ mb
theorem Opn.fr0 {w : World} {g : Int} {A : Option Addr} {n c mb g4 g7 : Nat} {H : Int → Int → Nat → Bool} {W W' : World} (h : Opn w g A n c mb g4 g7 H W) (hf : Fr0 W W') : Opn w g A n c mb g4 g7 H W' :=
 ⟨Fr0.trans h.fr hf, h.b7.fr0 hf, h.b4.fr0 hf, h.m.fr hf, h.o⟩
theorem Opn.of_eq {w : World} {g : Int} {A : Option Addr} {n c mb g4 g7 : Nat} {H H' : Int → Int → Nat → Bool} {W : World} (h : Opn w g A n c mb g4 g7 H W) (e : H = H') : Opn w g A n c mb g4 g7 H' W := e ▸ h
/-- A stroke is laid. -/
theorem Opn.put {w : World} {g : Int} {A : Option Addr} {n c mb g4 g7 : Nat} {H : Int → Int → Nat → Bool} {W : World} (h : Opn w g A n c mb g4 g7 H W) (x y : Int) (v : Nat → Bool) :
  ∃ o, (Instr.mapUpdate 103 (.map (some mb)) (.agg #[.int .i64 x, .int .i64 y]) (.agg #[.bool (v 0), .bool (v 1), .bool (v 2), .bool (v 3), .bool (v 4)])).run Tryd.prog W = .ok () (W.putObj mb o) ∧ Opn w g A n c mb g4 g7 (fun a b i => if a = x ∧ b = y then v i else H a b i) (W.putObj mb o) := by
 obtain ⟨f, hm, hv⟩ := h.m
 obtain ⟨es, ck, hmo⟩ := hm.obj
 obtain ⟨o, _, _, hru, hm'⟩ := update_k2 key38 Tryd.underlying103 hm x y (gv v)
 have hf : Fr (· = mb) W (W.putObj mb o) := Fr.put1 _ _ _
 refine ⟨o, hru, Fr.step (S := fun _ => False) h.fr hf (fun k hk e => by have := h.o; have e : k = mb := e; omega), h.b7.fr hf (h.b7.not_map hmo), h.b4.fr hf (h.b4.not_map hmo), ⟨_, hm', fun a b => ?_⟩, h.o⟩
 by_cases c : a = x ∧ b = y
 ·simp only [if_pos c]
  rfl
 ·simp only [if_neg c]
  exact hv a b
theorem Opn.look {w : World} {g : Int} {A : Option Addr} {n c mb g4 g7 : Nat} {H : Int → Int → Nat → Bool} {W : World} (h : Opn w g A n c mb g4 g7 H W) (x y : Int) :
  (Instr.lookup 103 (.map (some mb)) (.agg #[.int .i64 x, .int .i64 y]) false).run Tryd.prog W = .ok (.agg #[.bool (H x y 0), .bool (H x y 1), .bool (H x y 2), .bool (H x y 3), .bool (H x y 4)]) W := by
 obtain ⟨f, hm, hv⟩ := h.m
 have := lookup_k2' key38 Tryd.underlying103 zero89 hm x y
 rw [hv] at this
 exact this
theorem Opn.st {w : World} {g : Int} {A : Option Addr} {c mb g4 g7 : Nat} {l : List S114} {W : World} (h : Opn w g A l.length c mb g4 g7 (hT1 l l.length) W) (hr : Kd.C k114 w A l.length l) (hc : l.length ≤ c) (hG : Glob w) : St g A c l mb W := by
 obtain ⟨f, hm, hv⟩ := h.m
 refine ⟨C_fr hr h.fr, hc, ⟨f, hm, fun a b h0 h1 => ?_⟩, hG.fr h.fr⟩
 rw [hv]
 refine gv_congr fun i => ?_
 unfold hT1
 rw [decide_eq_true ⟨h0, h1⟩, Bool.true_and]
set_option maxRecDepth 100000 in
theorem put_in {w : World} {g : Int} {A : Option Addr} {n c mb g4 g7 : Nat} {H : Int → Int → Nat → Bool} {W0 W : World} (h : Opn w g A n c mb g4 g7 H W0) (hf : Fr0 W0 W) {x y : Int} (v : Nat → Bool) {op : Oper} {a : Act} {K : Act → World → Prop} {Q : Exit → Act → World → Prop}
  (hk : ∀ o, Opn w g A n c mb g4 g7 (fun a b i => if a = x ∧ b = y then v i else H a b i) (W.putObj mb o) → Oper.upon Tryd.prog op a K Q (Result.ok Next.skip (W.putObj mb o))) :
  Oper.upon Tryd.prog op a K Q ((Sem.run Tryd.prog (Instr.mapUpdate 103 (.map (some mb)) (.agg #[.int .i64 x, .int .i64 y]) (.agg #[.bool (v 0), .bool (v 1), .bool (v 2), .bool (v 3), .bool (v 4)])) W).andThen fun _ w' => Result.ok Next.skip w') := by
 obtain ⟨o, hru, hO⟩ := (h.fr0 hf).put x y v
 rw [hru]
 exact hk o hO
theorem three_fr {w W : World} {g : Nat} (h : Fr0 w W) (hg : w.heap.size ≤ g) (b0 b1 b2 : Value) : Fr0 w (((W.setCell ⟨g, 0, none⟩ b0).setCell ⟨g, 1, none⟩ b1).setCell ⟨g, 2, none⟩ b2) := ((h.setCell (.inr hg) _).setCell (.inr hg) _).setCell (.inr hg) _
theorem St.put3 {g : Int} {A : Option Addr} {c : Nat} {l : List S114} {mb : Nat} {w0 w : World} {gb : Nat} (h : St g A c l mb w) (hr : Kd.C k114 w0 A l.length l) (h0 : Fr0 w0 w) (hgb : w0.heap.size ≤ gb) (hne : gb ≠ mb) (hG : Glob w0) (b0 b1 b2 : Value) : St g A c l mb (((w.setCell ⟨gb, 0, none⟩ b0).setCell ⟨gb, 1, none⟩ b1).setCell ⟨gb, 2, none⟩ b2) := by
 obtain ⟨f, hm, hv⟩ := h.m
 have hf := three_fr h0 hgb b0 b1 b2
 have hf1 : Fr (· = gb) w (((w.setCell ⟨gb, 0, none⟩ b0).setCell ⟨gb, 1, none⟩ b1).setCell ⟨gb, 2, none⟩ b2) := Fr.setCell (S := (· = gb)) (Fr.setCell (S := (· = gb)) (Fr.setCell (S := (· = gb)) (Fr.refl _ _) (.inl rfl) _) (.inl rfl) _) (.inl rfl) _
 exact ⟨C_fr hr hf, h.c, ⟨f, hm.same (hf1.block _ hm.lt (fun e => hne e.symm)), hv⟩, hG.fr hf⟩
def openE (g : Int) (l : List S114) (ok : Bool) : Int := if bookOk g l = true then (if ok = true then 0 else 51) else 50
theorem res52 {w : World} {g : Nat} {b0 b1 b2 E : Value} {tmps : Array Value} (h4 : tmps[4]?.getD undef = .pointer (some ⟨g, 0, none⟩)) (h5 : tmps[5]?.getD undef = E) (h : Bx w g 105 #[b0, b1, b2]) : (results Tryd.f77 tmps).run Tryd.prog w = .ok (.tuple #[.agg #[b0, b1, b2], E]) w := by
 have e0 := h.at_ 0 rfl
 have e1 := h.at_ 1 rfl
 have e2 := h.at_ 2 rfl
 simp only [results, Tryd.results77]
 simp [h4, h5, go_sem, e0, e1, e2]
theorem three_set {W : World} {g : Nat} {a0 a1 a2 : Value} (h : Bx W g 105 #[a0, a1, a2]) (b0 b1 b2 : Value) : Bx (((W.setCell ⟨g, 0, none⟩ b0).setCell ⟨g, 1, none⟩ b1).setCell ⟨g, 2, none⟩ b2) g 105 #[b0, b1, b2] := by
 have h := ((h.set_ 0 b0).set_ 1 b1).set_ 2 b2
 simp at h
 exact h
theorem rows_len {g : Int} {l : List S114} (h : bookOk g l = true) : ∀ n : Nat, n < l.length → (rd_T114 l n).f1.length ≤ 5 := fun n hn => by
 unfold bookOk at h
 simp only [Bool.and_eq_true, isIn_iff, List.all_eq_true] at h
 have := h.2 _ (List.getElem_mem hn)
 rw [show rd_T114 l (n : Int) = l[n] by simp [rd_T114, hn]]
 unfold formOk at this
 simp only [Bool.and_eq_true, isIn_iff, beq_iff_eq] at this
 omega
set_option maxHeartbeats 4000000 in
set_option maxRecDepth 100000 in
theorem opened_any (F : FuncId) (lb : Array Value) (eF : ∀ args w, (callFunc F args).run Tryd.prog w = .ok (.enter F args) w) (g : Int) (A : Option Addr) (c : Nat) (l : List S114) (ok : Bool) (w : World) (hr : Kd.C k114 w A l.length l) (hc : l.length ≤ c) (hG : Glob w)
  (hright : bookOk g l = true → ∀ mb W, Fr0 w W → St g A c l mb W → Calls Tryd.prog F (#[bookV g A l.length c (some mb)] ++ lb) W fun e w' => e = .returned (.bool ok) ∧ Fr0 W w') :
  Calls Tryd.prog 77 #[.agg #[.int .i64 g, .slice A l.length c], .func (.func F) #[] lb] w fun e w' =>
   ∃ g' A' n' c' o', e = .returned (.tuple #[bookV g' A' n' c' o', .int .i64 (openE g l ok)]) ∧ Fr0 w w' ∧ (openE g l ok = 0 → ∃ mb, g' = g ∧ A' = A ∧ n' = l.length ∧ c' = c ∧ o' = some mb ∧ St g A c l mb w') := by
 have HR := Lib.hid hr
 have HG := Lib.hid hG
 have hn : (l.length : Int) ≤ 9223372036854775807 := by have := C_len hr; omega
 have HC := Lib.hid hc
 by_cases hb : bookOk g l = true
 ·have HX := Lib.hid (hright hb)
  have hE : checkE g l = 0 := by unfold checkE; rw [if_pos hb]
  have HCK := Lib.hid (fun W (hW : Fr0 w W) => check_any g A c l W (C_fr hr hW) hc)
  rw [hE] at HCK
  have HBK := Lib.hid hb
  have HO := Lib.hid (show openE g l ok = if ok = true then 0 else 51 by unfold openE; rw [if_pos hb])
  clear hr hG hright hE hb hc
  have hu83 := Tryd.underlying105
  go_enter Tryd.func77, Tryd.ntmps77
  go_wp2_with (go_at_call 58; (with_reducible refine (HCK.out _ ?hw).mono ?_); (case hw => repeat (first | exact Fr.refl _ _ | apply Fr.alloc)); rintro e W1 ⟨rfl, hf1⟩; (have B2 := Bx.fr0 ((Bx.new w 24 #[.int .i64 g, .slice A l.length c]).alloc (.cells #[.int .i64 0, .slice none 0 0, .map none] 105)) hf1); (have B4 := Bx.fr0 (Bx.of_new (w := w.alloc (.cells #[.int .i64 g, .slice A l.length c] 24)) (g := w.heap.size + 1) (t := 105) (cs := #[.int .i64 0, .slice none 0 0, .map none]) (by simp)) hf1); (have y0 := B2.at_ 0 (v := .int .i64 g) rfl); (have y1 := B2.at_ 1 (v := .slice A l.length c) rfl); (have l2 := B2.lt); (have l4 := B4.lt); (have l2' := Nat.lt_succ_of_lt l2); (have l4' := Nat.lt_succ_of_lt l4); (have l2'' := Nat.lt_succ_of_lt l2'); (have hf01 : Fr0 w W1 := Fr0.trans (((Fr.refl _ _).alloc _).alloc _) hf1))
  rw [mk81]
  have hW2 : Fr0 W1 ((W1.alloc (.map #[] 0)).alloc (.cells (bookC g A l.length c (some W1.heap.size)) 105)) := ((Fr.refl _ _).alloc _).alloc _
  have hI : Opn w g A l.length c W1.heap.size (w.heap.size + 1) (W1.heap.size + 1) (hT1 l 0) ((W1.alloc (.map #[] 0)).alloc (.cells (bookC g A l.length c (some W1.heap.size)) 105)) :=
   ⟨Fr0.trans hf01 hW2, Bx.of_new (by simp), B4.fr0 hW2, ⟨_, (MapFn.new W1).same (Below.heap_alloc _ _ _ (by simp)), fun a b => by show gv (fun _ => false) = _; refine gv_congr fun i => ?_; unfold hT1; rw [decide_eq_false (by omega)]; rfl⟩, hf01.size⟩
  have y1' := (B2.fr0 hW2).at_ 1 (v := .slice A l.length c) rfl
  clear y0 y1 B2 B4 hf1
  have HI := Lib.hid hI
  have HN4 := Lib.hid l4
  go_wp2
  generalize hmb : W1.heap.size = mb at *
  clear y1' hI hW2 hmb l2 l4 l2' l4' l2'' hf01
  have HRL := Lib.hid (rows_len HBK.out)
  go_loopw [28] (fun v28 wr => ∃ n : Nat, n ≤ l.length ∧ v28 = .int .i64 n ∧ Opn w g A l.length c mb (w.heap.size + 1) (mb + 1) (hT1 l n) wr) (fun v28 _ => (l.length - intOf v28).toNat)
  case atStart => exact ⟨0, by omega, by rfl, HI.out⟩
  case round =>
   obtain ⟨n, hn', rfl, hO⟩ := hrel
   have HO1 := Lib.hid hO
   clear hO
   by_cases hlt : n < l.length
   ·have hle : (n : Int) < l.length := by omega
    obtain ⟨ad, A1, c1, eA, hx0, hx1, hc1, hC1⟩ := at_T114 HR.out (n : Int) (by omega) hle
    subst eA
    have hz0 : wr.cell? (ad.add (n * 2)) = some (.int .i64 (rd_T114 l n).f0) := HO1.out.fr.cell0 hx0
    have hz1 : wr.cell? ⟨(ad.add (n * 2)).block, (ad.add (n * 2)).off + 1, none⟩ = some (.slice A1 (rd_T114 l n).f1.length c1) := HO1.out.fr.cell0 hx1
    have h5 := HRL.out n hlt
    have HRW := Lib.hid (show ∀ gi, row l n gi = (rd_T114 l n).f1.getD gi [] from fun _ => rfl)
    have HALL := Lib.hid (hT2_all l n)
    have HC1 := Lib.hid hC1
    clear hx0 hx1 hC1
    generalize (rd_T114 l n).f0 = B at *
    generalize (rd_T114 l n).f1 = rows at *
    have hrl : (rows.length : Int) ≤ 5 := by omega
    go_wp2
    have HOb := Lib.hid (HO1.out.fr0 ((Fr.refl _ _).alloc (.cells #[.int .i64 B, .slice A1 rows.length c1] 114)))
    clear hz0 hz1
    go_loopw [36] (fun v36 wr2 => ∃ gi : Nat, gi ≤ rows.length ∧ v36 = .int .i64 gi ∧ Opn w g (some ad) l.length c mb (w.heap.size + 1) (mb + 1) (hT2 l n gi) wr2) (fun v36 _ => (rows.length - intOf v36).toNat)
    case atStart => exact ⟨0, by omega, by rfl, HOb.out.of_eq (hT2_0 l n).symm⟩
    case round =>
     obtain ⟨gi, hgi, rfl, hO2⟩ := hrel
     have HO2 := Lib.hid hO2
     clear hO2
     by_cases hlt2 : gi < rows.length
     ·have hle2 : (gi : Int) < rows.length := by omega
      obtain ⟨ad2, A2, c2, eA2, hy, hc2, hC2⟩ := at_L1 HC1.out (gi : Int) (by omega) hle2
      subst eA2
      have hrr : rd_L1 rows (gi : Int) = row l n gi := by rw [HRW.out]; rfl
      rw [hrr] at hy hc2 hC2
      have hy1 : wr.cell? (ad2.add gi) = some (.slice A2 (row l n gi).length c2) := HO2.out.fr.cell0 hy
      have HC2 := Lib.hid hC2
      have hrl2 : ((row l n gi).length : Int) ≤ 9223372036854775807 := by have := C_len hC2; omega
      have HA3 := Lib.hid (hT3_all l n gi)
      have HS3 := Lib.hid (hT3_step l n gi)
      clear hy hC2 hrr
      generalize row l n gi = r at *
      go_wp2
      clear hy1
      go_loopw [43] (fun v43 wr3 => ∃ k : Nat, k ≤ r.length ∧ v43 = .int .i64 k ∧ Opn w g (some ad) l.length c mb (w.heap.size + 1) (mb + 1) (hT3 l n gi k) wr3) (fun v43 _ => (r.length - intOf v43).toNat)
      case atStart => exact ⟨0, by omega, by rfl, HO2.out.of_eq (hT3_0 l n gi).symm⟩
      case round =>
       obtain ⟨k, hk, rfl, hO3⟩ := hrel
       have HO3 := Lib.hid hO3
       clear hO3
       by_cases hlt3 : k < r.length
       ·have hle3 : (k : Int) < r.length := by omega
        obtain ⟨ad3, e3, hx3⟩ := Kd.at_int HC2.out (k : Int) (by omega) hle3
        subst e3
        have hx4 : wr.cell? (ad3.add k) = some (.int .i64 (r.getD k 0)) := HO3.out.fr.cell0 hx3
        have hxk : r.getD k 0 = r[k] := by simp [hlt3]
        have HST := Lib.hid (HS3.out k hlt3)
        rw [← hxk] at HST
        clear hx3 hxk
        generalize r.getD k 0 = x at *
        have hlk := (HO3.out.fr0 ((Fr.refl _ _).alloc (.cells #[.int .i64 n, .int .i64 x] 127))).look (n : Int) x
        have hm7 := HO3.out.b7.at_ 2 (v := .map (some mb)) rfl
        have hl7 := HO3.out.b7.lt
        have hl7' := Nat.lt_succ_of_lt hl7
        have hl7'' := Nat.lt_succ_of_lt hl7'
        have hg5 : gi = 0 ∨ gi = 1 ∨ gi = 2 ∨ gi = 3 ∨ gi = 4 := by omega
        rcases hg5 with rfl | rfl | rfl | rfl | rfl
        ·go_wp2
         refine put_in HO3.out ((((Fr.refl _ _).alloc _).alloc _)) (fun i => if i = 0 then true else hT3 l n 0 k n x i) (fun o hO4 => ?_)
         go_wp2
         have hO5 := hO4.of_eq (funext fun a => funext fun b => funext fun i => (HST.out a b i).symm)
         refine ⟨?_, by simp [intOf]; omega⟩
         (repeat apply Exists.intro)
         exact ⟨⟨k + 1, by omega, by go_num, hO5⟩, rfl⟩
        ·go_wp2
         refine put_in HO3.out ((((Fr.refl _ _).alloc _).alloc _)) (fun i => if i = 1 then true else hT3 l n 1 k n x i) (fun o hO4 => ?_)
         go_wp2
         have hO5 := hO4.of_eq (funext fun a => funext fun b => funext fun i => (HST.out a b i).symm)
         refine ⟨?_, by simp [intOf]; omega⟩
         (repeat apply Exists.intro)
         exact ⟨⟨k + 1, by omega, by go_num, hO5⟩, rfl⟩
        ·go_wp2
         refine put_in HO3.out ((((Fr.refl _ _).alloc _).alloc _)) (fun i => if i = 2 then true else hT3 l n 2 k n x i) (fun o hO4 => ?_)
         go_wp2
         have hO5 := hO4.of_eq (funext fun a => funext fun b => funext fun i => (HST.out a b i).symm)
         refine ⟨?_, by simp [intOf]; omega⟩
         (repeat apply Exists.intro)
         exact ⟨⟨k + 1, by omega, by go_num, hO5⟩, rfl⟩
        ·go_wp2
         refine put_in HO3.out ((((Fr.refl _ _).alloc _).alloc _)) (fun i => if i = 3 then true else hT3 l n 3 k n x i) (fun o hO4 => ?_)
         go_wp2
         have hO5 := hO4.of_eq (funext fun a => funext fun b => funext fun i => (HST.out a b i).symm)
         refine ⟨?_, by simp [intOf]; omega⟩
         (repeat apply Exists.intro)
         exact ⟨⟨k + 1, by omega, by go_num, hO5⟩, rfl⟩
        ·go_wp2
         refine put_in HO3.out ((((Fr.refl _ _).alloc _).alloc _)) (fun i => if i = 4 then true else hT3 l n 4 k n x i) (fun o hO4 => ?_)
         go_wp2
         have hO5 := hO4.of_eq (funext fun a => funext fun b => funext fun i => (HST.out a b i).symm)
         refine ⟨?_, by simp [intOf]; omega⟩
         (repeat apply Exists.intro)
         exact ⟨⟨k + 1, by omega, by go_num, hO5⟩, rfl⟩
       ·obtain rfl : k = r.length := by omega
        have hle3 : ¬ ((r.length : Int) < r.length) := by omega
        go_wp2
        exact ⟨⟨gi + 1, by omega, by go_num, HO3.out.of_eq HA3.out⟩, by simp [intOf]; omega⟩
     ·obtain rfl : gi = rows.length := by omega
      have hle2 : ¬ ((rows.length : Int) < rows.length) := by omega
      go_wp2
      exact ⟨⟨n + 1, by omega, by go_num, HO2.out.of_eq HALL.out⟩, by simp [intOf]; omega⟩
   ·obtain rfl : n = l.length := by omega
    have hle : ¬ ((l.length : Int) < l.length) := by omega
    have hst := HO1.out.st HR.out HC.out HG.out
    have HST := Lib.hid hst
    have HCL := Lib.hid (HX.out mb wr HO1.out.fr hst)
    have q0 := HO1.out.b7.at_ 0 (v := .int .i64 g) rfl
    have q1 := HO1.out.b7.at_ 1 (v := .slice A l.length c) rfl
    have q2 := HO1.out.b7.at_ 2 (v := .map (some mb)) rfl
    clear hst
    go_wp2
    refine Calls.mono HCL.out ?_
    rintro e W5 ⟨rfl, hf5⟩
    have hI5 := HO1.out.fr0 hf5
    have HI5 := Lib.hid hI5
    have HST5 := Lib.hid (HST.out.fr hf5)
    have p0 := hI5.b7.at_ 0 (v := .int .i64 g) rfl
    have p1 := hI5.b7.at_ 1 (v := .slice A l.length c) rfl
    have p2 := hI5.b7.at_ 2 (v := .map (some mb)) rfl
    have r0 := hI5.b4.at_ 0 (v := .int .i64 0) rfl
    have r1 := hI5.b4.at_ 1 (v := .slice none 0 0) rfl
    have r2 := hI5.b4.at_ 2 (v := .map none) rfl
    have z0 := hI5.b4.frz 0
    have z1 := hI5.b4.frz 1
    have z2 := hI5.b4.frz 2
    have hle4 := hI5.b4.lt
    clear hI5 q0 q1 q2
    cases ok
    ·go_wp2
     refine bodyPost_ret (res52 rfl rfl (three_set HI5.out.b4 _ _ _)) rfl ⟨0, none, 0, 0, none, by rw [HO.out]; rfl, three_fr HI5.out.fr (by omega) _ _ _, fun h => ?_⟩
     rw [HO.out] at h
     simp at h
    ·go_wp2
     refine bodyPost_ret (res52 rfl rfl (three_set HI5.out.b4 _ _ _)) rfl ⟨g, A, l.length, c, some mb, by rw [HO.out]; rfl, three_fr HI5.out.fr (by omega) _ _ _, fun h => ⟨mb, rfl, rfl, rfl, rfl, rfl, ?_⟩⟩
     exact HST5.out.put3 HR.out HI5.out.fr (by omega) (by have := HN4.out; omega) HG.out _ _ _
 ·have hE : checkE g l = 50 := by unfold checkE; rw [if_neg hb]
  have HCK := Lib.hid (fun W (hW : Fr0 w W) => check_any g A c l W (C_fr hr hW) hc)
  rw [hE] at HCK
  have HO := Lib.hid (show openE g l ok = 50 by unfold openE; rw [if_neg hb])
  clear hr hG hright hE hb hc
  go_enter Tryd.func77, Tryd.ntmps77
  go_wp2_with (go_at_call 58; (with_reducible refine (HCK.out _ ?hw).mono ?_); (case hw => repeat (first | exact Fr.refl _ _ | apply Fr.alloc)); rintro e W1 ⟨rfl, hf1⟩; (have B4 := Bx.fr0 (Bx.of_new (w := w.alloc (.cells #[.int .i64 g, .slice A l.length c] 24)) (g := w.heap.size + 1) (t := 105) (cs := #[.int .i64 0, .slice none 0 0, .map none]) (by simp)) hf1); (have r0 := B4.at_ 0 (v := .int .i64 0) rfl); (have r1 := B4.at_ 1 (v := .slice none 0 0) rfl); (have r2 := B4.at_ 2 (v := .map none) rfl); (have z0 := B4.frz 0); (have z1 := B4.frz 1); (have z2 := B4.frz 2); (have hf01 : Fr0 w W1 := Fr0.trans (((Fr.refl _ _).alloc _).alloc _) hf1))
  refine bodyPost_ret (res52 rfl rfl (three_set B4 _ _ _)) rfl ⟨0, none, 0, 0, none, by rw [HO.out]; rfl, three_fr hf01 (by omega) _ _ _, fun h => ?_⟩
  rw [HO.out] at h
  simp at h
end Go.Proofs.YtfdenclnneigfaaDoor.R
namespace Go.Proofs.YtfdenclnneigfaaDoor.R
open Go.RowKit Go.Shelf Go.Proofs.YtfdenclnneigfaaDoorW.PrintWords Go.Proofs.YtfdenclnneigfaaDoorW.PrintLast Go.Proofs.YtfdenclnneigfaaDoor.PRaspKeys Go.Proofs.YtfdenclnneigfaaDoor.X Go.Proofs.YtfdenclnneigfaaDoor.M
attribute [local go_sem] Oper.semAt_some
theorem gong_of {g : Int} {l : List S114} (h : bookOk g l = true) : 1 ≤ g ∧ g ≤ 5 := by
 unfold bookOk at h
 simp only [Bool.and_eq_true, isIn_iff] at h
 exact h.1.1
def okStruck (g : Int) (l : List S114) (form : Int) (beat : Int) : Bool := isIn form 0 ((l.length : Int) - 1) && isIn beat 0 100000
set_option maxHeartbeats 2000000 in
theorem right53 (g : Int) (A : Option Addr) (c : Nat) (l : List S114) (mb : Nat) (bform : Nat) (form : Int) (bbeat : Nat) (beat : Int) (W : World) (hb : bookOk g l = true) (hS : St g A c l mb W) (hpform : W.cell? ⟨bform, 0, none⟩ = some (.int .i64 form)) (hpbeat : W.cell? ⟨bbeat, 0, none⟩ = some (.int .i64 beat)) :
  Calls Tryd.prog 78 (#[bookV g A l.length c (some mb)] ++ #[.pointer (some ⟨bform, 0, none⟩), .pointer (some ⟨bbeat, 0, none⟩)]) W fun e w' => e = .returned (.bool (okStruck g l form beat)) ∧ Fr0 W w' := by
 have hn := C_len hS.r
 have hgg := gong_of hb
 unfold okStruck
 have HC0 := Lib.hid (fun W' (hF : Fr0 W W') => isForm_any g A l.length c (some mb) form W' hn)
 have HC1 := Lib.hid (fun W' (hF : Fr0 W W') => isBeat_any beat W')
 have HP := Lib.hid (show (W.cell? ⟨bform, 0, none⟩ = some (.int .i64 form)) ∧ (W.cell? ⟨bbeat, 0, none⟩ = some (.int .i64 beat)) from ⟨hpform, hpbeat⟩)
 have llhpform := World.block_lt_of_cell? W _ hpform
 have llhpbeat := World.block_lt_of_cell? W _ hpbeat
 dsimp only at llhpform llhpbeat
 clear hS
 by_cases q0 : isIn form 0 ((l.length : Int) - 1) = true
 ·rw [q0] at HC0 ⊢
  clear q0
  go_enter Tryd.func78, Tryd.ntmps78
  go_wp2_with (first
   | (go_at_call 79; (with_reducible refine (HC0.out _ ?hw).mono ?_); (case hw => exact (Fr.refl _ _).alloc _); rintro e W1 ⟨rfl, hf1⟩; (have hf01 : Fr0 W W1 := Fr0.trans ((Fr.refl _ _).alloc _) hf1); (have hp1hpform := hf01.cell0 HP.out.1); (have hp1hpbeat := hf01.cell0 HP.out.2); (have HBX1 := Bx.fr0 (Bx.new W 105 (bookC g A l.length c (some mb))) hf1); (have y10 := HBX1.at_ 0 (v := .int .i64 g) rfl); (have y11 := HBX1.at_ 1 (v := .slice A l.length c) rfl); (have y12 := HBX1.at_ 2 (v := .map (some mb)) rfl))
   | (go_at_call 80; (with_reducible refine (HC1.out _ ?hw).mono ?_); (case hw => exact hf01); rintro e W2 ⟨rfl, hf2⟩; (have hf02 : Fr0 W W2 := Fr0.trans (hf01) hf2); (have hp2hpform := hf02.cell0 HP.out.1); (have hp2hpbeat := hf02.cell0 HP.out.2); (have HBX2 := Bx.fr0 HBX1 hf2); (have y20 := HBX2.at_ 0 (v := .int .i64 g) rfl); (have y21 := HBX2.at_ 1 (v := .slice A l.length c) rfl); (have y22 := HBX2.at_ 2 (v := .map (some mb)) rfl)))
  go_ret
  exact ⟨by simp, hf02⟩
 ·rw [Bool.not_eq_true] at q0
  rw [q0] at HC0 ⊢
  clear q0
  go_enter Tryd.func78, Tryd.ntmps78
  go_wp2_with (first
   | (go_at_call 79; (with_reducible refine (HC0.out _ ?hw).mono ?_); (case hw => exact (Fr.refl _ _).alloc _); rintro e W1 ⟨rfl, hf1⟩; (have hf01 : Fr0 W W1 := Fr0.trans ((Fr.refl _ _).alloc _) hf1); (have hp1hpform := hf01.cell0 HP.out.1); (have hp1hpbeat := hf01.cell0 HP.out.2); (have HBX1 := Bx.fr0 (Bx.new W 105 (bookC g A l.length c (some mb))) hf1); (have y10 := HBX1.at_ 0 (v := .int .i64 g) rfl); (have y11 := HBX1.at_ 1 (v := .slice A l.length c) rfl); (have y12 := HBX1.at_ 2 (v := .map (some mb)) rfl)))
  go_ret
  exact ⟨by simp, hf01⟩
end Go.Proofs.YtfdenclnneigfaaDoor.R
namespace Go.Proofs.YtfdenclnneigfaaDoor.PRaspKeys
open Go.RowKit Go.Proofs.YtfdenclnneigfaaDoorW.PrintWords Go.Proofs.YtfdenclnneigfaaDoorW.PrintLast Go.Proofs.YtfdenclnneigfaaDoor.R Go.Proofs.YtfdenclnneigfaaDoor.M
abbrev Glob := Go.Proofs.YtfdenclnneigfaaDoor.R.Glob
theorem Glob.fr {w w' : World} (h : Glob w) (hf : Go.Proofs.YtfdenclnneigfaaDoor.X.Fr0 w w') : Glob w' := Go.Proofs.YtfdenclnneigfaaDoor.R.Glob.fr h hf
theorem cut_max {P : Program} (t e : TypeId) {i : TypeInfo} (ht : P.underlying t = some (.slice e)) (hi : P.info? e = some i) (A : Option Addr) (n c : Nat) (hc : n ≤ c) :
  ∀ W : World, (Instr.slice t (.slice A n c) none (some (.int .i64 n)) (some (.int .i64 n))).run P W = .ok (.slice A n n) W := by
 intro W
 have hel : P.elem t = e := by simp [Program.elem, ht]
 have hu : P.underlying t = some (.slice (P.elem t)) := by rw [hel]; exact ht
 have ha : (A.map fun x => x.add 0) = A := by cases A <;> simp [Addr.add]
 rw [run_slice_hm W t A n c hu .i64 .i64 n n (by omega) (by omega) (by omega), hel]
 simp [sizeOf, typeInfo, hi, sliced, Result.andThen, ha]
theorem V_cap {α : Type} {d : Kd α} {e base : Nat} {ok : Nat → Prop} {W : World} {A : Option Addr} {n c : Nat} {xs : List α} (h : d.V e W base ok (.slice A n c) xs) : n ≤ c := by
 obtain ⟨A', c', hv, hc, hF⟩ := h
 cases hv
 exact hc
theorem V_cut' {α : Type} {d : Kd α} {e base : Nat} {ok : Nat → Prop} {W : World} {A : Option Addr} {n c : Nat} {xs : List α} (h : d.V e W base ok (.slice A n c) xs) : d.V e W base ok (.slice A n n) xs := by
 obtain ⟨A', c', hv, hc, hF⟩ := h
 cases hv
 exact ⟨A, _, rfl, Nat.le_refl _, hF⟩
theorem Fr.of_below {S : Nat → Prop} {a b : World} (h : Below a.heap.size a b) : Go.Proofs.YtfdenclnneigfaaDoor.X.Fr S a b := Go.Proofs.YtfdenclnneigfaaDoor.X.Fr.of_below h
end Go.Proofs.YtfdenclnneigfaaDoor.PRaspKeys
namespace Go.Proofs.YtfdenclnneigfaaDoor.R
open Go.RowKit Go.Shelf Go.Proofs.YtfdenclnneigfaaDoorW.PrintWords Go.Proofs.YtfdenclnneigfaaDoorW.PrintLast Go.Proofs.YtfdenclnneigfaaDoor.PRaspKeys Go.Proofs.YtfdenclnneigfaaDoor.X
attribute [local go_sem] Oper.semAt_some
/-- What a book's rows hold. -/
structure Book (w : World) (A : Option Addr) (c : Nat) (l : List S114) : Prop where
 r : Kd.C k114 w A l.length l
 c : l.length ≤ c
 glob : Glob w
theorem Book.fr {w w' : World} {A : Option Addr} {c : Nat} {l : List S114} (h : Book w A c l) (hf : Fr0 w w') : Book w' A c l := ⟨C_fr h.r hf, h.c, h.glob.fr hf⟩
theorem fr_below {w w' : World} (h : Fr0 w w') : Below w.heap.size w w' := h.below (Nat.le_refl _) (fun _ _ h => h)
/-- What 'opened' tells. -/
def Opens (g : Int) (A : Option Addr) (c : Nat) (l : List S114) (E : Int) (w : World) (e : Ending) (w' : World) : Prop :=
 ∃ g' A' n' c' o', e = .returned (.tuple #[bookV g' A' n' c' o', .int .i64 E]) ∧ Fr0 w w' ∧ (E = 0 → ∃ mb, g' = g ∧ A' = A ∧ n' = l.length ∧ c' = c ∧ o' = some mb ∧ St g A c l mb w')
theorem openE_ok {g : Int} {l : List S114} {ok : Bool} (h : openE g l ok = 0) : bookOk g l = true ∧ ok = true := by
 unfold openE at h
 by_cases hb : bookOk g l = true
 ·rw [if_pos hb] at h
  cases ok
  ·simp at h
  ·exact ⟨hb, rfl⟩
 ·rw [if_neg hb] at h
  simp at h
theorem info_3 : ∃ i, Tryd.prog.info? 3 = some i := by
 cases h : Tryd.prog.info? 3 with
 | none => have := info3; rw [h] at this; cases this
 | some i => exact ⟨i, rfl⟩
theorem cut26 (A : Option Addr) (n c : Nat) (hc : n ≤ c) : ∀ W : World, (Instr.slice 28 (.slice A n c) none (some (.int .i64 n)) (some (.int .i64 n))).run Tryd.prog W = .ok (.slice A n n) W := by
 obtain ⟨i, hi⟩ := info_3
 exact cut_max 28 3 Tryd.underlying28 hi A n c hc
/-! ### Struck -/
set_option maxRecDepth 100000 in
theorem open_struck (g : Int) (A : Option Addr) (c : Nat) (l : List S114) (form beat : Int) (b1 b2 : Nat) (W : World) (hB : Book W A c l) (h1 : W.cell? ⟨b1, 0, none⟩ = some (.int .i64 form)) (h2 : W.cell? ⟨b2, 0, none⟩ = some (.int .i64 beat)) :
  Calls Tryd.prog 77 #[.agg #[.int .i64 g, .slice A l.length c], .func (.func 78) #[] #[.pointer (some ⟨b1, 0, none⟩), .pointer (some ⟨b2, 0, none⟩)]] W (Opens g A c l (openE g l (okStruck g l form beat)) W) :=
 opened_any 78 _ (fun _ _ => by kernel_rfl) g A c l _ W hB.r hB.c hB.glob (fun hb mb W' hf hS => right53 g A c l mb b1 form b2 beat W' hb hS (hf.cell0 h1) (hf.cell0 h2))
def struckF (g : Int) (l : List S114) (form beat : Int) : List Int × Int :=
 if openE g l (okStruck g l form beat) = 0 then (lst (hits l form (beat % (rd_T114 l form).f0)) 5, 0) else ([], openE g l (okStruck g l form beat))
set_option maxHeartbeats 2000000 in
set_option maxRecDepth 100000 in
theorem struck_any (g : Int) (A : Option Addr) (c : Nat) (l : List S114) (form beat : Int) (w : World) (hB : Book w A c l) :
  Calls Tryd.prog 43 #[.agg #[.int .i64 g, .slice A l.length c], .int .i64 form, .int .i64 beat] w fun e w' =>
   ∃ v0_ : Value, e = .returned (.tuple #[v0_, .int .i64 (struckF g l form beat).2]) ∧ Kd.V (Kd.int .i64) 3 w' w.heap.size (fun k_ => (w.heap.size ≤ k_)) v0_ (struckF g l form beat).1 ∧ Below w.heap.size w w' := by
 have HOP := Lib.hid (fun (b1 b2 : Nat) W (hf : Fr0 w W) h1 h2 => open_struck g A c l form beat b1 b2 W (hB.fr hf) h1 h2)
 have hfw : Fr0 w (((w.alloc (.cells #[.int .i64 g, .slice A l.length c] 24)).alloc (.cells #[.int .i64 form] 3)).alloc (.cells #[.int .i64 beat] 3)) := (((Fr.refl _ _).alloc _).alloc _).alloc _
 have c1 : Bx (((w.alloc (.cells #[.int .i64 g, .slice A l.length c] 24)).alloc (.cells #[.int .i64 form] 3)).alloc (.cells #[.int .i64 beat] 3)) (w.heap.size + 1) 3 #[.int .i64 form] := (Bx.of_new (by simp)).alloc _
 have c2 : Bx (((w.alloc (.cells #[.int .i64 g, .slice A l.length c] 24)).alloc (.cells #[.int .i64 form] 3)).alloc (.cells #[.int .i64 beat] 3)) (w.heap.size + 1 + 1) 3 #[.int .i64 beat] := Bx.of_new (by simp)
 have HFW := Lib.hid hfw
 have HC1 := Lib.hid c1
 have HC2 := Lib.hid c2
 clear hfw c1 c2
 by_cases hz : openE g l (okStruck g l form beat) = 0
 ·have hN : struckF g l form beat = (lst (hits l form (beat % (rd_T114 l form).f0)) 5, 0) := by unfold struckF; rw [if_pos hz]
  obtain ⟨hbk, hok⟩ := openE_ok hz
  unfold okStruck at hok
  rw [Bool.and_eq_true, isIn_iff, isIn_iff] at hok
  have HAT := Lib.hid (fun mb W hS => at_any g A c l mb (beats_of hbk) form beat W hS (by omega) (by omega) (by omega) (by omega))
  have HLI := Lib.hid (fun W => list_any (hits l form (beat % (rd_T114 l form).f0)) W)
  rw [hN]
  rw [hz] at HOP
  clear hz hN hok hbk
  generalize hits l form (beat % (rd_T114 l form).f0) = H at *
  go_enter Tryd.func43, Tryd.ntmps43
  go_wp2_with (first
   | (go_at_call 77; (with_reducible refine (HOP.out _ _ _ ?hw ?h1 ?h2).mono ?_); (case hw => exact HFW.out); (case h1 => exact HC1.out.at_ 0 rfl); (case h2 => exact HC2.out.at_ 0 rfl); rintro e W5 ⟨g', A', n', c', o', rfl, hf5, hop⟩; obtain ⟨mb, rfl, rfl, rfl, rfl, rfl, hS5⟩ := hop rfl; (have HS5 := Lib.hid hS5); (have p1 := (HC1.out.fr0 hf5).at_ 0 (v := .int .i64 form) rfl); (have p2 := (HC2.out.fr0 hf5).at_ 0 (v := .int .i64 beat) rfl); (have l1 := (HC1.out.fr0 hf5).lt); (have l2 := (HC2.out.fr0 hf5).lt); clear hop hS5)
   | (go_at_call 81; (with_reducible refine (HAT.out _ _ ?hw).mono ?_); (case hw => exact HS5.out.fr ((Fr.refl _ _).alloc _)); rintro e W6 ⟨rfl, hf6⟩)
   | (go_at_call 82; (with_reducible refine (HLI.out _).mono ?_); rintro e W7 ⟨v, rfl, hR, hf7⟩; obtain ⟨A2, c2, rfl, hcl, -⟩ := Kd.R_reads hR; (have hcut := cut26 A2 _ c2 hcl); (have HR := Lib.hid hR); clear hR hcl))
  refine bodyPost_ret (v := .tuple #[.slice A2 (lst H 5).length (lst H 5).length, .int .i64 0]) (by simp [results, Tryd.results43, go_sem]) rfl ⟨_, rfl, ?_, ?_⟩
  ·have hf06 : Fr0 w W6 := Fr0.trans (Fr.alloc (Fr0.trans HFW.out hf5) _) hf6
   exact Kd.V_mono (V_cut' (Kd.R_V (base' := w.heap.size) HR.out)) (fun k hk => Nat.le_trans hf06.size hk)
  ·exact fr_below (Fr0.trans (Fr0.trans (Fr.alloc (Fr0.trans HFW.out hf5) _) hf6) hf7)
 ·have hN : struckF g l form beat = ([], openE g l (okStruck g l form beat)) := by unfold struckF; rw [if_neg hz]
  rw [hN]
  clear hN
  generalize openE g l (okStruck g l form beat) = E at *
  go_enter Tryd.func43, Tryd.ntmps43
  go_wp2_with (first
   | (go_at_call 77; (with_reducible refine (HOP.out _ _ _ ?hw ?h1 ?h2).mono ?_); (case hw => exact HFW.out); (case h1 => exact HC1.out.at_ 0 rfl); (case h2 => exact HC2.out.at_ 0 rfl); rintro e W5 ⟨g', A', n', c', o', rfl, hf5, hop⟩))
  refine bodyPost_ret (v := .tuple #[.slice none 0 0, .int .i64 E]) (by simp [results, Tryd.results43, go_sem]) rfl ⟨_, rfl, Kd.V_nil _ _ _ _ _, ?_⟩
  exact fr_below (Fr.alloc (Fr0.trans HFW.out hf5) _)
end Go.Proofs.YtfdenclnneigfaaDoor.R
namespace Go.Proofs.YtfdenclnneigfaaDoor.H
/-! ### Readings, with no program in sight -/
/-- The least of a run of numbers; 1000: there is none. -/
def minT (f : Nat → Int) (a : Nat) : Nat → Int
 | 0 => 1000
 | n + 1 => min (minT f a n) (f (a + n))
theorem minT_le {f : Nat → Int} {a : Nat} {v : Int} (hv : v < 1000) : ∀ n, minT f a n ≤ v ↔ ∃ i, i < n ∧ f (a + i) ≤ v
 | 0 => by
  unfold minT
  exact ⟨fun h => by omega, fun ⟨i, h, _⟩ => by omega⟩
 | n + 1 => by
  have ih := minT_le (f := f) (a := a) hv n
  unfold minT
  constructor
  ·intro h
   by_cases c : minT f a n ≤ v
   ·obtain ⟨i, hi, e⟩ := ih.1 c
    exact ⟨i, by omega, e⟩
   ·exact ⟨n, by omega, by omega⟩
  ·rintro ⟨i, hi, e⟩
   by_cases c : i = n
   ·subst c; omega
   ·have := ih.2 ⟨i, by omega, e⟩
    omega
theorem minT_bnd {f : Nat → Int} {a : Nat} (hf : ∀ i, 0 ≤ f i) : ∀ n, 0 ≤ minT f a n ∧ minT f a n ≤ 1000
 | 0 => by unfold minT; omega
 | n + 1 => by
  have := minT_bnd (a := a) hf n
  have := hf (a + n)
  unfold minT
  omega
/-- The fewest wrong notes from note k at stroke s on, d notes being behind it, up to stroke hi. -/
def rdN (c : Nat → Nat → Int) (hi : Int) : Nat → Nat → Nat → Int
 | 0, k, s => c k s
 | d + 1, k, s => if c k s < 1000 then min 1000 (c k s + minT (fun j => rdN c hi d (k + 1) j) (s + 1) (hi - s).toNat) else c k s
theorem rdN_bnd {c : Nat → Nat → Int} {hi : Int} (hc : ∀ k s, 0 ≤ c k s ∧ c k s ≤ 1000) : ∀ d k s, 0 ≤ rdN c hi d k s ∧ rdN c hi d k s ≤ 1000
 | 0, k, s => hc k s
 | d + 1, k, s => by
  have h1 := hc k s
  have h2 := minT_bnd (a := s + 1) (fun j => (rdN_bnd (hi := hi) hc d (k + 1) j).1) (hi - s).toNat
  unfold rdN
  split <;> omega
/-- A reading: from note k at stroke s, d notes on, the last at stroke e, x notes wrong. -/
inductive Rd (c : Nat → Nat → Int) : Nat → Nat → Nat → Nat → Int → Prop
 | one {k s : Nat} : c k s < 1000 → Rd c k s 0 s (c k s)
 | cons {k s j d e : Nat} {y : Int} : c k s < 1000 → s < j → Rd c (k + 1) j d e y → Rd c k s (d + 1) e (c k s + y)
theorem Rd.nn {c : Nat → Nat → Int} (hc : ∀ k s, 0 ≤ c k s) {k s d e : Nat} {x : Int} (h : Rd c k s d e x) : 0 ≤ x := by
 induction h with
 | one _ => exact hc _ _
 | @cons k s j d e y a b h ih => have := hc k s; omega
theorem Rd.le {c : Nat → Nat → Int} {k s d e : Nat} {x : Int} (h : Rd c k s d e x) : s + d ≤ e := by
 induction h with
 | one _ => omega
 | cons a b h ih => omega
theorem rd_le {c : Nat → Nat → Int} {hi w : Int} (hc : ∀ k s, 0 ≤ c k s) (hw : w < 1000) : ∀ d k s (v : Int), v ≤ w → (rdN c hi d k s ≤ v ↔ ∃ e x, Rd c k s d e x ∧ x ≤ v ∧ (d = 0 ∨ (e : Int) ≤ hi))
 | 0, k, s, v, hv => by
  unfold rdN
  constructor
  ·exact fun h => ⟨s, _, Rd.one (by omega), h, .inl rfl⟩
  ·rintro ⟨e, x, h, hx, _⟩
   cases h
   exact hx
 | d + 1, k, s, v, hv => by
  unfold rdN
  have h0 := hc k s
  constructor
  ·intro h
   by_cases c1 : c k s < 1000
   ·rw [if_pos c1] at h
    obtain ⟨i, hi1, hi2⟩ := (minT_le (show v - c k s < 1000 by omega) _).1 (show minT (fun j => rdN c hi d (k + 1) j) (s + 1) (hi - s).toNat ≤ v - c k s by omega)
    obtain ⟨e, x, hr, hx, he⟩ := (rd_le hc hw d (k + 1) (s + 1 + i) (v - c k s) (by omega)).1 hi2
    refine ⟨e, c k s + x, Rd.cons c1 (by omega) hr, by omega, .inr ?_⟩
    rcases he with he | he
    ·subst he
     cases hr
     omega
    ·exact he
   ·rw [if_neg c1] at h
    omega
  ·rintro ⟨e, x, h, hx, he⟩
   cases h with
   | @cons _ _ j _ _ y c1 hj hr =>
    rw [if_pos c1]
    have hle := hr.le
    have hy := (rd_le (hi := hi) hc hw d (k + 1) j (v - c k s) (by omega)).2 ⟨e, y, hr, by omega, .inr (by omega)⟩
    have := (minT_le (f := fun j => rdN c hi d (k + 1) j) (a := s + 1) (show v - c k s < 1000 by omega) (hi - s).toNat).2 ⟨j - (s + 1), by omega, by rw [show s + 1 + (j - (s + 1)) = j by omega]; exact hy⟩
    omega
/-! ### A reading by its last note -/
theorem Rd.snoc {c : Nat → Nat → Int} {k s d e : Nat} {x : Int} (h : Rd c k s d e x) {f : Nat} (hf : e < f) (hc : c (k + d + 1) f < 1000) : Rd c k s (d + 1) f (x + c (k + d + 1) f) := by
 induction h with
 | @one k s a => exact Rd.cons a hf (Rd.one hc)
 | @cons k s j d e y a b h ih =>
  rw [show k + (d + 1) + 1 = k + 1 + d + 1 by omega] at hc ⊢
  have := Rd.cons a b (ih hf hc)
  rwa [← Int.add_assoc] at this
theorem Rd.unsnoc {c : Nat → Nat → Int} : ∀ {d k s f : Nat} {x : Int}, Rd c k s (d + 1) f x → ∃ e y, Rd c k s d e y ∧ e < f ∧ c (k + d + 1) f < 1000 ∧ x = y + c (k + d + 1) f
 | 0, k, s, f, x, h => by
  cases h with
  | cons a b h =>
   cases h with
   | one h1 => exact ⟨s, _, Rd.one a, b, h1, rfl⟩
 | d + 1, k, s, f, x, h => by
  cases h with
  | @cons _ _ j _ _ y a b h =>
   obtain ⟨e, z, h1, h2, h3, h4⟩ := Rd.unsnoc h
   rw [show k + 1 + d + 1 = k + (d + 1) + 1 by omega] at h3 h4
   exact ⟨e, _, Rd.cons a b h1, h2, h3, by rw [h4, Int.add_assoc]⟩
/-- Two readings, the one's last note the other's first. -/
theorem Rd.join {c : Nat → Nat → Int} {k s d e : Nat} {x : Int} (h : Rd c k s d e x) {d' f : Nat} {y : Int} (h' : Rd c (k + d) e d' f y) : Rd c k s (d + d') f (x + y - c (k + d) e) := by
 induction h with
 | @one k s a =>
  rw [Nat.zero_add, show c k s + y - c (k + 0) s = y by show c k s + y - c k s = y; omega]
  exact h'
 | @cons k s j d e z a b h ih =>
  rw [show k + (d + 1) = k + 1 + d by omega] at h' ⊢
  have := Rd.cons a b (ih h')
  rw [show d + 1 + d' = d + d' + 1 by omega, show c k s + z + y - c (k + 1 + d) e = c k s + (z + y - c (k + 1 + d) e) by omega]
  exact this
theorem Rd.split {c : Nat → Nat → Int} : ∀ {d d' k s f : Nat} {x : Int}, Rd c k s (d + d') f x → ∃ e y z, Rd c k s d e y ∧ Rd c (k + d) e d' f z ∧ x = y + z - c (k + d) e
 | 0, d', k, s, f, x, h => by
  rw [Nat.zero_add] at h
  have hk : c k s < 1000 := by cases h <;> assumption
  exact ⟨s, _, x, Rd.one hk, h, by show x = c k s + x - c k s; omega⟩
 | d + 1, d', k, s, f, x, h => by
  rw [show d + 1 + d' = d + d' + 1 by omega] at h
  cases h with
  | @cons _ _ j _ _ y a b h =>
   obtain ⟨e, u, v, h1, h2, h3⟩ := Rd.split h
   rw [show k + 1 + d = k + (d + 1) by omega] at h2 h3
   exact ⟨e, _, v, Rd.cons a b h1, h2, by omega⟩
/-! ### The table: from the first note on -/
def tbN (c : Nat → Nat → Int) (begin : Nat) : Nat → Nat → Int
 | 0, s => if c 0 s < 100 ∧ s = begin then c 0 s else 100
 | k + 1, s => if c (k + 1) s < 100 then min 100 (minT (fun j => tbN c begin k j) 0 s + c (k + 1) s) else 100
theorem tb_le {c : Nat → Nat → Int} {begin : Nat} (hc : ∀ k s, 0 ≤ c k s) (hb : ∀ k s, c k s < 1000 → c k s < 100) : ∀ k s (v : Int), v < 100 → (tbN c begin k s ≤ v ↔ ∃ x, Rd c 0 begin k s x ∧ x ≤ v)
 | 0, s, v, hv => by
  unfold tbN
  constructor
  ·intro h
   split at h
   ·next c1 =>
    obtain ⟨c1, rfl⟩ := c1
    exact ⟨_, Rd.one (by omega), h⟩
   ·omega
  ·rintro ⟨x, h, hx⟩
   cases h with
   | one h1 => rw [if_pos ⟨hb _ _ h1, rfl⟩]; exact hx
 | k + 1, s, v, hv => by
  unfold tbN
  have h0 := hc (k + 1) s
  constructor
  ·intro h
   split at h
   ·next c1 =>
    obtain ⟨j, hj, hv2⟩ := (minT_le (show v - c (k + 1) s < 1000 by omega) s).1 (show minT (fun j => tbN c begin k j) 0 s ≤ v - c (k + 1) s by omega)
    rw [Nat.zero_add] at hv2
    obtain ⟨x, hr, hx⟩ := (tb_le hc hb k j _ (by omega)).1 hv2
    have := hr.snoc (f := s) (by omega) (show c (0 + k + 1) s < 1000 by rw [Nat.zero_add]; omega)
    rw [Nat.zero_add] at this
    exact ⟨_, this, by omega⟩
   ·omega
  ·rintro ⟨x, h, hx⟩
   obtain ⟨e, y, h1, h2, h3, h4⟩ := Rd.unsnoc h
   rw [Nat.zero_add] at h3 h4
   have h5 := hb _ _ h3
   rw [if_pos h5]
   have := (tb_le hc hb k e (v - c (k + 1) s) (by omega)).2 ⟨y, h1, by omega⟩
   have := (minT_le (f := fun j => tbN c begin k j) (a := 0) (show v - c (k + 1) s < 1000 by omega) s).2 ⟨e, h2, by rw [Nat.zero_add]; exact this⟩
   omega
/-- A reading that must have note q at stroke r: the costs of all others of note q are never. -/
def cAt (c : Nat → Nat → Int) (q r : Nat) (k s : Nat) : Int := if k = q ∧ s ≠ r then 1000 else c k s
theorem cAt_ne {c : Nat → Nat → Int} {q r k : Nat} (s : Nat) (h : k ≠ q) : cAt c q r k s = c k s := by
 unfold cAt
 rw [if_neg (fun g => h g.1)]
theorem cAt_eq (c : Nat → Nat → Int) (q r : Nat) : cAt c q r q r = c q r := by
 unfold cAt
 rw [if_neg (fun g => g.2 rfl)]
theorem cAt_lt {c : Nat → Nat → Int} {q r k s : Nat} (h : cAt c q r k s < 1000) : cAt c q r k s = c k s ∧ (k = q → s = r) := by
 unfold cAt at h ⊢
 split at h
 ·omega
 ·next g =>
  rw [if_neg g]
  exact ⟨rfl, fun e => Classical.byContradiction fun n => g ⟨e, n⟩⟩
theorem Rd.of_at {c : Nat → Nat → Int} {q r k s d e : Nat} {x : Int} (h : Rd (cAt c q r) k s d e x) : Rd c k s d e x := by
 induction h with
 | @one k s a =>
  obtain ⟨e1, _⟩ := cAt_lt a
  rw [e1] at a ⊢
  exact Rd.one a
 | @cons k s j d e y a b h ih =>
  obtain ⟨e1, _⟩ := cAt_lt a
  rw [e1] at a ⊢
  exact Rd.cons a b ih
theorem Rd.at_pre {c : Nat → Nat → Int} {q r k s d e : Nat} {x : Int} (h : Rd c k s d e x) (hq : k + d = q) (hr : e = r) : Rd (cAt c q r) k s d e x := by
 induction h with
 | @one k s a =>
  subst hr
  have : k = q := by omega
  subst this
  rw [← cAt_eq c k s] at a ⊢
  exact Rd.one a
 | @cons k s j d e y a b h ih =>
  rw [← cAt_ne (c := c) (q := q) (r := r) s (show k ≠ q by omega)] at a ⊢
  exact Rd.cons a b (ih (by omega) hr)
theorem Rd.at_suf {c : Nat → Nat → Int} {q r k s d e : Nat} {x : Int} (h : Rd c k s d e x) (hq : q < k) : Rd (cAt c q r) k s d e x := by
 induction h with
 | @one k s a =>
  rw [← cAt_ne (c := c) (q := q) (r := r) s (show k ≠ q by omega)] at a ⊢
  exact Rd.one a
 | @cons k s j d e y a b h ih =>
  rw [← cAt_ne (c := c) (q := q) (r := r) s (show k ≠ q by omega)] at a ⊢
  exact Rd.cons a b (ih (by omega))
theorem Rd.at_first {c : Nat → Nat → Int} {q r d e : Nat} {x : Int} (h : Rd c q r d e x) : Rd (cAt c q r) q r d e x := by
 cases h with
 | one a =>
  rw [← cAt_eq c q r] at a ⊢
  exact Rd.one a
 | @cons _ _ j d _ y a b h =>
  rw [← cAt_eq c q r] at a ⊢
  exact Rd.cons a b (h.at_suf (by omega))
/-- A reading with note q at stroke r: one up to it, and one from it on. -/
theorem rd_at {c : Nat → Nat → Int} {q r s d e : Nat} {x : Int} : Rd (cAt c q r) 0 s (q + d) e x ↔ ∃ y z, Rd c 0 s q r y ∧ Rd c q r d e z ∧ x = y + z - c q r := by
 constructor
 ·intro h
  obtain ⟨f, y, z, h1, h2, h3⟩ := Rd.split h
  rw [Nat.zero_add] at h2 h3
  have hf : cAt c q r q f < 1000 := by cases h2 <;> assumption
  obtain ⟨e1, e2⟩ := cAt_lt hf
  obtain rfl := e2 rfl
  exact ⟨y, z, h1.of_at, h2.of_at, by rw [h3, e1]⟩
 ·rintro ⟨y, z, h1, h2, rfl⟩
  have a := h1.at_pre (q := q) (r := r) (by omega) rfl
  have b := h2.at_first
  rw [show q = 0 + q by omega] at b
  have := a.join (d' := d) (f := e) (y := z) (by rw [Nat.zero_add] at b ⊢; exact b)
  rw [Nat.zero_add, cAt_eq] at this
  exact this
end Go.Proofs.YtfdenclnneigfaaDoor.H
namespace Go.Proofs.YtfdenclnneigfaaDoor.H
/-! ### How many numbers two rows share, in order -/
def lrow (x : Int) (f : List Int → Int) : List Int → Int
 | [] => 0
 | y :: ys => if x = y then max (max (f (y :: ys)) (lrow x f ys)) (1 + f ys) else max (f (y :: ys)) (lrow x f ys)
def lcs : List Int → List Int → Int
 | [], _ => 0
 | x :: xs, l => lrow x (lcs xs) l
theorem lcs_nil : ∀ a : List Int, lcs a [] = 0
 | [] => rfl
 | _ :: _ => rfl
theorem lcs_cons (x y : Int) (xs ys : List Int) : lcs (x :: xs) (y :: ys) = if x = y then max (max (lcs xs (y :: ys)) (lcs (x :: xs) ys)) (1 + lcs xs ys) else max (lcs xs (y :: ys)) (lcs (x :: xs) ys) := rfl
theorem lcs_has : ∀ a b : List Int, ∃ l : List Int, l.Sublist a ∧ l.Sublist b ∧ (l.length : Int) = lcs a b
 | [], b => ⟨[], List.Sublist.refl _, List.nil_sublist _, rfl⟩
 | x :: xs, [] => ⟨[], List.nil_sublist _, List.Sublist.refl _, rfl⟩
 | x :: xs, y :: ys => by
  obtain ⟨l1, a1, b1, c1⟩ := lcs_has xs (y :: ys)
  obtain ⟨l2, a2, b2, c2⟩ := lcs_has (x :: xs) ys
  obtain ⟨l3, a3, b3, c3⟩ := lcs_has xs ys
  rw [lcs_cons]
  by_cases e : x = y
  ·subst e
   rw [if_pos rfl]
   by_cases h : max (lcs xs (x :: ys)) (lcs (x :: xs) ys) ≤ 1 + lcs xs ys
   ·exact ⟨x :: l3, a3.cons_cons x, b3.cons_cons x, by rw [List.length_cons]; omega⟩
   ·by_cases h2 : lcs (x :: xs) ys ≤ lcs xs (x :: ys)
    ·exact ⟨l1, a1.cons x, b1, by omega⟩
    ·exact ⟨l2, a2, b2.cons x, by omega⟩
  ·rw [if_neg e]
   by_cases h2 : lcs (x :: xs) ys ≤ lcs xs (y :: ys)
   ·exact ⟨l1, a1.cons x, b1, by omega⟩
   ·exact ⟨l2, a2, b2.cons y, by omega⟩
 termination_by a b => a.length + b.length
theorem lcs_max : ∀ a b l : List Int, l.Sublist a → l.Sublist b → (l.length : Int) ≤ lcs a b
 | [], b, l, ha, hb => by
  rw [List.sublist_nil.1 ha]
  exact Int.le_refl _
 | x :: xs, [], l, ha, hb => by
  rw [List.sublist_nil.1 hb]
  exact Int.le_refl _
 | x :: xs, y :: ys, l, ha, hb => by
  rw [lcs_cons]
  have hm : (l.length : Int) ≤ max (lcs xs (y :: ys)) (lcs (x :: xs) ys) ∨ (x = y ∧ (l.length : Int) ≤ 1 + lcs xs ys) := by
   cases ha with
   | cons _ h =>
    have := lcs_max xs (y :: ys) l h hb
    exact .inl (by omega)
   | cons_cons _ h =>
    next l' =>
    cases hb with
    | cons _ h2 =>
     have := lcs_max (x :: xs) ys (x :: l') (h.cons_cons x) h2
     exact .inl (by omega)
    | cons_cons _ h2 =>
     have := lcs_max xs ys l' h h2
     exact .inr ⟨rfl, by rw [List.length_cons]; omega⟩
  by_cases e : x = y
  ·rw [if_pos e]
   rcases hm with h | h <;> omega
  ·rw [if_neg e]
   rcases hm with h | h
   ·exact h
   ·exact absurd h.1 e
 termination_by a b => a.length + b.length
theorem lcs_iff {a b : List Int} {n : Int} (h1 : ∃ l : List Int, l.Sublist a ∧ l.Sublist b ∧ (l.length : Int) = n) (h2 : ∀ l : List Int, l.Sublist a → l.Sublist b → (l.length : Int) ≤ n) : lcs a b = n := by
 obtain ⟨l, a1, b1, c1⟩ := h1
 obtain ⟨l', a2, b2, c2⟩ := lcs_has a b
 have := lcs_max a b l a1 b1
 have := h2 l' a2 b2
 omega
theorem lcs_comm (a b : List Int) : lcs a b = lcs b a := by
 obtain ⟨l, a1, b1, c1⟩ := lcs_has b a
 exact lcs_iff ⟨l, b1, a1, c1⟩ (fun l h1 h2 => lcs_max b a l h2 h1)
theorem lcs_rev (a b : List Int) : lcs a.reverse b.reverse = lcs a b := by
 obtain ⟨l, a1, b1, c1⟩ := lcs_has a b
 refine lcs_iff ⟨l.reverse, List.reverse_sublist.2 a1, List.reverse_sublist.2 b1, by rw [List.length_reverse]; exact c1⟩ (fun l h1 h2 => ?_)
 have := lcs_max a b l.reverse (by have := List.reverse_sublist.2 h1; rwa [List.reverse_reverse] at this) (by have := List.reverse_sublist.2 h2; rwa [List.reverse_reverse] at this)
 rwa [List.length_reverse] at this
theorem lcs_bnd (a b : List Int) : 0 ≤ lcs a b ∧ lcs a b ≤ a.length ∧ lcs a b ≤ b.length := by
 obtain ⟨l, a1, b1, c1⟩ := lcs_has a b
 have := a1.length_le
 have := b1.length_le
 omega
theorem lcs_self (a : List Int) : lcs a a = a.length := lcs_iff ⟨a, List.Sublist.refl _, List.Sublist.refl _, rfl⟩ (fun l h _ => by have := h.length_le; omega)
theorem lcs_sub {a b : List Int} : lcs a b = b.length ↔ b.Sublist a := by
 constructor
 ·intro h
  obtain ⟨l, a1, b1, c1⟩ := lcs_has a b
  rw [← b1.eq_of_length (by omega)]
  exact a1
 ·intro h
  exact lcs_iff ⟨b, h, List.Sublist.refl _, rfl⟩ (fun l _ h2 => by have := h2.length_le; omega)
/-- By the last numbers: what the reference's rows bear. -/
theorem lcs_snoc (a b : List Int) (x y : Int) : lcs (a ++ [x]) (b ++ [y]) = if x = y then max (max (lcs a (b ++ [y])) (lcs (a ++ [x]) b)) (1 + lcs a b) else max (lcs a (b ++ [y])) (lcs (a ++ [x]) b) := by
 have h := lcs_cons x y a.reverse b.reverse
 rw [← lcs_rev (a ++ [x]), ← lcs_rev a (b ++ [y]), ← lcs_rev (a ++ [x]) b, ← lcs_rev a b]
 simp only [List.reverse_append, List.reverse_cons, List.reverse_nil, List.nil_append, List.singleton_append]
 exact h
end Go.Proofs.YtfdenclnneigfaaDoor.H
