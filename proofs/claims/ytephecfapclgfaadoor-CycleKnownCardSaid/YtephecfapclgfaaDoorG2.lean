import Derived.Test.YtephecfapclgfaaDoorB
import Derived.Test.YtephecfapclgfaaDoorX
import Derived.Test.YtephecfapclgfaaDoorVEqStruct
import Derived.Shelf.Abstract
import Derived.Shelf.RegionOpen
import Derived.WalkKit
import Derived.OwnWalkIn
import Derived.TacticsInMore
import Derived.LoopNIn
import Derived.LoopIn
import Derived.Outline
import Derived.Deep.DeepFit
import Derived.StillTailTactics
import Derived.WalkSpells
import Derived.Handy
import Derived.Lib.Hide
import Derived.Test.YtephecfapclgfaaDoorVNEv
set_option linter.unusedVariables false
set_option linter.unusedSimpArgs false
namespace Go.Proofs.YtephecfapclgfaaDoor.R
open Go.RowKit Go.Shelf Go.Proofs.YtephecfapclgfaaDoorW.PrintWords Go.Proofs.YtephecfapclgfaaDoorW.PrintLast Go.Proofs.YtephecfapclgfaaDoor.PRaspKeys Go.Proofs.YtephecfapclgfaaDoor.X
attribute [local go_sem] Oper.semAt_some

/-! ### Values -/
abbrev bookV (g : Int) (A : Option Addr) (n c : Nat) (m : Option Nat) : Value := .agg #[.int .i64 g, .slice A n c, .map m]
abbrev bookC (g : Int) (A : Option Addr) (n c : Nat) (m : Option Nat) : Array Value := #[.int .i64 g, .slice A n c, .map m]
def gv (h : Nat → Bool) : Value := .agg #[.bool (h 0), .bool (h 1), .bool (h 2), .bool (h 3), .bool (h 4)]
def gc (h : Nat → Bool) : Array Value := #[.bool (h 0), .bool (h 1), .bool (h 2), .bool (h 3), .bool (h 4)]
theorem gc_at (h : Nat → Bool) (i : Nat) (hi : i < 5) : (gc h)[i]? = some (.bool (h i)) := by
  match i, hi with
  | 0, _ | 1, _ | 2, _ | 3, _ | 4, _ => rfl
theorem gc_set (f g : Nat → Bool) (n : Nat) (h : n < 5) (hg : ∀ i, i ≠ n → g i = f i) : (gc f).setIfInBounds n (.bool (g n)) = gc g := by
  match n, h, hg with
  | 0, _, hg | 1, _, hg | 2, _, hg | 3, _, hg | 4, _, hg => simp [gc, hg]
def isIn (n lo hi : Int) : Bool := decide (lo ≤ n) && decide (n ≤ hi)
theorem isIn_iff {n lo hi : Int} : isIn n lo hi = true ↔ lo ≤ n ∧ n ≤ hi := by unfold isIn; rw [Bool.and_eq_true, decide_eq_true_eq, decide_eq_true_eq]
theorem lies_f (n lo hi : Int) : cycle_lies.f n lo hi = some (isIn n lo hi) := by
  unfold cycle_lies.f isIn
  by_cases c : lo ≤ n
  · rw [if_pos c]; simp [c]
  · rw [if_neg c]; simp [c]
theorem lies_any (n lo hi : Int) (w : World) : Calls Tryd.prog 61 #[.int .i64 n, .int .i64 lo, .int .i64 hi] w fun e w' => e = .returned (.bool (isIn n lo hi)) ∧ Fr0 w w' :=
  (cycle_lies.calls n lo hi _ w (lies_f n lo hi)).mono fun e w' h => ⟨h.1, by obtain ⟨nd, rfl⟩ := h.2; exact (Fr.refl _ _).drewN _⟩
/-! ### The rows of a book -/
def row (l : List S63) (f : Int) (g : Nat) : List Int := (rd_T63 l f).f1.getD g []
def hits (l : List S63) (f b : Int) (g : Nat) : Bool := (row l f g).contains b
/-- The globals: both sides. -/
structure Glob (w : World) : Prop where
  g0 : w.cell? ⟨0, 0, none⟩ = some (.func (.func 115) #[] #[])
  g1 : w.cell? ⟨0, 1, none⟩ = some (.func (.func 117) #[] #[])
theorem Glob.fr {w w' : World} (h : Glob w) (hf : Fr0 w w') : Glob w' := ⟨hf.cell0 h.g0, hf.cell0 h.g1⟩
theorem Fr0.trans {a b c : World} (h : Fr0 a b) (k : Fr0 b c) : Fr0 a c := Fr.trans h k
theorem C_fr {α : Type} {d : Kd α} {w w' : World} {A : Option Addr} {n : Nat} {xs : List α} (h : d.C w A n xs) (hf : Fr0 w w') : d.C w' A n xs := Kd.C_below h (hf.below (Nat.le_refl _) (fun _ _ h => h))
/-- A book, its rows and its map. -/
structure St (g : Int) (A : Option Addr) (c : Nat) (l : List S63) (mb : Nat) (w : World) : Prop where
  r : Kd.C k63 w A l.length l
  c : l.length ≤ c
  m : ∃ f, MapFn w mb f ∧ ∀ a b : Int, 0 ≤ a → a < l.length → (f a b).getD (gv fun _ => false) = gv (hits l a b)
  glob : Glob w
theorem St.fr {g : Int} {A : Option Addr} {c : Nat} {l : List S63} {mb : Nat} {w w' : World} (h : St g A c l mb w) (hf : Fr0 w w') : St g A c l mb w' := by
  obtain ⟨f, hm, hv⟩ := h.m
  exact ⟨C_fr h.r hf, h.c, ⟨f, hm.same (hf.block _ hm.lt (fun h => h)), hv⟩, h.glob.fr hf⟩
/-- What a form's beats are. -/
structure Beats (l : List S63) : Prop where
  len : l.length ≤ 4
  two : ∀ f : Int, 0 ≤ f → f < l.length → 2 ≤ (rd_T63 l f).f0 ∧ (rd_T63 l f).f0 ≤ 32

theorem key38 : Key2 Tryd.prog 38 where
  und := ⟨_, Tryd.underlying38⟩
  chk := fun e w a b => by
    show (Instr.checkKey e (9998 + 1 + 1) 38 (k2 a b)).run Tryd.prog w = _
    have h3 : ∀ (v : Value) w, (Instr.checkKey e (9998 + 1) 3 v).run Tryd.prog w = .ok () w := fun v w => by
      unfold Instr.checkKey
      simp only [Sem.run_bind, run_underlying Tryd.underlying3, Result.andThen_ok]
      rfl
    unfold Instr.checkKey
    simp only [Sem.run_bind, run_underlying Tryd.underlying38, Result.andThen_ok, k2]
    simp [h3, go_sem]
  eq := fun w a b x y => by
    show (Op.equalIn 10000 38 (k2 a b) (k2 x y)).run Tryd.prog w = _
    refine eqA_of (d := 9999) Tryd.underlying38 (by kernel_rfl) ?_
    refine eqf_cons (by rfl) (by go_simp; rfl) (by go_simp; rfl) (by go_simp) ?_
    exact eqf_last (by rfl) (by go_simp; rfl) (by go_simp; rfl) (by go_simp)
theorem _root_.Go.Proofs.YtephecfapclgfaaDoor.X.Bx.of_new {w : World} {g : Nat} {t : TypeId} {cs : Array Value} (h : g = w.heap.size) : Bx (w.alloc (.cells cs t)) g t cs := by subst h; exact Bx.new _ _ _
theorem zero89 (w : World) : (zeroValue 89).run Tryd.prog w = .ok (gv fun _ => false) w := by kernel_rfl
theorem rem_eq {a b : Int} (ha : 0 ≤ a) : Int.tmod a b = a % b := Int.tmod_eq_emod_of_nonneg ha
theorem five_set {W : World} {g : Nat} {a0 a1 a2 a3 a4 : Value} (h : Bx W g 89 #[a0, a1, a2, a3, a4]) (b0 b1 b2 b3 b4 : Value) :
    Bx (((((W.setCell ⟨g, 0, none⟩ b0).setCell ⟨g, 1, none⟩ b1).setCell ⟨g, 2, none⟩ b2).setCell ⟨g, 3, none⟩ b3).setCell ⟨g, 4, none⟩ b4) g 89 #[b0, b1, b2, b3, b4] := by
  have h := ((((h.set_ 0 b0).set_ 1 b1).set_ 2 b2).set_ 3 b3).set_ 4 b4
  simp at h
  exact h
theorem res56 {w : World} {g : Nat} {b0 b1 b2 b3 b4 : Value} {tmps : Array Value} (h6 : tmps[6]?.getD undef = .pointer (some ⟨g, 0, none⟩)) (h : Bx w g 89 #[b0, b1, b2, b3, b4]) : (results Tryd.f56 tmps).run Tryd.prog w = .ok (.agg #[b0, b1, b2, b3, b4]) w := by
  have e0 := h.at_ 0 rfl
  have e1 := h.at_ 1 rfl
  have e2 := h.at_ 2 rfl
  have e3 := h.at_ 3 rfl
  have e4 := h.at_ 4 rfl
  simp only [results, Tryd.results56]
  simp [h6, go_sem, e0, e1, e2, e3, e4]
set_option maxHeartbeats 2000000 in
set_option maxRecDepth 100000 in
theorem at_any (g : Int) (A : Option Addr) (c : Nat) (l : List S63) (mb : Nat) (hl : Beats l) (form beat : Int) (w : World) (h : St g A c l mb w) (hf : 0 ≤ form) (hf' : form < l.length) (hb : 0 ≤ beat) (hb' : beat ≤ 1000000) :
    Calls Tryd.prog 56 #[bookV g A l.length c (some mb), .int .i64 form, .int .i64 beat] w fun e w' => e = .returned (gv (hits l form (beat % (rd_T63 l form).f0))) ∧ Fr0 w w' := by
  have HS := Lib.hid h
  obtain ⟨ad, A1, c1, rfl, hx0, -⟩ := at_T63 h.r form hf hf'
  have h2 := hl.two form hf hf'
  obtain ⟨f, hm, hv⟩ := h.m
  have hlk : ∀ W, Fr0 w W → (Instr.lookup 81 (.map (some mb)) (.agg #[.int .i64 form, .int .i64 (beat % (rd_T63 l form).f0)]) false).run Tryd.prog W = .ok (gv (hits l form (beat % (rd_T63 l form).f0))) W := fun W hW => by
    have := lookup_k2' key38 Tryd.underlying81 zero89 (hm.same (hW.block _ hm.lt (fun h => h))) form (beat % (rd_T63 l form).f0)
    rw [hv _ _ hf hf'] at this
    exact this
  have HL := Lib.hid hlk
  generalize hB : (rd_T63 l form).f0 = B at *
  have hp := Int.emod_nonneg beat (show B ≠ 0 by omega)
  have hlt := Int.emod_lt_of_pos beat (show 0 < B by omega)
  have hrem : beat.tmod B = beat % B := rem_eq hb
  have HREM := Lib.hid hrem
  clear h hm hv hlk hrem hB hl
  generalize hits l form (beat % B) = H at *
  unfold gv at *
  go_enter Tryd.func56, Tryd.ntmps56
  go_wp2
  have B0 := (Bx.new w 83 (bookC g (some ad) l.length c (some mb))).alloc (.cells #[.bool false, .bool false, .bool false, .bool false, .bool false] 89)
  have B1 : Bx ((w.alloc (.cells (bookC g (some ad) l.length c (some mb)) 83)).alloc (.cells #[.bool false, .bool false, .bool false, .bool false, .bool false] 89)) (w.heap.size + 1) 89 #[.bool false, .bool false, .bool false, .bool false, .bool false] := Bx.of_new (by simp)
  have hf0 : Fr0 w ((w.alloc (.cells (bookC g (some ad) l.length c (some mb)) 83)).alloc (.cells #[.bool false, .bool false, .bool false, .bool false, .bool false] 89)) := ((Fr.refl _ _).alloc _).alloc _
  have hx := hf0.cell0 hx0
  have b1 := B0.at_ 1 rfl
  have b2 := B0.at_ 2 rfl
  generalize hW : (w.alloc (.cells (bookC g (some ad) l.length c (some mb)) 83)).alloc (.cells #[.bool false, .bool false, .bool false, .bool false, .bool false] 89) = W at *
  have hB1 := Lib.hid B1
  clear B1 B0
  have q0 := hB1.out.at_ 0 rfl
  have z0 := hB1.out.frz 0
  have q1 := hB1.out.at_ 1 rfl
  have z1 := hB1.out.frz 1
  have q2 := hB1.out.at_ 2 rfl
  have z2 := hB1.out.frz 2
  have q3 := hB1.out.at_ 3 rfl
  have z3 := hB1.out.frz 3
  have q4 := hB1.out.at_ 4 rfl
  have z4 := hB1.out.frz 4
  have hB0 : ¬ B = 0 := by omega
  have hrem := HREM.out
  refine start_ (n := 15) (S := fun w' => w'.cell? ⟨w.heap.size, 1, none⟩ = some (.slice (some ad) l.length c) ∧ w'.cell? ⟨w.heap.size, 2, none⟩ = some (.map (some mb)) ∧ w'.cell? (ad.add (form.toNat * 2)) = some (.int .i64 B) ∧ (Instr.lookup 81 (.map (some mb)) (.agg #[.int .i64 form, .int .i64 (beat % B)]) false).run Tryd.prog w' = .ok (.agg #[.bool (H 0), .bool (H 1), .bool (H 2), .bool (H 3), .bool (H 4)]) w') (ds := [14]) #[false, false, false, false, false, false, false, false, false, false, false, false, false, false, false] (by kernel_rfl) rfl rfl ⟨b1, b2, hx, (HL.out _ (Fr.drew hf0))⟩ (fun hHeld => ?_)
  refine pure_ (i := 0) (N := some 7) (v := ?_) (a' := ?_) #[true, false, false, false, false, false, false, false, false, false, false, false, false, false, false] rfl rfl (by kernel_rfl) (fun _ _ _ h => h) (Or.inl ⟨by rfl, ?_⟩) ?_ ?_
  rotate_left
  · intro w'
    go_simp
    with_reducible rfl
  rotate_left
  · simp only [Act.put, List.setIfInBounds_toArray, List.set_cons_zero, List.set_cons_succ, i64_w, i32_w]
    rfl
  refine pure_ (i := 2) (N := some 9) (v := ?_) (a' := ?_) #[true, false, true, false, false, false, false, false, false, false, false, false, false, false, false] rfl rfl (by kernel_rfl) (fun _ _ _ h => h) (Or.inl ⟨by rfl, ?_⟩) ?_ ?_
  rotate_left
  · intro w'
    go_simp
    with_reducible rfl
  rotate_left
  · simp only [Act.put, List.setIfInBounds_toArray, List.set_cons_zero, List.set_cons_succ, i64_w, i32_w]
    rfl
  refine pure_ (i := 3) (N := some 10) (v := ?_) (a' := ?_) #[true, false, true, true, false, false, false, false, false, false, false, false, false, false, false] rfl rfl (by kernel_rfl) (fun _ _ _ h => h) (Or.inl ⟨by rfl, ?_⟩) ?_ ?_
  rotate_left
  · intro w'
    go_simp
    with_reducible rfl
  rotate_left
  · simp only [Act.put, List.setIfInBounds_toArray, List.set_cons_zero, List.set_cons_succ, i64_w, i32_w]
    rfl
  refine pure_ (i := 4) (N := some 11) (v := ?_) (a' := ?_) #[true, false, true, true, true, false, false, false, false, false, false, false, false, false, false] rfl rfl (by kernel_rfl) (fun _ _ _ h => h) (Or.inl ⟨by rfl, ?_⟩) ?_ ?_
  rotate_left
  · intro w'
    go_simp
    with_reducible rfl
  rotate_left
  · simp only [Act.put, List.setIfInBounds_toArray, List.set_cons_zero, List.set_cons_succ, i64_w, i32_w]
    rfl
  refine pure_ (i := 5) (N := some 12) (v := ?_) (a' := ?_) #[true, false, true, true, true, true, false, false, false, false, false, false, false, false, false] rfl rfl (by kernel_rfl) (fun _ _ _ h => h) (Or.inl ⟨by rfl, ?_⟩) ?_ ?_
  rotate_left
  · intro w'
    go_simp
    with_reducible rfl
  rotate_left
  · simp only [Act.put, List.setIfInBounds_toArray, List.set_cons_zero, List.set_cons_succ, i64_w, i32_w]
    rfl
  refine pure_ (i := 7) (N := some 14) (v := ?_) (a' := ?_) #[true, false, true, true, true, true, false, true, false, false, false, false, false, false, false] rfl rfl (by kernel_rfl) (fun _ _ _ h => h) (Or.inl ⟨by rfl, ?_⟩) ?_ ?_
  rotate_left
  · intro w'
    go_simp
    with_reducible rfl
  rotate_left
  · simp only [Act.put, List.setIfInBounds_toArray, List.set_cons_zero, List.set_cons_succ, i64_w, i32_w]
    rfl
  refine take_ (i := 1) (N := some 8) (v := ?_) (a' := ?_) #[true, true, true, true, true, true, false, true, false, false, false, false, false, false, false] rfl rfl (by kernel_rfl) (fun _ _ _ h => h) (Or.inl ⟨by rfl, ?_⟩) hHeld ?_ ?_
  rotate_left
  · rintro w' ⟨s0, s1, s2, s3⟩
    go_simp
    with_reducible rfl
  rotate_left
  · simp only [Act.put, List.setIfInBounds_toArray, List.set_cons_zero, List.set_cons_succ, i64_w, i32_w]
    rfl
  refine take_ (i := 6) (N := some 13) (v := ?_) (a' := ?_) #[true, true, true, true, true, true, true, true, false, false, false, false, false, false, false] rfl rfl (by kernel_rfl) (fun _ _ _ h => h) (Or.inl ⟨by rfl, ?_⟩) hHeld ?_ ?_
  rotate_left
  · rintro w' ⟨s0, s1, s2, s3⟩
    go_simp
    with_reducible rfl
  rotate_left
  · simp only [Act.put, List.setIfInBounds_toArray, List.set_cons_zero, List.set_cons_succ, i64_w, i32_w]
    rfl
  refine pure_ (i := 8) (N := some 15) (v := ?_) (a' := ?_) #[true, true, true, true, true, true, true, true, true, false, false, false, false, false, false] rfl rfl (by kernel_rfl) (fun _ _ _ h => h) (Or.inl ⟨by rfl, ?_⟩) ?_ ?_
  rotate_left
  · intro w'
    go_simp
    with_reducible rfl
  rotate_left
  · simp only [Act.put, List.setIfInBounds_toArray, List.set_cons_zero, List.set_cons_succ, i64_w, i32_w]
    rfl
  refine pure_ (i := 9) (N := some 16) (v := ?_) (a' := ?_) #[true, true, true, true, true, true, true, true, true, true, false, false, false, false, false] rfl rfl (by kernel_rfl) (fun _ _ _ h => h) (Or.inl ⟨by rfl, ?_⟩) ?_ ?_
  rotate_left
  · intro w'
    go_simp
    with_reducible rfl
  rotate_left
  · simp only [Act.put, List.setIfInBounds_toArray, List.set_cons_zero, List.set_cons_succ, i64_w, i32_w]
    rfl
  refine take_ (i := 10) (N := some 17) (v := ?_) (a' := ?_) #[true, true, true, true, true, true, true, true, true, true, true, false, false, false, false] rfl rfl (by kernel_rfl) (fun _ _ _ h => h) (Or.inl ⟨by rfl, ?_⟩) hHeld ?_ ?_
  rotate_left
  · rintro w' ⟨s0, s1, s2, s3⟩
    go_simp
    with_reducible rfl
  rotate_left
  · simp only [Act.put, List.setIfInBounds_toArray, List.set_cons_zero, List.set_cons_succ, i64_w, i32_w]
    rfl
  refine pure_ (i := 11) (N := some 18) (v := ?_) (a' := ?_) #[true, true, true, true, true, true, true, true, true, true, true, true, false, false, false] rfl rfl (by kernel_rfl) (fun _ _ _ h => h) (Or.inl ⟨by rfl, ?_⟩) ?_ ?_
  rotate_left
  · intro w'
    go_simp
    with_reducible rfl
  rotate_left
  · simp only [Act.put, List.setIfInBounds_toArray, List.set_cons_zero, List.set_cons_succ, i64_w, i32_w]
    rfl
  refine pure_ (i := 12) (N := some 19) (v := ?_) (a' := ?_) #[true, true, true, true, true, true, true, true, true, true, true, true, true, false, false] rfl rfl (by kernel_rfl) (fun _ _ _ h => h) (Or.inl ⟨by rfl, ?_⟩) ?_ ?_
  rotate_left
  · intro w'
    go_simp
    with_reducible rfl
  rotate_left
  · simp only [Act.put, List.setIfInBounds_toArray, List.set_cons_zero, List.set_cons_succ, i64_w, i32_w]
    rfl
  refine take_ (i := 13) (N := some 20) (v := ?_) (a' := ?_) #[true, true, true, true, true, true, true, true, true, true, true, true, true, true, false] rfl rfl (by kernel_rfl) (fun _ _ _ h => h) (Or.inl ⟨by rfl, ?_⟩) hHeld ?_ ?_
  rotate_left
  · rintro w' ⟨s0, s1, s2, s3⟩
    go_simp
    with_reducible rfl
  rotate_left
  · simp only [Act.put, List.setIfInBounds_toArray, List.set_cons_zero, List.set_cons_succ, i64_w, i32_w]
    rfl
  refine last_ (i := 14) (N := none) #[true, true, true, true, true, true, true, true, true, true, true, true, true, true, true] rfl rfl (by kernel_rfl) (by decide) (fun K hK => ?_)
  refine skip_ (w1 := ?_) (by rfl) rfl ?_ ?_
  rotate_left
  · go_simp
    rfl
  refine hK.out _ _ ?_
  clear hK K
  refine done_ (by kernel_rfl) ?_
  clear q0 q1 q2 q3 q4 z0 z1 z2 z3 z4 hrem hB0 b1 b2 hx
  go_wp2
  refine bodyPost_ret (res56 rfl (five_set hB1.out _ _ _ _ _)) rfl ⟨rfl, ?_⟩
  repeat (first | exact hf0 | apply Fr.drew | (refine Fr.setCell ?_ (.inr (by simp)) _))
end Go.Proofs.YtephecfapclgfaaDoor.R
namespace Go.Proofs.YtephecfapclgfaaDoor.R
open Go.RowKit Go.Shelf Go.Proofs.YtephecfapclgfaaDoorW.PrintWords Go.Proofs.YtephecfapclgfaaDoorW.PrintLast Go.Proofs.YtephecfapclgfaaDoor.PRaspKeys Go.Proofs.YtephecfapclgfaaDoor.X
attribute [local go_sem] Oper.semAt_some

theorem eq89 (b0 b1 b2 b3 b4 : Bool) (w : World) : (Op.equalIn 10000 89 (.agg #[.bool b0, .bool b1, .bool b2, .bool b3, .bool b4]) (.agg #[.bool false, .bool false, .bool false, .bool false, .bool false])).run Tryd.prog w = .ok (!(b0 || b1 || b2 || b3 || b4)) w := by
  cases b0 <;> cases b1 <;> cases b2 <;> cases b3 <;> cases b4 <;> kernel_rfl
def lst (h : Nat → Bool) : Nat → List Int
  | 0 => []
  | n + 1 => if h n = true then lst h n ++ [(n : Int)] else lst h n
theorem lst_len (h : Nat → Bool) : ∀ n, (lst h n).length ≤ n
  | 0 => by simp [lst]
  | n + 1 => by
    have := lst_len h n
    unfold lst
    split
    · simp; omega
    · omega
def anyG (h : Nat → Bool) : Bool := h 0 || h 1 || h 2 || h 3 || h 4
theorem lst_none {h : Nat → Bool} (ha : anyG h = false) : lst h 5 = [] := by
  unfold anyG at ha
  simp only [Bool.or_eq_false_iff] at ha
  obtain ⟨⟨⟨⟨h0, h1⟩, h2⟩, h3⟩, h4⟩ := ha
  simp [lst, h0, h1, h2, h3, h4]
set_option maxHeartbeats 2000000 in
set_option maxRecDepth 100000 in
theorem list_any (h : Nat → Bool) (w : World) :
    Calls Tryd.prog 57 #[gv h] w fun e w' => ∃ v, e = .returned v ∧ Kd.R (Kd.int .i64) 3 w' w.heap.size (fun k => w.heap.size ≤ k) v (lst h 5) ∧ Fr0 w w' := by
  have heq : ∀ w' : World, (Op.equalIn 10000 89 (.agg #[.bool (h 0), .bool (h 1), .bool (h 2), .bool (h 3), .bool (h 4)]) (.agg #[.bool false, .bool false, .bool false, .bool false, .bool false])).run Tryd.prog w' = .ok (!anyG h) w' := fun w' => eq89 _ _ _ _ _ w'
  unfold gv
  by_cases hany : anyG h = true
  · go_enter Tryd.func57, Tryd.ntmps57
    go_wp2
    have hf0 : Fr0 w (w.alloc (.cells #[.bool (h 0), .bool (h 1), .bool (h 2), .bool (h 3), .bool (h 4)] 89)) := (Fr.refl _ _).alloc _
    have HF0 := Lib.hid hf0
    clear heq hf0 hany
    generalize hW8 : w.alloc (.cells #[.bool (h 0), .bool (h 1), .bool (h 2), .bool (h 3), .bool (h 4)] 89) = W8 at *
    clear hW8
    have HLEN := Lib.hid (lst_len h)
    have HST := Lib.hid (show ∀ n, lst h (n + 1) = if h n = true then lst h n ++ [(n : Int)] else lst h n from fun _ => rfl)
    have hix : ∀ (n : Nat) (w' : World), n < 5 → (Instr.index 89 (.agg #[.bool (h 0), .bool (h 1), .bool (h 2), .bool (h 3), .bool (h 4)]) (.int .i64 n)).run Tryd.prog w' = .ok (.bool (h n)) w' := fun n w' hn => by
      rcases (show n = 0 ∨ n = 1 ∨ n = 2 ∨ n = 3 ∨ n = 4 by omega) with rfl | rfl | rfl | rfl | rfl <;> kernel_rfl
    have HIX := Lib.hid hix
    clear hix
    go_loopw [3, 10] (fun v3 v10 wr => ∃ n : Nat, n ≤ 5 ∧ v10 = .int .i64 n ∧ Kd.R (Kd.int .i64) 3 wr W8.heap.size (fun k => W8.heap.size ≤ k) v3 (lst h n) ∧ Below W8.heap.size W8 wr) (fun _ v10 _ => (5 - intOf v10).toNat)
    case atStart => exact ⟨0, by omega, by rfl, Kd.R_nil _ _ _ _ _, Below.refl _ _⟩
    case round =>
      obtain ⟨n, hn, rfl, hR, hb⟩ := hrel
      have HR := Lib.hid hR
      have HBL := Lib.hid hb
      clear hR hb
      by_cases hlt : n < 5
      · have hle : (n : Int) < 5 := by omega
        have hix := fun w' => HIX.out n w' hlt
        have HL := Lib.hid (HLEN.out n)
        have HSL := Lib.hid (HST.out n)
        generalize h n = sp at hix HSL
        generalize hxs : lst h n = xs at HR HSL HL
        clear hxs
        cases sp
        · go_wp2
          refine ⟨⟨n + 1, by omega, by go_num, ?_, HBL.out⟩, by simp [intOf]; omega⟩
          rw [HSL.out]
          exact HR.out
        · go_wp2_with (first | ((with_reducible refine gate_builtin (b := .append) (xs := #[.tmp 15, .tmp 17]) rfl ?_); at_builtin; refine Kd.R_append (Kd.int .i64) (w0 := W8) W8.heap.size rfl (.tmp 15) (.tmp 17) 26 3 (.int .i64 0) 8 rfl Tryd.underlying26 info3 rfl (by decide) (by omega) _ xs ((n : Int)) [.int .i64 (n : Int)] (fun k => W8.heap.size ≤ k) (fun _ => False) rfl rfl ?aP (fun _ hk => hk.elim) ?aF ?aO ?aB ?aS ?aL ?_; (case aP => exact rfl); (case aB => exact HBL.out); (case aF => exact (fun k hk => Nat.le_trans HBL.out.size hk)); (case aO => exact HR.out); (case aS => exact HBL.out.size); (case aL => have := HL.out; omega); intro v104 w6 ho hb hg hat))
          refine ⟨⟨n + 1, by omega, by go_num, ?_, hb⟩, by simp [intOf]; omega⟩
          rw [HSL.out]
          exact ho
      · obtain rfl : n = 5 := by omega
        go_wp2
        go_ret
        exact ⟨_, rfl, Kd.R_mono (Kd.R_lower HR.out HF0.out.size) (fun k hk => Nat.le_trans HF0.out.size hk), HF0.out.trans (Fr.of_below HBL.out)⟩
  · rw [Bool.not_eq_true] at hany
    have HN := Lib.hid (lst_none hany)
    go_enter Tryd.func57, Tryd.ntmps57
    go_wp2
    go_ret
    exact ⟨_, rfl, by rw [HN.out]; exact Kd.R_nil _ _ _ _ _, (Fr.refl _ _).alloc _⟩
end Go.Proofs.YtephecfapclgfaaDoor.R
namespace Go.Proofs.YtephecfapclgfaaDoor.R
open Go.RowKit Go.Shelf Go.Proofs.YtephecfapclgfaaDoorW.PrintWords Go.Proofs.YtephecfapclgfaaDoorW.PrintLast Go.Proofs.YtephecfapclgfaaDoor.PRaspKeys Go.Proofs.YtephecfapclgfaaDoor.X
attribute [local go_sem] Oper.semAt_some

def cntG (h : Nat → Bool) : Int := (lst h 5).length
theorem cntG_bnd (h : Nat → Bool) : 0 ≤ cntG h ∧ cntG h ≤ 5 := by
  have := lst_len h 5
  unfold cntG
  omega
set_option maxHeartbeats 1000000 in
theorem many_any (h : Nat → Bool) (w : World) : Calls Tryd.prog 114 #[gv h] w fun e w' => e = .returned (.int .i64 (cntG h)) ∧ Fr0 w w' := by
  have HL := Lib.hid (fun W => list_any h W)
  unfold gv at *
  go_enter Tryd.func114, Tryd.ntmps114
  go_wp2_with (go_at_call 57; refine (HL.out _).mono ?_; rintro e W1 ⟨v, rfl, hR, hf⟩; obtain ⟨A, c, rfl⟩ := Kd.R_slice hR; (have HR := Lib.hid hR); (have HF := Lib.hid hf); clear hR hf)
  go_ret
  exact ⟨rfl, Fr0.trans ((Fr.refl _ _).alloc _) HF.out⟩
abbrev spotV (f b : Int) : Value := .agg #[.int .i64 f, .int .i64 b]
/-- What is struck at a beat of the first passage, and not of the other one. -/
def aloneF (l : List S63) (sf sb tf tb beat : Int) : Int := cntG fun i => hits l sf ((sb + beat) % (rd_T63 l sf).f0) i && !hits l tf ((tb + beat) % (rd_T63 l tf).f0) i
set_option maxHeartbeats 1000000 in
set_option maxRecDepth 100000 in
theorem alone_any (g : Int) (A : Option Addr) (c : Nat) (l : List S63) (mb : Nat) (hl : Beats l) (sf sb tf tb beat : Int) (w : World) (h : St g A c l mb w) (h1 : 0 ≤ sf) (h1' : sf < l.length) (h2 : 0 ≤ tf) (h2' : tf < l.length) (h3 : 0 ≤ sb ∧ sb ≤ 1000) (h4 : 0 ≤ tb ∧ tb ≤ 1000) (h5 : 0 ≤ beat ∧ beat ≤ 1000) :
    Calls Tryd.prog 118 #[bookV g A l.length c (some mb), spotV sf sb, spotV tf tb, .int .i64 beat] w fun e w' => e = .returned (.int .i64 (aloneF l sf sb tf tb beat)) ∧ Fr0 w w' := by
  have HS := Lib.hid h
  have HA1 := Lib.hid (fun W (hW : Fr0 w W) => at_any g A c l mb hl sf (sb + beat) W (HS.out.fr hW) h1 h1' (by omega) (by omega))
  have HA2 := Lib.hid (fun W (hW : Fr0 w W) => at_any g A c l mb hl tf (tb + beat) W (HS.out.fr hW) h2 h2' (by omega) (by omega))
  unfold aloneF
  generalize hits l sf ((sb + beat) % (rd_T63 l sf).f0) = H at *
  generalize hits l tf ((tb + beat) % (rd_T63 l tf).f0) = K at *
  unfold gv at HA1 HA2
  clear h hl
  go_enter Tryd.func118, Tryd.ntmps118
  go_wp2_with (first
    | (go_at_call 56; (with_reducible refine (HA1.out _ ?hw).mono ?_); (case hw => repeat (first | exact Fr.refl _ _ | apply Fr.alloc)); rintro e W1 ⟨rfl, hf1⟩; (have hb0 := Bx.fr0 ((((Bx.new w 83 (bookC g A l.length c (some mb)))).alloc _).alloc _) hf1); (have y0 := hb0.at_ 0 (v := .int .i64 g) rfl); (have y1 := hb0.at_ 1 (v := .slice A l.length c) rfl); (have y2 := hb0.at_ 2 (v := .map (some mb)) rfl); (have hb2 := Bx.fr0 (Bx.of_new (w := (w.alloc _).alloc _) (g := w.heap.size + 1 + 1) (t := 38) (cs := #[.int .i64 tf, .int .i64 tb]) (by simp)) hf1); (have u0 := hb2.at_ 0 (v := .int .i64 tf) rfl); (have u1 := hb2.at_ 1 (v := .int .i64 tb) rfl); (have l0 := hb0.lt); (have l2 := hb2.lt); (have l0' := Nat.lt_succ_of_lt l0); (have l2' := Nat.lt_succ_of_lt l2); (have n0 : w.heap.size ≠ W1.heap.size := Nat.ne_of_lt l0); (have n2 : w.heap.size + 1 + 1 ≠ W1.heap.size := Nat.ne_of_lt l2); (have hf01 : Fr0 w W1 := Fr0.trans (by repeat (first | exact Fr.refl _ _ | apply Fr.alloc)) hf1))
    | (go_at_call 56; (with_reducible refine (HA2.out _ ?hw).mono ?_); (case hw => exact Fr.alloc hf01 _); rintro e W2 ⟨rfl, hf2⟩; (have hb9 := Bx.fr0 (Bx.new W1 89 (gc H)) hf2); (have hf02 : Fr0 w W2 := Fr0.trans (Fr.alloc hf01 _) hf2)))
  have HB9 := Lib.hid (show Bx W2 W1.heap.size 89 (gc H) from hb9)
  have HF2 := Lib.hid hf02
  have HS1 := Lib.hid hf01.size
  clear hb0 hb2 hf1 hf01 hf02 hf2 y0 y1 y2 u0 u1 l0 l2 hb9
  generalize hG9 : W1.heap.size = g9 at *
  have hix : ∀ (n : Nat) (w' : World), n < 5 → (Instr.index 89 (.agg #[.bool (K 0), .bool (K 1), .bool (K 2), .bool (K 3), .bool (K 4)]) (.int .i64 n)).run Tryd.prog w' = .ok (.bool (K n)) w' := fun n w' hn => by
    rcases (show n = 0 ∨ n = 1 ∨ n = 2 ∨ n = 3 ∨ n = 4 by omega) with rfl | rfl | rfl | rfl | rfl <;> kernel_rfl
  have HIX := Lib.hid hix
  clear hix
  go_loopw [28] (fun v28 wr => ∃ n : Nat, n ≤ 5 ∧ v28 = .int .i64 n ∧ Bx wr g9 89 (gc fun i => if i < n then H i && !K i else H i) ∧ Fr (· = g9) W2 wr) (fun v28 _ => (5 - intOf v28).toNat)
  case atStart => exact ⟨0, by omega, by rfl, by simpa using HB9.out, Fr.refl _ _⟩
  case round =>
    obtain ⟨n, hn, rfl, hb, hf⟩ := hrel
    have HB := Lib.hid hb
    have HF := Lib.hid hf
    clear hb hf
    by_cases hlt : n < 5
    · have hle : (n : Int) < 5 := by omega
      have hix := fun w' => HIX.out n w' hlt
      have q := HB.out.at_ n (gc_at _ n hlt)
      have z := HB.out.frz n
      have hst := HB.out.set_ n (.bool (H n && !K n))
      have e : (gc fun i => if i < n then H i && !K i else H i).setIfInBounds n (.bool (H n && !K n)) = gc fun i => if i < n + 1 then H i && !K i else H i := by
        have := gc_set (fun i => if i < n then H i && !K i else H i) (fun i => if i < n + 1 then H i && !K i else H i) n hlt (fun i hi => by
          by_cases c : i < n
          · simp [c, Nat.lt_succ_of_lt c]
          · simp [c, show ¬ i < n + 1 by omega])
        simpa using this
      rw [e] at hst
      have HST := Lib.hid hst
      clear hst e
      rw [if_neg (by omega)] at q
      generalize H n = hn1 at *
      generalize K n = kn1 at *
      cases hn1
      · go_wp2
        refine ⟨⟨n + 1, by omega, by go_num, ?_, ?_⟩, by simp [intOf]; omega⟩
        · simpa using HST.out
        · exact HF.out.setCell (.inl rfl) _
      · go_wp2
        refine ⟨⟨n + 1, by omega, by go_num, ?_, ?_⟩, by simp [intOf]; omega⟩
        · simpa using HST.out
        · exact HF.out.setCell (.inl rfl) _
    · obtain rfl : n = 5 := by omega
      have hcell : ∀ i : Nat, i < 5 → wr.cell? ⟨g9, i, none⟩ = some (.bool (H i && !K i)) := fun i hi => by
        have := HB.out.at_ i (gc_at _ i hi)
        rwa [if_pos hi] at this
      have p0 := hcell 0 (by omega)
      have p1 := hcell 1 (by omega)
      have p2 := hcell 2 (by omega)
      have p3 := hcell 3 (by omega)
      have p4 := hcell 4 (by omega)
      clear hcell
      go_wp2_with (go_at_call 114; refine (many_any (fun i => H i && !K i) _).mono ?_; rintro e W3 ⟨rfl, hf3⟩)
      go_ret
      exact ⟨rfl, Fr0.trans (Fr.step (S := fun _ => False) HF2.out HF.out (fun k hk e => by have := HS1.out; have e : k = g9 := e; omega)) hf3⟩
theorem St.heap {g : Int} {A : Option Addr} {c : Nat} {l : List S63} {mb : Nat} {w : World} (h : St g A c l mb w) : mb < w.heap.size := by
  obtain ⟨f, hm, _⟩ := h.m
  exact hm.lt
abbrev twoV (sf sb tf tb : Int) : Value := .agg #[.int .i64 sf, .int .i64 sb, .int .i64 tf, .int .i64 tb]
set_option maxHeartbeats 1000000 in
theorem mine_any (g : Int) (A : Option Addr) (c : Nat) (l : List S63) (mb : Nat) (hl : Beats l) (sf sb tf tb beat : Int) (w : World) (h : St g A c l mb w) (h1 : 0 ≤ sf) (h1' : sf < l.length) (h2 : 0 ≤ tf) (h2' : tf < l.length) (h3 : 0 ≤ sb ∧ sb ≤ 1000) (h4 : 0 ≤ tb ∧ tb ≤ 1000) (h5 : 0 ≤ beat ∧ beat ≤ 1000) :
    Calls Tryd.prog 115 #[twoV sf sb tf tb, bookV g A l.length c (some mb), .int .i64 beat] w fun e w' => e = .returned (.int .i64 (aloneF l sf sb tf tb beat)) ∧ Fr0 w w' := by
  have HC := Lib.hid (fun W (hW : Fr0 w W) => alone_any g A c l mb hl sf sb tf tb beat W (h.fr hW) h1 h1' h2 h2' h3 h4 h5)
  clear h hl
  go_enter Tryd.func115, Tryd.ntmps115
  go_wp2_with (go_at_call 118; (with_reducible refine (HC.out _ ?hw).mono ?_); (case hw => repeat (first | exact Fr.refl _ _ | apply Fr.alloc)); rintro e W1 ⟨rfl, hf1⟩)
  go_ret
  exact ⟨rfl, Fr0.trans (by repeat (first | exact Fr.refl _ _ | apply Fr.alloc)) hf1⟩
set_option maxHeartbeats 1000000 in
theorem theirs_any (g : Int) (A : Option Addr) (c : Nat) (l : List S63) (mb : Nat) (hl : Beats l) (sf sb tf tb beat : Int) (w : World) (h : St g A c l mb w) (h1 : 0 ≤ sf) (h1' : sf < l.length) (h2 : 0 ≤ tf) (h2' : tf < l.length) (h3 : 0 ≤ sb ∧ sb ≤ 1000) (h4 : 0 ≤ tb ∧ tb ≤ 1000) (h5 : 0 ≤ beat ∧ beat ≤ 1000) :
    Calls Tryd.prog 117 #[twoV sf sb tf tb, bookV g A l.length c (some mb), .int .i64 beat] w fun e w' => e = .returned (.int .i64 (aloneF l tf tb sf sb beat)) ∧ Fr0 w w' := by
  have HC := Lib.hid (fun W (hW : Fr0 w W) => alone_any g A c l mb hl tf tb sf sb beat W (h.fr hW) h2 h2' h1 h1' h4 h3 h5)
  clear h hl
  go_enter Tryd.func117, Tryd.ntmps117
  go_wp2_with (go_at_call 118; (with_reducible refine (HC.out _ ?hw).mono ?_); (case hw => repeat (first | exact Fr.refl _ _ | apply Fr.alloc)); rintro e W1 ⟨rfl, hf1⟩)
  go_ret
  exact ⟨rfl, Fr0.trans (by repeat (first | exact Fr.refl _ _ | apply Fr.alloc)) hf1⟩
end Go.Proofs.YtephecfapclgfaaDoor.R
namespace Go.Proofs.YtephecfapclgfaaDoor.R
open Go.RowKit Go.Proofs.YtephecfapclgfaaDoorW.PrintWords Go.Proofs.YtephecfapclgfaaDoorW.PrintLast Go.Proofs.YtephecfapclgfaaDoorW.PrintMore Go.Proofs.YtephecfapclgfaaDoor.PRaspKeys Go.Proofs.YtephecfapclgfaaDoor.X

/-! ### Small words -/
theorem w64 {x : Int} (h : -9223372036854775808 ≤ x) (h' : x ≤ 9223372036854775807) : wrap64 x = x := by unfold wrap64; omega
theorem evc {α : Type} {g f : Nat → Option α} {r : α} (h : ∀ k, g k = f k) (k : Ev f r) : Ev g r := Ev.congr h k
theorem ebind {α β : Type} {g : Nat → Option α} {f : Nat → α → Option β} {a : α} {r : β} (h : Ev g a) (k : Ev (fun n => f n a) r) : Ev (fun n => (g n).bind (f n)) r := Ev.bind h k
theorem ev_some {α : Type} {g : Nat → Option α} {r : α} (h : ∀ k, g k = some r) : Ev g r := ⟨0, fun k _ => h k⟩
theorem rd_nat (l : List Int) (n : Nat) : rd l (n : Int) = l.getD n 0 := by simp [rd]
/-! ### What a book is -/
def gr (below : Int) : Int → List Int → Bool
  | _, [] => true
  | last, x :: xs => isIn x (last + 1) (below - 1) && gr below x xs
def rowsOk (b : Int) (rows : List (List Int)) : Bool := rows.all (fun r => gr b (-1) r) && (match rows with | [] => true | r :: _ => r == [b - 1])
def formOk (g : Int) (f : S63) : Bool := isIn f.f0 2 32 && (((f.f1.length : Int) == g) && rowsOk f.f0 f.f1)
def bookOk (g : Int) (l : List S63) : Bool := (isIn g 1 5 && isIn l.length 1 4) && l.all (formOk g)
theorem gr_in {b : Int} : ∀ (l : List Int) (last : Int), gr b last l = true → ∀ x ∈ l, last < x ∧ x < b
  | [], _, _, x, hx => by cases hx
  | y :: l, last, h, x, hx => by
    unfold gr at h
    rw [Bool.and_eq_true, isIn_iff] at h
    rcases List.mem_cons.1 hx with rfl | hx
    · omega
    · have := gr_in l y h.2 x hx
      omega
theorem grows_l0 (b : Int) (hb : -1000000 ≤ b ∧ b ≤ 1000000) (l : List Int) (hl : l.length ≤ 9223372036854775807) : ∀ (d n : Nat) (last : Int), n + d = l.length → -1 ≤ last → last ≤ 1000000 →
    Ev (fun k => cycle_grows.l0 k b last l (l.length : Int) (n : Int)) (gr b last (l.drop n))
  | 0, n, last, hd, h1, h2 => by
    refine Ev.step (fun k => by rw [cycle_grows.l0, if_neg (by omega)]) ?_
    rw [List.drop_of_length_le (by omega)]
    exact Ev.now true
  | d + 1, n, last, hd, h1, h2 => by
    have hn : n < l.length := by omega
    rw [List.drop_eq_getElem_cons hn]
    refine Ev.step (fun k => by rw [cycle_grows.l0, if_pos (by omega), if_pos (by omega), if_pos (by omega), rd_nat, show l.getD n 0 = l[n] by simp [hn], lies_f, Option.bind_some, w64 (x := last + 1) (by omega) (by omega), w64 (x := b - 1) (by omega) (by omega), w64 (x := (n : Int) + 1) (by omega) (by omega), show ((n : Int) + 1) = ((n + 1 : Nat) : Int) by omega]) ?_
    unfold gr
    by_cases c : isIn l[n] (last + 1) (b - 1) = true
    · have hi := isIn_iff.1 c
      refine evc (fun k => by rw [if_pos c]) ?_
      rw [c, Bool.true_and]
      exact grows_l0 b hb l hl d (n + 1) l[n] (by omega) (by omega) (by omega)
    · refine evc (fun k => by rw [if_neg c]) ?_
      rw [Bool.not_eq_true] at c
      rw [c]
      exact Ev.now false
theorem grows_f (b : Int) (hb : -1000000 ≤ b ∧ b ≤ 1000000) (l : List Int) (hl : l.length ≤ 9223372036854775807) : Ev (fun k => cycle_grows.f k l b) (gr b (-1) l) := by
  have := grows_l0 b hb l hl l.length 0 (-1) (by omega) (by omega) (by omega)
  exact this
theorem equal1_f (l : List Int) (x : Int) (hl : l.length ≤ 9223372036854775807) : Ev (fun k => slices_Equal_int_int.f k l [x]) (l == [x]) := by
  match l, hl with
  | [], _ => exact evc (fun k => by rw [slices_Equal_int_int.f, if_neg (by simp)]) (Ev.now false)
  | a :: b :: r, _ => exact evc (fun k => by rw [slices_Equal_int_int.f, if_neg (by simp; omega)]) (by simpa using Ev.now false)
  | [a], _ =>
    refine evc (fun k => by rw [slices_Equal_int_int.f, if_pos (by simp)]) ?_
    by_cases c : a = x
    · subst c
      refine Ev.step (fun k => by rw [slices_Equal_int_int.l0, if_pos (by simp), if_pos (by omega), if_pos (by simp), if_pos (by simp), if_pos (by simp [rd]), w64 (x := 0 + 1) (by omega) (by omega)]) ?_
      refine Ev.step (fun k => by rw [slices_Equal_int_int.l0, if_neg (by simp)]) ?_
      rw [show (([a] : List Int) == [a]) = true by simp]
      exact Ev.now true
    · refine Ev.step (fun k => by rw [slices_Equal_int_int.l0, if_pos (by simp), if_pos (by omega), if_pos (by simp), if_pos (by simp), if_neg (by simpa [rd] using c)]) ?_
      rw [show (([a] : List Int) == [x]) = false by simpa using c]
      exact Ev.now false
section
variable (g : Int) (l : List S63)
/-- Whether the rows from place n on are as they should be. -/
def rowsFrom (b : Int) (rows : List (List Int)) (n : Nat) : Bool := (rows.drop n).all (fun r => gr b (-1) r) && (if n = 0 then (match rows with | [] => true | r :: _ => r == [b - 1]) else true)
theorem check_l1 (x18 : List S63) (x19 x20 : Int) (b : Int) (hb : 2 ≤ b ∧ b ≤ 32) (rows : List (List Int)) (hr : ∀ r ∈ rows, r.length ≤ 9223372036854775807) (hl : rows.length ≤ 9223372036854775807) {R : Int} : ∀ (d n : Nat) (q : Bool), n + d = rows.length →
    Ev (fun k => cycle_Check.l0 k (q && rowsFrom b rows n) x18 x19 (wrap64 (x20 + 1)) g l) R → Ev (fun k => cycle_Check.l1 k q x18 x19 x20 rows (rows.length : Int) (n : Int) g l b rows) R
  | 0, n, q, hd, h => by
    refine Ev.step (fun k => by rw [cycle_Check.l1, if_neg (by omega)]) ?_
    have e : rowsFrom b rows n = true := by
      unfold rowsFrom
      rw [List.drop_of_length_le (by omega)]
      split
      · have : rows = [] := List.eq_nil_of_length_eq_zero (by omega)
        subst this; rfl
      · rfl
    rw [e, Bool.and_true] at h
    exact h
  | d + 1, n, q, hd, h => by
    have hn : n < rows.length := by omega
    have hg : rd_L1 rows (n : Int) = rows[n] := by simp [rd_L1, hn]
    refine Ev.step (fun k => by rw [cycle_Check.l1, if_pos (by omega), if_pos (by omega), if_pos (by omega), hg, w64 (x := (n : Int) + 1) (by omega) (by omega), show ((n : Int) + 1) = ((n + 1 : Nat) : Int) by omega]) ?_
    have hstep : rowsFrom b rows n = (gr b (-1) rows[n] && ((if n = 0 then rows[n] == [b - 1] else true) && rowsFrom b rows (n + 1))) := by
      unfold rowsFrom
      rw [List.drop_eq_getElem_cons hn, List.all_cons, if_neg (show ¬ n + 1 = 0 by omega), Bool.and_true]
      split
      · rename_i e
        subst e
        match rows, hn with
        | r :: rs, _ => simp [Bool.and_comm, Bool.and_assoc, Bool.and_left_comm]
      · simp
    rw [hstep] at h
    cases q with
    | false =>
      refine evc (fun k => by rw [if_neg (by simp)]) ?_
      refine check_l1 x18 x19 x20 b hb rows hr hl d (n + 1) false (by omega) ?_
      simpa using h
    | true =>
      refine evc (fun k => by rw [if_pos rfl]) ?_
      refine ebind (grows_f b (by omega) rows[n] (hr _ (List.getElem_mem hn))) ?_
      rw [Bool.true_and] at h
      by_cases c : gr b (-1) rows[n] = true
      · rw [c, Bool.true_and] at h
        by_cases h0 : n = 0
        · refine evc (fun k => by rw [if_pos c, if_neg (by omega)]) ?_
          rw [if_pos h0] at h
          have := equal1_f rows[n] (wrap64 (b - 1)) (hr _ (List.getElem_mem hn))
          rw [w64 (x := b - 1) (by omega) (by omega)] at this
          refine ebind (evc (fun k => by rw [w64 (x := b - 1) (by omega) (by omega)]) this) ?_
          exact check_l1 x18 x19 x20 b hb rows hr hl d (n + 1) _ (by omega) h
        · refine evc (fun k => by rw [if_pos c, if_pos (by omega)]) ?_
          rw [if_neg h0, Bool.true_and] at h
          refine check_l1 x18 x19 x20 b hb rows hr hl d (n + 1) true (by omega) ?_
          simpa using h
      · refine evc (fun k => by rw [if_neg c]) ?_
        rw [Bool.not_eq_true] at c
        rw [c, Bool.false_and] at h
        refine check_l1 x18 x19 x20 b hb rows hr hl d (n + 1) false (by omega) ?_
        simpa using h
theorem check_l1_no (x18 : List S63) (x19 x20 : Int) (b : Int) (rows : List (List Int)) (hl : rows.length ≤ 9223372036854775807) {R : Int} : ∀ (d n : Nat), n + d = rows.length →
    Ev (fun k => cycle_Check.l0 k false x18 x19 (wrap64 (x20 + 1)) g l) R → Ev (fun k => cycle_Check.l1 k false x18 x19 x20 rows (rows.length : Int) (n : Int) g l b rows) R
  | 0, n, hd, h => by
    refine Ev.step (fun k => by rw [cycle_Check.l1, if_neg (by omega)]) ?_
    exact h
  | d + 1, n, hd, h => by
    refine Ev.step (fun k => by rw [cycle_Check.l1, if_pos (by omega), if_pos (by omega), if_pos (by omega), if_neg (by simp), w64 (x := (n : Int) + 1) (by omega) (by omega), show ((n : Int) + 1) = ((n + 1 : Nat) : Int) by omega]) ?_
    exact check_l1_no x18 x19 x20 b rows hl d (n + 1) (by omega) h
theorem rows_from (b : Int) (rows : List (List Int)) : rowsFrom b rows 0 = rowsOk b rows := by
  unfold rowsFrom rowsOk
  rw [List.drop_zero, if_pos rfl]
theorem check_l0 (hs : l.length ≤ 9223372036854775807) (hr : ∀ f ∈ l, f.f1.length ≤ 9223372036854775807 ∧ ∀ r ∈ f.f1, r.length ≤ 9223372036854775807) : ∀ (d n : Nat) (q : Bool), n + d = l.length →
    Ev (fun k => cycle_Check.l0 k q l (l.length : Int) (n : Int) g l) (if (q && (l.drop n).all (formOk g)) = true then 0 else 50)
  | 0, n, q, hd => by
    refine Ev.step (fun k => by rw [cycle_Check.l0, if_neg (by omega)]) ?_
    rw [List.drop_of_length_le (by omega)]
    cases q
    · exact Ev.now 50
    · exact Ev.now 0
  | d + 1, n, q, hd => by
    have hn : n < l.length := by omega
    have hg : rd_T63 l (n : Int) = l[n] := by simp [rd_T63, hn]
    obtain ⟨hr1, hr2⟩ := hr _ (List.getElem_mem hn)
    refine Ev.step (fun k => by rw [cycle_Check.l0, if_pos (by omega), if_pos (by omega), if_pos (by omega), hg]) ?_
    rw [List.drop_eq_getElem_cons hn, List.all_cons]
    have e0 : wrap64 ((n : Int) + 1) = ((n + 1 : Nat) : Int) := by rw [w64 (by omega) (by omega)]; omega
    have no : ∀ {R : Int}, R = 50 → Ev (fun k => cycle_Check.j2 k false l (l.length : Int) (n : Int) g l l[n].f0 l[n].f1) R := by
      rintro R rfl
      refine Ev.step (fun k => by rw [cycle_Check.j2]) ?_
      have := check_l0 hs hr d (n + 1) false (by omega)
      rw [Bool.false_and, if_neg (by simp)] at this
      exact check_l1_no g l l _ _ l[n].f0 l[n].f1 hr1 l[n].f1.length 0 (by omega) (by rw [e0]; exact this)
    cases q with
    | false =>
      refine evc (fun k => by rw [if_neg (by simp)]) ?_
      exact no (by simp)
    | true =>
      refine evc (fun k => by rw [if_pos rfl, lies_f, Option.bind_some]) ?_
      by_cases c : isIn l[n].f0 2 32 = true
      · refine evc (fun k => by rw [if_pos c]) ?_
        refine Ev.step (fun k => by rw [cycle_Check.j2]) ?_
        refine check_l1 g l l _ _ l[n].f0 (isIn_iff.1 c) l[n].f1 hr2 hr1 l[n].f1.length 0 _ (by omega) ?_
        rw [rows_from, e0]
        have := check_l0 hs hr d (n + 1) (((l[n].f1.length : Int) == g) && rowsOk l[n].f0 l[n].f1) (by omega)
        unfold formOk at this ⊢
        rw [c]
        simpa [Bool.and_assoc] using this
      · refine evc (fun k => by rw [if_neg c]) ?_
        refine no ?_
        rw [Bool.not_eq_true] at c
        unfold formOk
        rw [c]
        simp
def checkE : Int := if bookOk g l = true then 0 else 50
theorem check_f (hs : l.length ≤ 9223372036854775807) (hr : ∀ f ∈ l, f.f1.length ≤ 9223372036854775807 ∧ ∀ r ∈ f.f1, r.length ≤ 9223372036854775807) : Ev (fun k => cycle_Check.f k g l) (checkE g l) := by
  have hj : ∀ q, Ev (fun k => cycle_Check.j0 k q g l) (if (q && l.all (formOk g)) = true then 0 else 50) := fun q => by
    refine Ev.step (fun k => by rw [cycle_Check.j0]) ?_
    have := check_l0 g l hs hr l.length 0 q (by omega)
    rwa [List.drop_zero] at this
  refine evc (fun k => by rw [cycle_Check.f, lies_f, Option.bind_some]) ?_
  unfold checkE bookOk
  by_cases c : isIn g 1 5 = true
  · refine evc (fun k => by rw [if_pos c, lies_f, Option.bind_some]) ?_
    have := hj (isIn (l.length : Int) 1 4)
    rw [c, Bool.true_and]
    exact this
  · refine evc (fun k => by rw [if_neg c]) ?_
    have := hj false
    rw [Bool.not_eq_true] at c
    rw [c, Bool.false_and, Bool.false_and]
    exact this
end
end Go.Proofs.YtephecfapclgfaaDoor.R
namespace Go.Proofs.YtephecfapclgfaaDoor.R
open Go.RowKit Go.Shelf Go.Proofs.YtephecfapclgfaaDoorW.PrintWords Go.Proofs.YtephecfapclgfaaDoorW.PrintLast Go.Proofs.YtephecfapclgfaaDoor.PRaspKeys Go.Proofs.YtephecfapclgfaaDoor.X
attribute [local go_sem] Oper.semAt_some

theorem C_len {α : Type} {d : Kd α} {w : World} {A : Option Addr} {n : Nat} {xs : List α} (h : d.C w A n xs) : n ≤ 9223372036854775807 := by have := h.2.1; omega
theorem C63_len {w : World} {A : Option Addr} {l : List S63} (h : Kd.C k63 w A l.length l) : ∀ f ∈ l, f.f1.length ≤ 9223372036854775807 ∧ ∀ r ∈ f.f1, r.length ≤ 9223372036854775807 := by
  intro f hf
  obtain ⟨i, hi, rfl⟩ := List.getElem_of_mem hf
  obtain ⟨ad, A1, c1, _, _, _, _, hC⟩ := at_T63 h (i : Int) (by omega) (by omega)
  rw [show rd_T63 l (i : Int) = l[i] by simp [rd_T63, hi]] at hC
  refine ⟨C_len hC, fun r hr => ?_⟩
  obtain ⟨j, hj, rfl⟩ := List.getElem_of_mem hr
  obtain ⟨ad2, A2, c2, _, _, _, hC2⟩ := at_L1 hC (j : Int) (by omega) (by omega)
  rw [show rd_L1 l[i].f1 (j : Int) = l[i].f1[j] by simp [rd_L1, hj]] at hC2
  exact C_len hC2
theorem beats_of {g : Int} {l : List S63} (h : bookOk g l = true) : Beats l := by
  unfold bookOk at h
  simp only [Bool.and_eq_true, isIn_iff, List.all_eq_true] at h
  refine ⟨by omega, fun f h0 h1 => ?_⟩
  have hn : f.toNat < l.length := by omega
  have := h.2 _ (List.getElem_mem hn)
  rw [show rd_T63 l f = l[f.toNat] by simp [rd_T63, hn]]
  unfold formOk at this
  simp only [Bool.and_eq_true, isIn_iff] at this
  exact this.1
theorem check_any (g : Int) (A : Option Addr) (c : Nat) (l : List S63) (w : World) (hr : Kd.C k63 w A l.length l) (hc : l.length ≤ c) :
    Calls Tryd.prog 17 #[.agg #[.int .i64 g, .slice A l.length c]] w fun e w' => e = .returned (.int .i64 (checkE g l)) ∧ Fr0 w w' := by
  obtain ⟨K, hK⟩ := check_f g l (C_len hr) (C63_len hr)
  exact (cycle_Check.calls K g A c l (checkE g l) w hr hc (hK K (Nat.le_refl _))).mono fun e w' h => ⟨h.1, Fr.of_below h.2⟩
set_option maxHeartbeats 1000000 in
theorem isForm_any (g : Int) (A : Option Addr) (n c : Nat) (m : Option Nat) (form : Int) (w : World) (hn : n ≤ 9223372036854775807) :
    Calls Tryd.prog 54 #[bookV g A n c m, .int .i64 form] w fun e w' => e = .returned (.bool (isIn form 0 ((n : Int) - 1))) ∧ Fr0 w w' := by
  have hn' : (n : Int) ≤ 9223372036854775807 := by omega
  go_enter Tryd.func54, Tryd.ntmps54
  go_wp2_with (go_at_call 61; refine (lies_any _ _ _ _).mono ?_; rintro e W1 ⟨rfl, hf⟩)
  go_ret
  exact ⟨rfl, Fr0.trans ((Fr.refl _ _).alloc _) hf⟩
set_option maxHeartbeats 1000000 in
theorem isGong_any (g : Int) (A : Option Addr) (n c : Nat) (m : Option Nat) (gong : Int) (w : World) (h0 : 1 ≤ g) (h1 : g ≤ 5) :
    Calls Tryd.prog 65 #[bookV g A n c m, .int .i64 gong] w fun e w' => e = .returned (.bool (isIn gong 0 (g - 1))) ∧ Fr0 w w' := by
  go_enter Tryd.func65, Tryd.ntmps65
  go_wp2_with (go_at_call 61; refine (lies_any _ _ _ _).mono ?_; rintro e W1 ⟨rfl, hf⟩)
  go_ret
  exact ⟨rfl, Fr0.trans ((Fr.refl _ _).alloc _) hf⟩
set_option maxHeartbeats 1000000 in
theorem isBeat_any (beat : Int) (w : World) : Calls Tryd.prog 55 #[.int .i64 beat] w fun e w' => e = .returned (.bool (isIn beat 0 100000)) ∧ Fr0 w w' := by
  go_enter Tryd.func55, Tryd.ntmps55
  go_wp2_with (go_at_call 61; refine (lies_any _ _ _ _).mono ?_; rintro e W1 ⟨rfl, hf⟩)
  go_ret
  exact ⟨rfl, hf⟩
/-- What a spot is. -/
def isSpotB (l : List S63) (sf sb : Int) : Bool := isIn sf 0 ((l.length : Int) - 1) && isIn sb 0 ((rd_T63 l sf).f0 - 1)
set_option maxHeartbeats 2000000 in
set_option maxRecDepth 100000 in
theorem isSpot_any (g : Int) (A : Option Addr) (c : Nat) (l : List S63) (mb : Nat) (hl : Beats l) (sf sb : Int) (w : World) (h : St g A c l mb w) :
    Calls Tryd.prog 70 #[bookV g A l.length c (some mb), spotV sf sb] w fun e w' => e = .returned (.bool (isSpotB l sf sb)) ∧ Fr0 w w' := by
  have HS := Lib.hid h
  have hn := C_len h.r
  have HF := Lib.hid (fun W => isForm_any g A l.length c (some mb) sf W hn)
  have hf0 : Fr0 w ((w.alloc (.cells (bookC g A l.length c (some mb)) 83)).alloc (.cells #[.int .i64 sf, .int .i64 sb] 38)) := ((Fr.refl _ _).alloc _).alloc _
  have HF0 := Lib.hid hf0
  unfold isSpotB
  by_cases c0 : isIn sf 0 ((l.length : Int) - 1) = true
  · have hi := isIn_iff.1 c0
    obtain ⟨ad, A1, c1, rfl, hx0, -⟩ := at_T63 h.r sf (by omega) (by omega)
    have hx := hf0.cell0 hx0
    have h2 := hl.two sf (by omega) (by omega)
    generalize (rd_T63 l sf).f0 = B at *
    have hsf : sf < l.length := by omega
    have hsf0 : 0 ≤ sf := by omega
    have HLI := Lib.hid (show ∀ W : World, Calls Tryd.prog 61 #[.int .i64 sb, .int .i64 0, .int .i64 (wrap64 (B - 1))] W fun e w' => e = .returned (.bool (isIn sb 0 (B - 1))) ∧ Fr0 W w' from fun W => by rw [w64 (by omega) (by omega)]; exact lies_any _ _ _ _)
    rw [c0] at HF ⊢
    clear h hx0 hf0 hl hn c0
    go_enter Tryd.func70, Tryd.ntmps70
    go_wp2
    have b0 := (((Bx.new w 83 (bookC g (some ad) l.length c (some mb)))).alloc (.cells #[.int .i64 sf, .int .i64 sb] 38)).at_ 0 (v := .int .i64 g) rfl
    have b1 := (((Bx.new w 83 (bookC g (some ad) l.length c (some mb)))).alloc (.cells #[.int .i64 sf, .int .i64 sb] 38)).at_ 1 (v := .slice (some ad) l.length c) rfl
    have b2 := (((Bx.new w 83 (bookC g (some ad) l.length c (some mb)))).alloc (.cells #[.int .i64 sf, .int .i64 sb] 38)).at_ 2 (v := .map (some mb)) rfl
    have bS : Bx ((w.alloc (.cells (bookC g (some ad) l.length c (some mb)) 83)).alloc (.cells #[.int .i64 sf, .int .i64 sb] 38)) (w.heap.size + 1) 38 #[.int .i64 sf, .int .i64 sb] := Bx.of_new (by simp)
    have s0' := bS.at_ 0 (v := .int .i64 sf) rfl
    have s1' := bS.at_ 1 (v := .int .i64 sb) rfl
    clear bS
    generalize hW : World.alloc _ _ = W at *
    clear hW
    refine start_ (n := 19) (S := fun w' => w'.cell? ⟨w.heap.size, 0, none⟩ = some (.int .i64 g) ∧ w'.cell? ⟨w.heap.size, 1, none⟩ = some (.slice (some ad) l.length c) ∧ w'.cell? ⟨w.heap.size, 2, none⟩ = some (.map (some mb)) ∧ w'.cell? ⟨w.heap.size + 1, 0, none⟩ = some (.int .i64 sf) ∧ w'.cell? ⟨w.heap.size + 1, 1, none⟩ = some (.int .i64 sb) ∧ w'.cell? (ad.add (sf.toNat * 2)) = some (.int .i64 B)) (ds := []) #[false, false, false, false, false, false, false, false, false, false, false, false, false, false, false, false, false, false, false] (by kernel_rfl) rfl rfl ⟨b0, b1, b2, s0', s1', hx⟩ (fun hHeld => ?_)
    refine pure_ (i := 1) (N := some 6) (v := ?_) (a' := ?_) #[false, true, false, false, false, false, false, false, false, false, false, false, false, false, false, false, false, false, false] rfl rfl (by kernel_rfl) (fun _ _ _ h => h) (Or.inl ⟨by rfl, ?_⟩) ?_ ?_
    rotate_left
    · intro w'
      go_simp
      with_reducible rfl
    rotate_left
    · simp only [Act.put, List.setIfInBounds_toArray, List.set_cons_zero, List.set_cons_succ, i64_w, i32_w]
      rfl
    refine take_ (i := 0) (N := some 5) (v := ?_) (a' := ?_) #[true, true, false, false, false, false, false, false, false, false, false, false, false, false, false, false, false, false, false] rfl rfl (by kernel_rfl) (fun _ _ _ h => h) (Or.inl ⟨by rfl, ?_⟩) hHeld ?_ ?_
    rotate_left
    · rintro w' ⟨s0, s1, s2, s3, s4, s5⟩
      go_simp
      with_reducible rfl
    rotate_left
    · simp only [Act.put, List.setIfInBounds_toArray, List.set_cons_zero, List.set_cons_succ, i64_w, i32_w]
      rfl
    refine take_ (i := 2) (N := some 7) (v := ?_) (a' := ?_) #[true, true, true, false, false, false, false, false, false, false, false, false, false, false, false, false, false, false, false] rfl rfl (by kernel_rfl) (fun _ _ _ h => h) (Or.inl ⟨by rfl, ?_⟩) hHeld ?_ ?_
    rotate_left
    · rintro w' ⟨s0, s1, s2, s3, s4, s5⟩
      go_simp
      with_reducible rfl
    rotate_left
    · simp only [Act.put, List.setIfInBounds_toArray, List.set_cons_zero, List.set_cons_succ, i64_w, i32_w]
      rfl
    refine one_ (i := 3) (N := some 8) #[true, true, true, true, false, false, false, false, false, false, false, false, false, false, false, false, false, false, false] rfl rfl (by kernel_rfl) (by decide) (fun K hK => ?_)
    refine goes_ Tryd.func54 (by kernel_rfl) rfl #[bookV g (some ad) l.length c (some mb), .int .i64 sf] (by rfl) rfl rfl (by simp only [List.map_toArray, List.map_cons, List.map_nil]; rfl) ?_
    with_reducible refine (HF.out _).mono ?_
    rintro e w3 ⟨rfl, hf3⟩
    refine ⟨_, rfl, ?_⟩
    have HF3 := Lib.hid (Fr0.trans (Fr.drew (Fr.refl _ _)) hf3)
    refine hK.out _ _ ⟨(HF3.out.cell0 b0), (HF3.out.cell0 b1), (HF3.out.cell0 b2), (HF3.out.cell0 s0'), (HF3.out.cell0 s1'), (HF3.out.cell0 hx)⟩ (fun hHeld => ?_)
    clear hK K
    refine norm_ (a' := ?_) ?_ ?_
    rotate_left
    · show Act.put _ (some 8) _ = _
      simp only [Act.put, List.setIfInBounds_toArray, List.set_cons_zero, List.set_cons_succ, i64_w, i32_w]
      rfl
    refine pure_ (i := 4) (N := some 9) (v := ?_) (a' := ?_) #[true, true, true, true, true, false, false, false, false, false, false, false, false, false, false, false, false, false, false] rfl rfl (by kernel_rfl) (fun _ _ _ h => h) (Or.inl ⟨by rfl, ?_⟩) ?_ ?_
    rotate_left
    · intro w'
      go_simp
      with_reducible rfl
    rotate_left
    · simp only [Act.put, List.setIfInBounds_toArray, List.set_cons_zero, List.set_cons_succ, i64_w, i32_w]
      rfl
    refine pure_ (i := 5) (N := some 10) (v := ?_) (a' := ?_) #[true, true, true, true, true, true, false, false, false, false, false, false, false, false, false, false, false, false, false] rfl rfl (by kernel_rfl) (fun _ _ _ h => h) (Or.inl ⟨by rfl, ?_⟩) ?_ ?_
    rotate_left
    · intro w'
      go_simp
      with_reducible rfl
    rotate_left
    · simp only [Act.put, List.setIfInBounds_toArray, List.set_cons_zero, List.set_cons_succ, i64_w, i32_w]
      rfl
    refine pure_ (i := 7) (N := some 12) (v := ?_) (a' := ?_) #[true, true, true, true, true, true, false, true, false, false, false, false, false, false, false, false, false, false, false] rfl rfl (by kernel_rfl) (fun _ _ _ h => h) (Or.inl ⟨by rfl, ?_⟩) ?_ ?_
    rotate_left
    · intro w'
      go_simp
      with_reducible rfl
    rotate_left
    · simp only [Act.put, List.setIfInBounds_toArray, List.set_cons_zero, List.set_cons_succ, i64_w, i32_w]
      rfl
    refine pure_ (i := 8) (N := some 13) (v := ?_) (a' := ?_) #[true, true, true, true, true, true, false, true, true, false, false, false, false, false, false, false, false, false, false] rfl rfl (by kernel_rfl) (fun _ _ _ h => h) (Or.inl ⟨by rfl, ?_⟩) ?_ ?_
    rotate_left
    · intro w'
      go_simp
      with_reducible rfl
    rotate_left
    · simp only [Act.put, List.setIfInBounds_toArray, List.set_cons_zero, List.set_cons_succ, i64_w, i32_w]
      rfl
    refine pure_ (i := 10) (N := some 15) (v := ?_) (a' := ?_) #[true, true, true, true, true, true, false, true, true, false, true, false, false, false, false, false, false, false, false] rfl rfl (by kernel_rfl) (fun _ _ _ h => h) (Or.inl ⟨by rfl, ?_⟩) ?_ ?_
    rotate_left
    · intro w'
      go_simp
      with_reducible rfl
    rotate_left
    · simp only [Act.put, List.setIfInBounds_toArray, List.set_cons_zero, List.set_cons_succ, i64_w, i32_w]
      rfl
    refine take_ (i := 6) (N := some 11) (v := ?_) (a' := ?_) #[true, true, true, true, true, true, true, true, true, false, true, false, false, false, false, false, false, false, false] rfl rfl (by kernel_rfl) (fun _ _ _ h => h) (Or.inl ⟨by rfl, ?_⟩) hHeld ?_ ?_
    rotate_left
    · rintro w' ⟨s0, s1, s2, s3, s4, s5⟩
      go_simp
      with_reducible rfl
    rotate_left
    · simp only [Act.put, List.setIfInBounds_toArray, List.set_cons_zero, List.set_cons_succ, i64_w, i32_w]
      rfl
    refine take_ (i := 9) (N := some 14) (v := ?_) (a' := ?_) #[true, true, true, true, true, true, true, true, true, true, true, false, false, false, false, false, false, false, false] rfl rfl (by kernel_rfl) (fun _ _ _ h => h) (Or.inl ⟨by rfl, ?_⟩) hHeld ?_ ?_
    rotate_left
    · rintro w' ⟨s0, s1, s2, s3, s4, s5⟩
      go_simp
      with_reducible rfl
    rotate_left
    · simp only [Act.put, List.setIfInBounds_toArray, List.set_cons_zero, List.set_cons_succ, i64_w, i32_w]
      rfl
    refine take_ (i := 11) (N := some 16) (v := ?_) (a' := ?_) #[true, true, true, true, true, true, true, true, true, true, true, true, false, false, false, false, false, false, false] rfl rfl (by kernel_rfl) (fun _ _ _ h => h) (Or.inl ⟨by rfl, ?_⟩) hHeld ?_ ?_
    rotate_left
    · rintro w' ⟨s0, s1, s2, s3, s4, s5⟩
      go_simp
      with_reducible rfl
    rotate_left
    · simp only [Act.put, List.setIfInBounds_toArray, List.set_cons_zero, List.set_cons_succ, i64_w, i32_w]
      rfl
    refine pure_ (i := 12) (N := some 17) (v := ?_) (a' := ?_) #[true, true, true, true, true, true, true, true, true, true, true, true, true, false, false, false, false, false, false] rfl rfl (by kernel_rfl) (fun _ _ _ h => h) (Or.inl ⟨by rfl, ?_⟩) ?_ ?_
    rotate_left
    · intro w'
      go_simp
      with_reducible rfl
    rotate_left
    · simp only [Act.put, List.setIfInBounds_toArray, List.set_cons_zero, List.set_cons_succ, i64_w, i32_w]
      rfl
    refine pure_ (i := 13) (N := some 18) (v := ?_) (a' := ?_) #[true, true, true, true, true, true, true, true, true, true, true, true, true, true, false, false, false, false, false] rfl rfl (by kernel_rfl) (fun _ _ _ h => h) (Or.inl ⟨by rfl, ?_⟩) ?_ ?_
    rotate_left
    · intro w'
      go_simp
      with_reducible rfl
    rotate_left
    · simp only [Act.put, List.setIfInBounds_toArray, List.set_cons_zero, List.set_cons_succ, i64_w, i32_w]
      rfl
    refine take_ (i := 14) (N := some 19) (v := ?_) (a' := ?_) #[true, true, true, true, true, true, true, true, true, true, true, true, true, true, true, false, false, false, false] rfl rfl (by kernel_rfl) (fun _ _ _ h => h) (Or.inl ⟨by rfl, ?_⟩) hHeld ?_ ?_
    rotate_left
    · rintro w' ⟨s0, s1, s2, s3, s4, s5⟩
      go_simp
      with_reducible rfl
    rotate_left
    · simp only [Act.put, List.setIfInBounds_toArray, List.set_cons_zero, List.set_cons_succ, i64_w, i32_w]
      rfl
    refine pure_ (i := 15) (N := some 20) (v := ?_) (a' := ?_) #[true, true, true, true, true, true, true, true, true, true, true, true, true, true, true, true, false, false, false] rfl rfl (by kernel_rfl) (fun _ _ _ h => h) (Or.inl ⟨by rfl, ?_⟩) ?_ ?_
    rotate_left
    · intro w'
      go_simp
      with_reducible rfl
    rotate_left
    · simp only [Act.put, List.setIfInBounds_toArray, List.set_cons_zero, List.set_cons_succ, i64_w, i32_w]
      rfl
    refine one_ (i := 16) (N := some 21) #[true, true, true, true, true, true, true, true, true, true, true, true, true, true, true, true, true, false, false] rfl rfl (by kernel_rfl) (by decide) (fun K hK => ?_)
    refine goes_ Tryd.func61 (by kernel_rfl) rfl #[.int .i64 sb, .int .i64 0, .int .i64 (wrap64 (B - 1))] (by rfl) rfl rfl (by simp only [List.map_toArray, List.map_cons, List.map_nil]; rfl) ?_
    with_reducible refine (HLI.out _).mono ?_
    rintro e w4 ⟨rfl, hf4⟩
    refine ⟨_, rfl, ?_⟩
    have HF4 := Lib.hid (Fr0.trans HF3.out hf4)
    refine hK.out _ _ ⟨(HF4.out.cell0 b0), (HF4.out.cell0 b1), (HF4.out.cell0 b2), (HF4.out.cell0 s0'), (HF4.out.cell0 s1'), (HF4.out.cell0 hx)⟩ (fun hHeld => ?_)
    clear hK K
    refine norm_ (a' := ?_) ?_ ?_
    rotate_left
    · show Act.put _ (some 21) _ = _
      simp only [Act.put, List.setIfInBounds_toArray, List.set_cons_zero, List.set_cons_succ, i64_w, i32_w]
      rfl
    refine pure_ (i := 17) (N := some 22) (v := ?_) (a' := ?_) #[true, true, true, true, true, true, true, true, true, true, true, true, true, true, true, true, true, true, false] rfl rfl (by kernel_rfl) (fun _ _ _ h => h) (Or.inl ⟨by rfl, ?_⟩) ?_ ?_
    rotate_left
    · intro w'
      go_simp
      with_reducible rfl
    rotate_left
    · simp only [Act.put, List.setIfInBounds_toArray, List.set_cons_zero, List.set_cons_succ, i64_w, i32_w]
      rfl
    refine pure_ (i := 18) (N := some 4) (v := ?_) (a' := ?_) #[true, true, true, true, true, true, true, true, true, true, true, true, true, true, true, true, true, true, true] rfl rfl (by kernel_rfl) (fun _ _ _ h => h) (Or.inl ⟨by rfl, ?_⟩) ?_ ?_
    rotate_left
    · intro w'
      go_simp
      with_reducible rfl
    rotate_left
    · simp only [Act.put, List.setIfInBounds_toArray, List.set_cons_zero, List.set_cons_succ, i64_w, i32_w]
      rfl
    refine done_ (by kernel_rfl) ?_
    go_wp2
    go_ret
    exact ⟨by simp, Fr0.trans HF0.out HF4.out⟩
  · rw [Bool.not_eq_true] at c0
    rw [c0] at HF ⊢
    clear h hf0 hl hn c0
    go_enter Tryd.func70, Tryd.ntmps70
    go_wp2
    have b0 := (((Bx.new w 83 (bookC g A l.length c (some mb)))).alloc (.cells #[.int .i64 sf, .int .i64 sb] 38)).at_ 0 (v := .int .i64 g) rfl
    have b1 := (((Bx.new w 83 (bookC g A l.length c (some mb)))).alloc (.cells #[.int .i64 sf, .int .i64 sb] 38)).at_ 1 (v := .slice A l.length c) rfl
    have b2 := (((Bx.new w 83 (bookC g A l.length c (some mb)))).alloc (.cells #[.int .i64 sf, .int .i64 sb] 38)).at_ 2 (v := .map (some mb)) rfl
    have bS : Bx ((w.alloc (.cells (bookC g A l.length c (some mb)) 83)).alloc (.cells #[.int .i64 sf, .int .i64 sb] 38)) (w.heap.size + 1) 38 #[.int .i64 sf, .int .i64 sb] := Bx.of_new (by simp)
    have s0' := bS.at_ 0 (v := .int .i64 sf) rfl
    clear bS
    generalize hW : World.alloc _ _ = W at *
    clear hW
    refine start_ (n := 19) (S := fun w' => w'.cell? ⟨w.heap.size, 0, none⟩ = some (.int .i64 g) ∧ w'.cell? ⟨w.heap.size, 1, none⟩ = some (.slice A l.length c) ∧ w'.cell? ⟨w.heap.size, 2, none⟩ = some (.map (some mb)) ∧ w'.cell? ⟨w.heap.size + 1, 0, none⟩ = some (.int .i64 sf)) (ds := []) #[false, false, false, false, false, false, false, false, false, false, false, false, false, false, false, false, false, false, false] (by kernel_rfl) rfl rfl ⟨b0, b1, b2, s0'⟩ (fun hHeld => ?_)
    refine pure_ (i := 1) (N := some 6) (v := ?_) (a' := ?_) #[false, true, false, false, false, false, false, false, false, false, false, false, false, false, false, false, false, false, false] rfl rfl (by kernel_rfl) (fun _ _ _ h => h) (Or.inl ⟨by rfl, ?_⟩) ?_ ?_
    rotate_left
    · intro w'
      go_simp
      with_reducible rfl
    rotate_left
    · simp only [Act.put, List.setIfInBounds_toArray, List.set_cons_zero, List.set_cons_succ, i64_w, i32_w]
      rfl
    refine take_ (i := 0) (N := some 5) (v := ?_) (a' := ?_) #[true, true, false, false, false, false, false, false, false, false, false, false, false, false, false, false, false, false, false] rfl rfl (by kernel_rfl) (fun _ _ _ h => h) (Or.inl ⟨by rfl, ?_⟩) hHeld ?_ ?_
    rotate_left
    · rintro w' ⟨s0, s1, s2, s3⟩
      go_simp
      with_reducible rfl
    rotate_left
    · simp only [Act.put, List.setIfInBounds_toArray, List.set_cons_zero, List.set_cons_succ, i64_w, i32_w]
      rfl
    refine take_ (i := 2) (N := some 7) (v := ?_) (a' := ?_) #[true, true, true, false, false, false, false, false, false, false, false, false, false, false, false, false, false, false, false] rfl rfl (by kernel_rfl) (fun _ _ _ h => h) (Or.inl ⟨by rfl, ?_⟩) hHeld ?_ ?_
    rotate_left
    · rintro w' ⟨s0, s1, s2, s3⟩
      go_simp
      with_reducible rfl
    rotate_left
    · simp only [Act.put, List.setIfInBounds_toArray, List.set_cons_zero, List.set_cons_succ, i64_w, i32_w]
      rfl
    refine one_ (i := 3) (N := some 8) #[true, true, true, true, false, false, false, false, false, false, false, false, false, false, false, false, false, false, false] rfl rfl (by kernel_rfl) (by decide) (fun K hK => ?_)
    refine goes_ Tryd.func54 (by kernel_rfl) rfl #[bookV g A l.length c (some mb), .int .i64 sf] (by rfl) rfl rfl (by simp only [List.map_toArray, List.map_cons, List.map_nil]; rfl) ?_
    with_reducible refine (HF.out _).mono ?_
    rintro e w3 ⟨rfl, hf3⟩
    refine ⟨_, rfl, ?_⟩
    have HF3 := Lib.hid (Fr0.trans (Fr.drew (Fr.refl _ _)) hf3)
    refine hK.out _ _ ⟨(HF3.out.cell0 b0), (HF3.out.cell0 b1), (HF3.out.cell0 b2), (HF3.out.cell0 s0')⟩ (fun hHeld => ?_)
    clear hK K
    refine norm_ (a' := ?_) ?_ ?_
    rotate_left
    · show Act.put _ (some 8) _ = _
      simp only [Act.put, List.setIfInBounds_toArray, List.set_cons_zero, List.set_cons_succ, i64_w, i32_w]
      rfl
    refine pure_ (i := 4) (N := some 9) (v := ?_) (a' := ?_) #[true, true, true, true, true, false, false, false, false, false, false, false, false, false, false, false, false, false, false] rfl rfl (by kernel_rfl) (fun _ _ _ h => h) (Or.inl ⟨by rfl, ?_⟩) ?_ ?_
    rotate_left
    · intro w'
      go_simp
      with_reducible rfl
    rotate_left
    · simp only [Act.put, List.setIfInBounds_toArray, List.set_cons_zero, List.set_cons_succ, i64_w, i32_w]
      rfl
    refine pure_ (i := 5) (N := some 10) (v := undef) (a' := ?_) #[true, true, true, true, true, true, false, false, false, false, false, false, false, false, false, false, false, false, false] rfl rfl (by kernel_rfl) (fun _ _ _ h => h) (Or.inr ⟨by rfl, rfl⟩) ?_ ?_
    rotate_left
    · simp only [Act.put, List.setIfInBounds_toArray, List.set_cons_zero, List.set_cons_succ, i64_w, i32_w]
      rfl
    refine pure_ (i := 6) (N := some 11) (v := undef) (a' := ?_) #[true, true, true, true, true, true, true, false, false, false, false, false, false, false, false, false, false, false, false] rfl rfl (by kernel_rfl) (fun _ _ _ h => h) (Or.inr ⟨by rfl, rfl⟩) ?_ ?_
    rotate_left
    · simp only [Act.put, List.setIfInBounds_toArray, List.set_cons_zero, List.set_cons_succ, i64_w, i32_w]
      rfl
    refine pure_ (i := 7) (N := some 12) (v := undef) (a' := ?_) #[true, true, true, true, true, true, true, true, false, false, false, false, false, false, false, false, false, false, false] rfl rfl (by kernel_rfl) (fun _ _ _ h => h) (Or.inr ⟨by rfl, rfl⟩) ?_ ?_
    rotate_left
    · simp only [Act.put, List.setIfInBounds_toArray, List.set_cons_zero, List.set_cons_succ, i64_w, i32_w]
      rfl
    refine pure_ (i := 8) (N := some 13) (v := undef) (a' := ?_) #[true, true, true, true, true, true, true, true, true, false, false, false, false, false, false, false, false, false, false] rfl rfl (by kernel_rfl) (fun _ _ _ h => h) (Or.inr ⟨by rfl, rfl⟩) ?_ ?_
    rotate_left
    · simp only [Act.put, List.setIfInBounds_toArray, List.set_cons_zero, List.set_cons_succ, i64_w, i32_w]
      rfl
    refine pure_ (i := 9) (N := some 14) (v := undef) (a' := ?_) #[true, true, true, true, true, true, true, true, true, true, false, false, false, false, false, false, false, false, false] rfl rfl (by kernel_rfl) (fun _ _ _ h => h) (Or.inr ⟨by rfl, rfl⟩) ?_ ?_
    rotate_left
    · simp only [Act.put, List.setIfInBounds_toArray, List.set_cons_zero, List.set_cons_succ, i64_w, i32_w]
      rfl
    refine pure_ (i := 10) (N := some 15) (v := undef) (a' := ?_) #[true, true, true, true, true, true, true, true, true, true, true, false, false, false, false, false, false, false, false] rfl rfl (by kernel_rfl) (fun _ _ _ h => h) (Or.inr ⟨by rfl, rfl⟩) ?_ ?_
    rotate_left
    · simp only [Act.put, List.setIfInBounds_toArray, List.set_cons_zero, List.set_cons_succ, i64_w, i32_w]
      rfl
    refine pure_ (i := 11) (N := some 16) (v := undef) (a' := ?_) #[true, true, true, true, true, true, true, true, true, true, true, true, false, false, false, false, false, false, false] rfl rfl (by kernel_rfl) (fun _ _ _ h => h) (Or.inr ⟨by rfl, rfl⟩) ?_ ?_
    rotate_left
    · simp only [Act.put, List.setIfInBounds_toArray, List.set_cons_zero, List.set_cons_succ, i64_w, i32_w]
      rfl
    refine pure_ (i := 12) (N := some 17) (v := undef) (a' := ?_) #[true, true, true, true, true, true, true, true, true, true, true, true, true, false, false, false, false, false, false] rfl rfl (by kernel_rfl) (fun _ _ _ h => h) (Or.inr ⟨by rfl, rfl⟩) ?_ ?_
    rotate_left
    · simp only [Act.put, List.setIfInBounds_toArray, List.set_cons_zero, List.set_cons_succ, i64_w, i32_w]
      rfl
    refine pure_ (i := 13) (N := some 18) (v := undef) (a' := ?_) #[true, true, true, true, true, true, true, true, true, true, true, true, true, true, false, false, false, false, false] rfl rfl (by kernel_rfl) (fun _ _ _ h => h) (Or.inr ⟨by rfl, rfl⟩) ?_ ?_
    rotate_left
    · simp only [Act.put, List.setIfInBounds_toArray, List.set_cons_zero, List.set_cons_succ, i64_w, i32_w]
      rfl
    refine pure_ (i := 14) (N := some 19) (v := undef) (a' := ?_) #[true, true, true, true, true, true, true, true, true, true, true, true, true, true, true, false, false, false, false] rfl rfl (by kernel_rfl) (fun _ _ _ h => h) (Or.inr ⟨by rfl, rfl⟩) ?_ ?_
    rotate_left
    · simp only [Act.put, List.setIfInBounds_toArray, List.set_cons_zero, List.set_cons_succ, i64_w, i32_w]
      rfl
    refine pure_ (i := 15) (N := some 20) (v := undef) (a' := ?_) #[true, true, true, true, true, true, true, true, true, true, true, true, true, true, true, true, false, false, false] rfl rfl (by kernel_rfl) (fun _ _ _ h => h) (Or.inr ⟨by rfl, rfl⟩) ?_ ?_
    rotate_left
    · simp only [Act.put, List.setIfInBounds_toArray, List.set_cons_zero, List.set_cons_succ, i64_w, i32_w]
      rfl
    refine pure_ (i := 16) (N := some 21) (v := undef) (a' := ?_) #[true, true, true, true, true, true, true, true, true, true, true, true, true, true, true, true, true, false, false] rfl rfl (by kernel_rfl) (fun _ _ _ h => h) (Or.inr ⟨by rfl, rfl⟩) ?_ ?_
    rotate_left
    · simp only [Act.put, List.setIfInBounds_toArray, List.set_cons_zero, List.set_cons_succ, i64_w, i32_w]
      rfl
    refine pure_ (i := 17) (N := some 22) (v := ?_) (a' := ?_) #[true, true, true, true, true, true, true, true, true, true, true, true, true, true, true, true, true, true, false] rfl rfl (by kernel_rfl) (fun _ _ _ h => h) (Or.inl ⟨by rfl, ?_⟩) ?_ ?_
    rotate_left
    · intro w'
      go_simp
      with_reducible rfl
    rotate_left
    · simp only [Act.put, List.setIfInBounds_toArray, List.set_cons_zero, List.set_cons_succ, i64_w, i32_w]
      rfl
    refine pure_ (i := 18) (N := some 4) (v := ?_) (a' := ?_) #[true, true, true, true, true, true, true, true, true, true, true, true, true, true, true, true, true, true, true] rfl rfl (by kernel_rfl) (fun _ _ _ h => h) (Or.inl ⟨by rfl, ?_⟩) ?_ ?_
    rotate_left
    · intro w'
      go_simp
      with_reducible rfl
    rotate_left
    · simp only [Act.put, List.setIfInBounds_toArray, List.set_cons_zero, List.set_cons_succ, i64_w, i32_w]
      rfl
    refine done_ (by kernel_rfl) ?_
    go_wp2
    go_ret
    exact ⟨by simp, Fr0.trans HF0.out HF3.out⟩
end Go.Proofs.YtephecfapclgfaaDoor.R
