import Derived.Test.YtfmpbkolpjlfbaaDoorB
import Derived.Test.YtfmpbkolpjlfbaaDoorM0
import Derived.RangeFuncNested
import Derived.Deep.Draws
import Derived.Laws.EntriesVeiled
import Derived.OrdersIn
import Derived.Scope
import Derived.Test.YtfmpbkolpjlfbaaDoorWEqStruct
import Derived.Shelf.Abstract
import Derived.Shelf.RegionOpen
import Derived.WalkKit
import Derived.OwnWalkIn
import Derived.TacticsInMore
import Derived.LoopNIn
import Derived.LoopIn
import Derived.Outline
import Derived.Deep.DeepFit
import Derived.StillTailTactics
import Derived.WalkSpells
import Derived.Handy
import Derived.Lib.Hide
set_option linter.unusedVariables false
set_option linter.unusedSimpArgs false
namespace Go.Proofs.YtfmpbkolpjlfbaaDoor.X
open Go.RowKit

/-! ### 1. Maps whose keys are structs of two ints -/
def k2 (a b : Int) : Value := .agg #[.int .i64 a, .int .i64 b]
def keyIs (a b : Int) : Value → Bool
  | .agg #[.int .i64 x, .int .i64 y] => a == x && b == y
  | _ => false
theorem keyIs_k2 (a b x y : Int) : keyIs a b (k2 x y) = (a == x && b == y) := rfl
def mfind (a b : Int) : List MapEntry → Nat → Option (Nat × Value)
  | [], _ => none
  | e :: es, i => if keyIs a b e.key = true then some (i, e.val) else mfind a b es (i + 1)
def Keyed2 (es : List MapEntry) : Prop := ∀ e ∈ es, ∃ x y, e.key = k2 x y

structure Key2 (P : Program) (K : TypeId) : Prop where
  und : ∃ fs, P.underlying K = some (.struct fs)
  chk : ∀ (empty : Bool) (w : World) (a b : Int), (Instr.checkKey empty 10000 K (k2 a b)).run P w = .ok () w
  eq : ∀ (w : World) (a b x y : Int), (Op.equal K (k2 a b) (k2 x y)).run P w = .ok (a == x && b == y) w

section
variable {P : Program} {T K E : TypeId} {w : World} {mb : Nat} {a b : Int}

theorem findAsking_k2 (hk : Key2 P K) : ∀ (es : List MapEntry) (i : Nat), Keyed2 es → (Instr.findAsking K (k2 a b) es i).run P w = .ok (mfind a b es i) w
  | [], i, _ => rfl
  | e :: es, i, h => by
    obtain ⟨x, y, hxy⟩ := h e List.mem_cons_self
    unfold Instr.findAsking mfind
    rw [hxy, keyIs_k2]
    simp only [Sem.run_bind, hk.eq, Result.andThen_ok]
    cases hb : (a == x && b == y)
    · simp only [Bool.false_eq_true, if_false]
      exact findAsking_k2 hk es (i + 1) (fun e' he => h e' (List.mem_cons_of_mem _ he))
    · simp only [if_true]
      rfl

theorem findKey_k2 (hk : Key2 P K) (es : List MapEntry) (h : Keyed2 es) : (Instr.findKey K (k2 a b) es).run P w = .ok (mfind a b es 0) w := by
  obtain ⟨fs, hu⟩ := hk.und
  unfold Instr.findKey
  simp only [Sem.run_bind, run_underlying hu, Result.andThen_ok]
  cases es with
  | nil => rfl
  | cons e es =>
    have hn : Instr.findNow (.struct fs) (k2 a b) (e :: es) 0 = none := by
      unfold Instr.findNow Instr.sameNow
      rfl
    rw [hn]
    exact findAsking_k2 hk _ 0 h

/-- Block mb is a map that is the function f. -/
def MapFn (w : World) (mb : Nat) (f : Int → Int → Option Value) : Prop :=
  ∃ (es : Array MapEntry) (clock : Nat), w.heap[mb]? = some (.map es clock) ∧ Keyed2 es.toList ∧ ∀ a b, (mfind a b es.toList 0).map (·.2) = f a b

theorem MapFn.new (w : World) : MapFn (w.alloc (.map #[] 0)) w.heap.size (fun _ _ => none) :=
  ⟨#[], 0, World.alloc_heap_new w _, fun _ h => by simp at h, fun _ _ => rfl⟩
theorem MapFn.same {w' : World} {f : Int → Int → Option Value} (h : MapFn w mb f) (he : w'.heap[mb]? = w.heap[mb]?) : MapFn w' mb f := by
  obtain ⟨es, c, h1, h2, h3⟩ := h
  exact ⟨es, c, he.trans h1, h2, h3⟩
theorem MapFn.lt {f : Int → Int → Option Value} (h : MapFn w mb f) : mb < w.heap.size := by
  obtain ⟨es, c, h1, _⟩ := h
  exact (Array.getElem?_eq_some_iff.1 h1).1
theorem MapFn.obj {f : Int → Int → Option Value} (h : MapFn w mb f) : ∃ es c, w.heap[mb]? = some (.map es c) := by
  obtain ⟨es, c, h1, _⟩ := h
  exact ⟨es, c, h1⟩

theorem lookup_k2 (hk : Key2 P K) (hT : P.underlying T = some (.map K E)) {z : Value} (hz : ∀ w, (zeroValue E).run P w = .ok z w) {f : Int → Int → Option Value} (h : MapFn w mb f) (a b : Int) :
    (Instr.lookup T (.map (some mb)) (k2 a b) true).run P w = .ok (.tuple #[(f a b).getD z, .bool (f a b).isSome]) w := by
  obtain ⟨es, c, h1, h2, h3⟩ := h
  have hg : (getObj mb).run P w = .ok (.map es c) w := by simp [getObj, Sem.run, h1]
  unfold Instr.lookup
  simp only [Sem.run_bind, run_underlying hT, Result.andThen_ok, hg, Sem.run_pure, hk.chk, findKey_k2 hk _ h2]
  rw [← h3 a b]
  cases mfind a b es.toList 0 with
  | none => simp [hz]
  | some r => simp
theorem lookup_k2' (hk : Key2 P K) (hT : P.underlying T = some (.map K E)) {z : Value} (hz : ∀ w, (zeroValue E).run P w = .ok z w) {f : Int → Int → Option Value} (h : MapFn w mb f) (a b : Int) :
    (Instr.lookup T (.map (some mb)) (k2 a b) false).run P w = .ok ((f a b).getD z) w := by
  obtain ⟨es, c, h1, h2, h3⟩ := h
  have hg : (getObj mb).run P w = .ok (.map es c) w := by simp [getObj, Sem.run, h1]
  unfold Instr.lookup
  simp only [Sem.run_bind, run_underlying hT, Result.andThen_ok, hg, Sem.run_pure, hk.chk, findKey_k2 hk _ h2]
  rw [← h3 a b]
  cases mfind a b es.toList 0 with
  | none => simp [hz]
  | some r => simp

theorem mfind_append (a b : Int) (e : MapEntry) : ∀ (es : List MapEntry) (i : Nat), mfind a b (es ++ [e]) i = (mfind a b es i).or (if keyIs a b e.key = true then some (i + es.length, e.val) else none)
  | [], i => by simp [mfind]
  | e' :: es, i => by
    simp only [List.cons_append, mfind]
    split
    · rfl
    · rw [mfind_append a b e es (i + 1)]
      simp only [List.length_cons]
      congr 3
      congr 1
      omega
theorem mfind_some {a b : Int} : ∀ {es : List MapEntry} {i j : Nat} {v : Value}, mfind a b es i = some (j, v) → ∃ n e, j = i + n ∧ es[n]? = some e ∧ keyIs a b e.key = true ∧ e.val = v
  | [], _, _, _, h => by simp [mfind] at h
  | e :: es, i, j, v, h => by
    unfold mfind at h
    split at h
    · rename_i hk
      simp only [Option.some.injEq, Prod.mk.injEq] at h
      exact ⟨0, e, by omega, rfl, hk, h.2⟩
    · obtain ⟨n, e', hj, hn, hk, hv⟩ := mfind_some h
      exact ⟨n + 1, e', by omega, by simpa using hn, hk, hv⟩
theorem keyIs_inj {a b : Int} {v : Value} (hv : ∃ x y, v = k2 x y) (h : keyIs a b v = true) : v = k2 a b := by
  obtain ⟨x, y, rfl⟩ := hv
  rw [keyIs_k2, Bool.and_eq_true, beq_iff_eq, beq_iff_eq] at h
  obtain ⟨rfl, rfl⟩ := h
  rfl
theorem mfind_set {x y : Int} {v v' : Value} {e2 : MapEntry} (h2 : e2.key = k2 x y) (h3 : e2.val = v') (a b : Int) : ∀ (es : List MapEntry) (i n : Nat), Keyed2 es → mfind x y es i = some (i + n, v) →
    (mfind a b (es.set n e2) i).map (·.2) = if a = x ∧ b = y then some v' else (mfind a b es i).map (·.2)
  | [], i, n, _, h => by simp [mfind] at h
  | e :: es, i, n, hky, h => by
    unfold mfind at h
    by_cases hk : keyIs x y e.key = true
    · rw [if_pos hk] at h
      have hn : n = 0 := by
        simp only [Option.some.injEq, Prod.mk.injEq] at h
        omega
      subst hn
      simp only [List.set_cons_zero, mfind, h2, h3, keyIs_inj (hky e List.mem_cons_self) hk, keyIs_k2, Bool.and_eq_true, beq_iff_eq]
      split <;> simp_all
    · rw [if_neg hk] at h
      cases n with
      | zero =>
        obtain ⟨m, e', hj, _⟩ := mfind_some h
        omega
      | succ n =>
        have h' : mfind x y es (i + 1) = some (i + 1 + n, v) := by rw [h]; congr 2; omega
        simp only [List.set_cons_succ, mfind]
        by_cases hk0 : keyIs a b e.key = true
        · simp only [if_pos hk0]
          rw [if_neg]
          rintro ⟨rfl, rfl⟩
          exact hk hk0
        · simp only [if_neg hk0]
          exact mfind_set h2 h3 a b es (i + 1) n (fun e' he => hky e' (List.mem_cons_of_mem _ he)) h'
theorem sameBits_k2 (a b : Int) : Instr.sameBits 10000 (k2 a b) (k2 a b) = true := by
  show (_ && _) = true
  simp [Instr.sameBits]

theorem update_k2 (hk : Key2 P K) (hT : P.underlying T = some (.map K E)) {f : Int → Int → Option Value} (h : MapFn w mb f) (a b : Int) (v : Value) :
    ∃ o : Obj, o.isCells = false ∧ (∃ es c, o = .map es c) ∧ (Instr.mapUpdate T (.map (some mb)) (k2 a b) v).run P w = .ok () (w.putObj mb o) ∧ MapFn (w.putObj mb o) mb (fun x y => if x = a ∧ y = b then some v else f x y) := by
  have hlt := h.lt
  obtain ⟨es, c, h1, h2, h3⟩ := h
  have hg : (getObj mb).run P w = .ok (.map es c) w := by simp [getObj, Sem.run, h1]
  have hs : ∀ o, (setObj mb o).run P w = .ok () (w.putObj mb o) := fun o => by simp [setObj, Sem.run, h1, World.putObj]
  cases hf : mfind a b es.toList 0 with
  | none =>
    refine ⟨.map (es.push { key := k2 a b, val := v, born := c }) (c + 1), rfl, ⟨_, _, rfl⟩, ?_, _, _, World.putObj_heap_same hlt, ?_, ?_⟩
    · unfold Instr.mapUpdate
      simp only [Sem.run_bind, run_underlying hT, Result.andThen_ok, hg, hk.chk, findKey_k2 hk _ h2, hf, hs]
    · intro e he
      simp only [Array.toList_push, List.mem_append, List.mem_singleton] at he
      rcases he with he | rfl
      · exact h2 e he
      · exact ⟨a, b, rfl⟩
    · intro x y
      rw [Array.toList_push, mfind_append, keyIs_k2]
      by_cases hxy : x = a ∧ y = b
      · obtain ⟨rfl, rfl⟩ := hxy
        simp [hf]
      · show _ = if x = a ∧ y = b then some v else f x y
        rw [if_neg hxy, if_neg (by simpa using hxy), ← h3 x y]
        simp
  | some r =>
    obtain ⟨i, v0⟩ := r
    obtain ⟨n, e, hj, hn, hke, hv⟩ := mfind_some hf
    have hin : i = n := by omega
    subst hin
    have hes : es[i]? = some e := by simpa using hn
    have hkey := keyIs_inj (h2 e (List.mem_of_getElem? hn)) hke
    refine ⟨.map (es.modify i fun e => { e with key := k2 a b, val := v }) c, rfl, ⟨_, _, rfl⟩, ?_, _, _, World.putObj_heap_same hlt, ?_, ?_⟩
    · unfold Instr.mapUpdate
      simp only [Sem.run_bind, run_underlying hT, Result.andThen_ok, hg, hk.chk, findKey_k2 hk _ h2, hf, hes, Option.map_some, Option.getD_some, hkey]
      simp only [Instr.keyThatStays, sameBits_k2, if_true, Sem.run_pure, Result.andThen_ok, hs]
    · intro e' he'
      rw [Array.toList_modify] at he'
      obtain ⟨m, hm⟩ := List.getElem?_of_mem he'
      rw [List.getElem?_modify] at hm
      cases hq : es.toList[m]? with
      | none => rw [hq] at hm; simp at hm
      | some e1 =>
        rw [hq] at hm
        have hm : (if i = m then { e1 with key := k2 a b, val := v } else e1) = e' := by simpa using hm
        split at hm
        · exact ⟨a, b, by rw [← hm]⟩
        · rw [← hm]; exact h2 e1 (List.mem_of_getElem? hq)
    · intro x y
      have := mfind_set (v := v0) (e2 := { e with key := k2 a b, val := v }) (v' := v) rfl rfl x y es.toList 0 i h2 (by rw [hf]; simp)
      show _ = if x = a ∧ y = b then some v else f x y
      rw [← h3 x y, ← this]
      congr 2
      rw [Array.toList_modify]
      apply List.ext_getElem?
      intro m
      rw [List.getElem?_modify, List.getElem?_set]
      by_cases hm : i = m
      · subst hm
        simp [hn]
        exact (List.getElem?_eq_some_iff.1 hn).1
      · simp [hm]
end

/-! ### 2. What may have changed: the blocks of S, and what is new -/
structure Fr (S : Nat → Prop) (w W : World) : Prop where
  os : W.os = w.os
  tape : W.tape = w.tape
  output : W.output = w.output
  size : w.heap.size ≤ W.heap.size
  block : ∀ k, k < w.heap.size → ¬ S k → W.heap[k]? = w.heap[k]?
abbrev Fr0 : World → World → Prop := Fr (fun _ => False)
namespace Fr
variable {S S' : Nat → Prop} {a b c w W : World}
theorem refl (S : Nat → Prop) (w : World) : Fr S w w := ⟨rfl, rfl, rfl, Nat.le_refl _, fun _ _ _ => rfl⟩
theorem trans (h : Fr S a b) (k : Fr S b c) : Fr S a c :=
  ⟨k.os.trans h.os, k.tape.trans h.tape, k.output.trans h.output, Nat.le_trans h.size k.size, fun i hi hn => (k.block i (Nat.lt_of_lt_of_le hi h.size) hn).trans (h.block i hi hn)⟩
theorem wide (h : Fr S a b) (hs : ∀ k, k < a.heap.size → S k → S' k) : Fr S' a b := ⟨h.os, h.tape, h.output, h.size, fun i hi hn => h.block i hi (fun hS => hn (hs i hi hS))⟩
/-- Two steps, the second one by its own set. -/
theorem step (h : Fr S a b) (k : Fr S' b c) (hs : ∀ k, k < a.heap.size → S' k → S k) : Fr S a c :=
  ⟨k.os.trans h.os, k.tape.trans h.tape, k.output.trans h.output, Nat.le_trans h.size k.size, fun i hi hn => (k.block i (Nat.lt_of_lt_of_le hi h.size) (fun hS => hn (hs i hi hS))).trans (h.block i hi hn)⟩
theorem step0 (h : Fr S a b) (k : Fr0 b c) : Fr S a c := h.step k (fun _ _ hf => hf.elim)
theorem of0 (h : Fr0 a b) : Fr S a b := h.wide (fun _ _ hf => hf.elim)
theorem of_below (h : Below a.heap.size a b) : Fr S a b := ⟨h.os, h.tape, h.output, h.size, fun i hi _ => h.block i hi⟩
theorem below (h : Fr S a b) {B : Nat} (hB : B ≤ a.heap.size) (hs : ∀ k, k < B → ¬ S k) : Below B a b := ⟨h.os, h.tape, h.output, h.size, fun i hi => h.block i (Nat.lt_of_lt_of_le hi hB) (hs i hi)⟩
theorem alloc (h : Fr S a b) (o : Obj) : Fr S a (b.alloc o) := h.step0 (of_below ((Below.refl _ _).alloc (Nat.le_refl _) o))
theorem drew (h : Fr S a b) : Fr S a b.drew := ⟨h.os, h.tape, h.output, h.size, h.block⟩
theorem drewN (h : Fr S a b) (n : Nat) : Fr S a (b.drewN n) := ⟨h.os, h.tape, h.output, h.size, h.block⟩
theorem setCell (h : Fr S a b) {p : Addr} (hp : S p.block ∨ a.heap.size ≤ p.block) (u : Value) : Fr S a (b.setCell p u) :=
  ⟨h.os, h.tape, h.output, by simpa [World.setCell] using h.size, fun i hi hn => (Below.heap_setCell b p u i (by
    rintro rfl
    rcases hp with hp | hp
    · exact hn hp
    · omega)).trans (h.block i hi hn)⟩
theorem putObj (h : Fr S a b) {l : Nat} (hl : S l ∨ a.heap.size ≤ l) (o : Obj) : Fr S a (b.putObj l o) :=
  ⟨h.os, h.tape, h.output, by simpa using h.size, fun i hi hn => (World.putObj_heap_other (by
    rintro rfl
    rcases hl with hl | hl
    · exact hn hl
    · omega)).trans (h.block i hi hn)⟩
theorem put1 (W : World) (l : Nat) (o : Obj) : Fr (· = l) W (W.putObj l o) := putObj (S := (· = l)) (refl _ W) (.inl rfl) o
theorem heap (h : Fr S a b) {k : Nat} {o : Obj} (hk : a.heap[k]? = some o) (hn : ¬ S k) : b.heap[k]? = some o := (h.block k (Array.getElem?_eq_some_iff.1 hk).1 hn).trans hk
theorem cell (h : Fr S a b) {p : Addr} {v : Value} (hc : a.cell? p = some v) (hn : ¬ S p.block) : b.cell? p = some v := (World.cell?_of_block (h.block p.block (World.block_lt_of_cell? a p hc) hn)).trans hc
theorem cell0 (h : Fr0 a b) {p : Addr} {v : Value} (hc : a.cell? p = some v) : b.cell? p = some v := h.cell hc (fun hf => hf)
/-- A cell's block is none that holds a map. -/
theorem not_map {p : Addr} {v : Value} {mb : Nat} {es : Array MapEntry} {k : Nat} (hc : a.cell? p = some v) (hm : a.heap[mb]? = some (Obj.map es k)) : p.block ≠ mb := by
  rintro rfl
  simp [World.cell?, hm] at hc
theorem cellM {mb : Nat} (h : Fr (· = mb) a b) {es : Array MapEntry} {k : Nat} (hm : a.heap[mb]? = some (Obj.map es k)) {p : Addr} {v : Value} (hc : a.cell? p = some v) : b.cell? p = some v := h.cell hc (not_map hc hm)
end Fr

/-! ### 3. A range over a function -/
/-- The deferred calls' blocks of the loops that have run. -/
def dmark (D : Nat) : Deferred := { target := .collected D, args := #[] }
/-- Of each dmark's block: no call was deferred. -/
def Marks (w : World) (Ds : List Nat) : Prop := ∀ D ∈ Ds, w.heap[D]? = some (.deferred (some []))
/-- The world behind the marks. -/
def shut : List Nat → World → World
  | [], w => w
  | D :: Ds, w => shut Ds (w.putObj D (.deferred none))
theorem shut_fr (S : Nat → Prop) {a : World} : ∀ (Ds : List Nat) {w : World}, Fr S a w → (∀ D ∈ Ds, S D ∨ a.heap.size ≤ D) → Fr S a (shut Ds w)
  | [], _, h, _ => h
  | D :: Ds, _, h, hd => shut_fr S Ds (h.putObj (hd D List.mem_cons_self) _) (fun E he => hd E (List.mem_cons_of_mem _ he))
theorem shut_heap : ∀ (Ds : List Nat) {w : World} {k : Nat}, k ∉ Ds → (shut Ds w).heap[k]? = w.heap[k]?
  | [], _, _, _ => rfl
  | D :: Ds, w, k, h => (shut_heap Ds (fun hk => h (List.mem_cons_of_mem _ hk))).trans (World.putObj_heap_other (by rintro rfl; exact h List.mem_cons_self))
section
variable {P : Program}
theorem leaves_marks {fn : Func} {tmps : Array Value} {R : Ending → World → Prop} {v : Value} : ∀ (Ds : List Nat) (w : World), Marks w Ds → Ds.Nodup →
    (results fn tmps).run P (shut Ds w) = .ok v (shut Ds w) → R (.returned v) (shut Ds w) → LeavesInM Fence.wide 0 P fn tmps R (Ds.map dmark) .returning w
  | [], w, _, _, hr, hR => by
    show LeavesIn Fence.wide 0 P fn tmps R [] .returning w
    exact ⟨v, hr, hR⟩
  | D :: Ds, w, hm, hnd, hr, hR => by
    have hD := hm D List.mem_cons_self
    have hn := List.nodup_cons.1 hnd
    refine ⟨by simp, .inl ⟨D, _, rfl, run_takeDeferred hD, ?_⟩⟩
    exact leaves_marks Ds _ (fun E hE => (World.putObj_heap_other (by rintro rfl; exact hn.1 hE)).trans (hm E (List.mem_cons_of_mem _ hE))) hn.2 hr hR
end

/-- AN ITERATOR's CONTRACT: closure g over lb yields xs, one after the other, whatever the rounds do to the blocks of S; N: what it reads, at the world of its call. -/
def Iter {α : Type} (P : Program) (g : FuncId) (lb : Array Value) (encs : α → Array Value) (xs : List α) (N : World → (Nat → Prop) → Prop) : Prop :=
  ∀ (l : Nat) (S : Nat → Prop) (J Jx : List α → World → Prop) (W : World), N W S → (∀ k, S k → k < W.heap.size) →
    (∀ pre A B, J pre A → Fr0 A B → J pre B) → (∀ pre A B, Jx pre A → Fr0 A B → Jx pre B) →
    (∀ pre x rest W1, xs = pre ++ x :: rest → J pre W1 → YieldAt Fence.wide 0 P l (encs x) W1 fun e W' =>
      (e = .returned (.bool true) ∧ J (pre ++ [x]) W' ∧ Fr S W1 W') ∨ (e = .returned (.bool false) ∧ Jx (pre ++ [x]) W' ∧ Fr S W1 W')) →
    J [] W →
    CallsIn Fence.wide 0 P g (#[.func (.yield l) #[] #[]] ++ lb) W fun e W' => (∃ v, e = .returned v) ∧ (J xs W' ∨ ∃ pre, Jx pre W')

/-- How a round's body may be left. -/
def roundEnd {α : Type} (S : Nat → Prop) (J : List α → World → Prop) (Jx : Code → List α → World → Prop) (ys : List α) (W : World) : Exit → Act → World → Prop
  | .normal, _, W' => Fr S W W' ∧ J ys W'
  | .ret, _, W' => Fr S W W' ∧ Jx .ret ys W'
  | .exit id, _, W' => Fr S W W' ∧ Jx (.exit id) ys W'
  | .goto t, _, W' => Fr S W W' ∧ Jx (.goto t) ys W'
  | .panic _, _, _ => False
  | .outgrown, _, _ => False

section
variable {P : Program}
/-- The rounds of a loop, whatever its record bears beside. -/
theorem rounds_of {α : Type} {encs : α → Array Value} {xs : List α} {rec : LoopState → Option Code → Loop} {l : Nat} {ps : Array Tmp} {assign body : Code} {tmps : Array Value} {fn : FuncId} {S : Nat → Prop}
    (J : List α → World → Prop) (Jx : Code → List α → World → Prop)
    (hrec : ∀ st pe, (rec st pe).state = st ∧ (rec st pe).pending = pe ∧ (rec st pe).fn = fn ∧ (rec st pe).tmps = tmps ∧ (rec st pe).params = ps ∧ (rec st pe).assign = assign ∧ (rec st pe).body = body ∧ (∀ st' pe', { rec st pe with state := st', pending := pe' } = rec st' pe'))
    (hps : ∀ x, (encs x).size = ps.size) (hSl : ¬ S l)
    (hJ : ∀ pre A B, J pre A → Fr (· = l) A B → J pre B) (hJx : ∀ c pre A B, Jx c pre A → Fr (· = l) A B → Jx c pre B)
    (hround : ∀ pre x rest W, xs = pre ++ x :: rest → J pre W → W.heap[l]? = some (.loop (rec .ready none)) →
      assign.wpIn (Fence.wide.inRound l) 0 P (Exit.then (fun a1 W1 => Fr0 W W1 ∧ ∀ W2, Fr (· = l) W1 W2 → W2.heap[l]? = some (.loop (rec .busy none)) → body.wpIn (Fence.wide.inRound l) 0 P (roundEnd S J Jx (pre ++ [x]) W2) a1 W2) (fun _ _ _ => False))
        { tmps := (ps.zip (encs x)).foldl (fun t (p, v) => t.setIfInBounds p v) tmps, defers := [] } W)
    (pre : List α) (x : α) (rest : List α) (W : World) (hx : xs = pre ++ x :: rest) (hj : J pre W) (hl : W.heap[l]? = some (.loop (rec .ready none))) :
    YieldAt Fence.wide 0 P l (encs x) W fun e W' =>
      (e = .returned (.bool true) ∧ (J (pre ++ [x]) W' ∧ W'.heap[l]? = some (.loop (rec .ready none))) ∧ Fr (fun k => S k ∨ k = l) W W') ∨
      (e = .returned (.bool false) ∧ (∃ c, Jx c (pre ++ [x]) W' ∧ W'.heap[l]? = some (.loop (rec .done (some c)))) ∧ Fr (fun k => S k ∨ k = l) W W') := by
  obtain ⟨r1, r2, r3, r4, r5, r6, r7, r8⟩ := hrec .ready none
  have hlt : l < W.heap.size := (Array.getElem?_eq_some_iff.1 hl).1
  have hy := run_yield (P := P) (args := encs x) hl (by rw [r5]; exact hps x)
  rw [r3, r4, r5, r6, r7] at hy
  refine ⟨fn, _, assign, body, hy, roundIn_of_wpIn trivial (wpIn_mono (hround pre x rest W hx hj hl) ?_)⟩
  rintro e a1 W1 hq
  cases e with
  | normal =>
    obtain ⟨h01, hb⟩ := hq
    have hl1 := h01.heap hl (fun hf => hf)
    have hlt1 : l < W1.heap.size := (Array.getElem?_eq_some_iff.1 hl1).1
    have hbr := run_beginRound (P := P) hl1 r1
    rw [r8] at hbr
    rw [r2] at hbr
    refine ⟨_, hbr, ?_⟩
    have hl2 : (W1.putObj l (.loop (rec .busy none))).heap[l]? = some (.loop (rec .busy none)) := World.putObj_heap_same hlt1
    have h12 : Fr (· = l) W1 (W1.putObj l (.loop (rec .busy none))) := Fr.put1 _ _ _
    have h02 : Fr (fun k => S k ∨ k = l) W (W1.putObj l (.loop (rec .busy none))) := (Fr.of0 h01).step h12 (fun k _ h => .inr h)
    refine wpIn_mono (hb _ h12 hl2) ?_
    have fin : ∀ (jump : Option Code) (W3 : World), Fr S (W1.putObj l (.loop (rec .busy none))) W3 →
        (Instr.endRound l jump).run P W3 = .ok (.bool jump.isNone) (W3.putObj l (.loop (rec (if jump.isNone then .ready else .done) jump))) ∧
        (W3.putObj l (.loop (rec (if jump.isNone then .ready else .done) jump))).heap[l]? = some (.loop (rec (if jump.isNone then .ready else .done) jump)) ∧
        Fr (· = l) W3 (W3.putObj l (.loop (rec (if jump.isNone then .ready else .done) jump))) ∧
        Fr (fun k => S k ∨ k = l) W (W3.putObj l (.loop (rec (if jump.isNone then .ready else .done) jump))) := fun jump W3 h23 => by
      have hl3 := h23.heap hl2 hSl
      have he := run_endRound (P := P) jump hl3
      rw [(hrec .busy none).2.2.2.2.2.2.2] at he
      have h34 : Fr (· = l) W3 (W3.putObj l (.loop (rec (if jump.isNone then .ready else .done) jump))) := Fr.put1 _ _ _
      exact ⟨he, World.putObj_heap_same (Array.getElem?_eq_some_iff.1 hl3).1, h34, (h02.step h23 (fun k _ h => .inl h)).step h34 (fun k _ h => .inr h)⟩
    rintro e a3 W3 hp
    cases e with
    | normal =>
      obtain ⟨h23, hj3⟩ := hp
      obtain ⟨he, hl4, h34, h04⟩ := fin none W3 h23
      exact ⟨_, _, he, .inl ⟨rfl, ⟨hJ _ _ _ hj3 h34, hl4⟩, h04⟩⟩
    | ret =>
      obtain ⟨h23, hj3⟩ := hp
      obtain ⟨he, hl4, h34, h04⟩ := fin (some .ret) W3 h23
      exact ⟨_, _, he, .inr ⟨rfl, ⟨_, hJx _ _ _ _ hj3 h34, hl4⟩, h04⟩⟩
    | exit id =>
      obtain ⟨h23, hj3⟩ := hp
      obtain ⟨he, hl4, h34, h04⟩ := fin (some (.exit id)) W3 h23
      exact ⟨_, _, he, .inr ⟨rfl, ⟨_, hJx _ _ _ _ hj3 h34, hl4⟩, h04⟩⟩
    | goto t =>
      obtain ⟨h23, hj3⟩ := hp
      obtain ⟨he, hl4, h34, h04⟩ := fin (some (.goto t)) W3 h23
      exact ⟨_, _, he, .inr ⟨rfl, ⟨_, hJx _ _ _ _ hj3 h34, hl4⟩, h04⟩⟩
    | panic ch => exact hp.elim
    | outgrown => exact hp.elim
  | exit id => exact hq.elim
  | goto t => exact hq.elim
  | ret => exact hq.elim
  | panic ch => exact hq.elim
  | outgrown => exact hq.elim
/-- A RANGE OVER AN ITERATOR, outside every round. -/
theorem range_top {α : Type} {g : Operand} {ps : Array Tmp} {assign body : Code} {Q : Exit → Act → World → Prop} {a : Act} {w : World}
    {gf : FuncId} {lb : Array Value} (hg : a.eval g = .func (.func gf) #[] lb) (eg : ∀ args w, (callFunc gf args).run P w = .ok (.enter gf args) w)
    {encs : α → Array Value} {xs : List α} {N : World → (Nat → Prop) → Prop} (hit : Iter P gf lb encs xs N) (hps : ∀ x, (encs x).size = ps.size)
    (S : Nat → Prop) (hS : ∀ k, S k → k < w.heap.size) (hN : ∀ W (S' : Nat → Prop), Fr0 w W → (∀ k, S' k → S k ∨ w.heap.size ≤ k) → N W S')
    (J : List α → World → Prop) (Jx : Code → List α → World → Prop)
    (hJ : ∀ pre A B, J pre A → Fr (· = w.heap.size + 1) A B → J pre B) (hJx : ∀ c pre A B, Jx c pre A → Fr (· = w.heap.size + 1) A B → Jx c pre B)
    (h0 : ∀ W, Fr0 w W → J [] W)
    (hround : ∀ pre x rest W, xs = pre ++ x :: rest → J pre W → (∃ r, W.heap[w.heap.size + 1]? = some (.loop r)) →
      assign.wpIn (Fence.wide.inRound (w.heap.size + 1)) 0 P (Exit.then (fun a1 W1 => Fr0 W W1 ∧ ∀ W2, Fr (· = w.heap.size + 1) W1 W2 → (∃ r, W2.heap[w.heap.size + 1]? = some (.loop r)) → body.wpIn (Fence.wide.inRound (w.heap.size + 1)) 0 P (roundEnd S J Jx (pre ++ [x]) W2) a1 W2) (fun _ _ _ => False))
        { tmps := (ps.zip (encs x)).foldl (fun t (p, v) => t.setIfInBounds p v) a.tmps, defers := [] } W)
    (hdone : ∀ W', J xs W' → W'.heap[w.heap.size]? = some (.deferred (some [])) → Q .normal { a with defers := dmark w.heap.size :: a.defers } W')
    (hstop : ∀ c pre W', Jx c pre W' → W'.heap[w.heap.size]? = some (.deferred (some [])) → c.wpIn Fence.wide 0 P Q { a with defers := dmark w.heap.size :: a.defers } W') :
    (Code.rangeFunc g ps assign body).wpIn Fence.wide 0 P Q a w := by
  refine wpIn_rangeFunc ?_
  intro fn _
  show ∃ l dmark w₁ d w₁' f args w₂, (Instr.enterLoop fn a.tmps ps assign body none).run P w = _ ∧ _
  obtain ⟨rec, hrec⟩ : ∃ rec : LoopState → Option Code → Loop, rec = fun st pe => { state := st, pending := pe, fn, tmps := a.tmps, params := ps, assign, body, defers := w.heap.size } := ⟨_, rfl⟩
  obtain ⟨W1, hW1⟩ : ∃ W1, (w.alloc (.deferred (some []))).alloc (.loop (rec .ready none)) = W1 := ⟨_, rfl⟩
  have h01 : Fr0 w W1 := by rw [← hW1]; exact ((Fr.refl _ _).alloc _).alloc _
  have hsz : W1.heap.size = w.heap.size + 2 := by rw [← hW1]; simp
  have hL1 : W1.heap[w.heap.size + 1]? = some (.loop (rec .ready none)) := by
    rw [← hW1]; have := World.alloc_heap_new (w.alloc (.deferred (some []))) (.loop (rec .ready none)); rwa [World.size_alloc] at this
  have hK1 : W1.heap[w.heap.size]? = some (.deferred (some [])) := by
    rw [← hW1]; exact (Below.heap_alloc _ _ _ (by simp)).trans (World.alloc_heap_new w _)
  refine ⟨w.heap.size + 1, [{ target := .collected w.heap.size, args := #[] }], W1, { target := .fn (.func gf) lb, args := #[.func (.yield (w.heap.size + 1)) #[] #[]] }, W1, gf,
    #[.func (.yield (w.heap.size + 1)) #[] #[]] ++ lb, W1, ?_, ?_, ?_, ?_, fun h => by simp [Fence.wide] at h, ?_⟩
  · rw [← hW1, hrec]; exact run_enterLoop_outer _ _ _ _ _
  · simp only [resolve, hg]
    simp [go_sem]
  · intro f' _; exact trivial
  · simp [invoke, go_sem, eg]
  · have hfr : ∀ {A B : World}, Fr0 A B → Fr (· = w.heap.size + 1) A B := fun h => Fr.of0 h
    refine (hit (w.heap.size + 1) (fun k => S k ∨ k = w.heap.size + 1)
      (fun pre W => (J pre W ∧ W.heap[w.heap.size + 1]? = some (.loop (rec .ready none))) ∧ W.heap[w.heap.size]? = some (.deferred (some [])))
      (fun pre W => (∃ c, Jx c pre W ∧ W.heap[w.heap.size + 1]? = some (.loop (rec .done (some c)))) ∧ W.heap[w.heap.size]? = some (.deferred (some [])))
      W1 (hN _ _ h01 (fun k hk => hk.imp id (fun e => by omega))) (fun k hk => by
        rcases hk with hk | hk
        · have := hS k hk; omega
        · omega)
      (fun pre A B ⟨⟨h1, h2⟩, h3⟩ h => ⟨⟨hJ _ _ _ h1 (hfr h), h.heap h2 (fun hf => hf)⟩, h.heap h3 (fun hf => hf)⟩)
      (fun pre A B ⟨⟨c, h1, h2⟩, h3⟩ h => ⟨⟨c, hJx _ _ _ _ h1 (hfr h), h.heap h2 (fun hf => hf)⟩, h.heap h3 (fun hf => hf)⟩)
      ?_ ⟨⟨h0 _ h01, hL1⟩, hK1⟩).mono ?_
    · rintro pre x rest W hx ⟨⟨hj, hl⟩, hk⟩
      obtain ⟨fn', tmps', as', bd', hy, hR⟩ := rounds_of (P := P) (encs := encs) (xs := xs) (rec := rec) (l := w.heap.size + 1) (ps := ps) (assign := assign) (body := body) (tmps := a.tmps) (fn := fn) (S := S) J Jx
        (fun st pe => by subst hrec; exact ⟨rfl, rfl, rfl, rfl, rfl, rfl, rfl, fun _ _ => rfl⟩) hps (fun hs => by have := hS _ hs; omega) hJ hJx
        (fun pre x rest W hx hj hl => wpIn_mono (hround pre x rest W hx hj ⟨_, hl⟩) (fun e a1 W1 hq => by
          cases e with
          | normal => exact ⟨hq.1, fun W2 h12 hl2 => hq.2 W2 h12 ⟨_, hl2⟩⟩
          | _ => exact hq)) pre x rest W hx hj hl
      refine ⟨fn', tmps', as', bd', hy, hR.mono ?_⟩
      have hkeep : ∀ {W' : World}, Fr (fun k => S k ∨ k = w.heap.size + 1) W W' → W'.heap[w.heap.size]? = some (.deferred (some [])) := fun h => h.heap hk (fun h' => by
        rcases h' with h' | h'
        · have := hS _ h'; omega
        · omega)
      rintro e W' (⟨rfl, h1, h2⟩ | ⟨rfl, h1, h2⟩)
      · exact .inl ⟨rfl, ⟨h1, hkeep h2⟩, h2⟩
      · exact .inr ⟨rfl, ⟨h1, hkeep h2⟩, h2⟩
    · rintro e W2 ⟨⟨v, rfl⟩, (⟨⟨hj, hl⟩, hk⟩ | ⟨pre, ⟨c, hj, hl⟩, hk⟩)⟩
      · have he := run_endLoop (P := P) hl (by rw [hrec]; simp)
        refine ⟨none, W2.putObj (w.heap.size + 1) (.loop { rec .ready none with state := .exhausted }), by rw [he, hrec], hdone _ (hJ _ _ _ hj (Fr.put1 _ _ _)) ((World.putObj_heap_other (by omega)).trans hk)⟩
      · have he := run_endLoop (P := P) hl (by rw [hrec]; simp)
        refine ⟨some c, W2.putObj (w.heap.size + 1) (.loop { rec .done (some c) with state := .exhausted }), by rw [he, hrec], hstop _ pre _ (hJx _ _ _ _ hj (Fr.put1 _ _ _)) ((World.putObj_heap_other (by omega)).trans hk)⟩
end

/-! ### 4. A region that draws its order, within a round -/
def noOut (Q : Exit → Act → World → Prop) : Exit → Act → World → Prop
  | .outgrown, _, _ => False
  | e, a, w => Q e a w
section
variable {P : Program} {ops : Array Oper} {Q : Exit → Act → World → Prop} {md : Region.Mode} {l : Nat}
theorem wpOpIn_of_wpOp {i : Nat} {K K' : Act → World → Prop} {a : Act} {w : World} (hd : ∀ o, ops[i]? = some o → ∀ c, o.op ≠ .defer c) (hK : ∀ a w, K a w → K' a w)
    (h : wpOp P ops (noOut Q) i K a w) : wpOpIn (Fence.wide.inRound l) 0 P ops Q i K' a w := by
  unfold wpOp at h
  unfold wpOpIn
  cases ho : ops[i]? with
  | none => rw [ho] at h; exact hK _ _ h
  | some o =>
    rw [ho] at h
    simp only at h ⊢
    by_cases hw : Region.wanted o (yielded ops a.tmps) = true
    · rw [if_pos hw] at h ⊢
      rcases h with h | ⟨_, _, _, hf⟩
      · refine ⟨fun _ _ => trivial, ?_⟩
        unfold Oper.wp at h
        rw [Oper.semAt_eq _ _ _ (hd o ho)]
        generalize (execOp a.eval o).run P w = r at *
        cases r with
        | ok x w' =>
          cases x <;> simp only [Oper.upon] at h <;> simp only [Oper.uponIn]
          case value u => exact hK _ _ h
          case skip => exact hK _ _ h
          case defer d => exact hK _ _ h
          case enter f args =>
            refine ⟨fun hs => by simp [Fence.wide] at hs, ?_⟩
            refine (show CallsIn Fence.wide _ P f args w' _ from callsIn_wide.2 (h.mono fun e w'' he => ?_))
            cases e with
            | returned v => exact hK _ _ he
            | panicked c => exact he
            | outgrown => exact he.elim fun _ h => h.elim fun _ h => h.elim
          case row row args =>
            refine ⟨fun hs => by simp [Fence.wide] at hs, ?_⟩
            intro c cs _
            obtain ⟨v, w'', hr, hs⟩ := h c cs
            exact ⟨v, w'', hK _ _ hr, stepsIn_wide.2 hs⟩
        | halt x w' =>
          cases x <;> simp only [Oper.upon] at h <;> simp only [Oper.uponIn]
          case panic u => exact h
      · exact hf.elim
    · rw [if_neg hw] at h ⊢
      exact ⟨fun _ _ => trivial, hK _ _ h⟩
theorem wpAnyIn_of_wpAny (hd : ∀ (i : Nat) (o : Oper), ops[i]? = some o → ∀ c, o.op ≠ .defer c) : ∀ (fuel : Nat) (listed : Array Bool) (a : Act) (w : World), wpAny P md ops (noOut Q) fuel listed a w → wpAnyIn (Fence.wide.inRound l) 0 P md ops Q fuel listed a w
  | 0, _, _, _, h => ⟨h.1, h.2⟩
  | fuel + 1, _, _, _, h => ⟨fun h0 => h.1 h0, fun i hi => wpOpIn_of_wpOp (hd i) (fun a w => wpAnyIn_of_wpAny hd fuel _ a w) (h.2 i hi)⟩
def noDefer (ops : Array Oper) : Bool := ops.all fun o => match o.op with | .defer _ => false | _ => true
theorem noDefer_spec (h : noDefer ops = true) (i : Nat) (o : Oper) (ho : ops[i]? = some o) (c : Call) : o.op ≠ .defer c := by
  intro he
  have := Array.all_eq_true_iff_forall_mem.1 h o (Array.mem_of_getElem? ho)
  rw [he] at this
  cases this
theorem region_round {id : Nat} {a : Act} {w : World} (hd : noDefer ops = true) (hm : P.follows .mixedOrders = true)
    (h : wpAny P .any ops (noOut Q) ops.size (Array.replicate ops.size false) a w.drew) : (Code.region id ops true).wpIn (Fence.wide.inRound l) 0 P Q a w :=
  wpIn_region_any hm (wpAnyIn_of_wpAny (noDefer_spec hd) _ _ _ _ h)
end

/-- How a function that ranges over iterators is left. -/
def marksPost (P : Program) (fn : Func) (R : Ending → World → Prop) : Exit → Act → World → Prop
  | .normal, a, w | .ret, a, w => ∃ (Ds : List Nat) (v : Value), a.defers = Ds.map dmark ∧ Marks w Ds ∧ Ds.Nodup ∧ (results fn a.tmps).run P (shut Ds w) = .ok v (shut Ds w) ∧ R (.returned v) (shut Ds w)
  | _, _, _ => False
/-- A function that ranges over iterators: its contract, out of its body's walk. -/
theorem calls_of_marks {P : Program} {f : FuncId} {fn : Func} {c : Code} {args : Array Value} {w : World} {R : Ending → World → Prop} (hf : P.funcs[f]? = some fn) (hb : fn.body = some c)
    (h : c.wp P (marksPost P fn R) { tmps := args ++ Array.replicate (fn.ntmps - args.size) undef, defers := [] } w) : Calls P f args w R :=
  callsIn_wide.1 (callsIn_of_wp_marks (F := Fence.wide) (n := 0) hf hb trivial (wpIn_mono (wpIn_wide.2 h) (fun e a w hq => by
    cases e with
    | normal => obtain ⟨Ds, v, hd, hm, hn, hr, hR⟩ := hq; show LeavesInM _ _ _ _ _ _ a.defers _ _; rw [hd]; exact leaves_marks Ds w hm hn hr hR
    | ret => obtain ⟨Ds, v, hd, hm, hn, hr, hR⟩ := hq; show LeavesInM _ _ _ _ _ _ a.defers _ _; rw [hd]; exact leaves_marks Ds w hm hn hr hR
    | exit id => exact hq.elim
    | goto t => exact hq.elim
    | panic ch => exact hq.elim
    | outgrown => exact hq.elim)))
theorem ret_marks {P : Program} {fn : Func} {R : Ending → World → Prop} {tmps : Array Value} (v : Value) (Ds : List Nat) {w : World} (hm : Marks w Ds) (hn : Ds.Nodup)
    (hr : (results fn tmps).run P (shut Ds w) = .ok v (shut Ds w)) (hR : R (.returned v) (shut Ds w)) : marksPost P fn R .ret { tmps, defers := Ds.map dmark } w :=
  ⟨Ds, v, rfl, hm, hn, hr, hR⟩
theorem ret_marksG {P : Program} {fn : Func} {R : Ending → World → Prop} {tmps : Array Value} (v : Value) (Ds : List Nat) {w : World} (hm : Marks w Ds) (hn : Ds.Nodup)
    (hr : (results fn tmps).run P (shut Ds w) = .ok v (shut Ds w)) (hR : R (.returned v) (shut Ds w)) : Exit.noGoto (marksPost P fn R) .ret { tmps, defers := Ds.map dmark } w :=
  ⟨Ds, v, rfl, hm, hn, hr, hR⟩
theorem marks_nil (w : World) : Marks w [] := fun _ h => by cases h

/-! ### 5. A block that is known whole -/
def Bx (w : World) (g : Nat) (t : TypeId) (cs : Array Value) : Prop := w.heap[g]? = some (.cells cs t (0, 0))
namespace Bx
variable {w W : World} {g : Nat} {t : TypeId} {cs : Array Value} {S : Nat → Prop}
theorem lt (h : Bx w g t cs) : g < w.heap.size := (Array.getElem?_eq_some_iff.1 h).1
theorem cell (h : Bx w g t cs) (i : Nat) : w.cell? ⟨g, i, none⟩ = cs[i]? := by simp [World.cell?, show w.heap[g]? = _ from h]
theorem at_ (h : Bx w g t cs) (i : Nat) {v : Value} (hv : cs[i]? = some v) : w.cell? ⟨g, i, none⟩ = some v := (h.cell i).trans hv
theorem frz (h : Bx w g t cs) (i : Nat) : w.frozen? ⟨g, i, none⟩ = false := by simp [World.frozen?, show w.heap[g]? = _ from h]
theorem fr (h : Bx w g t cs) (hf : Fr S w W) (hn : ¬ S g) : Bx W g t cs := hf.heap h hn
theorem fr0 (h : Bx w g t cs) (hf : Fr0 w W) : Bx W g t cs := hf.heap h (fun h => h)
theorem new (w : World) (t : TypeId) (cs : Array Value) : Bx (w.alloc (.cells cs t)) w.heap.size t cs := World.alloc_heap_new w _
theorem alloc (h : Bx w g t cs) (o : Obj) : Bx (w.alloc o) g t cs := h.fr0 ((Fr.refl _ _).alloc o)
theorem drewN (h : Bx w g t cs) (n : Nat) : Bx (w.drewN n) g t cs := h
theorem drew (h : Bx w g t cs) : Bx w.drew g t cs := h
theorem far (h : Bx w g t cs) {p : Addr} (hp : g ≠ p.block) (u : Value) : Bx (w.setCell p u) g t cs := (Below.heap_setCell w p u g hp).trans h
theorem set_ (h : Bx w g t cs) (i : Nat) (u : Value) : Bx (w.setCell ⟨g, i, none⟩ u) g t (cs.setIfInBounds i u) := by
  have hg : w.heap[g]? = some (.cells cs t (0, 0)) := h
  show (w.setCell ⟨g, i, none⟩ u).heap[g]? = _
  simp [World.setCell, Array.getElem?_modify, hg]
theorem not_map (h : Bx w g t cs) {mb : Nat} {es : Array MapEntry} {k : Nat} (hm : w.heap[mb]? = some (Obj.map es k)) : g ≠ mb := by
  rintro rfl
  rw [show w.heap[g]? = _ from h] at hm
  cases hm
end Bx
end Go.Proofs.YtfmpbkolpjlfbaaDoor.X
namespace Go.Proofs.YtfmpbkolpjlfbaaDoor.R
open Go.RowKit Go.Shelf Go.Proofs.YtfmpbkolpjlfbaaDoorW.PrintWords Go.Proofs.YtfmpbkolpjlfbaaDoorW.PrintLast Go.Proofs.YtfmpbkolpjlfbaaDoor.PRaspKeys Go.Proofs.YtfmpbkolpjlfbaaDoor.X Go.Proofs.YtfmpbkolpjlfbaaDoor.M
attribute [local go_sem] Oper.semAt_some
/-- A shop's value: six cells. -/
abbrev shopV (tv : Value) (lo hi : Int) (kv : Value) (m0 m1 : Option Nat) : Value := .agg #[tv, .int .i64 lo, .int .i64 hi, kv, .map m0, .map m1]
abbrev shopC (tv : Value) (lo hi : Int) (kv : Value) (m0 m1 : Option Nat) : Array Value := #[tv, .int .i64 lo, .int .i64 hi, kv, .map m0, .map m1]
theorem lies_any (n lo hi : Int) (w : World) : Calls Tryd.prog 58 #[.int .i64 n, .int .i64 lo, .int .i64 hi] w fun e w' => e = .returned (.bool (decide (lo ≤ n) && decide (n ≤ hi))) ∧ Drawn0 w w' := by
 have h : rasp_lies.f n lo hi = some (decide (lo ≤ n) && decide (n ≤ hi)) := by
  unfold rasp_lies.f
  by_cases c : lo ≤ n
  ·rw [if_pos c]; simp [c]
  ·rw [if_neg c]; simp [c]
 exact rasp_lies.calls _ _ _ _ _ h
set_option maxHeartbeats 400000 in
theorem isFine_any (tv kv : Value) (m0 m1 : Option Nat) (lo hi off : Int) (w : World) (ht : tv.oneCell' = true) :
  Calls Tryd.prog 65 #[shopV tv lo hi kv m0 m1, .int .i64 off] w fun e w' => e = .returned (.bool (decide (lo ≤ off) && decide (off ≤ hi))) ∧ Fr0 w w' := by
 go_enter Tryd.func65, Tryd.ntmps65
 go_wp2_with (go_at_call 58; refine (lies_any _ _ _ _).mono ?_; rintro e w' ⟨rfl, ⟨nd, rfl⟩⟩)
 go_ret
 exact ⟨rfl, by repeat (first | exact Fr.refl _ _ | apply Fr.drewN | apply Fr.alloc)⟩
set_option maxHeartbeats 400000 in
theorem fewer_any (w : World) : Calls Tryd.prog 68 #[] w fun e w' => e = .returned (.agg #[.func (.func 74) #[] #[]]) ∧ Fr0 w w' := by
 go_enter Tryd.func68, Tryd.ntmps68
 go_wp2_with fail
 exact bodyPost_ret (v := .agg #[.func (.func 74) #[] #[]]) (by simp [results, Tryd.results68, go_sem]) rfl ⟨rfl, by repeat (first | exact Fr.refl _ _ | apply Fr.drewN | apply Fr.alloc)⟩
set_option maxHeartbeats 400000 in
theorem better_any (a b c d : Int) (w : World) : Calls Tryd.prog 74 #[.agg #[.int .i64 a, .int .i64 b], .agg #[.int .i64 c, .int .i64 d]] w fun e w' => e = .returned (.bool (decide (b < d))) ∧ Fr0 w w' := by
 go_enter Tryd.func74, Tryd.ntmps74
 go_wp2_with fail
 go_ret
 exact ⟨rfl, by repeat (first | exact Fr.refl _ _ | apply Fr.drewN | apply Fr.alloc)⟩
/-- 'leads' makes the iterator over three boxes. -/
theorem leads_any (tv kv : Value) (m0 m1 : Option Nat) (lo hi tool off : Int) (w : World) (ht : tv.oneCell' = true) :
  Calls Tryd.prog 70 #[shopV tv lo hi kv m0 m1, .int .i64 tool, .int .i64 off] w fun e w' =>
   e = .returned (.func (.func 75) #[] #[.pointer (some ⟨w.heap.size, 0, none⟩), .pointer (some ⟨w.heap.size + 1, 0, none⟩), .pointer (some ⟨w.heap.size + 2, 0, none⟩)]) ∧
   w' = ((w.alloc (.cells (shopC tv lo hi kv m0 m1) 78)).alloc (.cells #[.int .i64 tool] 3)).alloc (.cells #[.int .i64 off] 3) := by
 go_enter Tryd.func70, Tryd.ntmps70
 go_wp2_with fail
 go_ret
 exact ⟨rfl, rfl⟩
/-- What the iterator reads. -/
structure LeadsAt (w0 : World) (At : Option Addr) (ct : Nat) (tools : List S57) (lo hi : Int) (kv : Value) (m0 m1 : Option Nat) (tool off : Int) (b : Nat) (W : World) (S : Nat → Prop) : Prop where
 base : Below w0.heap.size w0 W
 rows : Kd.C k57 w0 At tools.length tools
 s0 : W.cell? ⟨b, 0, none⟩ = some (.slice At tools.length ct)
 s1 : W.cell? ⟨b + 1, 0, none⟩ = some (.int .i64 tool)
 s2 : W.cell? ⟨b + 2, 0, none⟩ = some (.int .i64 off)
 n0 : ∀ k, S k → w0.heap.size ≤ k ∧ k ≠ b ∧ k ≠ b + 1 ∧ k ≠ b + 2
theorem k57_at {w : World} {At : Option Addr} {tools : List S57} (h : Kd.C k57 w At tools.length tools) (k : Nat) (hk : k < tools.length) :
  ∃ ad, At = some ad ∧ w.cell? (ad.add (k * 3)) = some (.int .i64 (tools.getD k z57).f0.f0) ∧ w.cell? ⟨(ad.add (k * 3)).block, (ad.add (k * 3)).off + 1, none⟩ = some (.int .i64 (tools.getD k z57).f0.f1) ∧ w.cell? ⟨(ad.add (k * 3)).block, (ad.add (k * 3)).off + 2, none⟩ = some (.int .i64 (tools.getD k z57).f1) := by
 have := at_T57 h k (by omega) (by omega)
 simpa [rd_T57] using this
theorem LeadsAt.fr {w0 : World} {At : Option Addr} {ct : Nat} {tools : List S57} {lo hi : Int} {kv : Value} {m0 m1 : Option Nat} {tool off : Int} {b : Nat} {W W' : World} {S : Nat → Prop}
  (h : LeadsAt w0 At ct tools lo hi kv m0 m1 tool off b W S) (hf : Fr S W W') : LeadsAt w0 At ct tools lo hi kv m0 m1 tool off b W' S :=
 ⟨h.base.trans (hf.below h.base.size (fun k hk hS => by have := (h.n0 k hS).1; omega)), h.rows, hf.cell h.s0 (fun hS => (h.n0 _ hS).2.1 rfl), hf.cell h.s1 (fun hS => (h.n0 _ hS).2.2.1 rfl), hf.cell h.s2 (fun hS => (h.n0 _ hS).2.2.2 rfl), h.n0⟩
theorem upto_split (off lo : Int) (n k : Nat) (hk : k < n) : ∃ rest, ((List.range n).map fun i : Nat => off + (lo + i)) = ((List.range k).map fun i : Nat => off + (lo + i)) ++ (off + (lo + k)) :: rest := by
 refine ⟨((List.range n).drop (k + 1)).map fun i : Nat => off + (lo + i), ?_⟩
 have h1 : (List.range n).take k = List.range k := by rw [List.take_range]; congr 1; omega
 have h2 : (List.range n).drop k = k :: (List.range n).drop (k + 1) := by
  rw [List.drop_eq_getElem_cons (by simpa using hk)]; simp
 have h3 : List.range n = List.range k ++ k :: (List.range n).drop (k + 1) := by rw [← h1, ← h2, List.take_append_drop]
 conv => lhs; rw [h3]
 simp
theorem upto_succ (off lo : Int) (k : Nat) : ((List.range (k + 1)).map fun i : Nat => off + (lo + i)) = ((List.range k).map fun i : Nat => off + (lo + i)) ++ [off + (lo + k)] := by
 rw [List.range_succ, List.map_append]; rfl
set_option maxHeartbeats 1000000 in
theorem leads_iter (w0 : World) (At : Option Addr) (ct : Nat) (tools : List S57) (lo hi : Int) (kv : Value) (m0 m1 : Option Nat) (tool : Nat) (off : Int) (b : Nat)
  (ht : tool < tools.length) (hct : tools.length ≤ ct) (h1 : -30 ≤ (tools.getD tool z57).f0.f0) (h2 : (tools.getD tool z57).f0.f0 ≤ (tools.getD tool z57).f0.f1) (h3 : (tools.getD tool z57).f0.f1 ≤ 30) (ho1 : -1000 ≤ off) (ho2 : off ≤ 1000) :
  Iter Tryd.prog 75 #[.pointer (some ⟨b, 0, none⟩), .pointer (some ⟨b + 1, 0, none⟩), .pointer (some ⟨b + 2, 0, none⟩)] (fun x : Int => #[.int .i64 x])
   ((List.range ((tools.getD tool z57).f0.f1 - (tools.getD tool z57).f0.f0 + 1).toNat).map fun i : Nat => off + ((tools.getD tool z57).f0.f0 + i))
   (LeadsAt w0 At ct tools lo hi kv m0 m1 tool off b) := by
 intro l S J Jx W hN hS hJ hJx hY h0
 obtain ⟨ad, rfl, -⟩ := k57_at hN.rows tool ht
 have hcells : ∀ {wr : World}, LeadsAt w0 (some ad) ct tools lo hi kv m0 m1 tool off b wr S → wr.cell? (ad.add (tool * 3)) = some (.int .i64 (tools.getD tool z57).f0.f0) ∧ wr.cell? ⟨(ad.add (tool * 3)).block, (ad.add (tool * 3)).off + 1, none⟩ = some (.int .i64 (tools.getD tool z57).f0.f1) := fun h => by
  obtain ⟨ad', e, c0, c1, _⟩ := k57_at (Kd.C_below h.rows h.base) tool ht
  cases e
  exact ⟨c0, c1⟩
 generalize hlo : (tools.getD tool z57).f0.f0 = tl at *
 generalize hhi : (tools.getD tool z57).f0.f1 = th at *
 obtain ⟨n, hn⟩ : ∃ n : Nat, (th - tl + 1) = n := ⟨(th - tl + 1).toNat, by omega⟩
 rw [show (th - tl + 1).toNat = n by omega] at *
 have Hn := Lib.hid hn
 clear hn hlo hhi
 have HN := Lib.hid hN
 have hs0 := hN.s0
 have hs1 := hN.s1
 have hs2 := hN.s2
 obtain ⟨hc0, hc1⟩ := hcells hN
 have hm := hN.rows.2.1
 clear hN
 refine callsIn_of_wp Tryd.func75 rfl trivial ?_ rfl
 simp only [Tryd.ntmps75, List.size_toArray, List.length_cons, List.length_nil, Nat.reduceAdd, Nat.reduceSub, Array.replicate_succ, Array.replicate_zero, List.push_toArray, List.append_toArray, List.nil_append, List.cons_append]
 have hu57 := Tryd.underlying57
 gi_wp2
 gi_loopw [5] (fun v wr => ∃ k : Nat, k ≤ n ∧ v = .int .i64 (tl + k) ∧ J ((List.range k).map fun i : Nat => off + (tl + i)) wr ∧ Fr S W wr) (fun v _ => (th + 1 - intOf v).toNat)
 case atStart => exact ⟨0, by omega, by simp, h0, Fr.refl _ _⟩
 case round =>
  obtain ⟨k, hk, rfl, hj, hf⟩ := hrel
  have hNr := HN.out.fr hf
  obtain ⟨hr0, hr1⟩ := hcells hNr
  have q0 := hNr.s0
  have q1 := hNr.s1
  have q2 := hNr.s2
  have hn := Hn.out
  by_cases hlt : k < n
  ·have hle : tl + (k : Int) ≤ th := by omega
   obtain ⟨rest, hsp⟩ := upto_split off tl n k hlt
   obtain ⟨fn, tmps, assign, body, hy, hR⟩ := hY _ _ rest wr hsp hj
   clear hY hc0 hc1 hs0 hs1 hs2 hn hcells hsp
   gi_wp2
   refine ⟨rfl, hR.mono ?_⟩
   clear hR hy hr0 hr1 q0 q1 q2
   rintro e W' (⟨rfl, hj', hk'⟩ | ⟨rfl, hj', hk'⟩)
   ·gi_wp2
    go_roundw
    case rel => exact ⟨k + 1, by omega, by go_num, by rw [upto_succ]; exact hj', hf.trans hk'⟩
    case measure => simp [intOf]; omega
   ·gi_wp2
    refine bodyPost_ret (results_none rfl _ _ _) rfl ?_
    exact ⟨⟨_, rfl⟩, .inr ⟨_, hj'⟩⟩
  ·obtain rfl : k = n := by omega
   have hle : ¬ (tl + (k : Int) ≤ th) := by omega
   clear hY hc0 hc1 hs0 hs1 hs2 hn hcells
   gi_wp2
   go_end0
   exact ⟨⟨_, rfl⟩, .inl hj⟩
theorem start_round {P : Program} {ops : Array Oper} {Q : Exit → Act → World → Prop} {S : World → Prop} {ds : List Nat} {lp id n : Nat} {a : Act} {w : World} (l : Array Bool) (hd : noDefer ops = true) (hm : P.follows .mixedOrders = true) (hn : ops.size = n) (hl : Array.replicate n false = l) (hS : S w.drew)
  (h : S w.drew → wpAnyLast P .any ops (noOut Q) S ds n l a w.drew) : (Code.region id ops true).wpIn (Fence.wide.inRound lp) 0 P Q a w := by
 subst hn
 subst hl
 exact region_round hd hm (wpAny_of_last _ _ _ _ (h hS))
/-! ### The strokes, as a function -/
def cnt (way a b : Int) : Int := if way = 0 then max a b else min a b
def stp (way : Int) (st : Int × Bool) (n : Int) : Int × Bool := (cnt way (if st.2 = true then n else st.1) n, false)
def moves (t : S57) (off : Int) : List Int := (List.range (t.f0.f1 - t.f0.f0 + 1).toNat).map fun i : Nat => off + (t.f0.f0 + i)
def leadsTo (way : Int) (G : Int → Int → Int) (t : S57) (off metal : Int) : Int := ((moves t off).foldl (fun st o => stp way st (G o (metal - t.f1))) (0, true)).1
def stool (tools : List S57) (way : Int) (G : Int → Int → Int) (off metal : Int) (out : Int × Int) (k : Nat) : Int × Int :=
 if metal < (tools.getD k z57).f1 then out
 else if min 1000 (leadsTo way G (tools.getD k z57) off metal + 1) < out.2 then ((k : Int), min 1000 (leadsTo way G (tools.getD k z57) off metal + 1)) else out
def stk (tools : List S57) (lo hi way : Int) : Nat → Int → Int → Int × Int
 | 0, _, _ => (-1, 1000)
 | n + 1, off, metal =>
  if ¬ (-60 ≤ off ∧ off ≤ 60) then (-1, 1000) else if lo ≤ off ∧ off ≤ hi then (-1, 0)
  else (List.range tools.length).foldl (stool tools way (fun o m => (stk tools lo hi way n o m).2) off metal) (-1, 1000)
def strk (tools : List S57) (lo hi way off metal : Int) : Int × Int := stk tools lo hi way (metal.toNat + 1) off metal
/-- What a shop's tools are, if it is valid. -/
structure Sound (tools : List S57) : Prop where
 len : tools.length ≤ 4
 move : ∀ k, k < tools.length → -30 ≤ (tools.getD k z57).f0.f0 ∧ (tools.getD k z57).f0.f0 ≤ (tools.getD k z57).f0.f1 ∧ (tools.getD k z57).f0.f1 ≤ 30
 cost : ∀ k, k < tools.length → 1 ≤ (tools.getD k z57).f1 ∧ (tools.getD k z57).f1 ≤ 10
theorem foldl_congr {α β : Type} {f g : β → α → β} : ∀ (l : List α) (b : β), (∀ b x, x ∈ l → f b x = g b x) → l.foldl f b = l.foldl g b
 | [], _, _ => rfl
 | x :: l, b, h => by
  simp only [List.foldl_cons]
  rw [h b x List.mem_cons_self]
  exact foldl_congr l _ (fun b y hy => h b y (List.mem_cons_of_mem _ hy))
theorem stool_congr {tools : List S57} (hs : Sound tools) {way off metal : Int} {G G' : Int → Int → Int} (h : ∀ o m, 0 ≤ m → m < metal → G o m = G' o m) (out : Int × Int) (k : Nat) (hk : k < tools.length) :
  stool tools way G off metal out k = stool tools way G' off metal out k := by
 unfold stool
 split
 ·rfl
 ·have hc := hs.cost k hk
  have : leadsTo way G (tools.getD k z57) off metal = leadsTo way G' (tools.getD k z57) off metal := by
   unfold leadsTo
   rw [foldl_congr]
   intro b x _
   rw [h x _ (by omega) (by omega)]
  rw [this]
theorem stk_fuel {tools : List S57} (hs : Sound tools) (lo hi way : Int) : ∀ (n m : Nat) (off metal : Int), 0 ≤ metal → metal < n → metal < m → stk tools lo hi way n off metal = stk tools lo hi way m off metal
 | 0, _, _, _, h0, h1, _ => by omega
 | _, 0, _, _, h0, _, h1 => by omega
 | n + 1, m + 1, off, metal, h0, h1, h2 => by
  unfold stk
  split
  ·rfl
  ·split
   ·rfl
   ·rw [foldl_congr]
    intro b k hk
    exact stool_congr hs (fun o mm hm0 hm => by rw [stk_fuel hs lo hi way n m o mm hm0 (by omega) (by omega)]) b k (by simpa using hk)
theorem strk_eq {tools : List S57} (hs : Sound tools) (lo hi way off metal : Int) (h0 : 0 ≤ metal) :
  strk tools lo hi way off metal = if ¬ (-60 ≤ off ∧ off ≤ 60) then (-1, 1000) else if lo ≤ off ∧ off ≤ hi then (-1, 0)
   else (List.range tools.length).foldl (stool tools way (fun o m => (strk tools lo hi way o m).2) off metal) (-1, 1000) := by
 unfold strk
 conv => lhs; unfold stk
 split
 ·rfl
 ·split
  ·rfl
  ·rw [foldl_congr]
   intro b k hk
   exact stool_congr hs (fun o mm hm0 hm => by rw [stk_fuel hs lo hi way metal.toNat (mm.toNat + 1) o mm hm0 (by omega) (by omega)]) b k (by simpa using hk)
/-! ### What holds while the closure runs -/
def foundV (f : Int × Int) : Value := .agg #[.int .i64 f.1, .int .i64 f.2]
structure Cfg where
 w0 : World
 At : Option Addr
 ct : Nat
 tools : List S57
 lo : Int
 hi : Int
 kv : Value
 m0 : Nat
 m1 : Nat
 way : Int
 bF : Nat
 bS : Nat
 bW : Nat
 bR : Nat
 bB : Nat
def Cfg.mb (c : Cfg) : Nat := if c.way = 0 then c.m0 else c.m1
def Cfg.F (c : Cfg) (off metal : Int) : Int × Int := strk c.tools c.lo c.hi c.way off metal
def Cfg.sh (c : Cfg) : Value := shopV (.slice c.At c.tools.length c.ct) c.lo c.hi c.kv (some c.m0) (some c.m1)
def Memo (c : Cfg) (w : World) : Prop := ∃ f, MapFn w c.mb f ∧ ∀ a b v, f a b = some v → v = foundV (c.F a b)
structure Fix (c : Cfg) : Prop where
 rows : Kd.C k57 c.w0 c.At c.tools.length c.tools
 ct : c.tools.length ≤ c.ct
 sound : Sound c.tools
 way : c.way = 0 ∨ c.way = 1
 kv : c.kv.oneCell' = true
 old : c.w0.heap.size ≤ c.mb
structure Inv (c : Cfg) (w : World) : Prop where
 base : Below c.w0.heap.size c.w0 w
 memo : Memo c w
 cF : w.cell? ⟨c.bF, 0, none⟩ = some (.func (.func 65) #[c.sh] #[])
 s0 : w.cell? ⟨c.bS, 0, none⟩ = some (.slice c.At c.tools.length c.ct)
 s1 : w.cell? ⟨c.bS, 1, none⟩ = some (.int .i64 c.lo)
 s2 : w.cell? ⟨c.bS, 2, none⟩ = some (.int .i64 c.hi)
 s3 : w.cell? ⟨c.bS, 3, none⟩ = some c.kv
 s4 : w.cell? ⟨c.bS, 4, none⟩ = some (.map (some c.m0))
 s5 : w.cell? ⟨c.bS, 5, none⟩ = some (.map (some c.m1))
 cW : w.cell? ⟨c.bW, 0, none⟩ = some (.int .i64 c.way)
 cR : w.cell? ⟨c.bR, 0, none⟩ = some (.func (.func 69) #[] #[.pointer (some ⟨c.bF, 0, none⟩), .pointer (some ⟨c.bS, 0, none⟩), .pointer (some ⟨c.bW, 0, none⟩), .pointer (some ⟨c.bR, 0, none⟩), .pointer (some ⟨c.bB, 0, none⟩)])
 cB : w.cell? ⟨c.bB, 0, none⟩ = some (.func (.func 74) #[] #[])
 g0 : w.cell? ⟨0, 0, none⟩ = some (.func (.func 92) #[] #[])
 g1 : w.cell? ⟨0, 1, none⟩ = some (.func (.func 93) #[] #[])
theorem Inv.step {c : Cfg} {w w' : World} (hF : Fix c) (h : Inv c w) (hf : Fr (· = c.mb) w w') (hm : Memo c w') : Inv c w' := by
 obtain ⟨f, hmf, _⟩ := h.memo
 obtain ⟨es, k, ho⟩ := hmf.obj
 exact ⟨h.base.trans (hf.below h.base.size (fun k hk e => by have := hF.old; omega)), hm, hf.cellM ho h.cF, hf.cellM ho h.s0, hf.cellM ho h.s1, hf.cellM ho h.s2, hf.cellM ho h.s3, hf.cellM ho h.s4, hf.cellM ho h.s5, hf.cellM ho h.cW, hf.cellM ho h.cR, hf.cellM ho h.cB, hf.cellM ho h.g0, hf.cellM ho h.g1⟩
theorem Memo.same {c : Cfg} {w w' : World} (h : Memo c w) (hf : Fr0 w w') : Memo c w' := by
 obtain ⟨f, hm, hv⟩ := h
 exact ⟨f, hm.same (hf.block _ hm.lt (fun h => h)), hv⟩
theorem Inv.step0 {c : Cfg} {w w' : World} (hF : Fix c) (h : Inv c w) (hf : Fr0 w w') : Inv c w' := h.step hF (Fr.of0 hf) (h.memo.same hf)
end Go.Proofs.YtfmpbkolpjlfbaaDoor.R
namespace Go.Proofs.YtfmpbkolpjlfbaaDoor.R
open Go.RowKit Go.Shelf Go.Proofs.YtfmpbkolpjlfbaaDoorW.PrintWords Go.Proofs.YtfmpbkolpjlfbaaDoorW.PrintLast Go.Proofs.YtfmpbkolpjlfbaaDoor.PRaspKeys Go.Proofs.YtfmpbkolpjlfbaaDoor.X Go.Proofs.YtfmpbkolpjlfbaaDoor.M
attribute [local go_sem] Oper.semAt_some
theorem key86 : Key2 Tryd.prog 86 where
 und := ⟨_, Tryd.underlying86⟩
 chk := fun e w a b => by
  show (Instr.checkKey e (9998 + 1 + 1) 86 (k2 a b)).run Tryd.prog w = _
  have h3 : ∀ (v : Value) w, (Instr.checkKey e (9998 + 1) 3 v).run Tryd.prog w = .ok () w := fun v w => by
   unfold Instr.checkKey
   simp only [Sem.run_bind, run_underlying Tryd.underlying3, Result.andThen_ok]
   rfl
  unfold Instr.checkKey
  simp only [Sem.run_bind, run_underlying Tryd.underlying86, Result.andThen_ok, k2]
  simp [h3, go_sem]
 eq := fun w a b x y => by
  show (Op.equalIn 10000 86 (k2 a b) (k2 x y)).run Tryd.prog w = _
  refine eqA_of (d := 9999) Tryd.underlying86 (by kernel_rfl) ?_
  refine eqf_cons (by rfl) (by go_simp; rfl) (by go_simp; rfl) (by go_simp) ?_
  exact eqf_last (by rfl) (by go_simp; rfl) (by go_simp; rfl) (by go_simp)
theorem zero83 (w : World) : (zeroValue 83).run Tryd.prog w = .ok (foundV (0, 0)) w := by kernel_rfl
theorem isFine_c (c : Cfg) (off : Int) (w : World) : Calls Tryd.prog 65 #[c.sh, .int .i64 off] w fun e w' => e = .returned (.bool (decide (c.lo ≤ off) && decide (off ≤ c.hi))) ∧ Fr0 w w' :=
 isFine_any _ _ _ _ _ _ off w rfl
def FromSays (c : Cfg) (off metal : Int) (w : World) : Prop :=
  Calls Tryd.prog 69 #[k2 off metal, .pointer (some ⟨c.bF, 0, none⟩), .pointer (some ⟨c.bS, 0, none⟩), .pointer (some ⟨c.bW, 0, none⟩), .pointer (some ⟨c.bR, 0, none⟩), .pointer (some ⟨c.bB, 0, none⟩)] w fun e w' =>
   e = .returned (foundV (c.F off metal)) ∧ Fr (· = c.mb) w w' ∧ Memo c w'
theorem res69 {w : World} {g : Nat} {a b : Value} {tmps : Array Value} (h7 : tmps.getD 7 undef = .pointer (some ⟨g, 0, none⟩)) (h : Bx w g 83 #[a, b]) : (results Tryd.f69 tmps).run Tryd.prog w = .ok (.agg #[a, b]) w := by
 have h0 := h.at_ 0 rfl
 have h1 := h.at_ 1 rfl
 have h7' : tmps[7]?.getD undef = .pointer (some ⟨g, 0, none⟩) := by simpa using h7
 simp only [results, Tryd.results69]
 simp [h7', go_sem, h0, h1]
theorem wp_gen {P : Program} {c : Code} {Q : Exit → Act → World → Prop} {a : Act} {w0 w : World} (S : Nat → Prop) (hf : Fr S w0 w) (h : ∀ W, Fr S w0 W → c.wp P Q a W) : c.wp P Q a w := h w hf
def Ih (c : Cfg) (metal : Int) : Prop := ∀ (off' metal' : Int) (w' : World), 0 ≤ metal' → metal' < metal → -500 ≤ off' → off' ≤ 500 → Inv c w' → FromSays c off' metal' w'
theorem two_new (w : World) (o : Obj) (t : TypeId) (cs : Array Value) : Bx ((w.alloc o).alloc (.cells cs t)) (w.heap.size + 1) t cs := by
 have := Bx.new (w.alloc o) t cs
 simpa using this
theorem Inv.map {c : Cfg} {w : World} (h : Inv c w) (hF : Fix c) : w.cell? ⟨c.bS, 4 + c.way.toNat, none⟩ = some (.map (some c.mb)) := by
 rcases hF.way with hw | hw
 ·rw [hw, show c.mb = c.m0 by simp [Cfg.mb, hw]]; exact h.s4
 ·rw [hw, show c.mb = c.m1 by simp [Cfg.mb, hw]]; exact h.s5
set_option maxHeartbeats 2000000 in
set_option maxRecDepth 100000 in
theorem from_out (c : Cfg) (hF : Fix c) (off metal : Int) (w : World) (h0 : 0 ≤ metal) (hl : ¬ (-60 ≤ off ∧ off ≤ 60)) (hI : Inv c w) : FromSays c off metal w := by
 have hm := hI.memo
 clear hI
 have hl' : (decide (-60 ≤ off) && decide (off ≤ 60)) = false := by simpa using hl
 have hv : c.F off metal = (-1, 1000) := by unfold Cfg.F; rw [strk_eq hF.sound _ _ _ _ _ h0, if_pos hl]
 have HV := Lib.hid hv
 clear hv
 unfold FromSays
 refine calls_of_marks Tryd.func69 rfl ?_
 simp only [Tryd.ntmps69, k2, List.size_toArray, List.length_cons, List.length_nil, Nat.reduceAdd, Nat.reduceSub, Array.replicate_succ, Array.replicate_zero, List.push_toArray, List.append_toArray, List.nil_append, List.cons_append]
 go_wp2
 go_step3
 go_wp2_with (go_at_call 58; refine (lies_any _ _ _ _).mono ?_; rintro e w' ⟨rfl, ⟨nd, rfl⟩⟩)
 refine ret_marksG (foundV (-1, 1000)) [] (marks_nil _) List.nodup_nil (by simp [results, Tryd.results69, go_sem, shut, foundV]) ⟨by rw [HV.out], ?_, ?_⟩
 ·simp only [shut]; repeat (first | exact Fr.refl _ _ | apply Fr.drewN | apply Fr.alloc | (refine Fr.setCell ?_ (.inr (by simp)) _))
 ·simp only [shut]; refine hm.same ?_; repeat (first | exact Fr.refl _ _ | apply Fr.drewN | apply Fr.alloc | (refine Fr.setCell ?_ (.inr (by simp)) _))
set_option maxHeartbeats 2000000 in
set_option maxRecDepth 100000 in
theorem from_fine (c : Cfg) (hF : Fix c) (off metal : Int) (w : World) (h0 : 0 ≤ metal) (hl : -60 ≤ off ∧ off ≤ 60) (hfi : c.lo ≤ off ∧ off ≤ c.hi) (hI : Inv c w) : FromSays c off metal w := by
 have hm := hI.memo
 have hcF := hI.cF
 have lF : c.bF < w.heap.size := World.block_lt_of_cell? w _ hcF
 clear hI
 have hl' : (decide (-60 ≤ off) && decide (off ≤ 60)) = true := by simpa using hl
 have hfi' : (decide (c.lo ≤ off) && decide (off ≤ c.hi)) = true := by simpa using hfi
 have hv : c.F off metal = (-1, 0) := by unfold Cfg.F; rw [strk_eq hF.sound _ _ _ _ _ h0, if_neg (by simpa using hl), if_pos hfi]
 have HV := Lib.hid hv
 clear hv
 unfold FromSays
 refine calls_of_marks Tryd.func69 rfl ?_
 simp only [Tryd.ntmps69, k2, List.size_toArray, List.length_cons, List.length_nil, Nat.reduceAdd, Nat.reduceSub, Array.replicate_succ, Array.replicate_zero, List.push_toArray, List.append_toArray, List.nil_append, List.cons_append]
 go_wp2
 go_step3
 go_wp2_with (go_at_call 58; refine (lies_any _ _ _ _).mono ?_; rintro e w' ⟨rfl, ⟨nd, rfl⟩⟩)
 refine (isFine_c _ _ _).mono ?_
 rintro e W1 ⟨rfl, hf1⟩
 have HB1 : Bx W1 (w.heap.size + 1) 83 #[.int .i64 0, .int .i64 0] := Bx.fr0 (Bx.drewN (two_new _ _ _ _) _) hf1
 have hf0 : Fr0 w W1 := Fr.trans (by repeat (first | exact Fr.refl _ _ | apply Fr.drewN | apply Fr.alloc)) hf1
 have hb2 := HB1.at_ 0 rfl
 have hb3 := HB1.at_ 1 rfl
 have hz2 := HB1.frz 0
 have hz3 := HB1.frz 1
 go_wp2
 refine ret_marksG (foundV (-1, 0)) [] (marks_nil _) List.nodup_nil (by simp [results, Tryd.results69, go_sem, shut, foundV, hb2, hb3]) ⟨by rw [HV.out], ?_, ?_⟩
 ·simp only [shut]; repeat (first | exact Fr.of0 hf0 | (refine Fr.setCell ?_ (.inr (by simp)) _))
 ·simp only [shut]; refine hm.same ?_; repeat (first | exact hf0 | (refine Fr.setCell ?_ (.inr (by simp)) _))
set_option maxHeartbeats 2000000 in
set_option maxRecDepth 100000 in
theorem from_hit (c : Cfg) (hF : Fix c) (off metal : Int) (w : World) (hl : -60 ≤ off ∧ off ≤ 60) (hfi : ¬ (c.lo ≤ off ∧ off ≤ c.hi)) (hI : Inv c w) (f : Int → Int → Option Value) (hmf : MapFn w c.mb f) (hv : f off metal = some (foundV (c.F off metal))) : FromSays c off metal w := by
 have hl' : (decide (-60 ≤ off) && decide (off ≤ 60)) = true := by simpa using hl
 have hfi' : (decide (c.lo ≤ off) && decide (off ≤ c.hi)) = false := by simpa using hfi
 have hcF := hI.cF
 have lF : c.bF < w.heap.size := World.block_lt_of_cell? w _ hcF
 have HI := Lib.hid hI
 have HMF := Lib.hid hmf
 clear hI hmf
 unfold FromSays
 unfold foundV at *
 generalize (c.F off metal).1 = F1 at *
 generalize (c.F off metal).2 = F2 at *
 have HV := Lib.hid hv
 clear hv
 refine calls_of_marks Tryd.func69 rfl ?_
 simp only [Tryd.ntmps69, k2, List.size_toArray, List.length_cons, List.length_nil, Nat.reduceAdd, Nat.reduceSub, Array.replicate_succ, Array.replicate_zero, List.push_toArray, List.append_toArray, List.nil_append, List.cons_append]
 go_wp2
 go_step3
 go_wp2_with (go_at_call 58; refine (lies_any _ _ _ _).mono ?_; rintro e w' ⟨rfl, ⟨nd, rfl⟩⟩)
 refine (isFine_c _ _ _).mono ?_
 rintro e W1 ⟨rfl, hf1⟩
 have hf0 : Fr0 w W1 := Fr.trans (by repeat (first | exact Fr.refl _ _ | apply Fr.drewN | apply Fr.alloc)) hf1
 have HX : Bx W1 w.heap.size 86 #[.int .i64 off, .int .i64 metal] := Bx.fr0 (Bx.drewN (Bx.alloc (Bx.new _ _ _) _) _) hf1
 have HO : Bx W1 (w.heap.size + 1) 83 #[.int .i64 0, .int .i64 0] := Bx.fr0 (Bx.drewN (two_new _ _ _ _) _) hf1
 have HI1 := Lib.hid (HI.out.step0 hF hf0)
 have hx0 := HX.at_ 0 rfl
 have hx1 := HX.at_ 1 rfl
 have hcW1 := HI1.out.cW
 have hsM1 := HI1.out.map hF
 have HL := Lib.hid (show ∀ W', Fr0 W1 W' → (Instr.lookup 75 (.map (some c.mb)) (.agg #[.int .i64 off, .int .i64 metal]) true).run Tryd.prog W' = .ok (.tuple #[.agg #[.int .i64 F1, .int .i64 F2], .bool true]) W' from fun W' hW => by
  have hm2 := HMF.out.same ((hf0.trans hW).block _ HMF.out.lt (fun h => h))
  have := lookup_k2 key86 Tryd.underlying75 zero83 hm2 off metal
  rw [HV.out] at this
  exact this)
 clear hf1
 have hw0 : 0 ≤ c.way := by rcases hF.way with h | h <;> omega
 have hw2 : c.way < 2 := by rcases hF.way with h | h <;> omega
 go_wp2
 refine start_ (n := 12) (S := fun w' => w'.cell? ⟨c.bW, 0, none⟩ = some (.int .i64 c.way) ∧ w'.cell? ⟨c.bS, 4 + c.way.toNat, none⟩ = some (.map (some c.mb)) ∧ w'.cell? ⟨w.heap.size, 0, none⟩ = some (.int .i64 off) ∧ w'.cell? ⟨w.heap.size, 1, none⟩ = some (.int .i64 metal) ∧ (Instr.lookup 75 (.map (some c.mb)) (.agg #[.int .i64 off, .int .i64 metal]) true).run Tryd.prog w' = .ok (.tuple #[.agg #[.int .i64 F1, .int .i64 F2], .bool true]) w') (ds := [10]) (.replicate 12 false) (by kernel_rfl) rfl rfl ⟨hcW1, hsM1, hx0, hx1, (HL.out _ ((Fr.refl _ _).drew))⟩ (fun hHeld => ?_)
 refine pu 1 30 (bt 12 2) (k := ?_)
 refine tk5 0 29 (bt 12 3) hHeld (k := ?_)
 refine pu 2 31 (bt 12 7) (k := ?_)
 refine tk5 3 32 (bt 12 15) hHeld (k := ?_)
 refine tk5 4 33 (bt 12 31) hHeld (k := ?_)
 refine tk5 5 34 (bt 12 63) hHeld (k := ?_)
 refine pu 6 28 (bt 12 127) (k := ?_)
 refine pu 7 35 (bt 12 255) (k := ?_)
 refine pu 8 36 (bt 12 511) (k := ?_)
 refine oN 9 8 (bt 12 1023) (h := fun K hK => ?_)
 refine value_ (w1 := ?_) (v := ?_) (by rfl) rfl ?_ ?_
 rotate_left 2
 ·go_simp
  constructor
  ·rfl
  ·rfl
 refine hK.out _ _ ⟨((Fr.refl _ _).drew.alloc _).cell0 hcW1, ((Fr.refl _ _).drew.alloc _).cell0 hsM1, ((Fr.refl _ _).drew.alloc _).cell0 hx0, ((Fr.refl _ _).drew.alloc _).cell0 hx1, HL.out _ ((Fr.refl _ _).drew.alloc _)⟩ (fun hHeld => ?_)
 clear hK K
 refine norm_ (a' := ?_) ?_ ?_
 rotate_left
 ·show Act.put _ (some 8) _ = _
  simp only [Act.put, lA, lZ, lS, i64_w, i32_w]
  rfl
 refine last_ (i := 10) (N := none) (bt 12 2047) rfl rfl (by kernel_rfl) (by decide) (fun K hK => ?_)
 refine skip_ (w1 := ?_) (by rfl) rfl ?_ ?_
 rotate_left
 ·go_simp
  rfl
 refine hK.out _ _ ?_
 clear hK K
 refine pu 11 9 (bt 12 4095) (k := ?_)
 refine done_ (by kernel_rfl) ?_
 have hO0 := HO.at_ 0 rfl
 have hO1 := HO.at_ 1 rfl
 have hz0 := HO.frz 0
 have hz1 := HO.frz 1
 have hlt := HO.lt
 go_wp2
 refine ret_marksG (foundV (F1, F2)) [] (marks_nil _) List.nodup_nil ?_ ⟨rfl, ?_, ?_⟩
 ·simp only [shut]
  exact res69 rfl (Bx.drew (Bx.alloc (by simpa using (HO.set_ 0 (.int .i64 F1)).set_ 1 (.int .i64 F2)) _))
 ·simp only [shut]
  repeat (first | exact Fr.of0 hf0 | apply Fr.drew | apply Fr.alloc | (refine Fr.setCell ?_ (.inr (by simp)) _))
 ·simp only [shut]
  refine HI.out.memo.same ?_
  repeat (first | exact hf0 | apply Fr.drew | apply Fr.alloc | (refine Fr.setCell ?_ (.inr (by simp)) _))
end Go.Proofs.YtfmpbkolpjlfbaaDoor.R
namespace Go.Proofs.YtfmpbkolpjlfbaaDoor.R
open Go.RowKit Go.Shelf Go.Proofs.YtfmpbkolpjlfbaaDoorW.PrintWords Go.Proofs.YtfmpbkolpjlfbaaDoorW.PrintLast Go.Proofs.YtfmpbkolpjlfbaaDoor.PRaspKeys Go.Proofs.YtfmpbkolpjlfbaaDoor.X Go.Proofs.YtfmpbkolpjlfbaaDoor.M
attribute [local go_sem] Oper.semAt_some
/-- The two ways to count. -/
def Cfg.fn (c : Cfg) : FuncId := if c.way = 0 then 92 else 93
theorem one_row (w : World) (t : TypeId) (b : Int) (g : Nat) (hg : g = w.heap.size) : Kd.C (Kd.int .i64) (w.alloc (.cells #[.int .i64 b] t)) (some ⟨g, 0, none⟩) [b].length [b] := by
 subst hg
 refine ⟨rfl, by simp, fun _ => ⟨_, rfl, ?_⟩⟩
 rintro (_ | j) p hp
 ·obtain rfl : b = p := by simpa using hp
  refine ⟨[.int .i64 b], rfl, rfl, ?_⟩
  rintro (_ | i) u hu
  ·obtain rfl : (Value.int .i64 b) = u := by simpa using hu
   exact (Bx.new w t _).at_ 0 rfl
  ·simp at hu
 ·simp at hp
theorem greatest_one (a b : Int) : PRaspKeys.rasp_greatest_int.f 2 a [b] = some (max a b) := by
 simp [PRaspKeys.rasp_greatest_int.f, PRaspKeys.rasp_greatest_int.l0, wrap64, rd, mx]
 omega
theorem least_one (a b : Int) (ha : 0 ≤ a) (ha' : a ≤ 1000) (hb : 0 ≤ b) (hb' : b ≤ 1000) : rasp_least_int.f 2 a [b] = some (min a b) := by
 simp [rasp_least_int.f, rasp_turned_int.f, rasp_turned_int.l0, rasp_greatest_int.f, rasp_greatest_int.l0, wrap64, rd, mx]
 omega
set_option maxHeartbeats 1000000 in
theorem counts_any (c : Cfg) (hF : Fix c) (a b : Int) (w : World) (ha : 0 ≤ a) (ha' : a ≤ 1000) (hb : 0 ≤ b) (hb' : b ≤ 1000) :
  Calls Tryd.prog c.fn #[c.sh, .int .i64 a, .int .i64 b] w fun e w' => e = .returned (.int .i64 (cnt c.way a b)) ∧ Fr0 w w' := by
 unfold Cfg.fn cnt Cfg.sh
 by_cases hw : c.way = 0
 ·rw [if_pos hw, if_pos hw]
  clear hF
  go_enter Tryd.func92, Tryd.ntmps92
  go_wp2_with (go_at_call 72; refine (PRaspKeys.rasp_greatest_int.calls 2 a (some ⟨w.heap.size + 1, 0, none⟩) 1 [b] _ _ (one_row _ 3 b _ (by simp)) (by simp) (greatest_one a b)).mono ?_; rintro e w' ⟨rfl, hb⟩)
  go_ret
  exact ⟨rfl, by refine Fr.trans ?_ (Fr.of_below hb); repeat (first | exact Fr.refl _ _ | apply Fr.drewN | apply Fr.alloc)⟩
 ·rw [if_neg hw, if_neg hw]
  clear hF
  go_enter Tryd.func93, Tryd.ntmps93
  go_wp2_with (go_at_call 94; refine (rasp_least_int.calls 2 a (some ⟨w.heap.size + 1, 0, none⟩) 1 [b] _ _ (one_row _ 3 b _ (by simp)) (by simp) (least_one a b ha ha' hb hb')).mono ?_; rintro e w' ⟨rfl, hb⟩)
  go_ret
  exact ⟨rfl, by refine Fr.trans ?_ (Fr.of_below hb); repeat (first | exact Fr.refl _ _ | apply Fr.drewN | apply Fr.alloc)⟩
theorem Memo.lt {c : Cfg} {w : World} (h : Memo c w) : c.mb < w.heap.size := by
 obtain ⟨f, hm, _⟩ := h
 exact hm.lt
theorem _root_.Go.Proofs.YtfmpbkolpjlfbaaDoor.X.Bx.of_new {w : World} {g : Nat} {t : TypeId} {cs : Array Value} (h : g = w.heap.size) : Bx (w.alloc (.cells cs t)) g t cs := by subst h; exact Bx.new _ _ _
structure Base (c : Cfg) (w : World) (off metal : Int) (bx br bo : Nat) (out : Int × Int) (Ds : List Nat) (W : World) : Prop where
 fr : Fr (· = c.mb) w W
 memo : Memo c W
 x : Bx W bx 86 #[.int .i64 off, .int .i64 metal]
 r : Bx W br 83 #[.int .i64 0, .int .i64 0]
 o : Bx W bo 83 #[.int .i64 out.1, .int .i64 out.2]
 ms : Marks W Ds
 nd : Ds.Nodup
 old : ∀ D ∈ Ds, w.heap.size ≤ D
 bo : w.heap.size ≤ bo
theorem marks_fr {S : Nat → Prop} {w W : World} {Ds : List Nat} (h : Marks w Ds) (hf : Fr S w W) (hn : ∀ D ∈ Ds, ¬ S D) : Marks W Ds := fun D hD => hf.heap (h D hD) (hn D hD)
theorem marks_bx {w : World} {Ds : List Nat} (h : Marks w Ds) {g : Nat} {t : TypeId} {cs : Array Value} (hb : Bx w g t cs) : ∀ D ∈ Ds, D ≠ g := by
 rintro D hD rfl
 have := h D hD
 rw [show w.heap[D]? = _ from hb] at this
 cases this
theorem marks_map {w : World} {Ds : List Nat} (h : Marks w Ds) {g : Nat} {es : Array MapEntry} {k : Nat} (hb : w.heap[g]? = some (.map es k)) : ∀ D ∈ Ds, D ≠ g := by
 rintro D hD rfl
 have := h D hD
 rw [hb] at this
 cases this
theorem Base.keep {c : Cfg} {w : World} {off metal : Int} {bx br bo : Nat} {out : Int × Int} {Ds : List Nat} {W W' : World} {S : Nat → Prop} (h : Base c w off metal bx br bo out Ds W) (hf : Fr S W W')
  (hm : Memo c W') (h1 : ¬ S bx) (h2 : ¬ S br) (h3 : ¬ S bo) (h4 : ∀ D ∈ Ds, ¬ S D) (h5 : ∀ k, S k → k = c.mb ∨ w.heap.size ≤ k) : Base c w off metal bx br bo out Ds W' where
 fr := ⟨hf.os.trans h.fr.os, hf.tape.trans h.fr.tape, hf.output.trans h.fr.output, Nat.le_trans h.fr.size hf.size, fun i hi hn => (hf.block i (Nat.lt_of_lt_of_le hi h.fr.size) (fun hS => by rcases h5 i hS with e | e; exact hn e; omega)).trans (h.fr.block i hi hn)⟩
 memo := hm
 x := h.x.fr hf h1
 r := h.r.fr hf h2
 o := h.o.fr hf h3
 ms := fun D hD => hf.heap (h.ms D hD) (h4 D hD)
 nd := h.nd
 old := h.old
 bo := h.bo
theorem Base.keep0 {c : Cfg} {w : World} {off metal : Int} {bx br bo : Nat} {out : Int × Int} {Ds : List Nat} {W W' : World} (h : Base c w off metal bx br bo out Ds W) (hf : Fr0 W W') : Base c w off metal bx br bo out Ds W' :=
 h.keep hf (h.memo.same hf) (fun h => h) (fun h => h) (fun h => h) (fun _ _ h => h) (fun _ h => h.elim)
theorem Base.push {c : Cfg} {w : World} {off metal : Int} {bx br bo : Nat} {out : Int × Int} {Ds : List Nat} {W : World} {D : Nat} (h : Base c w off metal bx br bo out Ds W) (hD : W.heap[D]? = some (.deferred (some []))) (hn : ∀ E ∈ Ds, E < D) (ho : w.heap.size ≤ D) : Base c w off metal bx br bo out (D :: Ds) W :=
 ⟨h.fr, h.memo, h.x, h.r, h.o, List.forall_mem_cons.2 ⟨hD, h.ms⟩, List.nodup_cons.2 ⟨fun hm => by have := hn D hm; omega, h.nd⟩, List.forall_mem_cons.2 ⟨ho, h.old⟩, h.bo⟩
theorem Base.set_o {c : Cfg} {w : World} {off metal : Int} {bx br bo : Nat} {out : Int × Int} {Ds : List Nat} {W : World} (h : Base c w off metal bx br bo out Ds W) (hx : bx ≠ bo) (hr : br ≠ bo) (a b : Int) : Base c w off metal bx br bo (a, b) Ds ((W.setCell ⟨bo, 0, none⟩ (.int .i64 a)).setCell ⟨bo, 1, none⟩ (.int .i64 b)) := by
 obtain ⟨f, hm0, hv⟩ := h.memo
 obtain ⟨es, ck, ho⟩ := hm0.obj
 have hne : bo ≠ c.mb := h.o.not_map ho
 have hf : Fr (· = bo) W ((W.setCell ⟨bo, 0, none⟩ (.int .i64 a)).setCell ⟨bo, 1, none⟩ (.int .i64 b)) := Fr.setCell (S := (· = bo)) (Fr.setCell (S := (· = bo)) (Fr.refl _ _) (.inl rfl) _) (.inl rfl) _
 have hb := h.bo
 exact ⟨Fr.setCell (S := (· = c.mb)) (Fr.setCell (S := (· = c.mb)) h.fr (.inr hb) _) (.inr hb) _, ⟨f, hm0.same (hf.block _ hm0.lt (fun e => hne e.symm)), hv⟩, h.x.fr hf hx, h.r.fr hf hr, by have := (h.o.set_ 0 (.int .i64 a)).set_ 1 (.int .i64 b); simp at this; exact this, marks_fr h.ms hf (marks_bx h.ms h.o), h.nd, h.old, h.bo⟩
theorem Base.of_eq {c : Cfg} {w : World} {off metal : Int} {bx br bo : Nat} {out out' : Int × Int} {Ds : List Nat} {W : World} (h : Base c w off metal bx br bo out' Ds W) (e : out = out') : Base c w off metal bx br bo out Ds W := by rw [e]; exact h
/-- What holds within the rounds of a tool's moves. -/
structure Rd (c : Cfg) (w : World) (off metal : Int) (bx br bo : Nat) (out : Int × Int) (Ds : List Nat) (t : S57) (g : Nat) (st : Int × Bool) (W : World) : Prop where
 b : Base c w off metal bx br bo out Ds W
 t : Bx W g 57 #[.int .i64 t.f0.f0, .int .i64 t.f0.f1, .int .i64 t.f1]
 a : Bx W (g + 1) 3 #[.int .i64 st.1]
 f : Bx W (g + 1 + 1) 4 #[.bool st.2]
 p0 : 0 ≤ st.1
 p1 : st.1 ≤ 1000
 gb : w.heap.size ≤ g
 nb : bx < g ∧ br < g ∧ bo < g
 nD : ∀ D ∈ Ds, D < g
theorem Rd.keep {c : Cfg} {w : World} {off metal : Int} {bx br bo : Nat} {out : Int × Int} {Ds : List Nat} {t : S57} {g : Nat} {st : Int × Bool} {W W' : World} {L : Nat} (h : Rd c w off metal bx br bo out Ds t g st W) (hL : g + 1 + 1 < L) (hLm : L ≠ c.mb)
  (hf : Fr (· = L) W W') : Rd c w off metal bx br bo out Ds t g st W' := by
 obtain ⟨f, hm, hv⟩ := h.b.memo
 exact ⟨h.b.keep hf ⟨f, hm.same (hf.block _ hm.lt (fun e => hLm e.symm)), hv⟩ (fun e => by have := h.nb.1; omega) (fun e => by have := h.nb.2.1; omega) (fun e => by have := h.nb.2.2; omega) (fun D hD e => by have := h.nD D hD; omega) (fun k e => .inr (by have := h.gb; omega)),
  h.t.fr hf (by omega), h.a.fr hf (by omega), h.f.fr hf (by omega), h.p0, h.p1, h.gb, h.nb, h.nD⟩
theorem Rd.keep0 {c : Cfg} {w : World} {off metal : Int} {bx br bo : Nat} {out : Int × Int} {Ds : List Nat} {t : S57} {g : Nat} {st : Int × Bool} {W W' : World} (h : Rd c w off metal bx br bo out Ds t g st W) (hf : Fr0 W W') : Rd c w off metal bx br bo out Ds t g st W' :=
 ⟨h.b.keep0 hf, h.t.fr0 hf, h.a.fr0 hf, h.f.fr0 hf, h.p0, h.p1, h.gb, h.nb, h.nD⟩
theorem Rd.keepM {c : Cfg} {w : World} {off metal : Int} {bx br bo : Nat} {out : Int × Int} {Ds : List Nat} {t : S57} {g : Nat} {st : Int × Bool} {W W' : World} (h : Rd c w off metal bx br bo out Ds t g st W) (hf : Fr (· = c.mb) W W') (hm : Memo c W') : Rd c w off metal bx br bo out Ds t g st W' := by
 obtain ⟨f, hm0, _⟩ := h.b.memo
 obtain ⟨es, ck, ho⟩ := hm0.obj
 exact ⟨h.b.keep hf hm (h.b.x.not_map ho) (h.b.r.not_map ho) (h.b.o.not_map ho) (marks_map h.b.ms ho) (fun k e => .inl e), h.t.fr hf (h.t.not_map ho), h.a.fr hf (h.a.not_map ho), h.f.fr hf (h.f.not_map ho), h.p0, h.p1, h.gb, h.nb, h.nD⟩
theorem Rd.base1 {c : Cfg} {w : World} {off metal : Int} {bx br bo : Nat} {out : Int × Int} {Ds : List Nat} {t : S57} {g : Nat} {st : Int × Bool} {W : World} (h : Rd c w off metal bx br bo out Ds t g st W) (k : Nat) (hk : k = g + 1 ∨ k = g + 1 + 1) (v : Value) : Base c w off metal bx br bo out Ds (W.setCell ⟨k, 0, none⟩ v) := by
 obtain ⟨f, hm0, hv⟩ := h.b.memo
 obtain ⟨es, ck, ho⟩ := hm0.obj
 have hne : k ≠ c.mb := by
  rcases hk with rfl | rfl
  ·exact h.a.not_map ho
  ·exact h.f.not_map ho
 have hf : Fr (· = k) W (W.setCell ⟨k, 0, none⟩ v) := Fr.setCell (S := (· = k)) (Fr.refl _ _) (.inl rfl) _
 exact h.b.keep hf ⟨f, hm0.same (hf.block _ hm0.lt (fun e => hne e.symm)), hv⟩ (fun e => by have := h.nb.1; omega) (fun e => by have := h.nb.2.1; omega) (fun e => by have := h.nb.2.2; omega) (fun D hD e => by have := h.nD D hD; omega) (fun j e => .inr (by have := h.gb; omega))
theorem Rd.set_a {c : Cfg} {w : World} {off metal : Int} {bx br bo : Nat} {out : Int × Int} {Ds : List Nat} {t : S57} {g : Nat} {st : Int × Bool} {W : World} (h : Rd c w off metal bx br bo out Ds t g st W) (v : Int) (h0 : 0 ≤ v) (h1 : v ≤ 1000) : Rd c w off metal bx br bo out Ds t g (v, st.2) (W.setCell ⟨g + 1, 0, none⟩ (.int .i64 v)) :=
 ⟨h.base1 _ (.inl rfl) _, h.t.far (by simp) _, by simpa using h.a.set_ 0 (.int .i64 v), h.f.far (by simp) _, h0, h1, h.gb, h.nb, h.nD⟩
theorem Rd.set_f {c : Cfg} {w : World} {off metal : Int} {bx br bo : Nat} {out : Int × Int} {Ds : List Nat} {t : S57} {g : Nat} {st : Int × Bool} {W : World} (h : Rd c w off metal bx br bo out Ds t g st W) (v : Bool) : Rd c w off metal bx br bo out Ds t g (st.1, v) (W.setCell ⟨g + 1 + 1, 0, none⟩ (.bool v)) :=
 ⟨h.base1 _ (.inr rfl) _, h.t.far (by simp; omega) _, h.a.far (by simp) _, by simpa using h.f.set_ 0 (.bool v), h.p0, h.p1, h.gb, h.nb, h.nD⟩
theorem mem_moves {t : S57} {off x : Int} (h : x ∈ moves t off) : off + t.f0.f0 ≤ x ∧ x ≤ off + t.f0.f1 := by
 unfold moves at h
 obtain ⟨i, hi, rfl⟩ := List.mem_map.1 h
 have := List.mem_range.1 hi
 omega
theorem cnt_bnd {way a b : Int} (ha : 0 ≤ a) (ha' : a ≤ 1000) (hb : 0 ≤ b) (hb' : b ≤ 1000) : 0 ≤ cnt way a b ∧ cnt way a b ≤ 1000 := by
 unfold cnt
 split <;> omega
theorem leads_bnd (way : Int) (G : Int → Int) (hG : ∀ o, 0 ≤ G o ∧ G o ≤ 1000) : ∀ (l : List Int) (st : Int × Bool), 0 ≤ st.1 ∧ st.1 ≤ 1000 → 0 ≤ (l.foldl (fun st o => stp way st (G o)) st).1 ∧ (l.foldl (fun st o => stp way st (G o)) st).1 ≤ 1000
 | [], _, h => h
 | x :: l, st, h => by
  refine leads_bnd way G hG l _ ?_
  unfold stp
  have := hG x
  dsimp only
  split
  ·exact cnt_bnd this.1 this.2 this.1 this.2
  ·exact cnt_bnd h.1 h.2 this.1 this.2
theorem stk_bnd {tools : List S57} {lo hi way : Int} : ∀ (n : Nat) (off metal : Int), 0 ≤ (stk tools lo hi way n off metal).2 ∧ (stk tools lo hi way n off metal).2 ≤ 1000
 | 0, _, _ => ⟨by simp [stk], by simp [stk]⟩
 | n + 1, off, metal => by
  unfold stk
  split
  ·simp
  ·split
   ·simp
   ·have key : ∀ (l : List Nat) (out : Int × Int), 0 ≤ out.2 ∧ out.2 ≤ 1000 → 0 ≤ (l.foldl (stool tools way (fun o m => (stk tools lo hi way n o m).2) off metal) out).2 ∧ (l.foldl (stool tools way (fun o m => (stk tools lo hi way n o m).2) off metal) out).2 ≤ 1000 := by
     intro l
     induction l with
     | nil => exact fun _ h => h
     | cons k l ih =>
      intro out h
      refine ih _ ?_
      unfold stool
      split
      ·exact h
      ·split
       ·have := leads_bnd way (fun o => (stk tools lo hi way n o (metal - (tools.getD k z57).f1)).2) (fun o => stk_bnd n _ _) (moves (tools.getD k z57) off) (0, true) ⟨by simp, by simp⟩
        unfold leadsTo
        dsimp only at this ⊢
        omega
       ·exact h
    exact key _ _ (by simp)
theorem F_bnd (c : Cfg) (off metal : Int) : 0 ≤ (c.F off metal).2 ∧ (c.F off metal).2 ≤ 1000 := stk_bnd _ _ _
theorem Inv.gfn {c : Cfg} {w : World} (h : Inv c w) (hF : Fix c) : w.cell? ⟨0, c.way.toNat, none⟩ = some (.func (.func c.fn) #[] #[]) := by
 rcases hF.way with hw | hw
 ·rw [show c.fn = 92 by simp [Cfg.fn, hw], hw]; exact h.g0
 ·rw [show c.fn = 93 by simp [Cfg.fn, hw], hw]; exact h.g1
theorem wpIn_gen {F : Fence} {n : Nat} {P : Program} {c : Code} {Q : Exit → Act → World → Prop} {a : Act} {w : World} (R : World → Prop) (hR : R w) (h : ∀ W, R W → c.wpIn F n P Q a W) : c.wpIn F n P Q a w := h w hR
theorem Fr0.trans {a b c : World} (h : Fr0 a b) (k : Fr0 b c) : Fr0 a c := Fr.trans h k
theorem enters_fn (c : Cfg) (args : Array Value) (w : World) : (callFunc c.fn args).run Tryd.prog w = .ok (.enter c.fn args) w := by
 unfold Cfg.fn
 split <;> kernel_rfl
theorem ofGetD {T : Array Value} {n : Nat} (h : T.size = n) : T = (List.ofFn fun i : Fin n => T.getD i undef).toArray := by
 subst h
 apply Array.ext
 ·simp
 ·intro i h1 h2; simp [h1]
theorem arr98 {T : Array Value} (h : T.size = 98) : T = #[T.getD 0 undef, T.getD 1 undef, T.getD 2 undef, T.getD 3 undef, T.getD 4 undef, T.getD 5 undef, T.getD 6 undef, T.getD 7 undef, T.getD 8 undef, T.getD 9 undef, T.getD 10 undef, T.getD 11 undef, T.getD 12 undef, T.getD 13 undef, T.getD 14 undef, T.getD 15 undef, T.getD 16 undef, T.getD 17 undef, T.getD 18 undef, T.getD 19 undef, T.getD 20 undef, T.getD 21 undef, T.getD 22 undef, T.getD 23 undef, T.getD 24 undef, T.getD 25 undef, T.getD 26 undef, T.getD 27 undef, T.getD 28 undef, T.getD 29 undef, T.getD 30 undef, T.getD 31 undef, T.getD 32 undef, T.getD 33 undef, T.getD 34 undef, T.getD 35 undef, T.getD 36 undef, T.getD 37 undef, T.getD 38 undef, T.getD 39 undef, T.getD 40 undef, T.getD 41 undef, T.getD 42 undef, T.getD 43 undef, T.getD 44 undef, T.getD 45 undef, T.getD 46 undef, T.getD 47 undef, T.getD 48 undef, T.getD 49 undef, T.getD 50 undef, T.getD 51 undef, T.getD 52 undef, T.getD 53 undef, T.getD 54 undef, T.getD 55 undef, T.getD 56 undef, T.getD 57 undef, T.getD 58 undef, T.getD 59 undef, T.getD 60 undef, T.getD 61 undef, T.getD 62 undef, T.getD 63 undef, T.getD 64 undef, T.getD 65 undef, T.getD 66 undef, T.getD 67 undef, T.getD 68 undef, T.getD 69 undef, T.getD 70 undef, T.getD 71 undef, T.getD 72 undef, T.getD 73 undef, T.getD 74 undef, T.getD 75 undef, T.getD 76 undef, T.getD 77 undef, T.getD 78 undef, T.getD 79 undef, T.getD 80 undef, T.getD 81 undef, T.getD 82 undef, T.getD 83 undef, T.getD 84 undef, T.getD 85 undef, T.getD 86 undef, T.getD 87 undef, T.getD 88 undef, T.getD 89 undef, T.getD 90 undef, T.getD 91 undef, T.getD 92 undef, T.getD 93 undef, T.getD 94 undef, T.getD 95 undef, T.getD 96 undef, T.getD 97 undef] := (ofGetD h).trans (by rfl)
set_option maxHeartbeats 4000000 in
set_option maxRecDepth 100000 in
theorem from_miss (c : Cfg) (hF : Fix c) (off metal : Int) (w : World) (h0 : 0 ≤ metal) (hmt : metal ≤ 1000) (hl : -60 ≤ off ∧ off ≤ 60) (hfi : ¬ (c.lo ≤ off ∧ off ≤ c.hi)) (hI : Inv c w) (f : Int → Int → Option Value) (hmf : MapFn w c.mb f) (hv : f off metal = none)
  (ih : Ih c metal) : FromSays c off metal w := by
 have hl' : (decide (-60 ≤ off) && decide (off ≤ 60)) = true := by simpa using hl
 have hfi' : (decide (c.lo ≤ off) && decide (off ≤ c.hi)) = false := by simpa using hfi
 have hcF := hI.cF
 have lF : c.bF < w.heap.size := World.block_lt_of_cell? w _ hcF
 have HI := Lib.hid hI
 have HMF := Lib.hid hmf
 have IH := Lib.hid ih
 clear hI hmf ih
 have HV := Lib.hid hv
 clear hv
 unfold FromSays
 refine calls_of_marks Tryd.func69 rfl ?_
 simp only [Tryd.ntmps69, k2, List.size_toArray, List.length_cons, List.length_nil, Nat.reduceAdd, Nat.reduceSub, Array.replicate_succ, Array.replicate_zero, List.push_toArray, List.append_toArray, List.nil_append, List.cons_append]
 go_wp2
 go_step3
 go_wp2_with (go_at_call 58; refine (lies_any _ _ _ _).mono ?_; rintro e w' ⟨rfl, ⟨nd, rfl⟩⟩)
 refine (isFine_c _ _ _).mono ?_
 rintro e W1 ⟨rfl, hf1⟩
 have hf0 : Fr0 w W1 := Fr.trans (by repeat (first | exact Fr.refl _ _ | apply Fr.drewN | apply Fr.alloc)) hf1
 have HX : Bx W1 w.heap.size 86 #[.int .i64 off, .int .i64 metal] := Bx.fr0 (Bx.drewN (Bx.alloc (Bx.new _ _ _) _) _) hf1
 have HO : Bx W1 (w.heap.size + 1) 83 #[.int .i64 0, .int .i64 0] := Bx.fr0 (Bx.drewN (two_new _ _ _ _) _) hf1
 have HI1 := Lib.hid (HI.out.step0 hF hf0)
 have hx0 := HX.at_ 0 rfl
 have hx1 := HX.at_ 1 rfl
 have hcW1 := HI1.out.cW
 have hsM1 := HI1.out.map hF
 have HL := Lib.hid (show ∀ W', Fr0 W1 W' → (Instr.lookup 75 (.map (some c.mb)) (.agg #[.int .i64 off, .int .i64 metal]) true).run Tryd.prog W' = .ok (.tuple #[.agg #[.int .i64 0, .int .i64 0], .bool false]) W' from fun W' hW => by
  have hm2 := HMF.out.same ((hf0.trans hW).block _ HMF.out.lt (fun h => h))
  have := lookup_k2 key86 Tryd.underlying75 zero83 hm2 off metal
  rw [HV.out] at this
  exact this)
 clear hf1
 have hw0 : 0 ≤ c.way := by rcases hF.way with h | h <;> omega
 have hw2 : c.way < 2 := by rcases hF.way with h | h <;> omega
 go_wp2
 refine start_ (n := 12) (S := fun w' => w'.cell? ⟨c.bW, 0, none⟩ = some (.int .i64 c.way) ∧ w'.cell? ⟨c.bS, 4 + c.way.toNat, none⟩ = some (.map (some c.mb)) ∧ w'.cell? ⟨w.heap.size, 0, none⟩ = some (.int .i64 off) ∧ w'.cell? ⟨w.heap.size, 1, none⟩ = some (.int .i64 metal) ∧ (Instr.lookup 75 (.map (some c.mb)) (.agg #[.int .i64 off, .int .i64 metal]) true).run Tryd.prog w' = .ok (.tuple #[.agg #[.int .i64 0, .int .i64 0], .bool false]) w') (ds := [10]) (.replicate 12 false) (by kernel_rfl) rfl rfl ⟨hcW1, hsM1, hx0, hx1, (HL.out _ ((Fr.refl _ _).drew))⟩ (fun hHeld => ?_)
 refine pu 1 30 (bt 12 2) (k := ?_)
 refine tk5 0 29 (bt 12 3) hHeld (k := ?_)
 refine pu 2 31 (bt 12 7) (k := ?_)
 refine tk5 3 32 (bt 12 15) hHeld (k := ?_)
 refine tk5 4 33 (bt 12 31) hHeld (k := ?_)
 refine tk5 5 34 (bt 12 63) hHeld (k := ?_)
 refine pu 6 28 (bt 12 127) (k := ?_)
 refine pu 7 35 (bt 12 255) (k := ?_)
 refine pu 8 36 (bt 12 511) (k := ?_)
 refine oN 9 8 (bt 12 1023) (h := fun K hK => ?_)
 refine value_ (w1 := ?_) (v := ?_) (by rfl) rfl ?_ ?_
 rotate_left 2
 ·go_simp
  constructor
  ·rfl
  ·rfl
 refine hK.out _ _ ⟨((Fr.refl _ _).drew.alloc _).cell0 hcW1, ((Fr.refl _ _).drew.alloc _).cell0 hsM1, ((Fr.refl _ _).drew.alloc _).cell0 hx0, ((Fr.refl _ _).drew.alloc _).cell0 hx1, HL.out _ ((Fr.refl _ _).drew.alloc _)⟩ (fun hHeld => ?_)
 clear hK K
 refine norm_ (a' := ?_) ?_ ?_
 rotate_left
 ·show Act.put _ (some 8) _ = _
  simp only [Act.put, lA, lZ, lS, i64_w, i32_w]
  rfl
 refine last_ (i := 10) (N := none) (bt 12 2047) rfl rfl (by kernel_rfl) (by decide) (fun K hK => ?_)
 refine skip_ (w1 := ?_) (by rfl) rfl ?_ ?_
 rotate_left
 ·go_simp
  rfl
 refine hK.out _ _ ?_
 clear hK K
 refine pu 11 9 (bt 12 4095) (k := ?_)
 refine done_ (by kernel_rfl) ?_
 have HS1 := HI1.out.s0
 have lS : c.bS < W1.heap.size := World.block_lt_of_cell? W1 _ HS1
 go_wp2_with fail
 go_step3
 go_wp2_with fail
 have hBase : Base c w off metal w.heap.size (w.heap.size + 1) (W1.heap.size + 1) (-1, 1000) [] (((W1.alloc (.cells #[.int .i64 0, .int .i64 0] 83)).alloc (.cells #[.int .i64 (-1), .int .i64 1000] 83)).drew) := {
  fr := Fr.of0 (((hf0.alloc _).alloc _).drew)
  memo := HI1.out.memo.same ((((Fr.refl _ _).alloc _).alloc _).drew)
  x := Bx.drew ((HX.alloc _).alloc _)
  r := Bx.drew ((HO.alloc _).alloc _)
  o := Bx.drew (two_new _ _ _ _)
  ms := marks_nil _
  nd := List.nodup_nil
  old := fun _ h => by cases h
  bo := by have := hf0.size; omega }
 refine wp_loop_ghost_k (fun n a W => ∃ (T : Array Value) (k : Nat) (Ds : List Nat), a = ⟨T, Ds.map dmark⟩ ∧ n + k = c.tools.length ∧ T.size = 98 ∧ T.getD 2 undef = .pointer (some ⟨c.bS, 0, none⟩) ∧ T.getD 3 undef = .pointer (some ⟨c.bW, 0, none⟩) ∧ T.getD 4 undef = .pointer (some ⟨c.bR, 0, none⟩) ∧ T.getD 5 undef = .pointer (some ⟨c.bB, 0, none⟩) ∧ T.getD 6 undef = .pointer (some ⟨w.heap.size, 0, none⟩) ∧ T.getD 7 undef = .pointer (some ⟨w.heap.size + 1, 0, none⟩) ∧ T.getD 10 undef = .pointer (some ⟨W1.heap.size + 1, 0, none⟩) ∧ T.getD 42 undef = .slice c.At c.tools.length c.ct ∧ T.getD 43 undef = .int .i64 c.tools.length ∧ T.getD 44 undef = .int .i64 k ∧ Base c w off metal w.heap.size (w.heap.size + 1) (W1.heap.size + 1) ((List.range k).foldl (stool c.tools c.way (fun o m => (c.F o m).2) off metal) (-1, 1000)) Ds W) c.tools.length ⟨_, 0, [], rfl, by omega, rfl, rfl, rfl, rfl, rfl, rfl, rfl, rfl, rfl, rfl, rfl, hBase⟩ ?_
 clear hBase
 rintro n a W ⟨T, k, Ds, rfl, hn, hs, t2, t3, t4, t5, t6, t7, t10, t42, t43, t44, hB⟩ J K hJ hK
 rw [arr98 hs]
 simp only [t2, t3, t4, t5, t6, t7, t10, t42, t43, t44]
 clear t2 t3 t4 t5 t6 t7 t10 t42 t43 t44
 generalize T.getD 0 undef = x0, T.getD 1 undef = x1, T.getD 8 undef = x8, T.getD 9 undef = x9, T.getD 11 undef = x11, T.getD 12 undef = x12, T.getD 13 undef = x13, T.getD 14 undef = x14, T.getD 15 undef = x15, T.getD 16 undef = x16, T.getD 17 undef = x17, T.getD 18 undef = x18, T.getD 19 undef = x19, T.getD 20 undef = x20, T.getD 21 undef = x21, T.getD 22 undef = x22, T.getD 23 undef = x23, T.getD 24 undef = x24, T.getD 25 undef = x25, T.getD 26 undef = x26, T.getD 27 undef = x27, T.getD 28 undef = x28, T.getD 29 undef = x29, T.getD 30 undef = x30, T.getD 31 undef = x31, T.getD 32 undef = x32, T.getD 33 undef = x33, T.getD 34 undef = x34, T.getD 35 undef = x35, T.getD 36 undef = x36, T.getD 37 undef = x37, T.getD 38 undef = x38, T.getD 39 undef = x39, T.getD 40 undef = x40, T.getD 41 undef = x41, T.getD 45 undef = x45, T.getD 46 undef = x46, T.getD 47 undef = x47, T.getD 48 undef = x48, T.getD 49 undef = x49, T.getD 50 undef = x50, T.getD 51 undef = x51, T.getD 52 undef = x52, T.getD 53 undef = x53, T.getD 54 undef = x54, T.getD 55 undef = x55, T.getD 56 undef = x56, T.getD 57 undef = x57, T.getD 58 undef = x58, T.getD 59 undef = x59, T.getD 60 undef = x60, T.getD 61 undef = x61, T.getD 62 undef = x62, T.getD 63 undef = x63, T.getD 64 undef = x64, T.getD 65 undef = x65, T.getD 66 undef = x66, T.getD 67 undef = x67, T.getD 68 undef = x68, T.getD 69 undef = x69, T.getD 70 undef = x70, T.getD 71 undef = x71, T.getD 72 undef = x72, T.getD 73 undef = x73, T.getD 74 undef = x74, T.getD 75 undef = x75, T.getD 76 undef = x76, T.getD 77 undef = x77, T.getD 78 undef = x78, T.getD 79 undef = x79, T.getD 80 undef = x80, T.getD 81 undef = x81, T.getD 82 undef = x82, T.getD 83 undef = x83, T.getD 84 undef = x84, T.getD 85 undef = x85, T.getD 86 undef = x86, T.getD 87 undef = x87, T.getD 88 undef = x88, T.getD 89 undef = x89, T.getD 90 undef = x90, T.getD 91 undef = x91, T.getD 92 undef = x92, T.getD 93 undef = x93, T.getD 94 undef = x94, T.getD 95 undef = x95, T.getD 96 undef = x96, T.getD 97 undef = x97
 clear hs T
 clear hcF lF hx0 hx1 hcW1 hsM1 HL HS1 lS
 have HIW := Lib.hid (HI.out.step hF hB.fr hB.memo)
 have HB := Lib.hid hB
 have hx0 := hB.x.at_ 0 rfl
 have hx1 := hB.x.at_ 1 rfl
 have ho0 := hB.o.at_ 0 rfl
 have ho1 := hB.o.at_ 1 rfl
 have lO := hB.o.lt
 have hcW := HIW.out.cW
 clear hB
 by_cases hk : k = c.tools.length
 ·subst hk
  have hlt : ¬ ((c.tools.length : Int) < c.tools.length) := by omega
  clear hK hJ
  go_wp2
  have hcS := HIW.out.map hF
  obtain ⟨f', hmf', hfv'⟩ := HIW.out.memo
  obtain ⟨o, hoc, hom, hru, hmfu⟩ := update_k2 key86 Tryd.underlying75 (show MapFn W.drew c.mb f' from hmf') off metal (.agg #[.int .i64 ((List.range c.tools.length).foldl (stool c.tools c.way (fun o m => (c.F o m).2) off metal) (-1, 1000)).1, .int .i64 ((List.range c.tools.length).foldl (stool c.tools c.way (fun o m => (c.F o m).2) off metal) (-1, 1000)).2])
  have HU := Lib.hid hmfu
  have HFV := Lib.hid hfv'
  clear hmfu hfv' hmf'
  generalize hres : (List.range c.tools.length).foldl (stool c.tools c.way (fun o m => (c.F o m).2) off metal) (-1, 1000) = res at *
  obtain ⟨R1, R2⟩ := res
  have HRES := Lib.hid hres
  clear hres
  simp only [k2] at hru ho0 ho1
  refine start_ (n := 7) (S := fun w' => w'.cell? ⟨c.bW, 0, none⟩ = some (.int .i64 c.way) ∧ w'.cell? ⟨c.bS, 4 + c.way.toNat, none⟩ = some (.map (some c.mb)) ∧ w'.cell? ⟨w.heap.size, 0, none⟩ = some (.int .i64 off) ∧ w'.cell? ⟨w.heap.size, 1, none⟩ = some (.int .i64 metal) ∧ w'.cell? ⟨W1.heap.size + 1, 0, none⟩ = some (.int .i64 R1) ∧ w'.cell? ⟨W1.heap.size + 1, 1, none⟩ = some (.int .i64 R2)) (ds := [6]) (.replicate 7 false) (by kernel_rfl) rfl rfl ⟨hcW, hcS, hx0, hx1, ho0, ho1⟩ (fun hHeld => ?_)
  refine pu 1 92 (bt 7 2) (k := ?_)
  refine tk6 0 91 (bt 7 3) hHeld (k := ?_)
  refine pu 2 93 (bt 7 7) (k := ?_)
  refine tk6 3 94 (bt 7 15) hHeld (k := ?_)
  refine tk6 4 95 (bt 7 31) hHeld (k := ?_)
  refine tk6 5 96 (bt 7 63) hHeld (k := ?_)
  refine last_ (i := 6) (N := none) (bt 7 127) rfl rfl (by kernel_rfl) (by decide) (fun K hK => ?_)
  refine skip_ (w1 := ?_) (by rfl) rfl ?_ ?_
  rotate_left
  ·go_simp
   rfl
  refine hK.out _ _ ?_
  clear hK K
  refine done_ (by kernel_rfl) ?_
  have hmb := HIW.out.memo
  obtain ⟨f'', hmf'', _⟩ := hmb
  obtain ⟨es', ck', hmo⟩ := hmf''.obj
  have hP : Fr (· = c.mb) W (W.drew.putObj c.mb o) := Fr.putObj (S := (· = c.mb)) (Fr.refl _ _).drew (.inl rfl) _
  have HO2 := HB.out.o.fr hP (HB.out.o.not_map hmo)
  have HR2 := HB.out.r.fr hP (HB.out.r.not_map hmo)
  have hz0 := HR2.frz 0
  have hz1 := HR2.frz 1
  have hr0 := HR2.at_ 0 rfl
  have hr1 := HR2.at_ 1 rfl
  have hp0 := HO2.at_ 0 rfl
  have hp1 := HO2.at_ 1 rfl
  have hlr := HR2.lt
  have hndr := marks_bx HB.out.ms HB.out.r
  have hndm := marks_map HB.out.ms hmo
  have hrm : c.mb ≠ w.heap.size + 1 := fun e => HB.out.r.not_map hmo e.symm
  have HNR := Lib.hid hndr
  have HNM := Lib.hid hndm
  have HRM := Lib.hid hrm
  clear hmf'' hmo hndr hndm hrm
  go_wp2
  have hndr := HNR.out
  have hndm := HNM.out
  have hrm := HRM.out
  refine ret_marks (foundV (R1, R2)) Ds ?_ HB.out.nd ?_ ⟨?_, ?_, ?_⟩
  ·refine marks_fr HB.out.ms (S := fun k => k = c.mb ∨ k = w.heap.size + 1) ((((Fr.refl _ _).drew.putObj (.inl (.inl rfl)) _).setCell (.inl (.inr rfl)) _).setCell (.inl (.inr rfl)) _) ?_
   intro D hD hS
   rcases hS with h | h
   ·exact hndm D hD h
   ·exact hndr D hD h
  ·refine res69 rfl (g := w.heap.size + 1) ?_
   exact (shut_heap Ds (fun h => hndr _ h rfl)).trans (by have h := (HR2.set_ 0 (.int .i64 R1)).set_ 1 (.int .i64 R2); simp at h; exact h)
  ·unfold Cfg.F
   rw [strk_eq hF.sound _ _ _ _ _ h0, if_neg (by simpa using hl), if_neg hfi]
   exact congrArg _ (congrArg foundV HRES.out.symm)
  ·refine shut_fr _ Ds (Fr.setCell (Fr.setCell ((HB.out.fr.drew).putObj (.inl rfl) _) (.inr (by simp)) _) (.inr (by simp)) _) (fun D hD => .inr (HB.out.old D hD))
  ·refine ⟨_, HU.out.same ((shut_heap Ds (fun h => hndm _ h rfl)).trans ?_), ?_⟩
   ·exact (Below.heap_setCell _ _ _ _ hrm).trans (Below.heap_setCell _ _ _ _ hrm)
   ·intro a b v hv
    split at hv
    ·rename_i hab
     obtain ⟨rfl, rfl⟩ := hab
     cases hv
     unfold Cfg.F
     rw [strk_eq hF.sound _ _ _ _ _ h0, if_neg (by simpa using hl), if_neg hfi]
     exact congrArg foundV HRES.out.symm
    ·exact HFV.out _ _ _ hv
 ·have hk' : k < c.tools.length := by omega
  have hlt : (k : Int) < c.tools.length := by omega
  obtain ⟨ad, hat, hq0, hq1, hq2⟩ := k57_at (Kd.C_below hF.rows HIW.out.base) k hk'
  have hcost := hF.sound.cost k hk'
  have hmove := hF.sound.move k hk'
  have hsW := HIW.out.s0
  have hS1 := HIW.out.s1
  have hS2 := HIW.out.s2
  have hS3 := HIW.out.s3
  have hS4 := HIW.out.s4
  have hS5 := HIW.out.s5
  rw [hat] at hsW
  simp only [hat]
  generalize hT : c.tools.getD k z57 = t at *
  have HT := Lib.hid hT
  have HCOST := Lib.hid hcost
  have HMOVE := Lib.hid hmove
  have lX := HB.out.x.lt
  have lS : c.bS < W.heap.size := World.block_lt_of_cell? W _ hsW
  have hlen := hF.sound.len
  clear hT hcost hmove
  by_cases hm : metal < t.f1
  ·go_wp2_with fail
   refine Handed.intro (n - 1) (by omega) (hJ _ _ _ ⟨_, k + 1, Ds, rfl, by omega, rfl, rfl, rfl, rfl, rfl, rfl, rfl, rfl, ?_, rfl, rfl, ?_⟩)
   ·exact congrArg (fun a => Value.slice a c.tools.length c.ct) hat.symm
   ·refine (Base.keep0 ?_ ((Fr.refl _ _).alloc _))
    rw [List.range_succ, List.foldl_append]
    have hs : ∀ o, stool c.tools c.way (fun o m => (c.F o m).2) off metal o k = o := fun o => by unfold stool; rw [HT.out, if_pos hm]
    simp only [List.foldl_cons, List.foldl_nil, hs]
    exact HB.out
  ·have lS1 : c.bS < W.heap.size + 1 := by omega
   have lS2 : c.bS < W.heap.size + 1 + 1 := by omega
   have lX1 : w.heap.size < W.heap.size + 1 := by omega
   have lX2 : w.heap.size < W.heap.size + 1 + 1 := by omega
   go_wp2_with (go_at_call 70; refine (leads_any (.slice (some ad) c.tools.length c.ct) c.kv (some c.m0) (some c.m1) c.lo c.hi k off _ rfl).mono ?_; rintro e w' ⟨rfl, rfl⟩)
   have HK := Lib.hid hK
   have HJ := Lib.hid hJ
   clear hK hJ
   clear hx0 hx1 ho0 ho1 hcW hsW hS1 hS2 hS3 hS4 hS5 hq0 hq1 hq2 lS lS1 lS2 lX lX1 lX2
   try simp only [World.size_alloc]
   generalize hW5 : World.alloc _ _ = W5
   have hf5 : Fr0 W W5 := by rw [← hW5]; exact (((((Fr.refl _ _).alloc _).alloc _).alloc _).alloc _).alloc _ |>.alloc _
   have hz5 : W5.heap.size = W.heap.size + 6 := by rw [← hW5]; simp
   have BT : Bx W5 W.heap.size 57 #[.int .i64 t.f0.f0, .int .i64 t.f0.f1, .int .i64 t.f1] := by rw [← hW5]; exact ((((Bx.new _ _ _).alloc _).alloc _).alloc _).alloc _ |>.alloc _
   have BA : Bx W5 (W.heap.size + 1) 3 #[.int .i64 0] := by rw [← hW5]; exact (((two_new _ _ _ _).alloc _).alloc _).alloc _ |>.alloc _
   have BF : Bx W5 (W.heap.size + 1 + 1) 4 #[.bool true] := by rw [← hW5]; exact ((Bx.of_new (by simp)).alloc _).alloc _ |>.alloc _
   have BL0 : Bx W5 (W.heap.size + 1 + 1 + 1) 78 (shopC (.slice (some ad) c.tools.length c.ct) c.lo c.hi c.kv (some c.m0) (some c.m1)) := by rw [← hW5]; exact ((Bx.of_new (by simp)).alloc _).alloc _
   have BL1 : Bx W5 (W.heap.size + 1 + 1 + 1 + 1) 3 #[.int .i64 k] := by rw [← hW5]; exact (Bx.of_new (by simp)).alloc _
   have BL2 : Bx W5 (W.heap.size + 1 + 1 + 1 + 1 + 1) 3 #[.int .i64 off] := by rw [← hW5]; exact Bx.of_new (by simp)
   clear hW5
   have hbel := HIW.out.base.trans (hf5.below HIW.out.base.size (fun _ _ h => h))
   have hmlt := HIW.out.memo.lt
   have hit := leads_iter c.w0 c.At c.ct c.tools c.lo c.hi c.kv (some c.m0) (some c.m1) k off (W.heap.size + 1 + 1 + 1) hk' hF.ct (by rw [HT.out]; exact HMOVE.out.1) (by rw [HT.out]; exact HMOVE.out.2.1) (by rw [HT.out]; exact HMOVE.out.2.2) (by omega) (by omega)
   rw [HT.out] at hit
   refine wpIn_wide.1 (range_top (g := .tmp 58) (by rfl) (fun args w => by kernel_rfl) hit (fun _ => rfl) (fun g => g = c.mb ∨ g = W.heap.size + 1 ∨ g = W.heap.size + 1 + 1) ?hS ?hN
    (fun pre W' => Rd c w off metal w.heap.size (w.heap.size + 1) (W1.heap.size + 1) ((List.range k).foldl (stool c.tools c.way (fun o m => (c.F o m).2) off metal) (-1, 1000)) Ds t W.heap.size (pre.foldl (fun st o => stp c.way st (c.F o (metal - t.f1)).2) (0, true)) W')
    (fun _ _ _ => False) ?hJ (fun _ _ _ _ h _ => h) ?h0 ?hround ?hdone (fun _ _ _ h => h.elim))
   case hS => rintro g (rfl | rfl | rfl) <;> omega
   case hN =>
    intro W6 S' h56 hS'
    have h06 := hf5.trans h56
    refine ⟨hbel.trans (h56.below hbel.size (fun _ _ h => h)), hF.rows, ?_, ?_, ?_, ?_⟩
    ·exact (BL0.fr0 h56).at_ 0 (by rw [hat]; rfl)
    ·exact (BL1.fr0 h56).at_ 0 rfl
    ·exact (BL2.fr0 h56).at_ 0 rfl
    ·intro g hg
     have hb := HIW.out.base.size
     have ho := hF.old
     rcases hS' g hg with (rfl | rfl | rfl) | h
     ·omega
     ·omega
     ·omega
     ·omega
   case hJ => exact fun pre A B h hf => h.keep (by omega) (by omega) hf
   case h0 =>
    intro W6 h56
    exact ⟨HB.out.keep0 (hf5.trans h56), BT.fr0 h56, BA.fr0 h56, BF.fr0 h56, by simp, by simp, by have := HB.out.fr.size; omega, ⟨HB.out.x.lt, HB.out.r.lt, HB.out.o.lt⟩, fun D hD => (Array.getElem?_eq_some_iff.1 (HB.out.ms D hD)).1⟩
   case hdone =>
    intro W6 hR hD
    have HR := Lib.hid hR
    clear hR
    have HI6 := Lib.hid (HI.out.step hF HR.out.b.fr HR.out.b.memo)
    have HLT := Lib.hid (show leadsTo c.way (fun o m => (c.F o m).2) t off metal = _ from rfl)
    generalize hst : (List.map (fun i : Nat => off + (t.f0.f0 + i)) (List.range (t.f0.f1 - t.f0.f0 + 1).toNat)).foldl (fun st o => stp c.way st (c.F o (metal - t.f1)).2) (0, true) = st at *
    have HST := Lib.hid (show leadsTo c.way (fun o m => (c.F o m).2) t off metal = st.1 from by rw [← hst]; rfl)
    clear hst HLT
    obtain ⟨A, fl⟩ := st
    generalize hout : (List.range k).foldl (stool c.tools c.way (fun o m => (c.F o m).2) off metal) (-1, 1000) = out at *
    have HOUT := Lib.hid hout
    clear hout
    obtain ⟨o0, o1⟩ := out
    have ha := HR.out.a.at_ 0 rfl
    have ho0 := HR.out.b.o.at_ 0 rfl
    have ho1 := HR.out.b.o.at_ 1 rfl
    have hcB := HI6.out.cB
    have hzo0 := HR.out.b.o.frz 0
    have hzo1 := HR.out.b.o.frz 1
    have lo := HR.out.b.o.lt
    have lB := World.block_lt_of_cell? W6 _ hcB
    have hp0 := HR.out.p0
    have hp1 := HR.out.p1
    rw [hz5] at hD
    have HD := Lib.hid hD
    clear hD
    dsimp only at ha ho0 ho1 hp0 hp1 lB
    have hJ := HJ.out
    have hK := HK.out
    have hDs : ∀ E ∈ Ds, E < W.heap.size + 6 := fun E hE => by have := HR.out.nD E hE; omega
    have hxo : w.heap.size ≠ W1.heap.size + 1 := by have := HX.lt; omega
    have hro : w.heap.size + 1 ≠ W1.heap.size + 1 := by have := HX.lt; omega
    by_cases hbet : min 1000 (A + 1) < o1
    ·go_wp2_with (go_at_call 74; refine (better_any _ _ _ _ _).mono ?_; rintro e W7 ⟨rfl, hfb⟩; have HFB := Bx.fr0 (Bx.new W6 _ _) hfb; have hq0 := HFB.at_ 0 rfl; have hq1 := HFB.at_ 1 rfl; have HO7 := Bx.fr0 (Bx.alloc HR.out.b.o _) hfb; have hz0 := HO7.frz 0; have hz1 := HO7.frz 1; have hy0 := HO7.at_ 0 rfl; have hy1 := HO7.at_ 1 rfl)
     all_goals refine Handed.intro (n - 1) (by omega) (hJ _ _ _ ⟨_, k + 1, (W.heap.size + 6) :: Ds, rfl, by omega, rfl, rfl, rfl, rfl, rfl, rfl, rfl, rfl, ?_, rfl, rfl, ?_⟩)
     all_goals first
      | exact congrArg (fun a => Value.slice a c.tools.length c.ct) hat.symm
      | (rw [List.range_succ, List.foldl_append, HOUT.out]; simp only [List.foldl_cons, List.foldl_nil]; refine Base.of_eq (Base.set_o (Base.keep0 (Base.push HR.out.b HD.out hDs (by have := HR.out.gb; omega)) (Fr0.trans ((Fr.refl _ _).alloc _) hfb)) hxo hro _ _) ?_; unfold stool; rw [HT.out, if_neg (by omega), HST.out, if_pos (by dsimp only; omega)]; refine congrArg (Prod.mk _) ?_; omega)
    ·go_wp2_with (go_at_call 74; refine (better_any _ _ _ _ _).mono ?_; rintro e W7 ⟨rfl, hfb⟩; have HFB := Bx.fr0 (Bx.new W6 _ _) hfb; have hq0 := HFB.at_ 0 rfl; have hq1 := HFB.at_ 1 rfl; have HO7 := Bx.fr0 (Bx.alloc HR.out.b.o _) hfb; have hz0 := HO7.frz 0; have hz1 := HO7.frz 1; have hy0 := HO7.at_ 0 rfl; have hy1 := HO7.at_ 1 rfl)
     all_goals refine Handed.intro (n - 1) (by omega) (hJ _ _ _ ⟨_, k + 1, (W.heap.size + 6) :: Ds, rfl, by omega, rfl, rfl, rfl, rfl, rfl, rfl, rfl, rfl, ?_, rfl, rfl, ?_⟩)
     all_goals first
      | exact congrArg (fun a => Value.slice a c.tools.length c.ct) hat.symm
      | (rw [List.range_succ, List.foldl_append, HOUT.out]; simp only [List.foldl_cons, List.foldl_nil]; refine Base.of_eq (Base.keep0 (Base.push HR.out.b HD.out hDs (by have := HR.out.gb; omega)) (Fr0.trans ((Fr.refl _ _).alloc _) hfb)) ?_; unfold stool; rw [HT.out, if_neg (by omega), HST.out, if_neg (by dsimp only; omega)]
       )
   case hround =>
    rintro pre x rest W6 hx hR ⟨r, hl⟩
    simp only [List.zip_toArray, List.zip_cons_cons, List.zip_nil_right, List.foldl_toArray', List.foldl_cons, List.foldl_nil, lA, lZ, lS]
    have HX := Lib.hid (show x ∈ moves t off from by unfold moves; rw [hx]; simp)
    clear hl hx
    have HR := Lib.hid hR
    clear hR
    gi_wp2
    refine ⟨Fr.refl _ _, fun W7 h67 hl7 => ?_⟩
    clear hl7
    have HR7 := Lib.hid (HR.out.keep (by omega) (by omega) h67)
    clear h67
    have HI7 := Lib.hid (HI.out.step hF HR7.out.b.fr HR7.out.b.memo)
    have hxb := mem_moves HX.out
    have hM := HMOVE.out
    have hC := HCOST.out
    have hx1 := HR7.out.b.x.at_ 1 rfl
    have ht2 := HR7.out.t.at_ 2 rfl
    have hcR := HI7.out.cR
    have hih := IH.out x (metal - t.f1) W7 (by omega) (by omega) (by omega) (by omega) HI7.out
    unfold FromSays at hih
    have hFb := F_bnd c x (metal - t.f1)
    generalize hFF : c.F x (metal - t.f1) = FF at *
    obtain ⟨F1, F2⟩ := FF
    simp only [foundV] at hih
    have HFF := Lib.hid hFF
    have HIH := Lib.hid hih
    clear hFF hih
    have HXB := Lib.hid hxb
    clear hxb
    dsimp only at hFb
    gi_wp2
    refine ⟨trivial, rfl, CallsIn.mono (CallsIn.inRound _ (callsIn_wide.2 HIH.out)) ?_⟩
    rintro e W8 ⟨rfl, hf8, hm8⟩
    have hfd : ∀ w' : World, (Instr.field 83 (.agg #[.int .i64 F1, .int .i64 F2]) 1).run Tryd.prog w' = .ok (.int .i64 F2) w' := fun _ => by kernel_rfl
    have HR8 := Lib.hid (HR7.out.keepM hf8 hm8)
    have ha0 := HR8.out.a.at_ 0 rfl
    have hf0 := HR8.out.f.at_ 0 rfl
    have hza := HR8.out.a.frz 0
    have hzf := HR8.out.f.frz 0
    generalize hst : pre.foldl (fun st o => stp c.way st (c.F o (metal - t.f1)).2) (0, true) = st at *
    have HST := Lib.hid hst
    clear hst hm8
    obtain ⟨A, fl⟩ := st
    cases fl
    ·gi_wp2
     refine wpIn_gen (fun W9 => Rd c w off metal w.heap.size (w.heap.size + 1) (W1.heap.size + 1) ((List.range k).foldl (stool c.tools c.way (fun o m => (c.F o m).2) off metal) (-1, 1000)) Ds t W.heap.size (A, false) W9 ∧ Fr (fun g => g = c.mb ∨ g = W.heap.size + 1 ∨ g = W.heap.size + 1 + 1) W7 W9) ⟨HR8.out, Fr.wide hf8 (fun k _ e => .inl e)⟩ (fun W9 ⟨hR9, hf9⟩ => ?_)
     have HR9 := Lib.hid hR9
     clear hR9
     have HI9 := Lib.hid (HI.out.step hF HR9.out.b.fr HR9.out.b.memo)
     have hcW := HI9.out.cW
     have hS0 := HI9.out.s0
     have hS1 := HI9.out.s1
     have hS2 := HI9.out.s2
     have hS3 := HI9.out.s3
     have hS4 := HI9.out.s4
     have hS5 := HI9.out.s5
     have hg := HI9.out.gfn hF
     have ha := HR9.out.a.at_ 0 rfl
     have hbA : 0 ≤ A ∧ A ≤ 1000 := ⟨HR9.out.p0, HR9.out.p1⟩
     refine start_round (n := 8) (S := fun w' => w'.cell? ⟨c.bW, 0, none⟩ = some (.int .i64 c.way) ∧ w'.cell? ⟨0, c.way.toNat, none⟩ = some (.func (.func c.fn) #[] #[]) ∧ w'.cell? ⟨c.bS, 0, none⟩ = some (.slice c.At c.tools.length c.ct) ∧ w'.cell? ⟨c.bS, 1, none⟩ = some (.int .i64 c.lo) ∧ w'.cell? ⟨c.bS, 2, none⟩ = some (.int .i64 c.hi) ∧ w'.cell? ⟨c.bS, 3, none⟩ = some c.kv ∧ w'.cell? ⟨c.bS, 4, none⟩ = some (.map (some c.m0)) ∧ w'.cell? ⟨c.bS, 5, none⟩ = some (.map (some c.m1)) ∧ w'.cell? ⟨W.heap.size + 1, 0, none⟩ = some (.int .i64 A)) (ds := [7]) (.replicate 8 false) (by kernel_rfl) (by kernel_rfl) rfl rfl ⟨hcW, hg, hS0, hS1, hS2, hS3, hS4, hS5, ha⟩ (fun hHeld => ?_)
     refine pu 5 77 (bt 8 32) (k := ?_)
     refine tk9 0 72 (bt 8 33) hHeld (k := ?_)
     refine pu 1 73 (bt 8 35) (k := ?_)
     refine tk9 2 74 (bt 8 39) hHeld (k := ?_)
     refine tk9 3 75 (bt 8 47) hHeld (k := ?_)
     refine tk9 4 76 (bt 8 63) hHeld (k := ?_)
     refine oN 6 78 (bt 8 127) (h := fun K hK => ?_)
     refine call_ c.fn #[c.sh, .int .i64 A, .int .i64 F2] (by rfl) rfl ?_ ?_
     ·unfold execOp
      simp [resolve, Deferred.ofValue, invoke, Act.eval, enters_fn]
      simp [Cfg.sh, hat]
     refine (counts_any c hF A F2 W9.drew hbA.1 hbA.2 hFb.1 hFb.2).mono ?_
     rintro e w3 ⟨rfl, hf3⟩
     have HW3 := Lib.hid (Fr0.trans (Fr.drew (Fr.refl _ W9)) hf3)
     have hz3 := (HR9.out.a.fr0 HW3.out).frz 0
     refine ⟨_, rfl, ?_⟩
     refine hK.out _ _ ⟨(HW3.out.cell0 hcW), (HW3.out.cell0 hg), (HW3.out.cell0 hS0), (HW3.out.cell0 hS1), (HW3.out.cell0 hS2), (HW3.out.cell0 hS3), (HW3.out.cell0 hS4), (HW3.out.cell0 hS5), (HW3.out.cell0 ha)⟩ (fun hHeld => ?_)
     clear hK K
     refine norm_ (a' := ?_) ?_ ?_
     rotate_left
     ·show Act.put _ (some 78) _ = _
      simp only [Act.put, lA, lZ, lS, i64_w, i32_w]
      rfl
     refine last_ (i := 7) (N := none) (bt 8 255) rfl rfl (by kernel_rfl) (by decide) (fun K hK => ?_)
     refine skip_ (w1 := ?_) (by rfl) rfl ?_ ?_
     rotate_left
     ·go_simp
      rfl
     refine hK.out _ _ ?_
     clear hK K
     refine done_ (by kernel_rfl) ?_
     refine (⟨(hf9.step0 HW3.out).setCell (p := ⟨W.heap.size + 1, 0, none⟩) (.inl (.inr (.inl rfl))) _, ?_⟩ : _ ∧ _)
     have hcb := cnt_bnd (way := c.way) hbA.1 hbA.2 hFb.1 hFb.2
     have hres := (HR9.out.keep0 HW3.out).set_a (cnt c.way A F2) hcb.1 hcb.2
     dsimp only
     rw [List.foldl_append]
     simp only [List.foldl_cons, List.foldl_nil]
     rw [HST.out, HFF.out]
     simp only [stp, Bool.false_eq_true, if_false, if_true]
     exact hres
    ·gi_wp2
     refine wpIn_gen (fun W9 => Rd c w off metal w.heap.size (w.heap.size + 1) (W1.heap.size + 1) ((List.range k).foldl (stool c.tools c.way (fun o m => (c.F o m).2) off metal) (-1, 1000)) Ds t W.heap.size (F2, false) W9 ∧ Fr (fun g => g = c.mb ∨ g = W.heap.size + 1 ∨ g = W.heap.size + 1 + 1) W7 W9) ⟨((HR8.out.set_a F2 hFb.1 hFb.2).set_f false), Fr.setCell (Fr.setCell (Fr.wide hf8 (fun k _ e => .inl e)) (.inl (.inr (.inl rfl))) _) (.inl (.inr (.inr rfl))) _⟩ (fun W9 ⟨hR9, hf9⟩ => ?_)
     have HR9 := Lib.hid hR9
     clear hR9
     have HI9 := Lib.hid (HI.out.step hF HR9.out.b.fr HR9.out.b.memo)
     have hcW := HI9.out.cW
     have hS0 := HI9.out.s0
     have hS1 := HI9.out.s1
     have hS2 := HI9.out.s2
     have hS3 := HI9.out.s3
     have hS4 := HI9.out.s4
     have hS5 := HI9.out.s5
     have hg := HI9.out.gfn hF
     have ha := HR9.out.a.at_ 0 rfl
     have hbA : 0 ≤ F2 ∧ F2 ≤ 1000 := ⟨HR9.out.p0, HR9.out.p1⟩
     refine start_round (n := 8) (S := fun w' => w'.cell? ⟨c.bW, 0, none⟩ = some (.int .i64 c.way) ∧ w'.cell? ⟨0, c.way.toNat, none⟩ = some (.func (.func c.fn) #[] #[]) ∧ w'.cell? ⟨c.bS, 0, none⟩ = some (.slice c.At c.tools.length c.ct) ∧ w'.cell? ⟨c.bS, 1, none⟩ = some (.int .i64 c.lo) ∧ w'.cell? ⟨c.bS, 2, none⟩ = some (.int .i64 c.hi) ∧ w'.cell? ⟨c.bS, 3, none⟩ = some c.kv ∧ w'.cell? ⟨c.bS, 4, none⟩ = some (.map (some c.m0)) ∧ w'.cell? ⟨c.bS, 5, none⟩ = some (.map (some c.m1)) ∧ w'.cell? ⟨W.heap.size + 1, 0, none⟩ = some (.int .i64 F2)) (ds := [7]) (.replicate 8 false) (by kernel_rfl) (by kernel_rfl) rfl rfl ⟨hcW, hg, hS0, hS1, hS2, hS3, hS4, hS5, ha⟩ (fun hHeld => ?_)
     refine pu 5 77 (bt 8 32) (k := ?_)
     refine tk9 0 72 (bt 8 33) hHeld (k := ?_)
     refine pu 1 73 (bt 8 35) (k := ?_)
     refine tk9 2 74 (bt 8 39) hHeld (k := ?_)
     refine tk9 3 75 (bt 8 47) hHeld (k := ?_)
     refine tk9 4 76 (bt 8 63) hHeld (k := ?_)
     refine oN 6 78 (bt 8 127) (h := fun K hK => ?_)
     refine call_ c.fn #[c.sh, .int .i64 F2, .int .i64 F2] (by rfl) rfl ?_ ?_
     ·unfold execOp
      simp [resolve, Deferred.ofValue, invoke, Act.eval, enters_fn]
      simp [Cfg.sh, hat]
     refine (counts_any c hF F2 F2 W9.drew hbA.1 hbA.2 hFb.1 hFb.2).mono ?_
     rintro e w3 ⟨rfl, hf3⟩
     have HW3 := Lib.hid (Fr0.trans (Fr.drew (Fr.refl _ W9)) hf3)
     have hz3 := (HR9.out.a.fr0 HW3.out).frz 0
     refine ⟨_, rfl, ?_⟩
     refine hK.out _ _ ⟨(HW3.out.cell0 hcW), (HW3.out.cell0 hg), (HW3.out.cell0 hS0), (HW3.out.cell0 hS1), (HW3.out.cell0 hS2), (HW3.out.cell0 hS3), (HW3.out.cell0 hS4), (HW3.out.cell0 hS5), (HW3.out.cell0 ha)⟩ (fun hHeld => ?_)
     clear hK K
     refine norm_ (a' := ?_) ?_ ?_
     rotate_left
     ·show Act.put _ (some 78) _ = _
      simp only [Act.put, lA, lZ, lS, i64_w, i32_w]
      rfl
     refine last_ (i := 7) (N := none) (bt 8 255) rfl rfl (by kernel_rfl) (by decide) (fun K hK => ?_)
     refine skip_ (w1 := ?_) (by rfl) rfl ?_ ?_
     rotate_left
     ·go_simp
      rfl
     refine hK.out _ _ ?_
     clear hK K
     refine done_ (by kernel_rfl) ?_
     refine (⟨(hf9.step0 HW3.out).setCell (p := ⟨W.heap.size + 1, 0, none⟩) (.inl (.inr (.inl rfl))) _, ?_⟩ : _ ∧ _)
     have hcb := cnt_bnd (way := c.way) hbA.1 hbA.2 hFb.1 hFb.2
     have hres := (HR9.out.keep0 HW3.out).set_a (cnt c.way F2 F2) hcb.1 hcb.2
     dsimp only
     rw [List.foldl_append]
     simp only [List.foldl_cons, List.foldl_nil]
     rw [HST.out, HFF.out]
     simp only [stp, Bool.false_eq_true, if_false, if_true]
     exact hres
end Go.Proofs.YtfmpbkolpjlfbaaDoor.R
namespace Go.Proofs.YtfmpbkolpjlfbaaDoor.R
open Go.RowKit Go.Shelf Go.Proofs.YtfmpbkolpjlfbaaDoorW.PrintWords Go.Proofs.YtfmpbkolpjlfbaaDoorW.PrintLast Go.Proofs.YtfmpbkolpjlfbaaDoor.PRaspKeys Go.Proofs.YtfmpbkolpjlfbaaDoor.X Go.Proofs.YtfmpbkolpjlfbaaDoor.M
attribute [local go_sem] Oper.semAt_some
theorem from_any (c : Cfg) (hF : Fix c) : ∀ (n : Nat) (off metal : Int) (w : World), 0 ≤ metal → metal ≤ 1000 → metal < n → -500 ≤ off → off ≤ 500 → Inv c w → FromSays c off metal w
 | 0, _, _, _, h0, _, h1, _, _, _ => by omega
 | n + 1, off, metal, w, h0, hm, h1, ho, ho', hI => by
  by_cases hl : -60 ≤ off ∧ off ≤ 60
  ·by_cases hf : c.lo ≤ off ∧ off ≤ c.hi
   ·exact from_fine c hF off metal w h0 hl hf hI
   ·obtain ⟨f, hmf, hv⟩ := hI.memo
    cases hfo : f off metal with
    | none => exact from_miss c hF off metal w h0 hm hl hf hI f hmf hfo (fun off' metal' w' h0' hlt ha hb hI' => from_any c hF n off' metal' w' h0' (by omega) (by omega) ha hb hI')
    | some v => exact from_hit c hF off metal w hl hf hI f hmf (by rw [hfo, hv _ _ _ hfo])
  ·exact from_out c hF off metal w h0 hl hI
/-- What holds of a shop that was opened. -/
structure Sop (c : Cfg) (w : World) : Prop where
 base : Below c.w0.heap.size c.w0 w
 mem0 : Memo { c with way := 0 } w
 mem1 : Memo { c with way := 1 } w
 ne : c.m0 ≠ c.m1
 g0 : w.cell? ⟨0, 0, none⟩ = some (.func (.func 92) #[] #[])
 g1 : w.cell? ⟨0, 1, none⟩ = some (.func (.func 93) #[] #[])
theorem Sop.memo {c : Cfg} {w : World} (h : Sop c w) (hF : Fix c) : Memo c w := by
 rcases hF.way with hw | hw
 ·have := h.mem0; rw [← hw] at this; exact this
 ·have := h.mem1; rw [← hw] at this; exact this
theorem Sop.step {c : Cfg} {w w' : World} (h : Sop c w) (hF : Fix c) (hf : Fr (· = c.mb) w w') (hm : Memo c w') : Sop c w' := by
 obtain ⟨f, hmf, _⟩ := h.memo hF
 obtain ⟨es, k, ho⟩ := hmf.obj
 have keep : ∀ way', (Cfg.mb { c with way := way' }) ≠ c.mb → Memo { c with way := way' } w → Memo { c with way := way' } w' := by
  rintro way' hne ⟨g, hg, hv⟩
  exact ⟨g, hg.same (hf.block _ hg.lt hne), hv⟩
 refine ⟨h.base.trans (hf.below h.base.size (fun k hk e => by have := hF.old; omega)), ?_, ?_, h.ne, hf.cellM ho h.g0, hf.cellM ho h.g1⟩
 ·rcases hF.way with hw | hw
  ·rw [← hw]; exact hm
  ·exact keep 0 (by simp [Cfg.mb, hw]; exact h.ne) h.mem0
 ·rcases hF.way with hw | hw
  ·exact keep 1 (by simp [Cfg.mb, hw]; exact fun e => h.ne e.symm) h.mem1
  ·rw [← hw]; exact hm
theorem Sop.step0 {c : Cfg} {w w' : World} (h : Sop c w) (hf : Fr0 w w') : Sop c w' :=
 ⟨h.base.trans (hf.below h.base.size (fun _ _ h => h)), h.mem0.same hf, h.mem1.same hf, h.ne, hf.cell0 h.g0, hf.cell0 h.g1⟩
set_option maxHeartbeats 2000000 in
set_option maxRecDepth 100000 in
theorem strokes_any (c : Cfg) (hF : Fix c) (off metal : Int) (w : World) (h : Sop c w) (h0 : 0 ≤ metal) (hm : metal ≤ 1000) (ho : -500 ≤ off) (ho' : off ≤ 500) :
  Calls Tryd.prog 53 #[c.sh, k2 off metal, .int .i64 c.way] w fun e w' => e = .returned (foundV (c.F off metal)) ∧ Fr (· = c.mb) w w' ∧ Sop c w' := by
 have HS := Lib.hid h
 clear h
 unfold Cfg.sh k2
 go_enter Tryd.func53, Tryd.ntmps53
 go_wp2_with (go_at_call 68; refine (fewer_any _).mono ?_; rintro e W1 ⟨rfl, hf1⟩; (have B0 := Bx.fr0 ((((Bx.new w 78 (shopC (.slice c.At c.tools.length c.ct) c.lo c.hi c.kv (some c.m0) (some c.m1))).alloc _).alloc _).alloc _) hf1); (have B1 := Bx.fr0 ((((Bx.of_new (w := w.alloc _) (g := w.heap.size + 1) (t := 86) (cs := #[.int .i64 off, .int .i64 metal]) (by simp))).alloc _).alloc _) hf1); (have B2 := Bx.fr0 (((Bx.of_new (w := (w.alloc _).alloc _) (g := w.heap.size + 1 + 1) (t := 3) (cs := #[.int .i64 c.way]) (by simp))).alloc _) hf1); (have B3 := Bx.fr0 (((Bx.of_new (w := ((w.alloc _).alloc _).alloc _) (g := w.heap.size + 1 + 1 + 1) (t := 83) (cs := #[.int .i64 0, .int .i64 0]) (by simp)))) hf1); (have b00 := B0.at_ 0 rfl); (have b01 := B0.at_ 1 rfl); (have b02 := B0.at_ 2 rfl); (have b03 := B0.at_ 3 rfl); (have b04 := B0.at_ 4 rfl); (have b05 := B0.at_ 5 rfl); (have b10 := B1.at_ 0 rfl); (have b11 := B1.at_ 1 rfl); (have b20 := B2.at_ 0 rfl); (have l0 := B0.lt); (have l1 := B1.lt); (have l2 := B2.lt); (have l3 := B3.lt); (have l0' := Nat.lt_succ_of_lt l0); (have l1' := Nat.lt_succ_of_lt l1); (have l1'' := Nat.lt_succ_of_lt l1'); (have l0'' := Nat.lt_succ_of_lt l0'))
 have HB0 := Lib.hid B0
 have HB1 := Lib.hid B1
 have HB2 := Lib.hid B2
 have HB3 := Lib.hid B3
 have hf0 : Fr0 w W1 := Fr.trans (by repeat (first | exact Fr.refl _ _ | apply Fr.alloc)) hf1
 clear b00 b01 b02 b03 b04 b05 b10 b11 b20 l0' l1' l0'' l1'' B0 B1 B2 B3
 generalize hWc : World.alloc _ _ = Wc
 have hfc : Fr0 W1 Wc := by rw [← hWc]; exact ((((Fr.refl _ _).alloc _).alloc _).alloc _)
 have C0 := HB0.out.fr0 hfc
 have C2 := HB2.out.fr0 hfc
 have C3 := HB3.out.fr0 hfc
 have C4 : Bx Wc W1.heap.size 104 #[.func (.func 74) #[] #[]] := by rw [← hWc]; exact (((Bx.new _ _ _).alloc _).alloc _)
 have C5 : Bx Wc (W1.heap.size + 1) 100 #[.func (.func 65) #[c.sh] #[]] := by rw [← hWc]; exact ((Bx.of_new (by simp)).alloc _)
 have C6 : Bx Wc (W1.heap.size + 1 + 1) 106 #[.func (.func 69) #[] #[.pointer (some ⟨W1.heap.size + 1, 0, none⟩), .pointer (some ⟨w.heap.size, 0, none⟩), .pointer (some ⟨w.heap.size + 1 + 1, 0, none⟩), .pointer (some ⟨W1.heap.size + 1 + 1, 0, none⟩), .pointer (some ⟨W1.heap.size, 0, none⟩)]] := by
  rw [← hWc]
  exact Bx.of_new (by simp)
 have hS := HS.out.step0 (hf0.trans hfc)
 have hI : Inv { c with bF := W1.heap.size + 1, bS := w.heap.size, bW := w.heap.size + 1 + 1, bR := W1.heap.size + 1 + 1, bB := W1.heap.size } Wc := {
  base := hS.base
  memo := hS.memo hF
  cF := C5.at_ 0 rfl
  s0 := C0.at_ 0 rfl
  s1 := C0.at_ 1 rfl
  s2 := C0.at_ 2 rfl
  s3 := C0.at_ 3 rfl
  s4 := C0.at_ 4 rfl
  s5 := C0.at_ 5 rfl
  cW := C2.at_ 0 rfl
  cR := C6.at_ 0 rfl
  cB := C4.at_ 0 rfl
  g0 := hS.g0
  g1 := hS.g1 }
 have hcall := from_any { c with bF := W1.heap.size + 1, bS := w.heap.size, bW := w.heap.size + 1 + 1, bR := W1.heap.size + 1 + 1, bB := W1.heap.size } ⟨hF.rows, hF.ct, hF.sound, hF.way, hF.kv, hF.old⟩ 1001 off metal Wc h0 hm (by omega) ho ho' hI
 unfold FromSays at hcall
 refine Calls.mono hcall ?_
 rintro e W2 ⟨he, hf2, hm2⟩
 have he : e = .returned (.agg #[.int .i64 (c.F off metal).1, .int .i64 (c.F off metal).2]) := he
 subst he
 have hmb := (hS.memo hF)
 obtain ⟨f', hmf', _⟩ := hmb
 obtain ⟨es, ck, hmo⟩ := hmf'.obj
 have D3 := C3.fr hf2 (C3.not_map hmo)
 have d0 := D3.at_ 0 rfl
 have d1 := D3.at_ 1 rfl
 have z0 := D3.frz 0
 have z1 := D3.frz 1
 have HM2 := Lib.hid (show Memo c W2 from hm2)
 have HNE := Lib.hid (show c.mb ≠ w.heap.size + 1 + 1 + 1 from fun e => C3.not_map hmo e.symm)
 have hf02 : Fr (· = c.mb) w W2 := (Fr.of0 (hf0.trans hfc)).step hf2 (fun k _ e => e)
 clear hI hcall hmf' hmo hS hWc
 go_wp2
 refine bodyPost_ret (v := foundV (c.F off metal)) ?_ rfl ⟨rfl, ?_, ?_⟩
 ·have hbx : Bx ((W2.setCell ⟨w.heap.size + 1 + 1 + 1, 0, none⟩ (.int .i64 (c.F off metal).1)).setCell ⟨w.heap.size + 1 + 1 + 1, 1, none⟩ (.int .i64 (c.F off metal).2)) (w.heap.size + 1 + 1 + 1) 83 #[.int .i64 (c.F off metal).1, .int .i64 (c.F off metal).2] := by
   have h := (D3.set_ 0 (.int .i64 (c.F off metal).1)).set_ 1 (.int .i64 (c.F off metal).2)
   simp at h
   exact h
  have e0 := hbx.at_ 0 rfl
  have e1 := hbx.at_ 1 rfl
  simp [results, Tryd.results53, go_sem, e0, e1, foundV]
 ·exact Fr.setCell (Fr.setCell hf02 (.inr (by simp; omega)) _) (.inr (by simp; omega)) _
 ·have hm3 : Memo c ((W2.setCell ⟨w.heap.size + 1 + 1 + 1, 0, none⟩ (.int .i64 (c.F off metal).1)).setCell ⟨w.heap.size + 1 + 1 + 1, 1, none⟩ (.int .i64 (c.F off metal).2)) := by
   obtain ⟨f, hf, hv⟩ := HM2.out
   exact ⟨f, hf.same ((Below.heap_setCell _ _ _ _ HNE.out).trans (Below.heap_setCell _ _ _ _ HNE.out)), hv⟩
  exact HS.out.step hF (Fr.setCell (Fr.setCell hf02 (.inr (by simp; omega)) _) (.inr (by simp; omega)) _) hm3
end Go.Proofs.YtfmpbkolpjlfbaaDoor.R
namespace Go.Proofs.YtfmpbkolpjlfbaaDoor.R
open Go.RowKit Go.Shelf Go.Proofs.YtfmpbkolpjlfbaaDoorW.PrintWords Go.Proofs.YtfmpbkolpjlfbaaDoorW.PrintLast Go.Proofs.YtfmpbkolpjlfbaaDoor.PRaspKeys Go.Proofs.YtfmpbkolpjlfbaaDoor.X Go.Proofs.YtfmpbkolpjlfbaaDoor.M
attribute [local go_sem] Oper.semAt_some
/-- The globals that count strokes. -/
structure Glob (w : World) : Prop where
 g0 : w.cell? ⟨0, 0, none⟩ = some (.func (.func 92) #[] #[])
 g1 : w.cell? ⟨0, 1, none⟩ = some (.func (.func 93) #[] #[])
theorem Glob.fr {w w' : World} (h : Glob w) (hf : Fr0 w w') : Glob w' := ⟨hf.cell0 h.g0, hf.cell0 h.g1⟩
/-- What 'opened' answers. -/
def openE (E : Int) (ok : Bool) : Int := if E ≠ 0 then E else if ok = true then 0 else 31
/-- The shop as it was opened. -/
def Cfg.of (w0 : World) (A0 : Option Addr) (c0 : Nat) (l0 : List S57) (lo hi : Int) (kv : Value) (m0 m1 : Nat) : Cfg := ⟨w0, A0, c0, l0, lo, hi, kv, m0, m1, 0, 0, 0, 0, 0, 0⟩
theorem mk75 (W : World) : (Instr.makeMap 75 none).run Tryd.prog W = .ok (.map (some W.heap.size)) (W.alloc (.map #[] 0)) := by
 unfold Instr.makeMap
 simp only [Sem.run_bind, run_underlying Tryd.underlying75, Result.andThen_ok]
 rfl
theorem shop_set {W : World} {g : Nat} {a0 a1 a2 a3 a4 a5 : Value} (h : Bx W g 78 #[a0, a1, a2, a3, a4, a5]) (b0 b1 b2 b3 b4 b5 : Value) :
  Bx ((((((W.setCell ⟨g, 0, none⟩ b0).setCell ⟨g, 1, none⟩ b1).setCell ⟨g, 2, none⟩ b2).setCell ⟨g, 3, none⟩ b3).setCell ⟨g, 4, none⟩ b4).setCell ⟨g, 5, none⟩ b5) g 78 #[b0, b1, b2, b3, b4, b5] := by
 have h := (((((h.set_ 0 b0).set_ 1 b1).set_ 2 b2).set_ 3 b3).set_ 4 b4).set_ 5 b5
 simp at h
 exact h
theorem shop_fr {S : Nat → Prop} {w W : World} {g : Nat} (h : Fr S w W) (hg : S g ∨ w.heap.size ≤ g) (b0 b1 b2 b3 b4 b5 : Value) :
  Fr S w ((((((W.setCell ⟨g, 0, none⟩ b0).setCell ⟨g, 1, none⟩ b1).setCell ⟨g, 2, none⟩ b2).setCell ⟨g, 3, none⟩ b3).setCell ⟨g, 4, none⟩ b4).setCell ⟨g, 5, none⟩ b5) :=
 (((((h.setCell hg _).setCell hg _).setCell hg _).setCell hg _).setCell hg _).setCell hg _
theorem res51 {w : World} {g : Nat} {b0 b1 b2 b3 b4 b5 E : Value} {tmps : Array Value} (h4 : tmps[4]?.getD undef = .pointer (some ⟨g, 0, none⟩)) (h5 : tmps[5]?.getD undef = E) (h : Bx w g 78 #[b0, b1, b2, b3, b4, b5]) :
  (results Tryd.f51 tmps).run Tryd.prog w = .ok (.tuple #[.agg #[b0, b1, b2, b3, b4, b5], E]) w := by
 have e0 := h.at_ 0 rfl
 have e1 := h.at_ 1 rfl
 have e2 := h.at_ 2 rfl
 have e3 := h.at_ 3 rfl
 have e4 := h.at_ 4 rfl
 have e5 := h.at_ 5 rfl
 simp only [results, Tryd.results51]
 simp [h4, h5, go_sem, e0, e1, e2, e3, e4, e5]
set_option maxHeartbeats 2000000 in
set_option maxRecDepth 100000 in
theorem opened_any (k : Nat) (A0 : Option Addr) (c0 : Nat) (l0 : List S57) (lo hi : Int) (A3 : Option Addr) (c3 : Nat) (l3 : List S69) (E : Int) (ok : Bool) (w : World)
  (hr0 : Kd.C k57 w A0 l0.length l0) (hc0 : l0.length ≤ c0) (hr3 : Kd.C k69 w A3 l3.length l3) (hc3 : l3.length ≤ c3) (hG : Glob w) (h : rasp_Check.f k l0 lo hi l3 = some E) :
  Calls Tryd.prog 51 #[.agg #[.slice A0 l0.length c0, .int .i64 lo, .int .i64 hi, .slice A3 l3.length c3], .bool ok] w fun e w' =>
   ∃ tv lo' hi' kv' o0 o1, e = .returned (.tuple #[shopV tv lo' hi' kv' o0 o1, .int .i64 (openE E ok)]) ∧ (∃ A n c, tv = .slice A n c) ∧ (∃ A n c, kv' = .slice A n c) ∧ Fr0 w w' ∧
    (openE E ok = 0 → ∃ m0 m1, tv = .slice A0 l0.length c0 ∧ lo' = lo ∧ hi' = hi ∧ kv' = .slice A3 l3.length c3 ∧ o0 = some m0 ∧ o1 = some m1 ∧ Sop (Cfg.of w A0 c0 l0 lo hi kv' m0 m1) w' ∧ w.heap.size ≤ m0 ∧ w.heap.size ≤ m1) := by
 have HG := Lib.hid hG
 clear hG
 have hu78 := Tryd.underlying78
 go_enter Tryd.func51, Tryd.ntmps51
 have hr0' := Lib.hid hr0
 have hr3' := Lib.hid hr3
 clear hr0 hr3
 by_cases hE : E = 0
 ·subst hE
  cases ok
  ·go_wp2_with (go_at_call 18; refine (rasp_Check.calls k A0 c0 l0 lo hi A3 c3 l3 0 _ (Kd.C_below hr0'.out (Fr.below (S := fun _ => False) (by repeat (first | exact Fr.refl _ _ | apply Fr.alloc)) (Nat.le_refl _) (fun _ _ h => h))) hc0 (Kd.C_below hr3'.out (Fr.below (S := fun _ => False) (by repeat (first | exact Fr.refl _ _ | apply Fr.alloc)) (Nat.le_refl _) (fun _ _ h => h))) hc3 h).mono ?_; rintro e W1 ⟨rfl, hb⟩; (have B4 := Bx.fr0 (Bx.of_new (w := w.alloc _) (g := w.heap.size + 1) (t := 78) (cs := shopC (.slice none 0 0) 0 0 (.slice none 0 0) none none) (by simp)) (Fr.of_below hb)); (have B2 := Bx.fr0 ((Bx.new w 27 #[.slice A0 l0.length c0, .int .i64 lo, .int .i64 hi, .slice A3 l3.length c3]).alloc _) (Fr.of_below hb)); (have hf1 : Fr0 w W1 := Fr.trans (by repeat (first | exact Fr.refl _ _ | apply Fr.alloc)) (Fr.of_below hb)); (have b0 := B4.at_ 0 rfl); (have b1 := B4.at_ 1 rfl); (have b2 := B4.at_ 2 rfl); (have b3 := B4.at_ 3 rfl); (have b4 := B4.at_ 4 rfl); (have b5 := B4.at_ 5 rfl); (have z0 := B4.frz 0); (have z1 := B4.frz 1); (have z2 := B4.frz 2); (have z3 := B4.frz 3); (have z4 := B4.frz 4); (have z5 := B4.frz 5); (have y0 := B2.at_ 0 rfl); (have y1 := B2.at_ 1 rfl); (have y2 := B2.at_ 2 rfl); (have y3 := B2.at_ 3 rfl); (have l2 := B2.lt); (have l4 := B4.lt); (have l4' := Nat.lt_succ_of_lt l4); (have l2' := Nat.lt_succ_of_lt l2))
   refine bodyPost_ret (res51 rfl rfl (shop_set B4 _ _ _ _ _ _)) rfl ⟨_, _, _, _, _, _, rfl, ⟨_, _, _, rfl⟩, ⟨_, _, _, rfl⟩, shop_fr hf1 (.inr (by simp)) _ _ _ _ _ _, ?_⟩
   intro h0
   simp [openE] at h0
  ·go_wp2_with (go_at_call 18; refine (rasp_Check.calls k A0 c0 l0 lo hi A3 c3 l3 0 _ (Kd.C_below hr0'.out (Fr.below (S := fun _ => False) (by repeat (first | exact Fr.refl _ _ | apply Fr.alloc)) (Nat.le_refl _) (fun _ _ h => h))) hc0 (Kd.C_below hr3'.out (Fr.below (S := fun _ => False) (by repeat (first | exact Fr.refl _ _ | apply Fr.alloc)) (Nat.le_refl _) (fun _ _ h => h))) hc3 h).mono ?_; rintro e W1 ⟨rfl, hb⟩; (have B4 := Bx.fr0 (Bx.of_new (w := w.alloc _) (g := w.heap.size + 1) (t := 78) (cs := shopC (.slice none 0 0) 0 0 (.slice none 0 0) none none) (by simp)) (Fr.of_below hb)); (have B2 := Bx.fr0 ((Bx.new w 27 #[.slice A0 l0.length c0, .int .i64 lo, .int .i64 hi, .slice A3 l3.length c3]).alloc _) (Fr.of_below hb)); (have hf1 : Fr0 w W1 := Fr.trans (by repeat (first | exact Fr.refl _ _ | apply Fr.alloc)) (Fr.of_below hb)); (have b0 := B4.at_ 0 rfl); (have b1 := B4.at_ 1 rfl); (have b2 := B4.at_ 2 rfl); (have b3 := B4.at_ 3 rfl); (have b4 := B4.at_ 4 rfl); (have b5 := B4.at_ 5 rfl); (have z0 := B4.frz 0); (have z1 := B4.frz 1); (have z2 := B4.frz 2); (have z3 := B4.frz 3); (have z4 := B4.frz 4); (have z5 := B4.frz 5); (have y0 := B2.at_ 0 rfl); (have y1 := B2.at_ 1 rfl); (have y2 := B2.at_ 2 rfl); (have y3 := B2.at_ 3 rfl); (have l2 := B2.lt); (have l4 := B4.lt); (have l4' := Nat.lt_succ_of_lt l4); (have l2' := Nat.lt_succ_of_lt l2))
   rw [mk75]
   have B4' := Bx.alloc B4 (.map #[] 0)
   have B4'' := Bx.alloc B4' (.map #[] 0)
   have hW3 : Fr0 W1 ((W1.alloc (.map #[] 0)).alloc (.map #[] 0)) := ((Fr.refl _ _).alloc _).alloc _
   clear b0 b1 b2 b3 b4 b5 z0 z1 z2 z3 z4 z5 y0 y1 y2 y3
   go_wp2
   rw [mk75]
   have M0 : MapFn ((W1.alloc (.map #[] 0)).alloc (.map #[] 0)) W1.heap.size (fun _ _ => none) := (MapFn.new W1).same (Below.heap_alloc _ _ _ (by simp))
   have M1 : MapFn ((W1.alloc (.map #[] 0)).alloc (.map #[] 0)) (W1.alloc (.map #[] 0)).heap.size (fun _ _ => none) := MapFn.new _
   rw [show (W1.alloc (.map #[] 0)).heap.size = W1.heap.size + 1 by simp] at M1 ⊢
   generalize (W1.alloc (.map #[] 0)).alloc (.map #[] 0) = W3 at *
   have b0 := B4''.at_ 0 rfl
   have b1 := B4''.at_ 1 rfl
   have b2 := B4''.at_ 2 rfl
   have b3 := B4''.at_ 3 rfl
   have b4 := B4''.at_ 4 rfl
   have b5 := B4''.at_ 5 rfl
   have z0 := B4''.frz 0
   have z1 := B4''.frz 1
   have z2 := B4''.frz 2
   have z3 := B4''.frz 3
   have z4 := B4''.frz 4
   have z5 := B4''.frz 5
   have HM0 := Lib.hid M0
   have HM1 := Lib.hid M1
   clear M0 M1
   go_wp2
   have hfin := shop_fr (hf1.trans hW3) (.inr (by simp)) (g := w.heap.size + 1) (.slice A0 l0.length c0) (.int .i64 lo) (.int .i64 hi) (.slice A3 l3.length c3) (.map (some W1.heap.size)) (.map (some (W1.heap.size + 1)))
   refine bodyPost_ret (res51 rfl rfl (shop_set B4'' _ _ _ _ _ _)) rfl ⟨_, _, _, _, _, _, rfl, ⟨_, _, _, rfl⟩, ⟨_, _, _, rfl⟩, hfin, fun _ => ⟨_, _, rfl, rfl, rfl, rfl, rfl, rfl, ?_, ?_, ?_⟩⟩
   ·have hs := hf1.size
    have mem : ∀ way, Memo { Cfg.of w A0 c0 l0 lo hi (.slice A3 l3.length c3) W1.heap.size (W1.heap.size + 1) with way := way } ((((((W3.setCell ⟨w.heap.size + 1, 0, none⟩ (.slice A0 l0.length c0)).setCell ⟨w.heap.size + 1, 1, none⟩ (.int .i64 lo)).setCell ⟨w.heap.size + 1, 2, none⟩ (.int .i64 hi)).setCell ⟨w.heap.size + 1, 3, none⟩ (.slice A3 l3.length c3)).setCell ⟨w.heap.size + 1, 4, none⟩ (.map (some W1.heap.size))).setCell ⟨w.heap.size + 1, 5, none⟩ (.map (some (W1.heap.size + 1)))) := by
     intro way
     have hfs := shop_fr (Fr.refl (· = w.heap.size + 1) W3) (.inl rfl) (g := w.heap.size + 1) (.slice A0 l0.length c0) (.int .i64 lo) (.int .i64 hi) (.slice A3 l3.length c3) (.map (some W1.heap.size)) (.map (some (W1.heap.size + 1)))
     by_cases hw : way = 0
     ·have e : Cfg.mb { Cfg.of w A0 c0 l0 lo hi (.slice A3 l3.length c3) W1.heap.size (W1.heap.size + 1) with way := way } = W1.heap.size := by simp [Cfg.mb, Cfg.of, hw]
      refine ⟨fun _ _ => none, ?_, fun _ _ _ h => by cases h⟩
      rw [e]
      exact HM0.out.same (hfs.block _ HM0.out.lt (by omega))
     ·have e : Cfg.mb { Cfg.of w A0 c0 l0 lo hi (.slice A3 l3.length c3) W1.heap.size (W1.heap.size + 1) with way := way } = W1.heap.size + 1 := by simp [Cfg.mb, Cfg.of, hw]
      refine ⟨fun _ _ => none, ?_, fun _ _ _ h => by cases h⟩
      rw [e]
      exact HM1.out.same (hfs.block _ HM1.out.lt (by omega))
    exact ⟨hfin.below (Nat.le_refl _) (fun _ _ h => h), mem 0, mem 1, by simp [Cfg.of], (HG.out.fr hfin).g0, (HG.out.fr hfin).g1⟩
   ·exact hf1.size
   ·have := hf1.size; omega
 ·go_wp2_with (go_at_call 18; refine (rasp_Check.calls k A0 c0 l0 lo hi A3 c3 l3 E _ (Kd.C_below hr0'.out (Fr.below (S := fun _ => False) (by repeat (first | exact Fr.refl _ _ | apply Fr.alloc)) (Nat.le_refl _) (fun _ _ h => h))) hc0 (Kd.C_below hr3'.out (Fr.below (S := fun _ => False) (by repeat (first | exact Fr.refl _ _ | apply Fr.alloc)) (Nat.le_refl _) (fun _ _ h => h))) hc3 h).mono ?_; rintro e W1 ⟨rfl, hb⟩; (have B4 := Bx.fr0 (Bx.of_new (w := w.alloc _) (g := w.heap.size + 1) (t := 78) (cs := shopC (.slice none 0 0) 0 0 (.slice none 0 0) none none) (by simp)) (Fr.of_below hb)); (have B2 := Bx.fr0 ((Bx.new w 27 #[.slice A0 l0.length c0, .int .i64 lo, .int .i64 hi, .slice A3 l3.length c3]).alloc _) (Fr.of_below hb)); (have hf1 : Fr0 w W1 := Fr.trans (by repeat (first | exact Fr.refl _ _ | apply Fr.alloc)) (Fr.of_below hb)); (have b0 := B4.at_ 0 rfl); (have b1 := B4.at_ 1 rfl); (have b2 := B4.at_ 2 rfl); (have b3 := B4.at_ 3 rfl); (have b4 := B4.at_ 4 rfl); (have b5 := B4.at_ 5 rfl); (have z0 := B4.frz 0); (have z1 := B4.frz 1); (have z2 := B4.frz 2); (have z3 := B4.frz 3); (have z4 := B4.frz 4); (have z5 := B4.frz 5); (have y0 := B2.at_ 0 rfl); (have y1 := B2.at_ 1 rfl); (have y2 := B2.at_ 2 rfl); (have y3 := B2.at_ 3 rfl); (have l2 := B2.lt); (have l4 := B4.lt); (have l4' := Nat.lt_succ_of_lt l4); (have l2' := Nat.lt_succ_of_lt l2))
  refine bodyPost_ret (res51 rfl rfl (shop_set B4 _ _ _ _ _ _)) rfl ⟨.slice none 0 0, 0, 0, .slice none 0 0, none, none, by simp [openE, hE, shopV], ⟨_, _, _, rfl⟩, ⟨_, _, _, rfl⟩, shop_fr hf1 (.inr (by simp)) _ _ _ _ _ _, ?_⟩
  intro h0
  simp [openE, hE] at h0
end Go.Proofs.YtfmpbkolpjlfbaaDoor.R
