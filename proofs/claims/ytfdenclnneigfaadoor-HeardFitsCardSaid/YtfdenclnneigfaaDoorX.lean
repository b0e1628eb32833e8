import Derived.Test.YtfdenclnneigfaaDoorB
import Derived.RangeFuncNested
import Derived.Deep.Draws
import Derived.Laws.EntriesVeiled
import Derived.OrdersIn
import Derived.Scope
set_option linter.unusedVariables false
set_option linter.unusedSimpArgs false
namespace Go.Proofs.YtfdenclnneigfaaDoor.X
open Go.RowKit

/-! ### 1. Maps whose keys are structs of two ints -/
def k2 (a b : Int) : Value := .agg #[.int .i64 a, .int .i64 b]
def keyIs (a b : Int) : Value → Bool
  | .agg #[.int .i64 x, .int .i64 y] => a == x && b == y
  | _ => false
theorem keyIs_k2 (a b x y : Int) : keyIs a b (k2 x y) = (a == x && b == y) := rfl
def mfind (a b : Int) : List MapEntry → Nat → Option (Nat × Value)
  | [], _ => none
  | e :: es, i => if keyIs a b e.key = true then some (i, e.val) else mfind a b es (i + 1)
def Keyed2 (es : List MapEntry) : Prop := ∀ e ∈ es, ∃ x y, e.key = k2 x y

structure Key2 (P : Program) (K : TypeId) : Prop where
  und : ∃ fs, P.underlying K = some (.struct fs)
  chk : ∀ (empty : Bool) (w : World) (a b : Int), (Instr.checkKey empty 10000 K (k2 a b)).run P w = .ok () w
  eq : ∀ (w : World) (a b x y : Int), (Op.equal K (k2 a b) (k2 x y)).run P w = .ok (a == x && b == y) w

section
variable {P : Program} {T K E : TypeId} {w : World} {mb : Nat} {a b : Int}

theorem findAsking_k2 (hk : Key2 P K) : ∀ (es : List MapEntry) (i : Nat), Keyed2 es → (Instr.findAsking K (k2 a b) es i).run P w = .ok (mfind a b es i) w
  | [], i, _ => rfl
  | e :: es, i, h => by
    obtain ⟨x, y, hxy⟩ := h e List.mem_cons_self
    unfold Instr.findAsking mfind
    rw [hxy, keyIs_k2]
    simp only [Sem.run_bind, hk.eq, Result.andThen_ok]
    cases hb : (a == x && b == y)
    · simp only [Bool.false_eq_true, if_false]
      exact findAsking_k2 hk es (i + 1) (fun e' he => h e' (List.mem_cons_of_mem _ he))
    · simp only [if_true]
      rfl

theorem findKey_k2 (hk : Key2 P K) (es : List MapEntry) (h : Keyed2 es) : (Instr.findKey K (k2 a b) es).run P w = .ok (mfind a b es 0) w := by
  obtain ⟨fs, hu⟩ := hk.und
  unfold Instr.findKey
  simp only [Sem.run_bind, run_underlying hu, Result.andThen_ok]
  cases es with
  | nil => rfl
  | cons e es =>
    have hn : Instr.findNow (.struct fs) (k2 a b) (e :: es) 0 = none := by
      unfold Instr.findNow Instr.sameNow
      rfl
    rw [hn]
    exact findAsking_k2 hk _ 0 h

/-- Block mb is a map that is the function f. -/
def MapFn (w : World) (mb : Nat) (f : Int → Int → Option Value) : Prop :=
  ∃ (es : Array MapEntry) (clock : Nat), w.heap[mb]? = some (.map es clock) ∧ Keyed2 es.toList ∧ ∀ a b, (mfind a b es.toList 0).map (·.2) = f a b

theorem MapFn.new (w : World) : MapFn (w.alloc (.map #[] 0)) w.heap.size (fun _ _ => none) :=
  ⟨#[], 0, World.alloc_heap_new w _, fun _ h => by simp at h, fun _ _ => rfl⟩
theorem MapFn.same {w' : World} {f : Int → Int → Option Value} (h : MapFn w mb f) (he : w'.heap[mb]? = w.heap[mb]?) : MapFn w' mb f := by
  obtain ⟨es, c, h1, h2, h3⟩ := h
  exact ⟨es, c, he.trans h1, h2, h3⟩
theorem MapFn.lt {f : Int → Int → Option Value} (h : MapFn w mb f) : mb < w.heap.size := by
  obtain ⟨es, c, h1, _⟩ := h
  exact (Array.getElem?_eq_some_iff.1 h1).1
theorem MapFn.obj {f : Int → Int → Option Value} (h : MapFn w mb f) : ∃ es c, w.heap[mb]? = some (.map es c) := by
  obtain ⟨es, c, h1, _⟩ := h
  exact ⟨es, c, h1⟩

theorem lookup_k2 (hk : Key2 P K) (hT : P.underlying T = some (.map K E)) {z : Value} (hz : ∀ w, (zeroValue E).run P w = .ok z w) {f : Int → Int → Option Value} (h : MapFn w mb f) (a b : Int) :
    (Instr.lookup T (.map (some mb)) (k2 a b) true).run P w = .ok (.tuple #[(f a b).getD z, .bool (f a b).isSome]) w := by
  obtain ⟨es, c, h1, h2, h3⟩ := h
  have hg : (getObj mb).run P w = .ok (.map es c) w := by simp [getObj, Sem.run, h1]
  unfold Instr.lookup
  simp only [Sem.run_bind, run_underlying hT, Result.andThen_ok, hg, Sem.run_pure, hk.chk, findKey_k2 hk _ h2]
  rw [← h3 a b]
  cases mfind a b es.toList 0 with
  | none => simp [hz]
  | some r => simp
theorem lookup_k2' (hk : Key2 P K) (hT : P.underlying T = some (.map K E)) {z : Value} (hz : ∀ w, (zeroValue E).run P w = .ok z w) {f : Int → Int → Option Value} (h : MapFn w mb f) (a b : Int) :
    (Instr.lookup T (.map (some mb)) (k2 a b) false).run P w = .ok ((f a b).getD z) w := by
  obtain ⟨es, c, h1, h2, h3⟩ := h
  have hg : (getObj mb).run P w = .ok (.map es c) w := by simp [getObj, Sem.run, h1]
  unfold Instr.lookup
  simp only [Sem.run_bind, run_underlying hT, Result.andThen_ok, hg, Sem.run_pure, hk.chk, findKey_k2 hk _ h2]
  rw [← h3 a b]
  cases mfind a b es.toList 0 with
  | none => simp [hz]
  | some r => simp

theorem mfind_append (a b : Int) (e : MapEntry) : ∀ (es : List MapEntry) (i : Nat), mfind a b (es ++ [e]) i = (mfind a b es i).or (if keyIs a b e.key = true then some (i + es.length, e.val) else none)
  | [], i => by simp [mfind]
  | e' :: es, i => by
    simp only [List.cons_append, mfind]
    split
    · rfl
    · rw [mfind_append a b e es (i + 1)]
      simp only [List.length_cons]
      congr 3
      congr 1
      omega
theorem mfind_some {a b : Int} : ∀ {es : List MapEntry} {i j : Nat} {v : Value}, mfind a b es i = some (j, v) → ∃ n e, j = i + n ∧ es[n]? = some e ∧ keyIs a b e.key = true ∧ e.val = v
  | [], _, _, _, h => by simp [mfind] at h
  | e :: es, i, j, v, h => by
    unfold mfind at h
    split at h
    · rename_i hk
      simp only [Option.some.injEq, Prod.mk.injEq] at h
      exact ⟨0, e, by omega, rfl, hk, h.2⟩
    · obtain ⟨n, e', hj, hn, hk, hv⟩ := mfind_some h
      exact ⟨n + 1, e', by omega, by simpa using hn, hk, hv⟩
theorem keyIs_inj {a b : Int} {v : Value} (hv : ∃ x y, v = k2 x y) (h : keyIs a b v = true) : v = k2 a b := by
  obtain ⟨x, y, rfl⟩ := hv
  rw [keyIs_k2, Bool.and_eq_true, beq_iff_eq, beq_iff_eq] at h
  obtain ⟨rfl, rfl⟩ := h
  rfl
theorem mfind_set {x y : Int} {v v' : Value} {e2 : MapEntry} (h2 : e2.key = k2 x y) (h3 : e2.val = v') (a b : Int) : ∀ (es : List MapEntry) (i n : Nat), Keyed2 es → mfind x y es i = some (i + n, v) →
    (mfind a b (es.set n e2) i).map (·.2) = if a = x ∧ b = y then some v' else (mfind a b es i).map (·.2)
  | [], i, n, _, h => by simp [mfind] at h
  | e :: es, i, n, hky, h => by
    unfold mfind at h
    by_cases hk : keyIs x y e.key = true
    · rw [if_pos hk] at h
      have hn : n = 0 := by
        simp only [Option.some.injEq, Prod.mk.injEq] at h
        omega
      subst hn
      simp only [List.set_cons_zero, mfind, h2, h3, keyIs_inj (hky e List.mem_cons_self) hk, keyIs_k2, Bool.and_eq_true, beq_iff_eq]
      split <;> simp_all
    · rw [if_neg hk] at h
      cases n with
      | zero =>
        obtain ⟨m, e', hj, _⟩ := mfind_some h
        omega
      | succ n =>
        have h' : mfind x y es (i + 1) = some (i + 1 + n, v) := by rw [h]; congr 2; omega
        simp only [List.set_cons_succ, mfind]
        by_cases hk0 : keyIs a b e.key = true
        · simp only [if_pos hk0]
          rw [if_neg]
          rintro ⟨rfl, rfl⟩
          exact hk hk0
        · simp only [if_neg hk0]
          exact mfind_set h2 h3 a b es (i + 1) n (fun e' he => hky e' (List.mem_cons_of_mem _ he)) h'
theorem sameBits_k2 (a b : Int) : Instr.sameBits 10000 (k2 a b) (k2 a b) = true := by
  show (_ && _) = true
  simp [Instr.sameBits]

theorem update_k2 (hk : Key2 P K) (hT : P.underlying T = some (.map K E)) {f : Int → Int → Option Value} (h : MapFn w mb f) (a b : Int) (v : Value) :
    ∃ o : Obj, o.isCells = false ∧ (∃ es c, o = .map es c) ∧ (Instr.mapUpdate T (.map (some mb)) (k2 a b) v).run P w = .ok () (w.putObj mb o) ∧ MapFn (w.putObj mb o) mb (fun x y => if x = a ∧ y = b then some v else f x y) := by
  have hlt := h.lt
  obtain ⟨es, c, h1, h2, h3⟩ := h
  have hg : (getObj mb).run P w = .ok (.map es c) w := by simp [getObj, Sem.run, h1]
  have hs : ∀ o, (setObj mb o).run P w = .ok () (w.putObj mb o) := fun o => by simp [setObj, Sem.run, h1, World.putObj]
  cases hf : mfind a b es.toList 0 with
  | none =>
    refine ⟨.map (es.push { key := k2 a b, val := v, born := c }) (c + 1), rfl, ⟨_, _, rfl⟩, ?_, _, _, World.putObj_heap_same hlt, ?_, ?_⟩
    · unfold Instr.mapUpdate
      simp only [Sem.run_bind, run_underlying hT, Result.andThen_ok, hg, hk.chk, findKey_k2 hk _ h2, hf, hs]
    · intro e he
      simp only [Array.toList_push, List.mem_append, List.mem_singleton] at he
      rcases he with he | rfl
      · exact h2 e he
      · exact ⟨a, b, rfl⟩
    · intro x y
      rw [Array.toList_push, mfind_append, keyIs_k2]
      by_cases hxy : x = a ∧ y = b
      · obtain ⟨rfl, rfl⟩ := hxy
        simp [hf]
      · show _ = if x = a ∧ y = b then some v else f x y
        rw [if_neg hxy, if_neg (by simpa using hxy), ← h3 x y]
        simp
  | some r =>
    obtain ⟨i, v0⟩ := r
    obtain ⟨n, e, hj, hn, hke, hv⟩ := mfind_some hf
    have hin : i = n := by omega
    subst hin
    have hes : es[i]? = some e := by simpa using hn
    have hkey := keyIs_inj (h2 e (List.mem_of_getElem? hn)) hke
    refine ⟨.map (es.modify i fun e => { e with key := k2 a b, val := v }) c, rfl, ⟨_, _, rfl⟩, ?_, _, _, World.putObj_heap_same hlt, ?_, ?_⟩
    · unfold Instr.mapUpdate
      simp only [Sem.run_bind, run_underlying hT, Result.andThen_ok, hg, hk.chk, findKey_k2 hk _ h2, hf, hes, Option.map_some, Option.getD_some, hkey]
      simp only [Instr.keyThatStays, sameBits_k2, if_true, Sem.run_pure, Result.andThen_ok, hs]
    · intro e' he'
      rw [Array.toList_modify] at he'
      obtain ⟨m, hm⟩ := List.getElem?_of_mem he'
      rw [List.getElem?_modify] at hm
      cases hq : es.toList[m]? with
      | none => rw [hq] at hm; simp at hm
      | some e1 =>
        rw [hq] at hm
        have hm : (if i = m then { e1 with key := k2 a b, val := v } else e1) = e' := by simpa using hm
        split at hm
        · exact ⟨a, b, by rw [← hm]⟩
        · rw [← hm]; exact h2 e1 (List.mem_of_getElem? hq)
    · intro x y
      have := mfind_set (v := v0) (e2 := { e with key := k2 a b, val := v }) (v' := v) rfl rfl x y es.toList 0 i h2 (by rw [hf]; simp)
      show _ = if x = a ∧ y = b then some v else f x y
      rw [← h3 x y, ← this]
      congr 2
      rw [Array.toList_modify]
      apply List.ext_getElem?
      intro m
      rw [List.getElem?_modify, List.getElem?_set]
      by_cases hm : i = m
      · subst hm
        simp [hn]
        exact (List.getElem?_eq_some_iff.1 hn).1
      · simp [hm]
end

/-! ### 2. What may have changed: the blocks of S, and what is new -/
structure Fr (S : Nat → Prop) (w W : World) : Prop where
  os : W.os = w.os
  tape : W.tape = w.tape
  output : W.output = w.output
  size : w.heap.size ≤ W.heap.size
  block : ∀ k, k < w.heap.size → ¬ S k → W.heap[k]? = w.heap[k]?
abbrev Fr0 : World → World → Prop := Fr (fun _ => False)
namespace Fr
variable {S S' : Nat → Prop} {a b c w W : World}
theorem refl (S : Nat → Prop) (w : World) : Fr S w w := ⟨rfl, rfl, rfl, Nat.le_refl _, fun _ _ _ => rfl⟩
theorem trans (h : Fr S a b) (k : Fr S b c) : Fr S a c :=
  ⟨k.os.trans h.os, k.tape.trans h.tape, k.output.trans h.output, Nat.le_trans h.size k.size, fun i hi hn => (k.block i (Nat.lt_of_lt_of_le hi h.size) hn).trans (h.block i hi hn)⟩
theorem wide (h : Fr S a b) (hs : ∀ k, k < a.heap.size → S k → S' k) : Fr S' a b := ⟨h.os, h.tape, h.output, h.size, fun i hi hn => h.block i hi (fun hS => hn (hs i hi hS))⟩
/-- Two steps, the second one by its own set. -/
theorem step (h : Fr S a b) (k : Fr S' b c) (hs : ∀ k, k < a.heap.size → S' k → S k) : Fr S a c :=
  ⟨k.os.trans h.os, k.tape.trans h.tape, k.output.trans h.output, Nat.le_trans h.size k.size, fun i hi hn => (k.block i (Nat.lt_of_lt_of_le hi h.size) (fun hS => hn (hs i hi hS))).trans (h.block i hi hn)⟩
theorem step0 (h : Fr S a b) (k : Fr0 b c) : Fr S a c := h.step k (fun _ _ hf => hf.elim)
theorem of0 (h : Fr0 a b) : Fr S a b := h.wide (fun _ _ hf => hf.elim)
theorem of_below (h : Below a.heap.size a b) : Fr S a b := ⟨h.os, h.tape, h.output, h.size, fun i hi _ => h.block i hi⟩
theorem below (h : Fr S a b) {B : Nat} (hB : B ≤ a.heap.size) (hs : ∀ k, k < B → ¬ S k) : Below B a b := ⟨h.os, h.tape, h.output, h.size, fun i hi => h.block i (Nat.lt_of_lt_of_le hi hB) (hs i hi)⟩
theorem alloc (h : Fr S a b) (o : Obj) : Fr S a (b.alloc o) := h.step0 (of_below ((Below.refl _ _).alloc (Nat.le_refl _) o))
theorem drew (h : Fr S a b) : Fr S a b.drew := ⟨h.os, h.tape, h.output, h.size, h.block⟩
theorem drewN (h : Fr S a b) (n : Nat) : Fr S a (b.drewN n) := ⟨h.os, h.tape, h.output, h.size, h.block⟩
theorem setCell (h : Fr S a b) {p : Addr} (hp : S p.block ∨ a.heap.size ≤ p.block) (u : Value) : Fr S a (b.setCell p u) :=
  ⟨h.os, h.tape, h.output, by simpa [World.setCell] using h.size, fun i hi hn => (Below.heap_setCell b p u i (by
    rintro rfl
    rcases hp with hp | hp
    · exact hn hp
    · omega)).trans (h.block i hi hn)⟩
theorem putObj (h : Fr S a b) {l : Nat} (hl : S l ∨ a.heap.size ≤ l) (o : Obj) : Fr S a (b.putObj l o) :=
  ⟨h.os, h.tape, h.output, by simpa using h.size, fun i hi hn => (World.putObj_heap_other (by
    rintro rfl
    rcases hl with hl | hl
    · exact hn hl
    · omega)).trans (h.block i hi hn)⟩
theorem put1 (W : World) (l : Nat) (o : Obj) : Fr (· = l) W (W.putObj l o) := putObj (S := (· = l)) (refl _ W) (.inl rfl) o
theorem heap (h : Fr S a b) {k : Nat} {o : Obj} (hk : a.heap[k]? = some o) (hn : ¬ S k) : b.heap[k]? = some o := (h.block k (Array.getElem?_eq_some_iff.1 hk).1 hn).trans hk
theorem cell (h : Fr S a b) {p : Addr} {v : Value} (hc : a.cell? p = some v) (hn : ¬ S p.block) : b.cell? p = some v := (World.cell?_of_block (h.block p.block (World.block_lt_of_cell? a p hc) hn)).trans hc
theorem cell0 (h : Fr0 a b) {p : Addr} {v : Value} (hc : a.cell? p = some v) : b.cell? p = some v := h.cell hc (fun hf => hf)
/-- A cell's block is none that holds a map. -/
theorem not_map {p : Addr} {v : Value} {mb : Nat} {es : Array MapEntry} {k : Nat} (hc : a.cell? p = some v) (hm : a.heap[mb]? = some (Obj.map es k)) : p.block ≠ mb := by
  rintro rfl
  simp [World.cell?, hm] at hc
theorem cellM {mb : Nat} (h : Fr (· = mb) a b) {es : Array MapEntry} {k : Nat} (hm : a.heap[mb]? = some (Obj.map es k)) {p : Addr} {v : Value} (hc : a.cell? p = some v) : b.cell? p = some v := h.cell hc (not_map hc hm)
end Fr

/-! ### 3. A range over a function -/
/-- The deferred calls' blocks of the loops that have run. -/
def dmark (D : Nat) : Deferred := { target := .collected D, args := #[] }
/-- Of each dmark's block: no call was deferred. -/
def Marks (w : World) (Ds : List Nat) : Prop := ∀ D ∈ Ds, w.heap[D]? = some (.deferred (some []))
/-- The world behind the marks. -/
def shut : List Nat → World → World
  | [], w => w
  | D :: Ds, w => shut Ds (w.putObj D (.deferred none))
theorem shut_fr (S : Nat → Prop) {a : World} : ∀ (Ds : List Nat) {w : World}, Fr S a w → (∀ D ∈ Ds, S D ∨ a.heap.size ≤ D) → Fr S a (shut Ds w)
  | [], _, h, _ => h
  | D :: Ds, _, h, hd => shut_fr S Ds (h.putObj (hd D List.mem_cons_self) _) (fun E he => hd E (List.mem_cons_of_mem _ he))
theorem shut_heap : ∀ (Ds : List Nat) {w : World} {k : Nat}, k ∉ Ds → (shut Ds w).heap[k]? = w.heap[k]?
  | [], _, _, _ => rfl
  | D :: Ds, w, k, h => (shut_heap Ds (fun hk => h (List.mem_cons_of_mem _ hk))).trans (World.putObj_heap_other (by rintro rfl; exact h List.mem_cons_self))
section
variable {P : Program}
theorem leaves_marks {fn : Func} {tmps : Array Value} {R : Ending → World → Prop} {v : Value} : ∀ (Ds : List Nat) (w : World), Marks w Ds → Ds.Nodup →
    (results fn tmps).run P (shut Ds w) = .ok v (shut Ds w) → R (.returned v) (shut Ds w) → LeavesInM Fence.wide 0 P fn tmps R (Ds.map dmark) .returning w
  | [], w, _, _, hr, hR => by
    show LeavesIn Fence.wide 0 P fn tmps R [] .returning w
    exact ⟨v, hr, hR⟩
  | D :: Ds, w, hm, hnd, hr, hR => by
    have hD := hm D List.mem_cons_self
    have hn := List.nodup_cons.1 hnd
    refine ⟨by simp, .inl ⟨D, _, rfl, run_takeDeferred hD, ?_⟩⟩
    exact leaves_marks Ds _ (fun E hE => (World.putObj_heap_other (by rintro rfl; exact hn.1 hE)).trans (hm E (List.mem_cons_of_mem _ hE))) hn.2 hr hR
end

/-- AN ITERATOR's CONTRACT: closure g over lb yields xs, one after the other, whatever the rounds do to the blocks of S; N: what it reads, at the world of its call. -/
def Iter {α : Type} (P : Program) (g : FuncId) (lb : Array Value) (encs : α → Array Value) (xs : List α) (N : World → (Nat → Prop) → Prop) : Prop :=
  ∀ (l : Nat) (S : Nat → Prop) (J Jx : List α → World → Prop) (W : World), N W S → (∀ k, S k → k < W.heap.size) →
    (∀ pre A B, J pre A → Fr0 A B → J pre B) → (∀ pre A B, Jx pre A → Fr0 A B → Jx pre B) →
    (∀ pre x rest W1, xs = pre ++ x :: rest → J pre W1 → YieldAt Fence.wide 0 P l (encs x) W1 fun e W' =>
      (e = .returned (.bool true) ∧ J (pre ++ [x]) W' ∧ Fr S W1 W') ∨ (e = .returned (.bool false) ∧ Jx (pre ++ [x]) W' ∧ Fr S W1 W')) →
    J [] W →
    CallsIn Fence.wide 0 P g (#[.func (.yield l) #[] #[]] ++ lb) W fun e W' => (∃ v, e = .returned v) ∧ (J xs W' ∨ ∃ pre, Jx pre W')

/-- How a round's body may be left. -/
def roundEnd {α : Type} (S : Nat → Prop) (J : List α → World → Prop) (Jx : Code → List α → World → Prop) (ys : List α) (W : World) : Exit → Act → World → Prop
  | .normal, _, W' => Fr S W W' ∧ J ys W'
  | .ret, _, W' => Fr S W W' ∧ Jx .ret ys W'
  | .exit id, _, W' => Fr S W W' ∧ Jx (.exit id) ys W'
  | .goto t, _, W' => Fr S W W' ∧ Jx (.goto t) ys W'
  | .panic _, _, _ => False
  | .outgrown, _, _ => False

section
variable {P : Program}
/-- The rounds of a loop, whatever its record bears beside. -/
theorem rounds_of {α : Type} {encs : α → Array Value} {xs : List α} {rec : LoopState → Option Code → Loop} {l : Nat} {ps : Array Tmp} {assign body : Code} {tmps : Array Value} {fn : FuncId} {S : Nat → Prop}
    (J : List α → World → Prop) (Jx : Code → List α → World → Prop)
    (hrec : ∀ st pe, (rec st pe).state = st ∧ (rec st pe).pending = pe ∧ (rec st pe).fn = fn ∧ (rec st pe).tmps = tmps ∧ (rec st pe).params = ps ∧ (rec st pe).assign = assign ∧ (rec st pe).body = body ∧ (∀ st' pe', { rec st pe with state := st', pending := pe' } = rec st' pe'))
    (hps : ∀ x, (encs x).size = ps.size) (hSl : ¬ S l)
    (hJ : ∀ pre A B, J pre A → Fr (· = l) A B → J pre B) (hJx : ∀ c pre A B, Jx c pre A → Fr (· = l) A B → Jx c pre B)
    (hround : ∀ pre x rest W, xs = pre ++ x :: rest → J pre W → W.heap[l]? = some (.loop (rec .ready none)) →
      assign.wpIn (Fence.wide.inRound l) 0 P (Exit.then (fun a1 W1 => Fr0 W W1 ∧ ∀ W2, Fr (· = l) W1 W2 → W2.heap[l]? = some (.loop (rec .busy none)) → body.wpIn (Fence.wide.inRound l) 0 P (roundEnd S J Jx (pre ++ [x]) W2) a1 W2) (fun _ _ _ => False))
        { tmps := (ps.zip (encs x)).foldl (fun t (p, v) => t.setIfInBounds p v) tmps, defers := [] } W)
    (pre : List α) (x : α) (rest : List α) (W : World) (hx : xs = pre ++ x :: rest) (hj : J pre W) (hl : W.heap[l]? = some (.loop (rec .ready none))) :
    YieldAt Fence.wide 0 P l (encs x) W fun e W' =>
      (e = .returned (.bool true) ∧ (J (pre ++ [x]) W' ∧ W'.heap[l]? = some (.loop (rec .ready none))) ∧ Fr (fun k => S k ∨ k = l) W W') ∨
      (e = .returned (.bool false) ∧ (∃ c, Jx c (pre ++ [x]) W' ∧ W'.heap[l]? = some (.loop (rec .done (some c)))) ∧ Fr (fun k => S k ∨ k = l) W W') := by
  obtain ⟨r1, r2, r3, r4, r5, r6, r7, r8⟩ := hrec .ready none
  have hlt : l < W.heap.size := (Array.getElem?_eq_some_iff.1 hl).1
  have hy := run_yield (P := P) (args := encs x) hl (by rw [r5]; exact hps x)
  rw [r3, r4, r5, r6, r7] at hy
  refine ⟨fn, _, assign, body, hy, roundIn_of_wpIn trivial (wpIn_mono (hround pre x rest W hx hj hl) ?_)⟩
  rintro e a1 W1 hq
  cases e with
  | normal =>
    obtain ⟨h01, hb⟩ := hq
    have hl1 := h01.heap hl (fun hf => hf)
    have hlt1 : l < W1.heap.size := (Array.getElem?_eq_some_iff.1 hl1).1
    have hbr := run_beginRound (P := P) hl1 r1
    rw [r8] at hbr
    rw [r2] at hbr
    refine ⟨_, hbr, ?_⟩
    have hl2 : (W1.putObj l (.loop (rec .busy none))).heap[l]? = some (.loop (rec .busy none)) := World.putObj_heap_same hlt1
    have h12 : Fr (· = l) W1 (W1.putObj l (.loop (rec .busy none))) := Fr.put1 _ _ _
    have h02 : Fr (fun k => S k ∨ k = l) W (W1.putObj l (.loop (rec .busy none))) := (Fr.of0 h01).step h12 (fun k _ h => .inr h)
    refine wpIn_mono (hb _ h12 hl2) ?_
    have fin : ∀ (jump : Option Code) (W3 : World), Fr S (W1.putObj l (.loop (rec .busy none))) W3 →
        (Instr.endRound l jump).run P W3 = .ok (.bool jump.isNone) (W3.putObj l (.loop (rec (if jump.isNone then .ready else .done) jump))) ∧
        (W3.putObj l (.loop (rec (if jump.isNone then .ready else .done) jump))).heap[l]? = some (.loop (rec (if jump.isNone then .ready else .done) jump)) ∧
        Fr (· = l) W3 (W3.putObj l (.loop (rec (if jump.isNone then .ready else .done) jump))) ∧
        Fr (fun k => S k ∨ k = l) W (W3.putObj l (.loop (rec (if jump.isNone then .ready else .done) jump))) := fun jump W3 h23 => by
      have hl3 := h23.heap hl2 hSl
      have he := run_endRound (P := P) jump hl3
      rw [(hrec .busy none).2.2.2.2.2.2.2] at he
      have h34 : Fr (· = l) W3 (W3.putObj l (.loop (rec (if jump.isNone then .ready else .done) jump))) := Fr.put1 _ _ _
      exact ⟨he, World.putObj_heap_same (Array.getElem?_eq_some_iff.1 hl3).1, h34, (h02.step h23 (fun k _ h => .inl h)).step h34 (fun k _ h => .inr h)⟩
    rintro e a3 W3 hp
    cases e with
    | normal =>
      obtain ⟨h23, hj3⟩ := hp
      obtain ⟨he, hl4, h34, h04⟩ := fin none W3 h23
      exact ⟨_, _, he, .inl ⟨rfl, ⟨hJ _ _ _ hj3 h34, hl4⟩, h04⟩⟩
    | ret =>
      obtain ⟨h23, hj3⟩ := hp
      obtain ⟨he, hl4, h34, h04⟩ := fin (some .ret) W3 h23
      exact ⟨_, _, he, .inr ⟨rfl, ⟨_, hJx _ _ _ _ hj3 h34, hl4⟩, h04⟩⟩
    | exit id =>
      obtain ⟨h23, hj3⟩ := hp
      obtain ⟨he, hl4, h34, h04⟩ := fin (some (.exit id)) W3 h23
      exact ⟨_, _, he, .inr ⟨rfl, ⟨_, hJx _ _ _ _ hj3 h34, hl4⟩, h04⟩⟩
    | goto t =>
      obtain ⟨h23, hj3⟩ := hp
      obtain ⟨he, hl4, h34, h04⟩ := fin (some (.goto t)) W3 h23
      exact ⟨_, _, he, .inr ⟨rfl, ⟨_, hJx _ _ _ _ hj3 h34, hl4⟩, h04⟩⟩
    | panic ch => exact hp.elim
    | outgrown => exact hp.elim
  | exit id => exact hq.elim
  | goto t => exact hq.elim
  | ret => exact hq.elim
  | panic ch => exact hq.elim
  | outgrown => exact hq.elim
/-- A RANGE OVER AN ITERATOR, outside every round. -/
theorem range_top {α : Type} {g : Operand} {ps : Array Tmp} {assign body : Code} {Q : Exit → Act → World → Prop} {a : Act} {w : World}
    {gf : FuncId} {lb : Array Value} (hg : a.eval g = .func (.func gf) #[] lb) (eg : ∀ args w, (callFunc gf args).run P w = .ok (.enter gf args) w)
    {encs : α → Array Value} {xs : List α} {N : World → (Nat → Prop) → Prop} (hit : Iter P gf lb encs xs N) (hps : ∀ x, (encs x).size = ps.size)
    (S : Nat → Prop) (hS : ∀ k, S k → k < w.heap.size) (hN : ∀ W (S' : Nat → Prop), Fr0 w W → (∀ k, S' k → S k ∨ w.heap.size ≤ k) → N W S')
    (J : List α → World → Prop) (Jx : Code → List α → World → Prop)
    (hJ : ∀ pre A B, J pre A → Fr (· = w.heap.size + 1) A B → J pre B) (hJx : ∀ c pre A B, Jx c pre A → Fr (· = w.heap.size + 1) A B → Jx c pre B)
    (h0 : ∀ W, Fr0 w W → J [] W)
    (hround : ∀ pre x rest W, xs = pre ++ x :: rest → J pre W → (∃ r, W.heap[w.heap.size + 1]? = some (.loop r)) →
      assign.wpIn (Fence.wide.inRound (w.heap.size + 1)) 0 P (Exit.then (fun a1 W1 => Fr0 W W1 ∧ ∀ W2, Fr (· = w.heap.size + 1) W1 W2 → (∃ r, W2.heap[w.heap.size + 1]? = some (.loop r)) → body.wpIn (Fence.wide.inRound (w.heap.size + 1)) 0 P (roundEnd S J Jx (pre ++ [x]) W2) a1 W2) (fun _ _ _ => False))
        { tmps := (ps.zip (encs x)).foldl (fun t (p, v) => t.setIfInBounds p v) a.tmps, defers := [] } W)
    (hdone : ∀ W', J xs W' → W'.heap[w.heap.size]? = some (.deferred (some [])) → Q .normal { a with defers := dmark w.heap.size :: a.defers } W')
    (hstop : ∀ c pre W', Jx c pre W' → W'.heap[w.heap.size]? = some (.deferred (some [])) → c.wpIn Fence.wide 0 P Q { a with defers := dmark w.heap.size :: a.defers } W') :
    (Code.rangeFunc g ps assign body).wpIn Fence.wide 0 P Q a w := by
  refine wpIn_rangeFunc ?_
  intro fn _
  show ∃ l dmark w₁ d w₁' f args w₂, (Instr.enterLoop fn a.tmps ps assign body none).run P w = _ ∧ _
  obtain ⟨rec, hrec⟩ : ∃ rec : LoopState → Option Code → Loop, rec = fun st pe => { state := st, pending := pe, fn, tmps := a.tmps, params := ps, assign, body, defers := w.heap.size } := ⟨_, rfl⟩
  obtain ⟨W1, hW1⟩ : ∃ W1, (w.alloc (.deferred (some []))).alloc (.loop (rec .ready none)) = W1 := ⟨_, rfl⟩
  have h01 : Fr0 w W1 := by rw [← hW1]; exact ((Fr.refl _ _).alloc _).alloc _
  have hsz : W1.heap.size = w.heap.size + 2 := by rw [← hW1]; simp
  have hL1 : W1.heap[w.heap.size + 1]? = some (.loop (rec .ready none)) := by
    rw [← hW1]; have := World.alloc_heap_new (w.alloc (.deferred (some []))) (.loop (rec .ready none)); rwa [World.size_alloc] at this
  have hK1 : W1.heap[w.heap.size]? = some (.deferred (some [])) := by
    rw [← hW1]; exact (Below.heap_alloc _ _ _ (by simp)).trans (World.alloc_heap_new w _)
  refine ⟨w.heap.size + 1, [{ target := .collected w.heap.size, args := #[] }], W1, { target := .fn (.func gf) lb, args := #[.func (.yield (w.heap.size + 1)) #[] #[]] }, W1, gf,
    #[.func (.yield (w.heap.size + 1)) #[] #[]] ++ lb, W1, ?_, ?_, ?_, ?_, fun h => by simp [Fence.wide] at h, ?_⟩
  · rw [← hW1, hrec]; exact run_enterLoop_outer _ _ _ _ _
  · simp only [resolve, hg]
    simp [go_sem]
  · intro f' _; exact trivial
  · simp [invoke, go_sem, eg]
  · have hfr : ∀ {A B : World}, Fr0 A B → Fr (· = w.heap.size + 1) A B := fun h => Fr.of0 h
    refine (hit (w.heap.size + 1) (fun k => S k ∨ k = w.heap.size + 1)
      (fun pre W => (J pre W ∧ W.heap[w.heap.size + 1]? = some (.loop (rec .ready none))) ∧ W.heap[w.heap.size]? = some (.deferred (some [])))
      (fun pre W => (∃ c, Jx c pre W ∧ W.heap[w.heap.size + 1]? = some (.loop (rec .done (some c)))) ∧ W.heap[w.heap.size]? = some (.deferred (some [])))
      W1 (hN _ _ h01 (fun k hk => hk.imp id (fun e => by omega))) (fun k hk => by
        rcases hk with hk | hk
        · have := hS k hk; omega
        · omega)
      (fun pre A B ⟨⟨h1, h2⟩, h3⟩ h => ⟨⟨hJ _ _ _ h1 (hfr h), h.heap h2 (fun hf => hf)⟩, h.heap h3 (fun hf => hf)⟩)
      (fun pre A B ⟨⟨c, h1, h2⟩, h3⟩ h => ⟨⟨c, hJx _ _ _ _ h1 (hfr h), h.heap h2 (fun hf => hf)⟩, h.heap h3 (fun hf => hf)⟩)
      ?_ ⟨⟨h0 _ h01, hL1⟩, hK1⟩).mono ?_
    · rintro pre x rest W hx ⟨⟨hj, hl⟩, hk⟩
      obtain ⟨fn', tmps', as', bd', hy, hR⟩ := rounds_of (P := P) (encs := encs) (xs := xs) (rec := rec) (l := w.heap.size + 1) (ps := ps) (assign := assign) (body := body) (tmps := a.tmps) (fn := fn) (S := S) J Jx
        (fun st pe => by subst hrec; exact ⟨rfl, rfl, rfl, rfl, rfl, rfl, rfl, fun _ _ => rfl⟩) hps (fun hs => by have := hS _ hs; omega) hJ hJx
        (fun pre x rest W hx hj hl => wpIn_mono (hround pre x rest W hx hj ⟨_, hl⟩) (fun e a1 W1 hq => by
          cases e with
          | normal => exact ⟨hq.1, fun W2 h12 hl2 => hq.2 W2 h12 ⟨_, hl2⟩⟩
          | _ => exact hq)) pre x rest W hx hj hl
      refine ⟨fn', tmps', as', bd', hy, hR.mono ?_⟩
      have hkeep : ∀ {W' : World}, Fr (fun k => S k ∨ k = w.heap.size + 1) W W' → W'.heap[w.heap.size]? = some (.deferred (some [])) := fun h => h.heap hk (fun h' => by
        rcases h' with h' | h'
        · have := hS _ h'; omega
        · omega)
      rintro e W' (⟨rfl, h1, h2⟩ | ⟨rfl, h1, h2⟩)
      · exact .inl ⟨rfl, ⟨h1, hkeep h2⟩, h2⟩
      · exact .inr ⟨rfl, ⟨h1, hkeep h2⟩, h2⟩
    · rintro e W2 ⟨⟨v, rfl⟩, (⟨⟨hj, hl⟩, hk⟩ | ⟨pre, ⟨c, hj, hl⟩, hk⟩)⟩
      · have he := run_endLoop (P := P) hl (by rw [hrec]; simp)
        refine ⟨none, W2.putObj (w.heap.size + 1) (.loop { rec .ready none with state := .exhausted }), by rw [he, hrec], hdone _ (hJ _ _ _ hj (Fr.put1 _ _ _)) ((World.putObj_heap_other (by omega)).trans hk)⟩
      · have he := run_endLoop (P := P) hl (by rw [hrec]; simp)
        refine ⟨some c, W2.putObj (w.heap.size + 1) (.loop { rec .done (some c) with state := .exhausted }), by rw [he, hrec], hstop _ pre _ (hJx _ _ _ _ hj (Fr.put1 _ _ _)) ((World.putObj_heap_other (by omega)).trans hk)⟩
end

/-! ### 4. A region that draws its order, within a round -/
def noOut (Q : Exit → Act → World → Prop) : Exit → Act → World → Prop
  | .outgrown, _, _ => False
  | e, a, w => Q e a w
section
variable {P : Program} {ops : Array Oper} {Q : Exit → Act → World → Prop} {md : Region.Mode} {l : Nat}
theorem wpOpIn_of_wpOp {i : Nat} {K K' : Act → World → Prop} {a : Act} {w : World} (hd : ∀ o, ops[i]? = some o → ∀ c, o.op ≠ .defer c) (hK : ∀ a w, K a w → K' a w)
    (h : wpOp P ops (noOut Q) i K a w) : wpOpIn (Fence.wide.inRound l) 0 P ops Q i K' a w := by
  unfold wpOp at h
  unfold wpOpIn
  cases ho : ops[i]? with
  | none => rw [ho] at h; exact hK _ _ h
  | some o =>
    rw [ho] at h
    simp only at h ⊢
    by_cases hw : Region.wanted o (yielded ops a.tmps) = true
    · rw [if_pos hw] at h ⊢
      rcases h with h | ⟨_, _, _, hf⟩
      · refine ⟨fun _ _ => trivial, ?_⟩
        unfold Oper.wp at h
        rw [Oper.semAt_eq _ _ _ (hd o ho)]
        generalize (execOp a.eval o).run P w = r at *
        cases r with
        | ok x w' =>
          cases x <;> simp only [Oper.upon] at h <;> simp only [Oper.uponIn]
          case value u => exact hK _ _ h
          case skip => exact hK _ _ h
          case defer d => exact hK _ _ h
          case enter f args =>
            refine ⟨fun hs => by simp [Fence.wide] at hs, ?_⟩
            refine (show CallsIn Fence.wide _ P f args w' _ from callsIn_wide.2 (h.mono fun e w'' he => ?_))
            cases e with
            | returned v => exact hK _ _ he
            | panicked c => exact he
            | outgrown => exact he.elim fun _ h => h.elim fun _ h => h.elim
          case row row args =>
            refine ⟨fun hs => by simp [Fence.wide] at hs, ?_⟩
            intro c cs _
            obtain ⟨v, w'', hr, hs⟩ := h c cs
            exact ⟨v, w'', hK _ _ hr, stepsIn_wide.2 hs⟩
        | halt x w' =>
          cases x <;> simp only [Oper.upon] at h <;> simp only [Oper.uponIn]
          case panic u => exact h
      · exact hf.elim
    · rw [if_neg hw] at h ⊢
      exact ⟨fun _ _ => trivial, hK _ _ h⟩
theorem wpAnyIn_of_wpAny (hd : ∀ (i : Nat) (o : Oper), ops[i]? = some o → ∀ c, o.op ≠ .defer c) : ∀ (fuel : Nat) (listed : Array Bool) (a : Act) (w : World), wpAny P md ops (noOut Q) fuel listed a w → wpAnyIn (Fence.wide.inRound l) 0 P md ops Q fuel listed a w
  | 0, _, _, _, h => ⟨h.1, h.2⟩
  | fuel + 1, _, _, _, h => ⟨fun h0 => h.1 h0, fun i hi => wpOpIn_of_wpOp (hd i) (fun a w => wpAnyIn_of_wpAny hd fuel _ a w) (h.2 i hi)⟩
def noDefer (ops : Array Oper) : Bool := ops.all fun o => match o.op with | .defer _ => false | _ => true
theorem noDefer_spec (h : noDefer ops = true) (i : Nat) (o : Oper) (ho : ops[i]? = some o) (c : Call) : o.op ≠ .defer c := by
  intro he
  have := Array.all_eq_true_iff_forall_mem.1 h o (Array.mem_of_getElem? ho)
  rw [he] at this
  cases this
theorem region_round {id : Nat} {a : Act} {w : World} (hd : noDefer ops = true) (hm : P.follows .mixedOrders = true)
    (h : wpAny P .any ops (noOut Q) ops.size (Array.replicate ops.size false) a w.drew) : (Code.region id ops true).wpIn (Fence.wide.inRound l) 0 P Q a w :=
  wpIn_region_any hm (wpAnyIn_of_wpAny (noDefer_spec hd) _ _ _ _ h)
end

/-- How a function that ranges over iterators is left. -/
def marksPost (P : Program) (fn : Func) (R : Ending → World → Prop) : Exit → Act → World → Prop
  | .normal, a, w | .ret, a, w => ∃ (Ds : List Nat) (v : Value), a.defers = Ds.map dmark ∧ Marks w Ds ∧ Ds.Nodup ∧ (results fn a.tmps).run P (shut Ds w) = .ok v (shut Ds w) ∧ R (.returned v) (shut Ds w)
  | _, _, _ => False
/-- A function that ranges over iterators: its contract, out of its body's walk. -/
theorem calls_of_marks {P : Program} {f : FuncId} {fn : Func} {c : Code} {args : Array Value} {w : World} {R : Ending → World → Prop} (hf : P.funcs[f]? = some fn) (hb : fn.body = some c)
    (h : c.wp P (marksPost P fn R) { tmps := args ++ Array.replicate (fn.ntmps - args.size) undef, defers := [] } w) : Calls P f args w R :=
  callsIn_wide.1 (callsIn_of_wp_marks (F := Fence.wide) (n := 0) hf hb trivial (wpIn_mono (wpIn_wide.2 h) (fun e a w hq => by
    cases e with
    | normal => obtain ⟨Ds, v, hd, hm, hn, hr, hR⟩ := hq; show LeavesInM _ _ _ _ _ _ a.defers _ _; rw [hd]; exact leaves_marks Ds w hm hn hr hR
    | ret => obtain ⟨Ds, v, hd, hm, hn, hr, hR⟩ := hq; show LeavesInM _ _ _ _ _ _ a.defers _ _; rw [hd]; exact leaves_marks Ds w hm hn hr hR
    | exit id => exact hq.elim
    | goto t => exact hq.elim
    | panic ch => exact hq.elim
    | outgrown => exact hq.elim)))
theorem ret_marks {P : Program} {fn : Func} {R : Ending → World → Prop} {tmps : Array Value} (v : Value) (Ds : List Nat) {w : World} (hm : Marks w Ds) (hn : Ds.Nodup)
    (hr : (results fn tmps).run P (shut Ds w) = .ok v (shut Ds w)) (hR : R (.returned v) (shut Ds w)) : marksPost P fn R .ret { tmps, defers := Ds.map dmark } w :=
  ⟨Ds, v, rfl, hm, hn, hr, hR⟩
theorem ret_marksG {P : Program} {fn : Func} {R : Ending → World → Prop} {tmps : Array Value} (v : Value) (Ds : List Nat) {w : World} (hm : Marks w Ds) (hn : Ds.Nodup)
    (hr : (results fn tmps).run P (shut Ds w) = .ok v (shut Ds w)) (hR : R (.returned v) (shut Ds w)) : Exit.noGoto (marksPost P fn R) .ret { tmps, defers := Ds.map dmark } w :=
  ⟨Ds, v, rfl, hm, hn, hr, hR⟩
theorem marks_nil (w : World) : Marks w [] := fun _ h => by cases h

/-! ### 5. A block that is known whole -/
def Bx (w : World) (g : Nat) (t : TypeId) (cs : Array Value) : Prop := w.heap[g]? = some (.cells cs t (0, 0))
namespace Bx
variable {w W : World} {g : Nat} {t : TypeId} {cs : Array Value} {S : Nat → Prop}
theorem lt (h : Bx w g t cs) : g < w.heap.size := (Array.getElem?_eq_some_iff.1 h).1
theorem cell (h : Bx w g t cs) (i : Nat) : w.cell? ⟨g, i, none⟩ = cs[i]? := by simp [World.cell?, show w.heap[g]? = _ from h]
theorem at_ (h : Bx w g t cs) (i : Nat) {v : Value} (hv : cs[i]? = some v) : w.cell? ⟨g, i, none⟩ = some v := (h.cell i).trans hv
theorem frz (h : Bx w g t cs) (i : Nat) : w.frozen? ⟨g, i, none⟩ = false := by simp [World.frozen?, show w.heap[g]? = _ from h]
theorem fr (h : Bx w g t cs) (hf : Fr S w W) (hn : ¬ S g) : Bx W g t cs := hf.heap h hn
theorem fr0 (h : Bx w g t cs) (hf : Fr0 w W) : Bx W g t cs := hf.heap h (fun h => h)
theorem new (w : World) (t : TypeId) (cs : Array Value) : Bx (w.alloc (.cells cs t)) w.heap.size t cs := World.alloc_heap_new w _
theorem alloc (h : Bx w g t cs) (o : Obj) : Bx (w.alloc o) g t cs := h.fr0 ((Fr.refl _ _).alloc o)
theorem drewN (h : Bx w g t cs) (n : Nat) : Bx (w.drewN n) g t cs := h
theorem drew (h : Bx w g t cs) : Bx w.drew g t cs := h
theorem far (h : Bx w g t cs) {p : Addr} (hp : g ≠ p.block) (u : Value) : Bx (w.setCell p u) g t cs := (Below.heap_setCell w p u g hp).trans h
theorem set_ (h : Bx w g t cs) (i : Nat) (u : Value) : Bx (w.setCell ⟨g, i, none⟩ u) g t (cs.setIfInBounds i u) := by
  have hg : w.heap[g]? = some (.cells cs t (0, 0)) := h
  show (w.setCell ⟨g, i, none⟩ u).heap[g]? = _
  simp [World.setCell, Array.getElem?_modify, hg]
theorem not_map (h : Bx w g t cs) {mb : Nat} {es : Array MapEntry} {k : Nat} (hm : w.heap[mb]? = some (Obj.map es k)) : g ≠ mb := by
  rintro rfl
  rw [show w.heap[g]? = _ from h] at hm
  cases hm
end Bx
end Go.Proofs.YtfdenclnneigfaaDoor.X
