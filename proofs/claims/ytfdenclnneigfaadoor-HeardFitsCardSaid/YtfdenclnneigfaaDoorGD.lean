import Derived.Test.YtfdenclnneigfaaDoorGB
import Derived.Test.YtfdenclnneigfaaDoorM0
import Derived.ChangeKeysEq
set_option linter.unusedVariables false
set_option linter.unusedSimpArgs false
namespace Go.Proofs.YtfdenclnneigfaaDoor.X
open Go.RowKit Go.Proofs.YtfdenclnneigfaaDoor.M
/-- As Iter; the rounds may write what is new, too. -/
def IterG {α : Type} (P : Program) (g : FuncId) (lb : Array Value) (encs : α → Array Value) (xs : List α) (N : World → (Nat → Prop) → Prop) : Prop :=
 ∀ (l : Nat) (S : Nat → Prop) (J Jx : List α → World → Prop) (W : World), N W S →
  (∀ pre A B, J pre A → Fr0 A B → J pre B) → (∀ pre A B, Jx pre A → Fr0 A B → Jx pre B) →
  (∀ pre x rest W1, xs = pre ++ x :: rest → J pre W1 → YieldAt Fence.wide 0 P l (encs x) W1 fun e W' =>
   (e = .returned (.bool true) ∧ J (pre ++ [x]) W' ∧ Fr S W1 W') ∨ (e = .returned (.bool false) ∧ Jx (pre ++ [x]) W' ∧ Fr S W1 W')) →
  J [] W →
  CallsIn Fence.wide 0 P g (#[.func (.yield l) #[] #[]] ++ lb) W fun e W' => (∃ v, e = .returned v) ∧ (J xs W' ∨ ∃ pre, Jx pre W')
section
variable {P : Program}
/-- A RANGE OVER AN ITERATOR, outside every round. -/
theorem range_topG {α : Type} {g : Operand} {ps : Array Tmp} {assign body : Code} {Q : Exit → Act → World → Prop} {a : Act} {w : World}
  {gf : FuncId} {lb : Array Value} (hg : a.eval g = .func (.func gf) #[] lb) (eg : ∀ args w, (callFunc gf args).run P w = .ok (.enter gf args) w)
  {encs : α → Array Value} {xs : List α} {N : World → (Nat → Prop) → Prop} (hit : IterG P gf lb encs xs N) (hps : ∀ x, (encs x).size = ps.size)
  (S : Nat → Prop) (hS0 : ¬ S w.heap.size) (hS1 : ¬ S (w.heap.size + 1)) (hN : ∀ W (S' : Nat → Prop), Fr0 w W → (∀ k, S' k → S k ∨ k = w.heap.size + 1) → N W S')
  (J : List α → World → Prop) (Jx : Code → List α → World → Prop)
  (hJ : ∀ pre A B, J pre A → Fr (· = w.heap.size + 1) A B → J pre B) (hJx : ∀ c pre A B, Jx c pre A → Fr (· = w.heap.size + 1) A B → Jx c pre B)
  (h0 : ∀ W, Fr0 w W → J [] W)
  (hround : ∀ pre x rest W, xs = pre ++ x :: rest → J pre W → (∃ r, W.heap[w.heap.size + 1]? = some (.loop r)) →
   assign.wpIn (Fence.wide.inRound (w.heap.size + 1)) 0 P (Exit.then (fun a1 W1 => Fr0 W W1 ∧ ∀ W2, Fr (· = w.heap.size + 1) W1 W2 → (∃ r, W2.heap[w.heap.size + 1]? = some (.loop r)) → body.wpIn (Fence.wide.inRound (w.heap.size + 1)) 0 P (roundEnd S J Jx (pre ++ [x]) W2) a1 W2) (fun _ _ _ => False))
    { tmps := (ps.zip (encs x)).foldl (fun t (p, v) => t.setIfInBounds p v) a.tmps, defers := [] } W)
  (hdone : ∀ W', J xs W' → W'.heap[w.heap.size]? = some (.deferred (some [])) → Q .normal { a with defers := dmark w.heap.size :: a.defers } W')
  (hstop : ∀ c pre W', Jx c pre W' → W'.heap[w.heap.size]? = some (.deferred (some [])) → c.wpIn Fence.wide 0 P Q { a with defers := dmark w.heap.size :: a.defers } W') :
  (Code.rangeFunc g ps assign body).wpIn Fence.wide 0 P Q a w := by
 refine wpIn_rangeFunc ?_
 intro fn _
 show ∃ l dmark w₁ d w₁' f args w₂, (Instr.enterLoop fn a.tmps ps assign body none).run P w = _ ∧ _
 obtain ⟨rec, hrec⟩ : ∃ rec : LoopState → Option Code → Loop, rec = fun st pe => { state := st, pending := pe, fn, tmps := a.tmps, params := ps, assign, body, defers := w.heap.size } := ⟨_, rfl⟩
 obtain ⟨W1, hW1⟩ : ∃ W1, (w.alloc (.deferred (some []))).alloc (.loop (rec .ready none)) = W1 := ⟨_, rfl⟩
 have h01 : Fr0 w W1 := by rw [← hW1]; exact ((Fr.refl _ _).alloc _).alloc _
 have hsz : W1.heap.size = w.heap.size + 2 := by rw [← hW1]; simp
 have hL1 : W1.heap[w.heap.size + 1]? = some (.loop (rec .ready none)) := by
  rw [← hW1]; have := World.alloc_heap_new (w.alloc (.deferred (some []))) (.loop (rec .ready none)); rwa [World.size_alloc] at this
 have hK1 : W1.heap[w.heap.size]? = some (.deferred (some [])) := by
  rw [← hW1]; exact (Below.heap_alloc _ _ _ (by simp)).trans (World.alloc_heap_new w _)
 refine ⟨w.heap.size + 1, [{ target := .collected w.heap.size, args := #[] }], W1, { target := .fn (.func gf) lb, args := #[.func (.yield (w.heap.size + 1)) #[] #[]] }, W1, gf,
  #[.func (.yield (w.heap.size + 1)) #[] #[]] ++ lb, W1, ?_, ?_, ?_, ?_, fun h => by simp [Fence.wide] at h, ?_⟩
 ·rw [← hW1, hrec]; exact run_enterLoop_outer _ _ _ _ _
 ·simp only [resolve, hg]
  simp [go_sem]
 ·intro f' _; exact trivial
 ·simp [invoke, go_sem, eg]
 ·have hfr : ∀ {A B : World}, Fr0 A B → Fr (· = w.heap.size + 1) A B := fun h => Fr.of0 h
  refine (hit (w.heap.size + 1) (fun k => S k ∨ k = w.heap.size + 1)
   (fun pre W => (J pre W ∧ W.heap[w.heap.size + 1]? = some (.loop (rec .ready none))) ∧ W.heap[w.heap.size]? = some (.deferred (some [])))
   (fun pre W => (∃ c, Jx c pre W ∧ W.heap[w.heap.size + 1]? = some (.loop (rec .done (some c)))) ∧ W.heap[w.heap.size]? = some (.deferred (some [])))
   W1 (hN _ _ h01 (fun k hk => hk))
   (fun pre A B ⟨⟨h1, h2⟩, h3⟩ h => ⟨⟨hJ _ _ _ h1 (hfr h), h.heap h2 (fun hf => hf)⟩, h.heap h3 (fun hf => hf)⟩)
   (fun pre A B ⟨⟨c, h1, h2⟩, h3⟩ h => ⟨⟨c, hJx _ _ _ _ h1 (hfr h), h.heap h2 (fun hf => hf)⟩, h.heap h3 (fun hf => hf)⟩)
   ?_ ⟨⟨h0 _ h01, hL1⟩, hK1⟩).mono ?_
  ·rintro pre x rest W hx ⟨⟨hj, hl⟩, hk⟩
   obtain ⟨fn', tmps', as', bd', hy, hR⟩ := rounds_of (P := P) (encs := encs) (xs := xs) (rec := rec) (l := w.heap.size + 1) (ps := ps) (assign := assign) (body := body) (tmps := a.tmps) (fn := fn) (S := S) J Jx
    (fun st pe => by subst hrec; exact ⟨rfl, rfl, rfl, rfl, rfl, rfl, rfl, fun _ _ => rfl⟩) hps hS1 hJ hJx
    (fun pre x rest W hx hj hl => wpIn_mono (hround pre x rest W hx hj ⟨_, hl⟩) (fun e a1 W1 hq => by
     cases e with
     | normal => exact ⟨hq.1, fun W2 h12 hl2 => hq.2 W2 h12 ⟨_, hl2⟩⟩
     | _ => exact hq)) pre x rest W hx hj hl
   refine ⟨fn', tmps', as', bd', hy, hR.mono ?_⟩
   have hkeep : ∀ {W' : World}, Fr (fun k => S k ∨ k = w.heap.size + 1) W W' → W'.heap[w.heap.size]? = some (.deferred (some [])) := fun h => h.heap hk (fun h' => by
    rcases h' with h' | h'
    ·exact hS0 h'
    ·omega)
   rintro e W' (⟨rfl, h1, h2⟩ | ⟨rfl, h1, h2⟩)
   ·exact .inl ⟨rfl, ⟨h1, hkeep h2⟩, h2⟩
   ·exact .inr ⟨rfl, ⟨h1, hkeep h2⟩, h2⟩
  ·rintro e W2 ⟨⟨v, rfl⟩, (⟨⟨hj, hl⟩, hk⟩ | ⟨pre, ⟨c, hj, hl⟩, hk⟩)⟩
   ·have he := run_endLoop (P := P) hl (by rw [hrec]; simp)
    refine ⟨none, W2.putObj (w.heap.size + 1) (.loop { rec .ready none with state := .exhausted }), by rw [he, hrec], hdone _ (hJ _ _ _ hj (Fr.put1 _ _ _)) ((World.putObj_heap_other (by omega)).trans hk)⟩
   ·have he := run_endLoop (P := P) hl (by rw [hrec]; simp)
    refine ⟨some c, W2.putObj (w.heap.size + 1) (.loop { rec .done (some c) with state := .exhausted }), by rw [he, hrec], hstop _ pre _ (hJx _ _ _ _ hj (Fr.put1 _ _ _)) ((World.putObj_heap_other (by omega)).trans hk)⟩
end
end Go.Proofs.YtfdenclnneigfaaDoor.X
namespace Go.Proofs.YtfdenclnneigfaaDoor.R
open Go.RowKit Go.Shelf Go.Proofs.YtfdenclnneigfaaDoorW.PrintWords Go.Proofs.YtfdenclnneigfaaDoorW.PrintLast Go.Proofs.YtfdenclnneigfaaDoor.PRaspKeys Go.Proofs.YtfdenclnneigfaaDoor.X
theorem range_split (n k : Nat) (hk : k < n) : ∃ rest, List.range n = List.range k ++ k :: rest := by
 refine ⟨(List.range n).drop (k + 1), ?_⟩
 have h1 : (List.range n).take k = List.range k := by rw [List.take_range]; congr 1; omega
 have h2 : (List.range n).drop k = k :: (List.range n).drop (k + 1) := by
  rw [List.drop_eq_getElem_cons (by simpa using hk)]; simp
 rw [← h1, ← h2, List.take_append_drop]
theorem start_round {P : Program} {ops : Array Oper} {Q : Exit → Act → World → Prop} {S : World → Prop} {ds : List Nat} {lp id n : Nat} {a : Act} {w : World} (l : Array Bool) (hd : noDefer ops = true) (hm : P.follows .mixedOrders = true) (hn : ops.size = n) (hl : Array.replicate n false = l) (hS : S w.drew)
  (h : S w.drew → wpAnyLast P .any ops (noOut Q) S ds n l a w.drew) : (Code.region id ops true).wpIn (Fence.wide.inRound lp) 0 P Q a w := by
 subst hn
 subst hl
 exact region_round hd hm (wpAny_of_last _ _ _ _ (h hS))
end Go.Proofs.YtfdenclnneigfaaDoor.R
namespace Go.Proofs.YtfdenclnneigfaaDoor.R
open Go.RowKit Go.Shelf Go.Proofs.YtfdenclnneigfaaDoorW.PrintWords Go.Proofs.YtfdenclnneigfaaDoorW.PrintLast Go.Proofs.YtfdenclnneigfaaDoor.PRaspKeys Go.Proofs.YtfdenclnneigfaaDoor.X Go.Proofs.YtfdenclnneigfaaDoor.M
attribute [local go_sem] Oper.semAt_some
/-! ### The strokes behind one -/
theorem behind100 (x : HC) (s last : Int) (w : World) :
  Calls Tryd.prog 100 #[x.val, .int .i64 s, .int .i64 last] w fun e w' =>
   e = .returned (.func (.func 104) #[] #[.pointer (some ⟨w.heap.size + 1, 0, none⟩), .pointer (some ⟨w.heap.size + 1 + 1, 0, none⟩), .pointer (some ⟨w.heap.size, 0, none⟩)]) ∧
   w' = ((w.alloc (.cells x.cells 79)).alloc (.cells #[.int .i64 s] 3)).alloc (.cells #[.int .i64 last] 3) := by
 unfold HC.val HC.cells
 go_enter Tryd.func100, Tryd.ntmps100
 go_wp2_with fail
 go_ret
 exact ⟨rfl, rfl⟩
structure BhAt (x : HC) (w0 : World) (A1 : Option Addr) (c1 : Nat) (s : Nat) (last : Int) (bS bL bB : Nat) (W : World) (S : Nat → Prop) : Prop where
 base : Below w0.heap.size w0 W
 lies : x.Lies A1 c1 w0
 cs : W.cell? ⟨bS, 0, none⟩ = some (.int .i64 (s : Int))
 cl : W.cell? ⟨bL, 0, none⟩ = some (.int .i64 last)
 cb : Bx W bB 79 #[.int .i64 x.g, .slice x.A x.l.length x.c, .slice x.Ap x.ps.length x.cp, .int .i64 x.piece, .slice x.At x.t.length x.ct, .slice x.Ag x.gs.length x.cg, .int .i64 x.lost, .int .i64 x.wrong]
 n0 : ∀ k, S k → w0.heap.size ≤ k ∧ k ≠ bS ∧ k ≠ bL ∧ k ≠ bB
theorem HC.Lies.below {x : HC} {A1 : Option Addr} {c1 : Nat} {w w' : World} (h : x.Lies A1 c1 w) (hf : Below w.heap.size w w') : x.Lies A1 c1 w' := by
 obtain ⟨ad, e, h⟩ := h
 exact ⟨ad, e, (hf.cell (World.block_lt_of_cell? _ _ h)).trans h⟩
theorem BhAt.fr {x : HC} {w0 : World} {A1 : Option Addr} {c1 s : Nat} {last : Int} {bS bL bB : Nat} {W W' : World} {S : Nat → Prop} (h : BhAt x w0 A1 c1 s last bS bL bB W S) (hf : Fr S W W') : BhAt x w0 A1 c1 s last bS bL bB W' S :=
 ⟨h.base.trans (hf.below h.base.size (fun k hk hS => by have := (h.n0 k hS).1; omega)), h.lies, hf.cell h.cs (fun hS => (h.n0 _ hS).2.1 rfl), hf.cell h.cl (fun hS => (h.n0 _ hS).2.2.1 rfl), h.cb.fr hf (fun hS => (h.n0 _ hS).2.2.2 rfl), h.n0⟩
set_option maxHeartbeats 4000000 in
set_option maxRecDepth 100000 in
theorem behind_iter (x : HC) (w0 : World) (A1 : Option Addr) (c1 s : Nat) (last : Int) (hp0 : 0 ≤ x.piece) (hp1 : x.piece < x.ps.length) (hq : x.p.length ≤ 24) (hs : s ≤ 1000) (h0 : -1000 ≤ last) (h1 : last ≤ 1000) (bS bL bB : Nat) :
  IterG Tryd.prog 104 #[.pointer (some ⟨bS, 0, none⟩), .pointer (some ⟨bL, 0, none⟩), .pointer (some ⟨bB, 0, none⟩)] (fun i : Nat => #[.int .i64 ((s + 1 + i : Nat) : Int)]) (List.range (min last ((x.p.length : Int) - 1) - s).toNat)
   (BhAt x w0 A1 c1 s last bS bL bB) := by
 intro lY S J Jx W hN hJ hJx hY h0'
 have HN := Lib.hid hN
 have cs := hN.cs
 have HT := Lib.hid (fun W' (h : x.Lies A1 c1 W') => tones63x x A1 c1 W' hp0 hp1 h)
 unfold HC.val at HT
 have HB := Lib.hid (show -1000 ≤ last ∧ last ≤ 1000 ∧ s ≤ 1000 ∧ x.p.length ≤ 24 from ⟨h0, h1, hs, hq⟩)
 clear hN hp0 hp1 h0 h1 hq hs
 generalize x.p.length = pl at *
 obtain ⟨M, hM⟩ : ∃ M : Int, M = min last ((pl : Int) - 1) := ⟨_, rfl⟩
 rw [← hM] at hY ⊢
 have HM := Lib.hid hM
 clear hM
 obtain ⟨m, hm⟩ : ∃ m : Nat, m = (M - s).toNat := ⟨_, rfl⟩
 rw [← hm] at hY ⊢
 have HMM := Lib.hid hm
 clear hm
 have hs64 : (s : Int) ≤ 1000 := by have := HB.out.2.2.1; omega
 refine callsIn_of_wp Tryd.func104 rfl trivial ?_ rfl
 simp only [Tryd.ntmps104, List.size_toArray, List.length_cons, List.length_nil, Nat.reduceAdd, Nat.reduceSub, Array.replicate_succ, Array.replicate_zero, List.push_toArray, List.append_toArray, List.nil_append, List.cons_append]
 gi_wp2
 gi_loopw [5] (fun v wr => ∃ k : Nat, k ≤ m ∧ v = .int .i64 ((s + 1 + k : Nat) : Int) ∧ J (List.range k) wr ∧ Fr S W wr) (fun v _ => (1000 + 1000 - intOf v).toNat)
 case atStart => exact ⟨0, by omega, by first | rfl | (go_num; rfl) | (congr 1; push_cast; omega), h0', Fr.refl _ _⟩
 case round =>
  obtain ⟨k, hk, rfl, hj, hf⟩ := hrel
  have hNr := HN.out.fr hf
  have HNr := Lib.hid hNr
  have HL := Lib.hid (hNr.lies.below hNr.base)
  have q1 := hNr.cl
  have q2 := hNr.cb.at_ 0 (v := .int .i64 x.g) rfl
  have q3 := hNr.cb.at_ 1 (v := .slice x.A x.l.length x.c) rfl
  have q4 := hNr.cb.at_ 2 (v := .slice x.Ap x.ps.length x.cp) rfl
  have q5 := hNr.cb.at_ 3 (v := .int .i64 x.piece) rfl
  have q6 := hNr.cb.at_ 4 (v := .slice x.At x.t.length x.ct) rfl
  have q7 := hNr.cb.at_ 5 (v := .slice x.Ag x.gs.length x.cg) rfl
  have q8 := hNr.cb.at_ 6 (v := .int .i64 x.lost) rfl
  have q9 := hNr.cb.at_ 7 (v := .int .i64 x.wrong) rfl
  clear hNr cs
  have HJ := Lib.hid hj
  have HF := Lib.hid hf
  clear hj hf
  have hN1 : ((s + 1 + k : Nat) : Int) = s + 1 + k := by omega
  generalize hNk : s + 1 + k = N at *
  have HN1 := Lib.hid hN1
  have HNk := Lib.hid hNk
  clear hN1 hNk
  gi_wp2
  rw [wpIn_wide]
  refine start_ (n := 8) (S := fun w' => w'.cell? ⟨bL, 0, none⟩ = some (.int .i64 last) ∧ w'.cell? ⟨bB, 0, none⟩ = some (.int .i64 x.g) ∧ w'.cell? ⟨bB, 1, none⟩ = some (.slice x.A x.l.length x.c) ∧ w'.cell? ⟨bB, 2, none⟩ = some (.slice x.Ap x.ps.length x.cp) ∧ w'.cell? ⟨bB, 3, none⟩ = some (.int .i64 x.piece) ∧ w'.cell? ⟨bB, 4, none⟩ = some (.slice x.At x.t.length x.ct) ∧ w'.cell? ⟨bB, 5, none⟩ = some (.slice x.Ag x.gs.length x.cg) ∧ w'.cell? ⟨bB, 6, none⟩ = some (.int .i64 x.lost) ∧ w'.cell? ⟨bB, 7, none⟩ = some (.int .i64 x.wrong)) (ds := []) (.replicate 8 false) (by kernel_rfl) rfl rfl ⟨q1, q2, q3, q4, q5, q6, q7, q8, q9⟩ (fun hHeld => ?_)
  refine pu 0 8 (bt 8 1) (k := ?_)
  refine tk9 1 9 (bt 8 3) hHeld (k := ?_)
  refine tk9 2 10 (bt 8 7) hHeld (k := ?_)
  refine oN 3 11 (bt 8 15) (h := fun K hK => ?_)
  refine goes_ Tryd.func63 (by kernel_rfl) rfl #[.agg #[.int .i64 x.g, .slice x.A x.l.length x.c, .slice x.Ap x.ps.length x.cp, .int .i64 x.piece, .slice x.At x.t.length x.ct, .slice x.Ag x.gs.length x.cg, .int .i64 x.lost, .int .i64 x.wrong]] (by rfl) rfl rfl TN ?_
  with_reducible refine (HT.out _ (HL.out.fr (Fr.drew (Fr.refl _ wr)))).mono ?_
  rintro e w3 ⟨rfl, hf3⟩
  refine ⟨_, rfl, ?_⟩
  have H3 := Lib.hid (Fr0.trans (Fr.drew (Fr.refl _ wr)) hf3)
  refine hK.out _ _ ⟨(H3.out.cell0 q1), (H3.out.cell0 q2), (H3.out.cell0 q3), (H3.out.cell0 q4), (H3.out.cell0 q5), (H3.out.cell0 q6), (H3.out.cell0 q7), (H3.out.cell0 q8), (H3.out.cell0 q9)⟩ (fun hHeld => ?_)
  clear hK K
  refine norm_ (a' := ?_) ?_ ?_
  rotate_left
  ·show Act.put _ (some 11) _ = _
   simp only [Act.put, lA, lZ, lS, i64_w, i32_w]
   rfl
  refine pu 4 12 (bt 8 31) (k := ?_)
  refine pu 5 13 (bt 8 63) (k := ?_)
  refine pu 6 14 (bt 8 127) (k := ?_)
  refine pu 7 15 (bt 8 255) (k := ?_)
  refine done_ (by kernel_rfl) ?_
  clear q1 q2 q3 q4 q5 q6 q7 q8 q9
  have HM2 : (if wrap64 ((pl : Int) - 1) < last then wrap64 ((pl : Int) - 1) else last) = M := by
   have hb := HB.out
   rw [HM.out, w64 (by omega) (by omega)]
   split <;> omega
  rw [HM2]
  clear HM2
  by_cases hlt : k < m
  ·have hle : (N : Int) ≤ M := by have h1 := HN1.out; have h2 := HMM.out; omega
   obtain ⟨rest, hsp⟩ := range_split m k hlt
   have hYk := hY _ _ rest w3 hsp (hJ _ _ _ HJ.out H3.out)
   rw [HNk.out] at hYk
   obtain ⟨fn, tmps, assign, body, hy, hR⟩ := hYk
   have HFF := Lib.hid (Fr.step0 HF.out H3.out)
   have HLT := Lib.hid hlt
   have hNb : (N : Int) ≤ 2000 := by have hb := HB.out; have h1 := HM.out; omega
   clear hY hsp hlt hle
   have hle : (N : Int) ≤ M := by have h1 := HN1.out; have h2 := HMM.out; have h3 := HLT.out; omega
   gi_wp2
   refine ⟨rfl, hR.mono ?_⟩
   clear hR hy
   rintro e W' (⟨rfl, hj', hk'⟩ | ⟨rfl, hj', hk'⟩)
   ·gi_wp2
    go_roundw
    case rel => exact ⟨k + 1, by have := HLT.out; omega, by (have h1 := HN1.out); (congr 1; push_cast; omega), by rw [List.range_succ]; exact hj', HFF.out.trans hk'⟩
    case measure => (have hb := HB.out); (have h1 := HM.out); simp [intOf]; omega
   ·gi_wp2
    refine bodyPost_ret (results_none rfl _ _ _) rfl ?_
    exact ⟨⟨_, rfl⟩, .inr ⟨_, hj'⟩⟩
  ·obtain rfl : k = m := by omega
   have hle : ¬ ((N : Int) ≤ M) := by have h1 := HN1.out; have h2 := HMM.out; omega
   clear hY
   gi_wp2
   go_end0
   exact ⟨⟨_, rfl⟩, .inl (hJ _ _ _ HJ.out H3.out)⟩
end Go.Proofs.YtfdenclnneigfaaDoor.R
namespace Go.Proofs.YtfdenclnneigfaaDoor.R
open Go.RowKit Go.Shelf Go.Proofs.YtfdenclnneigfaaDoorW.PrintWords Go.Proofs.YtfdenclnneigfaaDoorW.PrintLast Go.Proofs.YtfdenclnneigfaaDoor.PRaspKeys Go.Proofs.YtfdenclnneigfaaDoor.X Go.Proofs.YtfdenclnneigfaaDoor.M
attribute [local go_sem] Oper.semAt_some
/-! ### What reads tells -/
theorem HC.Ok.below {x : HC} {w w' : World} (h : x.Ok w) (hf : Below w.heap.size w w') : x.Ok w' := by
 have hG := h.hb.bk.glob
 exact ⟨⟨⟨Kd.C_below h.hb.bk.r hf, h.hb.bk.c, ⟨(hf.cell (World.block_lt_of_cell? _ _ hG.g0)).trans hG.g0, (hf.cell (World.block_lt_of_cell? _ _ hG.g1)).trans hG.g1⟩⟩, Kd.C_below h.hb.r hf, h.hb.c⟩, ⟨Kd.C_below h.n.rt hf, h.n.ct, Kd.C_below h.n.rg hf, h.n.cg⟩, h.ok, h.ask⟩
theorem least_of (a b : Int) (ha : -1000000 ≤ a) (ha' : a ≤ 1000000) (hb : -1000000 ≤ b) (hb' : b ≤ 1000000) : heard_least_int.f 2 a [b] = some (min a b) := by
 simp [heard_least_int.f, heard_turned_int.f, heard_turned_int.l0, heard_greatest_int.f, heard_greatest_int.l0, wrap64, rd, mx]
 omega
theorem least74 (a b : Int) (w : World) (ha : -1000000 ≤ a) (ha' : a ≤ 1000000) (hb : -1000000 ≤ b) (hb' : b ≤ 1000000) : Calls Tryd.prog 74 #[.int .i64 a, .slice (some ⟨w.heap.size, 0, none⟩) 1 1] (w.alloc (.cells #[.int .i64 b] 3)) fun e w' => e = .returned (.int .i64 (min a b)) ∧ Fr0 (w.alloc (.cells #[.int .i64 b] 3)) w' :=
 (heard_least_int.calls 2 a (some ⟨w.heap.size, 0, none⟩) 1 [b] (min a b) _ (one_row w b) (by simp) (least_of a b ha ha' hb hb')).mono fun e w' h => ⟨h.1, Go.Proofs.YtfdenclnneigfaaDoor.X.Fr.of_below h.2⟩
structure RdC where
 x : HC
 w0 : World
 F : FuncId
 lF : Array Value
 may : Nat → Nat → Bool
 last : Int
 A1 : Option Addr
 c1 : Nat
 bm : Nat
 bb : Nat
 bY : Nat
 bl : Nat
 bf : Nat
 mb : Nat
def RdC.lb (c : RdC) : Array Value := #[.pointer (some ⟨c.bm, 0, none⟩), .pointer (some ⟨c.bb, 0, none⟩), .pointer (some ⟨c.bY, 0, none⟩), .pointer (some ⟨c.bl, 0, none⟩), .pointer (some ⟨c.bf, 0, none⟩)]
def HC.costM (x : HC) (may : Nat → Nat → Bool) (k s : Nat) : Int := if may k s = true then x.cost k s else 1000
def RdC.hi (c : RdC) : Int := min c.last ((c.x.p.length : Int) - 1)
def RdC.at (c : RdC) (k s : Nat) : Int := H.rdN (c.x.costM c.may) c.hi (c.x.t.length - 1 - k) k s
structure RdC.Fix (c : RdC) : Prop where
 ok : c.x.Ok c.w0
 lies : c.x.Lies c.A1 c.c1 c.w0
 l0 : -1000 ≤ c.last
 l1 : c.last ≤ 1000
 old : c.w0.heap.size ≤ c.mb
 eF : ∀ args w, (callFunc c.F args).run Tryd.prog w = .ok (.enter c.F args) w
 by_ : ∀ (W : World) (k s : Nat), Below c.w0.heap.size c.w0 W → Calls Tryd.prog c.F (#[.agg #[.int .i64 (k : Int), .int .i64 (s : Int)]] ++ c.lF) W fun e w' => e = .returned (.bool (c.may k s)) ∧ Fr0 W w'
def RdC.Memo (c : RdC) (w : World) : Prop := ∃ f, MapFn w c.mb f ∧ ∀ (i j : Nat) (v : Value), f i j = some v → v = .int .i64 (c.at i j)
structure RdC.Inv (c : RdC) (w : World) : Prop where
 base : Below c.w0.heap.size c.w0 w
 vm : w.cell? ⟨c.bm, 0, none⟩ = some (.map (some c.mb))
 vb : Bx w c.bb 79 #[.int .i64 c.x.g, .slice c.x.A c.x.l.length c.x.c, .slice c.x.Ap c.x.ps.length c.x.cp, .int .i64 c.x.piece, .slice c.x.At c.x.t.length c.x.ct, .slice c.x.Ag c.x.gs.length c.x.cg, .int .i64 c.x.lost, .int .i64 c.x.wrong]
 vy : w.cell? ⟨c.bY, 0, none⟩ = some (.func (.func c.F) #[] c.lF)
 vl : w.cell? ⟨c.bl, 0, none⟩ = some (.int .i64 c.last)
 vf : w.cell? ⟨c.bf, 0, none⟩ = some (.func (.func 98) #[] c.lb)
 memo : c.Memo w
theorem RdC.Inv.step {c : RdC} (hF : c.Fix) {w w' : World} (h : c.Inv w) (hf : Fr (· = c.mb) w w') (hm : c.Memo w') : c.Inv w' := by
 obtain ⟨f, hmf, _⟩ := h.memo
 obtain ⟨es, k, ho⟩ := hmf.obj
 exact ⟨h.base.trans (hf.below h.base.size (fun k hk e => by have := hF.old; omega)), hf.cellM ho h.vm, h.vb.fr hf (h.vb.not_map ho), hf.cellM ho h.vy, hf.cellM ho h.vl, hf.cellM ho h.vf, hm⟩
theorem RdC.Inv.step0 {c : RdC} {w w' : World} (h : c.Inv w) (hf : Fr0 w w') : c.Inv w' := by
 obtain ⟨f, hmf, hv⟩ := h.memo
 exact ⟨h.base.trans (hf.below h.base.size (fun _ _ h => h)), hf.cell0 h.vm, h.vb.fr0 hf, hf.cell0 h.vy, hf.cell0 h.vl, hf.cell0 h.vf, ⟨f, hmf.same (hf.block _ hmf.lt (fun h => h)), hv⟩⟩
/-- What the closure tells. -/
def RdC.Says (c : RdC) (i j : Nat) (w : World) : Prop :=
 Calls Tryd.prog 98 #[.agg #[.int .i64 (i : Int), .int .i64 (j : Int)], .pointer (some ⟨c.bm, 0, none⟩), .pointer (some ⟨c.bb, 0, none⟩), .pointer (some ⟨c.bY, 0, none⟩), .pointer (some ⟨c.bl, 0, none⟩), .pointer (some ⟨c.bf, 0, none⟩)] w fun e w' => e = .returned (.int .i64 (c.at i j)) ∧ c.Memo w' ∧ Fr (· = c.mb) w w'
set_option maxHeartbeats 4000000 in
set_option maxRecDepth 100000 in
theorem reads_hit (c : RdC) (i j : Nat) (w : World) (hI : c.Inv w) (f : Int → Int → Option Value) (hmf : MapFn w c.mb f) (hv : f i j = some (.int .i64 (c.at i j))) : c.Says i j w := by
 unfold RdC.Says
 have hf0 : Fr0 w (w.alloc (.cells #[.int .i64 (i : Int), .int .i64 (j : Int)] 92)) := (Fr.refl _ _).alloc _
 have c0 : Bx (w.alloc (.cells #[.int .i64 (i : Int), .int .i64 (j : Int)] 92)) w.heap.size 92 #[.int .i64 (i : Int), .int .i64 (j : Int)] := Bx.of_new rfl
 have HI := Lib.hid (hI.step0 hf0)
 have hlk : (Instr.lookup 122 (.map (some c.mb)) (.agg #[.int .i64 (i : Int), .int .i64 (j : Int)]) true).run Tryd.prog (w.alloc (.cells #[.int .i64 (i : Int), .int .i64 (j : Int)] 92)) = .ok (.tuple #[.int .i64 (c.at i j), .bool true]) (w.alloc (.cells #[.int .i64 (i : Int), .int .i64 (j : Int)] 92)) := by
  have hm2 := hmf.same (hf0.block _ hmf.lt (fun h => h))
  have := lookup_k2 key92 Tryd.underlying122 zero3 hm2 (i : Int) (j : Int)
  rw [hv] at this
  exact this
 clear hI hv hmf
 generalize c.at i j = R at *
 go_enter Tryd.func98, Tryd.ntmps98
 go_upto_region 1 with fail
 generalize hW : w.alloc (.cells #[.int .i64 (i : Int), .int .i64 (j : Int)] 92) = W at hf0 c0 HI hlk ⊢
 clear hW
 have y0 := c0.at_ 0 (v := .int .i64 (i : Int)) rfl
 have y1 := c0.at_ 1 (v := .int .i64 (j : Int)) rfl
 have vm := HI.out.vm
 have HFR := Lib.hid hf0
 clear c0 hf0
 go_wp2
 refine bodyPost_ret (v := .int .i64 R) (by simp [results, Tryd.results98, go_sem]) rfl ⟨rfl, HI.out.memo, Fr.of0 HFR.out⟩
theorem HC.cost_bnd (x : HC) (k s : Nat) : 0 ≤ x.cost k s ∧ x.cost k s ≤ 1000 := by
 unfold HC.cost
 split
 ·omega
 ·split
  ·omega
  ·split <;> omega
theorem HC.costM_bnd (x : HC) (may : Nat → Nat → Bool) (k s : Nat) : 0 ≤ x.costM may k s ∧ x.costM may k s ≤ 1000 := by
 have := x.cost_bnd k s
 unfold HC.costM
 split <;> omega
theorem RdC.at_flat (c : RdC) (i j : Nat) (h : ¬ (c.x.costM c.may i j < 1000 ∧ i + 1 < c.x.t.length)) : c.at i j = c.x.costM c.may i j := by
 unfold RdC.at
 cases hd : c.x.t.length - 1 - i with
 | zero => rfl
 | succ d => unfold H.rdN; rw [if_neg (fun hc => h ⟨hc, by omega⟩)]
theorem RdC.at_deep (c : RdC) (i j : Nat) (h : c.x.costM c.may i j < 1000) (hi : i + 1 < c.x.t.length) : c.at i j = min 1000 (c.x.costM c.may i j + H.minT (fun s => c.at (i + 1) s) (j + 1) (c.hi - j).toNat) := by
 have e : c.x.t.length - 1 - i = (c.x.t.length - 1 - (i + 1)) + 1 := by omega
 show H.rdN (c.x.costM c.may) c.hi (c.x.t.length - 1 - i) i j = _
 rw [e, H.rdN, if_pos h]
 rfl
theorem RdC.memo_put (c : RdC) {W : World} {f' : Int → Int → Option Value} (i j : Nat) (v : Int) (o : Obj) (hfv' : ∀ (i j : Nat) (v : Value), f' i j = some v → v = .int .i64 (c.at i j)) (hmfu : MapFn (World.putObj W c.mb o) c.mb fun x y => if x = (i : Int) ∧ y = (j : Int) then some (.int .i64 v) else f' x y) (hv : c.at i j = v) : c.Memo (World.putObj W c.mb o) := ⟨_, hmfu, fun i' j' v' h => by
  by_cases e : (i' : Int) = i ∧ (j' : Int) = j
  ·rw [if_pos e] at h
   obtain ⟨e1, e2⟩ := e
   obtain rfl : i' = i := by omega
   obtain rfl : j' = j := by omega
   cases h
   rw [hv]
  ·rw [if_neg e] at h
   exact hfv' i' j' v' h⟩
set_option maxHeartbeats 8000000 in
set_option maxRecDepth 100000 in
theorem reads_flat (c : RdC) (hF : c.Fix) (i j : Nat) (w : World) (hI : c.Inv w) (hi : i < c.x.t.length) (hj : j < c.x.p.length) (f : Int → Int → Option Value) (hmf : MapFn w c.mb f) (hv : f i j = none)
  (hflat : ¬ (c.x.costM c.may i j < 1000 ∧ i + 1 < c.x.t.length)) : c.Says i j w := by
 unfold RdC.Says
 have ht1 := hF.ok.facts.t2
 have hf0 : Fr0 w (w.alloc (.cells #[.int .i64 (i : Int), .int .i64 (j : Int)] 92)) := (Fr.refl _ _).alloc _
 have c0 : Bx (w.alloc (.cells #[.int .i64 (i : Int), .int .i64 (j : Int)] 92)) w.heap.size 92 #[.int .i64 (i : Int), .int .i64 (j : Int)] := Bx.of_new rfl
 have HI := Lib.hid (hI.step0 hf0)
 have hlk : (Instr.lookup 122 (.map (some c.mb)) (.agg #[.int .i64 (i : Int), .int .i64 (j : Int)]) true).run Tryd.prog (w.alloc (.cells #[.int .i64 (i : Int), .int .i64 (j : Int)] 92)) = .ok (.tuple #[.int .i64 0, .bool false]) (w.alloc (.cells #[.int .i64 (i : Int), .int .i64 (j : Int)] 92)) := by
  have hm2 := hmf.same (hf0.block _ hmf.lt (fun h => h))
  have := lookup_k2 key92 Tryd.underlying122 zero3 hm2 (i : Int) (j : Int)
  rw [hv] at this
  exact this
 have HNE := Lib.hid (show w.heap.size ≠ c.mb by have := hmf.lt; omega)
 have HFX := Lib.hid hF
 have HOF := Lib.hid (fun W' (hW : Below c.w0.heap.size c.w0 W') => off99 c.x i j W' (hF.ok.below hW) hi hj)
 unfold HC.val at HOF
 have HBY := Lib.hid (fun W' (hW : Below c.w0.heap.size c.w0 W') => hF.by_ W' i j hW)
 have heF := hF.eF
 have HEQ := Lib.hid (c.at_flat i j hflat)
 have hkb := c.x.cost_bnd i j
 have HGD := Lib.hid (show c.may i j = true → ¬ (c.x.cost i j < 1000 ∧ i + 1 < c.x.t.length) from fun h => by unfold HC.costM at hflat; rw [if_pos h] at hflat; exact hflat)
 unfold HC.costM at HEQ
 have hi64 : (i : Int) ≤ 1000000 := by omega
 clear hI hv hmf hflat hi hj hF
 generalize hRe : c.at i j = R at *
 have HRE := Lib.hid hRe
 clear hRe
 generalize c.x.cost i j = K at *
 generalize c.may i j = b at *
 go_enter Tryd.func98, Tryd.ntmps98
 go_upto_region 1 with fail
 generalize hW : w.alloc (.cells #[.int .i64 (i : Int), .int .i64 (j : Int)] 92) = W at hf0 c0 HI hlk ⊢
 clear hW
 generalize w.heap.size = b5 at c0 HNE ⊢
 have y0 := c0.at_ 0 (v := .int .i64 (i : Int)) rfl
 have y1 := c0.at_ 1 (v := .int .i64 (j : Int)) rfl
 have vm := HI.out.vm
 have HFR := Lib.hid hf0
 have HC0 := Lib.hid c0
 clear c0 hf0
 go_upto_region 4 with fail
 have u0 := HI.out.vb.at_ 0 (v := .int .i64 c.x.g) rfl
 have u1 := HI.out.vb.at_ 1 (v := .slice c.x.A c.x.l.length c.x.c) rfl
 have u2 := HI.out.vb.at_ 2 (v := .slice c.x.Ap c.x.ps.length c.x.cp) rfl
 have u3 := HI.out.vb.at_ 3 (v := .int .i64 c.x.piece) rfl
 have u4 := HI.out.vb.at_ 4 (v := .slice c.x.At c.x.t.length c.x.ct) rfl
 have u5 := HI.out.vb.at_ 5 (v := .slice c.x.Ag c.x.gs.length c.x.cg) rfl
 have u6 := HI.out.vb.at_ 6 (v := .int .i64 c.x.lost) rfl
 have u7 := HI.out.vb.at_ 7 (v := .int .i64 c.x.wrong) rfl
 clear vm hlk
 go_upto_region 5 with (go_at_call 99; refine (HOF.out _ HI.out.base).mono ?_; rintro e W1 ⟨rfl, hf1⟩)
 have HI1 := Lib.hid (HI.out.step0 hf1)
 have HF1 := Lib.hid hf1
 have y0 := hf1.cell0 y0
 have y1 := hf1.cell0 y1
 have vy := HI1.out.vy
 clear u0 u1 u2 u3 u4 u5 u6 u7 hf1
 go_wp2
 refine Calls.mono (HBY.out _ HI1.out.base) ?_
 rintro e W2 ⟨rfl, hf2⟩
 have HI2 := Lib.hid (HI1.out.step0 hf2)
 have HF2 := Lib.hid (Fr0.trans HF1.out hf2)
 have y0 := hf2.cell0 y0
 have y1 := hf2.cell0 y1
 have u4 := HI2.out.vb.at_ 4 (v := .slice c.x.At c.x.t.length c.x.ct) rfl
 clear hf2 vy
 cases b
 ·have HRV := Lib.hid (show R = 1000 by rw [HEQ.out]; rfl)
  clear u4
  have vm := HI2.out.vm
  obtain ⟨f', hmf', hfv'⟩ := HI2.out.memo
  obtain ⟨o, hoc, hom, hru, hmfu⟩ := update_k2 key92 Tryd.underlying122 hmf' (i : Int) (j : Int) (.int .i64 1000)
  have HM := Lib.hid (c.memo_put i j 1000 o hfv' hmfu (by rw [HRE.out]; exact HRV.out))
  have HPF := Lib.hid ((Fr.of0 (S := (· = c.mb)) HF2.out).putObj (.inl rfl) o)
  unfold k2 at hru
  clear hmfu hfv' hmf' hom hoc
  go_wp2
  refine bodyPost_ret (v := .int .i64 1000) (by simp [results, Tryd.results98, go_sem]) rfl ⟨by rw [HRV.out], HM.out, (Fr.of0 HFR.out).trans HPF.out⟩
 ·have HRV := Lib.hid (show R = K by rw [HEQ.out]; rfl)
  by_cases hk : K < 1000
  ·have hle : ¬ ((i : Int) + 1 < c.x.t.length) := by have := HGD.out rfl; omega
   have vm := HI2.out.vm
   obtain ⟨f', hmf', hfv'⟩ := HI2.out.memo
   obtain ⟨o, hoc, hom, hru, hmfu⟩ := update_k2 key92 Tryd.underlying122 hmf' (i : Int) (j : Int) (.int .i64 K)
   have HM := Lib.hid (c.memo_put i j K o hfv' hmfu (by rw [HRE.out]; exact HRV.out))
   have HPF := Lib.hid ((Fr.of0 (S := (· = c.mb)) HF2.out).putObj (.inl rfl) o)
   unfold k2 at hru
   clear hmfu hfv' hmf' hom hoc
   go_wp2
   refine bodyPost_ret (v := .int .i64 K) (by simp [results, Tryd.results98, go_sem]) rfl ⟨by rw [HRV.out], HM.out, (Fr.of0 HFR.out).trans HPF.out⟩
  ·clear u4
   have vm := HI2.out.vm
   obtain ⟨f', hmf', hfv'⟩ := HI2.out.memo
   obtain ⟨o, hoc, hom, hru, hmfu⟩ := update_k2 key92 Tryd.underlying122 hmf' (i : Int) (j : Int) (.int .i64 K)
   have HM := Lib.hid (c.memo_put i j K o hfv' hmfu (by rw [HRE.out]; exact HRV.out))
   have HPF := Lib.hid ((Fr.of0 (S := (· = c.mb)) HF2.out).putObj (.inl rfl) o)
   unfold k2 at hru
   clear hmfu hfv' hmf' hom hoc
   go_wp2
   refine bodyPost_ret (v := .int .i64 K) (by simp [results, Tryd.results98, go_sem]) rfl ⟨by rw [HRV.out], HM.out, (Fr.of0 HFR.out).trans HPF.out⟩
end Go.Proofs.YtfdenclnneigfaaDoor.R
namespace Go.Proofs.YtfdenclnneigfaaDoor.R
open Go.RowKit Go.Shelf Go.Proofs.YtfdenclnneigfaaDoorW.PrintWords Go.Proofs.YtfdenclnneigfaaDoorW.PrintLast Go.Proofs.YtfdenclnneigfaaDoor.PRaspKeys Go.Proofs.YtfdenclnneigfaaDoor.X Go.Proofs.YtfdenclnneigfaaDoor.M
attribute [local go_sem] Oper.semAt_some
/-! ### What reads tells: with notes behind it -/
theorem Fr.wide {S S' : Nat → Prop} {a b : World} (h : Go.Proofs.YtfdenclnneigfaaDoor.X.Fr S a b) (hw : ∀ k, S k → S' k) : Go.Proofs.YtfdenclnneigfaaDoor.X.Fr S' a b := ⟨h.os, h.tape, h.output, h.size, fun i hi hn => h.block i hi (fun hS => hn (hw i hS))⟩
theorem RdC.Inv.vf' {c : RdC} {w : World} (h : c.Inv w) : w.cell? ⟨c.bf, 0, none⟩ = some (.func (.func 98) #[] #[.pointer (some ⟨c.bm, 0, none⟩), .pointer (some ⟨c.bb, 0, none⟩), .pointer (some ⟨c.bY, 0, none⟩), .pointer (some ⟨c.bl, 0, none⟩), .pointer (some ⟨c.bf, 0, none⟩)]) := h.vf
theorem noOut_normal {Q : Exit → Act → World → Prop} {a : Act} {w : World} (h : Q .normal a w) : noOut Q .normal a w := h
theorem ef98 (args : Array Value) (w : World) : (callFunc 98 args).run Tryd.prog w = .ok (.enter 98 args) w := by kernel_rfl
structure RdJ (c : RdC) (f : Nat → Int) (j b11 : Nat) (W8 : World) (n : Nat) (W : World) : Prop where
 r : Bx W b11 3 #[.int .i64 (H.minT f (j + 1) n)]
 memo : c.Memo W
 fr : Fr (fun k => k = c.mb ∨ k = b11) W8 W
theorem RdJ.keep {c : RdC} {f : Nat → Int} {j b11 : Nat} {W8 : World} {n : Nat} {A B : World} {L : Nat} (h : RdJ c f j b11 W8 n A) (hf : Fr (· = L) A B) (hL : W8.heap.size ≤ L) (h1 : b11 < W8.heap.size) (h2 : c.mb < W8.heap.size) : RdJ c f j b11 W8 n B := by
 obtain ⟨g, hm, hv⟩ := h.memo
 exact ⟨h.r.fr hf (fun e => by omega), ⟨g, hm.same (hf.block _ hm.lt (fun e => by omega)), hv⟩, h.fr.step hf (fun k hk e => by omega)⟩
theorem RdJ.keep0 {c : RdC} {f : Nat → Int} {j b11 : Nat} {W8 : World} {n : Nat} {A B : World} (h : RdJ c f j b11 W8 n A) (hf : Fr0 A B) : RdJ c f j b11 W8 n B := by
 obtain ⟨g, hm, hv⟩ := h.memo
 exact ⟨h.r.fr0 hf, ⟨g, hm.same (hf.block _ hm.lt (fun h => h)), hv⟩, h.fr.step0 hf⟩
/-- The closure's own facts in a world of the rounds. -/
theorem RdC.Inv.frS {c : RdC} (hF : c.Fix) {W8 W : World} {b11 : Nat} (h : c.Inv W8) (hf : Fr (fun k => k = c.mb ∨ k = b11) W8 W) (hm : c.Memo W) (hn : c.w0.heap.size ≤ b11) (d1 : c.bm ≠ b11) (d2 : c.bb ≠ b11) (d3 : c.bY ≠ b11) (d4 : c.bl ≠ b11) (d5 : c.bf ≠ b11) : c.Inv W := by
 obtain ⟨f, hmf, _⟩ := h.memo
 obtain ⟨es, k, ho⟩ := hmf.obj
 have hc : ∀ {b : Nat} {v : Value}, b ≠ b11 → W8.cell? ⟨b, 0, none⟩ = some v → W.cell? ⟨b, 0, none⟩ = some v := fun {b v} hb hv => hf.cell hv (by
  rintro (e | e)
  ·have e : b = c.mb := e
   subst e
   simp [World.cell?, ho] at hv
  ·exact hb e)
 exact ⟨h.base.trans (hf.below h.base.size (fun k hk e => by have := hF.old; rcases e with e | e <;> omega)), hc d1 h.vm, h.vb.fr hf (by rintro (e | e); exact h.vb.not_map ho e; exact d2 e), hc d3 h.vy, hc d4 h.vl, hc d5 h.vf, hm⟩
set_option maxHeartbeats 8000000 in
set_option maxRecDepth 100000 in
theorem reads_deep (c : RdC) (hF : c.Fix) (i j : Nat) (w : World) (hI : c.Inv w) (hi : i + 1 < c.x.t.length) (hj : j < c.x.p.length) (f : Int → Int → Option Value) (hmf : MapFn w c.mb f) (hv : f i j = none)
  (hdeep : c.x.costM c.may i j < 1000) (ih : ∀ j' w', j' < c.x.p.length → c.Inv w' → c.Says (i + 1) j' w') : c.Says i j w := by
 unfold RdC.Says
 have ht1 := hF.ok.facts.t2
 have hp1 := hF.ok.facts.q2
 have hi64 : (i : Int) ≤ 1000000 := by omega
 have hf0 : Fr0 w (w.alloc (.cells #[.int .i64 (i : Int), .int .i64 (j : Int)] 92)) := (Fr.refl _ _).alloc _
 have c0 : Bx (w.alloc (.cells #[.int .i64 (i : Int), .int .i64 (j : Int)] 92)) w.heap.size 92 #[.int .i64 (i : Int), .int .i64 (j : Int)] := Bx.of_new rfl
 have HI := Lib.hid (hI.step0 hf0)
 have hlk : (Instr.lookup 122 (.map (some c.mb)) (.agg #[.int .i64 (i : Int), .int .i64 (j : Int)]) true).run Tryd.prog (w.alloc (.cells #[.int .i64 (i : Int), .int .i64 (j : Int)] 92)) = .ok (.tuple #[.int .i64 0, .bool false]) (w.alloc (.cells #[.int .i64 (i : Int), .int .i64 (j : Int)] 92)) := by
  have hm2 := hmf.same (hf0.block _ hmf.lt (fun h => h))
  have := lookup_k2 key92 Tryd.underlying122 zero3 hm2 (i : Int) (j : Int)
  rw [hv] at this
  exact this
 have HLT := Lib.hid (show c.mb < w.heap.size from hmf.lt)
 have HFX := Lib.hid hF
 have HOF := Lib.hid (fun W' (hW : Below c.w0.heap.size c.w0 W') => off99 c.x i j W' (hF.ok.below hW) (by omega) hj)
 unfold HC.val at HOF
 have hmay : c.may i j = true := by
  unfold HC.costM at hdeep
  split at hdeep
  ·next h => exact h
  ·omega
 have HBY := Lib.hid (fun W' (hW : Below c.w0.heap.size c.w0 W') => hF.by_ W' i j hW)
 rw [hmay] at HBY
 have heF := hF.eF
 have HEQ := Lib.hid (c.at_deep i j hdeep hi)
 have hkb := c.x.cost_bnd i j
 have hK : c.x.costM c.may i j = c.x.cost i j := by unfold HC.costM; rw [if_pos hmay]
 rw [hK] at HEQ hdeep
 have HW0 := Lib.hid (show c.w0.heap.size ≤ w.heap.size from hI.base.size)
 have HIH := Lib.hid ih
 have HIJ := Lib.hid (And.intro hi hj)
 have HGB := Lib.hid (fun s => H.rdN_bnd (hi := c.hi) (c.x.costM_bnd c.may) (c.x.t.length - 1 - (i + 1)) (i + 1) s)
 have hlast := And.intro hF.l0 hF.l1
 have HHI := Lib.hid (show c.hi = min c.last ((c.x.p.length : Int) - 1) from rfl)
 clear hI hv hmf hj hF hmay hK ih
 generalize hRe : c.at i j = R at *
 have HRE := Lib.hid hRe
 clear hRe
 generalize c.x.cost i j = KC at *
 have hiT : (i : Int) + 1 < c.x.t.length := by omega
 refine calls_of_marks Tryd.func98 rfl ?_
 simp only [Tryd.ntmps98, List.size_toArray, List.length_cons, List.length_nil, Nat.reduceAdd, Nat.reduceSub, Array.replicate_succ, Array.replicate_zero, List.push_toArray, List.append_toArray, List.nil_append, List.cons_append]
 go_upto_region 1 with fail
 generalize hW : w.alloc (.cells #[.int .i64 (i : Int), .int .i64 (j : Int)] 92) = W at hf0 c0 HI hlk ⊢
 clear hW
 have HFR := Lib.hid hf0
 have HB5 := Lib.hid (Eq.refl w.heap.size)
 generalize hb5 : w.heap.size = b5 at c0 HLT HW0 ⊢
 have y0 := c0.at_ 0 (v := .int .i64 (i : Int)) rfl
 have y1 := c0.at_ 1 (v := .int .i64 (j : Int)) rfl
 have vm := HI.out.vm
 have HC0 := Lib.hid c0
 clear c0 hf0
 go_upto_region 4 with fail
 have u0 := HI.out.vb.at_ 0 (v := .int .i64 c.x.g) rfl
 have u1 := HI.out.vb.at_ 1 (v := .slice c.x.A c.x.l.length c.x.c) rfl
 have u2 := HI.out.vb.at_ 2 (v := .slice c.x.Ap c.x.ps.length c.x.cp) rfl
 have u3 := HI.out.vb.at_ 3 (v := .int .i64 c.x.piece) rfl
 have u4 := HI.out.vb.at_ 4 (v := .slice c.x.At c.x.t.length c.x.ct) rfl
 have u5 := HI.out.vb.at_ 5 (v := .slice c.x.Ag c.x.gs.length c.x.cg) rfl
 have u6 := HI.out.vb.at_ 6 (v := .int .i64 c.x.lost) rfl
 have u7 := HI.out.vb.at_ 7 (v := .int .i64 c.x.wrong) rfl
 clear vm hlk
 go_upto_region 5 with (go_at_call 99; refine (HOF.out _ HI.out.base).mono ?_; rintro e W1 ⟨rfl, hf1⟩)
 have HI1 := Lib.hid (HI.out.step0 hf1)
 have HF1 := Lib.hid hf1
 have y0 := hf1.cell0 y0
 have y1 := hf1.cell0 y1
 have vy := HI1.out.vy
 clear u0 u1 u2 u3 u4 u5 u6 u7 hf1
 go_wp2
 refine Calls.mono (HBY.out _ HI1.out.base) ?_
 rintro e W2 ⟨rfl, hf2⟩
 have HI2 := Lib.hid (HI1.out.step0 hf2)
 have HF2 := Lib.hid (Fr0.trans HF1.out hf2)
 have y0 := hf2.cell0 y0
 have y1 := hf2.cell0 y1
 have u4 := HI2.out.vb.at_ 4 (v := .slice c.x.At c.x.t.length c.x.ct) rfl
 clear hf2 vy
 go_upto_region 9 with fail
 have hf3 : Fr0 W2 (W2.alloc (.cells #[.int .i64 1000] 3)) := (Fr.refl _ _).alloc _
 have b3 : Bx (W2.alloc (.cells #[.int .i64 1000] 3)) W2.heap.size 3 #[.int .i64 1000] := Bx.of_new rfl
 have h23 : b5 < W2.heap.size := by have h1 := HC0.out.lt; have h2 := HF2.out.size; omega
 have hdd : c.bm < W2.heap.size ∧ c.bb < W2.heap.size ∧ c.bY < W2.heap.size ∧ c.bl < W2.heap.size ∧ c.bf < W2.heap.size := ⟨World.block_lt_of_cell? _ _ HI2.out.vm, HI2.out.vb.lt, World.block_lt_of_cell? _ _ HI2.out.vy, World.block_lt_of_cell? _ _ HI2.out.vl, World.block_lt_of_cell? _ _ HI2.out.vf⟩
 generalize hW3 : W2.alloc (.cells #[.int .i64 1000] 3) = W3 at hf3 b3 ⊢
 clear hW3
 generalize W2.heap.size = b11 at b3 h23 hdd ⊢
 have HDD := Lib.hid hdd
 clear hdd
 have HI3 := Lib.hid (HI2.out.step0 hf3)
 have HF3 := Lib.hid (Fr0.trans HF2.out hf3)
 have HB11 := Lib.hid b3
 have HCC := Lib.hid (HC0.out.fr0 HF3.out)
 have y1 := hf3.cell0 y1
 have u0 := HI3.out.vb.at_ 0 (v := .int .i64 c.x.g) rfl
 have u1 := HI3.out.vb.at_ 1 (v := .slice c.x.A c.x.l.length c.x.c) rfl
 have u2 := HI3.out.vb.at_ 2 (v := .slice c.x.Ap c.x.ps.length c.x.cp) rfl
 have u3 := HI3.out.vb.at_ 3 (v := .int .i64 c.x.piece) rfl
 have u4 := HI3.out.vb.at_ 4 (v := .slice c.x.At c.x.t.length c.x.ct) rfl
 have u5 := HI3.out.vb.at_ 5 (v := .slice c.x.Ag c.x.gs.length c.x.cg) rfl
 have u6 := HI3.out.vb.at_ 6 (v := .int .i64 c.x.lost) rfl
 have u7 := HI3.out.vb.at_ 7 (v := .int .i64 c.x.wrong) rfl
 have vl := HI3.out.vl
 have HBH := Lib.hid (fun W' => behind100 c.x (j : Int) c.last W')
 unfold HC.val HC.cells at HBH
 have H23 := Lib.hid h23
 clear hf3 b3 y0 h23
 go_wp2_with (go_at_call 100; refine (HBH.out _).mono ?_; rintro e W8 ⟨rfl, hW8⟩)
 have hf38 : Fr0 W3 W8 := by rw [hW8]; exact (((Fr.refl _ _).alloc _).alloc _).alloc _
 have hz8a : W8.heap.size ≤ W3.heap.size + 3 := by rw [hW8]; simp
 have hz8b : W3.heap.size + 3 ≤ W8.heap.size := by rw [hW8]; simp
 have BB : Bx W8 W3.heap.size 79 #[.int .i64 c.x.g, .slice c.x.A c.x.l.length c.x.c, .slice c.x.Ap c.x.ps.length c.x.cp, .int .i64 c.x.piece, .slice c.x.At c.x.t.length c.x.ct, .slice c.x.Ag c.x.gs.length c.x.cg, .int .i64 c.x.lost, .int .i64 c.x.wrong] := by rw [hW8]; exact ((Bx.of_new (by simp)).alloc _).alloc _
 have BS : Bx W8 (W3.heap.size + 1) 3 #[.int .i64 (j : Int)] := by rw [hW8]; exact (Bx.of_new (by simp)).alloc _
 have BL : Bx W8 (W3.heap.size + 1 + 1) 3 #[.int .i64 c.last] := by rw [hW8]; exact Bx.of_new (by simp)
 rw [← hW8]
 clear u0 u1 u2 u3 u4 u5 u6 u7 vl y1 hW8
 have HI8 := Lib.hid (HI3.out.step0 hf38)
 have HF8 := Lib.hid (Fr0.trans HF3.out hf38)
 have B11 := HB11.out.fr0 hf38
 have CC8 := HCC.out.fr0 hf38
 have l11 : b11 < W3.heap.size := HB11.out.lt
 have h511 := H23.out
 have hmb5 := HLT.out
 have hw05 := HW0.out
 obtain ⟨m, hm⟩ : ∃ m : Nat, m = (min c.last ((c.x.p.length : Int) - 1) - j).toNat := ⟨_, rfl⟩
 obtain ⟨g, hg⟩ : ∃ g : Nat → Int, g = fun s => c.at (i + 1) s := ⟨_, rfl⟩
 have HM := Lib.hid hm
 have HG := Lib.hid hg
 have hgb : ∀ s, 0 ≤ g s ∧ g s ≤ 1000 := by rw [hg]; exact HGB.out
 have HGG := Lib.hid hgb
 have HIT := Lib.hid (behind_iter c.x c.w0 c.A1 c.c1 j c.last HFX.out.ok.facts.p0 HFX.out.ok.facts.p1 HFX.out.ok.facts.q2 (by have := HIJ.out.2; omega) hlast.1 hlast.2 (W3.heap.size + 1) (W3.heap.size + 1 + 1) W3.heap.size)
 rw [← hm] at HIT
 clear hg hgb
 have d1 : c.bm ≠ b11 := Nat.ne_of_lt HDD.out.1
 have d2 : c.bb ≠ b11 := Nat.ne_of_lt HDD.out.2.1
 have d3 : c.bY ≠ b11 := Nat.ne_of_lt HDD.out.2.2.1
 have d4 : c.bl ≠ b11 := Nat.ne_of_lt HDD.out.2.2.2.1
 have d5 : c.bf ≠ b11 := Nat.ne_of_lt HDD.out.2.2.2.2
 refine wpIn_wide.1 (range_topG (g := .tmp 45) (by rfl) (fun args w => by kernel_rfl) HIT.out (fun _ => rfl) (fun k => k = c.mb ∨ k = b11) ?hS0 ?hS1 ?hN
  (fun pre W' => RdJ c g j b11 W8 pre.length W') (fun _ _ _ => False) ?hJ (fun _ _ _ _ h _ => h) ?h0 ?hround ?hdone (fun _ _ _ h => h.elim))
 case hS0 => omega
 case hS1 => omega
 case hN =>
  intro W6 S' h86 hS'
  refine ⟨(HI8.out.step0 h86).base, HFX.out.lies, (BS.fr0 h86).at_ 0 rfl, (BL.fr0 h86).at_ 0 rfl, BB.fr0 h86, ?_⟩
  intro k hk
  have := HFX.out.old
  rcases hS' k hk with (rfl | rfl) | h <;> omega
 case hJ => exact fun pre A B h hf => h.keep hf (by omega) (by omega) (by omega)
 case h0 =>
  intro W6 h86
  exact ⟨B11.fr0 h86, (HI8.out.step0 h86).memo, Fr.of0 h86⟩
 case hdone =>
  intro W6 hj hD
  rw [List.length_range] at hj
  have HRS := Lib.hid (show R = min 1000 (KC + H.minT g (j + 1) m) by rw [HEQ.out, HM.out, HG.out, ← HHI.out])
  have hrb := H.minT_bnd (a := j + 1) (fun s => (HGG.out s).1) m
  have HI6 := Lib.hid (HI8.out.frS HFX.out hj.fr hj.memo (by omega) d1 d2 d3 d4 d5)
  have C6 := CC8.fr hj.fr (by rintro (e | e) <;> omega)
  have y0 := C6.at_ 0 (v := .int .i64 (i : Int)) rfl
  have y1 := C6.at_ 1 (v := .int .i64 (j : Int)) rfl
  have q11 := hj.r.at_ 0 rfl
  have HJF := Lib.hid hj.fr
  have HD6 := Lib.hid hD
  have HC6 := Lib.hid C6
  generalize H.minT g (j + 1) m = RS at *
  have hkr : 0 ≤ KC + RS ∧ KC + RS ≤ 2000 := by omega
  have h86s := HJF.out.size
  clear hj hD C6 BB BS BL B11 CC8 hiT
  go_upto_region 13 with (go_at_call 74; refine (least74 1000 (KC + RS) W6 (by omega) (by omega) (by omega) (by omega)).mono ?_; rintro e W9 ⟨rfl, hf9⟩)
  have hf69 := Fr0.trans ((Fr.refl _ W6).alloc _) hf9
  have HI9 := Lib.hid (HI6.out.step0 hf69)
  have y0 := (HC6.out.fr0 hf69).at_ 0 (v := .int .i64 (i : Int)) rfl
  have y1 := (HC6.out.fr0 hf69).at_ 1 (v := .int .i64 (j : Int)) rfl
  have HF69 := Lib.hid hf69
  have vm := HI9.out.vm
  obtain ⟨f', hmf', hfv'⟩ := HI9.out.memo
  obtain ⟨o, hoc, hom, hru, hmfu⟩ := update_k2 key92 Tryd.underlying122 hmf' (i : Int) (j : Int) (.int .i64 (min 1000 (KC + RS)))
  have HM9 := Lib.hid (c.memo_put i j (min 1000 (KC + RS)) o hfv' hmfu (by rw [HRE.out]; exact HRS.out))
  have HDF := Lib.hid (show (World.putObj W9 c.mb o).heap[W8.heap.size]? = some (.deferred (some [])) from (World.putObj_heap_other (by omega)).trans (HF69.out.heap HD6.out (fun h => h)))
  have HFE := Lib.hid ((HJF.out.step0 HF69.out).putObj (S := fun k => k = c.mb ∨ k = b11) (.inl (.inl rfl)) o)
  unfold k2 at hru
  clear hmfu hfv' hmf' hom hoc q11 hf9 hf69
  go_wp2
  refine ret_marks (.int .i64 (min 1000 (KC + RS))) [W8.heap.size] (fun D hD => by rw [List.mem_singleton.1 hD]; exact HDF.out) (by simp) (by simp [results, Tryd.results98, go_sem, shut]) ⟨by rw [HRS.out], ?_, ?_⟩
  ·obtain ⟨f, hm, hv⟩ := HM9.out
   exact ⟨f, hm.same (World.putObj_heap_other (by omega)), hv⟩
  ·exact ((((Fr.of0 HFR.out).trans (Fr.of0 HF8.out)).step HFE.out (fun k hk e => by rcases e with e | e; exact e; exfalso; omega)).step (Fr.put1 _ _ _) (fun k hk e => by exfalso; omega))
 case hround =>
  rintro pre x rest W6 hx hj ⟨r, hl⟩
  have hlb : W8.heap.size + 1 < W6.heap.size := (Array.getElem?_eq_some_iff.1 hl).1
  have hxm : pre.length < m := by have := congrArg List.length hx; simp at this; omega
  have hxx : x = pre.length := by
   have := congrArg (fun l => l[pre.length]?) hx
   simp [hxm] at this
   omega
  simp only [List.zip_toArray, List.zip_cons_cons, List.zip_nil_right, List.foldl_toArray', List.foldl_cons, List.foldl_nil, lA, lZ, lS]
  have HPX := Lib.hid (show ∀ y : Nat, (pre ++ [y]).length = pre.length + 1 from fun y => by simp)
  have hrb := H.minT_bnd (a := j + 1) (fun s => (HGG.out s).1) pre.length
  have HST := Lib.hid (show H.minT g (j + 1) (pre.length + 1) = min (H.minT g (j + 1) pre.length) (g (j + 1 + pre.length)) from rfl)
  have hJp : j + 1 + pre.length < c.x.p.length := by have := HM.out; omega
  have hgJ := HGG.out (j + 1 + pre.length)
  have HA1 := Lib.hid (fun W' (hW : c.Inv W') => show Calls Tryd.prog 98 #[.agg #[.int .i64 (wrap64 ((i : Int) + 1)), .int .i64 ((j + 1 + pre.length : Nat) : Int)], .pointer (some ⟨c.bm, 0, none⟩), .pointer (some ⟨c.bb, 0, none⟩), .pointer (some ⟨c.bY, 0, none⟩), .pointer (some ⟨c.bl, 0, none⟩), .pointer (some ⟨c.bf, 0, none⟩)] W' fun e w' => e = .returned (.int .i64 (g (j + 1 + pre.length))) ∧ c.Memo w' ∧ Fr (· = c.mb) W' w' by
   rw [w64 (by omega) (by omega), HG.out]; exact HIH.out (j + 1 + pre.length) W' hJp hW)
  rw [hxx]
  have hj0 := hj
  clear hx hl hxx hJp
  generalize pre.length = n at *
  generalize g (j + 1 + n) = RV at *
  generalize hJJ : j + 1 + n = JJ at *
  clear hJJ
  have HJ := Lib.hid hj
  clear hj hj0
  gi_wp2
  refine ⟨Fr.refl _ _, fun W7 h67 hl7 => ?_⟩
  clear hl7
  have HJ7 := Lib.hid (HJ.out.keep h67 (by omega) (by omega) (by omega))
  have HI7 := Lib.hid (HI8.out.frS HFX.out HJ7.out.fr HJ7.out.memo (by omega) d1 d2 d3 d4 d5)
  have C7 := CC8.fr HJ7.out.fr (by rintro (e | e) <;> omega)
  have y0 := C7.at_ 0 (v := .int .i64 (i : Int)) rfl
  have q11 := HJ7.out.r.at_ 0 rfl
  have vf := HI7.out.vf
  unfold RdC.lb at vf
  have z11 := HJ7.out.r.frz 0
  have h7s := HJ7.out.fr.size
  have HR7 := Lib.hid HJ7.out.r
  generalize H.minT g (j + 1) n = RS at *
  have HN511 := Lib.hid (show b11 ≠ c.mb by omega)
  have HN5 := Lib.hid (show b5 ≠ c.mb by omega)
  gi_wp2
  refine start_round (n := 11) (S := fun w' => w'.cell? ⟨b11, 0, none⟩ = some (.int .i64 RS) ∧ w'.cell? ⟨c.bf, 0, none⟩ = some (.func (.func 98) #[] #[.pointer (some ⟨c.bm, 0, none⟩), .pointer (some ⟨c.bb, 0, none⟩), .pointer (some ⟨c.bY, 0, none⟩), .pointer (some ⟨c.bl, 0, none⟩), .pointer (some ⟨c.bf, 0, none⟩)]) ∧ w'.cell? ⟨b5, 0, none⟩ = some (.int .i64 (i : Int))) (ds := [10]) (.replicate 11 false) (by kernel_rfl) (by kernel_rfl) rfl rfl ⟨q11, vf, y0⟩ (fun hHeld => ?_)
  refine pu 2 49 (bt 11 4) (k := ?_)
  refine pu 5 52 (bt 11 36) (k := ?_)
  refine tk3 0 47 (bt 11 37) hHeld (k := ?_)
  refine tk3 1 48 (bt 11 39) hHeld (k := ?_)
  refine tk3 3 50 (bt 11 47) hHeld (k := ?_)
  refine pu 4 51 (bt 11 63) (k := ?_)
  refine pu 6 53 (bt 11 127) (k := ?_)
  refine oN 7 54 (bt 11 255) (h := fun K hK => ?_)
  refine call_ 98 #[.agg #[.int .i64 (wrap64 ((i : Int) + 1)), .int .i64 (JJ : Int)], .pointer (some ⟨c.bm, 0, none⟩), .pointer (some ⟨c.bb, 0, none⟩), .pointer (some ⟨c.bY, 0, none⟩), .pointer (some ⟨c.bl, 0, none⟩), .pointer (some ⟨c.bf, 0, none⟩)] (by rfl) rfl ?_ ?_
  ·unfold execOp
   simp [resolve, Deferred.ofValue, invoke, Act.eval, ef98]
  refine (HA1.out _ (HI7.out.step0 (Fr.drew (Fr.refl _ W7)))).mono ?_
  rintro e w7 ⟨rfl, hm7, hf7⟩
  have HF7 := Lib.hid (Fr.trans (Fr.drew (Fr.refl _ W7)) hf7)
  have HI77 := Lib.hid (HI7.out.step HFX.out HF7.out hm7)
  have HR77 := Lib.hid (HR7.out.fr HF7.out HN511.out)
  refine ⟨_, rfl, ?_⟩
  refine hK.out _ _ ⟨(HR77.out.at_ 0 rfl), (HI77.out.vf'), (HF7.out.cell y0 HN5.out)⟩ (fun hHeld => ?_)
  clear hK K
  refine norm_ (a' := ?_) ?_ ?_
  rotate_left
  ·show Act.put _ (some 54) _ = _
   simp only [Act.put, lA, lZ, lS, i64_w, i32_w]
   rfl
  refine oN 8 55 (bt 11 511) (h := fun K hK => ?_)
  refine value_ (w1 := ?_) (v := ?_) (by rfl) rfl ?_ ?_
  rotate_left 2
  ·go_simp
   constructor
   ·rfl
   ·rfl
  refine hK.out _ _ ⟨((HR77.out.alloc _).at_ 0 rfl), ((HI77.out.step0 ((Fr.refl _ _).alloc _)).vf'), ((HF7.out.alloc _).cell y0 HN5.out)⟩ (fun hHeld => ?_)
  clear hK K
  refine norm_ (a' := ?_) ?_ ?_
  rotate_left
  ·show Act.put _ (some 55) _ = _
   simp only [Act.put, lA, lZ, lS, i64_w, i32_w]
   rfl
  refine oN 9 56 (bt 11 1023) (h := fun K hK => ?_)
  refine goes_ Tryd.func74 (by kernel_rfl) rfl #[.int .i64 RS, .slice (some ⟨w7.heap.size, 0, none⟩) 1 1] (by rfl) rfl rfl TN ?_
  with_reducible refine (least74 RS RV w7 (by omega) (by omega) (by omega) (by omega)).mono ?_
  rintro e w9 ⟨rfl, hf9⟩
  refine ⟨_, rfl, ?_⟩
  have HF9 := Lib.hid ((HF7.out.alloc _).step0 hf9)
  have HI9 := Lib.hid (HI77.out.step0 (Fr0.trans ((Fr.refl _ _).alloc _) hf9))
  have HR9 := Lib.hid ((HR77.out.alloc _).fr0 hf9)
  have z11 := HR9.out.frz 0
  have l11' := HR9.out.lt
  refine hK.out _ _ ⟨(HR9.out.at_ 0 rfl), (HI9.out.vf'), (HF9.out.cell y0 HN5.out)⟩ (fun hHeld => ?_)
  clear hK K
  refine norm_ (a' := ?_) ?_ ?_
  rotate_left
  ·show Act.put _ (some 56) _ = _
   simp only [Act.put, lA, lZ, lS, i64_w, i32_w]
   rfl
  refine last_ (i := 10) (N := none) (bt 11 2047) rfl rfl (by kernel_rfl) (by decide) (fun K hK => ?_)
  refine skip_ (w1 := ?_) (by rfl) rfl ?_ ?_
  rotate_left
  ·go_simp
   rfl
  refine hK.out _ _ ?_
  clear hK K
  refine done_ (by kernel_rfl) ?_
  refine noOut_normal ?_
  have HFS := Lib.hid (Fr.setCell (Fr.wide (S' := fun k => k = c.mb ∨ k = b11) HF9.out (fun k hk => .inl hk)) (p := ⟨b11, 0, none⟩) (.inl (.inr rfl)) (.int .i64 (min RS RV)))
  have HRS := Lib.hid (show Bx (w9.setCell ⟨b11, 0, none⟩ (.int .i64 (min RS RV))) b11 3 #[.int .i64 (min RS RV)] by simpa using HR9.out.set_ 0 (.int .i64 (min RS RV)))
  have HMS := Lib.hid (show c.Memo (w9.setCell ⟨b11, 0, none⟩ (.int .i64 (min RS RV))) by
   obtain ⟨f, hm, hv⟩ := HI9.out.memo
   exact ⟨f, hm.same (Below.heap_setCell _ _ _ _ (fun e => HN511.out e.symm)), hv⟩)
  gi_wp2
  refine ⟨HFS.out, ?_⟩
  show RdJ c g j b11 W8 (pre ++ [n]).length _
  rw [HPX.out]
  exact ⟨by rw [HST.out]; exact HRS.out, HMS.out, HJ7.out.fr.trans HFS.out⟩
end Go.Proofs.YtfdenclnneigfaaDoor.R
namespace Go.Proofs.YtfdenclnneigfaaDoor.R
open Go.RowKit Go.Shelf Go.Proofs.YtfdenclnneigfaaDoorW.PrintWords Go.Proofs.YtfdenclnneigfaaDoorW.PrintLast Go.Proofs.YtfdenclnneigfaaDoor.PRaspKeys Go.Proofs.YtfdenclnneigfaaDoor.X Go.Proofs.YtfdenclnneigfaaDoor.M
attribute [local go_sem] Oper.semAt_some
/-! ### reads, begins, fits -/
/-- What the closure tells of any note and stroke. -/
theorem reads_any (c : RdC) (hF : c.Fix) : ∀ (n i j : Nat) (w : World), c.x.t.length ≤ n + i → i < c.x.t.length → j < c.x.p.length → c.Inv w → c.Says i j w
 | 0, i, j, w, h, hi, hj, hI => by omega
 | n + 1, i, j, w, h, hi, hj, hI => by
  obtain ⟨f, hmf, hv⟩ := hI.memo
  cases hfo : f i j with
  | some v => exact reads_hit c i j w hI f hmf (by rw [hfo, hv _ _ _ hfo])
  | none =>
   by_cases hd : c.x.costM c.may i j < 1000 ∧ i + 1 < c.x.t.length
   ·exact reads_deep c hF i j w hI hd.2 hj f hmf hfo hd.1 (fun j' w' hj' hI' => reads_any c hF n (i + 1) j' w' (by omega) hd.2 hj' hI')
   ·exact reads_flat c hF i j w hI hi hj f hmf hfo hd
/-- What reads tells. -/
def HC.rd (x : HC) (may : Nat → Nat → Bool) (last : Int) (first : Nat) : Int := H.rdN (x.costM may) (min last ((x.p.length : Int) - 1)) (x.t.length - 1) 0 first
theorem HC.rd_bnd (x : HC) (may : Nat → Nat → Bool) (last : Int) (first : Nat) : 0 ≤ x.rd may last first ∧ x.rd may last first ≤ 1000 := H.rdN_bnd (x.costM_bnd may) _ _ _
set_option maxHeartbeats 4000000 in
set_option maxRecDepth 100000 in
theorem reads89 (x : HC) (F : FuncId) (lF : Array Value) (may : Nat → Nat → Bool) (last : Int) (first : Nat) (w : World) (h : x.Ok w) (hfi : first < x.p.length) (l0 : -1000 ≤ last) (l1 : last ≤ 1000)
  (eF : ∀ args w, (callFunc F args).run Tryd.prog w = .ok (.enter F args) w)
  (hby : ∀ (W : World) (k s : Nat), Below w.heap.size w W → Calls Tryd.prog F (#[.agg #[.int .i64 (k : Int), .int .i64 (s : Int)]] ++ lF) W fun e w' => e = .returned (.bool (may k s)) ∧ Fr0 W w') :
  Calls Tryd.prog 89 #[x.val, .int .i64 (first : Int), .int .i64 last, .agg #[.func (.func F) #[] lF]] w fun e w' => e = .returned (.int .i64 (x.rd may last first)) ∧ Fr0 w w' := by
 have hmk := mk122
 obtain ⟨A1, c1, hlies, _, _⟩ := h.lies
 obtain ⟨c, hc⟩ : ∃ c : RdC, c = ⟨x, w, F, lF, may, last, A1, c1, w.heap.size + 1 + 1 + 1 + 1, w.heap.size, w.heap.size + 1 + 1, w.heap.size + 1, w.heap.size + 1 + 1 + 1 + 1 + 1, w.heap.size + 1 + 1 + 1⟩ := ⟨_, rfl⟩
 have hF : c.Fix := by
  subst hc
  exact ⟨h, hlies, l0, l1, by show w.heap.size ≤ _ + 1 + 1 + 1; omega, eF, hby⟩
 have ht1 := h.facts.t1
 have HR := Lib.hid (show c.at 0 first = x.rd may last first by subst hc; rfl)
 have HS := Lib.hid (fun W hI => reads_any c hF (x.t.length) 0 first W (by subst hc; show x.t.length ≤ _; omega) (by subst hc; show 0 < x.t.length; omega) (by subst hc; exact hfi) hI)
 have HX := Lib.hid h
 generalize x.rd may last first = R at *
 clear hF h hlies hby ht1 l0 l1
 unfold HC.val
 go_enter Tryd.func89, Tryd.ntmps89
 go_upto_region 4 with fail
 obtain ⟨W, hW⟩ : ∃ W, W = ((((((w.alloc (.cells #[.int .i64 x.g, .slice x.A x.l.length x.c, .slice x.Ap x.ps.length x.cp, .int .i64 x.piece, .slice x.At x.t.length x.ct, .slice x.Ag x.gs.length x.cg, .int .i64 x.lost, .int .i64 x.wrong] 79)).alloc (.cells #[.int .i64 last] 3)).alloc (.cells #[.func (.func F) #[] lF] 95)).alloc (.map #[] 0)).alloc (.cells #[.map (some (w.heap.size + 1 + 1 + 1))] 122)).alloc (.cells #[.func (.func 98) #[] #[.pointer (some ⟨w.heap.size + 1 + 1 + 1 + 1, 0, none⟩), .pointer (some ⟨w.heap.size, 0, none⟩), .pointer (some ⟨w.heap.size + 1 + 1, 0, none⟩), .pointer (some ⟨w.heap.size + 1, 0, none⟩), .pointer (some ⟨w.heap.size + 1 + 1 + 1 + 1 + 1, 0, none⟩)]] 123)) := ⟨_, rfl⟩
 have hf0 : Fr0 w W := by rw [hW]; exact ((((((Fr.refl _ w).alloc _).alloc _).alloc _).alloc _).alloc _).alloc _
 have cb : Bx W w.heap.size 79 #[.int .i64 x.g, .slice x.A x.l.length x.c, .slice x.Ap x.ps.length x.cp, .int .i64 x.piece, .slice x.At x.t.length x.ct, .slice x.Ag x.gs.length x.cg, .int .i64 x.lost, .int .i64 x.wrong] := by rw [hW]; exact (((((Bx.of_new rfl).alloc _).alloc _).alloc _).alloc _).alloc _
 have cl : Bx W (w.heap.size + 1) 3 #[.int .i64 last] := by rw [hW]; exact ((((Bx.of_new (by simp)).alloc _).alloc _).alloc _).alloc _
 have cy : Bx W (w.heap.size + 1 + 1) 95 #[.func (.func F) #[] lF] := by rw [hW]; exact (((Bx.of_new (by simp)).alloc _).alloc _).alloc _
 have cm : Bx W (w.heap.size + 1 + 1 + 1 + 1) 122 #[.map (some (w.heap.size + 1 + 1 + 1))] := by rw [hW]; exact (Bx.of_new (by simp)).alloc _
 have cf : Bx W (w.heap.size + 1 + 1 + 1 + 1 + 1) 123 #[.func (.func 98) #[] #[.pointer (some ⟨w.heap.size + 1 + 1 + 1 + 1, 0, none⟩), .pointer (some ⟨w.heap.size, 0, none⟩), .pointer (some ⟨w.heap.size + 1 + 1, 0, none⟩), .pointer (some ⟨w.heap.size + 1, 0, none⟩), .pointer (some ⟨w.heap.size + 1 + 1 + 1 + 1 + 1, 0, none⟩)]] := by rw [hW]; exact Bx.of_new (by simp)
 have hm : MapFn W (w.heap.size + 1 + 1 + 1) (fun _ _ => none) := by
  have h0 := MapFn.new (((w.alloc (.cells #[.int .i64 x.g, .slice x.A x.l.length x.c, .slice x.Ap x.ps.length x.cp, .int .i64 x.piece, .slice x.At x.t.length x.ct, .slice x.Ag x.gs.length x.cg, .int .i64 x.lost, .int .i64 x.wrong] 79)).alloc (.cells #[.int .i64 last] 3)).alloc (.cells #[.func (.func F) #[] lF] 95))
  rw [show (((w.alloc (.cells #[.int .i64 x.g, .slice x.A x.l.length x.c, .slice x.Ap x.ps.length x.cp, .int .i64 x.piece, .slice x.At x.t.length x.ct, .slice x.Ag x.gs.length x.cg, .int .i64 x.lost, .int .i64 x.wrong] 79)).alloc (.cells #[.int .i64 last] 3)).alloc (.cells #[.func (.func F) #[] lF] 95)).heap.size = w.heap.size + 1 + 1 + 1 by simp] at h0
  rw [hW]
  exact h0.same ((((Fr.refl (fun _ => False) _).alloc _).alloc _).block _ h0.lt (fun h => h))
 have hI : c.Inv W := by
  subst hc
  exact ⟨hf0.below (Nat.le_refl _) (fun _ _ h => h), cm.at_ 0 rfl, cb, cy.at_ 0 rfl, cl.at_ 0 rfl, cf.at_ 0 rfl, ⟨_, hm, fun i j v h => by cases h⟩⟩
 have hS := HS.out W hI
 have HSY := Lib.hid (show Calls Tryd.prog 98 #[.agg #[.int .i64 0, .int .i64 (first : Int)], .pointer (some ⟨w.heap.size + 1 + 1 + 1 + 1, 0, none⟩), .pointer (some ⟨w.heap.size, 0, none⟩), .pointer (some ⟨w.heap.size + 1 + 1, 0, none⟩), .pointer (some ⟨w.heap.size + 1, 0, none⟩), .pointer (some ⟨w.heap.size + 1 + 1 + 1 + 1 + 1, 0, none⟩)] W fun e w' => e = .returned (.int .i64 R) ∧ Fr (· = w.heap.size + 1 + 1 + 1) W w' by
  rw [← HR.out]
  subst hc
  exact hS.mono fun e w' h => ⟨h.1, h.2.2⟩)
 have vf := cf.at_ 0 rfl
 have HF0 := Lib.hid hf0
 rw [← hW]
 clear hf0 cb cl cy cm cf hm hI hS hc hmk hW HS
 go_wp2_with (go_at_call 98; refine HSY.out.mono ?_; rintro e W1 ⟨rfl, hf1⟩)
 refine bodyPost_ret (v := .int .i64 R) (by simp [results, Tryd.results89, go_sem]) rfl ⟨rfl, HF0.out.step hf1 (fun k hk e => by have e : k = w.heap.size + 1 + 1 + 1 := e; omega)⟩
end Go.Proofs.YtfdenclnneigfaaDoor.R
namespace Go.Proofs.YtfdenclnneigfaaDoor.R
open Go.RowKit Go.Shelf Go.Proofs.YtfdenclnneigfaaDoorW.PrintWords Go.Proofs.YtfdenclnneigfaaDoorW.PrintLast Go.Proofs.YtfdenclnneigfaaDoor.PRaspKeys Go.Proofs.YtfdenclnneigfaaDoor.X Go.Proofs.YtfdenclnneigfaaDoor.M
attribute [local go_sem] Oper.semAt_some
/-! ### begins, fits -/
def HC.begB (x : HC) (may : Nat → Nat → Bool) (lost : Int) (first : Nat) : Bool := decide (x.rd may ((first : Int) + x.t.length - 1 + lost) first ≤ x.wrong)
def ByAt (w : World) (F : FuncId) (lF : Array Value) (may : Nat → Nat → Bool) : Prop := ∀ (W : World) (k s : Nat), Below w.heap.size w W → Calls Tryd.prog F (#[.agg #[.int .i64 (k : Int), .int .i64 (s : Int)]] ++ lF) W fun e w' => e = .returned (.bool (may k s)) ∧ Fr0 W w'
theorem ByAt.fr {w w' : World} {F : FuncId} {lF : Array Value} {may : Nat → Nat → Bool} (h : ByAt w F lF may) (hf : Fr0 w w') : ByAt w' F lF may := fun W k s hW => h W k s ((fr_below hf).trans (hW.mono hf.size))
set_option maxHeartbeats 4000000 in
set_option maxRecDepth 100000 in
theorem begins65 (x : HC) (F : FuncId) (lF : Array Value) (may : Nat → Nat → Bool) (lost : Int) (first : Nat) (w : World) (h : x.Ok w) (hfi : first < x.p.length) (l0 : 0 ≤ lost) (l1 : lost ≤ 100)
  (eF : ∀ args w, (callFunc F args).run Tryd.prog w = .ok (.enter F args) w) (hby : ByAt w F lF may) :
  Calls Tryd.prog 65 #[x.val, .int .i64 (first : Int), .int .i64 lost, .agg #[.func (.func F) #[] lF]] w fun e w' => e = .returned (.bool (x.begB may lost first)) ∧ Fr0 w w' := by
 have hx := h.facts
 have h24 := hx.q2
 have ht24 := hx.t2
 have ht1 := hx.t1
 have hf0 : Fr0 w ((w.alloc (.cells #[.int .i64 x.g, .slice x.A x.l.length x.c, .slice x.Ap x.ps.length x.cp, .int .i64 x.piece, .slice x.At x.t.length x.ct, .slice x.Ag x.gs.length x.cg, .int .i64 x.lost, .int .i64 x.wrong] 79)).alloc (.cells #[.func (.func F) #[] lF] 95)) := ((Fr.refl _ _).alloc _).alloc _
 have c0 : Bx ((w.alloc (.cells #[.int .i64 x.g, .slice x.A x.l.length x.c, .slice x.Ap x.ps.length x.cp, .int .i64 x.piece, .slice x.At x.t.length x.ct, .slice x.Ag x.gs.length x.cg, .int .i64 x.lost, .int .i64 x.wrong] 79)).alloc (.cells #[.func (.func F) #[] lF] 95)) w.heap.size 79 #[.int .i64 x.g, .slice x.A x.l.length x.c, .slice x.Ap x.ps.length x.cp, .int .i64 x.piece, .slice x.At x.t.length x.ct, .slice x.Ag x.gs.length x.cg, .int .i64 x.lost, .int .i64 x.wrong] := (Bx.of_new rfl).alloc _
 have d0 : Bx ((w.alloc (.cells #[.int .i64 x.g, .slice x.A x.l.length x.c, .slice x.Ap x.ps.length x.cp, .int .i64 x.piece, .slice x.At x.t.length x.ct, .slice x.Ag x.gs.length x.cg, .int .i64 x.lost, .int .i64 x.wrong] 79)).alloc (.cells #[.func (.func F) #[] lF] 95)) (w.heap.size + 1) 95 #[.func (.func F) #[] lF] := Bx.of_new (by simp)
 have HLA := Lib.hid (fun W' => last90 x (first : Int) lost W' ht24 (by omega) (by omega) l0 l1)
 have HRD := Lib.hid (fun W' (hf : Fr0 w W') => reads89 x F lF may ((first : Int) + x.t.length - 1 + lost) first W' (h.fr hf) hfi (by omega) (by omega) eF (hby.fr hf))
 have HV := Lib.hid (show x.begB may lost first = decide (x.rd may ((first : Int) + x.t.length - 1 + lost) first ≤ x.wrong) from rfl)
 have hrb := x.rd_bnd may ((first : Int) + x.t.length - 1 + lost) first
 generalize x.rd may ((first : Int) + x.t.length - 1 + lost) first = RV at *
 generalize x.begB may lost first = BV at *
 generalize (first : Int) + x.t.length - 1 + lost = LV at *
 unfold HC.val at HLA HRD ⊢
 clear h hx hby hfi
 go_enter Tryd.func65, Tryd.ntmps65
 go_upto_region 1 with fail
 generalize hW : ((w.alloc (.cells #[.int .i64 x.g, .slice x.A x.l.length x.c, .slice x.Ap x.ps.length x.cp, .int .i64 x.piece, .slice x.At x.t.length x.ct, .slice x.Ag x.gs.length x.cg, .int .i64 x.lost, .int .i64 x.wrong] 79)).alloc (.cells #[.func (.func F) #[] lF] 95)) = W at hf0 c0 d0 ⊢
 clear hW
 generalize w.heap.size = b at c0 d0 ⊢
 have v0 := c0.at_ 0 (v := .int .i64 x.g) rfl
 have v1 := c0.at_ 1 (v := .slice x.A x.l.length x.c) rfl
 have v2 := c0.at_ 2 (v := .slice x.Ap x.ps.length x.cp) rfl
 have v3 := c0.at_ 3 (v := .int .i64 x.piece) rfl
 have v4 := c0.at_ 4 (v := .slice x.At x.t.length x.ct) rfl
 have v5 := c0.at_ 5 (v := .slice x.Ag x.gs.length x.cg) rfl
 have v6 := c0.at_ 6 (v := .int .i64 x.lost) rfl
 have v7 := c0.at_ 7 (v := .int .i64 x.wrong) rfl
 have y0 := d0.at_ 0 (v := .func (.func F) #[] lF) rfl
 have HF := Lib.hid hf0
 clear c0 d0 hf0
 refine start_ (n := 13) (S := fun w' => w'.cell? ⟨b, 0, none⟩ = some (.int .i64 x.g) ∧ w'.cell? ⟨b, 1, none⟩ = some (.slice x.A x.l.length x.c) ∧ w'.cell? ⟨b, 2, none⟩ = some (.slice x.Ap x.ps.length x.cp) ∧ w'.cell? ⟨b, 3, none⟩ = some (.int .i64 x.piece) ∧ w'.cell? ⟨b, 4, none⟩ = some (.slice x.At x.t.length x.ct) ∧ w'.cell? ⟨b, 5, none⟩ = some (.slice x.Ag x.gs.length x.cg) ∧ w'.cell? ⟨b, 6, none⟩ = some (.int .i64 x.lost) ∧ w'.cell? ⟨b, 7, none⟩ = some (.int .i64 x.wrong) ∧ w'.cell? ⟨b + 1, 0, none⟩ = some (.func (.func F) #[] lF)) (ds := []) (.replicate 13 false) (by kernel_rfl) rfl rfl ⟨v0, v1, v2, v3, v4, v5, v6, v7, y0⟩ (fun hHeld => ?_)
 refine pu 1 10 (bt 13 2) (k := ?_)
 refine pu 3 12 (bt 13 10) (k := ?_)
 refine pu 4 13 (bt 13 26) (k := ?_)
 refine pu 8 17 (bt 13 282) (k := ?_)
 refine pu 9 18 (bt 13 794) (k := ?_)
 refine tk9 0 9 (bt 13 795) hHeld (k := ?_)
 refine tk9 2 11 (bt 13 799) hHeld (k := ?_)
 refine tk9 6 15 (bt 13 863) hHeld (k := ?_)
 refine tk9 10 19 (bt 13 1887) hHeld (k := ?_)
 refine oN 5 14 (bt 13 1919) (h := fun K hK => ?_)
 refine goes_ Tryd.func90 (by kernel_rfl) rfl #[.agg #[.int .i64 x.g, .slice x.A x.l.length x.c, .slice x.Ap x.ps.length x.cp, .int .i64 x.piece, .slice x.At x.t.length x.ct, .slice x.Ag x.gs.length x.cg, .int .i64 x.lost, .int .i64 x.wrong], .int .i64 (first : Int), .int .i64 lost] (by rfl) rfl rfl TN ?_
 with_reducible refine (HLA.out _).mono ?_
 rintro e w5 ⟨rfl, hf5⟩
 refine ⟨_, rfl, ?_⟩
 have H5 := Lib.hid (Fr0.trans (Fr.drew (Fr.refl _ W)) hf5)
 refine hK.out _ _ ⟨(H5.out.cell0 v0), (H5.out.cell0 v1), (H5.out.cell0 v2), (H5.out.cell0 v3), (H5.out.cell0 v4), (H5.out.cell0 v5), (H5.out.cell0 v6), (H5.out.cell0 v7), (H5.out.cell0 y0)⟩ (fun hHeld => ?_)
 clear hK K
 refine norm_ (a' := ?_) ?_ ?_
 rotate_left
 ·show Act.put _ (some 14) _ = _
  simp only [Act.put, lA, lZ, lS, i64_w, i32_w]
  rfl
 refine oN 7 16 (bt 13 2047) (h := fun K hK => ?_)
 refine goes_ Tryd.func89 (by kernel_rfl) rfl #[.agg #[.int .i64 x.g, .slice x.A x.l.length x.c, .slice x.Ap x.ps.length x.cp, .int .i64 x.piece, .slice x.At x.t.length x.ct, .slice x.Ag x.gs.length x.cg, .int .i64 x.lost, .int .i64 x.wrong], .int .i64 (first : Int), .int .i64 LV, .agg #[.func (.func F) #[] lF]] (by rfl) rfl rfl TN ?_
 with_reducible refine (HRD.out _ (Fr0.trans HF.out H5.out)).mono ?_
 rintro e w7 ⟨rfl, hf7⟩
 refine ⟨_, rfl, ?_⟩
 have H7 := Lib.hid (Fr0.trans H5.out hf7)
 refine hK.out _ _ ⟨(H7.out.cell0 v0), (H7.out.cell0 v1), (H7.out.cell0 v2), (H7.out.cell0 v3), (H7.out.cell0 v4), (H7.out.cell0 v5), (H7.out.cell0 v6), (H7.out.cell0 v7), (H7.out.cell0 y0)⟩ (fun hHeld => ?_)
 clear hK K
 refine norm_ (a' := ?_) ?_ ?_
 rotate_left
 ·show Act.put _ (some 16) _ = _
  simp only [Act.put, lA, lZ, lS, i64_w, i32_w]
  rfl
 refine pu 11 20 (bt 13 4095) (k := ?_)
 refine pu 12 8 (bt 13 8191) (k := ?_)
 refine done_ (by kernel_rfl) ?_
 clear v0 v1 v2 v3 v4 v5 v6 v7 y0
 go_wp2
 refine bodyPost_ret (v := .bool (decide (RV ≤ x.wrong))) (by simp [results, Tryd.results65, go_sem]) rfl ⟨by rw [HV.out], Fr0.trans HF.out H7.out⟩
theorem any96 (k s : Int) (w : World) : Calls Tryd.prog 96 #[.agg #[.int .i64 k, .int .i64 s]] w fun e w' => e = .returned (.bool true) ∧ Fr0 w w' := by
 go_enter Tryd.func96, Tryd.ntmps96
 go_wp2
 refine bodyPost_ret (v := .bool true) (by simp [results, Tryd.results96, go_sem]) rfl ⟨rfl, (Fr.refl _ _).alloc _⟩
theorem anySpot83 (w : World) : Calls Tryd.prog 83 #[] w fun e w' => e = .returned (.agg #[.func (.func 96) #[] #[]]) ∧ Fr0 w w' := by
 go_enter Tryd.func83, Tryd.ntmps83
 go_wp2
 refine bodyPost_ret (results_cell_row rfl _ _ w.heap.size 95 #[.func (.func 96) #[] #[]] (0, 0) _ rfl (World.alloc_heap_new w _) Tryd.underlying95 rfl (by kernel_rfl)) rfl ⟨rfl, (Fr.refl _ _).alloc _⟩
theorem any_by (w : World) : ByAt w 96 #[] (fun _ _ => true) := fun W k s _ => any96 _ _ W
def HC.fitsB (x : HC) (lost : Int) : Bool := (List.range x.p.length).any (x.begB (fun _ _ => true) lost)
theorem any_range {f : Nat → Bool} {n : Nat} : (List.range n).any f = true ↔ ∃ k, k < n ∧ f k = true := by simp
theorem any_hit {f : Nat → Bool} {n k : Nat} (hk : k < n) (h : f k = true) : (List.range n).any f = true := any_range.2 ⟨k, hk, h⟩
theorem any_none {f : Nat → Bool} {n : Nat} (h : ∀ k, k < n → f k = false) : (List.range n).any f = false := by
 rw [Bool.eq_false_iff]
 intro hc
 obtain ⟨k, hk, e⟩ := any_range.1 hc
 rw [h k hk] at e
 cases e
set_option maxHeartbeats 4000000 in
set_option maxRecDepth 100000 in
theorem fits53 (x : HC) (lost : Int) (w : World) (h : x.Ok w) (l0 : 0 ≤ lost) (l1 : lost ≤ 100) :
  Calls Tryd.prog 53 #[x.val, .int .i64 lost] w fun e w' => e = .returned (.bool (x.fitsB lost)) ∧ Fr0 w w' := by
 have hx := h.facts
 have h24 := hx.q2
 have hf0 : Fr0 w (w.alloc (.cells #[.int .i64 x.g, .slice x.A x.l.length x.c, .slice x.Ap x.ps.length x.cp, .int .i64 x.piece, .slice x.At x.t.length x.ct, .slice x.Ag x.gs.length x.cg, .int .i64 x.lost, .int .i64 x.wrong] 79)) := (Fr.refl _ _).alloc _
 have c0 : Bx (w.alloc (.cells #[.int .i64 x.g, .slice x.A x.l.length x.c, .slice x.Ap x.ps.length x.cp, .int .i64 x.piece, .slice x.At x.t.length x.ct, .slice x.Ag x.gs.length x.cg, .int .i64 x.lost, .int .i64 x.wrong] 79)) w.heap.size 79 #[.int .i64 x.g, .slice x.A x.l.length x.c, .slice x.Ap x.ps.length x.cp, .int .i64 x.piece, .slice x.At x.t.length x.ct, .slice x.Ag x.gs.length x.cg, .int .i64 x.lost, .int .i64 x.wrong] := Bx.of_new rfl
 have HTO := Lib.hid (fun W' (hf : Fr0 w W') => tones63 x W' (h.fr hf))
 have HBG := Lib.hid (fun W' (hf : Fr0 w W') (k : Nat) (hk : k < x.p.length) => begins65 x 96 #[] (fun _ _ => true) lost k W' (h.fr hf) hk l0 l1 (fun args w => by kernel_rfl) (any_by W'))
 have HV := Lib.hid (show x.fitsB lost = (List.range x.p.length).any (x.begB (fun _ _ => true) lost) from rfl)
 generalize x.fitsB lost = BV at *
 generalize x.begB (fun _ _ => true) lost = bg at *
 unfold HC.val at HTO HBG ⊢
 clear h hx
 generalize x.p.length = pl at *
 go_enter Tryd.func53, Tryd.ntmps53
 go_upto_region 1 with fail
 generalize hW : w.alloc (.cells #[.int .i64 x.g, .slice x.A x.l.length x.c, .slice x.Ap x.ps.length x.cp, .int .i64 x.piece, .slice x.At x.t.length x.ct, .slice x.Ag x.gs.length x.cg, .int .i64 x.lost, .int .i64 x.wrong] 79) = W at hf0 c0 ⊢
 clear hW
 generalize w.heap.size = b at c0 ⊢
 have v0 := c0.at_ 0 (v := .int .i64 x.g) rfl
 have v1 := c0.at_ 1 (v := .slice x.A x.l.length x.c) rfl
 have v2 := c0.at_ 2 (v := .slice x.Ap x.ps.length x.cp) rfl
 have v3 := c0.at_ 3 (v := .int .i64 x.piece) rfl
 have v4 := c0.at_ 4 (v := .slice x.At x.t.length x.ct) rfl
 have v5 := c0.at_ 5 (v := .slice x.Ag x.gs.length x.cg) rfl
 have v6 := c0.at_ 6 (v := .int .i64 x.lost) rfl
 have v7 := c0.at_ 7 (v := .int .i64 x.wrong) rfl
 have HF := Lib.hid hf0
 have HC0 := Lib.hid c0
 clear c0 hf0
 go_wp2_with (go_at_call 63; refine (HTO.out _ HF.out).mono ?_; rintro e W1 ⟨A1, c1, rfl, hc1, hC1, hf1⟩)
 have HF1 := Lib.hid hf1
 clear hf1 hC1 v0 v1 v2 v3 v4 v5 v6 v7
 go_loopw [9] (fun v9 wr => ∃ k : Nat, k ≤ pl ∧ v9 = .int .i64 k ∧ (∀ j, j < k → bg j = false) ∧ Fr0 W wr) (fun v9 _ => (pl - intOf v9).toNat)
 case atStart => exact ⟨0, by omega, by rfl, (fun j hj => absurd hj (Nat.not_lt_zero _)), HF1.out⟩
 case round =>
  obtain ⟨k, hk, rfl, hall, hf⟩ := hrel
  have HALL := Lib.hid hall
  have HFW := Lib.hid hf
  have hc := HC0.out.fr0 hf
  clear hall hf
  by_cases hlt : k < pl
  ·have hle : (k : Int) < pl := by omega
   have v0 := hc.at_ 0 (v := .int .i64 x.g) rfl
   have v1 := hc.at_ 1 (v := .slice x.A x.l.length x.c) rfl
   have v2 := hc.at_ 2 (v := .slice x.Ap x.ps.length x.cp) rfl
   have v3 := hc.at_ 3 (v := .int .i64 x.piece) rfl
   have v4 := hc.at_ 4 (v := .slice x.At x.t.length x.ct) rfl
   have v5 := hc.at_ 5 (v := .slice x.Ag x.gs.length x.cg) rfl
   have v6 := hc.at_ 6 (v := .int .i64 x.lost) rfl
   have v7 := hc.at_ 7 (v := .int .i64 x.wrong) rfl
   have HK := Lib.hid (fun W' (hf : Fr0 w W') => HBG.out W' hf k hlt)
   have HLT := Lib.hid hlt
   clear hc hlt
   generalize hbk : bg k = bk at HK
   have HBK := Lib.hid hbk
   clear hbk
   go_upto_region 4 with fail
   refine start_ (n := 5) (S := fun w' => w'.cell? ⟨b, 0, none⟩ = some (.int .i64 x.g) ∧ w'.cell? ⟨b, 1, none⟩ = some (.slice x.A x.l.length x.c) ∧ w'.cell? ⟨b, 2, none⟩ = some (.slice x.Ap x.ps.length x.cp) ∧ w'.cell? ⟨b, 3, none⟩ = some (.int .i64 x.piece) ∧ w'.cell? ⟨b, 4, none⟩ = some (.slice x.At x.t.length x.ct) ∧ w'.cell? ⟨b, 5, none⟩ = some (.slice x.Ag x.gs.length x.cg) ∧ w'.cell? ⟨b, 6, none⟩ = some (.int .i64 x.lost) ∧ w'.cell? ⟨b, 7, none⟩ = some (.int .i64 x.wrong)) (ds := []) (.replicate 5 false) (by kernel_rfl) rfl rfl ⟨v0, v1, v2, v3, v4, v5, v6, v7⟩ (fun hHeld => ?_)
   refine pu 1 13 (bt 5 2) (k := ?_)
   refine pu 2 14 (bt 5 6) (k := ?_)
   refine tk8 0 12 (bt 5 7) hHeld (k := ?_)
   refine oN 3 15 (bt 5 15) (h := fun K hK => ?_)
   refine goes_ Tryd.func83 (by kernel_rfl) rfl #[] (by rfl) rfl rfl (by first | rfl | simp) ?_
   with_reducible refine (anySpot83 _).mono ?_
   rintro e w3 ⟨rfl, hf3⟩
   refine ⟨_, rfl, ?_⟩
   have H3 := Lib.hid (Fr0.trans (Fr.drew (Fr.refl _ wr)) hf3)
   refine hK.out _ _ ⟨(H3.out.cell0 v0), (H3.out.cell0 v1), (H3.out.cell0 v2), (H3.out.cell0 v3), (H3.out.cell0 v4), (H3.out.cell0 v5), (H3.out.cell0 v6), (H3.out.cell0 v7)⟩ (fun hHeld => ?_)
   clear hK K
   refine norm_ (a' := ?_) ?_ ?_
   rotate_left
   ·show Act.put _ (some 15) _ = _
    simp only [Act.put, lA, lZ, lS, i64_w, i32_w]
    rfl
   refine oN 4 16 (bt 5 31) (h := fun K hK => ?_)
   refine goes_ Tryd.func65 (by kernel_rfl) rfl #[.agg #[.int .i64 x.g, .slice x.A x.l.length x.c, .slice x.Ap x.ps.length x.cp, .int .i64 x.piece, .slice x.At x.t.length x.ct, .slice x.Ag x.gs.length x.cg, .int .i64 x.lost, .int .i64 x.wrong], .int .i64 (k : Int), .int .i64 lost, .agg #[.func (.func 96) #[] #[]]] (by rfl) rfl rfl TN ?_
   with_reducible refine (HK.out _ (Fr0.trans HF.out (Fr0.trans HFW.out H3.out))).mono ?_
   rintro e w4 ⟨rfl, hf4⟩
   refine ⟨_, rfl, ?_⟩
   have H4 := Lib.hid (Fr0.trans H3.out hf4)
   refine hK.out _ _ ⟨(H4.out.cell0 v0), (H4.out.cell0 v1), (H4.out.cell0 v2), (H4.out.cell0 v3), (H4.out.cell0 v4), (H4.out.cell0 v5), (H4.out.cell0 v6), (H4.out.cell0 v7)⟩ (fun hHeld => ?_)
   clear hK K
   refine norm_ (a' := ?_) ?_ ?_
   rotate_left
   ·show Act.put _ (some 16) _ = _
    simp only [Act.put, lA, lZ, lS, i64_w, i32_w]
    rfl
   refine done_ (by kernel_rfl) ?_
   clear v0 v1 v2 v3 v4 v5 v6 v7
   cases bk
   ·have HA2 := Lib.hid (show ∀ j, j < k + 1 → bg j = false from fun j hj => by
     by_cases e : j = k
     ·rw [e, HBK.out]
     ·exact HALL.out j (by omega))
    go_wp2
    go_roundw
    case rel => exact ⟨k + 1, by have := HLT.out; omega, by go_num, HA2.out, Fr0.trans HFW.out H4.out⟩
    case measure => simp [intOf]; omega
   ·go_wp2
    refine bodyPost_ret (v := .bool true) (by simp [results, Tryd.results53, go_sem]) rfl ⟨by rw [HV.out, any_hit HLT.out HBK.out], Fr0.trans HF.out (Fr0.trans HFW.out H4.out)⟩
  ·obtain rfl : k = pl := by omega
   have hle : ¬ ((k : Int) < k) := by omega
   clear hc
   go_wp2
   refine bodyPost_ret (v := .bool false) (by simp [results, Tryd.results53, go_sem]) rfl ⟨by rw [HV.out, any_none HALL.out], Fr0.trans HF.out HFW.out⟩
end Go.Proofs.YtfdenclnneigfaaDoor.R
namespace Go.Proofs.YtfdenclnneigfaaDoor.R
open Go.RowKit Go.Shelf Go.Proofs.YtfdenclnneigfaaDoorW.PrintWords Go.Proofs.YtfdenclnneigfaaDoorW.PrintLast Go.Proofs.YtfdenclnneigfaaDoor.PRaspKeys Go.Proofs.YtfdenclnneigfaaDoor.X Go.Proofs.YtfdenclnneigfaaDoor.M
attribute [local go_sem] Oper.semAt_some
/-! ### Which strokes were met, as numbers -/
def gw (h : Nat → Bool) : Array Value := ((List.range 24).map fun i => Value.bool (h i)).toArray
theorem gw_size (h : Nat → Bool) : (gw h).size = 24 := by simp [gw]
theorem gw_at (h : Nat → Bool) (n : Nat) (hn : n < 24) : (gw h)[n]? = some (.bool (h n)) := by simp [gw, hn]
def anyW (h : Nat → Bool) : Bool := (List.range 24).any h
set_option maxRecDepth 100000 in
theorem eqItems_gw (h : Nat → Bool) (w : World) : ∀ is : List Nat, (∀ i ∈ is, i < 24) → (Op.eqItems 9999 4 1 (gw h) (gw fun _ => false) is).run Tryd.prog w = .ok (!(is.any h)) w
 | [], _ => by simp [Op.eqItems]
 | i :: is, hi => by
  have h1 := run_part_plain (P := Tryd.prog) (w := w) (e := 4) (by rfl) (show (gw h)[i * 1]? = some _ by rw [Nat.mul_one]; exact gw_at h i (hi i List.mem_cons_self))
  have h2 := run_part_plain (P := Tryd.prog) (w := w) (e := 4) (by rfl) (show (gw fun _ => false)[i * 1]? = some _ by rw [Nat.mul_one]; exact gw_at _ i (hi i List.mem_cons_self))
  have h3 := run_equalIn_bool w 9998 4 (h i) false Tryd.underlying4
  have ih := eqItems_gw h w is (fun k hk => hi k (List.mem_cons_of_mem _ hk))
  simp only [Op.eqItems, Sem.run_bind, h1, h2, h3, Result.andThen_ok]
  cases hh : h i
  ·simpa [hh] using ih
  ·simp [hh]
set_option maxRecDepth 100000 in
theorem gw_false : (gw fun _ => false) = #[.bool false, .bool false, .bool false, .bool false, .bool false, .bool false, .bool false, .bool false, .bool false, .bool false, .bool false, .bool false, .bool false, .bool false, .bool false, .bool false, .bool false, .bool false, .bool false, .bool false, .bool false, .bool false, .bool false, .bool false] := by rfl
set_option maxRecDepth 100000 in
theorem eq89w (h : Nat → Bool) (w : World) : (Op.equalIn 10000 89 (.agg (gw h)) (.agg (gw fun _ => false))).run Tryd.prog w = .ok (!anyW h) w := by
 have := run_equalIn_array (P := Tryd.prog) (w := w) 9999 (gw h) (gw fun _ => false) Tryd.underlying89 (i := (Tryd.prog.info? 4).getD default) (by rfl)
 rw [show (10000 : Nat) = 9999 + 1 from rfl, this]
 exact eqItems_gw h w (List.range 24) (fun i hi => by simpa using hi)
set_option maxRecDepth 100000 in
theorem ix89 (h : Nat → Bool) (n : Nat) (hn : n < 24) (w : World) : (Instr.index 89 (.agg (gw h)) (.int .i64 n)).run Tryd.prog w = .ok (.bool (h n)) w := by
 have h1 := run_part_plain (P := Tryd.prog) (w := w) (e := 4) (by rfl) (show (gw h)[n * 1]? = some _ by rw [Nat.mul_one]; exact gw_at h n hn)
 have h2 : (asIntOf (.int .i64 (n : Int))).run Tryd.prog w = .ok (.i64, (n : Int)) w := by rfl
 have h3 : (sizeOf 4).run Tryd.prog w = .ok 1 w := by rfl
 unfold Instr.index
 simp only [Sem.run_bind, h2, run_underlying Tryd.underlying89, Result.andThen_ok]
 rw [if_pos (show (0 : Int) ≤ n ∧ (n : Int) < ((24 : Nat) : Int) by omega)]
 simp only [Sem.run_bind, h3, Result.andThen_ok, Int.toNat_natCast]
 exact h1
theorem lst_all {h : Nat → Bool} : ∀ n, (∀ i, i < n → h i = false) → lst h n = []
 | 0, _ => rfl
 | n + 1, ha => by
  unfold lst
  rw [if_neg (by rw [ha n (by omega)]; simp)]
  exact lst_all n (fun i hi => ha i (by omega))
set_option maxHeartbeats 2000000 in
set_option maxRecDepth 100000 in
theorem list66 (h : Nat → Bool) (w : World) :
  Calls Tryd.prog 66 #[.agg (gw h)] w fun e w' => ∃ v, e = .returned v ∧ Kd.V (Kd.int .i64) 3 w' w.heap.size (fun k => w.heap.size ≤ k) v (lst h 24) ∧ Fr0 w w' := by
 have heq : ∀ w' : World, (Op.equalIn 10000 89 (.agg (gw h)) (.agg #[.bool false, .bool false, .bool false, .bool false, .bool false, .bool false, .bool false, .bool false, .bool false, .bool false, .bool false, .bool false, .bool false, .bool false, .bool false, .bool false, .bool false, .bool false, .bool false, .bool false, .bool false, .bool false, .bool false, .bool false])).run Tryd.prog w' = .ok (!anyW h) w' := fun w' => by rw [← gw_false]; exact eq89w h w'
 have hf0 : Fr0 w (w.alloc (.cells (gw h) 89)) := (Fr.refl _ _).alloc _
 have hg := World.alloc_heap_new w (.cells (gw h) 89)
 have hsz : (Tryd.prog.info? 89).map (·.size) = some (gw h).size := by rw [gw_size]; rfl
 have hix : ∀ (n : Nat) (w' : World), n < 24 → (Instr.index 89 (.agg (gw h)) (.int .i64 n)).run Tryd.prog w' = .ok (.bool (h n)) w' := fun n w' hn => ix89 h n hn w'
 have HIX := Lib.hid hix
 have HSZ := Lib.hid hsz
 have HLEN := Lib.hid (lst_len h)
 have HST := Lib.hid (show ∀ n, lst h (n + 1) = if h n = true then lst h n ++ [(n : Int)] else lst h n from fun _ => rfl)
 clear hix hsz
 by_cases hany : anyW h = true
 ·go_enter Tryd.func66, Tryd.ntmps66
  go_upto_region 1 with fail
  have HF0 := Lib.hid hf0
  clear hf0
  generalize w.alloc (.cells (gw h) 89) = W8 at hg HF0 ⊢
  have HG := Lib.hid hg
  generalize gw h = G at *
  clear hg
  refine wp_region_lit ?_
  refine wpList_load_row rfl 89 (.tmp 1) rfl w.heap.size rfl 89 G (0, 0) _ HG.out Tryd.underlying89 rfl HSZ.out ?_
  go_upto_region 4 with fail
  clear heq hany
  refine wp_region_lit ?_
  refine wpList_load_row rfl 89 (.tmp 1) rfl w.heap.size rfl 89 G (0, 0) _ HG.out Tryd.underlying89 rfl HSZ.out ?_
  go_wp2
  go_loopw [3, 10] (fun v3 v10 wr => ∃ n : Nat, n ≤ 24 ∧ v10 = .int .i64 n ∧ Kd.R (Kd.int .i64) 3 wr W8.heap.size (fun k => W8.heap.size ≤ k) v3 (lst h n) ∧ Below W8.heap.size W8 wr) (fun _ v10 _ => (24 - intOf v10).toNat)
  case atStart => exact ⟨0, by omega, by rfl, Kd.R_nil _ _ _ _ _, Below.refl _ _⟩
  case round =>
   obtain ⟨n, hn, rfl, hR, hb⟩ := hrel
   have HR := Lib.hid hR
   have HBL := Lib.hid hb
   clear hR hb
   by_cases hlt : n < 24
   ·have hle : (n : Int) < 24 := by omega
    have hix := fun w' => HIX.out n w' hlt
    have HL := Lib.hid (HLEN.out n)
    have HSL := Lib.hid (HST.out n)
    generalize h n = sp at hix HSL
    generalize hxs : lst h n = xs at HR HSL HL
    clear hxs
    cases sp
    ·go_wp2
     refine ⟨⟨n + 1, by omega, by go_num, ?_, HBL.out⟩, by simp [intOf]; omega⟩
     rw [HSL.out]
     exact HR.out
    ·go_wp2_with (first | ((with_reducible refine gate_builtin (b := .append) (xs := #[.tmp 15, .tmp 17]) rfl ?_); at_builtin; refine Kd.R_append (Kd.int .i64) (w0 := W8) W8.heap.size rfl (.tmp 15) (.tmp 17) 28 3 (.int .i64 0) 8 rfl Tryd.underlying28 info3 rfl (by decide) (by omega) _ xs ((n : Int)) [.int .i64 (n : Int)] (fun k => W8.heap.size ≤ k) (fun _ => False) rfl rfl ?aP (fun _ hk => hk.elim) ?aF ?aO ?aB ?aS ?aL ?_; (case aP => exact rfl); (case aB => exact HBL.out); (case aF => exact (fun k hk => Nat.le_trans HBL.out.size hk)); (case aO => exact HR.out); (case aS => exact HBL.out.size); (case aL => have := HL.out; omega); intro v104 w6 ho hb hg hat))
     refine ⟨⟨n + 1, by omega, by go_num, ?_, hb⟩, by simp [intOf]; omega⟩
     rw [HSL.out]
     exact ho
   ·obtain rfl : n = 24 := by omega
    have hV := Kd.R_V (base' := w.heap.size) HR.out
    obtain ⟨A1, c1, rfl⟩ := Kd.V_slice hV
    have hcl := (Kd.V_at hV).2.1
    have hLl := HLEN.out 24
    have hcut := cut26 A1 _ c1 hcl
    have HV := Lib.hid hV
    clear hV HR hcl
    generalize hrw : lst h 24 = rows at *
    have HRW := Lib.hid hrw
    clear hrw
    go_wp2
    refine bodyPost_ret (v := .slice A1 rows.length rows.length) (by simp [results, Tryd.results66, go_sem]) rfl ⟨_, rfl, by rw [HRW.out]; exact Kd.V_mono (V_cut' HV.out) (fun k hk => Nat.le_trans HF0.out.size hk), HF0.out.trans (Go.Proofs.YtfdenclnneigfaaDoor.X.Fr.of_below HBL.out)⟩
 ·rw [Bool.not_eq_true] at hany
  have HN := Lib.hid (show lst h 24 = [] from lst_all 24 (fun i hi => by
   unfold anyW at hany
   rw [List.any_eq_false] at hany
   simpa using hany i (by simpa using hi)))
  go_enter Tryd.func66, Tryd.ntmps66
  go_upto_region 1 with fail
  have HF0 := Lib.hid hf0
  clear hf0
  generalize w.alloc (.cells (gw h) 89) = W8 at hg HF0 ⊢
  have HG := Lib.hid hg
  generalize gw h = G at *
  clear hg
  refine wp_region_lit ?_
  refine wpList_load_row rfl 89 (.tmp 1) rfl w.heap.size rfl 89 G (0, 0) _ HG.out Tryd.underlying89 rfl HSZ.out ?_
  go_wp2
  go_ret
  exact ⟨_, rfl, by rw [HN.out]; exact Kd.V_nil _ _ _ _ _, HF0.out⟩
end Go.Proofs.YtfdenclnneigfaaDoor.R
namespace Go.Proofs.YtfdenclnneigfaaDoor.R
open Go.RowKit Go.Shelf Go.Proofs.YtfdenclnneigfaaDoorW.PrintWords Go.Proofs.YtfdenclnneigfaaDoorW.PrintLast Go.Proofs.YtfdenclnneigfaaDoor.PRaspKeys Go.Proofs.YtfdenclnneigfaaDoor.X Go.Proofs.YtfdenclnneigfaaDoor.M
attribute [local go_sem] Oper.semAt_some
/-! ### Fits, Least -/
def fitF (g : Int) (l : List S114) (ps : List S62) (piece : Int) (t gs : List Int) (lost wrong : Int) : Bool × Int :=
 if askE g l ps (okAsk ps piece t gs lost wrong) = 0 then ((HC.mk g none 0 l none 0 ps piece none 0 t none 0 gs lost wrong).fitsB lost, 0) else (false, askE g l ps (okAsk ps piece t gs lost wrong))
theorem askE_ok {g : Int} {l : List S114} {ps : List S62} {ok : Bool} (h : askE g l ps ok = 0) : hbookOk g l ps = true ∧ ok = true := by
 unfold askE at h
 split at h
 ·next h1 =>
  split at h
  ·next h2 => exact ⟨h1, h2⟩
  ·cases h
 ·cases h
set_option maxHeartbeats 4000000 in
set_option maxRecDepth 100000 in
theorem fits14 (g : Int) (A : Option Addr) (c : Nat) (l : List S114) (Ap : Option Addr) (cp : Nat) (ps : List S62) (piece : Int) (At : Option Addr) (ct : Nat) (t : List Int) (Ag : Option Addr) (cg : Nat) (gs : List Int) (lost wrong : Int) (w : World) (hB : HBook w A c l Ap cp ps) (hN : Note w At ct t Ag cg gs) :
  Calls Tryd.prog 14 #[.agg #[.int .i64 g, .slice A l.length c, .slice Ap ps.length cp], .int .i64 piece, .agg #[.slice At t.length ct, .slice Ag gs.length cg, .int .i64 lost, .int .i64 wrong]] w fun e w' => e = .returned (.tuple #[.bool (fitF g l ps piece t gs lost wrong).1, .int .i64 (fitF g l ps piece t gs lost wrong).2]) ∧ Fr0 w w' := by
 have hf0 : Fr0 w ((w.alloc (.cells #[.int .i64 g, .slice A l.length c, .slice Ap ps.length cp] 27)).alloc (.cells #[.slice At t.length ct, .slice Ag gs.length cg, .int .i64 lost, .int .i64 wrong] 30)) := ((Fr.refl _ _).alloc _).alloc _
 have c0 : Bx ((w.alloc (.cells #[.int .i64 g, .slice A l.length c, .slice Ap ps.length cp] 27)).alloc (.cells #[.slice At t.length ct, .slice Ag gs.length cg, .int .i64 lost, .int .i64 wrong] 30)) w.heap.size 27 #[.int .i64 g, .slice A l.length c, .slice Ap ps.length cp] := (Bx.of_new rfl).alloc _
 have d0 : Bx ((w.alloc (.cells #[.int .i64 g, .slice A l.length c, .slice Ap ps.length cp] 27)).alloc (.cells #[.slice At t.length ct, .slice Ag gs.length cg, .int .i64 lost, .int .i64 wrong] 30)) (w.heap.size + 1) 30 #[.slice At t.length ct, .slice Ag gs.length cg, .int .i64 lost, .int .i64 wrong] := Bx.of_new (by simp)
 have HAS := Lib.hid (fun W' (hf : Fr0 w W') => asked_any g A c l Ap cp ps piece At ct t Ag cg gs lost wrong W' (hB.fr hf) (hN.fr hf))
 by_cases hE : askE g l ps (okAsk ps piece t gs lost wrong) = 0
 ·obtain ⟨hok, hak⟩ := askE_ok hE
  obtain ⟨x, hx⟩ : ∃ x : HC, x = ⟨g, A, c, l, Ap, cp, ps, piece, At, ct, t, Ag, cg, gs, lost, wrong⟩ := ⟨_, rfl⟩
  have hO : x.Ok w := by subst hx; exact ⟨hB, hN, hok, hak⟩
  have HR := Lib.hid (show fitF g l ps piece t gs lost wrong = (x.fitsB lost, 0) by unfold fitF; rw [if_pos hE]; subst hx; rfl)
  have hl : 0 ≤ lost ∧ lost ≤ 6 := by have h := hO.facts; subst hx; exact ⟨h.l0, h.l1⟩
  have HFI := Lib.hid (fun W' (hf : Fr0 w W') => fits53 x lost W' (hO.fr hf) hl.1 (by omega))
  have hxv : x.val = .agg #[.int .i64 g, .slice A l.length c, .slice Ap ps.length cp, .int .i64 piece, .slice At t.length ct, .slice Ag gs.length cg, .int .i64 lost, .int .i64 wrong] := by subst hx; rfl
  rw [hxv] at HFI
  rw [hE, if_pos rfl] at HAS
  unfold hbV hbC at HAS
  generalize x.fitsB lost = FB at *
  rw [HR.out]
  clear hO hB hN hE hok hak hxv hx HR hl
  go_enter Tryd.func14, Tryd.ntmps14
  go_upto_region 1 with fail
  generalize hW : ((w.alloc (.cells #[.int .i64 g, .slice A l.length c, .slice Ap ps.length cp] 27)).alloc (.cells #[.slice At t.length ct, .slice Ag gs.length cg, .int .i64 lost, .int .i64 wrong] 30)) = W at hf0 c0 d0 ⊢
  clear hW
  generalize w.heap.size = b at c0 d0 ⊢
  have v0 := c0.at_ 0 (v := .int .i64 g) rfl
  have v1 := c0.at_ 1 (v := .slice A l.length c) rfl
  have v2 := c0.at_ 2 (v := .slice Ap ps.length cp) rfl
  have y0 := d0.at_ 0 (v := .slice At t.length ct) rfl
  have y1 := d0.at_ 1 (v := .slice Ag gs.length cg) rfl
  have y2 := d0.at_ 2 (v := .int .i64 lost) rfl
  have y3 := d0.at_ 3 (v := .int .i64 wrong) rfl
  have HF := Lib.hid hf0
  have HD := Lib.hid d0
  clear c0 d0 hf0
  go_upto_region 4 with (go_at_call 52; refine (HAS.out _ HF.out).mono ?_; rintro e W1 ⟨rfl, hf1⟩; (have HF1 := Lib.hid (Fr0.trans HF.out hf1)); (have HD1 := Lib.hid (HD.out.fr0 hf1)); clear hf1)
  have hf2 : Fr0 w (W1.alloc (.cells #[.int .i64 g, .slice A l.length c, .slice Ap ps.length cp, .int .i64 piece, .slice At t.length ct, .slice Ag gs.length cg, .int .i64 lost, .int .i64 wrong] 79)) := HF1.out.alloc _
  have y2 := (HD1.out.alloc (.cells #[.int .i64 g, .slice A l.length c, .slice Ap ps.length cp, .int .i64 piece, .slice At t.length ct, .slice Ag gs.length cg, .int .i64 lost, .int .i64 wrong] 79)).at_ 2 (v := .int .i64 lost) rfl
  have c2 : Bx (W1.alloc (.cells #[.int .i64 g, .slice A l.length c, .slice Ap ps.length cp, .int .i64 piece, .slice At t.length ct, .slice Ag gs.length cg, .int .i64 lost, .int .i64 wrong] 79)) W1.heap.size 79 #[.int .i64 g, .slice A l.length c, .slice Ap ps.length cp, .int .i64 piece, .slice At t.length ct, .slice Ag gs.length cg, .int .i64 lost, .int .i64 wrong] := Bx.of_new rfl
  generalize W1.alloc (.cells #[.int .i64 g, .slice A l.length c, .slice Ap ps.length cp, .int .i64 piece, .slice At t.length ct, .slice Ag gs.length cg, .int .i64 lost, .int .i64 wrong] 79) = W2 at hf2 y2 c2 ⊢
  generalize W1.heap.size = b2 at c2 ⊢
  have z0 := c2.at_ 0 (v := .int .i64 g) rfl
  have z1 := c2.at_ 1 (v := .slice A l.length c) rfl
  have z2 := c2.at_ 2 (v := .slice Ap ps.length cp) rfl
  have z3 := c2.at_ 3 (v := .int .i64 piece) rfl
  have z4 := c2.at_ 4 (v := .slice At t.length ct) rfl
  have z5 := c2.at_ 5 (v := .slice Ag gs.length cg) rfl
  have z6 := c2.at_ 6 (v := .int .i64 lost) rfl
  have z7 := c2.at_ 7 (v := .int .i64 wrong) rfl
  have HF2 := Lib.hid hf2
  clear hf2 c2 v0 v1 v2 y0 y1 y3
  go_wp2_with (go_at_call 53; refine (HFI.out _ HF2.out).mono ?_; rintro e W3 ⟨rfl, hf3⟩)
  refine bodyPost_ret (v := .tuple #[.bool FB, .int .i64 0]) (by simp [results, Tryd.results14, go_sem]) rfl ⟨rfl, Fr0.trans HF2.out hf3⟩
 ·have HR := Lib.hid (show fitF g l ps piece t gs lost wrong = (false, askE g l ps (okAsk ps piece t gs lost wrong)) by unfold fitF; rw [if_neg hE])
  rw [if_neg hE] at HAS
  unfold hb0 hbV hbC at HAS
  rw [HR.out]
  have hE2 : (askE g l ps (okAsk ps piece t gs lost wrong) != 0) = true := by simpa using hE
  clear hB hN HR hE
  generalize askE g l ps (okAsk ps piece t gs lost wrong) = E at *
  go_enter Tryd.func14, Tryd.ntmps14
  go_upto_region 1 with fail
  generalize hW : ((w.alloc (.cells #[.int .i64 g, .slice A l.length c, .slice Ap ps.length cp] 27)).alloc (.cells #[.slice At t.length ct, .slice Ag gs.length cg, .int .i64 lost, .int .i64 wrong] 30)) = W at hf0 c0 d0 ⊢
  clear hW
  generalize w.heap.size = b at c0 d0 ⊢
  have v0 := c0.at_ 0 (v := .int .i64 g) rfl
  have v1 := c0.at_ 1 (v := .slice A l.length c) rfl
  have v2 := c0.at_ 2 (v := .slice Ap ps.length cp) rfl
  have y0 := d0.at_ 0 (v := .slice At t.length ct) rfl
  have y1 := d0.at_ 1 (v := .slice Ag gs.length cg) rfl
  have y2 := d0.at_ 2 (v := .int .i64 lost) rfl
  have y3 := d0.at_ 3 (v := .int .i64 wrong) rfl
  have HF := Lib.hid hf0
  clear c0 d0 hf0
  go_wp2_with (go_at_call 52; refine (HAS.out _ HF.out).mono ?_; rintro e W1 ⟨rfl, hf1⟩; (have HF1 := Lib.hid (Fr0.trans HF.out hf1)); clear hf1)
  refine bodyPost_ret (v := .tuple #[.bool false, .int .i64 E]) (by simp [results, Tryd.results14, go_sem]) rfl ⟨rfl, HF1.out.alloc _⟩
def leaG (x : HC) : Int × Int := match (List.range 24).find? (fun k : Nat => x.fitsB (k : Int)) with | some k => ((k : Int), 0) | none => (0, 4)
theorem find_range {f : Nat → Bool} : ∀ (n k : Nat), k < n → (∀ j, j < k → f j = false) → f k = true → (List.range n).find? f = some k := fun n k hk ha hf => by
 rw [List.find?_eq_some_iff_getElem]
 exact ⟨hf, k, by simpa using hk, by simp, fun j hj => by simp [ha j hj]⟩
theorem leaG_at (x : HC) : (∀ k : Nat, k < 24 → (∀ j : Nat, j < k → x.fitsB j = false) → x.fitsB k = true → leaG x = ((k : Int), 0)) ∧ ((∀ j : Nat, j < 24 → x.fitsB j = false) → leaG x = (0, 4)) := by
 refine ⟨fun k hk ha hf => ?_, fun ha => ?_⟩
 ·unfold leaG
  rw [find_range (f := fun k : Nat => x.fitsB (k : Int)) 24 k hk ha hf]
 ·unfold leaG
  rw [List.find?_eq_none.2 (fun j hj => by rw [ha j (by simpa using hj)]; simp)]
def leaF (g : Int) (l : List S114) (ps : List S62) (piece : Int) (t gs : List Int) (lost wrong : Int) : Int × Int :=
 if askE g l ps (okAsk ps piece t gs lost wrong) = 0 then leaG (HC.mk g none 0 l none 0 ps piece none 0 t none 0 gs lost wrong) else (0, askE g l ps (okAsk ps piece t gs lost wrong))
set_option maxHeartbeats 4000000 in
set_option maxRecDepth 100000 in
theorem least23 (g : Int) (A : Option Addr) (c : Nat) (l : List S114) (Ap : Option Addr) (cp : Nat) (ps : List S62) (piece : Int) (At : Option Addr) (ct : Nat) (t : List Int) (Ag : Option Addr) (cg : Nat) (gs : List Int) (lost wrong : Int) (w : World) (hB : HBook w A c l Ap cp ps) (hN : Note w At ct t Ag cg gs) :
  Calls Tryd.prog 23 #[.agg #[.int .i64 g, .slice A l.length c, .slice Ap ps.length cp], .int .i64 piece, .agg #[.slice At t.length ct, .slice Ag gs.length cg, .int .i64 lost, .int .i64 wrong]] w fun e w' => e = .returned (.tuple #[.int .i64 (leaF g l ps piece t gs lost wrong).1, .int .i64 (leaF g l ps piece t gs lost wrong).2]) ∧ Fr0 w w' := by
 have hf0 : Fr0 w ((w.alloc (.cells #[.int .i64 g, .slice A l.length c, .slice Ap ps.length cp] 27)).alloc (.cells #[.slice At t.length ct, .slice Ag gs.length cg, .int .i64 lost, .int .i64 wrong] 30)) := ((Fr.refl _ _).alloc _).alloc _
 have c0 : Bx ((w.alloc (.cells #[.int .i64 g, .slice A l.length c, .slice Ap ps.length cp] 27)).alloc (.cells #[.slice At t.length ct, .slice Ag gs.length cg, .int .i64 lost, .int .i64 wrong] 30)) w.heap.size 27 #[.int .i64 g, .slice A l.length c, .slice Ap ps.length cp] := (Bx.of_new rfl).alloc _
 have d0 : Bx ((w.alloc (.cells #[.int .i64 g, .slice A l.length c, .slice Ap ps.length cp] 27)).alloc (.cells #[.slice At t.length ct, .slice Ag gs.length cg, .int .i64 lost, .int .i64 wrong] 30)) (w.heap.size + 1) 30 #[.slice At t.length ct, .slice Ag gs.length cg, .int .i64 lost, .int .i64 wrong] := Bx.of_new (by simp)
 have HAS := Lib.hid (fun W' (hf : Fr0 w W') => asked_any g A c l Ap cp ps piece At ct t Ag cg gs lost wrong W' (hB.fr hf) (hN.fr hf))
 by_cases hE : askE g l ps (okAsk ps piece t gs lost wrong) = 0
 ·obtain ⟨hok, hak⟩ := askE_ok hE
  obtain ⟨x, hx⟩ : ∃ x : HC, x = ⟨g, A, c, l, Ap, cp, ps, piece, At, ct, t, Ag, cg, gs, lost, wrong⟩ := ⟨_, rfl⟩
  have hO : x.Ok w := by subst hx; exact ⟨hB, hN, hok, hak⟩
  have HR := Lib.hid (show leaF g l ps piece t gs lost wrong = leaG x by unfold leaF; rw [if_pos hE]; subst hx; rfl)
  have hl : 0 ≤ lost ∧ lost ≤ 6 := by have h := hO.facts; subst hx; exact ⟨h.l0, h.l1⟩
  have HFI := Lib.hid (fun W' (hf : Fr0 w W') (k : Nat) (hk : k < 24) => fits53 x k W' (hO.fr hf) (by omega) (by omega))
  have hxv : x.val = .agg #[.int .i64 g, .slice A l.length c, .slice Ap ps.length cp, .int .i64 piece, .slice At t.length ct, .slice Ag gs.length cg, .int .i64 lost, .int .i64 wrong] := by subst hx; rfl
  rw [hxv] at HFI
  rw [hE, if_pos rfl] at HAS
  unfold hbV hbC at HAS
  rw [HR.out]
  have HLG := Lib.hid (leaG_at x)
  generalize leaG x = LG at *
  generalize x.fitsB = FB at *
  clear hO hB hN hE hok hak hxv hx HR hl
  go_enter Tryd.func23, Tryd.ntmps23
  go_upto_region 1 with fail
  generalize hW : ((w.alloc (.cells #[.int .i64 g, .slice A l.length c, .slice Ap ps.length cp] 27)).alloc (.cells #[.slice At t.length ct, .slice Ag gs.length cg, .int .i64 lost, .int .i64 wrong] 30)) = W at hf0 c0 d0 ⊢
  clear hW
  generalize w.heap.size = b at c0 d0 ⊢
  have v0 := c0.at_ 0 (v := .int .i64 g) rfl
  have v1 := c0.at_ 1 (v := .slice A l.length c) rfl
  have v2 := c0.at_ 2 (v := .slice Ap ps.length cp) rfl
  have y0 := d0.at_ 0 (v := .slice At t.length ct) rfl
  have y1 := d0.at_ 1 (v := .slice Ag gs.length cg) rfl
  have y2 := d0.at_ 2 (v := .int .i64 lost) rfl
  have y3 := d0.at_ 3 (v := .int .i64 wrong) rfl
  have HF := Lib.hid hf0
  have HD := Lib.hid d0
  clear c0 d0 hf0
  go_upto_region 4 with (go_at_call 52; refine (HAS.out _ HF.out).mono ?_; rintro e W1 ⟨rfl, hf1⟩; (have HF1 := Lib.hid (Fr0.trans HF.out hf1)); (have HD1 := Lib.hid (HD.out.fr0 hf1)); clear hf1)
  have hf2 : Fr0 w (W1.alloc (.cells #[.int .i64 g, .slice A l.length c, .slice Ap ps.length cp, .int .i64 piece, .slice At t.length ct, .slice Ag gs.length cg, .int .i64 lost, .int .i64 wrong] 79)) := HF1.out.alloc _
  have y2 := (HD1.out.alloc (.cells #[.int .i64 g, .slice A l.length c, .slice Ap ps.length cp, .int .i64 piece, .slice At t.length ct, .slice Ag gs.length cg, .int .i64 lost, .int .i64 wrong] 79)).at_ 2 (v := .int .i64 lost) rfl
  have c2 : Bx (W1.alloc (.cells #[.int .i64 g, .slice A l.length c, .slice Ap ps.length cp, .int .i64 piece, .slice At t.length ct, .slice Ag gs.length cg, .int .i64 lost, .int .i64 wrong] 79)) W1.heap.size 79 #[.int .i64 g, .slice A l.length c, .slice Ap ps.length cp, .int .i64 piece, .slice At t.length ct, .slice Ag gs.length cg, .int .i64 lost, .int .i64 wrong] := Bx.of_new rfl
  generalize W1.alloc (.cells #[.int .i64 g, .slice A l.length c, .slice Ap ps.length cp, .int .i64 piece, .slice At t.length ct, .slice Ag gs.length cg, .int .i64 lost, .int .i64 wrong] 79) = W2 at hf2 y2 c2 ⊢
  generalize W1.heap.size = b2 at c2 ⊢
  have HF2 := Lib.hid hf2
  have HC2 := Lib.hid c2
  clear hf2 c2 v0 v1 v2 y0 y1 y2 y3
  go_wp2
  go_loopw [21] (fun v21 wr => ∃ k : Nat, k ≤ 24 ∧ v21 = .int .i64 k ∧ (∀ j : Nat, j < k → FB j = false) ∧ Fr0 W2 wr) (fun v21 _ => (24 - intOf v21).toNat)
  case atStart => exact ⟨0, by omega, by rfl, (fun j hj => absurd hj (Nat.not_lt_zero _)), Fr.refl _ _⟩
  case round =>
   obtain ⟨k, hk, rfl, hall, hf⟩ := hrel
   have HALL := Lib.hid hall
   have HFW := Lib.hid hf
   have hc := HC2.out.fr0 hf
   clear hall hf
   by_cases hlt : k < 24
   ·have hle : (k : Int) < 24 := by omega
    have z0 := hc.at_ 0 (v := .int .i64 g) rfl
    have z1 := hc.at_ 1 (v := .slice A l.length c) rfl
    have z2 := hc.at_ 2 (v := .slice Ap ps.length cp) rfl
    have z3 := hc.at_ 3 (v := .int .i64 piece) rfl
    have z4 := hc.at_ 4 (v := .slice At t.length ct) rfl
    have z5 := hc.at_ 5 (v := .slice Ag gs.length cg) rfl
    have z6 := hc.at_ 6 (v := .int .i64 lost) rfl
    have z7 := hc.at_ 7 (v := .int .i64 wrong) rfl
    have HK := Lib.hid (fun W' (hf : Fr0 w W') => HFI.out W' hf k hlt)
    have HLT := Lib.hid hlt
    clear hc hlt
    generalize hbk : FB (k : Int) = bk at HK
    have HBK := Lib.hid hbk
    clear hbk
    cases bk
    ·have HA2 := Lib.hid (show ∀ j : Nat, j < k + 1 → FB j = false from fun j hj => by
      by_cases e : j = k
      ·rw [e, HBK.out]
      ·exact HALL.out j (by omega))
     go_wp2_with (go_at_call 53; refine (HK.out _ (Fr0.trans HF2.out HFW.out)).mono ?_; rintro e W4 ⟨rfl, hf4⟩)
     go_roundw
     case rel => exact ⟨k + 1, by have := HLT.out; omega, by go_num, HA2.out, Fr0.trans HFW.out hf4⟩
     case measure => simp [intOf]; omega
    ·have HL := Lib.hid (HLG.out.1 k HLT.out HALL.out HBK.out)
     go_wp2_with (go_at_call 53; refine (HK.out _ (Fr0.trans HF2.out HFW.out)).mono ?_; rintro e W4 ⟨rfl, hf4⟩)
     refine bodyPost_ret (v := .tuple #[.int .i64 k, .int .i64 0]) (by simp [results, Tryd.results23, go_sem]) rfl ⟨by rw [HL.out], Fr0.trans HF2.out (Fr0.trans HFW.out hf4)⟩
   ·obtain rfl : k = 24 := by omega
    have HL := Lib.hid (HLG.out.2 HALL.out)
    clear hc
    go_wp2
    refine bodyPost_ret (v := .tuple #[.int .i64 0, .int .i64 4]) (by simp [results, Tryd.results23, go_sem]) rfl ⟨by rw [HL.out], Fr0.trans HF2.out HFW.out⟩
 ·have HR := Lib.hid (show leaF g l ps piece t gs lost wrong = (0, askE g l ps (okAsk ps piece t gs lost wrong)) by unfold leaF; rw [if_neg hE])
  rw [if_neg hE] at HAS
  unfold hb0 hbV hbC at HAS
  rw [HR.out]
  have hE2 : (askE g l ps (okAsk ps piece t gs lost wrong) != 0) = true := by simpa using hE
  clear hB hN HR hE
  generalize askE g l ps (okAsk ps piece t gs lost wrong) = E at *
  go_enter Tryd.func23, Tryd.ntmps23
  go_upto_region 1 with fail
  generalize hW : ((w.alloc (.cells #[.int .i64 g, .slice A l.length c, .slice Ap ps.length cp] 27)).alloc (.cells #[.slice At t.length ct, .slice Ag gs.length cg, .int .i64 lost, .int .i64 wrong] 30)) = W at hf0 c0 d0 ⊢
  clear hW
  generalize w.heap.size = b at c0 d0 ⊢
  have v0 := c0.at_ 0 (v := .int .i64 g) rfl
  have v1 := c0.at_ 1 (v := .slice A l.length c) rfl
  have v2 := c0.at_ 2 (v := .slice Ap ps.length cp) rfl
  have y0 := d0.at_ 0 (v := .slice At t.length ct) rfl
  have y1 := d0.at_ 1 (v := .slice Ag gs.length cg) rfl
  have y2 := d0.at_ 2 (v := .int .i64 lost) rfl
  have y3 := d0.at_ 3 (v := .int .i64 wrong) rfl
  have HF := Lib.hid hf0
  clear c0 d0 hf0
  go_wp2_with (go_at_call 52; refine (HAS.out _ HF.out).mono ?_; rintro e W1 ⟨rfl, hf1⟩; (have HF1 := Lib.hid (Fr0.trans HF.out hf1)); clear hf1)
  refine bodyPost_ret (v := .tuple #[.int .i64 0, .int .i64 E]) (by simp [results, Tryd.results23, go_sem]) rfl ⟨rfl, HF1.out.alloc _⟩
end Go.Proofs.YtfdenclnneigfaaDoor.R
