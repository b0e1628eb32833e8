import Derived.Test.YtfmpbkolpjlfbaaDoorG2
import Derived.Test.YtfmpbkolpjlfbaaDoorM0
set_option linter.unusedVariables false
set_option linter.unusedSimpArgs false
namespace Go.Proofs.YtfmpbkolpjlfbaaDoor.R
open Go.RowKit Go.Shelf Go.Proofs.YtfmpbkolpjlfbaaDoorW.PrintWords Go.Proofs.YtfmpbkolpjlfbaaDoorW.PrintLast Go.Proofs.YtfmpbkolpjlfbaaDoor.PRaspKeys Go.Proofs.YtfmpbkolpjlfbaaDoor.X Go.Proofs.YtfmpbkolpjlfbaaDoor.M
attribute [local go_sem] Oper.semAt_some
def isIn (n lo hi : Int) : Bool := decide (lo ≤ n) && decide (n ≤ hi)
def asked (a b : Int) : Bool := isIn a (-60) 60 && isIn b 0 30
theorem lies_f (n lo hi : Int) : rasp_lies.f n lo hi = some (isIn n lo hi) := by
 unfold rasp_lies.f isIn
 by_cases c : lo ≤ n
 ·rw [if_pos c]; simp [c]
 ·rw [if_neg c]; simp [c]
theorem isAsk_f (a b : Int) : rasp_isAsk.f a b = some (asked a b) := by
 unfold rasp_isAsk.f asked
 rw [lies_f, lies_f]
 simp only [Option.bind_some]
 cases isIn a (-60) 60 <;> simp
theorem isAsk_any (a b : Int) (w : World) : Calls Tryd.prog 52 #[.int .i64 a, .int .i64 b] w fun e w' => e = .returned (.bool (asked a b)) ∧ Fr0 w w' :=
 (rasp_isAsk.calls a b _ w (isAsk_f a b)).mono fun e w' h => ⟨h.1, by obtain ⟨nd, rfl⟩ := h.2; exact (Fr.refl _ _).drewN _⟩
theorem span_f (a b n : Int) (hn : 0 ≤ n) (hn' : n ≤ 1000) : rasp_isSpan.f a b n = some (decide (-n ≤ a) && (decide (a ≤ b) && decide (b ≤ n))) := by
 unfold rasp_isSpan.f
 rw [show wrap64 (-n) = -n by unfold wrap64; omega]
 by_cases c1 : -n ≤ a <;> by_cases c2 : a ≤ b <;> simp [c1, c2]
/-- A tool is as it should be. -/
def toolOk (t : S57) : Bool := (decide (-30 ≤ t.f0.f0) && (decide (t.f0.f0 ≤ t.f0.f1) && decide (t.f0.f1 ≤ 30))) && isIn t.f1 1 10
def keyOk (t : S69) : Bool := (decide (-60 ≤ t.f0.f0) && (decide (t.f0.f0 ≤ t.f0.f1) && decide (t.f0.f1 ≤ 60))) && isIn t.f1 0 30
/-- A book is as it should be. -/
def bookOk (l0 : List S57) (lo hi : Int) (l3 : List S69) : Bool :=
 (isIn l0.length 1 4 && ((decide (-60 ≤ lo) && (decide (lo ≤ hi) && decide (hi ≤ 60))) && decide (l3.length ≤ 6))) && (l0.all toolOk && l3.all keyOk)
theorem check_l1 (l3 : List S69) (hs : (l3.length : Int) ≤ 9223372036854775807) : ∀ (d k n : Nat) (b : Bool), n + d = l3.length → d < k → rasp_Check.l1 k b l3 (l3.length : Int) (n : Int) = some (if (b && (l3.drop n).all keyOk) = true then 0 else 30)
 | _, 0, _, _, _, h => by omega
 | 0, k + 1, n, b, hd, _ => by
  unfold rasp_Check.l1
  rw [if_neg (by omega), List.drop_of_length_le (by omega)]
  cases b <;> simp
 | d + 1, k + 1, n, b, hd, hk => by
  unfold rasp_Check.l1
  have hn : n < l3.length := by omega
  rw [if_pos (by omega), if_pos (by omega), if_pos (by omega), show wrap64 ((n : Int) + 1) = ((n + 1 : Nat) : Int) by unfold wrap64; omega]
  rw [List.drop_eq_getElem_cons hn, List.all_cons]
  have hrd : rd_T69 l3 (n : Int) = l3[n] := by simp [rd_T69, hn]
  rw [hrd]
  cases b with
  | false =>
   simp only [Bool.false_eq_true, if_false]
   rw [check_l1 l3 hs d k (n + 1) false (by omega) (by omega)]
   simp
  | true =>
   simp only [if_true]
   rw [span_f _ _ _ (by omega) (by omega)]
   simp only [Option.bind_some]
   by_cases c : (decide (-60 ≤ l3[n].f0.f0) && (decide (l3[n].f0.f0 ≤ l3[n].f0.f1) && decide (l3[n].f0.f1 ≤ 60))) = true
   ·rw [if_pos c, lies_f]
    simp only [Option.bind_some]
    rw [check_l1 l3 hs d k (n + 1) _ (by omega) (by omega)]
    unfold keyOk
    rw [c]
    simp
   ·rw [if_neg c, check_l1 l3 hs d k (n + 1) false (by omega) (by omega)]
    unfold keyOk
    rw [Bool.not_eq_true] at c
    rw [c]
    simp
theorem check_l0 (l0 : List S57) (L : List S57) (a b : Int) (l3 : List S69) (hs0 : (l0.length : Int) ≤ 9223372036854775807) (hs : (l3.length : Int) ≤ 9223372036854775807) : ∀ (d k n : Nat) (q : Bool), n + d = l0.length → d + l3.length + 1 < k →
  rasp_Check.l0 k q l0 (l0.length : Int) (n : Int) L a b l3 = some (if (q && ((l0.drop n).all toolOk && l3.all keyOk)) = true then 0 else 30)
 | _, 0, _, _, _, h => by omega
 | 0, k + 1, n, q, hd, hk => by
  unfold rasp_Check.l0
  rw [if_neg (by omega), List.drop_of_length_le (by omega)]
  have := check_l1 l3 hs l3.length k 0 q (by omega) (by omega)
  rw [Int.natCast_zero] at this
  rw [this]
  simp
 | d + 1, k + 1, n, q, hd, hk => by
  unfold rasp_Check.l0
  have hn : n < l0.length := by omega
  rw [if_pos (by omega), if_pos (by omega), if_pos (by omega), show wrap64 ((n : Int) + 1) = ((n + 1 : Nat) : Int) by unfold wrap64; omega]
  rw [List.drop_eq_getElem_cons hn, List.all_cons]
  have hrd : rd_T57 l0 (n : Int) = l0[n] := by simp [rd_T57, hn]
  rw [hrd]
  cases q with
  | false =>
   simp only [Bool.false_eq_true, if_false]
   rw [check_l0 l0 L a b l3 hs0 hs d k (n + 1) false (by omega) (by omega)]
   simp
  | true =>
   simp only [if_true]
   rw [span_f _ _ _ (by omega) (by omega)]
   simp only [Option.bind_some]
   by_cases c : (decide (-30 ≤ l0[n].f0.f0) && (decide (l0[n].f0.f0 ≤ l0[n].f0.f1) && decide (l0[n].f0.f1 ≤ 30))) = true
   ·rw [if_pos c, lies_f]
    simp only [Option.bind_some]
    rw [check_l0 l0 L a b l3 hs0 hs d k (n + 1) _ (by omega) (by omega)]
    unfold toolOk
    rw [c]
    simp [Bool.and_assoc]
   ·rw [if_neg c, check_l0 l0 L a b l3 hs0 hs d k (n + 1) false (by omega) (by omega)]
    unfold toolOk
    rw [Bool.not_eq_true] at c
    rw [c]
    simp
def checkE (l0 : List S57) (lo hi : Int) (l3 : List S69) : Int := if bookOk l0 lo hi l3 = true then 0 else 30
theorem check_f (l0 : List S57) (lo hi : Int) (l3 : List S69) (hs0 : (l0.length : Int) ≤ 9223372036854775807) (hs : (l3.length : Int) ≤ 9223372036854775807) (k : Nat) (hk : l0.length + l3.length + 3 < k) : rasp_Check.f k l0 lo hi l3 = some (checkE l0 lo hi l3) := by
 obtain ⟨k, rfl⟩ : ∃ j, k = j + 1 := ⟨k - 1, by omega⟩
 have hj : ∀ q, rasp_Check.j0 (k + 1) q l0 lo hi l3 = some (if (q && (l0.all toolOk && l3.all keyOk)) = true then 0 else 30) := by
  intro q
  unfold rasp_Check.j0
  dsimp only
  have := check_l0 l0 l0 lo hi l3 hs0 hs l0.length k 0 q (by omega) (by omega)
  rw [Int.natCast_zero] at this
  rw [this]
  simp
 unfold rasp_Check.f checkE bookOk
 rw [lies_f, span_f _ _ _ (by omega) (by omega)]
 simp only [Option.bind_some]
 simp only [hj]
 by_cases c1 : isIn (l0.length : Int) 1 4 = true
 ·rw [if_pos c1]
  by_cases c2 : (decide (-60 ≤ lo) && (decide (lo ≤ hi) && decide (hi ≤ 60))) = true
  ·rw [if_pos c2, c1, c2]
   have e : decide ((l3.length : Int) ≤ 6) = decide (l3.length ≤ 6) := by by_cases h : l3.length ≤ 6 <;> simp [h] <;> omega
   rw [e]
   simp [Bool.and_assoc]
  ·rw [if_neg c2]
   rw [Bool.not_eq_true] at c2
   rw [c2]
   simp
 ·rw [if_neg c1]
  rw [Bool.not_eq_true] at c1
  rw [c1]
  simp
theorem check_any (A0 : Option Addr) (c0 : Nat) (l0 : List S57) (lo hi : Int) (A3 : Option Addr) (c3 : Nat) (l3 : List S69) (w : World) (hr0 : Kd.C k57 w A0 l0.length l0) (hc0 : l0.length ≤ c0) (hr3 : Kd.C k69 w A3 l3.length l3) (hc3 : l3.length ≤ c3) :
  Calls Tryd.prog 18 #[.agg #[.slice A0 l0.length c0, .int .i64 lo, .int .i64 hi, .slice A3 l3.length c3]] w fun e w' => e = .returned (.int .i64 (checkE l0 lo hi l3)) ∧ Below w.heap.size w w' :=
 rasp_Check.calls _ A0 c0 l0 lo hi A3 c3 l3 _ w hr0 hc0 hr3 hc3 (check_f l0 lo hi l3 (by have := hr0.2.1; omega) (by have := hr3.2.1; omega) (l0.length + l3.length + 4) (by omega))
theorem sound_of {l0 : List S57} {lo hi : Int} {l3 : List S69} (h : bookOk l0 lo hi l3 = true) : Sound l0 := by
 unfold bookOk isIn at h
 simp only [Bool.and_eq_true, decide_eq_true_eq, List.all_eq_true] at h
 obtain ⟨⟨⟨h1, h2⟩, h3, h4⟩, h5, h6⟩ := h
 have key : ∀ k, k < l0.length → toolOk (l0.getD k z57) = true := fun k hk => by
  rw [show l0.getD k z57 = l0[k] by simp [hk]]
  exact h5 _ (List.getElem_mem hk)
 refine ⟨by omega, fun k hk => ?_, fun k hk => ?_⟩
 ·have := key k hk
  unfold toolOk isIn at this
  simp only [Bool.and_eq_true, decide_eq_true_eq] at this
  omega
 ·have := key k hk
  unfold toolOk isIn at this
  simp only [Bool.and_eq_true, decide_eq_true_eq] at this
  omega
end Go.Proofs.YtfmpbkolpjlfbaaDoor.R
namespace Go.Proofs.YtfmpbkolpjlfbaaDoor.R
open Go.RowKit Go.Shelf Go.Proofs.YtfmpbkolpjlfbaaDoorW.PrintWords Go.Proofs.YtfmpbkolpjlfbaaDoorW.PrintLast Go.Proofs.YtfmpbkolpjlfbaaDoor.PRaspKeys Go.Proofs.YtfmpbkolpjlfbaaDoor.X Go.Proofs.YtfmpbkolpjlfbaaDoor.M
attribute [local go_sem] Oper.semAt_some
/-- What the opening answers. -/
def openV (l0 : List S57) (lo hi : Int) (l3 : List S69) (ok : Bool) : Int := openE (checkE l0 lo hi l3) ok
theorem openV_zero {l0 : List S57} {lo hi : Int} {l3 : List S69} {ok : Bool} (h : openV l0 lo hi l3 ok = 0) : bookOk l0 lo hi l3 = true ∧ ok = true := by
 unfold openV openE checkE at h
 by_cases hb : bookOk l0 lo hi l3 = true
 ·rw [if_pos hb] at h
  cases ok with
  | false => simp at h
  | true => exact ⟨hb, rfl⟩
 ·rw [if_neg hb] at h
  simp at h
abbrev bookV (A0 : Option Addr) (c0 : Nat) (l0 : List S57) (lo hi : Int) (A3 : Option Addr) (c3 : Nat) (l3 : List S69) : Value := .agg #[.slice A0 l0.length c0, .int .i64 lo, .int .i64 hi, .slice A3 l3.length c3]
abbrev bookC (A0 : Option Addr) (c0 : Nat) (l0 : List S57) (lo hi : Int) (A3 : Option Addr) (c3 : Nat) (l3 : List S69) : Array Value := #[.slice A0 l0.length c0, .int .i64 lo, .int .i64 hi, .slice A3 l3.length c3]
/-- What a book's rows hold. -/
structure Book (w : World) (A0 : Option Addr) (c0 : Nat) (l0 : List S57) (A3 : Option Addr) (c3 : Nat) (l3 : List S69) : Prop where
 r0 : Kd.C k57 w A0 l0.length l0
 c0 : l0.length ≤ c0
 r3 : Kd.C k69 w A3 l3.length l3
 c3 : l3.length ≤ c3
 glob : Glob w
theorem Book.fr {w w' : World} {A0 : Option Addr} {c0 : Nat} {l0 : List S57} {A3 : Option Addr} {c3 : Nat} {l3 : List S69} (h : Book w A0 c0 l0 A3 c3 l3) (hf : Fr0 w w') : Book w' A0 c0 l0 A3 c3 l3 :=
 ⟨Kd.C_below h.r0 (hf.below (Nat.le_refl _) (fun _ _ h => h)), h.c0, Kd.C_below h.r3 (hf.below (Nat.le_refl _) (fun _ _ h => h)), h.c3, h.glob.fr hf⟩
/-- What holds of what was opened. -/
structure Opened (w : World) (A0 : Option Addr) (c0 : Nat) (l0 : List S57) (lo hi : Int) (A3 : Option Addr) (c3 : Nat) (l3 : List S69) (m0 m1 : Nat) (way : Int) (w' : World) : Prop where
 fix : Fix { Cfg.of w A0 c0 l0 lo hi (.slice A3 l3.length c3) m0 m1 with way := way }
 sop : Sop (Cfg.of w A0 c0 l0 lo hi (.slice A3 l3.length c3) m0 m1) w'
 o0 : w.heap.size ≤ m0
 o1 : w.heap.size ≤ m1
theorem Sop.set {c : Cfg} {w w' : World} {g : Nat} (h : Sop c w) (hf : Fr (· = g) w w') (hg : c.w0.heap.size ≤ g) (hp : 0 < c.w0.heap.size) (h0 : g ≠ c.m0) (h1 : g ≠ c.m1) : Sop c w' := by
 have keep : ∀ way, g ≠ Cfg.mb { c with way := way } → Memo { c with way := way } w → Memo { c with way := way } w' := by
  rintro way hne ⟨f, hm, hv⟩
  exact ⟨f, hm.same (hf.block _ hm.lt (fun e => hne e.symm)), hv⟩
 refine ⟨h.base.trans (hf.below h.base.size (fun k hk e => by omega)), keep 0 (by simpa [Cfg.mb] using h0) h.mem0, keep 1 (by simpa [Cfg.mb] using h1) h.mem1, h.ne, hf.cell h.g0 (fun e => by dsimp only at e; omega), hf.cell h.g1 (fun e => by dsimp only at e; omega)⟩
theorem fin_below {w W0 W6 W7 : World} {mb : Nat} (h : Fr0 w W0) (h6 : Fr0 W0 W6) (h7 : Fr (· = mb) W6 W7) (hm : W0.heap.size ≤ mb) : Below w.heap.size w W7 :=
 ((h.trans h6).below (Nat.le_refl _) (fun _ _ h => h)).trans (h7.below (h.trans h6).size (fun k hk e => by
  have hk' : k = mb := e
  have := h.size
  omega))
theorem open_any (way : Int) (hway : way = 0 ∨ way = 1) (A0 : Option Addr) (c0 : Nat) (l0 : List S57) (lo hi : Int) (A3 : Option Addr) (c3 : Nat) (l3 : List S69) (ok : Bool) (w : World) (hB : Book w A0 c0 l0 A3 c3 l3) :
  Calls Tryd.prog 51 #[bookV A0 c0 l0 lo hi A3 c3 l3, .bool ok] w fun e w' =>
   ∃ tv lo' hi' kv' o0 o1, e = .returned (.tuple #[shopV tv lo' hi' kv' o0 o1, .int .i64 (openV l0 lo hi l3 ok)]) ∧ (∃ A n c, tv = .slice A n c) ∧ (∃ A n c, kv' = .slice A n c) ∧ Fr0 w w' ∧
    (openV l0 lo hi l3 ok = 0 → ∃ m0 m1, tv = .slice A0 l0.length c0 ∧ lo' = lo ∧ hi' = hi ∧ kv' = .slice A3 l3.length c3 ∧ o0 = some m0 ∧ o1 = some m1 ∧ Opened w A0 c0 l0 lo hi A3 c3 l3 m0 m1 way w') := by
 have h := check_f l0 lo hi l3 (by have := hB.r0.2.1; omega) (by have := hB.r3.2.1; omega) (l0.length + l3.length + 4) (by omega)
 refine (opened_any _ A0 c0 l0 lo hi A3 c3 l3 _ ok w hB.r0 hB.c0 hB.r3 hB.c3 hB.glob h).mono ?_
 rintro e w' ⟨tv, lo', hi', kv', o0, o1, he, ht, hk, hf, hop⟩
 refine ⟨tv, lo', hi', kv', o0, o1, he, ht, hk, hf, fun hz => ?_⟩
 obtain ⟨m0, m1, rfl, rfl, rfl, rfl, rfl, rfl, hs, h0, h1⟩ := hop hz
 refine ⟨m0, m1, rfl, rfl, rfl, rfl, rfl, rfl, ⟨hB.r0, hB.c0, sound_of (openV_zero hz).1, hway, rfl, ?_⟩, hs, h0, h1⟩
 show w.heap.size ≤ Cfg.mb _
 unfold Cfg.mb
 split
 ·exact h0
 ·exact h1
theorem _root_.Go.Proofs.YtfmpbkolpjlfbaaDoor.X.Bx.new_at {W0 wc : World} (h : Fr0 W0 wc) (t : TypeId) (cs : Array Value) : Bx (wc.alloc (.cells cs t)) wc.heap.size t cs := Bx.new _ _ _
abbrev Sg := Nat × Value × Int × Int × Value × Option Nat × Option Nat
/-- What is told of an opened shop, its values being s's. -/
structure OpAtP (way : Int) (W0 : World) (A0 : Option Addr) (c0 : Nat) (l0 : List S57) (lo hi : Int) (A3 : Option Addr) (c3 : Nat) (l3 : List S69) (ok : Bool) (tv : Value) (lo' hi' : Int) (kv' : Value) (o0 o1 : Option Nat) (w' : World) : Prop where
 op : openV l0 lo hi l3 ok = 0 → ∃ m0 m1, tv = .slice A0 l0.length c0 ∧ lo' = lo ∧ hi' = hi ∧ kv' = .slice A3 l3.length c3 ∧ o0 = some m0 ∧ o1 = some m1 ∧ Opened W0 A0 c0 l0 lo hi A3 c3 l3 m0 m1 way w'
theorem OpAtP.fr {way : Int} {W0 : World} {A0 : Option Addr} {c0 : Nat} {l0 : List S57} {lo hi : Int} {A3 : Option Addr} {c3 : Nat} {l3 : List S69} {ok : Bool} {tv : Value} {lo' hi' : Int} {kv' : Value} {o0 o1 : Option Nat} {w' w'' : World}
  (h : OpAtP way W0 A0 c0 l0 lo hi A3 c3 l3 ok tv lo' hi' kv' o0 o1 w') (hf : Fr0 w' w'') : OpAtP way W0 A0 c0 l0 lo hi A3 c3 l3 ok tv lo' hi' kv' o0 o1 w'' := ⟨fun hz => by
 obtain ⟨m0, m1, b, c, d, e, f, g, hO⟩ := h.op hz
 exact ⟨m0, m1, b, c, d, e, f, g, hO.fix, hO.sop.step0 hf, hO.o0, hO.o1⟩⟩
theorem OpAtP.mk' {way : Int} {W0 w2 : World} {A0 : Option Addr} {c0 : Nat} {l0 : List S57} {lo hi : Int} {A3 : Option Addr} {c3 : Nat} {l3 : List S69} {ok : Bool} {tv : Value} {lo' hi' : Int} {kv' : Value} {o0 o1 : Option Nat} {w' : World} (h2 : Fr0 W0 w2) (hB : Book W0 A0 c0 l0 A3 c3 l3)
  (h : openV l0 lo hi l3 ok = 0 → ∃ m0 m1, tv = .slice A0 l0.length c0 ∧ lo' = lo ∧ hi' = hi ∧ kv' = .slice A3 l3.length c3 ∧ o0 = some m0 ∧ o1 = some m1 ∧ Opened w2 A0 c0 l0 lo hi A3 c3 l3 m0 m1 way w') : OpAtP way W0 A0 c0 l0 lo hi A3 c3 l3 ok tv lo' hi' kv' o0 o1 w' := ⟨fun hz => by
 obtain ⟨m0, m1, b, c, d, e, f, g, hO⟩ := h hz
 have hsz := h2.size
 refine ⟨m0, m1, b, c, d, e, f, g, ⟨hB.r0, hB.c0, hO.fix.sound, hO.fix.way, rfl, ?_⟩, ⟨?_, hO.sop.mem0, hO.sop.mem1, hO.sop.ne, hO.sop.g0, hO.sop.g1⟩, by have := hO.o0; omega, by have := hO.o1; omega⟩
 ·have := hO.fix.old
  exact Nat.le_trans hsz this
 ·exact (h2.below (Nat.le_refl _) (fun _ _ h => h)).trans ⟨hO.sop.base.os, hO.sop.base.tape, hO.sop.base.output, hO.sop.base.size, fun i hi => hO.sop.base.block i (Nat.lt_of_lt_of_le hi hsz)⟩⟩
structure Hop (p : Prop) : Prop where
 out : p
theorem Hop.imp {p q : Prop} (h : Hop p) (f : p → q) : Hop q := ⟨f h.out⟩
structure OpAt (way : Int) (W0 : World) (A0 : Option Addr) (c0 : Nat) (l0 : List S57) (lo hi : Int) (A3 : Option Addr) (c3 : Nat) (l3 : List S69) (ok : Bool) (s : Sg) (w' : World) : Prop where
 fr : Fr0 W0 w'
 bx : Bx w' s.1 78 (shopC (.slice none 0 0) 0 0 (.slice none 0 0) none none)
 new : W0.heap.size ≤ s.1
 one : (∃ A n c, s.2.1 = .slice A n c) ∧ (∃ A n c, s.2.2.2.2.1 = .slice A n c)
 op : OpAtP way W0 A0 c0 l0 lo hi A3 c3 l3 ok s.2.1 s.2.2.1 s.2.2.2.1 s.2.2.2.2.1 s.2.2.2.2.2.1 s.2.2.2.2.2.2 w'
def nextF (l0 : List S57) (lo hi : Int) (l3 : List S69) (off metal : Int) : Int × Int × Int :=
 if openV l0 lo hi l3 (asked off metal) ≠ 0 then (0, 0, openV l0 lo hi l3 (asked off metal))
 else if (strk l0 lo hi 0 off metal).2 = 1000 then (0, 0, 4) else ((strk l0 lo hi 0 off metal).1, (strk l0 lo hi 0 off metal).2, 0)
set_option maxHeartbeats 4000000 in
set_option maxRecDepth 100000 in
theorem next_any (A0 : Option Addr) (c0 : Nat) (l0 : List S57) (lo hi : Int) (A3 : Option Addr) (c3 : Nat) (l3 : List S69) (off metal : Int) (w : World) (hB : Book w A0 c0 l0 A3 c3 l3) :
  Calls Tryd.prog 16 #[bookV A0 c0 l0 lo hi A3 c3 l3, .int .i64 off, .int .i64 metal] w fun e w' =>
   e = .returned (.tuple #[.int .i64 (nextF l0 lo hi l3 off metal).1, .int .i64 (nextF l0 lo hi l3 off metal).2.1, .int .i64 (nextF l0 lo hi l3 off metal).2.2]) ∧ Below w.heap.size w w' := by
 have HB := Lib.hid hB
 clear hB
 go_enter Tryd.func16, Tryd.ntmps16
 go_wp2_with fail
 have hBW : Book (w.alloc (.cells (bookC A0 c0 l0 lo hi A3 c3 l3) 27)) A0 c0 l0 A3 c3 l3 := HB.out.fr ((Fr.refl _ _).alloc _)
 have B0 := Bx.new w 27 (bookC A0 c0 l0 lo hi A3 c3 l3)
 have hf0 : Fr0 w (w.alloc (.cells (bookC A0 c0 l0 lo hi A3 c3 l3) 27)) := (Fr.refl _ _).alloc _
 generalize hg0 : w.heap.size = g at *
 generalize hW0 : w.alloc (.cells (bookC A0 c0 l0 lo hi A3 c3 l3) 27) = W0 at *
 have y0 := B0.at_ 0 rfl
 have y1 := B0.at_ 1 rfl
 have y2 := B0.at_ 2 rfl
 have y3 := B0.at_ 3 rfl
 have HBW := Lib.hid hBW
 clear hBW
 have H0 := Lib.hid (Fr.drew (Fr.refl (fun _ => False) W0))
 refine start_ (n := 11) (S := fun w' => w'.cell? ⟨g, 0, none⟩ = some (.slice A0 l0.length c0) ∧ w'.cell? ⟨g, 1, none⟩ = some (.int .i64 lo) ∧ w'.cell? ⟨g, 2, none⟩ = some (.int .i64 hi) ∧ w'.cell? ⟨g, 3, none⟩ = some (.slice A3 l3.length c3)) (ds := [9]) (.replicate 11 false) (by kernel_rfl) rfl rfl ⟨y0, y1, y2, y3⟩ (fun hHeld => ?_)
 refine pu 1 13 (bt 11 2) (k := ?_)
 refine pu 2 14 (bt 11 6) (k := ?_)
 refine tk4 0 12 (bt 11 7) hHeld (k := ?_)
 refine join_ (σ := Sg) 2 (bt 11 511) (fun s => [(15, .bool (asked off metal)), (9, .pointer (some ⟨s.1, 0, none⟩)), (16, .tuple #[shopV s.2.1 s.2.2.1 s.2.2.2.1 s.2.2.2.2.1 s.2.2.2.2.2.1 s.2.2.2.2.2.2, .int .i64 (openV l0 lo hi l3 (asked off metal))]), (11, .tuple #[shopV s.2.1 s.2.2.1 s.2.2.2.1 s.2.2.2.2.1 s.2.2.2.2.2.1 s.2.2.2.2.2.2, .int .i64 (openV l0 lo hi l3 (asked off metal))]), (17, shopV s.2.1 s.2.2.1 s.2.2.2.1 s.2.2.2.2.1 s.2.2.2.2.2.1 s.2.2.2.2.2.2), (18, .int .i64 (openV l0 lo hi l3 (asked off metal)))]) (fun s w' => ((w'.cell? ⟨g, 0, none⟩ = some (.slice A0 l0.length c0)) ∧ (w'.cell? ⟨g, 1, none⟩ = some (.int .i64 lo)) ∧ (w'.cell? ⟨g, 2, none⟩ = some (.int .i64 hi)) ∧ (w'.cell? ⟨g, 3, none⟩ = some (.slice A3 l3.length c3))) ∧ OpAt 0 W0 A0 c0 l0 lo hi A3 c3 l3 (asked off metal) s w') ?_ ?_
 rotate_left
 ·intro hCont
  refine two_ (i := 3) (j := 8) (Ni := some 15) (Nj := some 9) (bt 11 15) (bt 11 263) rfl rfl rfl rfl (by kernel_rfl) (by decide) (by decide) (fun K hK => ?_) (fun K hK => ?_)
  ·skip
   refine goes_ Tryd.func52 (by kernel_rfl) rfl #[.int .i64 off, .int .i64 metal] (by rfl) rfl rfl TN ?_
   with_reducible refine (isAsk_any off metal _).mono ?_
   rintro e w3_0 ⟨rfl, hf0⟩
   refine ⟨_, rfl, ?_⟩
   have H1 := Lib.hid (Fr0.trans H0.out hf0)
   refine hK.out _ _ ⟨(H1.out.cell0 y0), (H1.out.cell0 y1), (H1.out.cell0 y2), (H1.out.cell0 y3)⟩ (fun hHeld => ?_)
   clear hK K
   refine norm_ (a' := ?_) ?_ ?_
   rotate_left
   ·show Act.put _ (some 15) _ = _
    simp only [Act.put, lA, lZ, lS, i64_w, i32_w]
    rfl
   refine two_ (i := 4) (j := 8) (Ni := some 16) (Nj := some 9) (bt 11 31) (bt 11 271) rfl rfl rfl rfl (by kernel_rfl) (by decide) (by decide) (fun K hK => ?_) (fun K hK => ?_)
   ·skip
    refine goes_ Tryd.func51 (by kernel_rfl) rfl #[bookV A0 c0 l0 lo hi A3 c3 l3, .bool (asked off metal)] (by rfl) rfl rfl TN ?_
    with_reducible refine (open_any 0 (.inl rfl) A0 c0 l0 lo hi A3 c3 l3 (asked off metal) _ (HBW.out.fr H1.out)).mono ?_
    rintro e w3_1 ⟨tv, lo', hi', kv', o0, o1, rfl, htv, hkv, hf1, hop⟩
    refine ⟨_, rfl, ?_⟩
    have H2 := Lib.hid (Fr0.trans H1.out hf1)
    have HOP : Hop _ := ⟨OpAtP.mk' H1.out HBW.out hop⟩
    refine hK.out _ _ ⟨(H2.out.cell0 y0), (H2.out.cell0 y1), (H2.out.cell0 y2), (H2.out.cell0 y3)⟩ (fun hHeld => ?_)
    clear hK K
    refine norm_ (a' := ?_) ?_ ?_
    rotate_left
    ·show Act.put _ (some 16) _ = _
     simp only [Act.put, lA, lZ, lS, i64_w, i32_w]
     rfl
    refine pu 5 11 (bt 11 63) (k := ?_)
    refine pu 6 17 (bt 11 127) (k := ?_)
    refine pu 7 18 (bt 11 255) (k := ?_)
    refine oN 8 9 (bt 11 511) (h := fun K hK => ?_)
    refine value_ (w1 := ?_) (v := ?_) (by rfl) rfl ?_ ?_
    rotate_left 2
    ·go_simp
     constructor
     ·rfl
     ·rfl
    have H3 := Lib.hid (Fr0.trans H2.out (Fr.alloc (Fr.refl _ _) (.cells (shopC (.slice none 0 0) 0 0 (.slice none 0 0) none none) 78)))
    have HX := Lib.hid (Bx.new_at H2.out 78 (shopC (.slice none 0 0) 0 0 (.slice none 0 0) none none))
    have HLE := Lib.hid H2.out.size
    have HOP := HOP.imp (fun h => h.fr (Fr.alloc (Fr.refl _ _) (.cells (shopC (.slice none 0 0) 0 0 (.slice none 0 0) none none) 78)))
    refine hK.out _ _ ⟨(H3.out.cell0 y0), (H3.out.cell0 y1), (H3.out.cell0 y2), (H3.out.cell0 y3)⟩ (fun hHeld => ?_)
    clear hK K
    refine norm_ (a' := ?_) ?_ ?_
    rotate_left
    ·show Act.put _ (some 9) _ = _
     simp only [Act.put, lA, lZ, lS, i64_w, i32_w]
     rfl
    exact norm_ (by (simp only [putAll, Act.put, lA, lZ, lS]) <;> rfl) (hCont (⟨_, tv, lo', hi', kv', o0, o1⟩ : Sg) _ ⟨⟨H3.out.cell0 y0, H3.out.cell0 y1, H3.out.cell0 y2, H3.out.cell0 y3⟩, ⟨H3.out, HX.out, HLE.out, ⟨htv, hkv⟩, HOP.out⟩⟩)
   ·skip
    refine value_ (w1 := ?_) (v := ?_) (by rfl) rfl ?_ ?_
    rotate_left 2
    ·go_simp
     constructor
     ·rfl
     ·rfl
    have H2 := Lib.hid (Fr0.trans H1.out (Fr.alloc (Fr.refl _ _) (.cells (shopC (.slice none 0 0) 0 0 (.slice none 0 0) none none) 78)))
    have HX := Lib.hid (Bx.new_at H1.out 78 (shopC (.slice none 0 0) 0 0 (.slice none 0 0) none none))
    have HLE := Lib.hid H1.out.size
    refine hK.out _ _ ⟨(H2.out.cell0 y0), (H2.out.cell0 y1), (H2.out.cell0 y2), (H2.out.cell0 y3)⟩ (fun hHeld => ?_)
    clear hK K
    refine norm_ (a' := ?_) ?_ ?_
    rotate_left
    ·show Act.put _ (some 9) _ = _
     simp only [Act.put, lA, lZ, lS, i64_w, i32_w]
     rfl
    refine oN 4 16 (bt 11 287) (h := fun K hK => ?_)
    refine goes_ Tryd.func51 (by kernel_rfl) rfl #[bookV A0 c0 l0 lo hi A3 c3 l3, .bool (asked off metal)] (by rfl) rfl rfl TN ?_
    with_reducible refine (open_any 0 (.inl rfl) A0 c0 l0 lo hi A3 c3 l3 (asked off metal) _ (HBW.out.fr H2.out)).mono ?_
    rintro e w3_2 ⟨tv, lo', hi', kv', o0, o1, rfl, htv, hkv, hf2, hop⟩
    refine ⟨_, rfl, ?_⟩
    have H3 := Lib.hid (Fr0.trans H2.out hf2)
    have HX := Lib.hid (HX.out.fr0 hf2)
    have HOP : Hop _ := ⟨OpAtP.mk' H2.out HBW.out hop⟩
    refine hK.out _ _ ⟨(H3.out.cell0 y0), (H3.out.cell0 y1), (H3.out.cell0 y2), (H3.out.cell0 y3)⟩ (fun hHeld => ?_)
    clear hK K
    refine norm_ (a' := ?_) ?_ ?_
    rotate_left
    ·show Act.put _ (some 16) _ = _
     simp only [Act.put, lA, lZ, lS, i64_w, i32_w]
     rfl
    refine pu 5 11 (bt 11 319) (k := ?_)
    refine pu 6 17 (bt 11 383) (k := ?_)
    refine pu 7 18 (bt 11 511) (k := ?_)
    exact norm_ (by (simp only [putAll, Act.put, lA, lZ, lS]) <;> rfl) (hCont (⟨_, tv, lo', hi', kv', o0, o1⟩ : Sg) _ ⟨⟨H3.out.cell0 y0, H3.out.cell0 y1, H3.out.cell0 y2, H3.out.cell0 y3⟩, ⟨H3.out, HX.out, HLE.out, ⟨htv, hkv⟩, HOP.out⟩⟩)
  ·skip
   refine value_ (w1 := ?_) (v := ?_) (by rfl) rfl ?_ ?_
   rotate_left 2
   ·go_simp
    constructor
    ·rfl
    ·rfl
   have H1 := Lib.hid (Fr0.trans H0.out (Fr.alloc (Fr.refl _ _) (.cells (shopC (.slice none 0 0) 0 0 (.slice none 0 0) none none) 78)))
   have HX := Lib.hid (Bx.new_at H0.out 78 (shopC (.slice none 0 0) 0 0 (.slice none 0 0) none none))
   have HLE := Lib.hid H0.out.size
   refine hK.out _ _ ⟨(H1.out.cell0 y0), (H1.out.cell0 y1), (H1.out.cell0 y2), (H1.out.cell0 y3)⟩ (fun hHeld => ?_)
   clear hK K
   refine norm_ (a' := ?_) ?_ ?_
   rotate_left
   ·show Act.put _ (some 9) _ = _
    simp only [Act.put, lA, lZ, lS, i64_w, i32_w]
    rfl
   refine oN 3 15 (bt 11 271) (h := fun K hK => ?_)
   refine goes_ Tryd.func52 (by kernel_rfl) rfl #[.int .i64 off, .int .i64 metal] (by rfl) rfl rfl TN ?_
   with_reducible refine (isAsk_any off metal _).mono ?_
   rintro e w3_1 ⟨rfl, hf1⟩
   refine ⟨_, rfl, ?_⟩
   have H2 := Lib.hid (Fr0.trans H1.out hf1)
   have HX := Lib.hid (HX.out.fr0 hf1)
   refine hK.out _ _ ⟨(H2.out.cell0 y0), (H2.out.cell0 y1), (H2.out.cell0 y2), (H2.out.cell0 y3)⟩ (fun hHeld => ?_)
   clear hK K
   refine norm_ (a' := ?_) ?_ ?_
   rotate_left
   ·show Act.put _ (some 15) _ = _
    simp only [Act.put, lA, lZ, lS, i64_w, i32_w]
    rfl
   refine oN 4 16 (bt 11 287) (h := fun K hK => ?_)
   refine goes_ Tryd.func51 (by kernel_rfl) rfl #[bookV A0 c0 l0 lo hi A3 c3 l3, .bool (asked off metal)] (by rfl) rfl rfl TN ?_
   with_reducible refine (open_any 0 (.inl rfl) A0 c0 l0 lo hi A3 c3 l3 (asked off metal) _ (HBW.out.fr H2.out)).mono ?_
   rintro e w3_2 ⟨tv, lo', hi', kv', o0, o1, rfl, htv, hkv, hf2, hop⟩
   refine ⟨_, rfl, ?_⟩
   have H3 := Lib.hid (Fr0.trans H2.out hf2)
   have HX := Lib.hid (HX.out.fr0 hf2)
   have HOP : Hop _ := ⟨OpAtP.mk' H2.out HBW.out hop⟩
   refine hK.out _ _ ⟨(H3.out.cell0 y0), (H3.out.cell0 y1), (H3.out.cell0 y2), (H3.out.cell0 y3)⟩ (fun hHeld => ?_)
   clear hK K
   refine norm_ (a' := ?_) ?_ ?_
   rotate_left
   ·show Act.put _ (some 16) _ = _
    simp only [Act.put, lA, lZ, lS, i64_w, i32_w]
    rfl
   refine pu 5 11 (bt 11 319) (k := ?_)
   refine pu 6 17 (bt 11 383) (k := ?_)
   refine pu 7 18 (bt 11 511) (k := ?_)
   exact norm_ (by (simp only [putAll, Act.put, lA, lZ, lS]) <;> rfl) (hCont (⟨_, tv, lo', hi', kv', o0, o1⟩ : Sg) _ ⟨⟨H3.out.cell0 y0, H3.out.cell0 y1, H3.out.cell0 y2, H3.out.cell0 y3⟩, ⟨H3.out, HX.out, HLE.out, ⟨htv, hkv⟩, HOP.out⟩⟩)
 rintro ⟨g9, tv, lo', hi', kv', o0, o1⟩ w5 ⟨⟨s0, s1, s2, s3⟩, HP⟩
 have hHeld : (w5.cell? ⟨g, 0, none⟩ = some (.slice A0 l0.length c0)) ∧ (w5.cell? ⟨g, 1, none⟩ = some (.int .i64 lo)) ∧ (w5.cell? ⟨g, 2, none⟩ = some (.int .i64 hi)) ∧ (w5.cell? ⟨g, 3, none⟩ = some (.slice A3 l3.length c3)) := ⟨s0, s1, s2, s3⟩
 have hone := HP.one
 dsimp only at hone
 obtain ⟨⟨Ax, nx, cx, rfl⟩, ⟨Ay, ny, cy, rfl⟩⟩ := hone
 have bz0 := HP.bx.at_ 0 rfl
 have bz1 := HP.bx.at_ 1 rfl
 have bz2 := HP.bx.at_ 2 rfl
 have bz3 := HP.bx.at_ 3 rfl
 have bz4 := HP.bx.at_ 4 rfl
 have bz5 := HP.bx.at_ 5 rfl
 have fz0 := HP.bx.frz 0
 have fz1 := HP.bx.frz 1
 have fz2 := HP.bx.frz 2
 have fz3 := HP.bx.frz 3
 have fz4 := HP.bx.frz 4
 have fz5 := HP.bx.frz 5
 dsimp only at bz0 fz0 bz1 fz1 bz2 fz2 bz3 fz3 bz4 fz4 bz5 fz5
 refine norm_ (a' := ?_) ?_ ?_
 rotate_left
 ·simp only [putAll, Act.put, lA, lZ, lS]
  rfl
 refine last_ (i := 9) (N := none) (bt 11 1023) rfl rfl (by kernel_rfl) (by decide) (fun K hK => ?_)
 refine skip_ (w1 := ?_) (by rfl) rfl ?_ ?_
 rotate_left
 ·go_simp
  rfl
 refine hK.out _ _ ?_
 clear hK K
 refine pu 10 8 (bt 11 2047) (k := ?_)
 refine done_ (by kernel_rfl) ?_
 have BX := shop_set HP.bx (.slice Ax nx cx) (.int .i64 lo') (.int .i64 hi') (.slice Ay ny cy) (.map o0) (.map o1)
 have hf6 := shop_fr HP.fr (.inr HP.new) (.slice Ax nx cx) (.int .i64 lo') (.int .i64 hi') (.slice Ay ny cy) (.map o0) (.map o1)
 have hf56 := shop_fr (Fr.refl (· = g9) w5) (.inl rfl) (.slice Ax nx cx) (.int .i64 lo') (.int .i64 hi') (.slice Ay ny cy) (.map o0) (.map o1)
 dsimp only at BX hf6 hf56
 generalize hW6 : World.setCell _ _ _ = W6 at *
 have HBX := Lib.hid BX
 have c0' := BX.at_ 0 rfl
 have c1' := BX.at_ 1 rfl
 have c2' := BX.at_ 2 rfl
 have c3' := BX.at_ 3 rfl
 have c4' := BX.at_ 4 rfl
 have c5' := BX.at_ 5 rfl
 have lg := BX.lt
 have HNEW := Lib.hid HP.new
 clear bz0 bz1 bz2 bz3 bz4 bz5 fz0 fz1 fz2 fz3 fz4 fz5 s0 s1 s2 s3 H0 BX hHeld y0 y1 y2 y3
 by_cases hz : openV l0 lo hi l3 (asked off metal) = 0
 ·obtain ⟨m0, m1, e1, e2, e3, e4, e5, e6, hO⟩ := HP.op.op hz
  obtain ⟨hbk, hak⟩ := openV_zero hz
  have hN : nextF l0 lo hi l3 off metal = if (strk l0 lo hi 0 off metal).2 = 1000 then (0, 0, 4) else ((strk l0 lo hi 0 off metal).1, (strk l0 lo hi 0 off metal).2, 0) := by unfold nextF; rw [if_neg (by simpa using hz)]
  have HN := Lib.hid hN
  have hpos : 0 < W0.heap.size := World.block_lt_of_cell? W0 _ HBW.out.glob.g0
  have hn0 : g9 ≠ m0 := fun e => by
   obtain ⟨f, hf, _⟩ := hO.sop.mem0
   obtain ⟨es, ck, ho⟩ := hf.obj
   exact HP.bx.not_map ho (e.trans (by simp [Cfg.mb, Cfg.of]))
  have hn1 : g9 ≠ m1 := fun e => by
   obtain ⟨f, hf, _⟩ := hO.sop.mem1
   obtain ⟨es, ck, ho⟩ := hf.obj
   exact HP.bx.not_map ho (e.trans (by simp [Cfg.mb, Cfg.of]))
  have hS6 := hO.sop.set hf56 HNEW.out hpos hn0 hn1
  have hme : 0 ≤ metal ∧ metal ≤ 30 ∧ -60 ≤ off ∧ off ≤ 60 := by
   unfold asked isIn at hak
   simp only [Bool.and_eq_true, decide_eq_true_eq] at hak
   omega
  have HS6 := Lib.hid hS6
  have HO := Lib.hid hO
  clear hS6 hO HP hN hak
  dsimp only at e1 e2 e3 e4 e5 e6
  cases e1
  cases e4
  subst e2 e3 e5 e6
  by_cases hbig : (strk l0 lo' hi' 0 off metal).2 = 1000
  ·go_wp2_with (go_at_call 53; refine (strokes_any (Cfg.of W0 A0 c0 l0 lo' hi' (.slice A3 l3.length c3) m0 m1) HO.out.fix off metal W6 HS6.out hme.1 (by omega) (by omega) (by omega)).mono ?_; rintro e W7 ⟨he, hf7, hS7⟩; (have he : e = .returned (.agg #[.int .i64 (strk l0 lo' hi' 0 off metal).1, .int .i64 (strk l0 lo' hi' 0 off metal).2]) := he); subst he)
   refine bodyPost_ret (v := .tuple #[.int .i64 0, .int .i64 0, .int .i64 4]) (by simp [results, Tryd.results16, go_sem]) rfl ⟨by rw [HN.out, if_pos hbig], ?_⟩
   have hfin := fin_below hf0 hf6 hf7 HO.out.fix.old
   exact hfin.trans ((Below.refl _ _).alloc hfin.size _)
  ·go_wp2_with (go_at_call 53; refine (strokes_any (Cfg.of W0 A0 c0 l0 lo' hi' (.slice A3 l3.length c3) m0 m1) HO.out.fix off metal W6 HS6.out hme.1 (by omega) (by omega) (by omega)).mono ?_; rintro e W7 ⟨he, hf7, hS7⟩; (have he : e = .returned (.agg #[.int .i64 (strk l0 lo' hi' 0 off metal).1, .int .i64 (strk l0 lo' hi' 0 off metal).2]) := he); subst he; (have BD := Bx.new W7 83 #[.int .i64 (strk l0 lo' hi' 0 off metal).1, .int .i64 (strk l0 lo' hi' 0 off metal).2]))
   have d0 := BD.at_ 0 rfl
   have d1 := BD.at_ 1 rfl
   refine start_ (n := 7) (S := fun w' => w'.cell? ⟨W7.heap.size, 0, none⟩ = some (.int .i64 (strk l0 lo' hi' 0 off metal).1) ∧ w'.cell? ⟨W7.heap.size, 1, none⟩ = some (.int .i64 (strk l0 lo' hi' 0 off metal).2)) (ds := []) (.replicate 7 false) (by kernel_rfl) rfl rfl ⟨d0, d1⟩ (fun hHeld => ?_)
   refine pu 0 30 (bt 7 1) (k := ?_)
   refine pu 2 32 (bt 7 5) (k := ?_)
   refine tk2 1 31 (bt 7 7) hHeld (k := ?_)
   refine pu 4 6 (bt 7 23) (k := ?_)
   refine tk2 3 33 (bt 7 31) hHeld (k := ?_)
   refine pu 5 7 (bt 7 63) (k := ?_)
   refine pu 6 8 (bt 7 127) (k := ?_)
   refine done_ (by kernel_rfl) ?_
   go_wp2
   refine bodyPost_ret (v := .tuple #[.int .i64 (strk l0 lo' hi' 0 off metal).1, .int .i64 (strk l0 lo' hi' 0 off metal).2, .int .i64 0]) (by simp [results, Tryd.results16, go_sem]) rfl ⟨by rw [HN.out, if_neg hbig], ?_⟩
   have hfin := fin_below hf0 hf6 hf7 HO.out.fix.old
   exact hfin.trans ((Below.refl _ _).alloc hfin.size _).drew
 ·have hN : nextF l0 lo hi l3 off metal = (0, 0, openV l0 lo hi l3 (asked off metal)) := by unfold nextF; rw [if_pos hz]
  go_wp2
  refine bodyPost_ret (v := .tuple #[.int .i64 0, .int .i64 0, .int .i64 (openV l0 lo hi l3 (asked off metal))]) (by simp [results, Tryd.results16, go_sem]) rfl ⟨by first | rfl | rw [hN], ?_⟩
  exact (hf0.trans hf6).below (Nat.le_of_eq (by first | rfl | exact hg0.symm)) (fun _ _ h => h)
end Go.Proofs.YtfmpbkolpjlfbaaDoor.R
namespace Go.Proofs.YtfmpbkolpjlfbaaDoor.R
open Go.RowKit Go.Shelf Go.Proofs.YtfmpbkolpjlfbaaDoorW.PrintWords Go.Proofs.YtfmpbkolpjlfbaaDoorW.PrintLast Go.Proofs.YtfmpbkolpjlfbaaDoor.PRaspKeys Go.Proofs.YtfmpbkolpjlfbaaDoor.X Go.Proofs.YtfmpbkolpjlfbaaDoor.M
attribute [local go_sem] Oper.semAt_some
theorem field83 (a b : Int) (w' : World) : (Instr.field 83 (.agg #[.int .i64 a, .int .i64 b]) 1).run Tryd.prog w' = .ok (.int .i64 b) w' := by kernel_rfl
theorem field83_0 (a b : Int) (w' : World) : (Instr.field 83 (.agg #[.int .i64 a, .int .i64 b]) 0).run Tryd.prog w' = .ok (.int .i64 a) w' := by kernel_rfl
def luckyF (l0 : List S57) (lo hi : Int) (l3 : List S69) (off metal : Int) : Int × Int :=
 if openV l0 lo hi l3 (asked off metal) ≠ 0 then (0, openV l0 lo hi l3 (asked off metal))
 else if (strk l0 lo hi 1 off metal).2 = 1000 then (0, 4) else ((strk l0 lo hi 1 off metal).2, 0)
theorem Sop.way {c : Cfg} {w : World} (h : Sop c w) (way : Int) : Sop { c with way := way } w := ⟨h.base, h.mem0, h.mem1, h.ne, h.g0, h.g1⟩
set_option maxHeartbeats 4000000 in
set_option maxRecDepth 100000 in
theorem lucky_any (A0 : Option Addr) (c0 : Nat) (l0 : List S57) (lo hi : Int) (A3 : Option Addr) (c3 : Nat) (l3 : List S69) (off metal : Int) (w : World) (hB : Book w A0 c0 l0 A3 c3 l3) :
  Calls Tryd.prog 20 #[bookV A0 c0 l0 lo hi A3 c3 l3, .int .i64 off, .int .i64 metal] w fun e w' =>
   e = .returned (.tuple #[.int .i64 (luckyF l0 lo hi l3 off metal).1, .int .i64 (luckyF l0 lo hi l3 off metal).2]) ∧ Below w.heap.size w w' := by
 have HB := Lib.hid hB
 clear hB
 go_enter Tryd.func20, Tryd.ntmps20
 go_wp2_with fail
 have hBW : Book (w.alloc (.cells (bookC A0 c0 l0 lo hi A3 c3 l3) 27)) A0 c0 l0 A3 c3 l3 := HB.out.fr ((Fr.refl _ _).alloc _)
 have B0 := Bx.new w 27 (bookC A0 c0 l0 lo hi A3 c3 l3)
 have hf0 : Fr0 w (w.alloc (.cells (bookC A0 c0 l0 lo hi A3 c3 l3) 27)) := (Fr.refl _ _).alloc _
 generalize hg0 : w.heap.size = g at *
 generalize hW0 : w.alloc (.cells (bookC A0 c0 l0 lo hi A3 c3 l3) 27) = W0 at *
 have y0 := B0.at_ 0 rfl
 have y1 := B0.at_ 1 rfl
 have y2 := B0.at_ 2 rfl
 have y3 := B0.at_ 3 rfl
 have HBW := Lib.hid hBW
 clear hBW
 have H0 := Lib.hid (Fr.drew (Fr.refl (fun _ => False) W0))
 refine start_ (n := 11) (S := fun w' => w'.cell? ⟨g, 0, none⟩ = some (.slice A0 l0.length c0) ∧ w'.cell? ⟨g, 1, none⟩ = some (.int .i64 lo) ∧ w'.cell? ⟨g, 2, none⟩ = some (.int .i64 hi) ∧ w'.cell? ⟨g, 3, none⟩ = some (.slice A3 l3.length c3)) (ds := [9]) (.replicate 11 false) (by kernel_rfl) rfl rfl ⟨y0, y1, y2, y3⟩ (fun hHeld => ?_)
 refine pu 1 13 (bt 11 2) (k := ?_)
 refine pu 2 14 (bt 11 6) (k := ?_)
 refine tk4 0 12 (bt 11 7) hHeld (k := ?_)
 refine join_ (σ := Sg) 2 (bt 11 511) (fun s => [(15, .bool (asked off metal)), (8, .pointer (some ⟨s.1, 0, none⟩)), (16, .tuple #[shopV s.2.1 s.2.2.1 s.2.2.2.1 s.2.2.2.2.1 s.2.2.2.2.2.1 s.2.2.2.2.2.2, .int .i64 (openV l0 lo hi l3 (asked off metal))]), (11, .tuple #[shopV s.2.1 s.2.2.1 s.2.2.2.1 s.2.2.2.2.1 s.2.2.2.2.2.1 s.2.2.2.2.2.2, .int .i64 (openV l0 lo hi l3 (asked off metal))]), (17, shopV s.2.1 s.2.2.1 s.2.2.2.1 s.2.2.2.2.1 s.2.2.2.2.2.1 s.2.2.2.2.2.2), (18, .int .i64 (openV l0 lo hi l3 (asked off metal)))]) (fun s w' => ((w'.cell? ⟨g, 0, none⟩ = some (.slice A0 l0.length c0)) ∧ (w'.cell? ⟨g, 1, none⟩ = some (.int .i64 lo)) ∧ (w'.cell? ⟨g, 2, none⟩ = some (.int .i64 hi)) ∧ (w'.cell? ⟨g, 3, none⟩ = some (.slice A3 l3.length c3))) ∧ OpAt 1 W0 A0 c0 l0 lo hi A3 c3 l3 (asked off metal) s w') ?_ ?_
 rotate_left
 ·intro hCont
  refine two_ (i := 3) (j := 8) (Ni := some 15) (Nj := some 8) (bt 11 15) (bt 11 263) rfl rfl rfl rfl (by kernel_rfl) (by decide) (by decide) (fun K hK => ?_) (fun K hK => ?_)
  ·skip
   refine goes_ Tryd.func52 (by kernel_rfl) rfl #[.int .i64 off, .int .i64 metal] (by rfl) rfl rfl TN ?_
   with_reducible refine (isAsk_any off metal _).mono ?_
   rintro e w3_0 ⟨rfl, hf0⟩
   refine ⟨_, rfl, ?_⟩
   have H1 := Lib.hid (Fr0.trans H0.out hf0)
   refine hK.out _ _ ⟨(H1.out.cell0 y0), (H1.out.cell0 y1), (H1.out.cell0 y2), (H1.out.cell0 y3)⟩ (fun hHeld => ?_)
   clear hK K
   refine norm_ (a' := ?_) ?_ ?_
   rotate_left
   ·show Act.put _ (some 15) _ = _
    simp only [Act.put, lA, lZ, lS, i64_w, i32_w]
    rfl
   refine two_ (i := 4) (j := 8) (Ni := some 16) (Nj := some 8) (bt 11 31) (bt 11 271) rfl rfl rfl rfl (by kernel_rfl) (by decide) (by decide) (fun K hK => ?_) (fun K hK => ?_)
   ·skip
    refine goes_ Tryd.func51 (by kernel_rfl) rfl #[bookV A0 c0 l0 lo hi A3 c3 l3, .bool (asked off metal)] (by rfl) rfl rfl TN ?_
    with_reducible refine (open_any 1 (.inr rfl) A0 c0 l0 lo hi A3 c3 l3 (asked off metal) _ (HBW.out.fr H1.out)).mono ?_
    rintro e w3_1 ⟨tv, lo', hi', kv', o0, o1, rfl, htv, hkv, hf1, hop⟩
    refine ⟨_, rfl, ?_⟩
    have H2 := Lib.hid (Fr0.trans H1.out hf1)
    have HOP : Hop _ := ⟨OpAtP.mk' H1.out HBW.out hop⟩
    refine hK.out _ _ ⟨(H2.out.cell0 y0), (H2.out.cell0 y1), (H2.out.cell0 y2), (H2.out.cell0 y3)⟩ (fun hHeld => ?_)
    clear hK K
    refine norm_ (a' := ?_) ?_ ?_
    rotate_left
    ·show Act.put _ (some 16) _ = _
     simp only [Act.put, lA, lZ, lS, i64_w, i32_w]
     rfl
    refine pu 5 11 (bt 11 63) (k := ?_)
    refine pu 6 17 (bt 11 127) (k := ?_)
    refine pu 7 18 (bt 11 255) (k := ?_)
    refine oN 8 8 (bt 11 511) (h := fun K hK => ?_)
    refine value_ (w1 := ?_) (v := ?_) (by rfl) rfl ?_ ?_
    rotate_left 2
    ·go_simp
     constructor
     ·rfl
     ·rfl
    have H3 := Lib.hid (Fr0.trans H2.out (Fr.alloc (Fr.refl _ _) (.cells (shopC (.slice none 0 0) 0 0 (.slice none 0 0) none none) 78)))
    have HX := Lib.hid (Bx.new_at H2.out 78 (shopC (.slice none 0 0) 0 0 (.slice none 0 0) none none))
    have HLE := Lib.hid H2.out.size
    have HOP := HOP.imp (fun h => h.fr (Fr.alloc (Fr.refl _ _) (.cells (shopC (.slice none 0 0) 0 0 (.slice none 0 0) none none) 78)))
    refine hK.out _ _ ⟨(H3.out.cell0 y0), (H3.out.cell0 y1), (H3.out.cell0 y2), (H3.out.cell0 y3)⟩ (fun hHeld => ?_)
    clear hK K
    refine norm_ (a' := ?_) ?_ ?_
    rotate_left
    ·show Act.put _ (some 8) _ = _
     simp only [Act.put, lA, lZ, lS, i64_w, i32_w]
     rfl
    exact norm_ (by (simp only [putAll, Act.put, lA, lZ, lS]) <;> rfl) (hCont (⟨_, tv, lo', hi', kv', o0, o1⟩ : Sg) _ ⟨⟨H3.out.cell0 y0, H3.out.cell0 y1, H3.out.cell0 y2, H3.out.cell0 y3⟩, ⟨H3.out, HX.out, HLE.out, ⟨htv, hkv⟩, HOP.out⟩⟩)
   ·skip
    refine value_ (w1 := ?_) (v := ?_) (by rfl) rfl ?_ ?_
    rotate_left 2
    ·go_simp
     constructor
     ·rfl
     ·rfl
    have H2 := Lib.hid (Fr0.trans H1.out (Fr.alloc (Fr.refl _ _) (.cells (shopC (.slice none 0 0) 0 0 (.slice none 0 0) none none) 78)))
    have HX := Lib.hid (Bx.new_at H1.out 78 (shopC (.slice none 0 0) 0 0 (.slice none 0 0) none none))
    have HLE := Lib.hid H1.out.size
    refine hK.out _ _ ⟨(H2.out.cell0 y0), (H2.out.cell0 y1), (H2.out.cell0 y2), (H2.out.cell0 y3)⟩ (fun hHeld => ?_)
    clear hK K
    refine norm_ (a' := ?_) ?_ ?_
    rotate_left
    ·show Act.put _ (some 8) _ = _
     simp only [Act.put, lA, lZ, lS, i64_w, i32_w]
     rfl
    refine oN 4 16 (bt 11 287) (h := fun K hK => ?_)
    refine goes_ Tryd.func51 (by kernel_rfl) rfl #[bookV A0 c0 l0 lo hi A3 c3 l3, .bool (asked off metal)] (by rfl) rfl rfl TN ?_
    with_reducible refine (open_any 1 (.inr rfl) A0 c0 l0 lo hi A3 c3 l3 (asked off metal) _ (HBW.out.fr H2.out)).mono ?_
    rintro e w3_2 ⟨tv, lo', hi', kv', o0, o1, rfl, htv, hkv, hf2, hop⟩
    refine ⟨_, rfl, ?_⟩
    have H3 := Lib.hid (Fr0.trans H2.out hf2)
    have HX := Lib.hid (HX.out.fr0 hf2)
    have HOP : Hop _ := ⟨OpAtP.mk' H2.out HBW.out hop⟩
    refine hK.out _ _ ⟨(H3.out.cell0 y0), (H3.out.cell0 y1), (H3.out.cell0 y2), (H3.out.cell0 y3)⟩ (fun hHeld => ?_)
    clear hK K
    refine norm_ (a' := ?_) ?_ ?_
    rotate_left
    ·show Act.put _ (some 16) _ = _
     simp only [Act.put, lA, lZ, lS, i64_w, i32_w]
     rfl
    refine pu 5 11 (bt 11 319) (k := ?_)
    refine pu 6 17 (bt 11 383) (k := ?_)
    refine pu 7 18 (bt 11 511) (k := ?_)
    exact norm_ (by (simp only [putAll, Act.put, lA, lZ, lS]) <;> rfl) (hCont (⟨_, tv, lo', hi', kv', o0, o1⟩ : Sg) _ ⟨⟨H3.out.cell0 y0, H3.out.cell0 y1, H3.out.cell0 y2, H3.out.cell0 y3⟩, ⟨H3.out, HX.out, HLE.out, ⟨htv, hkv⟩, HOP.out⟩⟩)
  ·skip
   refine value_ (w1 := ?_) (v := ?_) (by rfl) rfl ?_ ?_
   rotate_left 2
   ·go_simp
    constructor
    ·rfl
    ·rfl
   have H1 := Lib.hid (Fr0.trans H0.out (Fr.alloc (Fr.refl _ _) (.cells (shopC (.slice none 0 0) 0 0 (.slice none 0 0) none none) 78)))
   have HX := Lib.hid (Bx.new_at H0.out 78 (shopC (.slice none 0 0) 0 0 (.slice none 0 0) none none))
   have HLE := Lib.hid H0.out.size
   refine hK.out _ _ ⟨(H1.out.cell0 y0), (H1.out.cell0 y1), (H1.out.cell0 y2), (H1.out.cell0 y3)⟩ (fun hHeld => ?_)
   clear hK K
   refine norm_ (a' := ?_) ?_ ?_
   rotate_left
   ·show Act.put _ (some 8) _ = _
    simp only [Act.put, lA, lZ, lS, i64_w, i32_w]
    rfl
   refine oN 3 15 (bt 11 271) (h := fun K hK => ?_)
   refine goes_ Tryd.func52 (by kernel_rfl) rfl #[.int .i64 off, .int .i64 metal] (by rfl) rfl rfl TN ?_
   with_reducible refine (isAsk_any off metal _).mono ?_
   rintro e w3_1 ⟨rfl, hf1⟩
   refine ⟨_, rfl, ?_⟩
   have H2 := Lib.hid (Fr0.trans H1.out hf1)
   have HX := Lib.hid (HX.out.fr0 hf1)
   refine hK.out _ _ ⟨(H2.out.cell0 y0), (H2.out.cell0 y1), (H2.out.cell0 y2), (H2.out.cell0 y3)⟩ (fun hHeld => ?_)
   clear hK K
   refine norm_ (a' := ?_) ?_ ?_
   rotate_left
   ·show Act.put _ (some 15) _ = _
    simp only [Act.put, lA, lZ, lS, i64_w, i32_w]
    rfl
   refine oN 4 16 (bt 11 287) (h := fun K hK => ?_)
   refine goes_ Tryd.func51 (by kernel_rfl) rfl #[bookV A0 c0 l0 lo hi A3 c3 l3, .bool (asked off metal)] (by rfl) rfl rfl TN ?_
   with_reducible refine (open_any 1 (.inr rfl) A0 c0 l0 lo hi A3 c3 l3 (asked off metal) _ (HBW.out.fr H2.out)).mono ?_
   rintro e w3_2 ⟨tv, lo', hi', kv', o0, o1, rfl, htv, hkv, hf2, hop⟩
   refine ⟨_, rfl, ?_⟩
   have H3 := Lib.hid (Fr0.trans H2.out hf2)
   have HX := Lib.hid (HX.out.fr0 hf2)
   have HOP : Hop _ := ⟨OpAtP.mk' H2.out HBW.out hop⟩
   refine hK.out _ _ ⟨(H3.out.cell0 y0), (H3.out.cell0 y1), (H3.out.cell0 y2), (H3.out.cell0 y3)⟩ (fun hHeld => ?_)
   clear hK K
   refine norm_ (a' := ?_) ?_ ?_
   rotate_left
   ·show Act.put _ (some 16) _ = _
    simp only [Act.put, lA, lZ, lS, i64_w, i32_w]
    rfl
   refine pu 5 11 (bt 11 319) (k := ?_)
   refine pu 6 17 (bt 11 383) (k := ?_)
   refine pu 7 18 (bt 11 511) (k := ?_)
   exact norm_ (by (simp only [putAll, Act.put, lA, lZ, lS]) <;> rfl) (hCont (⟨_, tv, lo', hi', kv', o0, o1⟩ : Sg) _ ⟨⟨H3.out.cell0 y0, H3.out.cell0 y1, H3.out.cell0 y2, H3.out.cell0 y3⟩, ⟨H3.out, HX.out, HLE.out, ⟨htv, hkv⟩, HOP.out⟩⟩)
 rintro ⟨g9, tv, lo', hi', kv', o0, o1⟩ w5 ⟨⟨s0, s1, s2, s3⟩, HP⟩
 have hHeld : (w5.cell? ⟨g, 0, none⟩ = some (.slice A0 l0.length c0)) ∧ (w5.cell? ⟨g, 1, none⟩ = some (.int .i64 lo)) ∧ (w5.cell? ⟨g, 2, none⟩ = some (.int .i64 hi)) ∧ (w5.cell? ⟨g, 3, none⟩ = some (.slice A3 l3.length c3)) := ⟨s0, s1, s2, s3⟩
 have hone := HP.one
 dsimp only at hone
 obtain ⟨⟨Ax, nx, cx, rfl⟩, ⟨Ay, ny, cy, rfl⟩⟩ := hone
 have bz0 := HP.bx.at_ 0 rfl
 have bz1 := HP.bx.at_ 1 rfl
 have bz2 := HP.bx.at_ 2 rfl
 have bz3 := HP.bx.at_ 3 rfl
 have bz4 := HP.bx.at_ 4 rfl
 have bz5 := HP.bx.at_ 5 rfl
 have fz0 := HP.bx.frz 0
 have fz1 := HP.bx.frz 1
 have fz2 := HP.bx.frz 2
 have fz3 := HP.bx.frz 3
 have fz4 := HP.bx.frz 4
 have fz5 := HP.bx.frz 5
 dsimp only at bz0 fz0 bz1 fz1 bz2 fz2 bz3 fz3 bz4 fz4 bz5 fz5
 refine norm_ (a' := ?_) ?_ ?_
 rotate_left
 ·simp only [putAll, Act.put, lA, lZ, lS]
  rfl
 refine last_ (i := 9) (N := none) (bt 11 1023) rfl rfl (by kernel_rfl) (by decide) (fun K hK => ?_)
 refine skip_ (w1 := ?_) (by rfl) rfl ?_ ?_
 rotate_left
 ·go_simp
  rfl
 refine hK.out _ _ ?_
 clear hK K
 refine pu 10 9 (bt 11 2047) (k := ?_)
 refine done_ (by kernel_rfl) ?_
 have BX := shop_set HP.bx (.slice Ax nx cx) (.int .i64 lo') (.int .i64 hi') (.slice Ay ny cy) (.map o0) (.map o1)
 have hf6 := shop_fr HP.fr (.inr HP.new) (.slice Ax nx cx) (.int .i64 lo') (.int .i64 hi') (.slice Ay ny cy) (.map o0) (.map o1)
 have hf56 := shop_fr (Fr.refl (· = g9) w5) (.inl rfl) (.slice Ax nx cx) (.int .i64 lo') (.int .i64 hi') (.slice Ay ny cy) (.map o0) (.map o1)
 dsimp only at BX hf6 hf56
 generalize hW6 : World.setCell _ _ _ = W6 at *
 have HBX := Lib.hid BX
 have c0' := BX.at_ 0 rfl
 have c1' := BX.at_ 1 rfl
 have c2' := BX.at_ 2 rfl
 have c3' := BX.at_ 3 rfl
 have c4' := BX.at_ 4 rfl
 have c5' := BX.at_ 5 rfl
 have lg := BX.lt
 have HNEW := Lib.hid HP.new
 clear bz0 bz1 bz2 bz3 bz4 bz5 fz0 fz1 fz2 fz3 fz4 fz5 s0 s1 s2 s3 H0 BX hHeld y0 y1 y2 y3
 by_cases hz : openV l0 lo hi l3 (asked off metal) = 0
 ·obtain ⟨m0, m1, e1, e2, e3, e4, e5, e6, hO⟩ := HP.op.op hz
  obtain ⟨hbk, hak⟩ := openV_zero hz
  have hN : luckyF l0 lo hi l3 off metal = if (strk l0 lo hi 1 off metal).2 = 1000 then (0, 4) else ((strk l0 lo hi 1 off metal).2, 0) := by unfold luckyF; rw [if_neg (by simpa using hz)]
  have HN := Lib.hid hN
  have hpos : 0 < W0.heap.size := World.block_lt_of_cell? W0 _ HBW.out.glob.g0
  have hn0 : g9 ≠ m0 := fun e => by
   obtain ⟨f, hf, _⟩ := hO.sop.mem0
   obtain ⟨es, ck, ho⟩ := hf.obj
   exact HP.bx.not_map ho (e.trans (by simp [Cfg.mb, Cfg.of]))
  have hn1 : g9 ≠ m1 := fun e => by
   obtain ⟨f, hf, _⟩ := hO.sop.mem1
   obtain ⟨es, ck, ho⟩ := hf.obj
   exact HP.bx.not_map ho (e.trans (by simp [Cfg.mb, Cfg.of]))
  have hS6 := hO.sop.set hf56 HNEW.out hpos hn0 hn1
  have hme : 0 ≤ metal ∧ metal ≤ 30 ∧ -60 ≤ off ∧ off ≤ 60 := by
   unfold asked isIn at hak
   simp only [Bool.and_eq_true, decide_eq_true_eq] at hak
   omega
  have HS6 := Lib.hid hS6
  have HO := Lib.hid hO
  clear hS6 hO HP hN hak
  dsimp only at e1 e2 e3 e4 e5 e6
  cases e1
  cases e4
  subst e2 e3 e5 e6
  by_cases hbig : (strk l0 lo' hi' 1 off metal).2 = 1000
  ·have hfd := field83
   go_wp2_with (go_at_call 53; refine (strokes_any { Cfg.of W0 A0 c0 l0 lo' hi' (.slice A3 l3.length c3) m0 m1 with way := 1 } HO.out.fix off metal W6 (HS6.out.way 1) hme.1 (by omega) (by omega) (by omega)).mono ?_; rintro e W7 ⟨he, hf7, hS7⟩; (have he : e = .returned (.agg #[.int .i64 (strk l0 lo' hi' 1 off metal).1, .int .i64 (strk l0 lo' hi' 1 off metal).2]) := he); subst he)
   refine bodyPost_ret (v := .tuple #[.int .i64 0, .int .i64 4]) (by simp [results, Tryd.results20, go_sem]) rfl ⟨by rw [HN.out, if_pos hbig], ?_⟩
   have hfin := fin_below hf0 hf6 hf7 HO.out.fix.old
   exact hfin
  ·have hfd := field83
   go_wp2_with (go_at_call 53; refine (strokes_any { Cfg.of W0 A0 c0 l0 lo' hi' (.slice A3 l3.length c3) m0 m1 with way := 1 } HO.out.fix off metal W6 (HS6.out.way 1) hme.1 (by omega) (by omega) (by omega)).mono ?_; rintro e W7 ⟨he, hf7, hS7⟩; (have he : e = .returned (.agg #[.int .i64 (strk l0 lo' hi' 1 off metal).1, .int .i64 (strk l0 lo' hi' 1 off metal).2]) := he); subst he)
   refine bodyPost_ret (v := .tuple #[.int .i64 (strk l0 lo' hi' 1 off metal).2, .int .i64 0]) (by simp [results, Tryd.results20, go_sem]) rfl ⟨by rw [HN.out, if_neg hbig], ?_⟩
   have hfin := fin_below hf0 hf6 hf7 HO.out.fix.old
   exact hfin
 ·have hN : luckyF l0 lo hi l3 off metal = (0, openV l0 lo hi l3 (asked off metal)) := by unfold luckyF; rw [if_pos hz]
  go_wp2
  refine bodyPost_ret (v := .tuple #[.int .i64 0, .int .i64 (openV l0 lo hi l3 (asked off metal))]) (by simp [results, Tryd.results20, go_sem]) rfl ⟨by first | rfl | rw [hN], ?_⟩
  exact (hf0.trans hf6).below (Nat.le_of_eq (by first | rfl | exact hg0.symm)) (fun _ _ h => h)
end Go.Proofs.YtfmpbkolpjlfbaaDoor.R
namespace Go.Proofs.YtfmpbkolpjlfbaaDoor.R
open Go.RowKit Go.Shelf Go.Proofs.YtfmpbkolpjlfbaaDoorW.PrintWords Go.Proofs.YtfmpbkolpjlfbaaDoorW.PrintLast Go.Proofs.YtfmpbkolpjlfbaaDoor.PRaspKeys Go.Proofs.YtfmpbkolpjlfbaaDoor.X Go.Proofs.YtfmpbkolpjlfbaaDoor.M
attribute [local go_sem] Oper.semAt_some
theorem k69_at {w : World} {At : Option Addr} {ks : List S69} (h : Kd.C k69 w At ks.length ks) (k : Nat) (hk : k < ks.length) :
  ∃ ad, At = some ad ∧ w.cell? (ad.add (k * 3)) = some (.int .i64 (ks.getD k z69).f0.f0) ∧ w.cell? ⟨(ad.add (k * 3)).block, (ad.add (k * 3)).off + 1, none⟩ = some (.int .i64 (ks.getD k z69).f0.f1) ∧ w.cell? ⟨(ad.add (k * 3)).block, (ad.add (k * 3)).off + 2, none⟩ = some (.int .i64 (ks.getD k z69).f1) := by
 have := at_T69 h k (by omega) (by omega)
 simpa [rd_T69] using this
theorem greatest_any (a b : Int) (w3 : World) : Calls Tryd.prog 72 #[.int .i64 a, .slice (some ⟨w3.heap.size, 0, none⟩) 1 1] (w3.alloc (.cells #[.int .i64 b] 3)) fun e w' => e = .returned (.int .i64 (max a b)) ∧ Below (w3.alloc (.cells #[.int .i64 b] 3)).heap.size (w3.alloc (.cells #[.int .i64 b] 3)) w' :=
 rasp_greatest_int.calls 2 a (some ⟨w3.heap.size, 0, none⟩) 1 [b] _ _ (one_row w3 3 b _ rfl) (by simp) (greatest_one a b)
/-- The strokes that a key takes: from off a on, n offs. -/
def keyTo (tools : List S57) (lo hi a m : Int) : Nat → Int
 | 0 => 0
 | n + 1 => max (keyTo tools lo hi a m n) (strk tools lo hi 0 (a + n) m).2
def keyF (tools : List S57) (lo hi : Int) (kk : S69) : Int := keyTo tools lo hi kk.f0.f0 kk.f1 (kk.f0.f1 - kk.f0.f0 + 1).toNat
theorem keyTo_bnd (tools : List S57) (lo hi a m : Int) : ∀ n, 0 ≤ keyTo tools lo hi a m n ∧ keyTo tools lo hi a m n ≤ 1000
 | 0 => by simp [keyTo]
 | n + 1 => by
  have h1 := keyTo_bnd tools lo hi a m n
  have h2 := stk_bnd (tools := tools) (lo := lo) (hi := hi) (way := 0) (m.toNat + 1) (a + n) m
  unfold keyTo strk
  omega
set_option maxHeartbeats 4000000 in
set_option maxRecDepth 100000 in
theorem key_any (c : Cfg) (hF : Fix c) (hw0 : c.way = 0) (A3 : Option Addr) (c3 : Nat) (l3 : List S69) (hkv : c.kv = .slice A3 l3.length c3) (hr3 : Kd.C k69 c.w0 A3 l3.length l3) (hc3 : l3.length ≤ c3) (ix : Nat) (hix : ix < l3.length) (hok : keyOk (l3.getD ix z69) = true) (w : World) (h : Sop c w) :
  Calls Tryd.prog 62 #[c.sh, .int .i64 ix] w fun e w' => e = .returned (.int .i64 (keyF c.tools c.lo c.hi (l3.getD ix z69))) ∧ Fr (· = c.mb) w w' ∧ Sop c w' := by
 have HS := Lib.hid h
 clear h
 have hok' : -60 ≤ (l3.getD ix z69).f0.f0 ∧ (l3.getD ix z69).f0.f0 ≤ (l3.getD ix z69).f0.f1 ∧ (l3.getD ix z69).f0.f1 ≤ 60 ∧ 0 ≤ (l3.getD ix z69).f1 ∧ (l3.getD ix z69).f1 ≤ 30 := by
  unfold keyOk isIn at hok
  simp only [Bool.and_eq_true, decide_eq_true_eq] at hok
  omega
 clear hok
 unfold Cfg.sh
 rw [hkv]
 obtain ⟨ad, hat, -⟩ := k69_at hr3 ix hix
 have hcells : ∀ W : World, Sop c W → W.cell? (ad.add (ix * 3)) = some (.int .i64 (l3.getD ix z69).f0.f0) ∧ W.cell? ⟨(ad.add (ix * 3)).block, (ad.add (ix * 3)).off + 1, none⟩ = some (.int .i64 (l3.getD ix z69).f0.f1) ∧ W.cell? ⟨(ad.add (ix * 3)).block, (ad.add (ix * 3)).off + 2, none⟩ = some (.int .i64 (l3.getD ix z69).f1) := fun W hs => by
  obtain ⟨ad', e, q⟩ := k69_at (Kd.C_below hr3 hs.base) ix hix
  rw [hat] at e
  cases e
  exact q
 subst hat
 generalize hkk : l3.getD ix z69 = kk at *
 clear hkk
 obtain ⟨⟨ka, kb⟩, km⟩ := kk
 dsimp only at hok' hcells
 obtain ⟨N, hN⟩ : ∃ N : Nat, kb - ka + 1 = N := ⟨(kb - ka + 1).toNat, by omega⟩
 have hkF : keyF c.tools c.lo c.hi ⟨⟨ka, kb⟩, km⟩ = keyTo c.tools c.lo c.hi ka km N := by unfold keyF; dsimp only; rw [hN]; rfl
 rw [hkF]
 clear hkF
 go_enter Tryd.func62, Tryd.ntmps62
 have hS0 := HS.out.step0 (Fr.alloc (Fr.refl _ _) (.cells (shopC (.slice c.At c.tools.length c.ct) c.lo c.hi (.slice (some ad) l3.length c3) (some c.m0) (some c.m1)) 78))
 obtain ⟨q0, q1, q2⟩ := hcells _ hS0
 have HCE := Lib.hid hcells
 have HS0 := Lib.hid hS0
 clear hS0 hcells
 go_wp2
 have BX0 : Bx (w.alloc (.cells (shopC (.slice c.At c.tools.length c.ct) c.lo c.hi (.slice (some ad) l3.length c3) (some c.m0) (some c.m1)) 78)) w.heap.size 78 (shopC (.slice c.At c.tools.length c.ct) c.lo c.hi (.slice (some ad) l3.length c3) (some c.m0) (some c.m1)) := Bx.new _ _ _
 clear q0 q1 q2
 go_loopw [5, 6] (fun v5 v6 wr => ∃ n : Nat, n ≤ N ∧ v5 = .int .i64 (keyTo c.tools c.lo c.hi ka km n) ∧ v6 = .int .i64 (ka + n) ∧ Bx wr w.heap.size 78 (shopC (.slice c.At c.tools.length c.ct) c.lo c.hi (.slice (some ad) l3.length c3) (some c.m0) (some c.m1)) ∧ Fr (· = c.mb) w wr ∧ Sop c wr) (fun _ v6 _ => (kb + 1 - intOf v6).toNat)
 case atStart => exact ⟨0, by omega, by rfl, by simp, BX0, Fr.of0 ((Fr.refl _ _).alloc _), HS0.out⟩
 case round =>
  obtain ⟨n, hn, rfl, rfl, hb, hf, hs⟩ := hrel
  obtain ⟨q0, q1, q2⟩ := HCE.out _ hs
  have hb3 := hb.at_ 3 rfl
  have HBR := Lib.hid hb
  have HSR := Lib.hid hs
  have hbnd := keyTo_bnd c.tools c.lo c.hi ka km n
  by_cases hlt : n < N
  ·have hle : ka + (n : Int) ≤ kb := by omega
   clear hb hs
   go_wp2
   have HCQ := Lib.hid q2
   have hst : Calls Tryd.prog 53 #[.agg #[.slice c.At c.tools.length c.ct, .int .i64 c.lo, .int .i64 c.hi, .slice (some ad) l3.length c3, .map (some c.m0), .map (some c.m1)], .agg #[.int .i64 (ka + (n : Int)), .int .i64 km], .int .i64 0] wr.drew fun e w' => e = .returned (.agg #[.int .i64 (strk c.tools c.lo c.hi 0 (ka + (n : Int)) km).1, .int .i64 (strk c.tools c.lo c.hi 0 (ka + (n : Int)) km).2]) ∧ Fr (· = c.mb) wr.drew w' ∧ Sop c w' := by
    have := strokes_any c hF (ka + (n : Int)) km wr.drew (HSR.out.step0 (Fr.drew (Fr.refl _ _))) (by omega) (by omega) (by omega) (by omega)
    unfold Cfg.sh Cfg.F foundV at this
    rw [hkv, hw0] at this
    exact this
   have HST := Lib.hid hst
   have hmm : ∃ es ck, wr.heap[c.mb]? = some (.map es ck) := by
    obtain ⟨f, hm, _⟩ := HSR.out.memo hF
    exact hm.obj
   obtain ⟨es, ck, hmo⟩ := hmm
   have HMO := Lib.hid hmo
   have hFb := stk_bnd (tools := c.tools) (lo := c.lo) (hi := c.hi) (way := 0) (km.toNat + 1) (ka + (n : Int)) km
   clear hst hmo q0 q1 q2 hb3
   generalize hFF : strk c.tools c.lo c.hi 0 (ka + (n : Int)) km = FF at *
   rw [show stk c.tools c.lo c.hi 0 (km.toNat + 1) (ka + (n : Int)) km = FF from hFF] at hFb
   have HFF := Lib.hid hFF
   clear hFF
   obtain ⟨F1, F2⟩ := FF
   dsimp only at hFb
   have hfd := field83
   refine start_ (n := 16) (S := fun w' => w'.cell? ⟨w.heap.size, 0, none⟩ = some (.slice c.At c.tools.length c.ct) ∧ w'.cell? ⟨w.heap.size, 1, none⟩ = some (.int .i64 c.lo) ∧ w'.cell? ⟨w.heap.size, 2, none⟩ = some (.int .i64 c.hi) ∧ w'.cell? ⟨w.heap.size, 3, none⟩ = some (.slice (some ad) l3.length c3) ∧ w'.cell? ⟨w.heap.size, 4, none⟩ = some (.map (some c.m0)) ∧ w'.cell? ⟨w.heap.size, 5, none⟩ = some (.map (some c.m1)) ∧ w'.cell? ⟨(ad.add (ix * 3)).block, (ad.add (ix * 3)).off + 2, none⟩ = some (.int .i64 km)) (ds := []) (.replicate 16 false) (by kernel_rfl) rfl rfl ⟨(HBR.out.at_ 0 rfl), (HBR.out.at_ 1 rfl), (HBR.out.at_ 2 rfl), (HBR.out.at_ 3 rfl), (HBR.out.at_ 4 rfl), (HBR.out.at_ 5 rfl), (HCQ.out)⟩ (fun hHeld => ?_)
   refine pu 0 27 (bt 16 1) (k := ?_)
   refine pu 2 29 (bt 16 5) (k := ?_)
   refine pu 3 30 (bt 16 13) (k := ?_)
   refine pu 4 31 (bt 16 29) (k := ?_)
   refine pu 6 33 (bt 16 93) (k := ?_)
   refine tk7 1 28 (bt 16 95) hHeld (k := ?_)
   refine tk7 5 32 (bt 16 127) hHeld (k := ?_)
   refine pu 7 34 (bt 16 255) (k := ?_)
   refine pu 8 35 (bt 16 511) (k := ?_)
   refine tk7 9 36 (bt 16 1023) hHeld (k := ?_)
   refine pu 10 37 (bt 16 2047) (k := ?_)
   refine oN 11 38 (bt 16 4095) (h := fun K hK => ?_)
   refine goes_ Tryd.func53 (by kernel_rfl) rfl #[.agg #[.slice c.At c.tools.length c.ct, .int .i64 c.lo, .int .i64 c.hi, .slice (some ad) l3.length c3, .map (some c.m0), .map (some c.m1)], .agg #[.int .i64 (ka + (n : Int)), .int .i64 km], .int .i64 0] (by rfl) rfl rfl TN ?_
   with_reducible refine (HST.out).mono ?_
   rintro e w3 ⟨rfl, hf3, hs3⟩
   refine ⟨_, rfl, ?_⟩
   have HC3 := Lib.hid (fun (p : Addr) (v : Value) (h : wr.cell? p = some v) => Fr.cellM (a := wr.drew) hf3 HMO.out h)
   refine hK.out _ _ ⟨(HC3.out _ _ (HBR.out.at_ 0 rfl)), (HC3.out _ _ (HBR.out.at_ 1 rfl)), (HC3.out _ _ (HBR.out.at_ 2 rfl)), (HC3.out _ _ (HBR.out.at_ 3 rfl)), (HC3.out _ _ (HBR.out.at_ 4 rfl)), (HC3.out _ _ (HBR.out.at_ 5 rfl)), (HC3.out _ _ (HCQ.out))⟩ (fun hHeld => ?_)
   clear hK K
   refine norm_ (a' := ?_) ?_ ?_
   rotate_left
   ·show Act.put _ (some 38) _ = _
    simp only [Act.put, lA, lZ, lS, i64_w, i32_w]
    rfl
   refine pu 12 39 (bt 16 8191) (k := ?_)
   refine oN 13 40 (bt 16 16383) (h := fun K hK => ?_)
   refine value_ (w1 := ?_) (v := ?_) (by rfl) rfl ?_ ?_
   rotate_left 2
   ·go_simp
    constructor
    ·rfl
    ·rfl
   refine hK.out _ _ ⟨((Fr.alloc (Fr.refl _ _) (.cells #[.int .i64 F2] 3) : Fr0 w3 _).cell0 (HC3.out _ _ (HBR.out.at_ 0 rfl))), ((Fr.alloc (Fr.refl _ _) (.cells #[.int .i64 F2] 3) : Fr0 w3 _).cell0 (HC3.out _ _ (HBR.out.at_ 1 rfl))), ((Fr.alloc (Fr.refl _ _) (.cells #[.int .i64 F2] 3) : Fr0 w3 _).cell0 (HC3.out _ _ (HBR.out.at_ 2 rfl))), ((Fr.alloc (Fr.refl _ _) (.cells #[.int .i64 F2] 3) : Fr0 w3 _).cell0 (HC3.out _ _ (HBR.out.at_ 3 rfl))), ((Fr.alloc (Fr.refl _ _) (.cells #[.int .i64 F2] 3) : Fr0 w3 _).cell0 (HC3.out _ _ (HBR.out.at_ 4 rfl))), ((Fr.alloc (Fr.refl _ _) (.cells #[.int .i64 F2] 3) : Fr0 w3 _).cell0 (HC3.out _ _ (HBR.out.at_ 5 rfl))), ((Fr.alloc (Fr.refl _ _) (.cells #[.int .i64 F2] 3) : Fr0 w3 _).cell0 (HC3.out _ _ (HCQ.out)))⟩ (fun hHeld => ?_)
   clear hK K
   refine norm_ (a' := ?_) ?_ ?_
   rotate_left
   ·show Act.put _ (some 40) _ = _
    simp only [Act.put, lA, lZ, lS, i64_w, i32_w]
    rfl
   refine oN 14 41 (bt 16 32767) (h := fun K hK => ?_)
   refine goes_ Tryd.func72 (by kernel_rfl) rfl #[.int .i64 (keyTo c.tools c.lo c.hi ka km n), .slice (some ⟨w3.heap.size, 0, none⟩) 1 1] (by rfl) rfl rfl TN ?_
   with_reducible refine (greatest_any (keyTo c.tools c.lo c.hi ka km n) F2 w3).mono ?_
   rintro e w5 ⟨rfl, hb5⟩
   refine ⟨_, rfl, ?_⟩
   have HC5 := Lib.hid (Fr0.trans (Fr.alloc (Fr.refl _ _) (.cells #[.int .i64 F2] 3)) (Fr.of_below hb5))
   refine hK.out _ _ ⟨(HC5.out.cell0 (HC3.out _ _ (HBR.out.at_ 0 rfl))), (HC5.out.cell0 (HC3.out _ _ (HBR.out.at_ 1 rfl))), (HC5.out.cell0 (HC3.out _ _ (HBR.out.at_ 2 rfl))), (HC5.out.cell0 (HC3.out _ _ (HBR.out.at_ 3 rfl))), (HC5.out.cell0 (HC3.out _ _ (HBR.out.at_ 4 rfl))), (HC5.out.cell0 (HC3.out _ _ (HBR.out.at_ 5 rfl))), (HC5.out.cell0 (HC3.out _ _ (HCQ.out)))⟩ (fun hHeld => ?_)
   clear hK K
   refine norm_ (a' := ?_) ?_ ?_
   rotate_left
   ·show Act.put _ (some 41) _ = _
    simp only [Act.put, lA, lZ, lS, i64_w, i32_w]
    rfl
   refine pu 15 5 (bt 16 65535) (k := ?_)
   refine done_ (by kernel_rfl) ?_
   go_wp2
   refine ⟨⟨n + 1, by omega, ?_, by go_num, ?_, ?_, ?_⟩, by simp [intOf]; omega⟩
   ·show _ = Value.int .i64 (max (keyTo c.tools c.lo c.hi ka km n) (strk c.tools c.lo c.hi 0 (ka + (n : Int)) km).2)
    rw [HFF.out]
   ·exact (HBR.out.drew.fr hf3 (show ¬ (w.heap.size = c.mb) from HBR.out.not_map HMO.out)).fr0 HC5.out
   ·exact (hf.drew.step hf3 (fun k _ e => e)).step0 HC5.out
   ·exact hs3.step0 HC5.out
  ·obtain rfl : n = N := by omega
   have hle : ¬ (ka + (n : Int) ≤ kb) := by omega
   clear hb hs
   go_wp2
   refine bodyPost_ret (v := .int .i64 (keyTo c.tools c.lo c.hi ka km n)) (by simp [results, Tryd.results62, go_sem]) rfl ⟨rfl, hf, HSR.out⟩
end Go.Proofs.YtfmpbkolpjlfbaaDoor.R
namespace Go.Proofs.YtfmpbkolpjlfbaaDoor.R
open Go.RowKit Go.Shelf Go.Proofs.YtfmpbkolpjlfbaaDoorW.PrintWords Go.Proofs.YtfmpbkolpjlfbaaDoorW.PrintLast Go.Proofs.YtfmpbkolpjlfbaaDoor.PRaspKeys Go.Proofs.YtfmpbkolpjlfbaaDoor.X Go.Proofs.YtfmpbkolpjlfbaaDoor.M
attribute [local go_sem] Oper.semAt_some
theorem lies_fr (n lo hi : Int) (w : World) : Calls Tryd.prog 58 #[.int .i64 n, .int .i64 lo, .int .i64 hi] w fun e w' => e = .returned (.bool (isIn n lo hi)) ∧ Fr0 w w' :=
 (lies_any n lo hi w).mono fun e w' h => ⟨h.1, by obtain ⟨nd, rfl⟩ := h.2; exact (Fr.refl _ _).drewN _⟩
theorem isIn_iff {n lo hi : Int} : isIn n lo hi = true ↔ lo ≤ n ∧ n ≤ hi := by unfold isIn; simp
def strokesF (l0 : List S57) (lo hi : Int) (l3 : List S69) (ix : Int) : Int × Int :=
 if openV l0 lo hi l3 (isIn ix 0 ((l3.length : Int) - 1)) ≠ 0 then (0, openV l0 lo hi l3 (isIn ix 0 ((l3.length : Int) - 1)))
 else if keyF l0 lo hi (l3.getD ix.toNat z69) = 1000 then (0, 4) else (keyF l0 lo hi (l3.getD ix.toNat z69), 0)
theorem keys_ok {l0 : List S57} {lo hi : Int} {l3 : List S69} (h : bookOk l0 lo hi l3 = true) (k : Nat) (hk : k < l3.length) : keyOk (l3.getD k z69) = true := by
 unfold bookOk at h
 simp only [Bool.and_eq_true, List.all_eq_true] at h
 rw [show l3.getD k z69 = l3[k] by simp [hk]]
 exact h.2.2 _ (List.getElem_mem hk)
set_option maxHeartbeats 4000000 in
set_option maxRecDepth 100000 in
theorem strokes_of_any (A0 : Option Addr) (c0 : Nat) (l0 : List S57) (lo hi : Int) (A3 : Option Addr) (c3 : Nat) (l3 : List S69) (ix : Int) (w : World) (hB : Book w A0 c0 l0 A3 c3 l3) :
  Calls Tryd.prog 23 #[bookV A0 c0 l0 lo hi A3 c3 l3, .int .i64 ix] w fun e w' =>
   e = .returned (.tuple #[.int .i64 (strokesF l0 lo hi l3 ix).1, .int .i64 (strokesF l0 lo hi l3 ix).2]) ∧ Below w.heap.size w w' := by
 have HB := Lib.hid hB
 clear hB
 have hw64 : wrap64 ((l3.length : Int) - 1) = (l3.length : Int) - 1 := by have := HB.out.r3.2.1; unfold wrap64; omega
 have hlies : ∀ W : World, Calls Tryd.prog 58 #[.int .i64 ix, .int .i64 0, .int .i64 (wrap64 ((l3.length : Int) - 1))] W fun e w' => e = .returned (.bool (isIn ix 0 ((l3.length : Int) - 1))) ∧ Fr0 W w' := fun W => by rw [hw64]; exact lies_fr _ _ _ W
 have HLI := Lib.hid hlies
 clear hw64 hlies
 go_enter Tryd.func23, Tryd.ntmps23
 go_wp2_with fail
 have hBW : Book (w.alloc (.cells (bookC A0 c0 l0 lo hi A3 c3 l3) 27)) A0 c0 l0 A3 c3 l3 := HB.out.fr ((Fr.refl _ _).alloc _)
 have B0 := Bx.new w 27 (bookC A0 c0 l0 lo hi A3 c3 l3)
 have hf0 : Fr0 w (w.alloc (.cells (bookC A0 c0 l0 lo hi A3 c3 l3) 27)) := (Fr.refl _ _).alloc _
 generalize hg0 : w.heap.size = g at *
 generalize hW0 : w.alloc (.cells (bookC A0 c0 l0 lo hi A3 c3 l3) 27) = W0 at *
 have y0 := B0.at_ 0 rfl
 have y1 := B0.at_ 1 rfl
 have y2 := B0.at_ 2 rfl
 have y3 := B0.at_ 3 rfl
 have HB0 := Lib.hid B0
 have HBW := Lib.hid hBW
 clear hBW B0
 have H0 := Lib.hid (Fr.drew (Fr.refl (fun _ => False) W0))
 refine start_ (n := 14) (S := fun w' => w'.cell? ⟨g, 0, none⟩ = some (.slice A0 l0.length c0) ∧ w'.cell? ⟨g, 1, none⟩ = some (.int .i64 lo) ∧ w'.cell? ⟨g, 2, none⟩ = some (.int .i64 hi) ∧ w'.cell? ⟨g, 3, none⟩ = some (.slice A3 l3.length c3)) (ds := [12]) (.replicate 14 false) (by kernel_rfl) rfl rfl ⟨y0, y1, y2, y3⟩ (fun hHeld => ?_)
 refine pu 1 11 (bt 14 2) (k := ?_)
 refine pu 2 12 (bt 14 6) (k := ?_)
 refine tk4 0 10 (bt 14 7) hHeld (k := ?_)
 refine tk4 3 13 (bt 14 15) hHeld (k := ?_)
 refine pu 4 14 (bt 14 31) (k := ?_)
 refine pu 5 15 (bt 14 63) (k := ?_)
 refine join_ (σ := Sg) 2 (bt 14 4095) (fun s => [(16, .bool (isIn ix 0 ((l3.length : Int) - 1))), (6, .pointer (some ⟨s.1, 0, none⟩)), (17, .tuple #[shopV s.2.1 s.2.2.1 s.2.2.2.1 s.2.2.2.2.1 s.2.2.2.2.2.1 s.2.2.2.2.2.2, .int .i64 (openV l0 lo hi l3 (isIn ix 0 ((l3.length : Int) - 1)))]), (9, .tuple #[shopV s.2.1 s.2.2.1 s.2.2.2.1 s.2.2.2.2.1 s.2.2.2.2.2.1 s.2.2.2.2.2.2, .int .i64 (openV l0 lo hi l3 (isIn ix 0 ((l3.length : Int) - 1)))]), (18, shopV s.2.1 s.2.2.1 s.2.2.2.1 s.2.2.2.2.1 s.2.2.2.2.2.1 s.2.2.2.2.2.2), (19, .int .i64 (openV l0 lo hi l3 (isIn ix 0 ((l3.length : Int) - 1))))]) (fun s w' => ((w'.cell? ⟨g, 0, none⟩ = some (.slice A0 l0.length c0)) ∧ (w'.cell? ⟨g, 1, none⟩ = some (.int .i64 lo)) ∧ (w'.cell? ⟨g, 2, none⟩ = some (.int .i64 hi)) ∧ (w'.cell? ⟨g, 3, none⟩ = some (.slice A3 l3.length c3))) ∧ OpAt 0 W0 A0 c0 l0 lo hi A3 c3 l3 (isIn ix 0 ((l3.length : Int) - 1)) s w') ?_ ?_
 rotate_left
 ·intro hCont
  refine two_ (i := 6) (j := 11) (Ni := some 16) (Nj := some 6) (bt 14 127) (bt 14 2111) rfl rfl rfl rfl (by kernel_rfl) (by decide) (by decide) (fun K hK => ?_) (fun K hK => ?_)
  ·skip
   refine goes_ Tryd.func58 (by kernel_rfl) rfl #[.int .i64 ix, .int .i64 0, .int .i64 (wrap64 ((l3.length : Int) - 1))] (by rfl) rfl rfl TN ?_
   with_reducible refine (HLI.out _).mono ?_
   rintro e w3_0 ⟨rfl, hf0⟩
   refine ⟨_, rfl, ?_⟩
   have H1 := Lib.hid (Fr0.trans H0.out hf0)
   refine hK.out _ _ ⟨(H1.out.cell0 y0), (H1.out.cell0 y1), (H1.out.cell0 y2), (H1.out.cell0 y3)⟩ (fun hHeld => ?_)
   clear hK K
   refine norm_ (a' := ?_) ?_ ?_
   rotate_left
   ·show Act.put _ (some 16) _ = _
    simp only [Act.put, lA, lZ, lS, i64_w, i32_w]
    rfl
   refine two_ (i := 7) (j := 11) (Ni := some 17) (Nj := some 6) (bt 14 255) (bt 14 2175) rfl rfl rfl rfl (by kernel_rfl) (by decide) (by decide) (fun K hK => ?_) (fun K hK => ?_)
   ·skip
    refine goes_ Tryd.func51 (by kernel_rfl) rfl #[bookV A0 c0 l0 lo hi A3 c3 l3, .bool (isIn ix 0 ((l3.length : Int) - 1))] (by rfl) rfl rfl TN ?_
    with_reducible refine (open_any 0 (.inl rfl) A0 c0 l0 lo hi A3 c3 l3 (isIn ix 0 ((l3.length : Int) - 1)) _ (HBW.out.fr H1.out)).mono ?_
    rintro e w3_1 ⟨tv, lo', hi', kv', o0, o1, rfl, htv, hkv, hf1, hop⟩
    refine ⟨_, rfl, ?_⟩
    have H2 := Lib.hid (Fr0.trans H1.out hf1)
    have HOP : Hop _ := ⟨OpAtP.mk' H1.out HBW.out hop⟩
    refine hK.out _ _ ⟨(H2.out.cell0 y0), (H2.out.cell0 y1), (H2.out.cell0 y2), (H2.out.cell0 y3)⟩ (fun hHeld => ?_)
    clear hK K
    refine norm_ (a' := ?_) ?_ ?_
    rotate_left
    ·show Act.put _ (some 17) _ = _
     simp only [Act.put, lA, lZ, lS, i64_w, i32_w]
     rfl
    refine pu 8 9 (bt 14 511) (k := ?_)
    refine pu 9 18 (bt 14 1023) (k := ?_)
    refine pu 10 19 (bt 14 2047) (k := ?_)
    refine oN 11 6 (bt 14 4095) (h := fun K hK => ?_)
    refine value_ (w1 := ?_) (v := ?_) (by rfl) rfl ?_ ?_
    rotate_left 2
    ·go_simp
     constructor
     ·rfl
     ·rfl
    have H3 := Lib.hid (Fr0.trans H2.out (Fr.alloc (Fr.refl _ _) (.cells (shopC (.slice none 0 0) 0 0 (.slice none 0 0) none none) 78)))
    have HX := Lib.hid (Bx.new_at H2.out 78 (shopC (.slice none 0 0) 0 0 (.slice none 0 0) none none))
    have HLE := Lib.hid H2.out.size
    have HOP := HOP.imp (fun h => h.fr (Fr.alloc (Fr.refl _ _) (.cells (shopC (.slice none 0 0) 0 0 (.slice none 0 0) none none) 78)))
    refine hK.out _ _ ⟨(H3.out.cell0 y0), (H3.out.cell0 y1), (H3.out.cell0 y2), (H3.out.cell0 y3)⟩ (fun hHeld => ?_)
    clear hK K
    refine norm_ (a' := ?_) ?_ ?_
    rotate_left
    ·show Act.put _ (some 6) _ = _
     simp only [Act.put, lA, lZ, lS, i64_w, i32_w]
     rfl
    exact norm_ (by (simp only [putAll, Act.put, lA, lZ, lS]) <;> rfl) (hCont (⟨_, tv, lo', hi', kv', o0, o1⟩ : Sg) _ ⟨⟨H3.out.cell0 y0, H3.out.cell0 y1, H3.out.cell0 y2, H3.out.cell0 y3⟩, ⟨H3.out, HX.out, HLE.out, ⟨htv, hkv⟩, HOP.out⟩⟩)
   ·skip
    refine value_ (w1 := ?_) (v := ?_) (by rfl) rfl ?_ ?_
    rotate_left 2
    ·go_simp
     constructor
     ·rfl
     ·rfl
    have H2 := Lib.hid (Fr0.trans H1.out (Fr.alloc (Fr.refl _ _) (.cells (shopC (.slice none 0 0) 0 0 (.slice none 0 0) none none) 78)))
    have HX := Lib.hid (Bx.new_at H1.out 78 (shopC (.slice none 0 0) 0 0 (.slice none 0 0) none none))
    have HLE := Lib.hid H1.out.size
    refine hK.out _ _ ⟨(H2.out.cell0 y0), (H2.out.cell0 y1), (H2.out.cell0 y2), (H2.out.cell0 y3)⟩ (fun hHeld => ?_)
    clear hK K
    refine norm_ (a' := ?_) ?_ ?_
    rotate_left
    ·show Act.put _ (some 6) _ = _
     simp only [Act.put, lA, lZ, lS, i64_w, i32_w]
     rfl
    refine oN 7 17 (bt 14 2303) (h := fun K hK => ?_)
    refine goes_ Tryd.func51 (by kernel_rfl) rfl #[bookV A0 c0 l0 lo hi A3 c3 l3, .bool (isIn ix 0 ((l3.length : Int) - 1))] (by rfl) rfl rfl TN ?_
    with_reducible refine (open_any 0 (.inl rfl) A0 c0 l0 lo hi A3 c3 l3 (isIn ix 0 ((l3.length : Int) - 1)) _ (HBW.out.fr H2.out)).mono ?_
    rintro e w3_2 ⟨tv, lo', hi', kv', o0, o1, rfl, htv, hkv, hf2, hop⟩
    refine ⟨_, rfl, ?_⟩
    have H3 := Lib.hid (Fr0.trans H2.out hf2)
    have HX := Lib.hid (HX.out.fr0 hf2)
    have HOP : Hop _ := ⟨OpAtP.mk' H2.out HBW.out hop⟩
    refine hK.out _ _ ⟨(H3.out.cell0 y0), (H3.out.cell0 y1), (H3.out.cell0 y2), (H3.out.cell0 y3)⟩ (fun hHeld => ?_)
    clear hK K
    refine norm_ (a' := ?_) ?_ ?_
    rotate_left
    ·show Act.put _ (some 17) _ = _
     simp only [Act.put, lA, lZ, lS, i64_w, i32_w]
     rfl
    refine pu 8 9 (bt 14 2559) (k := ?_)
    refine pu 9 18 (bt 14 3071) (k := ?_)
    refine pu 10 19 (bt 14 4095) (k := ?_)
    exact norm_ (by (simp only [putAll, Act.put, lA, lZ, lS]) <;> rfl) (hCont (⟨_, tv, lo', hi', kv', o0, o1⟩ : Sg) _ ⟨⟨H3.out.cell0 y0, H3.out.cell0 y1, H3.out.cell0 y2, H3.out.cell0 y3⟩, ⟨H3.out, HX.out, HLE.out, ⟨htv, hkv⟩, HOP.out⟩⟩)
  ·skip
   refine value_ (w1 := ?_) (v := ?_) (by rfl) rfl ?_ ?_
   rotate_left 2
   ·go_simp
    constructor
    ·rfl
    ·rfl
   have H1 := Lib.hid (Fr0.trans H0.out (Fr.alloc (Fr.refl _ _) (.cells (shopC (.slice none 0 0) 0 0 (.slice none 0 0) none none) 78)))
   have HX := Lib.hid (Bx.new_at H0.out 78 (shopC (.slice none 0 0) 0 0 (.slice none 0 0) none none))
   have HLE := Lib.hid H0.out.size
   refine hK.out _ _ ⟨(H1.out.cell0 y0), (H1.out.cell0 y1), (H1.out.cell0 y2), (H1.out.cell0 y3)⟩ (fun hHeld => ?_)
   clear hK K
   refine norm_ (a' := ?_) ?_ ?_
   rotate_left
   ·show Act.put _ (some 6) _ = _
    simp only [Act.put, lA, lZ, lS, i64_w, i32_w]
    rfl
   refine oN 6 16 (bt 14 2175) (h := fun K hK => ?_)
   refine goes_ Tryd.func58 (by kernel_rfl) rfl #[.int .i64 ix, .int .i64 0, .int .i64 (wrap64 ((l3.length : Int) - 1))] (by rfl) rfl rfl TN ?_
   with_reducible refine (HLI.out _).mono ?_
   rintro e w3_1 ⟨rfl, hf1⟩
   refine ⟨_, rfl, ?_⟩
   have H2 := Lib.hid (Fr0.trans H1.out hf1)
   have HX := Lib.hid (HX.out.fr0 hf1)
   refine hK.out _ _ ⟨(H2.out.cell0 y0), (H2.out.cell0 y1), (H2.out.cell0 y2), (H2.out.cell0 y3)⟩ (fun hHeld => ?_)
   clear hK K
   refine norm_ (a' := ?_) ?_ ?_
   rotate_left
   ·show Act.put _ (some 16) _ = _
    simp only [Act.put, lA, lZ, lS, i64_w, i32_w]
    rfl
   refine oN 7 17 (bt 14 2303) (h := fun K hK => ?_)
   refine goes_ Tryd.func51 (by kernel_rfl) rfl #[bookV A0 c0 l0 lo hi A3 c3 l3, .bool (isIn ix 0 ((l3.length : Int) - 1))] (by rfl) rfl rfl TN ?_
   with_reducible refine (open_any 0 (.inl rfl) A0 c0 l0 lo hi A3 c3 l3 (isIn ix 0 ((l3.length : Int) - 1)) _ (HBW.out.fr H2.out)).mono ?_
   rintro e w3_2 ⟨tv, lo', hi', kv', o0, o1, rfl, htv, hkv, hf2, hop⟩
   refine ⟨_, rfl, ?_⟩
   have H3 := Lib.hid (Fr0.trans H2.out hf2)
   have HX := Lib.hid (HX.out.fr0 hf2)
   have HOP : Hop _ := ⟨OpAtP.mk' H2.out HBW.out hop⟩
   refine hK.out _ _ ⟨(H3.out.cell0 y0), (H3.out.cell0 y1), (H3.out.cell0 y2), (H3.out.cell0 y3)⟩ (fun hHeld => ?_)
   clear hK K
   refine norm_ (a' := ?_) ?_ ?_
   rotate_left
   ·show Act.put _ (some 17) _ = _
    simp only [Act.put, lA, lZ, lS, i64_w, i32_w]
    rfl
   refine pu 8 9 (bt 14 2559) (k := ?_)
   refine pu 9 18 (bt 14 3071) (k := ?_)
   refine pu 10 19 (bt 14 4095) (k := ?_)
   exact norm_ (by (simp only [putAll, Act.put, lA, lZ, lS]) <;> rfl) (hCont (⟨_, tv, lo', hi', kv', o0, o1⟩ : Sg) _ ⟨⟨H3.out.cell0 y0, H3.out.cell0 y1, H3.out.cell0 y2, H3.out.cell0 y3⟩, ⟨H3.out, HX.out, HLE.out, ⟨htv, hkv⟩, HOP.out⟩⟩)
 rintro ⟨g9, tv, lo', hi', kv', o0, o1⟩ w5 ⟨⟨s0, s1, s2, s3⟩, HP⟩
 have hHeld : (w5.cell? ⟨g, 0, none⟩ = some (.slice A0 l0.length c0)) ∧ (w5.cell? ⟨g, 1, none⟩ = some (.int .i64 lo)) ∧ (w5.cell? ⟨g, 2, none⟩ = some (.int .i64 hi)) ∧ (w5.cell? ⟨g, 3, none⟩ = some (.slice A3 l3.length c3)) := ⟨s0, s1, s2, s3⟩
 have hone := HP.one
 dsimp only at hone
 obtain ⟨⟨Ax, nx, cx, rfl⟩, ⟨Ay, ny, cy, rfl⟩⟩ := hone
 have bz0 := HP.bx.at_ 0 rfl
 have bz1 := HP.bx.at_ 1 rfl
 have bz2 := HP.bx.at_ 2 rfl
 have bz3 := HP.bx.at_ 3 rfl
 have bz4 := HP.bx.at_ 4 rfl
 have bz5 := HP.bx.at_ 5 rfl
 have fz0 := HP.bx.frz 0
 have fz1 := HP.bx.frz 1
 have fz2 := HP.bx.frz 2
 have fz3 := HP.bx.frz 3
 have fz4 := HP.bx.frz 4
 have fz5 := HP.bx.frz 5
 dsimp only at bz0 fz0 bz1 fz1 bz2 fz2 bz3 fz3 bz4 fz4 bz5 fz5
 refine norm_ (a' := ?_) ?_ ?_
 rotate_left
 ·simp only [putAll, Act.put, lA, lZ, lS]
  rfl
 refine last_ (i := 12) (N := none) (bt 14 8191) rfl rfl (by kernel_rfl) (by decide) (fun K hK => ?_)
 refine skip_ (w1 := ?_) (by rfl) rfl ?_ ?_
 rotate_left
 ·go_simp
  rfl
 refine hK.out _ _ ?_
 clear hK K
 refine pu 13 7 (bt 14 16383) (k := ?_)
 refine done_ (by kernel_rfl) ?_
 have BX := shop_set HP.bx (.slice Ax nx cx) (.int .i64 lo') (.int .i64 hi') (.slice Ay ny cy) (.map o0) (.map o1)
 have hf6 := shop_fr HP.fr (.inr HP.new) (.slice Ax nx cx) (.int .i64 lo') (.int .i64 hi') (.slice Ay ny cy) (.map o0) (.map o1)
 have hf56 := shop_fr (Fr.refl (· = g9) w5) (.inl rfl) (.slice Ax nx cx) (.int .i64 lo') (.int .i64 hi') (.slice Ay ny cy) (.map o0) (.map o1)
 dsimp only at BX hf6 hf56
 generalize hW6 : World.setCell _ _ _ = W6 at *
 have HBX := Lib.hid BX
 have c0' := BX.at_ 0 rfl
 have c1' := BX.at_ 1 rfl
 have c2' := BX.at_ 2 rfl
 have c3' := BX.at_ 3 rfl
 have c4' := BX.at_ 4 rfl
 have c5' := BX.at_ 5 rfl
 have lg := BX.lt
 have HNEW := Lib.hid HP.new
 clear bz0 bz1 bz2 bz3 bz4 bz5 fz0 fz1 fz2 fz3 fz4 fz5 s0 s1 s2 s3 H0 hHeld BX y0 y1 y2 y3
 by_cases hz : openV l0 lo hi l3 (isIn ix 0 ((l3.length : Int) - 1)) = 0
 ·obtain ⟨m0, m1, e1, e2, e3, e4, e5, e6, hO⟩ := HP.op.op hz
  obtain ⟨hbk, hak⟩ := openV_zero hz
  have hN : strokesF l0 lo hi l3 ix = if keyF l0 lo hi (l3.getD ix.toNat z69) = 1000 then (0, 4) else (keyF l0 lo hi (l3.getD ix.toNat z69), 0) := by unfold strokesF; rw [if_neg (by simpa using hz)]
  have HN := Lib.hid hN
  have HBK := Lib.hid hbk
  have hpos : 0 < W0.heap.size := World.block_lt_of_cell? W0 _ HBW.out.glob.g0
  have hn0 : g9 ≠ m0 := fun e => by
   obtain ⟨f, hf, _⟩ := hO.sop.mem0
   obtain ⟨es, ck, ho⟩ := hf.obj
   exact HP.bx.not_map ho (e.trans (by simp [Cfg.mb, Cfg.of]))
  have hn1 : g9 ≠ m1 := fun e => by
   obtain ⟨f, hf, _⟩ := hO.sop.mem1
   obtain ⟨es, ck, ho⟩ := hf.obj
   exact HP.bx.not_map ho (e.trans (by simp [Cfg.mb, Cfg.of]))
  have HS6 := Lib.hid (hO.sop.set hf56 HNEW.out hpos hn0 hn1)
  have HAK := Lib.hid hak
  have HO := Lib.hid hO
  have HN0 := Lib.hid hn0
  have HN1 := Lib.hid hn1
  clear hO HP hN hak hbk hn0 hn1
  dsimp only at e1 e2 e3 e4 e5 e6
  cases e1
  cases e4
  subst e2 e3 e5 e6
  have hak := isIn_iff.1 HAK.out
  obtain ⟨n, rfl⟩ : ∃ n : Nat, ix = n := ⟨ix.toNat, by omega⟩
  have hn : n < l3.length := by omega
  have hkk := keys_ok HBK.out n hn
  have hcall : Calls Tryd.prog 62 #[.agg #[.slice A0 l0.length c0, .int .i64 lo', .int .i64 hi', .slice A3 l3.length c3, .map (some m0), .map (some m1)], .int .i64 n] W6 fun e w' => e = .returned (.int .i64 (keyF l0 lo' hi' (l3.getD n z69))) ∧ Fr (· = Cfg.mb (Cfg.of W0 A0 c0 l0 lo' hi' (.slice A3 l3.length c3) m0 m1)) W6 w' ∧ Sop (Cfg.of W0 A0 c0 l0 lo' hi' (.slice A3 l3.length c3) m0 m1) w' :=
   key_any (Cfg.of W0 A0 c0 l0 lo' hi' (.slice A3 l3.length c3) m0 m1) HO.out.fix rfl A3 c3 l3 rfl HBW.out.r3 HBW.out.c3 n hn hkk W6 HS6.out
  have HC := Lib.hid hcall
  clear hcall hak hkk
  have HN := Lib.hid (show strokesF l0 lo' hi' l3 n = if keyF l0 lo' hi' (l3.getD n z69) = 1000 then (0, 4) else (keyF l0 lo' hi' (l3.getD n z69), 0) from HN.out)
  generalize keyF l0 lo' hi' (l3.getD n z69) = KF at *
  by_cases hbig : KF = 1000
  ·go_wp2_with (go_at_call 62; refine HC.out.mono ?_; rintro e W7 ⟨rfl, hf7, hS7⟩)
   refine bodyPost_ret (v := .tuple #[.int .i64 0, .int .i64 4]) (by simp [results, Tryd.results23, go_sem]) rfl ⟨by rw [HN.out, if_pos hbig], ?_⟩
   exact fin_below hf0 hf6 hf7 HO.out.fix.old
  ·go_wp2_with (go_at_call 62; refine HC.out.mono ?_; rintro e W7 ⟨rfl, hf7, hS7⟩)
   refine bodyPost_ret (v := .tuple #[.int .i64 KF, .int .i64 0]) (by simp [results, Tryd.results23, go_sem]) rfl ⟨by rw [HN.out, if_neg hbig], ?_⟩
   exact fin_below hf0 hf6 hf7 HO.out.fix.old
 ·have hN : strokesF l0 lo hi l3 ix = (0, openV l0 lo hi l3 (isIn ix 0 ((l3.length : Int) - 1))) := by unfold strokesF; rw [if_pos hz]
  have HN := Lib.hid hN
  clear hN HP
  go_wp2
  refine bodyPost_ret (v := .tuple #[.int .i64 0, .int .i64 (openV l0 lo hi l3 (isIn ix 0 ((l3.length : Int) - 1)))]) (by simp [results, Tryd.results23, go_sem]) rfl ⟨by rw [HN.out], ?_⟩
  exact (hf0.trans hf6).below (Nat.le_of_eq (by first | rfl | exact hg0.symm)) (fun _ _ h => h)
end Go.Proofs.YtfmpbkolpjlfbaaDoor.R
namespace Go.Proofs.YtfmpbkolpjlfbaaDoor.R
open Go.RowKit Go.Shelf Go.Proofs.YtfmpbkolpjlfbaaDoorW.PrintWords Go.Proofs.YtfmpbkolpjlfbaaDoorW.PrintLast Go.Proofs.YtfmpbkolpjlfbaaDoor.PRaspKeys Go.Proofs.YtfmpbkolpjlfbaaDoor.X Go.Proofs.YtfmpbkolpjlfbaaDoor.M
attribute [local go_sem] Oper.semAt_some
def needFrom (l0 : List S57) (lo hi off : Int) : Nat → Nat → Int × Int
 | 0, _ => (0, 4)
 | d + 1, m => if (strk l0 lo hi 0 off m).2 = 1000 then needFrom l0 lo hi off d (m + 1) else (m, 0)
def needF (l0 : List S57) (lo hi : Int) (l3 : List S69) (off : Int) : Int × Int :=
 if openV l0 lo hi l3 (asked off 0) ≠ 0 then (0, openV l0 lo hi l3 (asked off 0)) else needFrom l0 lo hi off 31 0
set_option maxHeartbeats 4000000 in
set_option maxRecDepth 100000 in
theorem need_any (A0 : Option Addr) (c0 : Nat) (l0 : List S57) (lo hi : Int) (A3 : Option Addr) (c3 : Nat) (l3 : List S69) (off : Int) (w : World) (hB : Book w A0 c0 l0 A3 c3 l3) :
  Calls Tryd.prog 30 #[bookV A0 c0 l0 lo hi A3 c3 l3, .int .i64 off] w fun e w' =>
   e = .returned (.tuple #[.int .i64 (needF l0 lo hi l3 off).1, .int .i64 (needF l0 lo hi l3 off).2]) ∧ Below w.heap.size w w' := by
 have HB := Lib.hid hB
 clear hB
 go_enter Tryd.func30, Tryd.ntmps30
 go_wp2_with fail
 have hBW : Book (w.alloc (.cells (bookC A0 c0 l0 lo hi A3 c3 l3) 27)) A0 c0 l0 A3 c3 l3 := HB.out.fr ((Fr.refl _ _).alloc _)
 have B0 := Bx.new w 27 (bookC A0 c0 l0 lo hi A3 c3 l3)
 have hf0 : Fr0 w (w.alloc (.cells (bookC A0 c0 l0 lo hi A3 c3 l3) 27)) := (Fr.refl _ _).alloc _
 generalize hg0 : w.heap.size = g at *
 generalize hW0 : w.alloc (.cells (bookC A0 c0 l0 lo hi A3 c3 l3) 27) = W0 at *
 have y0 := B0.at_ 0 rfl
 have y1 := B0.at_ 1 rfl
 have y2 := B0.at_ 2 rfl
 have y3 := B0.at_ 3 rfl
 have HB0 := Lib.hid B0
 have HBW := Lib.hid hBW
 clear hBW B0
 have H0 := Lib.hid (Fr.drew (Fr.refl (fun _ => False) W0))
 refine start_ (n := 10) (S := fun w' => w'.cell? ⟨g, 0, none⟩ = some (.slice A0 l0.length c0) ∧ w'.cell? ⟨g, 1, none⟩ = some (.int .i64 lo) ∧ w'.cell? ⟨g, 2, none⟩ = some (.int .i64 hi) ∧ w'.cell? ⟨g, 3, none⟩ = some (.slice A3 l3.length c3)) (ds := [8]) (.replicate 10 false) (by kernel_rfl) rfl rfl ⟨y0, y1, y2, y3⟩ (fun hHeld => ?_)
 refine pu 1 11 (bt 10 2) (k := ?_)
 refine tk4 0 10 (bt 10 3) hHeld (k := ?_)
 refine join_ (σ := Sg) 2 (bt 10 255) (fun s => [(12, .bool (asked off 0)), (6, .pointer (some ⟨s.1, 0, none⟩)), (13, .tuple #[shopV s.2.1 s.2.2.1 s.2.2.2.1 s.2.2.2.2.1 s.2.2.2.2.2.1 s.2.2.2.2.2.2, .int .i64 (openV l0 lo hi l3 (asked off 0))]), (9, .tuple #[shopV s.2.1 s.2.2.1 s.2.2.2.1 s.2.2.2.2.1 s.2.2.2.2.2.1 s.2.2.2.2.2.2, .int .i64 (openV l0 lo hi l3 (asked off 0))]), (14, shopV s.2.1 s.2.2.1 s.2.2.2.1 s.2.2.2.2.1 s.2.2.2.2.2.1 s.2.2.2.2.2.2), (15, .int .i64 (openV l0 lo hi l3 (asked off 0)))]) (fun s w' => ((w'.cell? ⟨g, 0, none⟩ = some (.slice A0 l0.length c0)) ∧ (w'.cell? ⟨g, 1, none⟩ = some (.int .i64 lo)) ∧ (w'.cell? ⟨g, 2, none⟩ = some (.int .i64 hi)) ∧ (w'.cell? ⟨g, 3, none⟩ = some (.slice A3 l3.length c3))) ∧ OpAt 0 W0 A0 c0 l0 lo hi A3 c3 l3 (asked off 0) s w') ?_ ?_
 rotate_left
 ·intro hCont
  refine two_ (i := 2) (j := 7) (Ni := some 12) (Nj := some 6) (bt 10 7) (bt 10 131) rfl rfl rfl rfl (by kernel_rfl) (by decide) (by decide) (fun K hK => ?_) (fun K hK => ?_)
  ·skip
   refine goes_ Tryd.func52 (by kernel_rfl) rfl #[.int .i64 off, .int .i64 0] (by rfl) rfl rfl TN ?_
   with_reducible refine (isAsk_any off 0 _).mono ?_
   rintro e w3_0 ⟨rfl, hf0⟩
   refine ⟨_, rfl, ?_⟩
   have H1 := Lib.hid (Fr0.trans H0.out hf0)
   refine hK.out _ _ ⟨(H1.out.cell0 y0), (H1.out.cell0 y1), (H1.out.cell0 y2), (H1.out.cell0 y3)⟩ (fun hHeld => ?_)
   clear hK K
   refine norm_ (a' := ?_) ?_ ?_
   rotate_left
   ·show Act.put _ (some 12) _ = _
    simp only [Act.put, lA, lZ, lS, i64_w, i32_w]
    rfl
   refine two_ (i := 3) (j := 7) (Ni := some 13) (Nj := some 6) (bt 10 15) (bt 10 135) rfl rfl rfl rfl (by kernel_rfl) (by decide) (by decide) (fun K hK => ?_) (fun K hK => ?_)
   ·skip
    refine goes_ Tryd.func51 (by kernel_rfl) rfl #[bookV A0 c0 l0 lo hi A3 c3 l3, .bool (asked off 0)] (by rfl) rfl rfl TN ?_
    with_reducible refine (open_any 0 (.inl rfl) A0 c0 l0 lo hi A3 c3 l3 (asked off 0) _ (HBW.out.fr H1.out)).mono ?_
    rintro e w3_1 ⟨tv, lo', hi', kv', o0, o1, rfl, htv, hkv, hf1, hop⟩
    refine ⟨_, rfl, ?_⟩
    have H2 := Lib.hid (Fr0.trans H1.out hf1)
    have HOP : Hop _ := ⟨OpAtP.mk' H1.out HBW.out hop⟩
    refine hK.out _ _ ⟨(H2.out.cell0 y0), (H2.out.cell0 y1), (H2.out.cell0 y2), (H2.out.cell0 y3)⟩ (fun hHeld => ?_)
    clear hK K
    refine norm_ (a' := ?_) ?_ ?_
    rotate_left
    ·show Act.put _ (some 13) _ = _
     simp only [Act.put, lA, lZ, lS, i64_w, i32_w]
     rfl
    refine pu 4 9 (bt 10 31) (k := ?_)
    refine pu 5 14 (bt 10 63) (k := ?_)
    refine pu 6 15 (bt 10 127) (k := ?_)
    refine oN 7 6 (bt 10 255) (h := fun K hK => ?_)
    refine value_ (w1 := ?_) (v := ?_) (by rfl) rfl ?_ ?_
    rotate_left 2
    ·go_simp
     constructor
     ·rfl
     ·rfl
    have H3 := Lib.hid (Fr0.trans H2.out (Fr.alloc (Fr.refl _ _) (.cells (shopC (.slice none 0 0) 0 0 (.slice none 0 0) none none) 78)))
    have HX := Lib.hid (Bx.new_at H2.out 78 (shopC (.slice none 0 0) 0 0 (.slice none 0 0) none none))
    have HLE := Lib.hid H2.out.size
    have HOP := HOP.imp (fun h => h.fr (Fr.alloc (Fr.refl _ _) (.cells (shopC (.slice none 0 0) 0 0 (.slice none 0 0) none none) 78)))
    refine hK.out _ _ ⟨(H3.out.cell0 y0), (H3.out.cell0 y1), (H3.out.cell0 y2), (H3.out.cell0 y3)⟩ (fun hHeld => ?_)
    clear hK K
    refine norm_ (a' := ?_) ?_ ?_
    rotate_left
    ·show Act.put _ (some 6) _ = _
     simp only [Act.put, lA, lZ, lS, i64_w, i32_w]
     rfl
    exact norm_ (by (simp only [putAll, Act.put, lA, lZ, lS]) <;> rfl) (hCont (⟨_, tv, lo', hi', kv', o0, o1⟩ : Sg) _ ⟨⟨H3.out.cell0 y0, H3.out.cell0 y1, H3.out.cell0 y2, H3.out.cell0 y3⟩, ⟨H3.out, HX.out, HLE.out, ⟨htv, hkv⟩, HOP.out⟩⟩)
   ·skip
    refine value_ (w1 := ?_) (v := ?_) (by rfl) rfl ?_ ?_
    rotate_left 2
    ·go_simp
     constructor
     ·rfl
     ·rfl
    have H2 := Lib.hid (Fr0.trans H1.out (Fr.alloc (Fr.refl _ _) (.cells (shopC (.slice none 0 0) 0 0 (.slice none 0 0) none none) 78)))
    have HX := Lib.hid (Bx.new_at H1.out 78 (shopC (.slice none 0 0) 0 0 (.slice none 0 0) none none))
    have HLE := Lib.hid H1.out.size
    refine hK.out _ _ ⟨(H2.out.cell0 y0), (H2.out.cell0 y1), (H2.out.cell0 y2), (H2.out.cell0 y3)⟩ (fun hHeld => ?_)
    clear hK K
    refine norm_ (a' := ?_) ?_ ?_
    rotate_left
    ·show Act.put _ (some 6) _ = _
     simp only [Act.put, lA, lZ, lS, i64_w, i32_w]
     rfl
    refine oN 3 13 (bt 10 143) (h := fun K hK => ?_)
    refine goes_ Tryd.func51 (by kernel_rfl) rfl #[bookV A0 c0 l0 lo hi A3 c3 l3, .bool (asked off 0)] (by rfl) rfl rfl TN ?_
    with_reducible refine (open_any 0 (.inl rfl) A0 c0 l0 lo hi A3 c3 l3 (asked off 0) _ (HBW.out.fr H2.out)).mono ?_
    rintro e w3_2 ⟨tv, lo', hi', kv', o0, o1, rfl, htv, hkv, hf2, hop⟩
    refine ⟨_, rfl, ?_⟩
    have H3 := Lib.hid (Fr0.trans H2.out hf2)
    have HX := Lib.hid (HX.out.fr0 hf2)
    have HOP : Hop _ := ⟨OpAtP.mk' H2.out HBW.out hop⟩
    refine hK.out _ _ ⟨(H3.out.cell0 y0), (H3.out.cell0 y1), (H3.out.cell0 y2), (H3.out.cell0 y3)⟩ (fun hHeld => ?_)
    clear hK K
    refine norm_ (a' := ?_) ?_ ?_
    rotate_left
    ·show Act.put _ (some 13) _ = _
     simp only [Act.put, lA, lZ, lS, i64_w, i32_w]
     rfl
    refine pu 4 9 (bt 10 159) (k := ?_)
    refine pu 5 14 (bt 10 191) (k := ?_)
    refine pu 6 15 (bt 10 255) (k := ?_)
    exact norm_ (by (simp only [putAll, Act.put, lA, lZ, lS]) <;> rfl) (hCont (⟨_, tv, lo', hi', kv', o0, o1⟩ : Sg) _ ⟨⟨H3.out.cell0 y0, H3.out.cell0 y1, H3.out.cell0 y2, H3.out.cell0 y3⟩, ⟨H3.out, HX.out, HLE.out, ⟨htv, hkv⟩, HOP.out⟩⟩)
  ·skip
   refine value_ (w1 := ?_) (v := ?_) (by rfl) rfl ?_ ?_
   rotate_left 2
   ·go_simp
    constructor
    ·rfl
    ·rfl
   have H1 := Lib.hid (Fr0.trans H0.out (Fr.alloc (Fr.refl _ _) (.cells (shopC (.slice none 0 0) 0 0 (.slice none 0 0) none none) 78)))
   have HX := Lib.hid (Bx.new_at H0.out 78 (shopC (.slice none 0 0) 0 0 (.slice none 0 0) none none))
   have HLE := Lib.hid H0.out.size
   refine hK.out _ _ ⟨(H1.out.cell0 y0), (H1.out.cell0 y1), (H1.out.cell0 y2), (H1.out.cell0 y3)⟩ (fun hHeld => ?_)
   clear hK K
   refine norm_ (a' := ?_) ?_ ?_
   rotate_left
   ·show Act.put _ (some 6) _ = _
    simp only [Act.put, lA, lZ, lS, i64_w, i32_w]
    rfl
   refine oN 2 12 (bt 10 135) (h := fun K hK => ?_)
   refine goes_ Tryd.func52 (by kernel_rfl) rfl #[.int .i64 off, .int .i64 0] (by rfl) rfl rfl TN ?_
   with_reducible refine (isAsk_any off 0 _).mono ?_
   rintro e w3_1 ⟨rfl, hf1⟩
   refine ⟨_, rfl, ?_⟩
   have H2 := Lib.hid (Fr0.trans H1.out hf1)
   have HX := Lib.hid (HX.out.fr0 hf1)
   refine hK.out _ _ ⟨(H2.out.cell0 y0), (H2.out.cell0 y1), (H2.out.cell0 y2), (H2.out.cell0 y3)⟩ (fun hHeld => ?_)
   clear hK K
   refine norm_ (a' := ?_) ?_ ?_
   rotate_left
   ·show Act.put _ (some 12) _ = _
    simp only [Act.put, lA, lZ, lS, i64_w, i32_w]
    rfl
   refine oN 3 13 (bt 10 143) (h := fun K hK => ?_)
   refine goes_ Tryd.func51 (by kernel_rfl) rfl #[bookV A0 c0 l0 lo hi A3 c3 l3, .bool (asked off 0)] (by rfl) rfl rfl TN ?_
   with_reducible refine (open_any 0 (.inl rfl) A0 c0 l0 lo hi A3 c3 l3 (asked off 0) _ (HBW.out.fr H2.out)).mono ?_
   rintro e w3_2 ⟨tv, lo', hi', kv', o0, o1, rfl, htv, hkv, hf2, hop⟩
   refine ⟨_, rfl, ?_⟩
   have H3 := Lib.hid (Fr0.trans H2.out hf2)
   have HX := Lib.hid (HX.out.fr0 hf2)
   have HOP : Hop _ := ⟨OpAtP.mk' H2.out HBW.out hop⟩
   refine hK.out _ _ ⟨(H3.out.cell0 y0), (H3.out.cell0 y1), (H3.out.cell0 y2), (H3.out.cell0 y3)⟩ (fun hHeld => ?_)
   clear hK K
   refine norm_ (a' := ?_) ?_ ?_
   rotate_left
   ·show Act.put _ (some 13) _ = _
    simp only [Act.put, lA, lZ, lS, i64_w, i32_w]
    rfl
   refine pu 4 9 (bt 10 159) (k := ?_)
   refine pu 5 14 (bt 10 191) (k := ?_)
   refine pu 6 15 (bt 10 255) (k := ?_)
   exact norm_ (by (simp only [putAll, Act.put, lA, lZ, lS]) <;> rfl) (hCont (⟨_, tv, lo', hi', kv', o0, o1⟩ : Sg) _ ⟨⟨H3.out.cell0 y0, H3.out.cell0 y1, H3.out.cell0 y2, H3.out.cell0 y3⟩, ⟨H3.out, HX.out, HLE.out, ⟨htv, hkv⟩, HOP.out⟩⟩)
 rintro ⟨g9, tv, lo', hi', kv', o0, o1⟩ w5 ⟨⟨s0, s1, s2, s3⟩, HP⟩
 have hHeld : (w5.cell? ⟨g, 0, none⟩ = some (.slice A0 l0.length c0)) ∧ (w5.cell? ⟨g, 1, none⟩ = some (.int .i64 lo)) ∧ (w5.cell? ⟨g, 2, none⟩ = some (.int .i64 hi)) ∧ (w5.cell? ⟨g, 3, none⟩ = some (.slice A3 l3.length c3)) := ⟨s0, s1, s2, s3⟩
 have hone := HP.one
 dsimp only at hone
 obtain ⟨⟨Ax, nx, cx, rfl⟩, ⟨Ay, ny, cy, rfl⟩⟩ := hone
 have bz0 := HP.bx.at_ 0 rfl
 have bz1 := HP.bx.at_ 1 rfl
 have bz2 := HP.bx.at_ 2 rfl
 have bz3 := HP.bx.at_ 3 rfl
 have bz4 := HP.bx.at_ 4 rfl
 have bz5 := HP.bx.at_ 5 rfl
 have fz0 := HP.bx.frz 0
 have fz1 := HP.bx.frz 1
 have fz2 := HP.bx.frz 2
 have fz3 := HP.bx.frz 3
 have fz4 := HP.bx.frz 4
 have fz5 := HP.bx.frz 5
 dsimp only at bz0 fz0 bz1 fz1 bz2 fz2 bz3 fz3 bz4 fz4 bz5 fz5
 refine norm_ (a' := ?_) ?_ ?_
 rotate_left
 ·simp only [putAll, Act.put, lA, lZ, lS]
  rfl
 refine last_ (i := 8) (N := none) (bt 10 511) rfl rfl (by kernel_rfl) (by decide) (fun K hK => ?_)
 refine skip_ (w1 := ?_) (by rfl) rfl ?_ ?_
 rotate_left
 ·go_simp
  rfl
 refine hK.out _ _ ?_
 clear hK K
 refine pu 9 7 (bt 10 1023) (k := ?_)
 refine done_ (by kernel_rfl) ?_
 have BX := shop_set HP.bx (.slice Ax nx cx) (.int .i64 lo') (.int .i64 hi') (.slice Ay ny cy) (.map o0) (.map o1)
 have hf6 := shop_fr HP.fr (.inr HP.new) (.slice Ax nx cx) (.int .i64 lo') (.int .i64 hi') (.slice Ay ny cy) (.map o0) (.map o1)
 have hf56 := shop_fr (Fr.refl (· = g9) w5) (.inl rfl) (.slice Ax nx cx) (.int .i64 lo') (.int .i64 hi') (.slice Ay ny cy) (.map o0) (.map o1)
 dsimp only at BX hf6 hf56
 generalize hW6 : World.setCell _ _ _ = W6 at *
 have HBX := Lib.hid BX
 have c0' := BX.at_ 0 rfl
 have c1' := BX.at_ 1 rfl
 have c2' := BX.at_ 2 rfl
 have c3' := BX.at_ 3 rfl
 have c4' := BX.at_ 4 rfl
 have c5' := BX.at_ 5 rfl
 have lg := BX.lt
 have HNEW := Lib.hid HP.new
 clear bz0 bz1 bz2 bz3 bz4 bz5 fz0 fz1 fz2 fz3 fz4 fz5 s0 s1 s2 s3 H0 hHeld BX y0 y1 y2 y3
 by_cases hz : openV l0 lo hi l3 (asked off 0) = 0
 ·obtain ⟨m0, m1, e1, e2, e3, e4, e5, e6, hO⟩ := HP.op.op hz
  obtain ⟨hbk, hak⟩ := openV_zero hz
  have hN : needF l0 lo hi l3 off = needFrom l0 lo hi off 31 0 := by unfold needF; rw [if_neg (by simpa using hz)]
  have HN := Lib.hid hN
  have HBK := Lib.hid hbk
  have hpos : 0 < W0.heap.size := World.block_lt_of_cell? W0 _ HBW.out.glob.g0
  have hn0 : g9 ≠ m0 := fun e => by
   obtain ⟨f, hf, _⟩ := hO.sop.mem0
   obtain ⟨es, ck, ho⟩ := hf.obj
   exact HP.bx.not_map ho (e.trans (by simp [Cfg.mb, Cfg.of]))
  have hn1 : g9 ≠ m1 := fun e => by
   obtain ⟨f, hf, _⟩ := hO.sop.mem1
   obtain ⟨es, ck, ho⟩ := hf.obj
   exact HP.bx.not_map ho (e.trans (by simp [Cfg.mb, Cfg.of]))
  have HS6 := Lib.hid (hO.sop.set hf56 HNEW.out hpos hn0 hn1)
  have HAK := Lib.hid hak
  have HO := Lib.hid hO
  have HN0 := Lib.hid hn0
  have HN1 := Lib.hid hn1
  clear hO HP hN hak hbk hn0 hn1
  dsimp only at e1 e2 e3 e4 e5 e6
  cases e1
  cases e4
  subst e2 e3 e5 e6
  have hme : -60 ≤ off ∧ off ≤ 60 := by
   have hak := HAK.out
   unfold asked isIn at hak
   simp only [Bool.and_eq_true, decide_eq_true_eq] at hak
   omega
  have hcall : ∀ (m : Nat) (W : World), m < 31 → Sop (Cfg.of W0 A0 c0 l0 lo' hi' (.slice A3 l3.length c3) m0 m1) W → Calls Tryd.prog 53 #[.agg #[.slice A0 l0.length c0, .int .i64 lo', .int .i64 hi', .slice A3 l3.length c3, .map (some m0), .map (some m1)], .agg #[.int .i64 off, .int .i64 m], .int .i64 0] W fun e w' => e = .returned (.agg #[.int .i64 (strk l0 lo' hi' 0 off m).1, .int .i64 (strk l0 lo' hi' 0 off m).2]) ∧ Fr (· = m0) W w' ∧ Sop (Cfg.of W0 A0 c0 l0 lo' hi' (.slice A3 l3.length c3) m0 m1) w' := fun m W hm hs =>
   strokes_any (Cfg.of W0 A0 c0 l0 lo' hi' (.slice A3 l3.length c3) m0 m1) HO.out.fix off m W hs (by omega) (by omega) (by omega) (by omega)
  have HC := Lib.hid hcall
  clear hcall hme
  have hmm : ∀ W : World, Sop (Cfg.of W0 A0 c0 l0 lo' hi' (.slice A3 l3.length c3) m0 m1) W → ∃ es ck, W.heap[m0]? = some (.map es ck) := fun W hs => by
   obtain ⟨f, hm, _⟩ := hs.mem0
   exact hm.obj
  have HMM := Lib.hid hmm
  clear hmm
  go_wp2
  clear c0' c1' c2' c3' c4' c5'
  go_loopw [19] (fun v19 wr => ∃ m : Nat, m ≤ 31 ∧ v19 = .int .i64 m ∧ needFrom l0 lo' hi' off 31 0 = needFrom l0 lo' hi' off (31 - m) m ∧ Bx wr g9 78 (shopC (.slice A0 l0.length c0) lo' hi' (.slice A3 l3.length c3) (some m0) (some m1)) ∧ Fr (· = m0) W6 wr ∧ Sop (Cfg.of W0 A0 c0 l0 lo' hi' (.slice A3 l3.length c3) m0 m1) wr) (fun v19 _ => (31 - intOf v19).toNat)
  case atStart => exact ⟨0, by omega, by rfl, by rfl, HBX.out, Fr.refl _ _, HS6.out⟩
  case round =>
   obtain ⟨m, hm, rfl, hnd, hb, hf, hs⟩ := hrel
   have HND := Lib.hid hnd
   have HBR := Lib.hid hb
   have HSR := Lib.hid hs
   have k0 := hb.at_ 0 rfl
   have k1 := hb.at_ 1 rfl
   have k2' := hb.at_ 2 rfl
   have k3 := hb.at_ 3 rfl
   have k4 := hb.at_ 4 rfl
   have k5 := hb.at_ 5 rfl
   have hfd := field83
   clear hb hs hnd
   by_cases hlt : m < 31
   ·have hle : (m : Int) < 31 := by omega
    obtain ⟨d, hd⟩ : ∃ d, 31 - m = d + 1 := ⟨30 - m, by omega⟩
    have HC' := Lib.hid (HC.out m wr hlt HSR.out)
    have HD := Lib.hid hd
    clear hd
    have hstep : needFrom l0 lo' hi' off (31 - m) m = if (strk l0 lo' hi' 0 off m).2 = 1000 then needFrom l0 lo' hi' off d (m + 1) else ((m : Int), 0) := by rw [HD.out]; rfl
    have HST := Lib.hid hstep
    clear hstep
    generalize hFF : strk l0 lo' hi' 0 off m = FF at *
    clear hFF
    obtain ⟨F1, F2⟩ := FF
    dsimp only at HC' HST
    by_cases hbig : F2 = 1000
    ·go_wp2_with (go_at_call 53; refine HC'.out.mono ?_; rintro e W7 ⟨rfl, hf7, hS7⟩)
     obtain ⟨es, ck, hmo⟩ := HMM.out _ HSR.out
     refine ⟨⟨m + 1, by omega, by go_num, ?_, HBR.out.fr hf7 (show ¬ (g9 = m0) from HN0.out), hf.step hf7 (fun k _ e => e), hS7⟩, by simp [intOf]; omega⟩
     rw [HND.out, HST.out, if_pos hbig]
     congr 1
     have := HD.out
     omega
    ·go_wp2_with (go_at_call 53; refine HC'.out.mono ?_; rintro e W7 ⟨rfl, hf7, hS7⟩)
     refine bodyPost_ret (v := .tuple #[.int .i64 m, .int .i64 0]) (by simp [results, Tryd.results30, go_sem]) rfl ⟨by rw [HN.out, HND.out, HST.out, if_neg hbig], ?_⟩
     exact fin_below hf0 hf6 (hf.step hf7 (fun k _ e => e)) HO.out.o0
   ·obtain rfl : m = 31 := by omega
    have hle : ¬ ((31 : Int) < 31) := by omega
    go_wp2
    refine bodyPost_ret (v := .tuple #[.int .i64 0, .int .i64 4]) (by simp [results, Tryd.results30, go_sem]) rfl ⟨by rw [HN.out, HND.out]; rfl, ?_⟩
    first | exact fin_below hf0 hf6 hf HO.out.o0 | (rw [← hg0]; exact fin_below hf0 hf6 hf HO.out.o0)
 ·have hN : needF l0 lo hi l3 off = (0, openV l0 lo hi l3 (asked off 0)) := by unfold needF; rw [if_pos hz]
  have HN := Lib.hid hN
  clear hN HP
  go_wp2
  refine bodyPost_ret (v := .tuple #[.int .i64 0, .int .i64 (openV l0 lo hi l3 (asked off 0))]) (by simp [results, Tryd.results30, go_sem]) rfl ⟨by rw [HN.out], ?_⟩
  exact (hf0.trans hf6).below (Nat.le_of_eq (by first | rfl | exact hg0.symm)) (fun _ _ h => h)
end Go.Proofs.YtfmpbkolpjlfbaaDoor.R
namespace Go.Proofs.YtfmpbkolpjlfbaaDoor.R
open Go.RowKit Go.Shelf Go.Proofs.YtfmpbkolpjlfbaaDoorW.PrintWords Go.Proofs.YtfmpbkolpjlfbaaDoorW.PrintLast Go.Proofs.YtfmpbkolpjlfbaaDoor.PRaspKeys Go.Proofs.YtfmpbkolpjlfbaaDoor.X Go.Proofs.YtfmpbkolpjlfbaaDoor.M
attribute [local go_sem] Oper.semAt_some
/-- Key i may be spoilt. -/
def spoiltAt (l0 : List S57) (lo hi : Int) (l3 : List S69) (n i : Nat) : Bool := decide (i < n) && decide (keyF l0 lo hi (l3.getD i z69) = 1000)
def sumTo (l0 : List S57) (lo hi : Int) (l3 : List S69) : Nat → Int
 | 0 => 0
 | n + 1 => if keyF l0 lo hi (l3.getD n z69) = 1000 then sumTo l0 lo hi l3 n else sumTo l0 lo hi l3 n + keyF l0 lo hi (l3.getD n z69)
theorem sumTo_bnd (l0 : List S57) (lo hi : Int) (l3 : List S69) : ∀ n, 0 ≤ sumTo l0 lo hi l3 n ∧ sumTo l0 lo hi l3 n ≤ 1000 * n
 | 0 => by simp [sumTo]
 | n + 1 => by
  have h := sumTo_bnd l0 lo hi l3 n
  have h2 := keyTo_bnd l0 lo hi (l3.getD n z69).f0.f0 (l3.getD n z69).f1 ((l3.getD n z69).f0.f1 - (l3.getD n z69).f0.f0 + 1).toNat
  have h3 : keyF l0 lo hi (l3.getD n z69) = _ := rfl
  unfold sumTo
  unfold keyF at *
  split <;> omega
def boolsA (f : Nat → Bool) : Array Value := #[.bool (f 0), .bool (f 1), .bool (f 2), .bool (f 3), .bool (f 4), .bool (f 5)]
theorem boolsA_at (f : Nat → Bool) (i : Nat) (h : i < 6) : (boolsA f)[i]? = some (.bool (f i)) := by
 match i, h with
 | 0, _ | 1, _ | 2, _ | 3, _ | 4, _ | 5, _ => rfl
theorem boolsA_set (f g : Nat → Bool) (n : Nat) (h : n < 6) (hg : ∀ i, i ≠ n → g i = f i) : (boolsA f).setIfInBounds n (.bool (g n)) = boolsA g := by
 match n, h, hg with
 | 0, _, hg => simp [boolsA, hg]
 | 1, _, hg => simp [boolsA, hg]
 | 2, _, hg => simp [boolsA, hg]
 | 3, _, hg => simp [boolsA, hg]
 | 4, _, hg => simp [boolsA, hg]
 | 5, _, hg => simp [boolsA, hg]
theorem six_set {t : TypeId} {W : World} {g : Nat} {a0 a1 a2 a3 a4 a5 : Value} (h : Bx W g t #[a0, a1, a2, a3, a4, a5]) (b0 b1 b2 b3 b4 b5 : Value) :
  Bx ((((((W.setCell ⟨g, 0, none⟩ b0).setCell ⟨g, 1, none⟩ b1).setCell ⟨g, 2, none⟩ b2).setCell ⟨g, 3, none⟩ b3).setCell ⟨g, 4, none⟩ b4).setCell ⟨g, 5, none⟩ b5) g t #[b0, b1, b2, b3, b4, b5] := by
 have h := (((((h.set_ 0 b0).set_ 1 b1).set_ 2 b2).set_ 3 b3).set_ 4 b4).set_ 5 b5
 simp at h
 exact h
theorem res64 {w : World} {g : Nat} {f : Nat → Bool} {E : Value} {tmps : Array Value} (h2 : tmps[2]?.getD undef = .pointer (some ⟨g, 0, none⟩)) (h3 : tmps[3]?.getD undef = E) (h : Bx w g 97 (boolsA f)) :
  (results Tryd.f64 tmps).run Tryd.prog w = .ok (.tuple #[.agg (boolsA f), E]) w := by
 have e0 := h.at_ 0 (v := .bool (f 0)) rfl
 have e1 := h.at_ 1 (v := .bool (f 1)) rfl
 have e2 := h.at_ 2 (v := .bool (f 2)) rfl
 have e3 := h.at_ 3 (v := .bool (f 3)) rfl
 have e4 := h.at_ 4 (v := .bool (f 4)) rfl
 have e5 := h.at_ 5 (v := .bool (f 5)) rfl
 simp only [results, Tryd.results64]
 simp [h2, h3, go_sem, e0, e1, e2, e3, e4, e5, boolsA]
set_option maxHeartbeats 4000000 in
set_option maxRecDepth 100000 in
theorem spoilt_any (c : Cfg) (hF : Fix c) (hw0 : c.way = 0) (A3 : Option Addr) (c3 : Nat) (l3 : List S69) (hkv : c.kv = .slice A3 l3.length c3) (hr3 : Kd.C k69 c.w0 A3 l3.length l3) (hc3 : l3.length ≤ c3) (h6 : l3.length ≤ 6) (hok : ∀ k, k < l3.length → keyOk (l3.getD k z69) = true) (hpos : 0 < c.w0.heap.size) (w : World) (h : Sop c w) :
  Calls Tryd.prog 64 #[c.sh] w fun e w' => e = .returned (.tuple #[.agg (boolsA (spoiltAt c.tools c.lo c.hi l3 l3.length)), .int .i64 (sumTo c.tools c.lo c.hi l3 l3.length)]) ∧ Fr (· = c.mb) w w' ∧ Sop c w' := by
 have HS := Lib.hid h
 clear h
 have hmm : ∀ W : World, Sop c W → ∃ es ck, W.heap[c.mb]? = some (.map es ck) := fun W hs => by
  obtain ⟨f, hm, _⟩ := hs.memo hF
  exact hm.obj
 have HMM := Lib.hid hmm
 have hcall : ∀ (n : Nat) (W : World), n < l3.length → Sop c W → Calls Tryd.prog 62 #[.agg #[.slice c.At c.tools.length c.ct, .int .i64 c.lo, .int .i64 c.hi, .slice A3 l3.length c3, .map (some c.m0), .map (some c.m1)], .int .i64 n] W fun e w' => e = .returned (.int .i64 (keyF c.tools c.lo c.hi (l3.getD n z69))) ∧ Fr (· = c.mb) W w' ∧ Sop c w' := fun n W hn hs => by
  have := key_any c hF hw0 A3 c3 l3 hkv hr3 hc3 n hn (hok n hn) W hs
  unfold Cfg.sh at this
  rw [hkv] at this
  exact this
 have HC := Lib.hid hcall
 clear hmm hcall
 unfold Cfg.sh
 rw [hkv]
 go_enter Tryd.func64, Tryd.ntmps64
 go_wp2
 have B0 := ((Bx.new w 78 (shopC (.slice c.At c.tools.length c.ct) c.lo c.hi (.slice A3 l3.length c3) (some c.m0) (some c.m1))).alloc (.cells (boolsA fun _ => false) 97)).alloc (.cells (boolsA fun _ => false) 97)
 have B1 : Bx ((((w.alloc (.cells (shopC (.slice c.At c.tools.length c.ct) c.lo c.hi (.slice A3 l3.length c3) (some c.m0) (some c.m1)) 78)).alloc (.cells (boolsA fun _ => false) 97))).alloc (.cells (boolsA fun _ => false) 97)) (w.heap.size + 1) 97 (boolsA fun _ => false) := (Bx.of_new (by simp)).alloc _
 have B2 : Bx ((((w.alloc (.cells (shopC (.slice c.At c.tools.length c.ct) c.lo c.hi (.slice A3 l3.length c3) (some c.m0) (some c.m1)) 78)).alloc (.cells (boolsA fun _ => false) 97))).alloc (.cells (boolsA fun _ => false) 97)) (w.heap.size + 1 + 1) 97 (boolsA fun _ => false) := Bx.of_new (by simp)
 have hf0 : Fr0 w ((((w.alloc (.cells (shopC (.slice c.At c.tools.length c.ct) c.lo c.hi (.slice A3 l3.length c3) (some c.m0) (some c.m1)) 78)).alloc (.cells (boolsA fun _ => false) 97))).alloc (.cells (boolsA fun _ => false) 97)) := (((Fr.refl _ _).alloc _).alloc _).alloc _
 have hS0 := HS.out.step0 hf0
 go_loopw [5, 12] (fun v5 v12 wr => ∃ n : Nat, n ≤ l3.length ∧ v5 = .int .i64 (sumTo c.tools c.lo c.hi l3 n) ∧ v12 = .int .i64 n ∧ Bx wr w.heap.size 78 (shopC (.slice c.At c.tools.length c.ct) c.lo c.hi (.slice A3 l3.length c3) (some c.m0) (some c.m1)) ∧ Bx wr (w.heap.size + 1) 97 (boolsA fun _ => false) ∧ Bx wr (w.heap.size + 1 + 1) 97 (boolsA (spoiltAt c.tools c.lo c.hi l3 n)) ∧ Fr (· = c.mb) w wr ∧ Sop c wr) (fun _ v12 _ => (l3.length - intOf v12).toNat)
 case atStart => exact ⟨0, by omega, by rfl, by rfl, B0, B1, by rw [show spoiltAt c.tools c.lo c.hi l3 0 = fun _ => false from funext fun i => by simp [spoiltAt]]; exact B2, Fr.of0 hf0, hS0⟩
 case round =>
  obtain ⟨n, hn, rfl, rfl, hb, hb1, hb2, hf, hs⟩ := hrel
  have HBR := Lib.hid hb
  have HB1 := Lib.hid hb1
  have HB2 := Lib.hid hb2
  have HSR := Lib.hid hs
  have HFR := Lib.hid hf
  have k0 := hb.at_ 0 rfl
  have k1 := hb.at_ 1 rfl
  have k2' := hb.at_ 2 rfl
  have k3 := hb.at_ 3 rfl
  have k4 := hb.at_ 4 rfl
  have k5 := hb.at_ 5 rfl
  have hbs := sumTo_bnd c.tools c.lo c.hi l3 n
  obtain ⟨es, ck, hmo⟩ := HMM.out _ hs
  have hN0 := Lib.hid (hb.not_map hmo)
  have hN1 := Lib.hid (hb1.not_map hmo)
  have hN2 := Lib.hid (hb2.not_map hmo)
  clear hb hs hb1 hmo
  by_cases hlt : n < l3.length
  ·have hle : (n : Int) < l3.length := by omega
   have hn6 : (n : Int) < 6 := by omega
   have HC' := Lib.hid (HC.out n wr hlt HSR.out)
   have HSUM := Lib.hid (show sumTo c.tools c.lo c.hi l3 (n + 1) = if keyF c.tools c.lo c.hi (l3.getD n z69) = 1000 then sumTo c.tools c.lo c.hi l3 n else sumTo c.tools c.lo c.hi l3 n + keyF c.tools c.lo c.hi (l3.getD n z69) from rfl)
   have HSP := Lib.hid (show spoiltAt c.tools c.lo c.hi l3 (n + 1) n = decide (keyF c.tools c.lo c.hi (l3.getD n z69) = 1000) from by unfold spoiltAt; simp)
   have HSQ := Lib.hid (show ∀ i, i ≠ n → spoiltAt c.tools c.lo c.hi l3 (n + 1) i = spoiltAt c.tools c.lo c.hi l3 n i from fun i hi => by
    unfold spoiltAt
    congr 1
    by_cases h : i < n
    ·simp [h]; omega
    ·simp [h]; omega)
   have hkb : 0 ≤ keyF c.tools c.lo c.hi (l3.getD n z69) ∧ keyF c.tools c.lo c.hi (l3.getD n z69) ≤ 1000 := keyTo_bnd _ _ _ _ _ _
   clear hb2 hf
   generalize keyF c.tools c.lo c.hi (l3.getD n z69) = KF at *
   by_cases hbig : KF = 1000
   ·go_wp2_with (go_at_call 62; refine HC'.out.mono ?_; rintro e W7 ⟨rfl, hf7, hS7⟩; (have H2 := Lib.hid (HB2.out.fr hf7 (show ¬ (w.heap.size + 1 + 1 = c.mb) from hN2.out))); (have z2 := H2.out.frz n); (have y2 := H2.out.at_ n (boolsA_at _ n (by omega))))
    have hne1 : w.heap.size + 1 + 1 ≠ c.m1 := fun e => by
     obtain ⟨f, hm, _⟩ := hS7.mem1
     obtain ⟨es, ck, ho⟩ := hm.obj
     exact H2.out.not_map ho (e.trans (by simp [Cfg.mb]))
    have hne0 : w.heap.size + 1 + 1 ≠ c.m0 := fun e => hN2.out (e.trans (by simp [Cfg.mb, hw0]))
    have hsz := HS.out.base.size
    refine ⟨⟨n + 1, by omega, ?_, by go_num, ?_, ?_, ?_, ?_, ?_⟩, by simp [intOf]; omega⟩
    ·rw [HSUM.out, if_pos hbig]
    ·exact (HBR.out.fr hf7 (show ¬ (w.heap.size = c.mb) from hN0.out)).far (by simp; omega) _
    ·exact (HB1.out.fr hf7 (show ¬ (w.heap.size + 1 = c.mb) from hN1.out)).far (by simp) _
    ·have hset := H2.out.set_ n (.bool (spoiltAt c.tools c.lo c.hi l3 (n + 1) n))
     rw [boolsA_set _ _ n (by omega) HSQ.out] at hset
     rw [HSP.out, show decide (KF = 1000) = true from decide_eq_true hbig] at hset
     exact hset
    ·exact (HFR.out.step hf7 (fun k _ e => e)).setCell (.inr (by simp; omega)) _
    ·exact hS7.set (g := w.heap.size + 1 + 1) (Fr.setCell (S := (· = w.heap.size + 1 + 1)) (Fr.refl _ _) (.inl rfl) _) (by omega) hpos hne0 hne1
   ·have hb0 : (KF == 1000) = false := by simpa using hbig
    go_wp2_with (go_at_call 62; refine HC'.out.mono ?_; rintro e W7 ⟨rfl, hf7, hS7⟩; (have H2 := Lib.hid (HB2.out.fr hf7 (show ¬ (w.heap.size + 1 + 1 = c.mb) from hN2.out))); (have z2 := H2.out.frz n); (have y2 := H2.out.at_ n (boolsA_at _ n (by omega))))
    have hne1 : w.heap.size + 1 + 1 ≠ c.m1 := fun e => by
     obtain ⟨f, hm, _⟩ := hS7.mem1
     obtain ⟨es, ck, ho⟩ := hm.obj
     exact H2.out.not_map ho (e.trans (by simp [Cfg.mb]))
    have hne0 : w.heap.size + 1 + 1 ≠ c.m0 := fun e => hN2.out (e.trans (by simp [Cfg.mb, hw0]))
    have hsz := HS.out.base.size
    refine ⟨⟨n + 1, by omega, ?_, by go_num, ?_, ?_, ?_, ?_, ?_⟩, by simp [intOf]; omega⟩
    ·rw [HSUM.out, if_neg hbig]
    ·exact (HBR.out.fr hf7 (show ¬ (w.heap.size = c.mb) from hN0.out)).far (by simp; omega) _
    ·exact (HB1.out.fr hf7 (show ¬ (w.heap.size + 1 = c.mb) from hN1.out)).far (by simp) _
    ·have hset := H2.out.set_ n (.bool (spoiltAt c.tools c.lo c.hi l3 (n + 1) n))
     rw [boolsA_set _ _ n (by omega) HSQ.out] at hset
     rw [HSP.out, show decide (KF = 1000) = false from decide_eq_false hbig] at hset
     exact hset
    ·exact (HFR.out.step hf7 (fun k _ e => e)).setCell (.inr (by simp; omega)) _
    ·exact hS7.set (g := w.heap.size + 1 + 1) (Fr.setCell (S := (· = w.heap.size + 1 + 1)) (Fr.refl _ _) (.inl rfl) _) (by omega) hpos hne0 hne1
  ·obtain rfl : n = l3.length := by omega
   have hle : ¬ ((l3.length : Int) < l3.length) := by omega
   have p0 := hb2.at_ 0 (v := .bool (spoiltAt c.tools c.lo c.hi l3 l3.length 0)) rfl
   have p1 := hb2.at_ 1 (v := .bool (spoiltAt c.tools c.lo c.hi l3 l3.length 1)) rfl
   have p2 := hb2.at_ 2 (v := .bool (spoiltAt c.tools c.lo c.hi l3 l3.length 2)) rfl
   have p3 := hb2.at_ 3 (v := .bool (spoiltAt c.tools c.lo c.hi l3 l3.length 3)) rfl
   have p4 := hb2.at_ 4 (v := .bool (spoiltAt c.tools c.lo c.hi l3 l3.length 4)) rfl
   have p5 := hb2.at_ 5 (v := .bool (spoiltAt c.tools c.lo c.hi l3 l3.length 5)) rfl
   have u0 := HB1.out.at_ 0 (v := .bool false) rfl
   have u1 := HB1.out.at_ 1 (v := .bool false) rfl
   have u2 := HB1.out.at_ 2 (v := .bool false) rfl
   have u3 := HB1.out.at_ 3 (v := .bool false) rfl
   have u4 := HB1.out.at_ 4 (v := .bool false) rfl
   have u5 := HB1.out.at_ 5 (v := .bool false) rfl
   have v0 := HB1.out.frz 0
   have v1 := HB1.out.frz 1
   have v2 := HB1.out.frz 2
   have v3 := HB1.out.frz 3
   have v4 := HB1.out.frz 4
   have v5 := HB1.out.frz 5
   clear hb2 hf
   go_wp2
   have hne1 : w.heap.size + 1 ≠ c.m1 := fun e => by
    obtain ⟨f, hm, _⟩ := HSR.out.mem1
    obtain ⟨es, ck, ho⟩ := hm.obj
    exact HB1.out.not_map ho (e.trans (by simp [Cfg.mb]))
   have hne0 : w.heap.size + 1 ≠ c.m0 := fun e => hN1.out (e.trans (by simp [Cfg.mb, hw0]))
   have hsz := HS.out.base.size
   refine bodyPost_ret (res64 rfl rfl (six_set HB1.out _ _ _ _ _ _)) rfl ⟨rfl, ?_, ?_⟩
   ·exact shop_fr HFR.out (.inr (by omega)) _ _ _ _ _ _
   ·exact HSR.out.set (g := w.heap.size + 1) (shop_fr (S := (· = w.heap.size + 1)) (Fr.refl _ _) (.inl rfl) _ _ _ _ _ _) (by omega) hpos hne0 hne1
end Go.Proofs.YtfmpbkolpjlfbaaDoor.R
namespace Go.Proofs.YtfmpbkolpjlfbaaDoor.R
open Go.RowKit Go.Shelf Go.Proofs.YtfmpbkolpjlfbaaDoorW.PrintWords Go.Proofs.YtfmpbkolpjlfbaaDoorW.PrintLast Go.Proofs.YtfmpbkolpjlfbaaDoor.PRaspKeys Go.Proofs.YtfmpbkolpjlfbaaDoor.X Go.Proofs.YtfmpbkolpjlfbaaDoor.M
attribute [local go_sem] Oper.semAt_some
theorem eq97 (b0 b1 b2 b3 b4 b5 : Bool) (w : World) : (Op.equalIn 10000 97 (.agg #[.bool b0, .bool b1, .bool b2, .bool b3, .bool b4, .bool b5]) (.agg #[.bool false, .bool false, .bool false, .bool false, .bool false, .bool false])).run Tryd.prog w = .ok (!(b0 || b1 || b2 || b3 || b4 || b5)) w := by
 cases b0 <;> cases b1 <;> cases b2 <;> cases b3 <;> cases b4 <;> cases b5 <;> kernel_rfl
def anySpoilt (l0 : List S57) (lo hi : Int) (l3 : List S69) : Bool := spoiltAt l0 lo hi l3 l3.length 0 || spoiltAt l0 lo hi l3 l3.length 1 || spoiltAt l0 lo hi l3 l3.length 2 || spoiltAt l0 lo hi l3 l3.length 3 || spoiltAt l0 lo hi l3 l3.length 4 || spoiltAt l0 lo hi l3 l3.length 5
def totalF (l0 : List S57) (lo hi : Int) (l3 : List S69) : Int × Int :=
 if openV l0 lo hi l3 true ≠ 0 then (0, openV l0 lo hi l3 true) else if anySpoilt l0 lo hi l3 = true then (0, 4) else (sumTo l0 lo hi l3 l3.length, 0)
theorem fin_below2 {w W0 W5 W7 : World} {mb : Nat} {o : Obj} (h : Fr0 w W0) (h6 : Fr0 W0 W5) (h7 : Fr (· = mb) (W5.alloc o) W7) (hm : W0.heap.size ≤ mb) : Below w.heap.size w W7 := fin_below h (h6.alloc o) h7 hm
theorem book_len {l0 : List S57} {lo hi : Int} {l3 : List S69} (h : bookOk l0 lo hi l3 = true) : l3.length ≤ 6 := by
 unfold bookOk at h
 simp only [Bool.and_eq_true, decide_eq_true_eq] at h
 exact h.1.2.2
set_option maxHeartbeats 4000000 in
set_option maxRecDepth 100000 in
theorem total_any (A0 : Option Addr) (c0 : Nat) (l0 : List S57) (lo hi : Int) (A3 : Option Addr) (c3 : Nat) (l3 : List S69) (w : World) (hB : Book w A0 c0 l0 A3 c3 l3) :
  Calls Tryd.prog 28 #[bookV A0 c0 l0 lo hi A3 c3 l3] w fun e w' =>
   e = .returned (.tuple #[.int .i64 (totalF l0 lo hi l3).1, .int .i64 (totalF l0 lo hi l3).2]) ∧ Below w.heap.size w w' := by
 have HB := Lib.hid hB
 clear hB
 have hBW : Book (w.alloc (.cells (bookC A0 c0 l0 lo hi A3 c3 l3) 27)) A0 c0 l0 A3 c3 l3 := HB.out.fr ((Fr.refl _ _).alloc _)
 have hf0 : Fr0 w (w.alloc (.cells (bookC A0 c0 l0 lo hi A3 c3 l3) 27)) := (Fr.refl _ _).alloc _
 have hpos : 0 < (w.alloc (.cells (bookC A0 c0 l0 lo hi A3 c3 l3) 27)).heap.size := World.block_lt_of_cell? _ _ hBW.glob.g0
 have HPOS := Lib.hid hpos
 have HBW := Lib.hid hBW
 clear hBW hpos
 by_cases hz : openV l0 lo hi l3 true = 0
 ·have HBK := Lib.hid (openV_zero hz).1
  go_enter Tryd.func28, Tryd.ntmps28
  have heq : ∀ w' : World, (Op.equalIn 10000 97 (.agg #[.bool (spoiltAt l0 lo hi l3 l3.length 0), .bool (spoiltAt l0 lo hi l3 l3.length 1), .bool (spoiltAt l0 lo hi l3 l3.length 2), .bool (spoiltAt l0 lo hi l3 l3.length 3), .bool (spoiltAt l0 lo hi l3 l3.length 4), .bool (spoiltAt l0 lo hi l3 l3.length 5)]) (.agg #[.bool false, .bool false, .bool false, .bool false, .bool false, .bool false])).run Tryd.prog w' = .ok (!anySpoilt l0 lo hi l3) w' := fun w' => eq97 _ _ _ _ _ _ w'
  have hspoilt : ∀ (m0 m1 : Nat) (W : World), Opened (w.alloc (.cells (bookC A0 c0 l0 lo hi A3 c3 l3) 27)) A0 c0 l0 lo hi A3 c3 l3 m0 m1 0 W → Calls Tryd.prog 64 #[.agg #[.slice A0 l0.length c0, .int .i64 lo, .int .i64 hi, .slice A3 l3.length c3, .map (some m0), .map (some m1)]] (W.alloc (.cells (shopC (.slice A0 l0.length c0) lo hi (.slice A3 l3.length c3) (some m0) (some m1)) 78)) fun e w' => e = .returned (.tuple #[.agg #[.bool (spoiltAt l0 lo hi l3 l3.length 0), .bool (spoiltAt l0 lo hi l3 l3.length 1), .bool (spoiltAt l0 lo hi l3 l3.length 2), .bool (spoiltAt l0 lo hi l3 l3.length 3), .bool (spoiltAt l0 lo hi l3 l3.length 4), .bool (spoiltAt l0 lo hi l3 l3.length 5)], .int .i64 (sumTo l0 lo hi l3 l3.length)]) ∧ Fr (· = m0) (W.alloc (.cells (shopC (.slice A0 l0.length c0) lo hi (.slice A3 l3.length c3) (some m0) (some m1)) 78)) w' ∧ Sop (Cfg.of (w.alloc (.cells (bookC A0 c0 l0 lo hi A3 c3 l3) 27)) A0 c0 l0 lo hi (.slice A3 l3.length c3) m0 m1) w' := fun m0 m1 W hO =>
   spoilt_any (Cfg.of (w.alloc (.cells (bookC A0 c0 l0 lo hi A3 c3 l3) 27)) A0 c0 l0 lo hi (.slice A3 l3.length c3) m0 m1) hO.fix rfl A3 c3 l3 rfl HBW.out.r3 HBW.out.c3 (book_len HBK.out) (fun k hk => keys_ok HBK.out k hk) HPOS.out _ (hO.sop.step0 ((Fr.refl _ _).alloc _))
  have HSP := Lib.hid hspoilt
  clear hspoilt
  by_cases hbig : anySpoilt l0 lo hi l3 = true
  ·have hN : totalF l0 lo hi l3 = (0, 4) := by unfold totalF; rw [if_neg (by simpa using hz), if_pos hbig]
   have HN := Lib.hid hN
   clear hN
   go_wp2_with (first | (go_at_call 51; refine (open_any 0 (.inl rfl) A0 c0 l0 lo hi A3 c3 l3 true _ HBW.out).mono ?_; rintro e w5 ⟨tv, lo', hi', kv', o0, o1, rfl, ⟨Ax, nx, cx, rfl⟩, ⟨Ay, ny, cy, rfl⟩, hf5, hop⟩; obtain ⟨m0, m1, e1, e2, e3, e4, e5, e6, hO⟩ := hop hz; cases e1; cases e4; subst e2 e3 e5 e6; (have HO := Lib.hid hO); clear hop hO) | (go_at_call 64; refine (HSP.out _ _ _ HO.out).mono ?_; rintro e W7 ⟨rfl, hf7, hS7⟩))
   refine bodyPost_ret (v := .tuple #[.int .i64 0, .int .i64 4]) (by simp [results, Tryd.results28, go_sem]) rfl ⟨by rw [HN.out], ?_⟩
   exact (fin_below2 hf0 hf5 hf7 HO.out.o0).trans ((Below.refl _ _).alloc (fin_below2 hf0 hf5 hf7 HO.out.o0).size _)
  ·have hN : totalF l0 lo hi l3 = (sumTo l0 lo hi l3 l3.length, 0) := by unfold totalF; rw [if_neg (by simpa using hz), if_neg hbig]
   have HN := Lib.hid hN
   clear hN
   go_wp2_with (first | (go_at_call 51; refine (open_any 0 (.inl rfl) A0 c0 l0 lo hi A3 c3 l3 true _ HBW.out).mono ?_; rintro e w5 ⟨tv, lo', hi', kv', o0, o1, rfl, ⟨Ax, nx, cx, rfl⟩, ⟨Ay, ny, cy, rfl⟩, hf5, hop⟩; obtain ⟨m0, m1, e1, e2, e3, e4, e5, e6, hO⟩ := hop hz; cases e1; cases e4; subst e2 e3 e5 e6; (have HO := Lib.hid hO); clear hop hO) | (go_at_call 64; refine (HSP.out _ _ _ HO.out).mono ?_; rintro e W7 ⟨rfl, hf7, hS7⟩))
   refine bodyPost_ret (v := .tuple #[.int .i64 (sumTo l0 lo' hi' l3 l3.length), .int .i64 0]) (by simp [results, Tryd.results28, go_sem]) rfl ⟨by rw [HN.out], ?_⟩
   exact (fin_below2 hf0 hf5 hf7 HO.out.o0).trans ((Below.refl _ _).alloc (fin_below2 hf0 hf5 hf7 HO.out.o0).size _)
 ·go_enter Tryd.func28, Tryd.ntmps28
  have hN : totalF l0 lo hi l3 = (0, openV l0 lo hi l3 true) := by unfold totalF; rw [if_pos hz]
  have HN := Lib.hid hN
  clear hN
  go_wp2_with (first | (go_at_call 51; refine (open_any 0 (.inl rfl) A0 c0 l0 lo hi A3 c3 l3 true _ HBW.out).mono ?_; rintro e w5 ⟨tv, lo', hi', kv', o0, o1, rfl, ⟨Ax, nx, cx, rfl⟩, ⟨Ay, ny, cy, rfl⟩, hf5, hop⟩))
  refine bodyPost_ret (v := .tuple #[.int .i64 0, .int .i64 (openV l0 lo hi l3 true)]) (by simp [results, Tryd.results28, go_sem]) rfl ⟨by rw [HN.out], ?_⟩
  exact ((hf0.trans hf5).alloc _).below (Nat.le_refl _) (fun _ _ h => h)
end Go.Proofs.YtfmpbkolpjlfbaaDoor.R
namespace Go.Proofs.YtfmpbkolpjlfbaaDoor.R
open Go.RowKit Go.Shelf Go.Proofs.YtfmpbkolpjlfbaaDoorW.PrintWords Go.Proofs.YtfmpbkolpjlfbaaDoorW.PrintLast Go.Proofs.YtfmpbkolpjlfbaaDoor.PRaspKeys Go.Proofs.YtfmpbkolpjlfbaaDoor.X Go.Proofs.YtfmpbkolpjlfbaaDoor.M
attribute [local go_sem] Oper.semAt_some
def spList (l0 : List S57) (lo hi : Int) (l3 : List S69) : Nat → List Int
 | 0 => []
 | n + 1 => if spoiltAt l0 lo hi l3 l3.length n = true then spList l0 lo hi l3 n ++ [(n : Int)] else spList l0 lo hi l3 n
theorem spList_len (l0 : List S57) (lo hi : Int) (l3 : List S69) : ∀ n, (spList l0 lo hi l3 n).length ≤ n
 | 0 => by simp [spList]
 | n + 1 => by
  have := spList_len l0 lo hi l3 n
  unfold spList
  split
  ·simp; omega
  ·omega
def spoiltF (l0 : List S57) (lo hi : Int) (l3 : List S69) : List Int × Int :=
 if openV l0 lo hi l3 true ≠ 0 then ([], openV l0 lo hi l3 true) else (spList l0 lo hi l3 l3.length, 0)
/-- A row that was cut to its length. -/
theorem V_cut {α : Type} {d : Kd α} {e base : Nat} {ok : Nat → Prop} {W : World} {A : Option Addr} {n c : Nat} {xs : List α} (h : d.V e W base ok (.slice A n c) xs) : n = xs.length ∧ d.V e W base ok (.slice A n n) xs := by
 obtain ⟨A', c', hv, hc, hF⟩ := h
 cases hv
 exact ⟨rfl, A, _, rfl, Nat.le_refl _, hF⟩
set_option maxHeartbeats 4000000 in
set_option maxRecDepth 100000 in
theorem spoilts_any (A0 : Option Addr) (c0 : Nat) (l0 : List S57) (lo hi : Int) (A3 : Option Addr) (c3 : Nat) (l3 : List S69) (w : World) (hB : Book w A0 c0 l0 A3 c3 l3) :
  Calls Tryd.prog 25 #[bookV A0 c0 l0 lo hi A3 c3 l3] w fun e w' =>
   ∃ v0_ : Value, e = .returned (.tuple #[v0_, .int .i64 (spoiltF l0 lo hi l3).2]) ∧ Kd.V (Kd.int .i64) 3 w' w.heap.size (fun k_ => (w.heap.size ≤ k_)) v0_ (spoiltF l0 lo hi l3).1 ∧ Below w.heap.size w w' := by
 have HB := Lib.hid hB
 clear hB
 have hBW : Book (w.alloc (.cells (bookC A0 c0 l0 lo hi A3 c3 l3) 27)) A0 c0 l0 A3 c3 l3 := HB.out.fr ((Fr.refl _ _).alloc _)
 have hf0 : Fr0 w (w.alloc (.cells (bookC A0 c0 l0 lo hi A3 c3 l3) 27)) := (Fr.refl _ _).alloc _
 have hpos : 0 < (w.alloc (.cells (bookC A0 c0 l0 lo hi A3 c3 l3) 27)).heap.size := World.block_lt_of_cell? _ _ hBW.glob.g0
 have HPOS := Lib.hid hpos
 have HBW := Lib.hid hBW
 clear hBW hpos
 by_cases hz : openV l0 lo hi l3 true = 0
 ·have HBK := Lib.hid (openV_zero hz).1
  go_enter Tryd.func25, Tryd.ntmps25
  have heq : ∀ w' : World, (Op.equalIn 10000 97 (.agg #[.bool (spoiltAt l0 lo hi l3 l3.length 0), .bool (spoiltAt l0 lo hi l3 l3.length 1), .bool (spoiltAt l0 lo hi l3 l3.length 2), .bool (spoiltAt l0 lo hi l3 l3.length 3), .bool (spoiltAt l0 lo hi l3 l3.length 4), .bool (spoiltAt l0 lo hi l3 l3.length 5)]) (.agg #[.bool false, .bool false, .bool false, .bool false, .bool false, .bool false])).run Tryd.prog w' = .ok (!anySpoilt l0 lo hi l3) w' := fun w' => eq97 _ _ _ _ _ _ w'
  have hspoilt : ∀ (m0 m1 : Nat) (W : World), Opened (w.alloc (.cells (bookC A0 c0 l0 lo hi A3 c3 l3) 27)) A0 c0 l0 lo hi A3 c3 l3 m0 m1 0 W → Calls Tryd.prog 64 #[.agg #[.slice A0 l0.length c0, .int .i64 lo, .int .i64 hi, .slice A3 l3.length c3, .map (some m0), .map (some m1)]] (W.alloc (.cells (shopC (.slice A0 l0.length c0) lo hi (.slice A3 l3.length c3) (some m0) (some m1)) 78)) fun e w' => e = .returned (.tuple #[.agg #[.bool (spoiltAt l0 lo hi l3 l3.length 0), .bool (spoiltAt l0 lo hi l3 l3.length 1), .bool (spoiltAt l0 lo hi l3 l3.length 2), .bool (spoiltAt l0 lo hi l3 l3.length 3), .bool (spoiltAt l0 lo hi l3 l3.length 4), .bool (spoiltAt l0 lo hi l3 l3.length 5)], .int .i64 (sumTo l0 lo hi l3 l3.length)]) ∧ Fr (· = m0) (W.alloc (.cells (shopC (.slice A0 l0.length c0) lo hi (.slice A3 l3.length c3) (some m0) (some m1)) 78)) w' ∧ Sop (Cfg.of (w.alloc (.cells (bookC A0 c0 l0 lo hi A3 c3 l3) 27)) A0 c0 l0 lo hi (.slice A3 l3.length c3) m0 m1) w' := fun m0 m1 W hO =>
   spoilt_any (Cfg.of (w.alloc (.cells (bookC A0 c0 l0 lo hi A3 c3 l3) 27)) A0 c0 l0 lo hi (.slice A3 l3.length c3) m0 m1) hO.fix rfl A3 c3 l3 rfl HBW.out.r3 HBW.out.c3 (book_len HBK.out) (fun k hk => keys_ok HBK.out k hk) HPOS.out _ (hO.sop.step0 ((Fr.refl _ _).alloc _))
  have HSP := Lib.hid hspoilt
  clear hspoilt
  have hN : spoiltF l0 lo hi l3 = (spList l0 lo hi l3 l3.length, 0) := by unfold spoiltF; rw [if_neg (by simpa using hz)]
  have HN := Lib.hid hN
  have h6 := book_len HBK.out
  clear hN
  go_wp2_with (first | (go_at_call 51; refine (open_any 0 (.inl rfl) A0 c0 l0 lo hi A3 c3 l3 true _ HBW.out).mono ?_; rintro e w5 ⟨tv, lo', hi', kv', o0, o1, rfl, ⟨Ax, nx, cx, rfl⟩, ⟨Ay, ny, cy, rfl⟩, hf5, hop⟩; obtain ⟨m0, m1, e1, e2, e3, e4, e5, e6, hO⟩ := hop hz; cases e1; cases e4; subst e2 e3 e5 e6; (have HO := Lib.hid hO); clear hop hO; (have BB := Bx.new w5 78 (shopC (.slice A0 l0.length c0) lo' hi' (.slice A3 l3.length c3) (some m0) (some m1)))) | (go_at_call 64; refine (HSP.out _ _ _ HO.out).mono ?_; rintro e W7 ⟨rfl, hf7, hS7⟩; (have hmm := hS7.mem0); (have BS := BB); (have BB7 : Bx W7 w5.heap.size 78 (shopC (.slice A0 l0.length c0) lo' hi' (.slice A3 l3.length c3) (some m0) (some m1)) := BB.fr hf7 (fun e => by obtain ⟨f, hm, _⟩ := HO.out.sop.mem0; have := hm.lt; simp [Cfg.mb, Cfg.of] at this; omega)); (have bb3 := BB7.at_ 3 rfl); (have lbb := BB7.lt)))
  have B6 := Bx.new W7 97 #[.bool (spoiltAt l0 lo' hi' l3 l3.length 0), .bool (spoiltAt l0 lo' hi' l3 l3.length 1), .bool (spoiltAt l0 lo' hi' l3 l3.length 2), .bool (spoiltAt l0 lo' hi' l3 l3.length 3), .bool (spoiltAt l0 lo' hi' l3 l3.length 4), .bool (spoiltAt l0 lo' hi' l3 l3.length 5)]
  have hb7 := fin_below2 hf0 hf5 hf7 HO.out.o0
  have hb8 : Below w.heap.size w (W7.alloc (.cells #[.bool (spoiltAt l0 lo' hi' l3 l3.length 0), .bool (spoiltAt l0 lo' hi' l3 l3.length 1), .bool (spoiltAt l0 lo' hi' l3 l3.length 2), .bool (spoiltAt l0 lo' hi' l3 l3.length 3), .bool (spoiltAt l0 lo' hi' l3 l3.length 4), .bool (spoiltAt l0 lo' hi' l3 l3.length 5)] 97)) := hb7.trans ((Below.refl _ _).alloc hb7.size _)
  have bcell : ∀ (wr : World) (n : Nat), Below (W7.alloc (.cells #[.bool (spoiltAt l0 lo' hi' l3 l3.length 0), .bool (spoiltAt l0 lo' hi' l3 l3.length 1), .bool (spoiltAt l0 lo' hi' l3 l3.length 2), .bool (spoiltAt l0 lo' hi' l3 l3.length 3), .bool (spoiltAt l0 lo' hi' l3 l3.length 4), .bool (spoiltAt l0 lo' hi' l3 l3.length 5)] 97)).heap.size (W7.alloc (.cells #[.bool (spoiltAt l0 lo' hi' l3 l3.length 0), .bool (spoiltAt l0 lo' hi' l3 l3.length 1), .bool (spoiltAt l0 lo' hi' l3 l3.length 2), .bool (spoiltAt l0 lo' hi' l3 l3.length 3), .bool (spoiltAt l0 lo' hi' l3 l3.length 4), .bool (spoiltAt l0 lo' hi' l3 l3.length 5)] 97)) wr → n < 6 → wr.cell? ⟨W7.heap.size, n, none⟩ = some (.bool (spoiltAt l0 lo' hi' l3 l3.length n)) := fun wr n hb hn => by
   have hB : Bx wr W7.heap.size 97 (boolsA (spoiltAt l0 lo' hi' l3 l3.length)) := Bx.fr0 B6 (Fr.of_below hb)
   exact hB.at_ n (boolsA_at _ n hn)
  have HBC := Lib.hid bcell
  have HB8 := Lib.hid hb8
  clear bcell hb8 hb7 B6 BB BB7 bb3 lbb heq
  generalize hW8 : W7.alloc (.cells #[.bool (spoiltAt l0 lo' hi' l3 l3.length 0), .bool (spoiltAt l0 lo' hi' l3 l3.length 1), .bool (spoiltAt l0 lo' hi' l3 l3.length 2), .bool (spoiltAt l0 lo' hi' l3 l3.length 3), .bool (spoiltAt l0 lo' hi' l3 l3.length 4), .bool (spoiltAt l0 lo' hi' l3 l3.length 5)] 97) = W8 at *
  go_loopw [8, 27] (fun v8 v27 wr => ∃ n : Nat, n ≤ l3.length ∧ v27 = .int .i64 n ∧ Kd.R (Kd.int .i64) 3 wr W8.heap.size (fun k => W8.heap.size ≤ k) v8 (spList l0 lo' hi' l3 n) ∧ Below W8.heap.size W8 wr) (fun _ v27 _ => (l3.length - intOf v27).toNat)
  case atStart => exact ⟨0, by omega, by rfl, Kd.R_nil _ _ _ _ _, Below.refl _ _⟩
  case round =>
   obtain ⟨n, hn, rfl, hR, hb⟩ := hrel
   have HR := Lib.hid hR
   have HBL := Lib.hid hb
   clear hR hb
   by_cases hlt : n < l3.length
   ·have hle : (n : Int) < l3.length := by omega
    have hn6 : (n : Int) < 6 := by omega
    have q := HBC.out wr n HBL.out (by omega)
    have HLEN := Lib.hid (spList_len l0 lo' hi' l3 n)
    have HSL := Lib.hid (show spList l0 lo' hi' l3 (n + 1) = if spoiltAt l0 lo' hi' l3 l3.length n = true then spList l0 lo' hi' l3 n ++ [(n : Int)] else spList l0 lo' hi' l3 n from rfl)
    generalize spoiltAt l0 lo' hi' l3 l3.length n = sp at q HSL
    generalize hxs : spList l0 lo' hi' l3 n = xs at HR HSL HLEN
    clear hxs
    cases sp
    ·go_wp2
     refine ⟨⟨n + 1, by omega, by go_num, ?_, HBL.out⟩, by simp [intOf]; omega⟩
     rw [HSL.out]
     exact HR.out
    ·go_wp2_with (first | ((with_reducible refine gate_builtin (b := .append) (xs := #[.tmp 33, .tmp 35]) rfl ?_); at_builtin; refine Kd.R_append (Kd.int .i64) (w0 := W8) W8.heap.size rfl (.tmp 33) (.tmp 35) 38 3 (.int .i64 0) 8 rfl Tryd.underlying38 info3 rfl (by decide) (by omega) u8 xs ((n : Int)) [.int .i64 (n : Int)] (fun k => W8.heap.size ≤ k) (fun _ => False) rfl rfl ?aP (fun _ hk => hk.elim) ?aF ?aO ?aB ?aS ?aL ?_; (case aP => exact rfl); (case aB => exact HBL.out); (case aF => exact (fun k hk => Nat.le_trans HBL.out.size hk)); (case aO => exact HR.out); (case aS => exact HBL.out.size); (case aL => have := HLEN.out; omega); intro v104 w6 ho hb hg hat))
     refine ⟨⟨n + 1, by omega, by go_num, ?_, hb⟩, by simp [intOf]; omega⟩
     rw [HSL.out]
     exact ho
   ·obtain rfl : n = l3.length := by omega
    have hle : ¬ ((l3.length : Int) < l3.length) := by omega
    have hV := Kd.R_V (base' := w.heap.size) HR.out
    obtain ⟨_, inner, ⟨hl, hcase⟩, hreps⟩ := id HR.out
    have hfin : Below w.heap.size w wr := HB8.out.trans (Below.mono HBL.out HB8.out.size)
    rcases hcase with ⟨rfl, hz0⟩ | ⟨g, cap, cur, rfl, hg1, hg2, hcap, hcap2, hcur⟩
    ·have hnil : spList l0 lo' hi' l3 l3.length = [] := List.eq_nil_of_length_eq_zero hz0
     go_wp2
     refine bodyPost_ret (v := .tuple #[.slice none 0 0, .int .i64 0]) (by simp [results, Tryd.results25, go_sem]) rfl ⟨_, by rw [HN.out], by rw [HN.out, hnil]; exact Kd.V_nil _ _ _ _ _, hfin⟩
    ·obtain ⟨hlen, hV'⟩ := V_cut hV
     have hcapi : ((spList l0 lo' hi' l3 l3.length).length : Int) ≤ cap := by omega
     have HV := Lib.hid hV'
     have HCUR := Lib.hid hg2
     clear hV hV' hg2 hcur hreps hl hlen
     generalize hxs : spList l0 lo' hi' l3 l3.length = xs at *
     have HXS := Lib.hid hxs
     clear hxs
     go_wp2
     refine bodyPost_ret (v := .tuple #[.slice (some ⟨g, 0, none⟩) xs.length xs.length, .int .i64 0]) (by simp [results, Tryd.results25, go_sem]) rfl ⟨_, by rw [HN.out], by rw [HN.out]; exact Kd.V_mono HV.out (fun k hk => Nat.le_trans HB8.out.size hk), hfin⟩
 ·go_enter Tryd.func25, Tryd.ntmps25
  have hN : spoiltF l0 lo hi l3 = ([], openV l0 lo hi l3 true) := by unfold spoiltF; rw [if_pos hz]
  have HN := Lib.hid hN
  clear hN
  go_wp2_with (first | (go_at_call 51; refine (open_any 0 (.inl rfl) A0 c0 l0 lo hi A3 c3 l3 true _ HBW.out).mono ?_; rintro e w5 ⟨tv, lo', hi', kv', o0, o1, rfl, ⟨Ax, nx, cx, rfl⟩, ⟨Ay, ny, cy, rfl⟩, hf5, hop⟩))
  refine bodyPost_ret (v := .tuple #[.slice none 0 0, .int .i64 (openV l0 lo hi l3 true)]) (by simp [results, Tryd.results25, go_sem]) rfl ⟨_, by rw [HN.out], by rw [HN.out]; exact Kd.V_nil _ _ _ _ _, ?_⟩
  exact ((hf0.trans hf5).alloc _).below (Nat.le_refl _) (fun _ _ h => h)
end Go.Proofs.YtfmpbkolpjlfbaaDoor.R
