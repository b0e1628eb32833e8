import Derived.Test.YtephecfapclgfaaDoorOD
import Derived.Test.YtephecfapclgfaaDoorTie
set_option linter.unusedVariables false
set_option linter.unusedSimpArgs false
namespace Go.Proofs.YtephecfapclgfaaDoor.RK
open Go.ChangeShapes Go.WideShapes Go.ChangeAt Go.RowKit Go.Proofs.YtephecfapclgfaaDoorW.PrintWords Go.Proofs.YtephecfapclgfaaDoor.OD Go.Proofs.YtephecfapclgfaaDoor.PRaspKeys

theorem own : ownKnob Tryd.prog.godebug = none := by kernel_rfl
theorem laidOut : laidOutB Tryd.prog = true := by kernel_rfl
theorem gSides : Tryd.prog.globalNamed "saron/cycle.sides" = some 0 := by kernel_rfl
theorem tSides : (Tryd.prog.globals[0]?).map (·.type) = some 128 := by kernel_rfl
theorem c127 : Tryd.prog.cellsOf 127 = 1 := by kernel_rfl
theorem c128 : Tryd.prog.cellsOf 128 = 2 := by kernel_rfl
theorem c3 : Tryd.prog.cellsOf 3 = 1 := by kernel_rfl
theorem c22 : Tryd.prog.cellsOf 22 = 1 := by kernel_rfl
theorem c24 : Tryd.prog.cellsOf 24 = 2 := by kernel_rfl
theorem c25 : Tryd.prog.cellsOf 25 = 3 := by kernel_rfl
theorem c26 : Tryd.prog.cellsOf 26 = 1 := by kernel_rfl
theorem c38 : Tryd.prog.cellsOf 38 = 2 := by kernel_rfl
theorem c39 : Tryd.prog.cellsOf 39 = 1 := by kernel_rfl
theorem c41 : Tryd.prog.cellsOf 41 = 7 := by kernel_rfl
theorem c55 : Tryd.prog.cellsOf 55 = 2 := by kernel_rfl
theorem c63 : Tryd.prog.cellsOf 63 = 2 := by kernel_rfl
theorem c67 : Tryd.prog.cellsOf 67 = 4 := by kernel_rfl

/-- The door's own heap meets the condition. -/
theorem door_met (os : Os) (args : Array Value) : laidMetH Tryd.prog [("saron/cycle.sides", Rows.laid_saron_cycle_sides)] ((World.doorLaid Tryd.prog 600 os).forCall (fun _ _ => 0) ⟨#[], args, []⟩).memory :=
  laidMetH_of_parts3 (fuel := 8) (laidMet_of_run' 8 (by kernel_rfl) (by kernel_rfl)) (by kernel_rfl) (by kernel_rfl)

set_option maxRecDepth 100000 in
theorem of_laid {W : World} (h : laidMetH Tryd.prog [("saron/cycle.sides", Rows.laid_saron_cycle_sides)] W) : Glob W := by
  obtain ⟨g, t, cs, fuel, p, hg, ht, hv, hd⟩ := h.funcs (List.mem_singleton.2 rfl)
  obtain rfl := Option.some.inj (gSides.symm.trans hg)
  obtain rfl := Option.some.inj (tSides.symm.trans ht)
  have hd' : DataW.trod (funcToken Tryd.prog) Tryd.prog W 0 (fun _ => true) true fuel 128 cs.toList = some (.agg [.held [40, 115, 97, 114, 111, 110, 47, 99, 121, 99, 108, 101, 46, 116, 119, 111, 41, 46, 109, 105, 110, 101], .held [40, 115, 97, 114, 111, 110, 47, 99, 121, 99, 108, 101, 46, 116, 119, 111, 41, 46, 116, 104, 101, 105, 114, 115]], p) := hd
  obtain ⟨xs, m, _, hx, hl, hn, hel⟩ := DataW.trod_array Tryd.underlying128 hd'
  have h0 := hel 0 (by decide)
  have h1 := hel 1 (by decide)
  rw [c128] at hl
  rw [c127] at h0 h1
  have hc0 := World.var?_cell hg hv 0
  have hc1 := World.var?_cell hg hv 1
  clear hd hd' hv hel
  obtain ⟨cs⟩ := cs
  match cs, hl, xs, hn, hx, h0, h1, hc0, hc1 with
  | [a, b], _, [x0, x1], _, hx, h0, h1, hc0, hc1 =>
    obtain ⟨d0, q0⟩ := x0
    obtain ⟨d1, q1⟩ := x1
    simp only [Prod.mk.injEq, List.map_cons, List.map_nil, DataW.agg.injEq, List.cons.injEq, and_true] at hx
    obtain ⟨⟨rfl, rfl⟩, _⟩ := hx
    obtain rfl := func_of_trod (f0 := 115) Tryd.underlying127 (by kernel_rfl) (show DataW.trod _ _ _ _ _ _ _ _ [a] = some (.held [40, 115, 97, 114, 111, 110, 47, 99, 121, 99, 108, 101, 46, 116, 119, 111, 41, 46, 109, 105, 110, 101], q0) from h0)
    obtain rfl := func_of_trod (f0 := 117) Tryd.underlying127 (by kernel_rfl) (show DataW.trod _ _ _ _ _ _ _ _ [b] = some (.held [40, 115, 97, 114, 111, 110, 47, 99, 121, 99, 108, 101, 46, 116, 119, 111, 41, 46, 116, 104, 101, 105, 114, 115], q1) from h1)
    exact ⟨by simpa using hc0, by simpa using hc1⟩

theorem some_of {α : Type} {xs : List α} {n i : Nat} (hn : xs.length = n) (hi : i < n) {o : Option α} (h : o = xs[i]?) : ∃ y, o = some y := by
  subst hn
  exact ⟨_, h.trans (List.getElem?_eq_getElem hi)⟩
theorem fld {H : Type} {enc : TypeId × Value → H} {P : Program} {W : World} {sp : Nat → Bool} {held : Bool} {fs : Array Field} {cs : List Value} {xs : List (DataW H × List MemPlace)} {n : Nat}
    (hf : ∀ (i : Nat) (f : Field), fs[i]? = some f → DataW.trod enc P W 0 sp held n f.type ((cs.drop f.offset).take (P.cellsOf f.type)) = xs[i]?) (hlen : xs.length = fs.size) (i : Nat) {t o k : Nat}
    (hi : (fs[i]?).map (fun f => (f.type, f.offset)) = some (t, o)) (hc : P.cellsOf t = k) : ∃ y, DataW.trod enc P W 0 sp held n t ((cs.drop o).take k) = some y := by
  cases hfi : fs[i]? with
  | none => rw [hfi] at hi; cases hi
  | some f =>
    rw [hfi] at hi
    have e : f.type = t ∧ f.offset = o := by simpa using hi
    obtain ⟨rfl, rfl⟩ := e
    obtain ⟨y, hy⟩ := some_of hlen (by exact (Array.getElem?_eq_some_iff.1 hfi).1) (hf i f hfi)
    rw [hc] at hy
    exact ⟨y, hy⟩
theorem opn3 : Opn Tryd.prog 3 (Kd.int .i64) := opn_int Tryd.underlying3
theorem opn_slice {α : Type} {t e : TypeId} {d : Kd α} (ht : Tryd.prog.underlying t = some (.slice e)) (hc : Tryd.prog.cellsOf e = d.sz) (ho : Opn Tryd.prog e d) : Opn Tryd.prog t (Kd.slice e d) := by
  intro W fuel cs H enc sp held x h
  obtain ⟨A, c, xs, e', hle, hC⟩ := open_slice ht hc ho h
  exact ⟨xs, A, c, e', hle, hC⟩
theorem opn26 : Opn Tryd.prog 26 (Kd.slice 3 (Kd.int .i64)) := opn_slice Tryd.underlying26 c3 opn3
theorem opn39 : Opn Tryd.prog 39 (Kd.slice 26 (Kd.slice 3 (Kd.int .i64))) := opn_slice Tryd.underlying39 c26 opn26
set_option maxRecDepth 100000 in
theorem opn38 : Opn Tryd.prog 38 k38 := by
  intro W fuel cs H enc sp held x h
  obtain ⟨xs, n, _, _, hl, hlen, hf⟩ := DataW.trod_struct Tryd.underlying38 h
  obtain ⟨y0, h0⟩ := fld hf hlen 0 rfl c3
  obtain ⟨y1, h1⟩ := fld hf hlen 1 rfl c3
  rw [c38] at hl
  match cs, hl with
  | [a, b], _ =>
    obtain ⟨n0, e0, _⟩ := DataW.trod_int Tryd.underlying3 h0
    obtain ⟨n1, e1, _⟩ := DataW.trod_int Tryd.underlying3 h1
    simp at e0 e1
    subst e0 e1
    exact ⟨⟨n0, n1⟩, k38_mk _ _⟩
set_option maxRecDepth 100000 in
theorem opn63 : Opn Tryd.prog 63 k63 := by
  intro W fuel cs H enc sp held x h
  obtain ⟨xs, n, _, _, hl, hlen, hf⟩ := DataW.trod_struct Tryd.underlying63 h
  obtain ⟨y0, h0⟩ := fld hf hlen 0 rfl c3
  obtain ⟨y1, h1⟩ := fld hf hlen 1 rfl c39
  rw [c63] at hl
  match cs, hl with
  | [a, b], _ =>
    obtain ⟨n0, e0, _⟩ := DataW.trod_int Tryd.underlying3 h0
    obtain ⟨A, c, rows, e1, hle, hC⟩ := open_slice (d := Kd.slice 3 (Kd.int .i64)) Tryd.underlying39 c26 opn26 h1
    simp at e0 e1
    subst e0 e1
    exact ⟨⟨n0, rows⟩, k63_mk _ ⟨n0, rows⟩ hle hC⟩
set_option maxRecDepth 100000 in
/-- A book's value, opened. -/
theorem open_book {W : World} {base : Nat} {v : Value} {H : Type} {enc : TypeId × Value → H} {sp : Nat → Bool} {held : Bool} {d : DataW H} {ps : List MemPlace} (hval : Value.okWide Tryd.prog W .any base 24 v) (h : DataW.Trod enc Tryd.prog W 0 sp held 24 v d ps) :
    ∃ (g : Int) (A : Option Addr) (c : Nat) (l : List S63), v = .agg #[.int .i64 g, .slice A l.length c] ∧ (Lit.int .i64 g).wf = true ∧ Kd.C k63 W A l.length l ∧ l.length ≤ c := by
  obtain ⟨cs, rfl, hsz⟩ := okWide_struct Tryd.underlying24 hval
  obtain ⟨fuel, h⟩ := h
  obtain ⟨xs, n, _, _, hl, hlen, hf⟩ := DataW.trod_struct Tryd.underlying24 h
  obtain ⟨y0, h0⟩ := fld hf hlen 0 rfl c3
  obtain ⟨y1, h1⟩ := fld hf hlen 1 rfl c22
  rw [c24] at hl
  obtain ⟨cs⟩ := cs
  simp only [Value.cells] at hl h0 h1
  match cs, hl with
  | [a, b], _ =>
    obtain ⟨n0, e0, _, w0⟩ := DataW.trod_int Tryd.underlying3 h0
    obtain ⟨A, c, l, e1, hle, hC⟩ := open_slice (d := k63) Tryd.underlying22 c63 opn63 h1
    simp at e0 e1
    subst e0 e1
    exact ⟨n0, A, c, l, rfl, w0, hC, hle⟩
set_option maxRecDepth 100000 in
theorem open_pair {W : World} {base : Nat} {v : Value} {H : Type} {enc : TypeId × Value → H} {sp : Nat → Bool} {held : Bool} {d : DataW H} {ps : List MemPlace} (hval : Value.okWide Tryd.prog W .any base 55 v) (h : DataW.Trod enc Tryd.prog W 0 sp held 55 v d ps) :
    ∃ a b : Int, v = .agg #[.int .i64 a, .int .i64 b] ∧ (Lit.int .i64 a).wf = true ∧ (Lit.int .i64 b).wf = true := by
  have hv2 := hval
  simp only [Value.okWide, Tryd.underlying55] at hv2
  obtain ⟨cs, rfl, hsz, _⟩ := hv2
  obtain ⟨fuel, h⟩ := h
  obtain ⟨xs, m, _, _, hl, hn, hel⟩ := DataW.trod_array Tryd.underlying55 h
  obtain ⟨y0, h0⟩ := some_of hn (by decide) (hel 0 (by decide))
  obtain ⟨y1, h1⟩ := some_of hn (by decide) (hel 1 (by decide))
  rw [c55] at hl
  rw [c3] at h0 h1
  obtain ⟨cs⟩ := cs
  simp only [Value.cells] at hl h0 h1
  match cs, hl with
  | [a, b], _ =>
    obtain ⟨n0, e0, _, w0⟩ := DataW.trod_int Tryd.underlying3 h0
    obtain ⟨n1, e1, _, w1⟩ := DataW.trod_int Tryd.underlying3 h1
    simp at e0 e1
    subst e0 e1
    exact ⟨n0, n1, rfl, w0, w1⟩
set_option maxRecDepth 100000 in
theorem open_three {W : World} {base : Nat} {v : Value} {H : Type} {enc : TypeId × Value → H} {sp : Nat → Bool} {held : Bool} {d : DataW H} {ps : List MemPlace} (hval : Value.okWide Tryd.prog W .any base 25 v) (h : DataW.Trod enc Tryd.prog W 0 sp held 25 v d ps) :
    ∃ a b c : Int, v = .agg #[.int .i64 a, .int .i64 b, .int .i64 c] ∧ (Lit.int .i64 a).wf = true ∧ (Lit.int .i64 b).wf = true ∧ (Lit.int .i64 c).wf = true := by
  have hv2 := hval
  simp only [Value.okWide, Tryd.underlying25] at hv2
  obtain ⟨cs, rfl, hsz, _⟩ := hv2
  obtain ⟨fuel, h⟩ := h
  obtain ⟨xs, m, _, _, hl, hn, hel⟩ := DataW.trod_array Tryd.underlying25 h
  obtain ⟨y0, h0⟩ := some_of hn (by decide) (hel 0 (by decide))
  obtain ⟨y1, h1⟩ := some_of hn (by decide) (hel 1 (by decide))
  obtain ⟨y2, h2⟩ := some_of hn (by decide) (hel 2 (by decide))
  rw [c25] at hl
  rw [c3] at h0 h1 h2
  obtain ⟨cs⟩ := cs
  simp only [Value.cells] at hl h0 h1 h2
  match cs, hl with
  | [a, b, c], _ =>
    obtain ⟨n0, e0, _, w0⟩ := DataW.trod_int Tryd.underlying3 h0
    obtain ⟨n1, e1, _, w1⟩ := DataW.trod_int Tryd.underlying3 h1
    obtain ⟨n2, e2, _, w2⟩ := DataW.trod_int Tryd.underlying3 h2
    simp at e0 e1 e2
    subst e0 e1 e2
    exact ⟨n0, n1, n2, rfl, w0, w1, w2⟩
set_option maxRecDepth 100000 in
theorem open_four {W : World} {base : Nat} {v : Value} {H : Type} {enc : TypeId × Value → H} {sp : Nat → Bool} {held : Bool} {d : DataW H} {ps : List MemPlace} (hval : Value.okWide Tryd.prog W .any base 67 v) (h : DataW.Trod enc Tryd.prog W 0 sp held 67 v d ps) :
    ∃ a b c e : Int, v = .agg #[.int .i64 a, .int .i64 b, .int .i64 c, .int .i64 e] ∧ (Lit.int .i64 a).wf = true ∧ (Lit.int .i64 b).wf = true ∧ (Lit.int .i64 c).wf = true ∧ (Lit.int .i64 e).wf = true := by
  have hv2 := hval
  simp only [Value.okWide, Tryd.underlying67] at hv2
  obtain ⟨cs, rfl, hsz, _⟩ := hv2
  obtain ⟨fuel, h⟩ := h
  obtain ⟨xs, m, _, _, hl, hn, hel⟩ := DataW.trod_array Tryd.underlying67 h
  obtain ⟨y0, h0⟩ := some_of hn (by decide) (hel 0 (by decide))
  obtain ⟨y1, h1⟩ := some_of hn (by decide) (hel 1 (by decide))
  obtain ⟨y2, h2⟩ := some_of hn (by decide) (hel 2 (by decide))
  obtain ⟨y3, h3⟩ := some_of hn (by decide) (hel 3 (by decide))
  rw [c67] at hl
  rw [c3] at h0 h1 h2 h3
  obtain ⟨cs⟩ := cs
  simp only [Value.cells] at hl h0 h1 h2 h3
  match cs, hl with
  | [a, b, c, e], _ =>
    obtain ⟨n0, e0, _, w0⟩ := DataW.trod_int Tryd.underlying3 h0
    obtain ⟨n1, e1, _, w1⟩ := DataW.trod_int Tryd.underlying3 h1
    obtain ⟨n2, e2, _, w2⟩ := DataW.trod_int Tryd.underlying3 h2
    obtain ⟨n3, e3, _, w3⟩ := DataW.trod_int Tryd.underlying3 h3
    simp at e0 e1 e2 e3
    subst e0 e1 e2 e3
    exact ⟨n0, n1, n2, n3, rfl, w0, w1, w2, w3⟩
set_option maxRecDepth 100000 in
/-- A list of numbers, opened. -/
theorem open_ints {W : World} {base : Nat} {v : Value} {H : Type} {enc : TypeId × Value → H} {sp : Nat → Bool} {held : Bool} {d : DataW H} {ps : List MemPlace} (hval : Value.okWide Tryd.prog W .any base 26 v) (h : DataW.Trod enc Tryd.prog W 0 sp held 26 v d ps) :
    ∃ (A : Option Addr) (c : Nat) (l : List Int), v = .slice A l.length c ∧ Kd.C (Kd.int .i64) W A l.length l ∧ l.length ≤ c := by
  obtain ⟨fuel, h⟩ := h
  have hv2 := hval
  simp only [Value.okWide, Tryd.underlying26] at hv2
  obtain ⟨A, c, xs, e, hc, hC⟩ := open_slice (d := Kd.int .i64) Tryd.underlying26 c3 opn3 h
  cases v <;> simp [Value.cells] at e
  · obtain ⟨rfl, rfl, rfl⟩ := e
    exact ⟨_, _, xs, rfl, hC, hc⟩
  · simp [Cell.okWide, Cell.ok, Tryd.underlying26] at hv2
set_option maxRecDepth 100000 in
/-- A list of lists, opened. -/
theorem open_rows {W : World} {base : Nat} {v : Value} {H : Type} {enc : TypeId × Value → H} {sp : Nat → Bool} {held : Bool} {d : DataW H} {ps : List MemPlace} (hval : Value.okWide Tryd.prog W .any base 39 v) (h : DataW.Trod enc Tryd.prog W 0 sp held 39 v d ps) :
    ∃ (A : Option Addr) (c : Nat) (l : List (List Int)), v = .slice A l.length c ∧ Kd.C (Kd.slice 3 (Kd.int .i64)) W A l.length l ∧ l.length ≤ c := by
  obtain ⟨fuel, h⟩ := h
  have hv2 := hval
  simp only [Value.okWide, Tryd.underlying39] at hv2
  obtain ⟨A, c, xs, e, hc, hC⟩ := open_slice (d := Kd.slice 3 (Kd.int .i64)) Tryd.underlying39 c26 opn26 h
  cases v <;> simp [Value.cells] at e
  · obtain ⟨rfl, rfl, rfl⟩ := e
    exact ⟨_, _, xs, rfl, hC, hc⟩
  · simp [Cell.okWide, Cell.ok, Tryd.underlying39] at hv2
set_option maxRecDepth 100000 in
/-- What was heard, with all that is asked, opened. -/
theorem open_heard {W : World} {base : Nat} {v : Value} {H : Type} {enc : TypeId × Value → H} {sp : Nat → Bool} {held : Bool} {d : DataW H} {ps : List MemPlace} (hval : Value.okWide Tryd.prog W .any base 41 v) (h : DataW.Trod enc Tryd.prog W 0 sp held 41 v d ps) :
    ∃ (g : Int) (A : Option Addr) (c : Nat) (l : List S63) (s0 s1 many : Int) (A2 : Option Addr) (c2 : Nat) (l2 : List (List Int)) (lost : Int), v = .agg #[.int .i64 g, .slice A l.length c, .int .i64 s0, .int .i64 s1, .int .i64 many, .slice A2 l2.length c2, .int .i64 lost] ∧
      (Lit.int .i64 g).wf = true ∧ Kd.C k63 W A l.length l ∧ l.length ≤ c ∧ (Lit.int .i64 s0).wf = true ∧ (Lit.int .i64 s1).wf = true ∧ (Lit.int .i64 many).wf = true ∧ Kd.C (Kd.slice 3 (Kd.int .i64)) W A2 l2.length l2 ∧ l2.length ≤ c2 ∧ (Lit.int .i64 lost).wf = true := by
  obtain ⟨cs, rfl, hsz⟩ := okWide_struct Tryd.underlying41 hval
  obtain ⟨fuel, h⟩ := h
  obtain ⟨xs, n, _, _, hl, hlen, hf⟩ := DataW.trod_struct Tryd.underlying41 h
  obtain ⟨y0, h0⟩ := fld hf hlen 0 rfl c24
  obtain ⟨y1, h1⟩ := fld hf hlen 1 rfl c38
  obtain ⟨y2, h2⟩ := fld hf hlen 2 rfl c3
  obtain ⟨y3, h3⟩ := fld hf hlen 3 rfl c39
  obtain ⟨y4, h4⟩ := fld hf hlen 4 rfl c3
  rw [c41] at hl
  obtain ⟨cs⟩ := cs
  simp only [Value.cells] at hl h0 h1 h2 h3 h4
  match cs, hl with
  | [a0, a1, a2, a3, a4, a5, a6], _ =>
    obtain ⟨xs0, n0, _, _, hl0, hlen0, hf0⟩ := DataW.trod_struct Tryd.underlying24 h0
    obtain ⟨z0, k0⟩ := fld hf0 hlen0 0 rfl c3
    obtain ⟨z1, k1⟩ := fld hf0 hlen0 1 rfl c22
    obtain ⟨xs1, n1, _, _, hl1, hlen1, hf1⟩ := DataW.trod_struct Tryd.underlying38 h1
    obtain ⟨u0, j0⟩ := fld hf1 hlen1 0 rfl c3
    obtain ⟨u1, j1⟩ := fld hf1 hlen1 1 rfl c3
    obtain ⟨g, e0, _, w0⟩ := DataW.trod_int Tryd.underlying3 k0
    obtain ⟨A, c, l, e1, hle, hC⟩ := open_slice (d := k63) Tryd.underlying22 c63 opn63 k1
    obtain ⟨s0, e2, _, w2⟩ := DataW.trod_int Tryd.underlying3 j0
    obtain ⟨s1, e3, _, w3⟩ := DataW.trod_int Tryd.underlying3 j1
    obtain ⟨many, e4, _, w4⟩ := DataW.trod_int Tryd.underlying3 h2
    obtain ⟨A2, c2, l2, e5, hle2, hC2⟩ := open_slice (d := Kd.slice 3 (Kd.int .i64)) Tryd.underlying39 c26 opn26 h3
    obtain ⟨lost, e6, _, w6⟩ := DataW.trod_int Tryd.underlying3 h4
    simp at e0 e1 e2 e3 e4 e5 e6
    subst e0 e1 e2 e3 e4 e5 e6
    exact ⟨g, A, c, l, s0, s1, many, A2, c2, l2, lost, rfl, w0, hC, hle, w2, w3, w4, hC2, hle2, w6⟩
theorem rows_len {W : World} {A : Option Addr} {l : List (List Int)} (h : Kd.C (Kd.slice 3 (Kd.int .i64)) W A l.length l) : ∀ r ∈ l, r.length ≤ 9223372036854775807 := by
  intro r hr
  obtain ⟨j, hj, rfl⟩ := List.getElem_of_mem hr
  obtain ⟨ad2, A2, c2, _, _, _, hC2⟩ := at_L1 h (j : Int) (by omega) (by omega)
  rw [show rd_L1 l (j : Int) = l[j] by simp [rd_L1, hj]] at hC2
  have := hC2.2.1
  omega
end Go.Proofs.YtephecfapclgfaaDoor.RK
