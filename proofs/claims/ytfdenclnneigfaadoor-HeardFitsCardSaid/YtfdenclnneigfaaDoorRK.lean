import Derived.Test.YtfdenclnneigfaaDoorOD
import Derived.Test.YtfdenclnneigfaaDoorTie
set_option linter.unusedVariables false
set_option linter.unusedSimpArgs false
namespace Go.Proofs.YtfdenclnneigfaaDoor.RK
open Go.ChangeShapes Go.WideShapes Go.ChangeAt Go.RowKit Go.Proofs.YtfdenclnneigfaaDoorW.PrintWords Go.Proofs.YtfdenclnneigfaaDoor.OD Go.Proofs.YtfdenclnneigfaaDoor.PRaspKeys

theorem own : ownKnob Tryd.prog.godebug = none := by kernel_rfl
theorem laidOut : laidOutB Tryd.prog = true := by kernel_rfl
theorem gOffs : Tryd.prog.globalNamed "saron/heard.offs" = some 0 := by kernel_rfl
theorem tOffs : (Tryd.prog.globals[0]?).map (·.type) = some 133 := by kernel_rfl
theorem c132 : Tryd.prog.cellsOf 132 = 1 := by kernel_rfl
theorem c133 : Tryd.prog.cellsOf 133 = 2 := by kernel_rfl
theorem c3 : Tryd.prog.cellsOf 3 = 1 := by kernel_rfl
theorem c22 : Tryd.prog.cellsOf 22 = 1 := by kernel_rfl
theorem c24 : Tryd.prog.cellsOf 24 = 2 := by kernel_rfl
theorem c25 : Tryd.prog.cellsOf 25 = 1 := by kernel_rfl
theorem c27 : Tryd.prog.cellsOf 27 = 3 := by kernel_rfl
theorem c28 : Tryd.prog.cellsOf 28 = 1 := by kernel_rfl
theorem c43 : Tryd.prog.cellsOf 43 = 2 := by kernel_rfl
theorem c49 : Tryd.prog.cellsOf 49 = 3 := by kernel_rfl
theorem c62 : Tryd.prog.cellsOf 62 = 2 := by kernel_rfl
theorem c112 : Tryd.prog.cellsOf 112 = 1 := by kernel_rfl
theorem c114 : Tryd.prog.cellsOf 114 = 2 := by kernel_rfl

/-- The door's own heap meets the condition. -/
theorem door_met (os : Os) (args : Array Value) : laidMetH Tryd.prog [("saron/heard.offs", Rows.laid_saron_heard_offs)] ((World.doorLaid Tryd.prog 600 os).forCall (fun _ _ => 0) ⟨#[], args, []⟩).memory :=
  laidMetH_of_parts3 (fuel := 8) (laidMet_of_run' 8 (by kernel_rfl) (by kernel_rfl)) (by kernel_rfl) (by kernel_rfl)

set_option maxRecDepth 100000 in
theorem of_laid {W : World} (h : laidMetH Tryd.prog [("saron/heard.offs", Rows.laid_saron_heard_offs)] W) : Glob W := by
  obtain ⟨g, t, cs, fuel, p, hg, ht, hv, hd⟩ := h.funcs (List.mem_singleton.2 rfl)
  obtain rfl := Option.some.inj (gOffs.symm.trans hg)
  obtain rfl := Option.some.inj (tOffs.symm.trans ht)
  have hd' : DataW.trod (funcToken Tryd.prog) Tryd.prog W 0 (fun _ => true) true fuel 133 cs.toList = some (.agg [.held [40, 115, 97, 114, 111, 110, 47, 104, 101, 97, 114, 100, 46, 98, 111, 111, 107, 41, 46, 114, 105, 103, 104, 116], .held [40, 115, 97, 114, 111, 110, 47, 104, 101, 97, 114, 100, 46, 98, 111, 111, 107, 41, 46, 119, 114, 111, 110, 103]], p) := hd
  obtain ⟨xs, m, _, hx, hl, hn, hel⟩ := DataW.trod_array Tryd.underlying133 hd'
  have h0 := hel 0 (by decide)
  have h1 := hel 1 (by decide)
  rw [c133] at hl
  rw [c132] at h0 h1
  have hc0 := World.var?_cell hg hv 0
  have hc1 := World.var?_cell hg hv 1
  clear hd hd' hv hel
  obtain ⟨cs⟩ := cs
  match cs, hl, xs, hn, hx, h0, h1, hc0, hc1 with
  | [a, b], _, [x0, x1], _, hx, h0, h1, hc0, hc1 =>
    obtain ⟨d0, q0⟩ := x0
    obtain ⟨d1, q1⟩ := x1
    simp only [Prod.mk.injEq, List.map_cons, List.map_nil, DataW.agg.injEq, List.cons.injEq, and_true] at hx
    obtain ⟨⟨rfl, rfl⟩, _⟩ := hx
    obtain rfl := func_of_trod (f0 := 127) Tryd.underlying132 (by kernel_rfl) (show DataW.trod _ _ _ _ _ _ _ _ [a] = some (.held [40, 115, 97, 114, 111, 110, 47, 104, 101, 97, 114, 100, 46, 98, 111, 111, 107, 41, 46, 114, 105, 103, 104, 116], q0) from h0)
    obtain rfl := func_of_trod (f0 := 128) Tryd.underlying132 (by kernel_rfl) (show DataW.trod _ _ _ _ _ _ _ _ [b] = some (.held [40, 115, 97, 114, 111, 110, 47, 104, 101, 97, 114, 100, 46, 98, 111, 111, 107, 41, 46, 119, 114, 111, 110, 103], q1) from h1)
    exact ⟨by simpa using hc0, by simpa using hc1⟩

theorem some_of {α : Type} {xs : List α} {n i : Nat} (hn : xs.length = n) (hi : i < n) {o : Option α} (h : o = xs[i]?) : ∃ y, o = some y := by
  subst hn
  exact ⟨_, h.trans (List.getElem?_eq_getElem hi)⟩
theorem fld {H : Type} {enc : TypeId × Value → H} {P : Program} {W : World} {sp : Nat → Bool} {held : Bool} {fs : Array Field} {cs : List Value} {xs : List (DataW H × List MemPlace)} {n : Nat}
    (hf : ∀ (i : Nat) (f : Field), fs[i]? = some f → DataW.trod enc P W 0 sp held n f.type ((cs.drop f.offset).take (P.cellsOf f.type)) = xs[i]?) (hlen : xs.length = fs.size) (i : Nat) {t o k : Nat}
    (hi : (fs[i]?).map (fun f => (f.type, f.offset)) = some (t, o)) (hc : P.cellsOf t = k) : ∃ y, DataW.trod enc P W 0 sp held n t ((cs.drop o).take k) = some y := by
  cases hfi : fs[i]? with
  | none => rw [hfi] at hi; cases hi
  | some f =>
    rw [hfi] at hi
    have e : f.type = t ∧ f.offset = o := by simpa using hi
    obtain ⟨rfl, rfl⟩ := e
    obtain ⟨y, hy⟩ := some_of hlen (by exact (Array.getElem?_eq_some_iff.1 hfi).1) (hf i f hfi)
    rw [hc] at hy
    exact ⟨y, hy⟩
theorem opn3 : Opn Tryd.prog 3 (Kd.int .i64) := opn_int Tryd.underlying3
theorem opn_slice {α : Type} {t e : TypeId} {d : Kd α} (ht : Tryd.prog.underlying t = some (.slice e)) (hc : Tryd.prog.cellsOf e = d.sz) (ho : Opn Tryd.prog e d) : Opn Tryd.prog t (Kd.slice e d) := by
  intro W fuel cs H enc sp held x h
  obtain ⟨A, c, xs, e', hle, hC⟩ := open_slice ht hc ho h
  exact ⟨xs, A, c, e', hle, hC⟩
theorem opn28 : Opn Tryd.prog 28 (Kd.slice 3 (Kd.int .i64)) := opn_slice Tryd.underlying28 c3 opn3
set_option maxRecDepth 100000 in
theorem opn114 : Opn Tryd.prog 114 k114 := by
  intro W fuel cs H enc sp held x h
  obtain ⟨xs, n, _, _, hl, hlen, hf⟩ := DataW.trod_struct Tryd.underlying114 h
  obtain ⟨y0, h0⟩ := fld hf hlen 0 rfl c3
  obtain ⟨y1, h1⟩ := fld hf hlen 1 rfl c112
  rw [c114] at hl
  match cs, hl with
  | [a, b], _ =>
    obtain ⟨n0, e0, _⟩ := DataW.trod_int Tryd.underlying3 h0
    obtain ⟨A, c, rows, e1, hle, hC⟩ := open_slice (d := Kd.slice 3 (Kd.int .i64)) Tryd.underlying112 c28 opn28 h1
    simp at e0 e1
    subst e0 e1
    exact ⟨⟨n0, rows⟩, k114_mk _ ⟨n0, rows⟩ hle hC⟩
set_option maxRecDepth 100000 in
theorem opn62 : Opn Tryd.prog 62 k62 := by
  intro W fuel cs H enc sp held x h
  obtain ⟨xs, n, _, _, hl, hlen, hf⟩ := DataW.trod_struct Tryd.underlying62 h
  obtain ⟨y0, h0⟩ := fld hf hlen 0 rfl c3
  obtain ⟨y1, h1⟩ := fld hf hlen 1 rfl c28
  rw [c62] at hl
  match cs, hl with
  | [a, b], _ =>
    obtain ⟨n0, e0, _⟩ := DataW.trod_int Tryd.underlying3 h0
    obtain ⟨A, c, rows, e1, hle, hC⟩ := open_slice (d := Kd.int .i64) Tryd.underlying28 c3 opn3 h1
    simp at e0 e1
    subst e0 e1
    exact ⟨⟨n0, rows⟩, k62_mk _ ⟨n0, rows⟩ hle hC⟩
set_option maxRecDepth 100000 in
/-- A book's value, opened. -/
theorem open_book {W : World} {base : Nat} {v : Value} {H : Type} {enc : TypeId × Value → H} {sp : Nat → Bool} {held : Bool} {d : DataW H} {ps : List MemPlace} (hval : Value.okWide Tryd.prog W .any base 27 v) (h : DataW.Trod enc Tryd.prog W 0 sp held 27 v d ps) :
    ∃ (g : Int) (A : Option Addr) (c : Nat) (l : List S114) (A2 : Option Addr) (c2 : Nat) (l2 : List S62), v = .agg #[.int .i64 g, .slice A l.length c, .slice A2 l2.length c2] ∧ (Lit.int .i64 g).wf = true ∧ Kd.C k114 W A l.length l ∧ l.length ≤ c ∧ Kd.C k62 W A2 l2.length l2 ∧ l2.length ≤ c2 := by
  obtain ⟨cs, rfl, hsz⟩ := okWide_struct Tryd.underlying27 hval
  obtain ⟨fuel, h⟩ := h
  obtain ⟨xs, n, _, _, hl, hlen, hf⟩ := DataW.trod_struct Tryd.underlying27 h
  obtain ⟨y0, h0⟩ := fld hf hlen 0 rfl c24
  obtain ⟨y1, h1⟩ := fld hf hlen 1 rfl c25
  rw [c27] at hl
  obtain ⟨cs⟩ := cs
  simp only [Value.cells] at hl h0 h1
  match cs, hl with
  | [a0, a1, a2], _ =>
    obtain ⟨xs0, n0, _, _, hl0, hlen0, hf0⟩ := DataW.trod_struct Tryd.underlying24 h0
    obtain ⟨z0, k0⟩ := fld hf0 hlen0 0 rfl c3
    obtain ⟨z1, k1⟩ := fld hf0 hlen0 1 rfl c22
    obtain ⟨g, e0, _, w0⟩ := DataW.trod_int Tryd.underlying3 k0
    obtain ⟨A, c, l, e1, hle, hC⟩ := open_slice (d := k114) Tryd.underlying22 c114 opn114 k1
    obtain ⟨A2, c2, l2, e2, hle2, hC2⟩ := open_slice (d := k62) Tryd.underlying25 c62 opn62 h1
    simp at e0 e1 e2
    subst e0 e1 e2
    exact ⟨g, A, c, l, A2, c2, l2, rfl, w0, hC, hle, hC2, hle2⟩
set_option maxRecDepth 100000 in
theorem open_pair {W : World} {base : Nat} {v : Value} {H : Type} {enc : TypeId × Value → H} {sp : Nat → Bool} {held : Bool} {d : DataW H} {ps : List MemPlace} (hval : Value.okWide Tryd.prog W .any base 43 v) (h : DataW.Trod enc Tryd.prog W 0 sp held 43 v d ps) :
    ∃ a b : Int, v = .agg #[.int .i64 a, .int .i64 b] ∧ (Lit.int .i64 a).wf = true ∧ (Lit.int .i64 b).wf = true := by
  have hv2 := hval
  simp only [Value.okWide, Tryd.underlying43] at hv2
  obtain ⟨cs, rfl, hsz, _⟩ := hv2
  obtain ⟨fuel, h⟩ := h
  obtain ⟨xs, m, _, _, hl, hn, hel⟩ := DataW.trod_array Tryd.underlying43 h
  obtain ⟨y0, h0⟩ := some_of hn (by decide) (hel 0 (by decide))
  obtain ⟨y1, h1⟩ := some_of hn (by decide) (hel 1 (by decide))
  rw [c43] at hl
  rw [c3] at h0 h1
  obtain ⟨cs⟩ := cs
  simp only [Value.cells] at hl h0 h1
  match cs, hl with
  | [a, b], _ =>
    obtain ⟨n0, e0, _, w0⟩ := DataW.trod_int Tryd.underlying3 h0
    obtain ⟨n1, e1, _, w1⟩ := DataW.trod_int Tryd.underlying3 h1
    simp at e0 e1
    subst e0 e1
    exact ⟨n0, n1, rfl, w0, w1⟩
set_option maxRecDepth 100000 in
theorem open_three {W : World} {base : Nat} {v : Value} {H : Type} {enc : TypeId × Value → H} {sp : Nat → Bool} {held : Bool} {d : DataW H} {ps : List MemPlace} (hval : Value.okWide Tryd.prog W .any base 49 v) (h : DataW.Trod enc Tryd.prog W 0 sp held 49 v d ps) :
    ∃ a b c : Int, v = .agg #[.int .i64 a, .int .i64 b, .int .i64 c] ∧ (Lit.int .i64 a).wf = true ∧ (Lit.int .i64 b).wf = true ∧ (Lit.int .i64 c).wf = true := by
  have hv2 := hval
  simp only [Value.okWide, Tryd.underlying49] at hv2
  obtain ⟨cs, rfl, hsz, _⟩ := hv2
  obtain ⟨fuel, h⟩ := h
  obtain ⟨xs, m, _, _, hl, hn, hel⟩ := DataW.trod_array Tryd.underlying49 h
  obtain ⟨y0, h0⟩ := some_of hn (by decide) (hel 0 (by decide))
  obtain ⟨y1, h1⟩ := some_of hn (by decide) (hel 1 (by decide))
  obtain ⟨y2, h2⟩ := some_of hn (by decide) (hel 2 (by decide))
  rw [c49] at hl
  rw [c3] at h0 h1 h2
  obtain ⟨cs⟩ := cs
  simp only [Value.cells] at hl h0 h1 h2
  match cs, hl with
  | [a, b, c], _ =>
    obtain ⟨n0, e0, _, w0⟩ := DataW.trod_int Tryd.underlying3 h0
    obtain ⟨n1, e1, _, w1⟩ := DataW.trod_int Tryd.underlying3 h1
    obtain ⟨n2, e2, _, w2⟩ := DataW.trod_int Tryd.underlying3 h2
    simp at e0 e1 e2
    subst e0 e1 e2
    exact ⟨n0, n1, n2, rfl, w0, w1, w2⟩
set_option maxRecDepth 100000 in
/-- A list of numbers, opened. -/
theorem open_ints {W : World} {base : Nat} {v : Value} {H : Type} {enc : TypeId × Value → H} {sp : Nat → Bool} {held : Bool} {d : DataW H} {ps : List MemPlace} (hval : Value.okWide Tryd.prog W .any base 28 v) (h : DataW.Trod enc Tryd.prog W 0 sp held 28 v d ps) :
    ∃ (A : Option Addr) (c : Nat) (l : List Int), v = .slice A l.length c ∧ Kd.C (Kd.int .i64) W A l.length l ∧ l.length ≤ c := by
  obtain ⟨fuel, h⟩ := h
  have hv2 := hval
  simp only [Value.okWide, Tryd.underlying28] at hv2
  obtain ⟨A, c, xs, e, hc, hC⟩ := open_slice (d := Kd.int .i64) Tryd.underlying28 c3 opn3 h
  cases v <;> simp [Value.cells] at e
  · obtain ⟨rfl, rfl, rfl⟩ := e
    exact ⟨_, _, xs, rfl, hC, hc⟩
  · simp [Cell.okWide, Cell.ok, Tryd.underlying28] at hv2
set_option maxRecDepth 100000 in
theorem open_int {W : World} {base : Nat} {v : Value} {H : Type} {enc : TypeId × Value → H} {sp : Nat → Bool} {held : Bool} {d : DataW H} {ps : List MemPlace} (hval : Value.okWide Tryd.prog W .any base 3 v) (h : DataW.Trod enc Tryd.prog W 0 sp held 3 v d ps) :
    ∃ a : Int, v = .int .i64 a ∧ (Lit.int .i64 a).wf = true := by
  obtain ⟨fuel, h⟩ := h
  have hv2 := hval
  simp only [Value.okWide, Tryd.underlying3] at hv2
  obtain ⟨n, e, _, w⟩ := DataW.trod_int Tryd.underlying3 h
  cases v <;> simp [Value.cells] at e
  · obtain ⟨rfl, rfl⟩ := e
    exact ⟨_, rfl, w⟩
  · simp [Cell.okWide, Cell.ok, Tryd.underlying3] at hv2
theorem C62_len {W : World} {A : Option Addr} {l : List S62} (h : Kd.C k62 W A l.length l) : ∀ f ∈ l, f.f1.length ≤ 9223372036854775807 := by
  intro r hr
  obtain ⟨j, hj, rfl⟩ := List.getElem_of_mem hr
  obtain ⟨ad2, A2, c2, _, _, _, _, hC2⟩ := at_T62 h (j : Int) (by omega) (by omega)
  rw [Go.Proofs.YtfdenclnneigfaaDoor.R.rdT62 l j hj] at hC2
  have := hC2.2.1
  omega
end Go.Proofs.YtfdenclnneigfaaDoor.RK
