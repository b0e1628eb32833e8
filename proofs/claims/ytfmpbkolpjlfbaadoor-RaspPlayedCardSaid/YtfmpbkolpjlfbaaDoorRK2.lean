import Derived.Test.YtfmpbkolpjlfbaaDoorG5
set_option linter.unusedVariables false
set_option linter.unusedSimpArgs false
namespace Go.Proofs.YtfmpbkolpjlfbaaDoor.RK
open Go.ChangeShapes Go.WideShapes Go.ChangeAt Go.RowKit Go.Proofs.YtfmpbkolpjlfbaaDoorW.PrintWords Go.Proofs.YtfmpbkolpjlfbaaDoor.OD Go.Proofs.YtfmpbkolpjlfbaaDoor.PRaspKeys
set_option maxRecDepth 100000 in
/-- A list of numbers, opened. -/
theorem open_ints {W : World} {base : Nat} {v : Value} {H : Type} {enc : TypeId × Value → H} {sp : Nat → Bool} {held : Bool} {d : DataW H} {ps : List MemPlace} (hval : Value.okWide Tryd.prog W .any base 38 v) (h : DataW.Trod enc Tryd.prog W 0 sp held 38 v d ps) :
    ∃ (A : Option Addr) (c : Nat) (l : List Int), v = .slice A l.length c ∧ Kd.C (Kd.int .i64) W A l.length l ∧ l.length ≤ c := by
  obtain ⟨fuel, h⟩ := h
  have hv2 := hval
  simp only [Value.okWide, Tryd.underlying38] at hv2
  obtain ⟨A, c, xs, e, hc, hC⟩ := open_slice (d := Kd.int .i64) Tryd.underlying38 c3 opn3 h
  cases v <;> simp [Value.cells] at e
  · obtain ⟨rfl, rfl, rfl⟩ := e
    exact ⟨_, _, xs, rfl, hC, hc⟩
  · simp [Cell.okWide, Cell.ok, Tryd.underlying38] at hv2
theorem c65 : Tryd.prog.cellsOf 65 = 3 := by kernel_rfl
set_option maxRecDepth 100000 in
theorem open_triple {W : World} {base : Nat} {v : Value} {H : Type} {enc : TypeId × Value → H} {sp : Nat → Bool} {held : Bool} {d : DataW H} {ps : List MemPlace} (hval : Value.okWide Tryd.prog W .any base 65 v) (h : DataW.Trod enc Tryd.prog W 0 sp held 65 v d ps) :
    ∃ a b c : Int, v = .agg #[.int .i64 a, .int .i64 b, .int .i64 c] ∧ (Lit.int .i64 a).wf = true ∧ (Lit.int .i64 b).wf = true ∧ (Lit.int .i64 c).wf = true := by
  have hv2 := hval
  simp only [Value.okWide, Tryd.underlying65] at hv2
  obtain ⟨cs, rfl, hsz, _⟩ := hv2
  obtain ⟨fuel, h⟩ := h
  obtain ⟨xs, m, _, _, hl, hn, hel⟩ := DataW.trod_array Tryd.underlying65 h
  obtain ⟨y0, h0⟩ := some_of hn (by decide) (hel 0 (by decide))
  obtain ⟨y1, h1⟩ := some_of hn (by decide) (hel 1 (by decide))
  obtain ⟨y2, h2⟩ := some_of hn (by decide) (hel 2 (by decide))
  rw [c65] at hl
  rw [c3] at h0 h1 h2
  obtain ⟨cs⟩ := cs
  simp only [Value.cells] at hl h0 h1 h2
  match cs, hl with
  | [a, b, c], _ =>
    obtain ⟨n0, e0, _, w0⟩ := DataW.trod_int Tryd.underlying3 h0
    obtain ⟨n1, e1, _, w1⟩ := DataW.trod_int Tryd.underlying3 h1
    obtain ⟨n2, e2, _, w2⟩ := DataW.trod_int Tryd.underlying3 h2
    simp at e0 e1 e2
    subst e0 e1 e2
    exact ⟨n0, n1, n2, rfl, w0, w1, w2⟩
set_option maxRecDepth 100000 in
theorem open_tool {W : World} {base : Nat} {v : Value} {H : Type} {enc : TypeId × Value → H} {sp : Nat → Bool} {held : Bool} {d : DataW H} {ps : List MemPlace} (hval : Value.okWide Tryd.prog W .any base 57 v) (h : DataW.Trod enc Tryd.prog W 0 sp held 57 v d ps) :
    ∃ a b c : Int, v = .agg #[.int .i64 a, .int .i64 b, .int .i64 c] := by
  obtain ⟨cs, rfl, hsz⟩ := okWide_struct Tryd.underlying57 hval
  obtain ⟨fuel, h⟩ := h
  obtain ⟨t, ht⟩ := opn57 _ _ _ _ _ _ _ h
  have hl := ht
  obtain ⟨xs, n, _, _, hl, hlen, hf⟩ := DataW.trod_struct Tryd.underlying57 h
  rw [c57] at hl
  obtain ⟨cs⟩ := cs
  simp only [Value.cells] at hl ht
  match cs, hl with
  | [a, b, c], _ =>
    have hs := k57_open ht
    simp at hs
    obtain ⟨rfl, rfl, rfl⟩ := hs
    exact ⟨_, _, _, rfl⟩
set_option maxRecDepth 100000 in
/-- A whole number, opened. -/
theorem open_int {W : World} {base : Nat} {v : Value} {H : Type} {enc : TypeId × Value → H} {sp : Nat → Bool} {held : Bool} {d : DataW H} {ps : List MemPlace} (hval : Value.okWide Tryd.prog W .any base 3 v) (h : DataW.Trod enc Tryd.prog W 0 sp held 3 v d ps) :
    ∃ a : Int, v = .int .i64 a ∧ (Lit.int .i64 a).wf = true := by
  obtain ⟨fuel, h⟩ := h
  have hv2 := hval
  simp only [Value.okWide, Tryd.underlying3] at hv2
  obtain ⟨n, e, _, w⟩ := DataW.trod_int Tryd.underlying3 h
  cases v <;> simp [Value.cells] at e
  · obtain ⟨rfl, rfl⟩ := e
    exact ⟨_, rfl, w⟩
  · simp [Cell.okWide, Cell.ok, Tryd.underlying3] at hv2
end Go.Proofs.YtfmpbkolpjlfbaaDoor.RK
