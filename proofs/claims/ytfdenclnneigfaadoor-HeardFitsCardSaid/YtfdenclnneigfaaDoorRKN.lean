import Derived.Test.YtfdenclnneigfaaDoorRK
import Derived.Test.YtfdenclnneigfaaDoorS30
set_option linter.unusedVariables false
set_option linter.unusedSimpArgs false
namespace Go.Proofs.YtfdenclnneigfaaDoor.RK
open Go.ChangeShapes Go.WideShapes Go.ChangeAt Go.RowKit Go.Proofs.YtfdenclnneigfaaDoorW.PrintWords Go.Proofs.YtfdenclnneigfaaDoor.OD Go.Proofs.YtfdenclnneigfaaDoor.PRaspKeys
theorem c30 : Tryd.prog.cellsOf 30 = 4 := by kernel_rfl
theorem c46 : Tryd.prog.cellsOf 46 = 1 := by kernel_rfl
set_option maxRecDepth 100000 in
theorem opn30 : Opn Tryd.prog 30 k30 := by
  intro W fuel cs H enc sp held x h
  obtain ⟨xs, n, _, _, hl, hlen, hf⟩ := DataW.trod_struct Tryd.underlying30 h
  obtain ⟨y0, h0⟩ := fld hf hlen 0 rfl c28
  obtain ⟨y1, h1⟩ := fld hf hlen 1 rfl c28
  obtain ⟨y2, h2⟩ := fld hf hlen 2 rfl c3
  obtain ⟨y3, h3⟩ := fld hf hlen 3 rfl c3
  rw [c30] at hl
  match cs, hl with
  | [a0, a1, a2, a3], _ =>
    obtain ⟨A, c, t, e0, hle, hC⟩ := open_slice (d := Kd.int .i64) Tryd.underlying28 c3 opn3 h0
    obtain ⟨B, b, u, e1, hle1, hC1⟩ := open_slice (d := Kd.int .i64) Tryd.underlying28 c3 opn3 h1
    obtain ⟨n2, e2, _⟩ := DataW.trod_int Tryd.underlying3 h2
    obtain ⟨n3, e3, _⟩ := DataW.trod_int Tryd.underlying3 h3
    simp at e0 e1 e2 e3
    subst e0 e1 e2 e3
    exact ⟨⟨t, u, n2, n3⟩, k30_mk _ ⟨t, u, n2, n3⟩ hle hC hle1 hC1⟩
set_option maxRecDepth 100000 in
/-- A note's value, opened. -/
theorem open_note {W : World} {base : Nat} {v : Value} {H : Type} {enc : TypeId × Value → H} {sp : Nat → Bool} {held : Bool} {d : DataW H} {ps : List MemPlace} (hval : Value.okWide Tryd.prog W .any base 30 v) (h : DataW.Trod enc Tryd.prog W 0 sp held 30 v d ps) :
    ∃ (A : Option Addr) (c : Nat) (t : List Int) (B : Option Addr) (b : Nat) (u : List Int) (lost wrong : Int), v = .agg #[.slice A t.length c, .slice B u.length b, .int .i64 lost, .int .i64 wrong] ∧ (Lit.int .i64 lost).wf = true ∧ (Lit.int .i64 wrong).wf = true ∧ Kd.C (Kd.int .i64) W A t.length t ∧ t.length ≤ c ∧ Kd.C (Kd.int .i64) W B u.length u ∧ u.length ≤ b := by
  obtain ⟨cs, rfl, hsz⟩ := okWide_struct Tryd.underlying30 hval
  obtain ⟨fuel, h⟩ := h
  obtain ⟨xs, n, _, _, hl, hlen, hf⟩ := DataW.trod_struct Tryd.underlying30 h
  obtain ⟨y0, h0⟩ := fld hf hlen 0 rfl c28
  obtain ⟨y1, h1⟩ := fld hf hlen 1 rfl c28
  obtain ⟨y2, h2⟩ := fld hf hlen 2 rfl c3
  obtain ⟨y3, h3⟩ := fld hf hlen 3 rfl c3
  rw [c30] at hl
  obtain ⟨cs⟩ := cs
  simp only [Value.cells] at hl h0 h1 h2 h3
  match cs, hl with
  | [a0, a1, a2, a3], _ =>
    obtain ⟨A, c, t, e0, hle, hC⟩ := open_slice (d := Kd.int .i64) Tryd.underlying28 c3 opn3 h0
    obtain ⟨B, b, u, e1, hle1, hC1⟩ := open_slice (d := Kd.int .i64) Tryd.underlying28 c3 opn3 h1
    obtain ⟨n2, e2, _, w2⟩ := DataW.trod_int Tryd.underlying3 h2
    obtain ⟨n3, e3, _, w3⟩ := DataW.trod_int Tryd.underlying3 h3
    simp at e0 e1 e2 e3
    subst e0 e1 e2 e3
    exact ⟨A, c, t, B, b, u, n2, n3, rfl, w2, w3, hC, hle, hC1, hle1⟩
set_option maxRecDepth 100000 in
/-- Notes, opened. -/
theorem open_notes {W : World} {base : Nat} {v : Value} {H : Type} {enc : TypeId × Value → H} {sp : Nat → Bool} {held : Bool} {d : DataW H} {ps : List MemPlace} (hval : Value.okWide Tryd.prog W .any base 46 v) (h : DataW.Trod enc Tryd.prog W 0 sp held 46 v d ps) :
    ∃ (A : Option Addr) (c : Nat) (l : List S30), v = .slice A l.length c ∧ Kd.C k30 W A l.length l ∧ l.length ≤ c := by
  obtain ⟨fuel, h⟩ := h
  have hv2 := hval
  simp only [Value.okWide, Tryd.underlying46] at hv2
  obtain ⟨A, c, xs, e, hc, hC⟩ := open_slice (d := k30) Tryd.underlying46 c30 opn30 h
  cases v <;> simp [Value.cells] at e
  · obtain ⟨rfl, rfl, rfl⟩ := e
    exact ⟨_, _, xs, rfl, hC, hc⟩
  · simp [Cell.okWide, Cell.ok, Tryd.underlying46] at hv2
theorem notes_len {W : World} {A : Option Addr} {l : List S30} (h : Kd.C k30 W A l.length l) : ∀ x ∈ l, x.f0.length ≤ 9223372036854775807 ∧ x.f1.length ≤ 9223372036854775807 := by
  intro r hr
  obtain ⟨j, hj, rfl⟩ := List.getElem_of_mem hr
  obtain ⟨ad, A0, c0, A1, c1, _, _, _, _, _, _, hC0, _, hC1⟩ := at_T30 h (j : Int) (by omega) (by omega)
  rw [show rd_T30 l (j : Int) = l[j] by simp [rd_T30, hj]] at hC0 hC1
  have := hC0.2.1
  have := hC1.2.1
  omega
end Go.Proofs.YtfdenclnneigfaaDoor.RK
