import Derived.Test.YtfdenclnneigfaaDoorGF
import Derived.ProofKit
import Derived.LaidMore
import Derived.OpenShut
import Derived.Carry
import Derived.Stop.Joined
set_option linter.unusedVariables false
set_option linter.unusedSimpArgs false
namespace Go.Proofs.YtfdenclnneigfaaDoor.OD
open Go.RowKit Go.Proofs.YtfdenclnneigfaaDoorW.PrintWords

/-- Whatever a type's datum is read off is told by the kind d. -/
def Opn {α : Type} (P : Program) (t : TypeId) (d : Kd α) : Prop :=
  ∀ (W : World) (fuel : Nat) (cs : List Value) {H : Type} (enc : TypeId × Value → H) (sp : Nat → Bool) (held : Bool) (x : DataW H × List MemPlace), DataW.trod enc P W 0 sp held fuel t cs = some x → ∃ a : α, d.K W a cs

theorem opn_int {P : Program} {t : TypeId} {k : IntKind} (ht : P.underlying t = some (.int k)) : Opn P t (Kd.int k) := by
  intro W fuel cs H enc sp held x h
  obtain ⟨n, rfl, _, _⟩ := DataW.trod_int ht h
  exact ⟨n, rfl⟩

theorem pick_all {α : Type} {R : Nat → α → Prop} : ∀ (n : Nat), (∀ i, i < n → ∃ x, R i x) → ∃ xs : List α, xs.length = n ∧ ∀ i x, xs[i]? = some x → R i x
  | 0, _ => ⟨[], rfl, fun _ _ h => by simp at h⟩
  | n + 1, h => by
    obtain ⟨xs, hl, hx⟩ := pick_all n (fun i hi => h i (by omega))
    obtain ⟨y, hy⟩ := h n (by omega)
    refine ⟨xs ++ [y], by simp [hl], fun i x hi => ?_⟩
    by_cases hlt : i < n
    · rw [List.getElem?_append_left (by omega)] at hi
      exact hx i x hi
    · have : i = n := by
        have := (List.getElem?_eq_some_iff.1 hi).1
        simp at this
        omega
      subst this
      rw [List.getElem?_append_right (by omega)] at hi
      simp [hl] at hi
      subst hi
      exact hy
theorem mapM_get {w : World} {a : Addr} : ∀ (l : List Nat) (cs : List Value), List.mapM (m := Option) (fun i : Nat => w.cell? (a.add i)) l = some cs → cs.length = l.length ∧ ∀ (i k : Nat) (u : Value), l[i]? = some k → cs[i]? = some u → w.cell? (a.add k) = some u
  | [], cs, h => by
    obtain rfl : cs = [] := by simpa using h.symm
    exact ⟨rfl, fun _ _ _ h => by simp at h⟩
  | b :: l, cs, h => by
    rw [List.mapM_cons] at h
    obtain ⟨v, hv, h⟩ := Option.bind_eq_some_iff.1 h
    obtain ⟨vs, hvs, h⟩ := Option.bind_eq_some_iff.1 h
    obtain rfl : v :: vs = cs := by simpa using h
    obtain ⟨h1, h2⟩ := mapM_get l vs hvs
    refine ⟨by simp [h1], fun i k u hk hu => ?_⟩
    cases i with
    | zero =>
      simp only [List.getElem?_cons_zero, Option.some.injEq] at hk hu
      subst hk hu
      exact hv
    | succ i =>
      simp only [List.getElem?_cons_succ] at hk hu
      exact h2 i k u hk hu
theorem cells_get {w : World} {base n : Nat} {a : Addr} {cs : List Value} (h : w.cells? base a n = some cs) : cs.length = n ∧ ∀ i u, cs[i]? = some u → w.cell? (a.add i) = some u := by
  unfold World.cells? at h
  split at h
  · obtain ⟨h1, h2⟩ := mapM_get _ _ h
    simp only [List.length_range] at h1
    refine ⟨h1, fun i u hu => h2 i i u ?_ hu⟩
    have := (List.getElem?_eq_some_iff.1 hu).1
    rw [List.getElem?_range (by omega)]
  · cases h
theorem add_add (a : Addr) (x y : Nat) : (a.add x).add y = a.add (x + y) := by
  by_cases hx : x = 0 <;> by_cases hy : y = 0 <;> simp [Addr.add, hx, hy, Nat.add_assoc]

theorem open_slice {α : Type} {P : Program} {t e : TypeId} {d : Kd α} (ht : P.underlying t = some (.slice e)) (hc : P.cellsOf e = d.sz) (ho : Opn P e d)
    {W : World} {fuel : Nat} {cs : List Value} {H : Type} {enc : TypeId × Value → H} {sp : Nat → Bool} {held : Bool} {x : DataW H × List MemPlace} (h : DataW.trod enc P W 0 sp held fuel t cs = some x) :
    ∃ (A : Option Addr) (c : Nat) (xs : List α), cs = [.slice A xs.length c] ∧ xs.length ≤ c ∧ Kd.C d W A xs.length xs := by
  rcases DataW.trod_slice ht h with ⟨rfl, _⟩ | ⟨a, len, cap, elems, rest, n, _, rfl, _, _, hl, hm, hlen, hel, _⟩
  · exact ⟨none, 0, [], rfl, Nat.le_refl _, rfl, by simp, fun h => by simp at h⟩
  · have hR : ∀ i, i < len → ∃ y : α, ∃ c : List Value, c.length = d.sz ∧ d.K W y c ∧ ∀ j u, c[j]? = some u → W.cell? (a.add (i * d.sz + j)) = some u := by
      intro i hi
      have hi' := hel i hi
      rw [hc] at hi'
      rw [List.getElem?_eq_getElem (by omega)] at hi'
      obtain ⟨c, hcs, htr⟩ := Option.bind_eq_some_iff.1 hi'
      obtain ⟨y, hy⟩ := ho _ _ _ _ _ _ _ htr
      obtain ⟨h1, h2⟩ := cells_get hcs
      exact ⟨y, c, h1, hy, fun j u hu => by rw [← add_add]; exact h2 j u hu⟩
    obtain ⟨xs, hxl, hxs⟩ := pick_all len hR
    subst hxl
    refine ⟨some a, cap, xs, rfl, hl, rfl, ?_, fun _ => ⟨a, rfl, fun j p hp => hxs j p hp⟩⟩
    have : maxLen = 9223372036854775807 := by decide
    omega
end Go.Proofs.YtfdenclnneigfaaDoor.OD
