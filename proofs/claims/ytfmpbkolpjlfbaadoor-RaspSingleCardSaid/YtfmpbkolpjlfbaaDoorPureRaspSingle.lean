import Derived.Test.YtfmpbkolpjlfbaaDoorPH
import Derived.Test.YtfmpbkolpjlfbaaDoorPC
import Derived.Test.YtfmpbkolpjlfbaaDoorLSingle
set_option linter.unusedVariables false
set_option linter.unusedSimpArgs false
namespace Go.Proofs.YtfmpbkolpjlfbaaDoor
open Go.RowKit PRaspKeys R Q Go.Proofs.YtfmpbkolpjlfbaaDoorW.PrintWords
/-- The first n tools, each with one move of its own. -/
structure RaspSingle.One (l0 l : List S57) (n : Nat) : Prop where
  len : l.length = n
  one : ∀ k, k < n → (l.getD k z57).f0.f0 = (l.getD k z57).f0.f1 ∧ (l0.getD k z57).f0.f0 ≤ (l.getD k z57).f0.f0 ∧ (l.getD k z57).f0.f1 ≤ (l0.getD k z57).f0.f1 ∧ (l.getD k z57).f1 = (l0.getD k z57).f1
theorem RaspSingle.One.snoc {l0 l : List S57} {n : Nat} (h : RaspSingle.One l0 l n) (d : Int) (h1 : (l0.getD n z57).f0.f0 ≤ d) (h2 : d ≤ (l0.getD n z57).f0.f1) : RaspSingle.One l0 (l ++ [⟨⟨d, d⟩, (l0.getD n z57).f1⟩]) (n + 1) := by
  refine ⟨by simp [h.len], fun k hk => ?_⟩
  by_cases e : k = n
  · subst e
    have : (l ++ [(⟨⟨d, d⟩, (l0.getD k z57).f1⟩ : S57)]).getD k z57 = ⟨⟨d, d⟩, (l0.getD k z57).f1⟩ := by
      have := h.len
      simp [List.getD, this]
    rw [this]
    exact ⟨rfl, h1, h2, rfl⟩
  · have : (l ++ [(⟨⟨d, d⟩, (l0.getD n z57).f1⟩ : S57)]).getD k z57 = l.getD k z57 := by
      have := h.len
      simp only [List.getD]
      rw [List.getElem?_append_left (by omega)]
    rw [this]
    exact h.one k (by omega)
theorem RaspSingle.ok {l0 l : List S57} {lo hi : Int} {l3 : List S69} (hb : bookOk l0 lo hi l3 = true) (h : RaspSingle.One l0 l l0.length) : bookOk l lo hi l3 = true := by
  have hs := sound_of hb
  have hb0 := hb
  unfold bookOk at hb ⊢
  rw [h.len]
  simp only [Bool.and_eq_true, List.all_eq_true] at hb ⊢
  refine ⟨hb.1, fun t ht => ?_, hb.2.2⟩
  obtain ⟨k, hk, rfl⟩ := List.getElem_of_mem ht
  have ho := h.one k (by have := h.len; omega)
  have hm := hs.move k (by have := h.len; omega)
  have hc := hs.cost k (by have := h.len; omega)
  rw [show l.getD k z57 = l[k] by simp [hk]] at ho
  unfold toolOk isIn
  simp only [Bool.and_eq_true, decide_eq_true_eq]
  omega
theorem RaspSingle.l0_f (l0 : List S57) (lo hi : Int) (l3 : List S69) (hb : bookOk l0 lo hi l3 = true) (bits : List Int) (hm : bits.length ≤ 9223372036854775807) (a b : Int) : ∀ (d n : Nat) (l : List S57), n + d = l0.length → RaspSingle.One l0 l n →
    Ev (fun k => saronlaw03_RaspSingle.l0 k bits (n : Int) l0 lo hi l3 a b l lo hi l3) true
  | 0, n, l, hd, h => by
    obtain rfl : n = l0.length := by omega
    have hs := sound_of hb
    have hb' := RaspSingle.ok hb h
    have hs' := sound_of hb'
    refine Ev.step (fun k => by rw [saronlaw03_RaspSingle.l0, if_neg (by omega), state_f, Option.bind_some, rasp_Next.f, Option.bind_some, rasp_Lucky.f, Option.bind_some, rasp_Lucky.f, Option.bind_some]) ?_
    have ha := Int.emod_nonneg a (show (121 : Int) ≠ 0 by omega)
    have ha' := Int.emod_lt_of_pos a (show (0 : Int) < 121 by omega)
    have hbb := Int.emod_nonneg b (show (31 : Int) ≠ 0 by omega)
    have hbb' := Int.emod_lt_of_pos b (show (0 : Int) < 31 by omega)
    generalize ho : a % 121 - 60 = o
    generalize hm' : b % 31 = m at *
    have hin : -60 ≤ o ∧ o ≤ 60 := by omega
    have e1 : (strk l lo hi 0 o m).2 = (strk l lo hi 1 o m).2 := by
      refine Int.le_antisymm ?_ (best_worst hs' o m (by omega) (by omega))
      refine cmp hs' hs' (.inl rfl) (.inr rfl) (Int.le_refl _) (Int.le_refl _) (fun k hk => ⟨k, hk, Int.le_refl _, LdLe.one (h.one k (by have := h.len; omega)).1⟩) (m.toNat + 1) o m m (by omega) (by omega) (Int.le_refl _) (by omega)
    have e2 : (strk l0 lo hi 1 o m).2 ≤ (strk l lo hi 1 o m).2 := by
      refine cmp hs hs' (.inr rfl) (.inr rfl) (Int.le_refl _) (Int.le_refl _) (fun k hk => ?_) (m.toNat + 1) o m m (by omega) (by omega) (Int.le_refl _) (by omega)
      have h1 := h.one k (by have := h.len; omega)
      exact ⟨k, by have := h.len; omega, by omega, LdLe.best (by omega) h1.2.1 h1.2.2.1⟩
    have hsb := strk_bnd l lo hi 1 o m
    rw [next_ok hb' hin (by omega) (by omega), lucky_ok hb' hin (by omega) (by omega), lucky_ok hb hin (by omega) (by omega), e1]
    by_cases c : (strk l lo hi 1 o m).2 = 1000
    · rw [if_pos c, if_pos c]
      by_cases c2 : (strk l0 lo hi 1 o m).2 = 1000
      · rw [if_pos c2]
        exact ev_some fun k => rfl
      · rw [if_neg c2]
        exact ev_some fun k => rfl
    · rw [if_neg c, if_neg c, if_neg (show ¬ (strk l0 lo hi 1 o m).2 = 1000 by omega)]
      refine ev_some fun k => ?_
      rw [if_pos rfl, if_pos rfl, if_pos rfl, if_pos rfl, if_pos e2]
      rfl
  | d + 1, n, l, hd, h => by
    have hlen := len_ok hb
    have hmv := (sound_of hb).move n (by omega)
    obtain ⟨v, hv⟩ := nth_f bits n hm
    obtain ⟨x, hx, hx1, hx2⟩ := draw_f (l0.getD n z57).f0.f0 (l0.getD n z57).f0.f1 v (by omega) (by omega) (by omega)
    have hll := h.len
    refine Ev.step (fun k => by rw [saronlaw03_RaspSingle.l0, if_pos (by omega), if_pos (by omega), hv, Option.bind_some, show rd_T57 l0 (n : Int) = l0.getD n z57 by simp [rd_T57], hx, Option.bind_some, saronref00_Band.f, Option.bind_some, if_pos (by omega), w64 (by omega) (by omega), show ((n : Int) + 1) = ((n + 1 : Nat) : Int) by omega]) ?_
    exact RaspSingle.l0_f l0 lo hi l3 hb bits hm a b d (n + 1) _ (by omega) (h.snoc x hx1 hx2)
theorem RaspSingle.pure (l0 : List S57) (lo hi : Int) (l3 : List S69) (h0 : l0.length ≤ 9223372036854775807) (h3 : l3.length ≤ 9223372036854775807) (bits : List Int) (hm : bits.length ≤ 9223372036854775807) (a b : Int) (wa : (Lit.int .i64 a).wf = true) (wb : (Lit.int .i64 b).wf = true) :
    ∃ k, saronlaw03_RaspSingle.f k l0 lo hi l3 bits a b = some true := by
  refine Ev.rounds (g := fun k => saronlaw03_RaspSingle.f k l0 lo hi l3 bits a b) ?_
  refine ebind (sound_f l0 lo hi l3 h0 h3) ?_
  by_cases hb : bookOk l0 lo hi l3 = true
  · refine evc (fun k => by rw [if_pos hb]) ?_
    exact RaspSingle.l0_f l0 lo hi l3 hb bits hm a b l0.length 0 [] (by omega) ⟨rfl, fun k hk => by omega⟩
  · refine ev_some fun k => ?_
    rw [if_neg hb]
    rfl
end Go.Proofs.YtfmpbkolpjlfbaaDoor
