import Derived.Test.YtfmpbkolpjlfbaaDoorPH
import Derived.Test.YtfmpbkolpjlfbaaDoorLLeast
set_option linter.unusedVariables false
set_option linter.unusedSimpArgs false
namespace Go.Proofs.YtfmpbkolpjlfbaaDoor
open Go.RowKit PRaspKeys R Q Go.Proofs.YtfmpbkolpjlfbaaDoorW.PrintWords
section
variable {l0 : List S57} {lo hi : Int} {l3 : List S69}
theorem RaspLeast.after_l0 (hb : bookOk l0 lo hi l3 = true) (off m tlo thi tc : Int) (ho : -60 ≤ off ∧ off ≤ 60) (hm : m ≤ 30) (hc : tc ≤ m) (hc1 : 1 ≤ tc) (ht : -30 ≤ tlo) (ht' : thi ≤ 30) : ∀ (n : Nat) (a d : Int), d + n = thi + 1 → -30 ≤ d → 0 ≤ a → a < 1000 →
    Ev (fun k => saronlaw03_after.l0 k off m a d l0 lo hi l3 tlo thi tc) (if fo (fun a x => cnt 0 a (strk l0 lo hi 0 (off + x) (m - tc)).2) n a d = 1000 then (0, true) else (fo (fun a x => cnt 0 a (strk l0 lo hi 0 (off + x) (m - tc)).2) n a d, false))
  | 0, a, d, hd, hd', ha, ha' => by
    refine Ev.step (fun k => by rw [saronlaw03_after.l0, if_neg (by omega)]) ?_
    rw [show fo (fun a x => cnt 0 a (strk l0 lo hi 0 (off + x) (m - tc)).2) 0 a d = a from rfl, if_neg (by omega)]
    exact Ev.now _
  | n + 1, a, d, hd, hd', ha, ha' => by
    have hsb := strk_bnd l0 lo hi 0 (off + d) (m - tc)
    have hmax := fo_max (fun x => (strk l0 lo hi 0 (off + x) (m - tc)).2) (n + 1) a d
    have efo : fo (fun a x => cnt 0 a (strk l0 lo hi 0 (off + x) (m - tc)).2) (n + 1) a d = fo (fun a x => max a (strk l0 lo hi 0 (off + x) (m - tc)).2) (n + 1) a d := rfl
    by_cases c : (strk l0 lo hi 0 (off + d) (m - tc)).2 = 1000
    · have hr : fo (fun a x => cnt 0 a (strk l0 lo hi 0 (off + x) (m - tc)).2) (n + 1) a d = 1000 := by
        rw [efo]
        have h2 := hmax.2.1 d (by omega) (by omega)
        rcases hmax.2.2 with h3 | ⟨x, _, _, h3⟩
        · omega
        · have := strk_bnd l0 lo hi 0 (off + x) (m - tc); omega
      rw [if_pos hr]
      refine Ev.step (fun k => by rw [saronlaw03_after.l0, if_pos (by omega), if_neg (by omega), w64 (x := off + d) (by omega) (by omega), sits_f, Option.bind_some]) ?_
      by_cases hin : -60 ≤ off + d ∧ off + d ≤ 60
      · refine Ev.step (fun k => by rw [saronlaw03_after.j1, isIn_iff.2 hin, if_neg (by simp), rasp_Next.f, Option.bind_some, w64 (x := off + d) (by omega) (by omega), w64 (x := m - tc) (by omega) (by omega), next_ok hb hin (by omega) (by omega), if_pos c, if_neg (by simp)]) ?_
        exact Ev.now _
      · refine Ev.step (fun k => by rw [saronlaw03_after.j1, show isIn (off + d) (-60) 60 = false by rw [← Bool.not_eq_true, isIn_iff]; exact hin, if_pos (by simp)]) ?_
        exact Ev.now _
    · have hin : -60 ≤ off + d ∧ off + d ≤ 60 := by
        by_cases h : -60 ≤ off + d ∧ off + d ≤ 60
        · exact h
        · rw [strk_out _ _ _ _ _ _ h] at c; exact absurd rfl c
      refine Ev.step (fun k => by rw [saronlaw03_after.l0, if_pos (by omega), if_neg (by omega), w64 (x := off + d) (by omega) (by omega), sits_f, Option.bind_some]) ?_
      refine Ev.step (fun k => by rw [saronlaw03_after.j1, isIn_iff.2 hin, if_neg (by simp), rasp_Next.f, Option.bind_some, w64 (x := off + d) (by omega) (by omega), w64 (x := m - tc) (by omega) (by omega), next_ok hb hin (by omega) (by omega), if_neg c, if_pos (by simp), w64 (x := d + 1) (by omega) (by omega)]) ?_
      have ih := RaspLeast.after_l0 hb off m tlo thi tc ho hm hc hc1 ht ht' n (max a (strk l0 lo hi 0 (off + d) (m - tc)).2) (d + 1) (by omega) (by omega) (by omega) (by omega)
      rw [show mx a (strk l0 lo hi 0 (off + d) (m - tc)).2 = max a (strk l0 lo hi 0 (off + d) (m - tc)).2 by unfold mx; omega]
      exact ih
theorem RaspLeast.after_f (hb : bookOk l0 lo hi l3 = true) (off m : Int) (ho : -60 ≤ off ∧ off ≤ 60) (hm : m ≤ 30) (h0 : 0 ≤ m) (i : Nat) (hi' : i < l0.length) :
    Ev (fun k => saronlaw03_after.f k l0 lo hi l3 (l0.getD i z57).f0.f0 (l0.getD i z57).f0.f1 (l0.getD i z57).f1 off m) (if (l0.getD i z57).f1 ≤ m ∧ Ld l0 lo hi 0 off m i ≠ 1000 then (Ld l0 lo hi 0 off m i, false) else (0, true)) := by
  have hs := sound_of hb
  have hmv := hs.move i hi'
  have hcs := hs.cost i hi'
  refine evc (fun k => by rw [saronlaw03_after.f]) ?_
  by_cases hc : (l0.getD i z57).f1 ≤ m
  · have h := RaspLeast.after_l0 hb off m (l0.getD i z57).f0.f0 (l0.getD i z57).f0.f1 (l0.getD i z57).f1 ho hm hc hcs.1 hmv.1 hmv.2.2 ((l0.getD i z57).f0.f1 - (l0.getD i z57).f0.f0 + 1).toNat 0 (l0.getD i z57).f0.f0 (by omega) (by omega) (by omega) (by omega)
    have e : fo (fun a x => cnt 0 a (strk l0 lo hi 0 (off + x) (m - (l0.getD i z57).f1)).2) ((l0.getD i z57).f0.f1 - (l0.getD i z57).f0.f0 + 1).toNat 0 (l0.getD i z57).f0.f0 = Ld l0 lo hi 0 off m i := rfl
    rw [e] at h
    by_cases hL : Ld l0 lo hi 0 off m i = 1000
    · rw [if_pos hL] at h
      rw [if_neg (fun x => x.2 hL)]
      exact h
    · rw [if_neg hL] at h
      rw [if_pos ⟨hc, hL⟩]
      exact h
  · rw [if_neg (fun x => hc x.1)]
    refine Ev.step (fun k => by rw [saronlaw03_after.l0, if_pos (by omega), if_pos (by omega)]) ?_
    refine Ev.step (fun k => by rw [saronlaw03_after.j1, if_pos rfl]) ?_
    exact Ev.now _
theorem RaspLeast.none_l0 (hb : bookOk l0 lo hi l3 = true) (off m : Int) (ho : -60 ≤ off ∧ off ≤ 60) (hm : m ≤ 30) (h0 : 0 ≤ m) (h2 : ∀ k, k < l0.length → (l0.getD k z57).f1 ≤ m → Ld l0 lo hi 0 off m k = 1000) : ∀ (d n : Nat), n + d = l0.length →
    Ev (fun k => saronlaw03_RaspLeast.l0 k off m 0 0 4 (n : Int) l0 lo hi l3) true
  | 0, n, hd => by
    refine Ev.step (fun k => by rw [saronlaw03_RaspLeast.l0, if_neg (by omega)]) ?_
    exact Ev.now true
  | d + 1, n, hd => by
    have hlen := len_ok hb
    refine Ev.step (fun k => by rw [saronlaw03_RaspLeast.l0, if_pos (by omega), if_pos (by omega), show rd_T57 l0 (n : Int) = l0.getD n z57 by simp [rd_T57]]) ?_
    refine ebind (RaspLeast.after_f hb off m ho hm h0 n (by omega)) ?_
    rw [if_neg (fun x => x.2 (h2 n (by omega) x.1))]
    refine evc (fun k => by rw [if_neg (by omega), if_pos rfl, w64 (by omega) (by omega), show ((n : Int) + 1) = ((n + 1 : Nat) : Int) by omega]) ?_
    exact RaspLeast.none_l0 hb off m ho hm h0 h2 d (n + 1) (by omega)
theorem RaspLeast.tool_l0 (hb : bookOk l0 lo hi l3 = true) (off m : Int) (ho : -60 ≤ off ∧ off ≤ 60) (hm : m ≤ 30) (h0 : 0 ≤ m) (j : Nat) (hj : j < l0.length) (hc : (l0.getD j z57).f1 ≤ m) (hl : 0 ≤ Ld l0 lo hi 0 off m j) (hlm : Ld l0 lo hi 0 off m j ≤ m - (l0.getD j z57).f1)
    (h2 : ∀ k, k < l0.length → (l0.getD k z57).f1 ≤ m → Ld l0 lo hi 0 off m j ≤ Ld l0 lo hi 0 off m k ∧ (k < j → Ld l0 lo hi 0 off m j < Ld l0 lo hi 0 off m k)) : ∀ (d n : Nat), n + d = l0.length →
    Ev (fun k => saronlaw03_RaspLeast.l0 k off m (j : Int) (Ld l0 lo hi 0 off m j + 1) 0 (n : Int) l0 lo hi l3) true
  | 0, n, hd => by
    refine Ev.step (fun k => by rw [saronlaw03_RaspLeast.l0, if_neg (by omega)]) ?_
    exact Ev.now true
  | d + 1, n, hd => by
    have hlen := len_ok hb
    have hcj := (sound_of hb).cost j hj
    have ih := RaspLeast.tool_l0 hb off m ho hm h0 j hj hc hl hlm h2 d (n + 1) (by omega)
    refine Ev.step (fun k => by rw [saronlaw03_RaspLeast.l0, if_pos (by omega), if_pos (by omega), show rd_T57 l0 (n : Int) = l0.getD n z57 by simp [rd_T57]]) ?_
    refine ebind (RaspLeast.after_f hb off m ho hm h0 n (by omega)) ?_
    refine evc (fun k => by rw [if_pos rfl, w64 (x := Ld l0 lo hi 0 off m j + 1 - 1) (by omega) (by omega), show Ld l0 lo hi 0 off m j + 1 - 1 = Ld l0 lo hi 0 off m j by omega, w64 (x := (n : Int) + 1) (by omega) (by omega), show ((n : Int) + 1) = ((n + 1 : Nat) : Int) by omega]) ?_
    by_cases e : n = j
    · subst e
      rw [if_pos ⟨hc, by omega⟩]
      refine evc (fun k => by rw [if_pos rfl, if_neg (by simp), if_pos rfl, if_neg (by dsimp only; omega), if_neg (by omega)]) ?_
      exact ih
    · refine evc (fun k => by rw [if_neg (by omega)]) ?_
      by_cases c : (l0.getD n z57).f1 ≤ m ∧ Ld l0 lo hi 0 off m n ≠ 1000
      · rw [if_pos c]
        have hh := h2 n (by omega) c.1
        refine evc (fun k => by rw [if_neg (by simp), if_neg (by dsimp only; omega)]) ?_
        by_cases c2 : Ld l0 lo hi 0 off m n = Ld l0 lo hi 0 off m j
        · refine evc (fun k => by rw [if_pos c2, if_neg (by omega)]) ?_
          exact ih
        · refine evc (fun k => by rw [if_neg c2]) ?_
          exact ih
      · rw [if_neg c]
        refine evc (fun k => by rw [if_pos rfl]) ?_
        exact ih
end
theorem RaspLeast.pure (l0 : List S57) (lo hi : Int) (l3 : List S69) (h0 : l0.length ≤ 9223372036854775807) (h3 : l3.length ≤ 9223372036854775807) (a b : Int) (wa : (Lit.int .i64 a).wf = true) (wb : (Lit.int .i64 b).wf = true) :
    ∃ k, saronlaw03_RaspLeast.f k l0 lo hi l3 a b = some true := by
  refine Ev.rounds (g := fun k => saronlaw03_RaspLeast.f k l0 lo hi l3 a b) ?_
  refine ebind (sound_f l0 lo hi l3 h0 h3) ?_
  by_cases hb : bookOk l0 lo hi l3 = true
  · refine evc (fun k => by rw [if_pos hb, state_f, Option.bind_some, rasp_Next.f, Option.bind_some]) ?_
    have ha := Int.emod_nonneg a (show (121 : Int) ≠ 0 by omega)
    have ha' := Int.emod_lt_of_pos a (show (0 : Int) < 121 by omega)
    have hbb := Int.emod_nonneg b (show (31 : Int) ≠ 0 by omega)
    have hbb' := Int.emod_lt_of_pos b (show (0 : Int) < 31 by omega)
    generalize ho : a % 121 - 60 = o
    generalize hm : b % 31 = m at *
    have hin : -60 ≤ o ∧ o ≤ 60 := by omega
    have hlen := len_ok hb
    rw [next_ok hb (o := o) (m := m) hin (by omega) (by omega)]
    rcases strk_cases (sound_of hb) (lo := lo) (hi := hi) (.inl rfl) o m (by omega) (by omega) hin with ⟨h, e⟩ | ⟨h, e, h2⟩ | ⟨h, j, hj, e, hc, hl, hlm, h2⟩
    · rw [e, if_neg (by simp)]
      refine evc (fun k => by rw [if_pos rfl]) ?_
      refine Ev.step (fun k => by rw [saronlaw03_RaspLeast.j0, if_pos (by rfl), if_pos rfl, bears_f, Option.bind_some, if_pos (isIn_iff.2 h)]) ?_
      exact Ev.now true
    · rw [e, if_pos rfl]
      refine evc (fun k => by rw [if_neg (by simp)]) ?_
      refine Ev.step (fun k => by rw [saronlaw03_RaspLeast.j0, if_neg (by simp), if_neg (by simp), if_pos rfl, bears_f, Option.bind_some, if_neg (by rw [isIn_iff]; exact h)]) ?_
      refine Ev.step (fun k => by rw [saronlaw03_RaspLeast.j1, if_neg (by simp)]) ?_
      exact RaspLeast.none_l0 hb o m hin (by omega) (by omega) h2 l0.length 0 (by omega)
    · have hcj := (sound_of hb).cost j hj
      rw [e, if_neg (by dsimp only; omega)]
      refine evc (fun k => by rw [if_pos rfl]) ?_
      refine Ev.step (fun k => by rw [saronlaw03_RaspLeast.j0, show (((j : Int)) == (-1)) = false from beq_eq_false_iff_ne.mpr (by omega), if_neg (by simp), if_pos rfl, sits_f, Option.bind_some, w64 (by omega) (by omega), isIn_iff.2 (show (0 : Int) ≤ (j : Int) ∧ (j : Int) ≤ (l0.length : Int) - 1 by omega)]) ?_
      refine Ev.step (fun k => by rw [saronlaw03_RaspLeast.j1, if_neg (by simp)]) ?_
      exact RaspLeast.tool_l0 hb o m hin (by omega) (by omega) j hj hc hl hlm h2 l0.length 0 (by omega)
  · refine ev_some fun k => ?_
    rw [if_neg hb]
    rfl
end Go.Proofs.YtfmpbkolpjlfbaaDoor
