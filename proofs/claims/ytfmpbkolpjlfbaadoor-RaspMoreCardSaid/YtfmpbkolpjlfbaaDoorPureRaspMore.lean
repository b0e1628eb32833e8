import Derived.Test.YtfmpbkolpjlfbaaDoorPH
import Derived.Test.YtfmpbkolpjlfbaaDoorPC
import Derived.Test.YtfmpbkolpjlfbaaDoorLMore
set_option linter.unusedVariables false
set_option linter.unusedSimpArgs false
namespace Go.Proofs.YtfmpbkolpjlfbaaDoor
open Go.RowKit PRaspKeys R Q Go.Proofs.YtfmpbkolpjlfbaaDoorW.PrintWords
section
variable {l0 : List S57} {lo hi : Int} {l3 : List S69}
theorem RaspMore.getD_set (l : List S57) (i k : Nat) (t : S57) (h : i < l.length) : (l.set i t).getD k z57 = if k = i then t else l.getD k z57 := by
  simp only [List.getD, List.getElem?_set]
  by_cases e : i = k
  · subst e; simp [h]
  · rw [if_neg e, if_neg (fun h => e h.symm)]
theorem RaspMore.ok_of {l : List S57} (hb : bookOk l0 lo hi l3 = true) (h1 : 1 ≤ l.length) (h2 : l.length ≤ 4) (h : ∀ k, k < l.length → toolOk (l.getD k z57) = true) : bookOk l lo hi l3 = true := by
  unfold bookOk at hb ⊢
  simp only [Bool.and_eq_true, List.all_eq_true] at hb ⊢
  refine ⟨⟨isIn_iff.2 (by omega), hb.1.2⟩, fun t ht => ?_, hb.2.2⟩
  obtain ⟨k, hk, rfl⟩ := List.getElem_of_mem ht
  have := h k hk
  rwa [show l.getD k z57 = l[k] by simp [hk]] at this
theorem RaspMore.toolsOk (hb : bookOk l0 lo hi l3 = true) (k : Nat) (hk : k < l0.length) : toolOk (l0.getD k z57) = true := by
  unfold bookOk at hb
  simp only [Bool.and_eq_true, List.all_eq_true] at hb
  rw [show l0.getD k z57 = l0[k] by simp [hk]]
  exact hb.2.1 _ (List.getElem_mem hk)
theorem RaspMore.j3_f (A E B F : Int) (h : (F = 30) ∨ (E ≠ 0 ∧ (F = 0 ∨ F = 4)) ∨ (E = 0 ∧ F = 0 ∧ B ≤ A)) : Ev (fun k => saronlaw03_RaspMore.j3 k A E B F) true := by
  rcases h with rfl | ⟨h, rfl | rfl⟩ | ⟨rfl, rfl, h⟩
  · refine Ev.step (fun k => by rw [saronlaw03_RaspMore.j3, if_pos rfl, if_neg (by omega)]) ?_
    exact Ev.now true
  · refine Ev.step (fun k => by rw [saronlaw03_RaspMore.j3, if_neg (by omega), if_neg h, if_pos rfl]) ?_
    exact Ev.now true
  · refine Ev.step (fun k => by rw [saronlaw03_RaspMore.j3, if_neg (by omega), if_neg h, if_neg (by omega), if_pos rfl]) ?_
    exact Ev.now true
  · refine Ev.step (fun k => by rw [saronlaw03_RaspMore.j3, if_neg (by omega), if_pos rfl, if_pos rfl, if_pos h]) ?_
    exact Ev.now true
theorem RaspMore.j1_f (hb : bookOk l0 lo hi l3 = true) (u v c o m : Int) (ho : -60 ≤ o ∧ o ≤ 60) (h0 : 0 ≤ m) (hm : m ≤ 30) (A E : Int) (hAE : (E ≠ 0 ∧ (strk l0 lo hi 0 o m).2 = 1000) ∨ (E = 0 ∧ A = (strk l0 lo hi 0 o m).2 ∧ A < 1000)) :
    Ev (fun k => saronlaw03_RaspMore.j1 k o m A E false l0 lo hi l3 u v c) true := by
  have hlen := len_ok hb
  have hs := sound_of hb
  by_cases h4 : (l0.length : Int) = 4
  · refine Ev.step (fun k => by rw [saronlaw03_RaspMore.j1, if_neg (by simp), if_pos h4]) ?_
    exact Ev.now true
  · refine Ev.step (fun k => by rw [saronlaw03_RaspMore.j1, if_neg (by simp), if_neg h4, Option.bind_some, if_pos (by simp; omega), Option.bind_some, Option.bind_some, if_pos (by simp; omega), List.nil_append]) ?_
    refine Ev.step (fun k => by rw [saronlaw03_RaspMore.j2, rasp_Next.f, Option.bind_some]) ?_
    refine RaspMore.j3_f _ _ _ _ ?_
    have hget : ∀ k, k < l0.length → (l0 ++ [(⟨⟨u, v⟩, c⟩ : S57)]).getD k z57 = l0.getD k z57 := fun k hk => by
      simp only [List.getD]
      rw [List.getElem?_append_left hk]
    have hlast : (l0 ++ [(⟨⟨u, v⟩, c⟩ : S57)]).getD l0.length z57 = ⟨⟨u, v⟩, c⟩ := by simp [List.getD]
    by_cases ht : toolOk ⟨⟨u, v⟩, c⟩ = true
    · have hb' : bookOk (l0 ++ [(⟨⟨u, v⟩, c⟩ : S57)]) lo hi l3 = true := RaspMore.ok_of hb (by simp) (by simp; omega) fun k hk => by
        by_cases e : k < l0.length
        · rw [hget k e]; exact RaspMore.toolsOk hb k e
        · have : k = l0.length := by simp at hk; omega
          subst this
          rw [hlast]; exact ht
      have hs' := sound_of hb'
      have hle : (strk (l0 ++ [(⟨⟨u, v⟩, c⟩ : S57)]) lo hi 0 o m).2 ≤ (strk l0 lo hi 0 o m).2 := by
        refine cmp hs' hs (.inl rfl) (.inl rfl) (Int.le_refl _) (Int.le_refl _) (fun k hk => ⟨k, by simp; omega, by rw [hget k hk]; exact Int.le_refl _, ?_⟩) (m.toNat + 1) o m m h0 (by omega) (Int.le_refl _) hm
        rw [hget k hk]
        exact LdLe.worst (hs.move k hk).2.1 (Int.le_refl _) (Int.le_refl _)
      rw [next_ok hb' ho h0 hm]
      by_cases c1 : (strk (l0 ++ [(⟨⟨u, v⟩, c⟩ : S57)]) lo hi 0 o m).2 = 1000
      · rw [if_pos c1]
        rcases hAE with ⟨h1, h2⟩ | ⟨h1, h2, h3⟩
        · exact .inr (.inl ⟨h1, .inr rfl⟩)
        · omega
      · rw [if_neg c1]
        rcases hAE with ⟨h1, h2⟩ | ⟨h1, h2, h3⟩
        · exact .inr (.inl ⟨h1, .inl rfl⟩)
        · exact .inr (.inr ⟨h1, rfl, by dsimp only; omega⟩)
    · refine .inl ?_
      have hb' : bookOk (l0 ++ [(⟨⟨u, v⟩, c⟩ : S57)]) lo hi l3 = false := by
        rw [← Bool.not_eq_true]
        intro h
        have := RaspMore.toolsOk h l0.length (by simp)
        rw [hlast] at this
        exact ht this
      unfold nextF openV openE checkE
      rw [hb']
      simp
theorem RaspMore.j0_f (hb : bookOk l0 lo hi l3 = true) (u v c o m q : Int) (ho : -60 ≤ o ∧ o ≤ 60) (h0 : 0 ≤ m) (hm : m ≤ 30) (A E : Int) (hAE : (E ≠ 0 ∧ (strk l0 lo hi 0 o m).2 = 1000) ∨ (E = 0 ∧ A = (strk l0 lo hi 0 o m).2 ∧ A < 1000)) :
    Ev (fun k => saronlaw03_RaspMore.j0 k q o m A E false l0 lo hi l3 u v c) true := by
  have hlen := len_ok hb
  have hs := sound_of hb
  have hp := Int.emod_nonneg q (show (l0.length : Int) ≠ 0 by omega)
  have hlt := Int.emod_lt_of_pos q (show (0 : Int) < l0.length by omega)
  obtain ⟨ki, hki⟩ : ∃ ki : Nat, q % (l0.length : Int) = ki := ⟨(q % (l0.length : Int)).toNat, by omega⟩
  have hk : ki < l0.length := by omega
  have hc := hs.cost ki hk
  obtain ⟨x, hx, hx1, hx2⟩ := draw_f 1 (l0.getD ki z57).f1 q (by omega) (by omega) (by omega)
  refine Ev.step (fun k => by rw [saronlaw03_RaspMore.j0, if_neg (by simp), Option.bind_some, if_pos (by simp; omega), Option.bind_some, List.nil_append, turn_f _ _ (by omega) (by omega), Option.bind_some, hki, if_pos (by omega), if_pos (by omega), show rd_T57 l0 (ki : Int) = l0.getD ki z57 by simp [rd_T57], saronref00_Band.f, Option.bind_some, hx, Option.bind_some, if_pos (by omega), rasp_Next.f, Option.bind_some, Int.toNat_natCast]) ?_
  generalize ht : (⟨(⟨(l0.getD ki z57).f0.f0, (l0.getD ki z57).f0.f1⟩ : S24), x⟩ : S57) = t
  have hget : ∀ k, k < l0.length → (l0.set ki t).getD k z57 = if k = ki then t else l0.getD k z57 := fun k _ => RaspMore.getD_set l0 ki k t hk
  have hb' : bookOk (l0.set ki t) lo hi l3 = true := RaspMore.ok_of hb (by simp; omega) (by simp; omega) fun k hk' => by
    rw [List.length_set] at hk'
    rw [hget k hk']
    split
    · have := RaspMore.toolsOk hb ki hk
      rw [← ht]
      unfold toolOk isIn at this ⊢
      simp only [Bool.and_eq_true, decide_eq_true_eq] at this ⊢
      omega
    · exact RaspMore.toolsOk hb k hk'
  have hle : (strk (l0.set ki t) lo hi 0 o m).2 ≤ (strk l0 lo hi 0 o m).2 := by
    refine cmp (sound_of hb') hs (.inl rfl) (.inl rfl) (Int.le_refl _) (Int.le_refl _) (fun k hk' => ⟨k, by simpa using hk', ?_, ?_⟩) (m.toNat + 1) o m m h0 (by omega) (Int.le_refl _) hm
    · rw [hget k hk']
      split
      · rename_i e; subst e; rw [← ht]; exact hx2
      · exact Int.le_refl _
    · rw [hget k hk']
      split
      · rename_i e; subst e; rw [← ht]
        exact LdLe.worst (hs.move k hk').2.1 (Int.le_refl _) (Int.le_refl _)
      · exact LdLe.worst (hs.move k hk').2.1 (Int.le_refl _) (Int.le_refl _)
  rw [next_ok hb' ho h0 hm]
  have fin := RaspMore.j1_f hb u v c o m ho h0 hm A E hAE
  rcases hAE with ⟨h1, h2⟩ | ⟨h1, h2, h3⟩
  · refine evc (fun k => by rw [if_neg h1]) ?_
    exact fin
  · refine evc (fun k => by rw [if_pos h1, if_neg (show ¬ (strk (l0.set ki t) lo hi 0 o m).2 = 1000 by omega), if_pos rfl, decide_eq_false (show ¬ ((strk (l0.set ki t) lo hi 0 o m).1, (strk (l0.set ki t) lo hi 0 o m).2, (0 : Int)).2.1 > A by dsimp only; omega)]) ?_
    exact fin
end
theorem RaspMore.pure (l0 : List S57) (lo hi : Int) (l3 : List S69) (h0 : l0.length ≤ 9223372036854775807) (h3 : l3.length ≤ 9223372036854775807) (u v c : Int) (a b : Int) (wa : (Lit.int .i64 a).wf = true) (wb : (Lit.int .i64 b).wf = true) (q : Int) (wq : (Lit.int .i64 q).wf = true) :
    ∃ k, saronlaw03_RaspMore.f k l0 lo hi l3 u v c a b q = some true := by
  refine Ev.rounds (g := fun k => saronlaw03_RaspMore.f k l0 lo hi l3 u v c a b q) ?_
  refine ebind (sound_f l0 lo hi l3 h0 h3) ?_
  by_cases hb : bookOk l0 lo hi l3 = true
  · have hs := sound_of hb
    have ha := Int.emod_nonneg a (show (121 : Int) ≠ 0 by omega)
    have ha' := Int.emod_lt_of_pos a (show (0 : Int) < 121 by omega)
    have hbb := Int.emod_nonneg b (show (31 : Int) ≠ 0 by omega)
    have hbb' := Int.emod_lt_of_pos b (show (0 : Int) < 31 by omega)
    obtain ⟨x, hx, hx1, hx2⟩ := draw_f (b % 31) 30 q (by omega) (by omega) (by omega)
    refine evc (fun k => by rw [if_pos hb, state_f, Option.bind_some, saronref00_Band.f, Option.bind_some, hx, Option.bind_some, rasp_Next.f, Option.bind_some, rasp_Next.f, Option.bind_some, rasp_Lucky.f, Option.bind_some, rasp_Lucky.f, Option.bind_some]) ?_
    dsimp only
    generalize ho : a % 121 - 60 = o
    generalize hm' : b % 31 = m at *
    have hin : -60 ≤ o ∧ o ≤ 60 := by omega
    rw [next_ok hb hin (by omega) (by omega), next_ok hb hin (by omega) hx2, lucky_ok hb hin (by omega) (by omega), lucky_ok hb hin (by omega) hx2]
    have e1 := more_metal hs (lo := lo) (hi := hi) (way := 0) (.inl rfl) o m x (by omega) hx1 hx2
    have e2 := more_metal hs (lo := lo) (hi := hi) (way := 1) (.inr rfl) o m x (by omega) hx1 hx2
    have e3 := best_worst hs (lo := lo) (hi := hi) o m (by omega) (by omega)
    have b0 := strk_bnd l0 lo hi 0 o m
    have b1 := strk_bnd l0 lo hi 1 o m
    by_cases c0 : (strk l0 lo hi 0 o m).2 = 1000
    · rw [if_pos c0]
      have fin := RaspMore.j0_f hb u v c o m q hin (by omega) (by omega) 0 4 (.inl ⟨by omega, c0⟩)
      by_cases c1 : (strk l0 lo hi 1 o m).2 = 1000
      · refine evc (fun k => by rw [if_neg (by dsimp only; omega), if_pos c1, if_neg (by dsimp only; omega)]) ?_
        exact fin
      · refine evc (fun k => by rw [if_neg (by dsimp only; omega), if_neg c1, if_pos rfl, if_neg (show ¬ (strk l0 lo hi 1 o x).2 = 1000 by omega), if_pos rfl, if_neg (by dsimp only; omega)]) ?_
        exact fin
    · rw [if_neg c0]
      have fin := RaspMore.j0_f hb u v c o m q hin (by omega) (by omega) (strk l0 lo hi 0 o m).2 0 (.inr ⟨rfl, rfl, by omega⟩)
      refine evc (fun k => by rw [if_pos rfl, if_neg (show ¬ (strk l0 lo hi 0 o x).2 = 1000 by omega), if_pos rfl, if_neg (by dsimp only; omega), if_neg (show ¬ (strk l0 lo hi 1 o m).2 = 1000 by omega), if_pos rfl, if_neg (show ¬ (strk l0 lo hi 1 o x).2 = 1000 by omega), if_pos rfl, if_neg (by dsimp only; omega), decide_eq_false (by dsimp only; omega)]) ?_
      exact fin
  · refine ev_some fun k => ?_
    rw [if_neg hb]
    rfl
end Go.Proofs.YtfmpbkolpjlfbaaDoor
