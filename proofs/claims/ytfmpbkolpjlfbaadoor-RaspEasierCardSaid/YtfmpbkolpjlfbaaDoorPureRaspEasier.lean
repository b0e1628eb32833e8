import Derived.Test.YtfmpbkolpjlfbaaDoorPH
import Derived.Test.YtfmpbkolpjlfbaaDoorPC
import Derived.Test.YtfmpbkolpjlfbaaDoorLEasier
set_option linter.unusedVariables false
set_option linter.unusedSimpArgs false
namespace Go.Proofs.YtfmpbkolpjlfbaaDoor
open Go.RowKit PRaspKeys R Q Go.Proofs.YtfmpbkolpjlfbaaDoorW.PrintWords
section
variable {l0 : List S57} {lo hi : Int} {l3 : List S69}
theorem RaspEasier.getD_set (l : List S57) (i k : Nat) (t : S57) (h : i < l.length) : (l.set i t).getD k z57 = if k = i then t else l.getD k z57 := by
  simp only [List.getD, List.getElem?_set]
  by_cases e : i = k
  · subst e; simp [h]
  · rw [if_neg e, if_neg (fun h => e h.symm)]
theorem RaspEasier.ok_of {l : List S57} {lo' hi' : Int} (hb : bookOk l0 lo hi l3 = true) (h1 : 1 ≤ l.length) (h2 : l.length ≤ 4) (h3 : -60 ≤ lo' ∧ lo' ≤ hi' ∧ hi' ≤ 60) (h : ∀ k, k < l.length → toolOk (l.getD k z57) = true) : bookOk l lo' hi' l3 = true := by
  unfold bookOk at hb ⊢
  simp only [Bool.and_eq_true, List.all_eq_true, decide_eq_true_eq] at hb ⊢
  refine ⟨⟨isIn_iff.2 (by omega), h3, hb.1.2.2⟩, fun t ht => ?_, hb.2.2⟩
  obtain ⟨k, hk, rfl⟩ := List.getElem_of_mem ht
  have := h k hk
  rwa [show l.getD k z57 = l[k] by simp [hk]] at this
theorem RaspEasier.toolsOk (hb : bookOk l0 lo hi l3 = true) (k : Nat) (hk : k < l0.length) : toolOk (l0.getD k z57) = true := by
  unfold bookOk at hb
  simp only [Bool.and_eq_true, List.all_eq_true] at hb
  rw [show l0.getD k z57 = l0[k] by simp [hk]]
  exact hb.2.1 _ (List.getElem_mem hk)
/-- What is told at the end: of three answers. -/
theorem RaspEasier.j1_f (A X Y a x y : Int) (hx : x ≤ a) (hy : y ≤ a) (ha : a ≤ 1000) (hA : A = if a = 1000 then 0 else a) (hX : X = if x = 1000 then 0 else x) (hY : Y = if y = 1000 then 0 else y) :
    Ev (fun k => saronlaw03_RaspEasier.j1 k A (if a = 1000 then 4 else 0) X (if x = 1000 then 4 else 0) Y (if y = 1000 then 4 else 0)) true := by
  by_cases ca : a = 1000
  · rw [if_pos ca]
    by_cases cx : x = 1000
    · rw [if_pos cx]
      by_cases cy : y = 1000
      · rw [if_pos cy]
        refine Ev.step (fun k => by rw [saronlaw03_RaspEasier.j1, if_neg (by omega), if_pos rfl, if_neg (by omega), if_pos rfl, if_neg (by omega), if_pos rfl]) ?_
        exact Ev.now true
      · rw [if_neg cy]
        refine Ev.step (fun k => by rw [saronlaw03_RaspEasier.j1, if_neg (by omega), if_pos rfl, if_neg (by omega), if_pos rfl, if_pos rfl]) ?_
        exact Ev.now true
    · rw [if_neg cx]
      by_cases cy : y = 1000
      · rw [if_pos cy]
        refine Ev.step (fun k => by rw [saronlaw03_RaspEasier.j1, if_neg (by omega), if_pos rfl, if_pos rfl, if_neg (by omega), if_pos rfl]) ?_
        exact Ev.now true
      · rw [if_neg cy]
        refine Ev.step (fun k => by rw [saronlaw03_RaspEasier.j1, if_neg (by omega), if_pos rfl, if_pos rfl, if_pos rfl]) ?_
        exact Ev.now true
  · rw [if_neg ca, if_neg (show ¬ x = 1000 by omega), if_neg (show ¬ y = 1000 by omega)]
    rw [if_neg ca] at hA
    rw [if_neg (show ¬ x = 1000 by omega)] at hX
    rw [if_neg (show ¬ y = 1000 by omega)] at hY
    refine Ev.step (fun k => by rw [saronlaw03_RaspEasier.j1, if_pos rfl, if_pos rfl, if_pos rfl, if_pos (by omega), if_pos (by omega)]) ?_
    exact Ev.now true
theorem RaspEasier.next (hb : bookOk l0 lo hi l3 = true) {o m : Int} (ho : -60 ≤ o ∧ o ≤ 60) (h0 : 0 ≤ m) (hm : m ≤ 30) : (nextF l0 lo hi l3 o m).2.1 = (if (strk l0 lo hi 0 o m).2 = 1000 then 0 else (strk l0 lo hi 0 o m).2) ∧ (nextF l0 lo hi l3 o m).2.2 = if (strk l0 lo hi 0 o m).2 = 1000 then 4 else 0 := by
  rw [next_ok hb ho h0 hm]
  split <;> exact ⟨rfl, rfl⟩
end
theorem RaspEasier.pure (l0 : List S57) (lo hi : Int) (l3 : List S69) (h0 : l0.length ≤ 9223372036854775807) (h3 : l3.length ≤ 9223372036854775807) (a b : Int) (wa : (Lit.int .i64 a).wf = true) (wb : (Lit.int .i64 b).wf = true) (p q r : Int) (wp : (Lit.int .i64 p).wf = true) (wq : (Lit.int .i64 q).wf = true) (wr : (Lit.int .i64 r).wf = true) :
    ∃ k, saronlaw03_RaspEasier.f k l0 lo hi l3 a b p q r = some true := by
  refine Ev.rounds (g := fun k => saronlaw03_RaspEasier.f k l0 lo hi l3 a b p q r) ?_
  refine ebind (sound_f l0 lo hi l3 h0 h3) ?_
  by_cases hb : bookOk l0 lo hi l3 = true
  · have hs := sound_of hb
    have hlen := len_ok hb
    have ha := Int.emod_nonneg a (show (121 : Int) ≠ 0 by omega)
    have ha' := Int.emod_lt_of_pos a (show (0 : Int) < 121 by omega)
    have hbb := Int.emod_nonneg b (show (31 : Int) ≠ 0 by omega)
    have hbb' := Int.emod_lt_of_pos b (show (0 : Int) < 31 by omega)
    have hq := Int.emod_nonneg q (show (12 : Int) ≠ 0 by omega)
    have hq' := Int.emod_lt_of_pos q (show (0 : Int) < 12 by omega)
    have hr := Int.emod_nonneg r (show (12 : Int) ≠ 0 by omega)
    have hr' := Int.emod_lt_of_pos r (show (0 : Int) < 12 by omega)
    have hmx : mx (-60) (lo - q % 12) = max (-60) (lo - q % 12) := by unfold mx; omega
    have hmn : mn 60 (hi + r % 12) = min 60 (hi + r % 12) := by unfold mn; omega
    have hp := Int.emod_nonneg p (show (l0.length : Int) ≠ 0 by omega)
    have hlt := Int.emod_lt_of_pos p (show (0 : Int) < l0.length by omega)
    obtain ⟨ki, hki⟩ : ∃ ki : Nat, p % (l0.length : Int) = ki := ⟨(p % (l0.length : Int)).toNat, by omega⟩
    have hk : ki < l0.length := by omega
    have hmv := hs.move ki hk
    obtain ⟨x, hx, hx1, hx2⟩ := draw_f (l0.getD ki z57).f0.f0 (l0.getD ki z57).f0.f1 q (by omega) (by omega) (by omega)
    obtain ⟨y, hy, hy1, hy2⟩ := draw_f x (l0.getD ki z57).f0.f1 r (by omega) (by omega) (by omega)
    refine evc (fun k => by rw [if_pos hb, state_f, Option.bind_some, rasp_Next.f, Option.bind_some, turn_f _ _ (by omega) (by omega), Option.bind_some, turn_f _ _ (by omega) (by omega), Option.bind_some, saronref00_Band.f, Option.bind_some, Option.bind_some, if_pos (by simp; omega), List.nil_append, w64 (x := lo - q % 12) (by omega) (by omega), w64 (x := hi + r % 12) (by omega) (by omega), hmx, hmn]) ?_
    dsimp only
    generalize ho : a % 121 - 60 = o
    generalize hm' : b % 31 = m at *
    have hin : -60 ≤ o ∧ o ≤ 60 := by omega
    generalize hlo : max (-60) (lo - q % 12) = lo' at *
    generalize hhi : min 60 (hi + r % 12) = hi' at *
    have hl1 : lo' ≤ lo := by omega
    have hl2 : hi ≤ hi' := by omega
    have hb1 : bookOk l0 lo' hi' l3 = true := RaspEasier.ok_of hb (by omega) (by omega) (by omega) (RaspEasier.toolsOk hb)
    refine Ev.step (fun k => by rw [saronlaw03_RaspEasier.j0, turn_f _ _ (by omega) (by omega), Option.bind_some, hki, if_pos (by omega), if_pos (by omega), show rd_T57 l0 (ki : Int) = l0.getD ki z57 by simp [rd_T57], hx, Option.bind_some, saronref00_Band.f, Option.bind_some, hy, Option.bind_some, saronref00_Band.f, Option.bind_some, if_pos (by omega), rasp_Next.f, Option.bind_some, rasp_Next.f, Option.bind_some, Int.toNat_natCast]) ?_
    generalize ht : (⟨(⟨x, y⟩ : S24), (l0.getD ki z57).f1⟩ : S57) = t
    have hget : ∀ k, k < l0.length → (l0.set ki t).getD k z57 = if k = ki then t else l0.getD k z57 := fun k _ => RaspEasier.getD_set l0 ki k t hk
    have hb2 : bookOk (l0.set ki t) lo hi l3 = true := RaspEasier.ok_of hb (by simp; omega) (by simp; omega) (by omega) fun k hk' => by
      rw [List.length_set] at hk'
      rw [hget k hk']
      split
      · have := RaspEasier.toolsOk hb ki hk
        rw [← ht]
        unfold toolOk isIn at this ⊢
        simp only [Bool.and_eq_true, decide_eq_true_eq] at this ⊢
        omega
      · exact RaspEasier.toolsOk hb k hk'
    have hle1 : (strk l0 lo' hi' 0 o m).2 ≤ (strk l0 lo hi 0 o m).2 :=
      cmp hs hs (.inl rfl) (.inl rfl) hl1 hl2 (fun k hk' => ⟨k, hk', Int.le_refl _, LdLe.worst (hs.move k hk').2.1 (Int.le_refl _) (Int.le_refl _)⟩) (m.toNat + 1) o m m (by omega) (by omega) (Int.le_refl _) (by omega)
    have hle2 : (strk (l0.set ki t) lo hi 0 o m).2 ≤ (strk l0 lo hi 0 o m).2 := by
      refine cmp (sound_of hb2) hs (.inl rfl) (.inl rfl) (Int.le_refl _) (Int.le_refl _) (fun k hk' => ⟨k, by simpa using hk', ?_, ?_⟩) (m.toNat + 1) o m m (by omega) (by omega) (Int.le_refl _) (by omega)
      · rw [hget k hk']
        split
        · rename_i e; subst e; rw [← ht]; exact Int.le_refl _
        · exact Int.le_refl _
      · rw [hget k hk']
        split
        · rename_i e; subst e; rw [← ht]
          exact LdLe.worst hy1 hx1 hy2
        · exact LdLe.worst (hs.move k hk').2.1 (Int.le_refl _) (Int.le_refl _)
    obtain ⟨n1, n2⟩ := RaspEasier.next hb hin (show 0 ≤ m by omega) (by omega)
    obtain ⟨n3, n4⟩ := RaspEasier.next hb1 hin (show 0 ≤ m by omega) (by omega)
    obtain ⟨n5, n6⟩ := RaspEasier.next hb2 hin (show 0 ≤ m by omega) (by omega)
    rw [n2, n4, n6]
    exact RaspEasier.j1_f _ _ _ _ _ _ hle1 hle2 (strk_bnd l0 lo hi 0 o m).2 n1 n3 n5
  · refine ev_some fun k => ?_
    rw [if_neg hb]
    rfl
end Go.Proofs.YtfmpbkolpjlfbaaDoor
