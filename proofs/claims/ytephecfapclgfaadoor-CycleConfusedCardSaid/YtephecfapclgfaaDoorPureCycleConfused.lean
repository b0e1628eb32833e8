import Derived.Test.YtephecfapclgfaaDoorG9
set_option linter.unusedVariables false
set_option linter.unusedSimpArgs false
namespace Go.Proofs.YtephecfapclgfaaDoor.Q
open Go.RowKit Go.Proofs.YtephecfapclgfaaDoorW.PrintWords Go.Proofs.YtephecfapclgfaaDoorW.PrintLast Go.Proofs.YtephecfapclgfaaDoor.PRaspKeys Go.Proofs.YtephecfapclgfaaDoor.R

/-! ### What both of two spots strike -/
theorem lst_cong5 {h h' : Nat → Bool} : ∀ n, n ≤ 5 → (∀ i, i < 5 → h i = h' i) → lst h n = lst h' n
  | 0, _, _ => rfl
  | n + 1, hn, hh => by
    have e : ∀ h, lst h (n + 1) = if h n = true then lst h n ++ [(n : Int)] else lst h n := fun _ => rfl
    rw [e, e, lst_cong5 n (by omega) hh, hh n (by omega)]
section
variable {g : Int} {l : List S63}
def both (l : List S63) (s t : S38) (m : Nat) : List (List Int) := bothR (passR l s.f0 s.f1 m) (passR l t.f0 t.f1 m) m
theorem both_at' (p q : List (List Int)) : ∀ n k, k < n → (bothR p q n).getD k [] = (p.getD k []).filter (fun x => (q.getD k []).contains x)
  | 0, k, h => by omega
  | n + 1, k, h => by
    unfold bothR
    have hl := bothR_len p q n
    by_cases e : k = n
    · subst e
      simp [List.getD, hl]
    · rw [← both_at' p q n k (by omega)]
      simp [List.getD, List.getElem?_append_left (show k < (bothR p q n).length by omega)]
theorem both_at (l : List S63) (s t : S38) (m k : Nat) (h : k < m) : (both l s t m).getD k [] = (lst (passH l s.f0 s.f1 k) 5).filter (fun x => (lst (passH l t.f0 t.f1 k) 5).contains x) := by
  unfold both
  rw [both_at' _ _ _ _ h, passR_at _ _ _ _ _ h, passR_at _ _ _ _ _ h]
theorem both_has (l : List S63) (s t : S38) (m k : Nat) (h : k < m) (i : Nat) (hi : i < 5) : ((both l s t m).getD k []).contains (i : Int) = (passH l s.f0 s.f1 k i && passH l t.f0 t.f1 k i) := by
  rw [both_at l s t m k h]
  have h1 := lst_has (passH l s.f0 s.f1 k) 5 i
  have h2 := lst_has (passH l t.f0 t.f1 k) 5 i
  rw [show decide (i < 5) = true from decide_eq_true hi, Bool.true_and] at h1 h2
  rw [Bool.eq_iff_iff, Bool.and_eq_true, ← h1, ← h2, List.contains_iff_mem, List.contains_iff_mem, List.mem_filter]
theorem both_heard (hb : bookOk g l = true) (s t : S38) (h0 : 0 ≤ s.f0) (h1 : s.f0 < l.length) (m : Nat) (hm1 : 1 ≤ m) (hm : m ≤ 64) : heardB g (both l s t m) = true := by
  have hl : (both l s t m).length = m := bothR_len _ _ _
  unfold heardB
  rw [hl, isIn_iff.2 (by omega), Bool.true_and, List.all_eq_true]
  intro r hr
  obtain ⟨k, hk, rfl⟩ := List.getElem_of_mem hr
  have := both_at l s t m k (by omega)
  rw [getD_lt _ hk] at this
  rw [this]
  exact gr_sub _ _ _ (pass_gr hb s.f0 s.f1 h0 h1 k) _ (Int.le_refl _)
theorem both_fit1 (l : List S63) (s t : S38) (m : Nat) : ∀ k, k ≤ m → fitN l s.f0 s.f1 (both l s t m) k = true
  | 0, _ => rfl
  | k + 1, h => by
    unfold fitN
    rw [both_fit1 l s t m k (by omega), Bool.true_and]
    unfold fitK pRow
    rw [List.all_eq_true]
    intro x hx
    rw [both_at l s t m k (by omega)] at hx
    exact (lst_in _ 5 x (List.mem_filter.1 hx).1).2.2
theorem both_fit2 (l : List S63) (s t : S38) (m : Nat) : ∀ k, k ≤ m → fitN l t.f0 t.f1 (both l s t m) k = true
  | 0, _ => rfl
  | k + 1, h => by
    unfold fitN
    rw [both_fit2 l s t m k (by omega), Bool.true_and]
    unfold fitK pRow
    rw [List.all_eq_true]
    intro x hx
    rw [both_at l s t m k (by omega)] at hx
    have hc := (List.mem_filter.1 hx).2
    exact (lst_in _ 5 x (by simpa using hc)).2.2
theorem both_lost1 (l : List S63) (s t : S38) (m : Nat) : ∀ k, k ≤ m → ((lostN l s.f0 s.f1 (both l s t m) k).length : Int) = lone l s t k
  | 0, _ => rfl
  | k + 1, h => by
    have ih := both_lost1 l s t m k (by omega)
    have e : lst (missH (passH l s.f0 s.f1 k) ((both l s t m).getD k [])) 5 = lst (fun i => passH l s.f0 s.f1 k i && !passH l t.f0 t.f1 k i) 5 := lst_cong5 5 (Nat.le_refl 5) (fun i hi => by
      unfold missH
      rw [both_has l s t m k (by omega) i hi]
      cases passH l s.f0 s.f1 k i <;> cases passH l t.f0 t.f1 k i <;> rfl)
    show ((lostN l s.f0 s.f1 (both l s t m) k ++ lostK l s.f0 s.f1 (both l s t m) k).length : Int) = lone l s t k + ((lst (fun i => passH l s.f0 s.f1 k i && !passH l t.f0 t.f1 k i) 5).length : Int)
    unfold lostK pRow
    rw [List.length_append, List.length_map, e]
    omega
theorem both_lost2 (l : List S63) (s t : S38) (m : Nat) : ∀ k, k ≤ m → ((lostN l t.f0 t.f1 (both l s t m) k).length : Int) = lone l t s k
  | 0, _ => rfl
  | k + 1, h => by
    have ih := both_lost2 l s t m k (by omega)
    have e : lst (missH (passH l t.f0 t.f1 k) ((both l s t m).getD k [])) 5 = lst (fun i => passH l t.f0 t.f1 k i && !passH l s.f0 s.f1 k i) 5 := lst_cong5 5 (Nat.le_refl 5) (fun i hi => by
      unfold missH
      rw [both_has l s t m k (by omega) i hi]
      cases passH l s.f0 s.f1 k i <;> cases passH l t.f0 t.f1 k i <;> rfl)
    show ((lostN l t.f0 t.f1 (both l s t m) k ++ lostK l t.f0 t.f1 (both l s t m) k).length : Int) = lone l t s k + ((lst (fun i => passH l t.f0 t.f1 k i && !passH l s.f0 s.f1 k i) 5).length : Int)
    unfold lostK pRow
    rw [List.length_append, List.length_map, e]
    omega
theorem law12 (A : Option Addr) (c : Nat) (n0 n1 n2 : Int) (w : World) (hB : Book w A c l) :
    Calls Tryd.prog 12 #[.agg #[.int .i64 g, .slice A l.length c], .agg #[.int .i64 n0, .int .i64 n1, .int .i64 n2]] w fun e w' => e = .returned (.bool true) ∧ X.Fr0 w w' := by
  have hl0 := Int.emod_nonneg n0 (show (7 : Int) ≠ 0 by omega)
  have hl1 := Int.emod_lt_of_pos n0 (show (0 : Int) < 7 by omega)
  have hm0 := Int.emod_nonneg n1 (show (64 : Int) ≠ 0 by omega)
  have hm1 := Int.emod_lt_of_pos n1 (show (0 : Int) < 64 by omega)
  by_cases hb : bookOk g l = true
  · rcases conf_cases hb hl0 (show n0 % 7 ≤ 6 by omega) (show 1 ≤ 1 + n1 % 64 by omega) (by omega) with ⟨hC, hno⟩ | ⟨s, hs, t, ht, hC, hbf, hge⟩
    · obtain ⟨m1, m2, m3, m4⟩ := sureM_spec l (n0 % 7)
      have hlt : sureM l (n0 % 7) < 1 + n1 % 64 := by
        by_cases h1 : 1 ≤ sureM l (n0 % 7)
        · obtain ⟨s, hs, t, ht, hbf, e⟩ := m4 h1
          have := hno s hs t ht hbf
          omega
        · omega
      have hS := sureF_ok hb hl0 (show n0 % 7 ≤ 6 by omega)
      rw [if_neg (by omega)] at hS
      exact confused_none12 g A c l n0 n1 n2 w hB hb hC _ hS (by omega)
    · obtain ⟨m, hm⟩ : ∃ m : Nat, 1 + n1 % 64 = m := ⟨(1 + n1 % 64).toNat, by omega⟩
      rw [hm] at hC hge
      have hsi := spotsN_in l _ s hs
      have hti := spotsN_in l _ t ht
      have hh := both_heard hb s t hsi.1 hsi.2.1 m (by omega) (by omega)
      have hbl : (both l s t m).length = m := bothR_len _ _ _
      have hln := (untilF_iff l s t (n0 % 7) m (by omega) (by omega)).1 hge
      have hPL := placesF_ok hb hh hl0 (show n0 % 7 ≤ 6 by omega)
      have hin0 : s ∈ (spotsN l l.length).filter (fitsP l (both l s t m) (n0 % 7)) := List.mem_filter.2 ⟨hs, fitsP_iff.2 ⟨by rw [hbl]; exact both_fit1 l s t m m (Nat.le_refl _), by rw [hbl, both_lost1 l s t m m (Nat.le_refl _)]; exact hln.1⟩⟩
      have hin1 : t ∈ (spotsN l l.length).filter (fitsP l (both l s t m) (n0 % 7)) := List.mem_filter.2 ⟨ht, fitsP_iff.2 ⟨by rw [hbl]; exact both_fit2 l s t m m (Nat.le_refl _), by rw [hbl, both_lost2 l s t m m (Nat.le_refl _)]; exact hln.2⟩⟩
      have hq0 := Int.emod_nonneg n2 (show (m : Int) ≠ 0 by omega)
      have hq1 := Int.emod_lt_of_pos n2 (show 0 < (m : Int) by omega)
      have hP := passF_ok hb (isSpotB_of hsi.1 hsi.2.1 hsi.2.2.1 hsi.2.2.2) m (by omega) (by omega)
      have hQ := passF_ok hb (isSpotB_of hti.1 hti.2.1 hti.2.2.1 hti.2.2.2) m (by omega) (by omega)
      have hp5 : ∀ k, ((passR l s.f0 s.f1 m).getD k []).length ≤ 5 := fun k => by
        by_cases c : k < m
        · rw [passR_at _ _ _ _ _ c]; exact lst_len _ 5
        · rw [getD_ge _ (by rw [passR_len]; omega)]; simp
      rcases conf_cases hb hl0 (show n0 % 7 ≤ 6 by omega) (show 1 ≤ 1 + n2 % (m : Int) by omega) (by omega) with ⟨_, hno⟩ | ⟨u, _, v, _, hC2, _, _⟩
      · have := hno s hs t ht hbf
        omega
      · have hbi := befB_iff.1 hbf
        obtain ⟨s0, s1⟩ := s
        obtain ⟨t0, t1⟩ := t
        by_cases e : s0 = t0
        · subst e
          exact confused_same12 g A c l n0 n1 n2 w hB hb s0 s1 t1 m hm hC _ _ hP hQ (passR_len _ _ _ _) (passR_len _ _ _ _) hp5 _ hPL u.f0 u.f1 v.f0 v.f1 hC2 hin0 hin1 (by simp only at hbi; omega)
        · exact confused_yes12 g A c l n0 n1 n2 w hB hb s0 s1 t0 t1 m hm hC _ _ hP hQ (passR_len _ _ _ _) (passR_len _ _ _ _) hp5 _ hPL u.f0 u.f1 v.f0 v.f1 hC2 hin0 hin1 (by simp only at hbi; omega) e
  · have hbf : bookOk g l = false := by simpa using hb
    have hC : confF g l (n0 % 7) (1 + n1 % 64) = ((⟨0, 0⟩, ⟨0, 0⟩), 50) := by unfold confF; rw [no_book hb, if_neg (by omega)]
    exact confused_bad g A c l n0 n1 n2 w hB hbf hC
end
end Go.Proofs.YtephecfapclgfaaDoor.Q
namespace Go.Proofs.YtephecfapclgfaaDoor.PRaspKeys
open Go.RowKit Go.Proofs.YtephecfapclgfaaDoorW.PrintWords Go.Proofs.YtephecfapclgfaaDoorW.PrintLast Go.Proofs.YtephecfapclgfaaDoor.R
def saronlaw05_CycleConfused.f (k : Nat) (g : Int) (l : List S63) (n0 n1 n2 : Int) : Option Bool := some true
theorem saronlaw05_CycleConfused.calls (k : Nat) (a0_0 : Int) (A0_1 : Option Addr) (c0_1 : Nat) (l0_1 : List S63) (a1_0 a1_1 a1_2 : Int) (r : Bool) (w : World) (hr0_1 : Kd.C k63 w A0_1 l0_1.length l0_1) (hc0_1 : l0_1.length ≤ c0_1) (hG : Glob w) (h : saronlaw05_CycleConfused.f k a0_0 l0_1 a1_0 a1_1 a1_2 = some r) :
    Calls Tryd.prog 12 #[.agg #[.int .i64 a0_0, .slice A0_1 l0_1.length c0_1], .agg #[.int .i64 a1_0, .int .i64 a1_1, .int .i64 a1_2]] w fun e w' => e = .returned (.bool r) ∧ Below w.heap.size w w' := by
  cases Option.some.inj h
  exact (Q.law12 A0_1 c0_1 a1_0 a1_1 a1_2 w ⟨hr0_1, hc0_1, hG⟩).mono fun e w' h => ⟨h.1, fr_below h.2⟩
end Go.Proofs.YtephecfapclgfaaDoor.PRaspKeys
namespace Go.Proofs.YtephecfapclgfaaDoor
open Go.RowKit PRaspKeys R Q
theorem CycleConfused.pure (g : Int) (l : List S63) (wg : (Lit.int .i64 g).wf = true) (hs : Small l) (a b c : Int) (wa : (Lit.int .i64 a).wf = true) (wb : (Lit.int .i64 b).wf = true) (wc : (Lit.int .i64 c).wf = true) :
    ∃ k, saronlaw05_CycleConfused.f k g l a b c = some true := ⟨0, rfl⟩
end Go.Proofs.YtephecfapclgfaaDoor
