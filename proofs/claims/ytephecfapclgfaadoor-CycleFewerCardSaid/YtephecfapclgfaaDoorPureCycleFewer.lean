import Derived.Test.YtephecfapclgfaaDoorG11
set_option linter.unusedVariables false
set_option linter.unusedSimpArgs false
namespace Go.Proofs.YtephecfapclgfaaDoor.Q
open Go.RowKit Go.Proofs.YtephecfapclgfaaDoorW.PrintWords Go.Proofs.YtephecfapclgfaaDoorW.PrintLast Go.Proofs.YtephecfapclgfaaDoor.PRaspKeys Go.Proofs.YtephecfapclgfaaDoor.R

/-! ### The law CycleFewer -/
section
variable {g : Int} {l : List S63}
theorem one_le (x : Int) : ∀ L : List Int, L.Pairwise (· < ·) → (∀ y ∈ L, y = x) → L.length ≤ 1
  | [], _, _ => by simp
  | [y], _, _ => by simp
  | y :: z :: t, hp, h => by
    have h1 := h y List.mem_cons_self
    have h2 := h z (List.mem_cons_of_mem _ List.mem_cons_self)
    have := (List.pairwise_cons.1 hp).1 z List.mem_cons_self
    omega
theorem heard_gr {p : List (List Int)} (hh : heardB g p = true) (k : Nat) (hk : k < p.length) : gr g (-1) (p.getD k []) = true := by
  unfold heardB at hh
  simp only [Bool.and_eq_true, List.all_eq_true] at hh
  rw [getD_lt _ hk]
  exact hh.2 _ (List.getElem_mem _)
theorem more_gr {r : List Int} {gong : Int} {gn : Nat} (hg : g = (gn : Int)) (hr : ∀ x ∈ r, 0 ≤ x ∧ x < g) (h1 : gong < g) : gr g (-1) (moreR r gong gn) = true := by
  unfold moreR
  refine gr_lst _ g (fun i hi => ?_) gn
  rw [Bool.or_eq_true, decide_eq_true_eq] at hi
  rcases hi with e | e
  · omega
  · exact (hr _ (by simpa using e)).2
theorem more_has {r : List Int} {gong : Int} {gn : Nat} (hg : g = (gn : Int)) (hr : ∀ x ∈ r, 0 ≤ x ∧ x < g) : ∀ x ∈ r, x ∈ moreR r gong gn := fun x hx => by
  have hi := hr x hx
  have hl := lst_has (fun i => decide ((i : Int) = gong) || r.contains (i : Int)) gn x.toNat
  rw [Int.toNat_of_nonneg hi.1] at hl
  have : (moreR r gong gn).contains x = true := by
    unfold moreR
    rw [hl]
    simp [hx]
    omega
  simpa using this
theorem more_len {r : List Int} {gong : Int} {gn : Nat} (hg : g = (gn : Int)) (hgr : gr g (-1) r = true) (hr : ∀ x ∈ r, 0 ≤ x ∧ x < g) (h1 : gong < g) : (moreR r gong gn).length ≤ r.length + 1 := by
  have hp := gr_pw _ _ (more_gr (gong := gong) hg hr h1)
  have h := left_out (moreR r gong gn) r hp (gr_pw _ _ hgr) (more_has hg hr)
  have := one_le gong _ (hp.filter (fun x => !r.contains x)) (fun y hy => by
    obtain ⟨a, b⟩ := List.mem_filter.1 hy
    have hb := (lst_in _ gn y a).2.2
    have hy0 := (lst_in _ gn y a).1
    rw [Int.toNat_of_nonneg hy0, Bool.or_eq_true, decide_eq_true_eq] at hb
    rcases hb with e | e
    · exact e
    · rw [e] at b; cases b)
  omega
theorem heard_more {p : List (List Int)} (hh : heardB g p = true) {k : Nat} {row : List Int} (h : gr g (-1) row = true) : heardB g (p.set k row) = true := by
  unfold heardB at hh ⊢
  simp only [Bool.and_eq_true, List.all_eq_true] at hh ⊢
  refine ⟨by rw [List.length_set]; exact hh.1, fun r hr => ?_⟩
  rcases List.mem_or_eq_of_mem_set hr with e | e
  · exact hh.2 r e
  · rw [e]; exact h
theorem getD_set (p : List (List Int)) (k : Nat) (row : List Int) (j : Nat) : (p.set k row).getD j [] = if k = j ∧ k < p.length then row else p.getD j [] := by
  by_cases e : k = j
  · subst e
    by_cases c : k < p.length
    · rw [if_pos ⟨rfl, c⟩, getD_lt _ (by rw [List.length_set]; exact c), List.getElem_set_self]
    · rw [if_neg (fun h => c h.2), getD_ge _ (by rw [List.length_set]; omega), getD_ge _ (by omega)]
  · rw [if_neg (fun h => e h.1)]
    simp only [List.getD, List.getElem?_set_ne e]
theorem fit_more (l : List S63) (a b : Int) {p : List (List Int)} {k : Nat} {row : List Int} (hs : ∀ x ∈ p.getD k [], x ∈ row) : ∀ n, fitN l a b (p.set k row) n = true → fitN l a b p n = true
  | 0, _ => rfl
  | n + 1, h => by
    unfold fitN at h ⊢
    rw [Bool.and_eq_true] at h ⊢
    refine ⟨fit_more l a b hs n h.1, ?_⟩
    have h2 := h.2
    unfold fitK pRow at h2 ⊢
    rw [List.all_eq_true] at h2 ⊢
    intro x hx
    refine h2 x ?_
    rw [getD_set]
    split
    · next c => rw [← c.1] at hx; exact hs x hx
    · exact hx
theorem miss_more (l : List S63) (a b : Int) {p : List (List Int)} {k : Nat} {row : List Int} (hs : row.length ≤ (p.getD k []).length + 1) : ∀ n, missN l a b p n ≤ missN l a b (p.set k row) n + (if k < n then 1 else 0)
  | 0 => by unfold missN; simp
  | n + 1 => by
    have := miss_more l a b hs n
    unfold missN
    rw [getD_set]
    by_cases e : k = n
    · subst e
      rw [if_neg (by omega)] at this
      rw [if_pos (show k < k + 1 by omega)]
      split <;> omega
    · rw [if_neg (fun h => e h.1)]
      by_cases c : k < n
      · rw [if_pos c] at this
        rw [if_pos (show k < n + 1 by omega)]
        omega
      · rw [if_neg c] at this
        rw [if_neg (show ¬ k < n + 1 by omega)]
        omega
theorem law10 (A : Option Addr) (c : Nat) (Ap : Option Addr) (cp : Nat) (p : List (List Int)) (n0 n1 n2 : Int) (w : World) (hB : Book w A c l) (hr : Kd.C (Kd.slice 3 (Kd.int .i64)) w Ap p.length p) (hc : p.length ≤ cp) :
    Calls Tryd.prog 10 #[.agg #[.int .i64 g, .slice A l.length c], .slice Ap p.length cp, .agg #[.int .i64 n0, .int .i64 n1, .int .i64 n2]] w fun e w' => e = .returned (.bool true) ∧ X.Fr0 w w' := by
  have ha0 := Int.emod_nonneg n0 (show (6 : Int) ≠ 0 by omega)
  have ha1 := Int.emod_lt_of_pos n0 (show (0 : Int) < 6 by omega)
  by_cases hb : bookOk g l = true
  · by_cases hh : heardB g p = true
    · obtain ⟨q1, q2, q3, q4⟩ := heard_rows hb hh
      have hgo := gong_of hb
      obtain ⟨gn, hg⟩ := Int.eq_ofNat_of_zero_le (show 0 ≤ g by omega)
      have hgg0 := Int.emod_nonneg n2 (show g ≠ 0 by omega)
      have hgg1 := Int.emod_lt_of_pos n2 (show (0 : Int) < g by omega)
      have hk0 := Int.emod_nonneg n1 (show (p.length : Int) ≠ 0 by omega)
      have hk1 := Int.emod_lt_of_pos n1 (show (0 : Int) < p.length by omega)
      obtain ⟨k, hk⟩ := Int.eq_ofNat_of_zero_le hk0
      have hkp : k < p.length := by omega
      have hbt := beats_of hb
      have h4 := hbt.len
      have hsl := spotsN_len hbt l.length (Nat.le_refl _)
      have hm1 := more_gr (gong := n2 % g) hg (q4 k) hgg1
      have hh3 := heard_more (k := k) hh hm1
      have hfl := List.length_filter_le (fitsP l p (n0 % 6)) (spotsN l l.length)
      have hfl3 := List.length_filter_le (fitsP l (p.set k (moreR (p.getD k []) (n2 % g) gn)) (n0 % 6)) (spotsN l l.length)
      have hspec := least_spec p (l := l) (spotsN l l.length) (-1) (by omega)
      have hL := leastF_ok hb hh
      refine fewer_ok g A c l Ap cp p n0 n1 n2 w hB hr hc hb gn hg (by omega) (by omega) _ _ _ _ _ (placesF_ok hb hh ha0 (by omega)) (placesF_ok hb hh (by omega) (by omega)) (show leastF g l p = ((leastF g l p).1, (leastF g l p).2) from rfl) ?_ ?_ (by omega) q1 q2 k hkp hk (placesF_ok hb hh3 ha0 (by omega)) ?_ (by omega)
      · rw [hL]
        obtain ⟨s1, _, s3, s4⟩ := hspec
        change (∀ s ∈ spotsN l l.length, _ → 0 ≤ leastN l p ∧ leastN l p ≤ _) at s1
        change 0 ≤ leastN l p → (_ ∧ leastN l p = -1) ∨ ∃ s ∈ spotsN l l.length, _ ∧ leastN l p = _ at s4
        by_cases hn : leastN l p < 0
        · rw [if_pos hn]
          refine .inr ⟨rfl, ?_⟩
          rw [List.filter_eq_nil_iff]
          intro s hs hf
          have := (s1 s hs (fitsP_iff.1 hf).1).1
          omega
        · rw [if_neg hn]
          refine .inl ⟨rfl, by simp only; omega, ?_⟩
          rw [List.length_pos_iff_exists_mem]
          constructor
          · rintro ⟨s, hs⟩
            obtain ⟨a, b⟩ := List.mem_filter.1 hs
            obtain ⟨b1, b2⟩ := fitsP_iff.1 b
            have := (s1 s a b1).2
            simp only
            omega
          · intro h
            simp only at h
            rcases s4 (by omega) with ⟨x, _⟩ | ⟨s, hs, hf, e⟩
            · omega
            · exact ⟨s, List.mem_filter.2 ⟨hs, fitsP_iff.2 ⟨hf, by omega⟩⟩⟩
      · intro s hs
        obtain ⟨a, b⟩ := List.mem_filter.1 hs
        obtain ⟨b1, b2⟩ := fitsP_iff.1 b
        exact List.mem_filter.2 ⟨a, fitsP_iff.2 ⟨b1, by omega⟩⟩
      · intro s hs
        obtain ⟨a, b⟩ := List.mem_filter.1 hs
        obtain ⟨b1, b2⟩ := fitsP_iff.1 b
        obtain ⟨i0, i1, _, _⟩ := spotsN_in l _ s a
        have hf := fit_more l s.f0 s.f1 (more_has (gong := n2 % g) hg (q4 k)) _ b1
        have hm := miss_more l s.f0 s.f1 (more_len (gong := n2 % g) hg (heard_gr hh k hkp) (q4 k) hgg1) p.length
        have e1 := miss_lost hb hh s.f0 s.f1 i0 (by omega) p.length (Nat.le_refl _) (by rwa [List.length_set] at hf)
        have e2 := miss_lost hb hh3 s.f0 s.f1 i0 (by omega) _ (Nat.le_refl _) b1
        rw [List.length_set] at hf e2 b2
        rw [if_pos hkp] at hm
        exact List.mem_filter.2 ⟨a, fitsP_iff.2 ⟨hf, by omega⟩⟩
    · rw [Bool.not_eq_true] at hh
      have hE : openE g l false = 51 := by unfold openE; rw [if_pos hb, if_neg (by simp)]
      have hP : ∀ n, placesF g l p n = ([], 51) := fun n => by
        unfold placesF okPlaces
        rw [hh, Bool.false_and, hE, if_neg (by omega)]
      have hL : leastF g l p = (0, 51) := by
        unfold leastF okLeast
        rw [hh, hE, if_neg (by omega)]
      exact fewer_err g A c l Ap cp p n0 n1 n2 w hB hr hc 51 (.inr rfl) (hP _) (hP _) hL
  · have hP : ∀ n, placesF g l p n = ([], 50) := fun n => by
      unfold placesF
      rw [no_book hb, if_neg (by omega)]
    have hL : leastF g l p = (0, 50) := by
      unfold leastF
      rw [no_book hb, if_neg (by omega)]
    exact fewer_err g A c l Ap cp p n0 n1 n2 w hB hr hc 50 (.inl rfl) (hP _) (hP _) hL
end
end Go.Proofs.YtephecfapclgfaaDoor.Q
namespace Go.Proofs.YtephecfapclgfaaDoor.PRaspKeys
open Go.RowKit Go.Proofs.YtephecfapclgfaaDoorW.PrintWords Go.Proofs.YtephecfapclgfaaDoorW.PrintLast Go.Proofs.YtephecfapclgfaaDoor.R
def saronlaw05_CycleFewer.f (k : Nat) (g : Int) (l : List S63) (p : List (List Int)) (n0 n1 n2 : Int) : Option Bool := some true
theorem saronlaw05_CycleFewer.calls (k : Nat) (a0_0 : Int) (A0_1 : Option Addr) (c0_1 : Nat) (l0_1 : List (S63)) (A1 : Option Addr) (c1 : Nat) (l1 : List (List Int)) (a2_0 : Int) (a2_1 : Int) (a2_2 : Int) (r : Bool) (w : World) (hr0_1 : Kd.C k63 w A0_1 l0_1.length l0_1) (hc0_1 : l0_1.length ≤ c0_1) (hr1 : Kd.C (Kd.slice 3 (Kd.int .i64)) w A1 l1.length l1) (hc1 : l1.length ≤ c1) (hG : Glob w) (h : saronlaw05_CycleFewer.f k a0_0 l0_1 l1 a2_0 a2_1 a2_2 = some r) :
    Calls Tryd.prog 10 #[.agg #[.int .i64 a0_0, .slice A0_1 l0_1.length c0_1], .slice A1 l1.length c1, .agg #[.int .i64 a2_0, .int .i64 a2_1, .int .i64 a2_2]] w fun e w' => e = .returned (.bool r) ∧ Below w.heap.size w w' := by
  cases Option.some.inj h
  exact (Q.law10 A0_1 c0_1 A1 c1 l1 a2_0 a2_1 a2_2 w ⟨hr0_1, hc0_1, hG⟩ hr1 hc1).mono fun e w' h => ⟨h.1, fr_below h.2⟩
end Go.Proofs.YtephecfapclgfaaDoor.PRaspKeys
namespace Go.Proofs.YtephecfapclgfaaDoor
open Go.RowKit PRaspKeys R Q
theorem CycleFewer.pure (g : Int) (l : List S63) (wg : (Lit.int .i64 g).wf = true) (hs : Small l) (p : List (List Int)) (hp0 : p.length ≤ 9223372036854775807) (hp1 : ∀ r ∈ p, r.length ≤ 9223372036854775807) (a b c : Int) (wa : (Lit.int .i64 a).wf = true) (wb : (Lit.int .i64 b).wf = true) (wc : (Lit.int .i64 c).wf = true) :
    ∃ k, saronlaw05_CycleFewer.f k g l p a b c = some true := ⟨0, rfl⟩
end Go.Proofs.YtephecfapclgfaaDoor
