import Derived.Test.YtephecfapclgfaaDoorQ0
import Derived.Test.YtephecfapclgfaaDoorG4
import Derived.Test.YtephecfapclgfaaDoorCA
set_option linter.unusedVariables false
set_option linter.unusedSimpArgs false
namespace Go.Proofs.YtephecfapclgfaaDoor.Q
open Go.RowKit Go.Proofs.YtephecfapclgfaaDoorW.PrintWords Go.Proofs.YtephecfapclgfaaDoorW.PrintLast Go.Proofs.YtephecfapclgfaaDoor.PRaspKeys Go.Proofs.YtephecfapclgfaaDoor.R

/-! ### What a sound book is -/
theorem getD_ge {α : Type} {l : List α} {n : Nat} (d : α) (h : l.length ≤ n) : l.getD n d = d := by simp [List.getD, List.getElem?_eq_none h]
theorem getD_lt {α : Type} {l : List α} {n : Nat} (d : α) (h : n < l.length) : l.getD n d = l[n] := by simp [List.getD, List.getElem?_eq_getElem h]
theorem lst_gt (h : Nat → Bool) : ∀ (n m : Nat), (∀ i, n ≤ i → h i = false) → lst h (n + m) = lst h n
  | n, 0, _ => rfl
  | n, m + 1, hh => by
    show (if h (n + m) = true then lst h (n + m) ++ [((n + m : Nat) : Int)] else lst h (n + m)) = _
    rw [hh (n + m) (by omega), if_neg (by simp)]
    exact lst_gt h n m hh
theorem lst_five (h : Nat → Bool) (n : Nat) (hn : n ≤ 5) (hh : ∀ i, n ≤ i → h i = false) : lst h 5 = lst h n := by
  have := lst_gt h n (5 - n) hh
  rwa [show n + (5 - n) = 5 by omega] at this
theorem row_none {l : List S63} {f : Int} {g : Nat} (h : (rd_T63 l f).f1.length ≤ g) : row l f g = [] := by
  unfold row
  rw [getD_ge _ h]
theorem hits_none {l : List S63} {f b : Int} {g : Nat} (h : (rd_T63 l f).f1.length ≤ g) : hits l f b g = false := by
  unfold hits
  rw [row_none h]
  rfl
theorem rd_L1_row (l : List S63) (f : Int) (n : Nat) : rd_L1 (rd_T63 l f).f1 (n : Int) = row l f n := by
  simp [rd_L1, row]
section
variable {g : Int} {l : List S63}
theorem rowlen (hs : Small l) {f : Int} (h1 : f < l.length) (h0 : 0 ≤ f) (n : Nat) : (row l f n).length ≤ 9223372036854775807 := by
  unfold row
  by_cases c : n < (rd_T63 l f).f1.length
  · rw [getD_lt _ c]
    have hm : rd_T63 l f ∈ l := by
      unfold rd_T63
      rw [getD_lt _ (show f.toNat < l.length by omega)]
      exact List.getElem_mem _
    exact (hs.2 _ hm).2 _ (List.getElem_mem c)
  · rw [getD_ge _ (by omega)]
    simp
theorem struck_l0 (hs : Small l) (hb : bookOk g l = true) (form beat : Int) (h0 : 0 ≤ form) (h1 : form < l.length) (hb0 : 0 ≤ beat) : ∀ (d n : Nat), (n : Int) + d = g →
    Ev (fun k => saronref05_struck.l0 k beat (lst (hits l form (beat % (rd_T63 l form).f0)) n) (n : Int) g l (rd_T63 l form).f0 (rd_T63 l form).f1) (lst (hits l form (beat % (rd_T63 l form).f0)) (n + d))
  | 0, n, hd => by
    refine Ev.step (fun k => by rw [saronref05_struck.l0, if_neg (by omega)]) ?_
    exact Ev.now _
  | d + 1, n, hd => by
    have h2 := (beats_of hb).two form h0 h1
    have hlen := form_len hb h0 h1
    have hg := gong_of hb
    have hw := where_f (row l form n) (beat % (rd_T63 l form).f0) (rowlen hs h1 h0 n)
    have hll := lst_len (hits l form (beat % (rd_T63 l form).f0)) n
    refine Ev.step (fun k => by rw [saronref05_struck.l0, if_pos (by omega), if_pos (by omega), if_pos (by omega), if_neg (by omega), rd_L1_row, rem_eq hb0, w64 (x := (n : Int) + 1) (by omega) (by omega), show ((n : Int) + 1) = ((n + 1 : Nat) : Int) by omega]) ?_
    refine ebind hw ?_
    have ih := struck_l0 hs hb form beat h0 h1 hb0 d (n + 1) (by omega)
    rw [show n + 1 + d = n + (d + 1) by omega] at ih
    by_cases c : wh (beat % (rd_T63 l form).f0) 0 (row l form n) ≥ 0
    · refine evc (fun k => by rw [if_pos c, if_pos (by omega)]) ?_
      have hh : hits l form (beat % (rd_T63 l form).f0) n = true := (wh_iff _ _ 0 (by omega)).1 c
      rw [show lst (hits l form (beat % (rd_T63 l form).f0)) (n + 1) = lst (hits l form (beat % (rd_T63 l form).f0)) n ++ [(n : Int)] by show (if _ then _ else _) = _; rw [if_pos hh]] at ih
      exact ih
    · refine evc (fun k => by rw [if_neg c]) ?_
      have hh : hits l form (beat % (rd_T63 l form).f0) n = false := (wh_lt _ _ 0 (by omega)).1 (by omega)
      rw [show lst (hits l form (beat % (rd_T63 l form).f0)) (n + 1) = lst (hits l form (beat % (rd_T63 l form).f0)) n by show (if _ then _ else _) = _; rw [if_neg (by rw [hh]; simp)]] at ih
      exact ih
theorem struck_f (hs : Small l) (hb : bookOk g l = true) (form beat : Int) (h0 : 0 ≤ form) (h1 : form < l.length) (hb0 : 0 ≤ beat) :
    Ev (fun k => saronref05_struck.f k g l form beat) (lst (hits l form (beat % (rd_T63 l form).f0)) 5) := by
  have hlen := form_len hb h0 h1
  have hg := gong_of hb
  refine evc (fun k => by rw [saronref05_struck.f, if_pos h0, if_pos h1]) ?_
  have := struck_l0 hs hb form beat h0 h1 hb0 g.toNat 0 (by omega)
  rw [Nat.zero_add, ← lst_five _ g.toNat (by omega) (fun i hi => hits_none (by omega))] at this
  exact this
/-! ### Struck -/
theorem Struck_f (hs : Small l) (form beat : Int) : Ev (fun k => saronref05_Struck.f k g l form beat) (struckF g l form beat) := by
  have key : ∀ ok : Bool, (ok = true → 0 ≤ form ∧ form < l.length ∧ 0 ≤ beat) →
      Ev (fun k => (saronref05_asked.f k g l ok).bind fun t => (if t = 0 then ((saronref05_struck.f k g l form beat).bind fun t' => (some (t', (0 : Int)))) else (some (([] : List Int), t))))
        (if openE g l ok = 0 then (lst (hits l form (beat % (rd_T63 l form).f0)) 5, 0) else ([], openE g l ok)) := fun ok hok => by
    refine ebind (asked_f g l hs ok) ?_
    by_cases hz : openE g l ok = 0
    · obtain ⟨hb, ho⟩ := openE_ok hz
      obtain ⟨h0, h1, h2⟩ := hok ho
      refine evc (fun k => by rw [if_pos hz]) ?_
      rw [if_pos hz]
      exact ebind (struck_f hs hb form beat h0 h1 h2) (Ev.now _)
    · refine evc (fun k => by rw [if_neg hz]) ?_
      rw [if_neg hz]
      exact Ev.now _
  unfold struckF okStruck
  by_cases c : isIn form 0 ((l.length : Int) - 1) = true
  · refine evc (fun k => by rw [saronref05_Struck.f, isForm_f g l hs.1, Option.bind_some, if_pos c, sits_f, Option.bind_some]) ?_
    rw [c, Bool.true_and]
    rw [isIn_iff] at c
    exact key _ (fun h => by rw [isIn_iff] at h; omega)
  · refine evc (fun k => by rw [saronref05_Struck.f, isForm_f g l hs.1, Option.bind_some, if_neg c]) ?_
    rw [Bool.not_eq_true] at c
    rw [c, Bool.false_and]
    exact key false (fun h => by cases h)
/-! ### Next -/
theorem lst_has (h : Nat → Bool) : ∀ (n m : Nat), (lst h n).contains (m : Int) = (decide (m < n) && h m)
  | 0, m => by simp [lst]
  | n + 1, m => by
    have ih := lst_has h n m
    have e : lst h (n + 1) = if h n = true then lst h n ++ [(n : Int)] else lst h n := rfl
    rw [e]
    by_cases c : h n = true
    · rw [if_pos c, List.contains_append, ih]
      by_cases hm : m = n
      · subst hm; simp [c]
      · have h1 : ¬ (m : Int) = (n : Int) := by omega
        have h2 : decide (m < n + 1) = decide (m < n) := by by_cases h3 : m < n <;> simp [h3] <;> omega
        rw [h2]
        simp [h1]
    · rw [if_neg c, ih]
      by_cases hm : m = n
      · subst hm; simp [c]
      · have h2 : decide (m < n + 1) = decide (m < n) := by by_cases h3 : m < n <;> simp [h3] <;> omega
        rw [h2]
theorem nxtD_is (p : Int → Bool) (b : Int) (n : Nat) (hn : n < 33) (hp : p (b + n) = true) (hlt : ∀ i : Nat, i < n → p (b + i) = false) : nxtD p 33 b = n := by
  obtain ⟨h1, h2, h3⟩ := nxtD_spec p 33 b n hn hp
  by_cases c : nxtD p 33 b < n
  · rw [hlt _ c] at h2; cases h2
  · by_cases c2 : n < nxtD p 33 b
    · rw [h3 n c2] at hp; cases hp
    · omega
theorem hit_cycle (hb : bookOk g l = true) {form : Int} (h0 : 0 ≤ form) (h1 : form < l.length) (gn : Nat) (hr : row l form gn ≠ []) (beat : Int) (hb0 : 0 ≤ beat) :
    ∃ j : Nat, (j : Int) < (rd_T63 l form).f0 ∧ hitB l form gn (beat + j) = true := by
  obtain ⟨x, xs, hx⟩ := List.exists_cons_of_ne_nil hr
  have hxm : x ∈ row l form gn := by rw [hx]; exact List.mem_cons_self
  have hi := row_in hb h0 h1 gn x hxm
  have h2 := (beats_of hb).two form h0 h1
  have e1 := Int.emod_nonneg (x - beat) (show (rd_T63 l form).f0 ≠ 0 by omega)
  have e2 := Int.emod_lt_of_pos (x - beat) (show 0 < (rd_T63 l form).f0 by omega)
  refine ⟨((x - beat) % (rd_T63 l form).f0).toNat, by omega, ?_⟩
  unfold hitB hits
  rw [Int.toNat_of_nonneg e1, show (beat + (x - beat) % (rd_T63 l form).f0) % (rd_T63 l form).f0 = x by rw [Int.add_emod, Int.emod_emod, ← Int.add_emod, show beat + (x - beat) = x by omega]; exact Int.emod_eq_of_lt hi.1 hi.2]
  simpa using hxm
theorem next_l0 (hs : Small l) (hb : bookOk g l = true) (form : Int) (gn : Nat) (beat : Int) (h0 : 0 ≤ form) (h1 : form < l.length) (hg : (gn : Int) < g) (hb0 : 0 ≤ beat) (hb1 : beat ≤ 1000000) : ∀ (d n : Nat), (n : Int) + d = (rd_T63 l form).f0 →
    (∀ i : Nat, i < n → hitB l form gn (beat + i) = false) →
    Ev (fun k => saronref05_Next.l0 k form gn beat (n : Int) g l) (if row l form gn = [] then (0, 4) else (nextB l form gn beat, 0))
  | 0, n, hd, hno => by
    have hr : row l form gn = [] := by
      apply Decidable.byContradiction
      intro hr
      obtain ⟨j, hj, hh⟩ := hit_cycle hb h0 h1 gn hr beat hb0
      rw [hno j (by omega)] at hh
      cases hh
    refine Ev.step (fun k => by rw [saronref05_Next.l0, if_pos h0, if_pos h1, if_neg (by omega)]) ?_
    rw [if_pos hr]
    exact Ev.now _
  | d + 1, n, hd, hno => by
    have h2 := (beats_of hb).two form h0 h1
    have hg5 := gong_of hb
    refine Ev.step (fun k => by rw [saronref05_Next.l0, if_pos h0, if_pos h1, if_pos (by omega), w64 (x := beat + n) (by omega) (by omega), w64 (x := (n : Int) + 1) (by omega) (by omega), show ((n : Int) + 1) = ((n + 1 : Nat) : Int) by omega]) ?_
    refine ebind (struck_f hs hb form (beat + n) h0 h1 (by omega)) ?_
    have hll := lst_len (hits l form ((beat + n) % (rd_T63 l form).f0)) 5
    refine ebind (where_f _ _ (by omega)) ?_
    have hc : (lst (hits l form ((beat + n) % (rd_T63 l form).f0)) 5).contains (gn : Int) = hitB l form gn (beat + n) := by
      rw [lst_has]
      simp [show gn < 5 by omega, hitB]
    by_cases c : wh (gn : Int) 0 (lst (hits l form ((beat + n) % (rd_T63 l form).f0)) 5) ≥ 0
    · have hh := (wh_iff _ _ 0 (by omega)).1 c
      rw [hc] at hh
      have hr : row l form gn ≠ [] := by
        intro hr
        unfold hitB hits at hh
        rw [hr] at hh
        cases hh
      refine evc (fun k => by rw [if_pos c]) ?_
      rw [if_neg hr]
      unfold nextB
      rw [nxtD_is _ beat n (by omega) hh hno]
      exact Ev.now _
    · have hh := (wh_lt _ _ 0 (by omega)).1 (show wh (gn : Int) 0 (lst (hits l form ((beat + n) % (rd_T63 l form).f0)) 5) < 0 by omega)
      rw [hc] at hh
      refine evc (fun k => by rw [if_neg c]) ?_
      exact next_l0 hs hb form gn beat h0 h1 hg hb0 hb1 d (n + 1) (by omega) (fun i hi => by
        by_cases e : i = n
        · subst e; exact hh
        · exact hno i (by omega))
theorem wf_in {n : Int} (h : (Lit.int .i64 n).wf = true) : -9223372036854775808 ≤ n ∧ n ≤ 9223372036854775807 := by simp [Lit.wf] at h; exact h
theorem no_book (hb : ¬ bookOk g l = true) (ok : Bool) : openE g l ok = 50 := by unfold openE; rw [if_neg hb]
theorem Next_no (hs : Small l) (hb : ¬ bookOk g l = true) (form gong beat : Int) : Ev (fun k => saronref05_Next.f k g l form gong beat) (nextF g l form gong beat) := by
  have key : ∀ ok : Bool, Ev (fun k => (saronref05_asked.f k g l ok).bind fun t => (saronref05_Next.j0 k form gong beat t g l)) (0, 50) := fun ok => by
    refine ebind (asked_f g l hs ok) ?_
    rw [no_book hb]
    refine Ev.step (fun k => by rw [saronref05_Next.j0, if_neg (by omega)]) ?_
    exact Ev.now _
  unfold nextF
  rw [if_neg (by rw [no_book hb]; omega), no_book hb]
  by_cases c : isIn form 0 ((l.length : Int) - 1) = true
  · by_cases c2 : isIn gong 0 (wrap64 (g - 1)) = true
    · refine evc (fun k => by rw [saronref05_Next.f, isForm_f g l hs.1, Option.bind_some, if_pos c, saronref05_isGong.f, sits_f, Option.bind_some, Option.bind_some, if_pos c2, sits_f, Option.bind_some]) ?_
      exact key _
    · refine evc (fun k => by rw [saronref05_Next.f, isForm_f g l hs.1, Option.bind_some, if_pos c, saronref05_isGong.f, sits_f, Option.bind_some, Option.bind_some, if_neg c2]) ?_
      exact key _
  · refine evc (fun k => by rw [saronref05_Next.f, isForm_f g l hs.1, Option.bind_some, if_neg c]) ?_
    exact key _
theorem Next_f (hs : Small l) (form gong beat : Int) : Ev (fun k => saronref05_Next.f k g l form gong beat) (nextF g l form gong beat) := by
  by_cases hbk : bookOk g l = true
  case neg => exact Next_no hs hbk form gong beat
  have hgw := gong_of hbk
  have key : ∀ ok : Bool, (ok = true → 0 ≤ form ∧ form < l.length ∧ 0 ≤ gong ∧ gong < g ∧ 0 ≤ beat ∧ beat ≤ 100000) →
      Ev (fun k => (saronref05_asked.f k g l ok).bind fun t => (saronref05_Next.j0 k form gong beat t g l))
        (if openE g l ok = 0 then (if row l form gong.toNat = [] then (0, 4) else (nextB l form gong.toNat beat, 0)) else (0, openE g l ok)) := fun ok hok => by
    refine ebind (asked_f g l hs ok) ?_
    by_cases hz : openE g l ok = 0
    · obtain ⟨hb, ho⟩ := openE_ok hz
      obtain ⟨h0, h1, h2, h3, h4, h5⟩ := hok ho
      refine Ev.step (fun k => by rw [saronref05_Next.j0, if_pos hz]) ?_
      rw [if_pos hz]
      have ht := (beats_of hb).two form h0 h1
      have := next_l0 hs hb form gong.toNat beat h0 h1 (by omega) h4 (by omega) (rd_T63 l form).f0.toNat 0 (by omega) (fun i hi => by omega)
      rw [Int.toNat_of_nonneg h2] at this
      exact this
    · refine Ev.step (fun k => by rw [saronref05_Next.j0, if_neg hz]) ?_
      rw [if_neg hz]
      exact Ev.now _
  unfold nextF okNext
  by_cases c : isIn form 0 ((l.length : Int) - 1) = true
  · by_cases c2 : isIn gong 0 (g - 1) = true
    · refine evc (fun k => by rw [saronref05_Next.f, isForm_f g l hs.1, Option.bind_some, if_pos c, saronref05_isGong.f, sits_f, w64 (x := g - 1) (by omega) (by omega), Option.bind_some, Option.bind_some, if_pos c2, sits_f, Option.bind_some]) ?_
      rw [c, c2, Bool.true_and, Bool.true_and]
      rw [isIn_iff] at c c2
      exact key _ (fun h => by rw [isIn_iff] at h; omega)
    · refine evc (fun k => by rw [saronref05_Next.f, isForm_f g l hs.1, Option.bind_some, if_pos c, saronref05_isGong.f, sits_f, w64 (x := g - 1) (by omega) (by omega), Option.bind_some, Option.bind_some, if_neg c2]) ?_
      rw [Bool.not_eq_true] at c2
      rw [c, c2, Bool.true_and, Bool.false_and]
      exact key false (fun h => by cases h)
  · refine evc (fun k => by rw [saronref05_Next.f, isForm_f g l hs.1, Option.bind_some, if_neg c]) ?_
    rw [Bool.not_eq_true] at c
    rw [c, Bool.false_and, Bool.false_and]
    exact key false (fun h => by cases h)
end
end Go.Proofs.YtephecfapclgfaaDoor.Q
namespace Go.Proofs.YtephecfapclgfaaDoor.Q
open Go.RowKit Go.Proofs.YtephecfapclgfaaDoorW.PrintWords Go.Proofs.YtephecfapclgfaaDoorW.PrintLast Go.Proofs.YtephecfapclgfaaDoor.PRaspKeys Go.Proofs.YtephecfapclgfaaDoor.R

/-! ### Even: how far each stroke is from the next -/
theorem gr_lt {b : Int} : ∀ (r : List Int) (last : Int), gr b last r = true → ∀ (i j : Nat), i < j → j < r.length → r.getD i 0 < r.getD j 0
  | [], last, h, i, j, hij, hj => by simp at hj
  | x :: xs, last, h, i, j, hij, hj => by
    unfold gr at h
    rw [Bool.and_eq_true] at h
    match i, j with
    | _, 0 => omega
    | 0, j + 1 =>
      have hj' : j < xs.length := by simpa using hj
      have := gr_in xs x h.2 xs[j] (List.getElem_mem hj')
      simpa [hj'] using this.1
    | i + 1, j + 1 =>
      have := gr_lt xs x h.2 i j (by omega) (by simpa using hj)
      simpa using this
section
variable {g : Int} {l : List S63}
theorem row_gr (hb : bookOk g l = true) {form : Int} (h0 : 0 ≤ form) (h1 : form < l.length) (gn : Nat) : gr (rd_T63 l form).f0 (-1) (row l form gn) = true := by
  unfold bookOk at hb
  simp only [Bool.and_eq_true, List.all_eq_true] at hb
  have hm : rd_T63 l form ∈ l := by
    unfold rd_T63
    rw [getD_lt _ (show form.toNat < l.length by omega)]
    exact List.getElem_mem _
  have hf := hb.2 _ hm
  unfold formOk rowsOk at hf
  simp only [Bool.and_eq_true, List.all_eq_true] at hf
  unfold row
  by_cases c : gn < (rd_T63 l form).f1.length
  · rw [getD_lt _ c]
    exact hf.2.2.1 _ (List.getElem_mem c)
  · rw [getD_ge _ (by omega)]
    rfl
/-- What comes after a stroke of a row, in the cycle. -/
def aft (B : Int) (r : List Int) (i : Nat) : Int := if i + 1 < r.length then r.getD (i + 1) 0 - r.getD i 0 else r.getD 0 0 + B - r.getD i 0
theorem mem_getD {r : List Int} {x : Int} (h : x ∈ r) : ∃ i, i < r.length ∧ r.getD i 0 = x := by
  obtain ⟨i, hi, e⟩ := List.getElem_of_mem h
  exact ⟨i, hi, by simpa [hi] using e⟩
theorem gap_aft (hb : bookOk g l = true) {form : Int} (h0 : 0 ≤ form) (h1 : form < l.length) (gn : Nat) (i : Nat) (hi : i < (row l form gn).length) :
    gapB l form gn ((row l form gn).getD i 0) = aft (rd_T63 l form).f0 (row l form gn) i := by
  have hgr := row_gr hb h0 h1 gn
  have h2 := (beats_of hb).two form h0 h1
  have hin : ∀ k, k < (row l form gn).length → 0 ≤ (row l form gn).getD k 0 ∧ (row l form gn).getD k 0 < (rd_T63 l form).f0 := fun k hk => by
    have := row_in hb h0 h1 gn (row l form gn)[k] (List.getElem_mem hk)
    simpa [hk] using this
  have hlt := gr_lt _ _ hgr
  have hhit : ∀ b : Int, hitB l form gn b = true ↔ ∃ k, k < (row l form gn).length ∧ (row l form gn).getD k 0 = b % (rd_T63 l form).f0 := fun b => by
    unfold hitB hits
    constructor
    · intro h
      exact mem_getD (by simpa using h)
    · rintro ⟨k, hk, e⟩
      rw [← e]
      simp [hk]
  have hi' := hin i hi
  unfold gapB nextB aft
  by_cases c : i + 1 < (row l form gn).length
  · rw [if_pos c]
    have hn := hlt i (i + 1) (by omega) c
    have hin' := hin (i + 1) c
    rw [nxtD_is _ _ ((row l form gn).getD (i + 1) 0 - (row l form gn).getD i 0 - 1).toNat (by omega) ?_ ?_]
    · omega
    · rw [hhit]
      refine ⟨i + 1, c, ?_⟩
      rw [show (row l form gn).getD i 0 + 1 + (((row l form gn).getD (i + 1) 0 - (row l form gn).getD i 0 - 1).toNat : Int) = (row l form gn).getD (i + 1) 0 by omega]
      exact (Int.emod_eq_of_lt hin'.1 hin'.2).symm
    · intro t ht
      rw [← Bool.not_eq_true, hhit]
      rintro ⟨k, hk, e⟩
      rw [Int.emod_eq_of_lt (by omega) (by omega)] at e
      by_cases c1 : k ≤ i
      · rcases Nat.lt_or_eq_of_le c1 with c2 | c2
        · have := hlt k i c2 hi; omega
        · subst c2; omega
      · rcases Nat.lt_or_eq_of_le (show i + 1 ≤ k by omega) with c2 | c2
        · have := hlt (i + 1) k c2 hk; omega
        · subst c2; omega
  · rw [if_neg c]
    have hin0 := hin 0 (by omega)
    rw [nxtD_is _ _ ((row l form gn).getD 0 0 + (rd_T63 l form).f0 - (row l form gn).getD i 0 - 1).toNat ?_ ?_ ?_]
    · omega
    · have : (row l form gn).getD 0 0 ≤ (row l form gn).getD i 0 := by
        rcases Nat.eq_zero_or_pos i with c2 | c2
        · subst c2; omega
        · have := hlt 0 i c2 hi; omega
      omega
    · rw [hhit]
      refine ⟨0, by omega, ?_⟩
      rw [show (row l form gn).getD i 0 + 1 + (((row l form gn).getD 0 0 + (rd_T63 l form).f0 - (row l form gn).getD i 0 - 1).toNat : Int) = (row l form gn).getD 0 0 + (rd_T63 l form).f0 by omega]
      rw [Int.add_emod_right]
      exact (Int.emod_eq_of_lt hin0.1 hin0.2).symm
    · intro t ht
      rw [← Bool.not_eq_true, hhit]
      rintro ⟨k, hk, e⟩
      have hki : k ≤ i := by omega
      have h3 : (row l form gn).getD k 0 ≤ (row l form gn).getD i 0 := by
        rcases Nat.lt_or_eq_of_le hki with c2 | c2
        · have := hlt k i c2 hi; omega
        · subst c2; omega
      have h4 : (row l form gn).getD 0 0 ≤ (row l form gn).getD k 0 := by
        rcases Nat.eq_zero_or_pos k with c2 | c2
        · subst c2; omega
        · have := hlt 0 k c2 hk; omega
      by_cases c1 : (row l form gn).getD i 0 + 1 + (t : Int) < (rd_T63 l form).f0
      · rw [Int.emod_eq_of_lt (by omega) c1] at e; omega
      · rw [show (row l form gn).getD i 0 + 1 + (t : Int) = ((row l form gn).getD i 0 + 1 + (t : Int) - (rd_T63 l form).f0) + (rd_T63 l form).f0 by omega, Int.add_emod_right, Int.emod_eq_of_lt (by omega) (by omega)] at e
        omega
open Classical in
theorem even_l0 (B : Int) (hB : 2 ≤ B ∧ B ≤ 32) (r : List Int) (hl : r.length ≤ 9223372036854775807) (hin : ∀ k, k < r.length → 0 ≤ r.getD k 0 ∧ r.getD k 0 < B) (far : Int) : ∀ (d n : Nat), n + d = r.length → 1 ≤ n →
    Ev (fun k => saronref05_Even.l0 k r far (n : Int)) (if (∀ i, n ≤ i → i < r.length → r.getD i 0 - r.getD (i - 1) 0 = far) then (far, 0) else (0, 4))
  | 0, n, hd, hn => by
    refine Ev.step (fun k => by rw [saronref05_Even.l0, if_neg (by omega)]) ?_
    rw [if_pos (fun i h1 h2 => by omega)]
    exact Ev.now _
  | d + 1, n, hd, hn => by
    have hi := hin n (by omega)
    have hi' := hin (n - 1) (by omega)
    refine Ev.step (fun k => by rw [saronref05_Even.l0, if_pos (by omega), if_pos (by omega), w64 (x := (n : Int) - 1) (by omega) (by omega), if_pos (by omega), if_pos (by omega), show ((n : Int) - 1) = ((n - 1 : Nat) : Int) by omega, rd_nat, rd_nat, w64 (x := r.getD n 0 - r.getD (n - 1) 0) (by omega) (by omega), w64 (x := (n : Int) + 1) (by omega) (by omega), show ((n : Int) + 1) = ((n + 1 : Nat) : Int) by omega]) ?_
    by_cases c : r.getD n 0 - r.getD (n - 1) 0 = far
    · refine evc (fun k => by rw [if_pos c]) ?_
      have ih := even_l0 B hB r hl hin far d (n + 1) (by omega) (by omega)
      have e : (∀ i, n ≤ i → i < r.length → r.getD i 0 - r.getD (i - 1) 0 = far) ↔ (∀ i, n + 1 ≤ i → i < r.length → r.getD i 0 - r.getD (i - 1) 0 = far) :=
        ⟨fun h i h1 h2 => h i (by omega) h2, fun h i h1 h2 => by
          rcases Nat.lt_or_eq_of_le h1 with c1 | c1
          · exact h i c1 h2
          · subst c1; exact c⟩
      simp only [e]
      exact ih
    · refine evc (fun k => by rw [if_neg c]) ?_
      rw [if_neg (fun h => c (h n (Nat.le_refl _) (by omega)))]
      exact Ev.now _
open Classical in
theorem all_gaps (hb : bookOk g l = true) {form : Int} (h0 : 0 ≤ form) (h1 : form < l.length) (gn : Nat) (hr : row l form gn ≠ []) :
    evenR l form gn (row l form gn) = (if (∀ i, 1 ≤ i → i < (row l form gn).length → (row l form gn).getD i 0 - (row l form gn).getD (i - 1) 0 = (row l form gn).getD 0 0 + (rd_T63 l form).f0 - (row l form gn).getD ((row l form gn).length - 1) 0) then ((row l form gn).getD 0 0 + (rd_T63 l form).f0 - (row l form gn).getD ((row l form gn).length - 1) 0, 0) else (0, 4)) := by
  have hgap := fun i hi => gap_aft hb h0 h1 gn i hi
  generalize row l form gn = r at hr hgap ⊢
  obtain ⟨x, xs, rfl⟩ := List.exists_cons_of_ne_nil hr
  show (if (x :: xs).all (fun y => gapB l form gn y == gapB l form gn x) = true then (gapB l form gn x, (0 : Int)) else (0, 4)) = _
  have hlast := hgap xs.length (by simp)
  have e0 : aft (rd_T63 l form).f0 (x :: xs) xs.length = (x :: xs).getD 0 0 + (rd_T63 l form).f0 - (x :: xs).getD xs.length 0 := by unfold aft; rw [if_neg (by simp)]
  have hx0 := hgap 0 (by simp)
  rw [show (x :: xs).getD 0 0 = x from rfl] at hx0
  have hlen : (x :: xs).length - 1 = xs.length := by simp
  have hiff : ((x :: xs).all (fun y => gapB l form gn y == gapB l form gn x) = true) ↔ (∀ i, 1 ≤ i → i < (x :: xs).length → (x :: xs).getD i 0 - (x :: xs).getD (i - 1) 0 = (x :: xs).getD 0 0 + (rd_T63 l form).f0 - (x :: xs).getD xs.length 0) := by
    rw [List.all_eq_true]
    constructor
    · intro h i h1' h2'
      have ha : ∀ k, k < (x :: xs).length → aft (rd_T63 l form).f0 (x :: xs) k = gapB l form gn x := fun k hk => by
        have := h _ (List.getElem_mem hk)
        rw [beq_iff_eq] at this
        rw [← hgap k hk, ← this, getD_lt _ hk]
      have h3 := ha (i - 1) (by omega)
      have h4 := ha xs.length (by simp)
      unfold aft at h3
      rw [if_pos (by omega), show i - 1 + 1 = i by omega] at h3
      rw [h3, ← h4, e0]
    · intro h y hy
      obtain ⟨k, hk, rfl⟩ := mem_getD hy
      have ha : ∀ k, k < (x :: xs).length → aft (rd_T63 l form).f0 (x :: xs) k = (x :: xs).getD 0 0 + (rd_T63 l form).f0 - (x :: xs).getD xs.length 0 := fun k hk => by
        by_cases c : k = xs.length
        · subst c; exact e0
        · have hk' : k + 1 < (x :: xs).length := by simp at hk ⊢; omega
          have := h (k + 1) (by omega) hk'
          unfold aft
          rw [if_pos hk']
          exact this
      rw [beq_iff_eq, hgap k hk, hx0, ha k hk, ha 0 (by simp)]
  rw [hlen]
  by_cases c : (∀ i, 1 ≤ i → i < (x :: xs).length → (x :: xs).getD i 0 - (x :: xs).getD (i - 1) 0 = (x :: xs).getD 0 0 + (rd_T63 l form).f0 - (x :: xs).getD xs.length 0)
  · rw [if_pos (hiff.2 c), if_pos c]
    have h4 := (List.all_eq_true.1 (hiff.2 c)) _ (List.getElem_mem (show xs.length < (x :: xs).length by simp))
    rw [beq_iff_eq] at h4
    rw [← h4, ← e0, ← hlast]
    simp
  · rw [if_neg (fun h => c (hiff.1 h)), if_neg c]
theorem Even_no (hs : Small l) (hb : ¬ bookOk g l = true) (form gong : Int) : Ev (fun k => saronref05_Even.f k g l form gong) (evenF g l form gong) := by
  have key : ∀ ok : Bool, Ev (fun k => (saronref05_asked.f k g l ok).bind fun t => (saronref05_Even.j0 k form gong t g l)) (0, 50) := fun ok => by
    refine ebind (asked_f g l hs ok) ?_
    rw [no_book hb]
    refine Ev.step (fun k => by rw [saronref05_Even.j0, if_neg (by omega)]) ?_
    exact Ev.now _
  unfold evenF
  rw [if_neg (by rw [no_book hb]; omega), no_book hb]
  by_cases c : isIn form 0 ((l.length : Int) - 1) = true
  · refine evc (fun k => by rw [saronref05_Even.f, isForm_f g l hs.1, Option.bind_some, if_pos c, saronref05_isGong.f, sits_f, Option.bind_some, Option.bind_some]) ?_
    exact key _
  · refine evc (fun k => by rw [saronref05_Even.f, isForm_f g l hs.1, Option.bind_some, if_neg c]) ?_
    exact key _
open Classical in
theorem Even_f (hs : Small l) (form gong : Int) : Ev (fun k => saronref05_Even.f k g l form gong) (evenF g l form gong) := by
  by_cases hbk : bookOk g l = true
  case neg => exact Even_no hs hbk form gong
  have hgw := gong_of hbk
  have key : ∀ ok : Bool, (ok = true → 0 ≤ form ∧ form < l.length ∧ 0 ≤ gong ∧ gong < g) →
      Ev (fun k => (saronref05_asked.f k g l ok).bind fun t => (saronref05_Even.j0 k form gong t g l))
        (if openE g l ok = 0 then evenR l form gong.toNat (row l form gong.toNat) else (0, openE g l ok)) := fun ok hok => by
    refine ebind (asked_f g l hs ok) ?_
    by_cases hz : openE g l ok = 0
    · obtain ⟨hb, ho⟩ := openE_ok hz
      obtain ⟨h0, h1, h2, h3⟩ := hok ho
      have hlen := form_len hb h0 h1
      have hrl : rd_L1 (rd_T63 l form).f1 gong = row l form gong.toNat := by rw [← rd_L1_row, Int.toNat_of_nonneg h2]
      rw [if_pos hz]
      refine Ev.step (fun k => by rw [saronref05_Even.j0, if_pos hz, if_pos h0, if_pos h1, if_pos h2, if_pos (by omega), hrl]) ?_
      by_cases hr : row l form gong.toNat = []
      · refine evc (fun k => by rw [if_pos (by rw [hr]; rfl)]) ?_
        rw [hr]
        exact Ev.now _
      · have hpos : 0 < (row l form gong.toNat).length := List.length_pos_iff.2 hr
        have hrw := rowlen hs h1 h0 gong.toNat
        have ht := (beats_of hb).two form h0 h1
        have hin : ∀ k, k < (row l form gong.toNat).length → 0 ≤ (row l form gong.toNat).getD k 0 ∧ (row l form gong.toNat).getD k 0 < (rd_T63 l form).f0 := fun k hk => by
          have := row_in hb h0 h1 gong.toNat (row l form gong.toNat)[k] (List.getElem_mem hk)
          simpa [hk] using this
        have i0 := hin 0 hpos
        have i1 := hin ((row l form gong.toNat).length - 1) (by omega)
        rw [all_gaps hb h0 h1 gong.toNat hr]
        refine evc (fun k => by rw [if_neg (by omega), if_pos (by omega), w64 (x := ((row l form gong.toNat).length : Int) - 1) (by omega) (by omega), if_pos (by omega), if_pos (by omega), show (((row l form gong.toNat).length : Int) - 1) = (((row l form gong.toNat).length - 1 : Nat) : Int) by omega, show rd (row l form gong.toNat) 0 = (row l form gong.toNat).getD 0 0 from rd_nat _ 0, rd_nat, w64 (x := (row l form gong.toNat).getD 0 0 + (rd_T63 l form).f0) (by omega) (by omega), w64 (x := (row l form gong.toNat).getD 0 0 + (rd_T63 l form).f0 - (row l form gong.toNat).getD ((row l form gong.toNat).length - 1) 0) (by omega) (by omega)]) ?_
        exact even_l0 _ ht _ hrw hin _ ((row l form gong.toNat).length - 1) 1 (by omega) (by omega)
    · refine Ev.step (fun k => by rw [saronref05_Even.j0, if_neg hz]) ?_
      rw [if_neg hz]
      exact Ev.now _
  unfold evenF okEven
  by_cases c : isIn form 0 ((l.length : Int) - 1) = true
  · refine evc (fun k => by rw [saronref05_Even.f, isForm_f g l hs.1, Option.bind_some, if_pos c, saronref05_isGong.f, sits_f, w64 (x := g - 1) (by omega) (by omega), Option.bind_some, Option.bind_some]) ?_
    rw [c, Bool.true_and]
    rw [isIn_iff] at c
    exact key _ (fun h => by rw [isIn_iff] at h; omega)
  · refine evc (fun k => by rw [saronref05_Even.f, isForm_f g l hs.1, Option.bind_some, if_neg c]) ?_
    rw [Bool.not_eq_true] at c
    rw [c, Bool.false_and]
    exact key false (fun h => by cases h)
end
end Go.Proofs.YtephecfapclgfaaDoor.Q
