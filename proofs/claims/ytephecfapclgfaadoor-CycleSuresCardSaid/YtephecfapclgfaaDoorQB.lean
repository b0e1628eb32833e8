import Derived.Test.YtephecfapclgfaaDoorQW
import Derived.Test.YtephecfapclgfaaDoorC0
set_option linter.unusedVariables false
set_option linter.unusedSimpArgs false
namespace Go.Proofs.YtephecfapclgfaaDoor.Q
open Go.RowKit Go.Proofs.YtephecfapclgfaaDoorW.PrintWords Go.Proofs.YtephecfapclgfaaDoorW.PrintLast Go.Proofs.YtephecfapclgfaaDoor.PRaspKeys Go.Proofs.YtephecfapclgfaaDoor.R

/-! ### Check, and what is asked of a book -/
section
variable (g : Int) (l : List S63)
theorem rcheck_l1 (hg5 : g ≤ 5) (x4 : Int) (b : Int) (hb : 2 ≤ b ∧ b ≤ 32) (rows : List (List Int)) (hr : ∀ r ∈ rows, r.length ≤ 9223372036854775807) (hl : (rows.length : Int) = g) {R : Int} : ∀ (d n : Nat), n + d = rows.length →
    Ev (fun k => saronref05_Check.l0 k (rowsFrom b rows n) (wrap64 (x4 + 1)) g l) R → Ev (fun k => saronref05_Check.l0 k false (wrap64 (x4 + 1)) g l) 50 → Ev (fun k => saronref05_Check.l1 k true x4 (n : Int) g l b rows) R
  | 0, n, hd, h, h50 => by
    refine Ev.step (fun k => by rw [saronref05_Check.l1, if_pos rfl, show decide ((n : Int) < g) = false from decide_eq_false (by omega)]) ?_
    refine Ev.step (fun k => by rw [saronref05_Check.j5, if_neg (by simp)]) ?_
    have e : rowsFrom b rows n = true := by
      unfold rowsFrom
      rw [List.drop_of_length_le (by omega)]
      split
      · have : rows = [] := List.eq_nil_of_length_eq_zero (by omega)
        subst this; rfl
      · rfl
    rw [e] at h
    exact h
  | d + 1, n, hd, h, h50 => by
    have hn : n < rows.length := by omega
    have hg : rd_L1 rows (n : Int) = rows[n] := by simp [rd_L1, hn]
    refine Ev.step (fun k => by rw [saronref05_Check.l1, if_pos rfl, show decide ((n : Int) < g) = true from decide_eq_true (by omega)]) ?_
    have hstep : rowsFrom b rows n = (gr b (-1) rows[n] && ((if n = 0 then rows[n] == [b - 1] else true) && rowsFrom b rows (n + 1))) := by
      unfold rowsFrom
      rw [List.drop_eq_getElem_cons hn, List.all_cons, if_neg (show ¬ n + 1 = 0 by omega), Bool.and_true]
      split
      · rename_i e
        subst e
        match rows, hn with
        | r :: rs, _ => simp [Bool.and_comm, Bool.and_assoc, Bool.and_left_comm]
      · simp
    have hno : ∀ n' : Int, Ev (fun k => saronref05_Check.l1 k false x4 n' g l b rows) 50 := fun n' => by
      refine Ev.step (fun k => by rw [saronref05_Check.l1, if_neg (by simp)]) ?_
      exact Ev.step (fun k => by rw [saronref05_Check.j5, if_neg (by simp)]) h50
    rw [hstep] at h
    refine Ev.step (fun k => by rw [saronref05_Check.j5, if_pos rfl, if_pos (by omega), if_pos (by omega), hg, w64 (x := (n : Int) + 1) (by omega) (by omega), w64 (x := b - 1) (by omega) (by omega), show ((n : Int) + 1) = ((n + 1 : Nat) : Int) by omega]) ?_
    refine ebind (rgrows_f b rows[n] (hr _ (List.getElem_mem hn))) ?_
    by_cases c : gr b (-1) rows[n] = true
    · rw [c, Bool.true_and] at h
      by_cases h0 : n = 0
      · subst h0
        refine evc (fun k => by rw [if_pos c, if_neg (by omega), if_pos (by omega), show rd_L1 rows 0 = rows[0] from hg]) ?_
        rw [if_pos rfl] at h
        refine ebind (equal_one rows[0] (b - 1) (hr _ (List.getElem_mem hn))) ?_
        cases e : (rows[0] == [b - 1])
        · rw [e, Bool.false_and] at h
          have : R = 50 := ev_uniq h h50
          subst this
          exact hno _
        · rw [e, Bool.true_and] at h
          exact rcheck_l1 hg5 x4 b hb rows hr hl d 1 (by omega) h h50
      · refine evc (fun k => by rw [if_pos c, if_pos (by omega)]) ?_
        rw [if_neg h0, Bool.true_and] at h
        exact rcheck_l1 hg5 x4 b hb rows hr hl d (n + 1) (by omega) h h50
    · refine evc (fun k => by rw [if_neg c]) ?_
      rw [Bool.not_eq_true] at c
      rw [c, Bool.false_and] at h
      have : R = 50 := ev_uniq h h50
      subst this
      exact hno _
theorem rcheck_no (x4 : Int) : Ev (fun k => saronref05_Check.l0 k false x4 g l) 50 := by
  refine Ev.step (fun k => by rw [saronref05_Check.l0, if_neg (by simp)]) ?_
  refine Ev.step (fun k => by rw [saronref05_Check.j2, if_neg (by simp), if_neg (by simp)]) ?_
  exact Ev.now 50
theorem rcheck_l0 (hg5 : g ≤ 5) (hs : Small l) : ∀ (d n : Nat), n + d = l.length →
    Ev (fun k => saronref05_Check.l0 k true (n : Int) g l) (if ((l.drop n).all (formOk g)) = true then 0 else 50)
  | 0, n, hd => by
    refine Ev.step (fun k => by rw [saronref05_Check.l0, if_pos rfl, show decide ((n : Int) < (l.length : Int)) = false from decide_eq_false (by omega)]) ?_
    refine Ev.step (fun k => by rw [saronref05_Check.j2, if_neg (by simp), if_pos rfl]) ?_
    rw [List.drop_of_length_le (by omega)]
    exact Ev.now 0
  | d + 1, n, hd => by
    have hl := hs.1
    have hn : n < l.length := by omega
    have hg : rd_T63 l (n : Int) = l[n] := by simp [rd_T63, hn]
    obtain ⟨hr1, hr2⟩ := hs.2 _ (List.getElem_mem hn)
    refine Ev.step (fun k => by rw [saronref05_Check.l0, if_pos rfl, show decide ((n : Int) < (l.length : Int)) = true from decide_eq_true (by omega)]) ?_
    refine Ev.step (fun k => by rw [saronref05_Check.j2, if_pos rfl, if_pos (by omega), if_pos (by omega), hg, sits_f, Option.bind_some]) ?_
    rw [List.drop_eq_getElem_cons hn, List.all_cons]
    have e0 : wrap64 ((n : Int) + 1) = ((n + 1 : Nat) : Int) := by rw [w64 (by omega) (by omega)]; omega
    have no : ∀ {R : Int}, R = 50 → Ev (fun k => saronref05_Check.j3 k false (n : Int) g l l[n].f0 l[n].f1) R := by
      rintro R rfl
      refine Ev.step (fun k => by rw [saronref05_Check.j3]) ?_
      refine Ev.step (fun k => by rw [saronref05_Check.l1, if_neg (by simp)]) ?_
      refine Ev.step (fun k => by rw [saronref05_Check.j5, if_neg (by simp)]) ?_
      exact rcheck_no g l _
    unfold formOk
    by_cases c : isIn l[n].f0 2 32 = true
    · refine evc (fun k => by rw [if_pos c]) ?_
      rw [c, Bool.true_and]
      cases e : ((l[n].f1.length : Int) == g)
      · exact no (by simp)
      · refine Ev.step (fun k => by rw [saronref05_Check.j3]) ?_
        refine rcheck_l1 g l hg5 _ l[n].f0 (isIn_iff.1 c) l[n].f1 hr2 (by simpa using e) l[n].f1.length 0 (by omega) ?_ (rcheck_no g l _)
        rw [rows_from, e0, Bool.true_and]
        cases rowsOk l[n].f0 l[n].f1
        · simpa using rcheck_no g l _
        · rw [Bool.true_and]
          exact rcheck_l0 hg5 hs d (n + 1) (by omega)
    · refine evc (fun k => by rw [if_neg c]) ?_
      refine no ?_
      rw [Bool.not_eq_true] at c
      rw [c]
      simp
theorem rcheck_f (hs : Small l) : Ev (fun k => saronref05_Check.f k g l) (checkE g l) := by
  refine evc (fun k => by rw [saronref05_Check.f, sits_f, Option.bind_some]) ?_
  unfold checkE bookOk
  have hno : Ev (fun k => saronref05_Check.j0 k false g l) 50 := Ev.step (fun k => by rw [saronref05_Check.j0]) (rcheck_no g l _)
  by_cases c : isIn g 1 5 = true
  · refine evc (fun k => by rw [if_pos c]) ?_
    rw [c, Bool.true_and]
    unfold isIn
    by_cases c1 : (l.length : Int) ≥ 1
    · refine evc (fun k => by rw [if_pos c1]) ?_
      rw [show decide ((1 : Int) ≤ (l.length : Int)) = true from decide_eq_true (by omega), Bool.true_and]
      cases e : decide ((l.length : Int) ≤ 4)
      · exact hno
      · refine Ev.step (fun k => by rw [saronref05_Check.j0]) ?_
        have := rcheck_l0 g l (isIn_iff.1 c).2 hs l.length 0 (by omega)
        rwa [List.drop_zero] at this
    · refine evc (fun k => by rw [if_neg c1]) ?_
      rw [show decide ((1 : Int) ≤ (l.length : Int)) = false from decide_eq_false (by omega), Bool.false_and, Bool.false_and]
      exact hno
  · refine evc (fun k => by rw [if_neg c]) ?_
    rw [Bool.not_eq_true] at c
    rw [c, Bool.false_and, Bool.false_and]
    exact hno
theorem asked_f (hs : Small l) (ok : Bool) : Ev (fun k => saronref05_asked.f k g l ok) (openE g l ok) := by
  refine evc (fun k => by rw [saronref05_asked.f]) ?_
  refine ebind (rcheck_f g l hs) ?_
  unfold checkE openE
  by_cases c : bookOk g l = true
  · refine evc (fun k => by rw [if_pos c, if_pos rfl]) ?_
    rw [if_pos c]
    cases ok
    · exact Ev.now 51
    · exact Ev.now 0
  · refine evc (fun k => by rw [if_neg c, if_neg (by omega)]) ?_
    rw [if_neg c]
    exact Ev.now 50
theorem isForm_f (hl : l.length ≤ 9223372036854775807) (f : Int) : saronref05_isForm.f g l f = some (isIn f 0 ((l.length : Int) - 1)) := by
  rw [saronref05_isForm.f, sits_f, w64 (by omega) (by omega)]; rfl
theorem isGong_f (hg : -1000 ≤ g ∧ g ≤ 9223372036854775807) (n : Int) : saronref05_isGong.f g l n = some (isIn n 0 (g - 1)) := by
  rw [saronref05_isGong.f, sits_f, w64 (by omega) (by omega)]; rfl
end
end Go.Proofs.YtephecfapclgfaaDoor.Q
namespace Go.Proofs.YtephecfapclgfaaDoor.Q
open Go.RowKit Go.Proofs.YtephecfapclgfaaDoorW.PrintWords Go.Proofs.YtephecfapclgfaaDoorW.PrintLast Go.Proofs.YtephecfapclgfaaDoor.PRaspKeys Go.Proofs.YtephecfapclgfaaDoor.R

section
variable {g : Int} {l : List S63}
theorem struck_l0 (hs : Small l) (hb : bookOk g l = true) (form beat : Int) (h0 : 0 ≤ form) (h1 : form < l.length) (hb0 : 0 ≤ beat) : ∀ (d n : Nat), (n : Int) + d = g →
    Ev (fun k => saronref05_struck.l0 k beat (lst (hits l form (beat % (rd_T63 l form).f0)) n) (n : Int) g l (rd_T63 l form).f0 (rd_T63 l form).f1) (lst (hits l form (beat % (rd_T63 l form).f0)) (n + d))
  | 0, n, hd => by
    refine Ev.step (fun k => by rw [saronref05_struck.l0, if_neg (by omega)]) ?_
    exact Ev.now _
  | d + 1, n, hd => by
    have h2 := (beats_of hb).two form h0 h1
    have hlen := form_len hb h0 h1
    have hg := gong_of hb
    have hw := where_f (row l form n) (beat % (rd_T63 l form).f0) (rowlen hs h1 h0 n)
    have hll := lst_len (hits l form (beat % (rd_T63 l form).f0)) n
    refine Ev.step (fun k => by rw [saronref05_struck.l0, if_pos (by omega), if_pos (by omega), if_pos (by omega), if_neg (by omega), rd_L1_row, rem_eq hb0, w64 (x := (n : Int) + 1) (by omega) (by omega), show ((n : Int) + 1) = ((n + 1 : Nat) : Int) by omega]) ?_
    refine ebind hw ?_
    have ih := struck_l0 hs hb form beat h0 h1 hb0 d (n + 1) (by omega)
    rw [show n + 1 + d = n + (d + 1) by omega] at ih
    by_cases c : wh (beat % (rd_T63 l form).f0) 0 (row l form n) ≥ 0
    · refine evc (fun k => by rw [if_pos c, if_pos (by omega)]) ?_
      have hh : hits l form (beat % (rd_T63 l form).f0) n = true := (wh_iff _ _ 0 (by omega)).1 c
      rw [show lst (hits l form (beat % (rd_T63 l form).f0)) (n + 1) = lst (hits l form (beat % (rd_T63 l form).f0)) n ++ [(n : Int)] by show (if _ then _ else _) = _; rw [if_pos hh]] at ih
      exact ih
    · refine evc (fun k => by rw [if_neg c]) ?_
      have hh : hits l form (beat % (rd_T63 l form).f0) n = false := (wh_lt _ _ 0 (by omega)).1 (by omega)
      rw [show lst (hits l form (beat % (rd_T63 l form).f0)) (n + 1) = lst (hits l form (beat % (rd_T63 l form).f0)) n by show (if _ then _ else _) = _; rw [if_neg (by rw [hh]; simp)]] at ih
      exact ih
theorem struck_f (hs : Small l) (hb : bookOk g l = true) (form beat : Int) (h0 : 0 ≤ form) (h1 : form < l.length) (hb0 : 0 ≤ beat) :
    Ev (fun k => saronref05_struck.f k g l form beat) (lst (hits l form (beat % (rd_T63 l form).f0)) 5) := by
  have hlen := form_len hb h0 h1
  have hg := gong_of hb
  refine evc (fun k => by rw [saronref05_struck.f, if_pos h0, if_pos h1]) ?_
  have := struck_l0 hs hb form beat h0 h1 hb0 g.toNat 0 (by omega)
  rw [Nat.zero_add, ← lst_five _ g.toNat (by omega) (fun i hi => hits_none (by omega))] at this
  exact this
end
end Go.Proofs.YtephecfapclgfaaDoor.Q
