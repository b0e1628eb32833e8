import Derived.Test.YtfdenclnneigfaaDoorQH0
import Derived.Test.YtfdenclnneigfaaDoorC0
set_option linter.unusedVariables false
set_option linter.unusedSimpArgs false
namespace Go.Proofs.YtfdenclnneigfaaDoor.Q
open Go.RowKit Go.Proofs.YtfdenclnneigfaaDoorW.PrintWords Go.Proofs.YtfdenclnneigfaaDoorW.PrintLast Go.Proofs.YtfdenclnneigfaaDoor.PRaspKeys Go.Proofs.YtfdenclnneigfaaDoor.R
/-- What any book's rows are: none longer than Go has. -/
def Small (l : List S114) : Prop := l.length ≤ 9223372036854775807 ∧ ∀ f ∈ l, f.f1.length ≤ 9223372036854775807 ∧ ∀ r ∈ f.f1, r.length ≤ 9223372036854775807

/-! ### Check, and what is asked of a book -/
section
variable (g : Int) (l : List S114)
theorem rcheck_l1 (hg5 : g ≤ 5) (x4 : Int) (b : Int) (hb : 2 ≤ b ∧ b ≤ 32) (rows : List (List Int)) (hr : ∀ r ∈ rows, r.length ≤ 9223372036854775807) (hl : (rows.length : Int) = g) {R : Int} : ∀ (d n : Nat), n + d = rows.length →
    Ev (fun k => saronref05_Check.l0 k (rowsFrom b rows n) (wrap64 (x4 + 1)) g l) R → Ev (fun k => saronref05_Check.l0 k false (wrap64 (x4 + 1)) g l) 50 → Ev (fun k => saronref05_Check.l1 k true x4 (n : Int) g l b rows) R
  | 0, n, hd, h, h50 => by
    refine Ev.step (fun k => by rw [saronref05_Check.l1, if_pos rfl, show decide ((n : Int) < g) = false from decide_eq_false (by omega)]) ?_
    refine Ev.step (fun k => by rw [saronref05_Check.j5, if_neg (by simp)]) ?_
    have e : rowsFrom b rows n = true := by
      unfold rowsFrom
      rw [List.drop_of_length_le (by omega)]
      split
      · have : rows = [] := List.eq_nil_of_length_eq_zero (by omega)
        subst this; rfl
      · rfl
    rw [e] at h
    exact h
  | d + 1, n, hd, h, h50 => by
    have hn : n < rows.length := by omega
    have hg : rd_L1 rows (n : Int) = rows[n] := by simp [rd_L1, hn]
    refine Ev.step (fun k => by rw [saronref05_Check.l1, if_pos rfl, show decide ((n : Int) < g) = true from decide_eq_true (by omega)]) ?_
    have hstep : rowsFrom b rows n = (gr b (-1) rows[n] && ((if n = 0 then rows[n] == [b - 1] else true) && rowsFrom b rows (n + 1))) := by
      unfold rowsFrom
      rw [List.drop_eq_getElem_cons hn, List.all_cons, if_neg (show ¬ n + 1 = 0 by omega), Bool.and_true]
      split
      · rename_i e
        subst e
        match rows, hn with
        | r :: rs, _ => simp [Bool.and_comm, Bool.and_assoc, Bool.and_left_comm]
      · simp
    have hno : ∀ n' : Int, Ev (fun k => saronref05_Check.l1 k false x4 n' g l b rows) 50 := fun n' => by
      refine Ev.step (fun k => by rw [saronref05_Check.l1, if_neg (by simp)]) ?_
      exact Ev.step (fun k => by rw [saronref05_Check.j5, if_neg (by simp)]) h50
    rw [hstep] at h
    refine Ev.step (fun k => by rw [saronref05_Check.j5, if_pos rfl, if_pos (by omega), if_pos (by omega), hg, w64 (x := (n : Int) + 1) (by omega) (by omega), w64 (x := b - 1) (by omega) (by omega), show ((n : Int) + 1) = ((n + 1 : Nat) : Int) by omega]) ?_
    refine ebind (rgrows_f b rows[n] (hr _ (List.getElem_mem hn))) ?_
    by_cases c : gr b (-1) rows[n] = true
    · rw [c, Bool.true_and] at h
      by_cases h0 : n = 0
      · subst h0
        refine evc (fun k => by rw [if_pos c, if_neg (by omega), if_pos (by omega), show rd_L1 rows 0 = rows[0] from hg]) ?_
        rw [if_pos rfl] at h
        refine ebind (equal_one rows[0] (b - 1) (hr _ (List.getElem_mem hn))) ?_
        cases e : (rows[0] == [b - 1])
        · rw [e, Bool.false_and] at h
          have : R = 50 := ev_uniq h h50
          subst this
          exact hno _
        · rw [e, Bool.true_and] at h
          exact rcheck_l1 hg5 x4 b hb rows hr hl d 1 (by omega) h h50
      · refine evc (fun k => by rw [if_pos c, if_pos (by omega)]) ?_
        rw [if_neg h0, Bool.true_and] at h
        exact rcheck_l1 hg5 x4 b hb rows hr hl d (n + 1) (by omega) h h50
    · refine evc (fun k => by rw [if_neg c]) ?_
      rw [Bool.not_eq_true] at c
      rw [c, Bool.false_and] at h
      have : R = 50 := ev_uniq h h50
      subst this
      exact hno _
theorem rcheck_no (x4 : Int) : Ev (fun k => saronref05_Check.l0 k false x4 g l) 50 := by
  refine Ev.step (fun k => by rw [saronref05_Check.l0, if_neg (by simp)]) ?_
  refine Ev.step (fun k => by rw [saronref05_Check.j2, if_neg (by simp), if_neg (by simp)]) ?_
  exact Ev.now 50
theorem rcheck_l0 (hg5 : g ≤ 5) (hs : Small l) : ∀ (d n : Nat), n + d = l.length →
    Ev (fun k => saronref05_Check.l0 k true (n : Int) g l) (if ((l.drop n).all (formOk g)) = true then 0 else 50)
  | 0, n, hd => by
    refine Ev.step (fun k => by rw [saronref05_Check.l0, if_pos rfl, show decide ((n : Int) < (l.length : Int)) = false from decide_eq_false (by omega)]) ?_
    refine Ev.step (fun k => by rw [saronref05_Check.j2, if_neg (by simp), if_pos rfl]) ?_
    rw [List.drop_of_length_le (by omega)]
    exact Ev.now 0
  | d + 1, n, hd => by
    have hl := hs.1
    have hn : n < l.length := by omega
    have hg : rd_T114 l (n : Int) = l[n] := by simp [rd_T114, hn]
    obtain ⟨hr1, hr2⟩ := hs.2 _ (List.getElem_mem hn)
    refine Ev.step (fun k => by rw [saronref05_Check.l0, if_pos rfl, show decide ((n : Int) < (l.length : Int)) = true from decide_eq_true (by omega)]) ?_
    refine Ev.step (fun k => by rw [saronref05_Check.j2, if_pos rfl, if_pos (by omega), if_pos (by omega), hg, sits_f, Option.bind_some]) ?_
    rw [List.drop_eq_getElem_cons hn, List.all_cons]
    have e0 : wrap64 ((n : Int) + 1) = ((n + 1 : Nat) : Int) := by rw [w64 (by omega) (by omega)]; omega
    have no : ∀ {R : Int}, R = 50 → Ev (fun k => saronref05_Check.j3 k false (n : Int) g l l[n].f0 l[n].f1) R := by
      rintro R rfl
      refine Ev.step (fun k => by rw [saronref05_Check.j3]) ?_
      refine Ev.step (fun k => by rw [saronref05_Check.l1, if_neg (by simp)]) ?_
      refine Ev.step (fun k => by rw [saronref05_Check.j5, if_neg (by simp)]) ?_
      exact rcheck_no g l _
    unfold formOk
    by_cases c : isIn l[n].f0 2 32 = true
    · refine evc (fun k => by rw [if_pos c]) ?_
      rw [c, Bool.true_and]
      cases e : ((l[n].f1.length : Int) == g)
      · exact no (by simp)
      · refine Ev.step (fun k => by rw [saronref05_Check.j3]) ?_
        refine rcheck_l1 g l hg5 _ l[n].f0 (isIn_iff.1 c) l[n].f1 hr2 (by simpa using e) l[n].f1.length 0 (by omega) ?_ (rcheck_no g l _)
        rw [rows_from, e0, Bool.true_and]
        cases rowsOk l[n].f0 l[n].f1
        · simpa using rcheck_no g l _
        · rw [Bool.true_and]
          exact rcheck_l0 hg5 hs d (n + 1) (by omega)
    · refine evc (fun k => by rw [if_neg c]) ?_
      refine no ?_
      rw [Bool.not_eq_true] at c
      rw [c]
      simp
theorem rcheck_f (hs : Small l) : Ev (fun k => saronref05_Check.f k g l) (checkE g l) := by
  refine evc (fun k => by rw [saronref05_Check.f, sits_f, Option.bind_some]) ?_
  unfold checkE bookOk
  have hno : Ev (fun k => saronref05_Check.j0 k false g l) 50 := Ev.step (fun k => by rw [saronref05_Check.j0]) (rcheck_no g l _)
  by_cases c : isIn g 1 5 = true
  · refine evc (fun k => by rw [if_pos c]) ?_
    rw [c, Bool.true_and]
    unfold isIn
    by_cases c1 : (l.length : Int) ≥ 1
    · refine evc (fun k => by rw [if_pos c1]) ?_
      rw [show decide ((1 : Int) ≤ (l.length : Int)) = true from decide_eq_true (by omega), Bool.true_and]
      cases e : decide ((l.length : Int) ≤ 4)
      · exact hno
      · refine Ev.step (fun k => by rw [saronref05_Check.j0]) ?_
        have := rcheck_l0 g l (isIn_iff.1 c).2 hs l.length 0 (by omega)
        rwa [List.drop_zero] at this
    · refine evc (fun k => by rw [if_neg c1]) ?_
      rw [show decide ((1 : Int) ≤ (l.length : Int)) = false from decide_eq_false (by omega), Bool.false_and, Bool.false_and]
      exact hno
  · refine evc (fun k => by rw [if_neg c]) ?_
    rw [Bool.not_eq_true] at c
    rw [c, Bool.false_and, Bool.false_and]
    exact hno
end
end Go.Proofs.YtfdenclnneigfaaDoor.Q
