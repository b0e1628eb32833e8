import Derived.Test.YtephecfapclgfaaDoorG3
import Derived.Test.YtephecfapclgfaaDoorC0
set_option linter.unusedVariables false
set_option linter.unusedSimpArgs false
namespace Go.Proofs.YtephecfapclgfaaDoor.Q
open Go.RowKit Go.Proofs.YtephecfapclgfaaDoorW.PrintWords Go.Proofs.YtephecfapclgfaaDoorW.PrintLast Go.Proofs.YtephecfapclgfaaDoor.PRaspKeys Go.Proofs.YtephecfapclgfaaDoor.R

/-! ### Small words -/
theorem ev_uniq {α : Type} {g : Nat → Option α} {r q : α} (h : Ev g r) (h' : Ev g q) : r = q := by
  obtain ⟨K, h⟩ := h
  obtain ⟨L, h'⟩ := h'
  have a := h (K + L) (by omega)
  have b := h' (K + L) (by omega)
  rw [a] at b
  exact Option.some.inj b
theorem sits_f (n lo hi : Int) : saronref00_Sits.f n lo hi = some (isIn n lo hi) := by
  unfold saronref00_Sits.f isIn
  by_cases c : lo ≤ n
  · rw [if_pos c]; simp [c]
  · rw [if_neg c]; simp [c]
/-- Where a number stands in a row, from place n on. -/
def wh (x : Int) : Int → List Int → Int
  | _, [] => -1
  | n, y :: ys => if y = x then n else wh x (n + 1) ys
theorem wh_iff (x : Int) : ∀ (l : List Int) (n : Int), 0 ≤ n → (0 ≤ wh x n l ↔ l.contains x = true)
  | [], n, h => by simp [wh]
  | y :: ys, n, h => by
    unfold wh
    by_cases c : y = x
    · rw [if_pos c]; simp [c, h]
    · rw [if_neg c, wh_iff x ys (n + 1) (by omega)]
      have : ¬ x = y := fun e => c e.symm
      simp [this]
theorem wh_lt (x : Int) : ∀ (l : List Int) (n : Int), 0 ≤ n → (wh x n l < 0 ↔ l.contains x = false) := fun l n h => by
  rw [← Bool.not_eq_true, ← wh_iff x l n h]; omega
theorem where_l0 (l : List Int) (x : Int) (hl : l.length ≤ 9223372036854775807) : ∀ (d n : Nat), n + d = l.length → Ev (fun k => saronref00_Where.l0 k l x (n : Int)) (wh x n (l.drop n))
  | 0, n, hd => by
    refine Ev.step (fun k => by rw [saronref00_Where.l0, if_neg (by omega)]) ?_
    rw [List.drop_of_length_le (by omega)]
    exact Ev.now (-1)
  | d + 1, n, hd => by
    have hn : n < l.length := by omega
    rw [List.drop_eq_getElem_cons hn]
    refine Ev.step (fun k => by rw [saronref00_Where.l0, if_pos (by omega), if_pos (by omega), rd_nat, show l.getD n 0 = l[n] by simp [hn], w64 (x := (n : Int) + 1) (by omega) (by omega)]) ?_
    unfold wh
    by_cases c : l[n] = x
    · refine evc (fun k => by rw [if_pos c]) ?_
      rw [if_pos c]
      exact Ev.now (n : Int)
    · refine evc (fun k => by rw [if_neg c]) ?_
      rw [if_neg c]
      exact where_l0 l x hl d (n + 1) (by omega)
theorem where_f (l : List Int) (x : Int) (hl : l.length ≤ 9223372036854775807) : Ev (fun k => saronref00_Where.f k l x) (wh x 0 l) := where_l0 l x hl l.length 0 (by omega)
theorem rgrows_l0 (b : Int) (l : List Int) (hl : l.length ≤ 9223372036854775807) : ∀ (d n : Nat) (last : Int), n + d = l.length →
    Ev (fun k => saronref00_Grows.l0 k l b last (n : Int)) (gr b last (l.drop n))
  | 0, n, last, hd => by
    refine Ev.step (fun k => by rw [saronref00_Grows.l0, if_neg (by omega)]) ?_
    rw [List.drop_of_length_le (by omega)]
    exact Ev.now true
  | d + 1, n, last, hd => by
    have hn : n < l.length := by omega
    rw [List.drop_eq_getElem_cons hn]
    refine Ev.step (fun k => by rw [saronref00_Grows.l0, if_pos (by omega), if_pos (by omega), rd_nat, show l.getD n 0 = l[n] by simp [hn], w64 (x := (n : Int) + 1) (by omega) (by omega), show ((n : Int) + 1) = ((n + 1 : Nat) : Int) by omega]) ?_
    unfold gr
    by_cases c1 : l[n] ≤ last
    · refine evc (fun k => by rw [if_pos c1]) ?_
      rw [show isIn l[n] (last + 1) (b - 1) = false by rw [← Bool.not_eq_true, isIn_iff]; omega]
      exact Ev.now false
    · by_cases c2 : l[n] ≥ b
      · refine evc (fun k => by rw [if_neg c1, if_pos c2]) ?_
        rw [show isIn l[n] (last + 1) (b - 1) = false by rw [← Bool.not_eq_true, isIn_iff]; omega]
        exact Ev.now false
      · refine evc (fun k => by rw [if_neg c1, if_neg c2]) ?_
        rw [show isIn l[n] (last + 1) (b - 1) = true by rw [isIn_iff]; omega, Bool.true_and]
        exact rgrows_l0 b l hl d (n + 1) l[n] (by omega)
theorem rgrows_f (b : Int) (l : List Int) (hl : l.length ≤ 9223372036854775807) : Ev (fun k => saronref00_Grows.f k l b) (gr b (-1) l) := rgrows_l0 b l hl l.length 0 (-1) (by omega)
theorem equal_l0 (l : List Int) (hl : l.length ≤ 9223372036854775807) : ∀ (d n : Nat), n + d = l.length → Ev (fun k => saronref00_Equal.l0 k l l true (n : Int)) true
  | 0, n, hd => by
    refine Ev.step (fun k => by rw [saronref00_Equal.l0, if_pos rfl, if_neg (by omega)]) ?_
    exact Ev.now true
  | d + 1, n, hd => by
    refine Ev.step (fun k => by rw [saronref00_Equal.l0, if_pos rfl, if_pos (by omega), if_pos (by omega), if_pos (by omega), w64 (by omega) (by omega), beq_self_eq_true, show ((n : Int) + 1) = ((n + 1 : Nat) : Int) by omega]) ?_
    exact equal_l0 l hl d (n + 1) (by omega)
theorem equal_self (l : List Int) (hl : l.length ≤ 9223372036854775807) : Ev (fun k => saronref00_Equal.f k l l) true := by
  refine evc (fun k => by rw [saronref00_Equal.f, beq_self_eq_true]) ?_
  exact equal_l0 l hl l.length 0 (by omega)
theorem equal_one (l : List Int) (x : Int) (hl : l.length ≤ 9223372036854775807) : Ev (fun k => saronref00_Equal.f k l [x]) (l == [x]) := by
  match l, hl with
  | [], _ => exact evc (fun k => by rw [saronref00_Equal.f, show (((([] : List Int).length : Nat) : Int) == ((([x] : List Int).length : Nat) : Int)) = false from rfl]) (Ev.step (fun k => by rw [saronref00_Equal.l0, if_neg (by simp)]) (Ev.now false))
  | a :: b :: r, _ =>
    refine evc (fun k => by rw [saronref00_Equal.f, show ((((a :: b :: r : List Int).length : Nat) : Int) == ((([x] : List Int).length : Nat) : Int)) = false from beq_eq_false_iff_ne.mpr (by simp only [List.length_cons, List.length_nil]; omega)]) ?_
    refine Ev.step (fun k => by rw [saronref00_Equal.l0, if_neg (by simp)]) ?_
    rw [show ((a :: b :: r : List Int) == [x]) = false by simp]
    exact Ev.now false
  | [a], _ =>
    refine evc (fun k => by rw [saronref00_Equal.f, show (((([a] : List Int).length : Nat) : Int) == ((([x] : List Int).length : Nat) : Int)) = true from rfl]) ?_
    refine Ev.step (fun k => by rw [saronref00_Equal.l0, if_pos rfl, if_pos (by simp), if_pos (by omega), if_pos (by simp), w64 (x := 0 + 1) (by omega) (by omega), show rd [a] 0 = a from rfl, show rd [x] 0 = x from rfl]) ?_
    refine Ev.step (fun k => by rw [saronref00_Equal.l0, if_neg (show ¬ ((0 : Int) + 1 < (([a] : List Int).length : Int)) by simp), ite_self]) ?_
    rw [show (([a] : List Int) == [x]) = (a == x) by simp]
    exact Ev.now _
theorem equalRows_l0 (l : List (List Int)) (hl : l.length ≤ 9223372036854775807) (hr : ∀ x ∈ l, x.length ≤ 9223372036854775807) : ∀ (d n : Nat), n + d = l.length → Ev (fun k => saronref00_EqualRows.l0 k l l true (n : Int)) true
  | 0, n, hd => by
    refine Ev.step (fun k => by rw [saronref00_EqualRows.l0, if_pos rfl, if_neg (by omega)]) ?_
    exact Ev.now true
  | d + 1, n, hd => by
    have hn : n < l.length := by omega
    refine Ev.step (fun k => by rw [saronref00_EqualRows.l0, if_pos rfl, if_pos (by omega), if_pos (by omega), if_pos (by omega), w64 (by omega) (by omega), show ((n : Int) + 1) = ((n + 1 : Nat) : Int) by omega]) ?_
    refine ebind (equal_self _ ?_) (equalRows_l0 l hl hr d (n + 1) (by omega))
    rw [show rd_L1 l (n : Int) = l[n] by simp [rd_L1, hn]]
    exact hr _ (List.getElem_mem hn)
theorem equalRows_self (l : List (List Int)) (hl : l.length ≤ 9223372036854775807) (hr : ∀ x ∈ l, x.length ≤ 9223372036854775807) : Ev (fun k => saronref00_EqualRows.f k l l) true := by
  refine evc (fun k => by rw [saronref00_EqualRows.f, beq_self_eq_true]) ?_
  exact equalRows_l0 l hl hr l.length 0 (by omega)
theorem spots_l0 (l : List S38) (hl : l.length ≤ 9223372036854775807) : ∀ (d n : Nat), n + d = l.length → Ev (fun k => saronref05_SameSpots.l0 k l l true (n : Int)) true
  | 0, n, hd => by
    refine Ev.step (fun k => by rw [saronref05_SameSpots.l0, if_pos rfl, if_neg (by omega)]) ?_
    exact Ev.now true
  | d + 1, n, hd => by
    refine Ev.step (fun k => by rw [saronref05_SameSpots.l0, if_pos rfl, if_pos (by omega), if_pos (by omega), if_pos (by omega), w64 (by omega) (by omega), beq_self_eq_true, beq_self_eq_true, Bool.and_self, show ((n : Int) + 1) = ((n + 1 : Nat) : Int) by omega]) ?_
    exact spots_l0 l hl d (n + 1) (by omega)
theorem spots_self (l : List S38) (hl : l.length ≤ 9223372036854775807) : Ev (fun k => saronref05_SameSpots.f k l l) true := by
  refine evc (fun k => by rw [saronref05_SameSpots.f, beq_self_eq_true]) ?_
  exact spots_l0 l hl l.length 0 (by omega)
theorem strokes_l0 (l : List S97) (hl : l.length ≤ 9223372036854775807) : ∀ (d n : Nat), n + d = l.length → Ev (fun k => saronref05_SameStrokes.l0 k l l true (n : Int)) true
  | 0, n, hd => by
    refine Ev.step (fun k => by rw [saronref05_SameStrokes.l0, if_pos rfl, if_neg (by omega)]) ?_
    exact Ev.now true
  | d + 1, n, hd => by
    refine Ev.step (fun k => by rw [saronref05_SameStrokes.l0, if_pos rfl, if_pos (by omega), if_pos (by omega), if_pos (by omega), w64 (by omega) (by omega), beq_self_eq_true, beq_self_eq_true, Bool.and_self, show ((n : Int) + 1) = ((n + 1 : Nat) : Int) by omega]) ?_
    exact strokes_l0 l hl d (n + 1) (by omega)
theorem strokes_self (l : List S97) (hl : l.length ≤ 9223372036854775807) : Ev (fun k => saronref05_SameStrokes.f k l l) true := by
  refine evc (fun k => by rw [saronref05_SameStrokes.f, beq_self_eq_true]) ?_
  exact strokes_l0 l hl l.length 0 (by omega)

/-! ### Check, and what is asked of a book -/
/-- What any book's rows are: none longer than Go has. -/
def Small (l : List S63) : Prop := l.length ≤ 9223372036854775807 ∧ ∀ f ∈ l, f.f1.length ≤ 9223372036854775807 ∧ ∀ r ∈ f.f1, r.length ≤ 9223372036854775807
section
variable (g : Int) (l : List S63)
theorem rcheck_l1 (hg5 : g ≤ 5) (x4 : Int) (b : Int) (hb : 2 ≤ b ∧ b ≤ 32) (rows : List (List Int)) (hr : ∀ r ∈ rows, r.length ≤ 9223372036854775807) (hl : (rows.length : Int) = g) {R : Int} : ∀ (d n : Nat), n + d = rows.length →
    Ev (fun k => saronref05_Check.l0 k (rowsFrom b rows n) (wrap64 (x4 + 1)) g l) R → Ev (fun k => saronref05_Check.l0 k false (wrap64 (x4 + 1)) g l) 50 → Ev (fun k => saronref05_Check.l1 k true x4 (n : Int) g l b rows) R
  | 0, n, hd, h, h50 => by
    refine Ev.step (fun k => by rw [saronref05_Check.l1, if_pos rfl, show decide ((n : Int) < g) = false from decide_eq_false (by omega)]) ?_
    refine Ev.step (fun k => by rw [saronref05_Check.j5, if_neg (by simp)]) ?_
    have e : rowsFrom b rows n = true := by
      unfold rowsFrom
      rw [List.drop_of_length_le (by omega)]
      split
      · have : rows = [] := List.eq_nil_of_length_eq_zero (by omega)
        subst this; rfl
      · rfl
    rw [e] at h
    exact h
  | d + 1, n, hd, h, h50 => by
    have hn : n < rows.length := by omega
    have hg : rd_L1 rows (n : Int) = rows[n] := by simp [rd_L1, hn]
    refine Ev.step (fun k => by rw [saronref05_Check.l1, if_pos rfl, show decide ((n : Int) < g) = true from decide_eq_true (by omega)]) ?_
    have hstep : rowsFrom b rows n = (gr b (-1) rows[n] && ((if n = 0 then rows[n] == [b - 1] else true) && rowsFrom b rows (n + 1))) := by
      unfold rowsFrom
      rw [List.drop_eq_getElem_cons hn, List.all_cons, if_neg (show ¬ n + 1 = 0 by omega), Bool.and_true]
      split
      · rename_i e
        subst e
        match rows, hn with
        | r :: rs, _ => simp [Bool.and_comm, Bool.and_assoc, Bool.and_left_comm]
      · simp
    have hno : ∀ n' : Int, Ev (fun k => saronref05_Check.l1 k false x4 n' g l b rows) 50 := fun n' => by
      refine Ev.step (fun k => by rw [saronref05_Check.l1, if_neg (by simp)]) ?_
      exact Ev.step (fun k => by rw [saronref05_Check.j5, if_neg (by simp)]) h50
    rw [hstep] at h
    refine Ev.step (fun k => by rw [saronref05_Check.j5, if_pos rfl, if_pos (by omega), if_pos (by omega), hg, w64 (x := (n : Int) + 1) (by omega) (by omega), w64 (x := b - 1) (by omega) (by omega), show ((n : Int) + 1) = ((n + 1 : Nat) : Int) by omega]) ?_
    refine ebind (rgrows_f b rows[n] (hr _ (List.getElem_mem hn))) ?_
    by_cases c : gr b (-1) rows[n] = true
    · rw [c, Bool.true_and] at h
      by_cases h0 : n = 0
      · subst h0
        refine evc (fun k => by rw [if_pos c, if_neg (by omega), if_pos (by omega), show rd_L1 rows 0 = rows[0] from hg]) ?_
        rw [if_pos rfl] at h
        refine ebind (equal_one rows[0] (b - 1) (hr _ (List.getElem_mem hn))) ?_
        cases e : (rows[0] == [b - 1])
        · rw [e, Bool.false_and] at h
          have : R = 50 := ev_uniq h h50
          subst this
          exact hno _
        · rw [e, Bool.true_and] at h
          exact rcheck_l1 hg5 x4 b hb rows hr hl d 1 (by omega) h h50
      · refine evc (fun k => by rw [if_pos c, if_pos (by omega)]) ?_
        rw [if_neg h0, Bool.true_and] at h
        exact rcheck_l1 hg5 x4 b hb rows hr hl d (n + 1) (by omega) h h50
    · refine evc (fun k => by rw [if_neg c]) ?_
      rw [Bool.not_eq_true] at c
      rw [c, Bool.false_and] at h
      have : R = 50 := ev_uniq h h50
      subst this
      exact hno _
theorem rcheck_no (x4 : Int) : Ev (fun k => saronref05_Check.l0 k false x4 g l) 50 := by
  refine Ev.step (fun k => by rw [saronref05_Check.l0, if_neg (by simp)]) ?_
  refine Ev.step (fun k => by rw [saronref05_Check.j2, if_neg (by simp), if_neg (by simp)]) ?_
  exact Ev.now 50
theorem rcheck_l0 (hg5 : g ≤ 5) (hs : Small l) : ∀ (d n : Nat), n + d = l.length →
    Ev (fun k => saronref05_Check.l0 k true (n : Int) g l) (if ((l.drop n).all (formOk g)) = true then 0 else 50)
  | 0, n, hd => by
    refine Ev.step (fun k => by rw [saronref05_Check.l0, if_pos rfl, show decide ((n : Int) < (l.length : Int)) = false from decide_eq_false (by omega)]) ?_
    refine Ev.step (fun k => by rw [saronref05_Check.j2, if_neg (by simp), if_pos rfl]) ?_
    rw [List.drop_of_length_le (by omega)]
    exact Ev.now 0
  | d + 1, n, hd => by
    have hl := hs.1
    have hn : n < l.length := by omega
    have hg : rd_T63 l (n : Int) = l[n] := by simp [rd_T63, hn]
    obtain ⟨hr1, hr2⟩ := hs.2 _ (List.getElem_mem hn)
    refine Ev.step (fun k => by rw [saronref05_Check.l0, if_pos rfl, show decide ((n : Int) < (l.length : Int)) = true from decide_eq_true (by omega)]) ?_
    refine Ev.step (fun k => by rw [saronref05_Check.j2, if_pos rfl, if_pos (by omega), if_pos (by omega), hg, sits_f, Option.bind_some]) ?_
    rw [List.drop_eq_getElem_cons hn, List.all_cons]
    have e0 : wrap64 ((n : Int) + 1) = ((n + 1 : Nat) : Int) := by rw [w64 (by omega) (by omega)]; omega
    have no : ∀ {R : Int}, R = 50 → Ev (fun k => saronref05_Check.j3 k false (n : Int) g l l[n].f0 l[n].f1) R := by
      rintro R rfl
      refine Ev.step (fun k => by rw [saronref05_Check.j3]) ?_
      refine Ev.step (fun k => by rw [saronref05_Check.l1, if_neg (by simp)]) ?_
      refine Ev.step (fun k => by rw [saronref05_Check.j5, if_neg (by simp)]) ?_
      exact rcheck_no g l _
    unfold formOk
    by_cases c : isIn l[n].f0 2 32 = true
    · refine evc (fun k => by rw [if_pos c]) ?_
      rw [c, Bool.true_and]
      cases e : ((l[n].f1.length : Int) == g)
      · exact no (by simp)
      · refine Ev.step (fun k => by rw [saronref05_Check.j3]) ?_
        refine rcheck_l1 g l hg5 _ l[n].f0 (isIn_iff.1 c) l[n].f1 hr2 (by simpa using e) l[n].f1.length 0 (by omega) ?_ (rcheck_no g l _)
        rw [rows_from, e0, Bool.true_and]
        cases rowsOk l[n].f0 l[n].f1
        · simpa using rcheck_no g l _
        · rw [Bool.true_and]
          exact rcheck_l0 hg5 hs d (n + 1) (by omega)
    · refine evc (fun k => by rw [if_neg c]) ?_
      refine no ?_
      rw [Bool.not_eq_true] at c
      rw [c]
      simp
theorem rcheck_f (hs : Small l) : Ev (fun k => saronref05_Check.f k g l) (checkE g l) := by
  refine evc (fun k => by rw [saronref05_Check.f, sits_f, Option.bind_some]) ?_
  unfold checkE bookOk
  have hno : Ev (fun k => saronref05_Check.j0 k false g l) 50 := Ev.step (fun k => by rw [saronref05_Check.j0]) (rcheck_no g l _)
  by_cases c : isIn g 1 5 = true
  · refine evc (fun k => by rw [if_pos c]) ?_
    rw [c, Bool.true_and]
    unfold isIn
    by_cases c1 : (l.length : Int) ≥ 1
    · refine evc (fun k => by rw [if_pos c1]) ?_
      rw [show decide ((1 : Int) ≤ (l.length : Int)) = true from decide_eq_true (by omega), Bool.true_and]
      cases e : decide ((l.length : Int) ≤ 4)
      · exact hno
      · refine Ev.step (fun k => by rw [saronref05_Check.j0]) ?_
        have := rcheck_l0 g l (isIn_iff.1 c).2 hs l.length 0 (by omega)
        rwa [List.drop_zero] at this
    · refine evc (fun k => by rw [if_neg c1]) ?_
      rw [show decide ((1 : Int) ≤ (l.length : Int)) = false from decide_eq_false (by omega), Bool.false_and, Bool.false_and]
      exact hno
  · refine evc (fun k => by rw [if_neg c]) ?_
    rw [Bool.not_eq_true] at c
    rw [c, Bool.false_and, Bool.false_and]
    exact hno
theorem asked_f (hs : Small l) (ok : Bool) : Ev (fun k => saronref05_asked.f k g l ok) (openE g l ok) := by
  refine evc (fun k => by rw [saronref05_asked.f]) ?_
  refine ebind (rcheck_f g l hs) ?_
  unfold checkE openE
  by_cases c : bookOk g l = true
  · refine evc (fun k => by rw [if_pos c, if_pos rfl]) ?_
    rw [if_pos c]
    cases ok
    · exact Ev.now 51
    · exact Ev.now 0
  · refine evc (fun k => by rw [if_neg c, if_neg (by omega)]) ?_
    rw [if_neg c]
    exact Ev.now 50
theorem isForm_f (hl : l.length ≤ 9223372036854775807) (f : Int) : saronref05_isForm.f g l f = some (isIn f 0 ((l.length : Int) - 1)) := by
  rw [saronref05_isForm.f, sits_f, w64 (by omega) (by omega)]; rfl
theorem isGong_f (hg : -1000 ≤ g ∧ g ≤ 9223372036854775807) (n : Int) : saronref05_isGong.f g l n = some (isIn n 0 (g - 1)) := by
  rw [saronref05_isGong.f, sits_f, w64 (by omega) (by omega)]; rfl
end
end Go.Proofs.YtephecfapclgfaaDoor.Q
