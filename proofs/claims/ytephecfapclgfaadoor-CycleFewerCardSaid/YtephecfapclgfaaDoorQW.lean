import Derived.Test.YtephecfapclgfaaDoorG4
import Derived.Test.YtephecfapclgfaaDoorCS
set_option linter.unusedVariables false
set_option linter.unusedSimpArgs false
namespace Go.Proofs.YtephecfapclgfaaDoor.Q
open Go.RowKit Go.Proofs.YtephecfapclgfaaDoorW.PrintWords Go.Proofs.YtephecfapclgfaaDoorW.PrintLast Go.Proofs.YtephecfapclgfaaDoor.PRaspKeys Go.Proofs.YtephecfapclgfaaDoor.R

/-! ### Small words -/
theorem ev_uniq {α : Type} {g : Nat → Option α} {r q : α} (h : Ev g r) (h' : Ev g q) : r = q := by
  obtain ⟨K, h⟩ := h
  obtain ⟨L, h'⟩ := h'
  have a := h (K + L) (by omega)
  have b := h' (K + L) (by omega)
  rw [a] at b
  exact Option.some.inj b
theorem sits_f (n lo hi : Int) : saronref00_Sits.f n lo hi = some (isIn n lo hi) := by
  unfold saronref00_Sits.f isIn
  by_cases c : lo ≤ n
  · rw [if_pos c]; simp [c]
  · rw [if_neg c]; simp [c]
/-- Where a number stands in a row, from place n on. -/
def wh (x : Int) : Int → List Int → Int
  | _, [] => -1
  | n, y :: ys => if y = x then n else wh x (n + 1) ys
theorem wh_iff (x : Int) : ∀ (l : List Int) (n : Int), 0 ≤ n → (0 ≤ wh x n l ↔ l.contains x = true)
  | [], n, h => by simp [wh]
  | y :: ys, n, h => by
    unfold wh
    by_cases c : y = x
    · rw [if_pos c]; simp [c, h]
    · rw [if_neg c, wh_iff x ys (n + 1) (by omega)]
      have : ¬ x = y := fun e => c e.symm
      simp [this]
theorem wh_lt (x : Int) : ∀ (l : List Int) (n : Int), 0 ≤ n → (wh x n l < 0 ↔ l.contains x = false) := fun l n h => by
  rw [← Bool.not_eq_true, ← wh_iff x l n h]; omega
theorem where_l0 (l : List Int) (x : Int) (hl : l.length ≤ 9223372036854775807) : ∀ (d n : Nat), n + d = l.length → Ev (fun k => saronref00_Where.l0 k l x (n : Int)) (wh x n (l.drop n))
  | 0, n, hd => by
    refine Ev.step (fun k => by rw [saronref00_Where.l0, if_neg (by omega)]) ?_
    rw [List.drop_of_length_le (by omega)]
    exact Ev.now (-1)
  | d + 1, n, hd => by
    have hn : n < l.length := by omega
    rw [List.drop_eq_getElem_cons hn]
    refine Ev.step (fun k => by rw [saronref00_Where.l0, if_pos (by omega), if_pos (by omega), rd_nat, show l.getD n 0 = l[n] by simp [hn], w64 (x := (n : Int) + 1) (by omega) (by omega)]) ?_
    unfold wh
    by_cases c : l[n] = x
    · refine evc (fun k => by rw [if_pos c]) ?_
      rw [if_pos c]
      exact Ev.now (n : Int)
    · refine evc (fun k => by rw [if_neg c]) ?_
      rw [if_neg c]
      exact where_l0 l x hl d (n + 1) (by omega)
theorem where_f (l : List Int) (x : Int) (hl : l.length ≤ 9223372036854775807) : Ev (fun k => saronref00_Where.f k l x) (wh x 0 l) := where_l0 l x hl l.length 0 (by omega)
theorem rgrows_l0 (b : Int) (l : List Int) (hl : l.length ≤ 9223372036854775807) : ∀ (d n : Nat) (last : Int), n + d = l.length →
    Ev (fun k => saronref00_Grows.l0 k l b last (n : Int)) (gr b last (l.drop n))
  | 0, n, last, hd => by
    refine Ev.step (fun k => by rw [saronref00_Grows.l0, if_neg (by omega)]) ?_
    rw [List.drop_of_length_le (by omega)]
    exact Ev.now true
  | d + 1, n, last, hd => by
    have hn : n < l.length := by omega
    rw [List.drop_eq_getElem_cons hn]
    refine Ev.step (fun k => by rw [saronref00_Grows.l0, if_pos (by omega), if_pos (by omega), rd_nat, show l.getD n 0 = l[n] by simp [hn], w64 (x := (n : Int) + 1) (by omega) (by omega), show ((n : Int) + 1) = ((n + 1 : Nat) : Int) by omega]) ?_
    unfold gr
    by_cases c1 : l[n] ≤ last
    · refine evc (fun k => by rw [if_pos c1]) ?_
      rw [show isIn l[n] (last + 1) (b - 1) = false by rw [← Bool.not_eq_true, isIn_iff]; omega]
      exact Ev.now false
    · by_cases c2 : l[n] ≥ b
      · refine evc (fun k => by rw [if_neg c1, if_pos c2]) ?_
        rw [show isIn l[n] (last + 1) (b - 1) = false by rw [← Bool.not_eq_true, isIn_iff]; omega]
        exact Ev.now false
      · refine evc (fun k => by rw [if_neg c1, if_neg c2]) ?_
        rw [show isIn l[n] (last + 1) (b - 1) = true by rw [isIn_iff]; omega, Bool.true_and]
        exact rgrows_l0 b l hl d (n + 1) l[n] (by omega)
theorem rgrows_f (b : Int) (l : List Int) (hl : l.length ≤ 9223372036854775807) : Ev (fun k => saronref00_Grows.f k l b) (gr b (-1) l) := rgrows_l0 b l hl l.length 0 (-1) (by omega)
theorem equal_l0 (l : List Int) (hl : l.length ≤ 9223372036854775807) : ∀ (d n : Nat), n + d = l.length → Ev (fun k => saronref00_Equal.l0 k l l true (n : Int)) true
  | 0, n, hd => by
    refine Ev.step (fun k => by rw [saronref00_Equal.l0, if_pos rfl, if_neg (by omega)]) ?_
    exact Ev.now true
  | d + 1, n, hd => by
    refine Ev.step (fun k => by rw [saronref00_Equal.l0, if_pos rfl, if_pos (by omega), if_pos (by omega), if_pos (by omega), w64 (by omega) (by omega), beq_self_eq_true, show ((n : Int) + 1) = ((n + 1 : Nat) : Int) by omega]) ?_
    exact equal_l0 l hl d (n + 1) (by omega)
theorem equal_self (l : List Int) (hl : l.length ≤ 9223372036854775807) : Ev (fun k => saronref00_Equal.f k l l) true := by
  refine evc (fun k => by rw [saronref00_Equal.f, beq_self_eq_true]) ?_
  exact equal_l0 l hl l.length 0 (by omega)
theorem equal_one (l : List Int) (x : Int) (hl : l.length ≤ 9223372036854775807) : Ev (fun k => saronref00_Equal.f k l [x]) (l == [x]) := by
  match l, hl with
  | [], _ => exact evc (fun k => by rw [saronref00_Equal.f, show (((([] : List Int).length : Nat) : Int) == ((([x] : List Int).length : Nat) : Int)) = false from rfl]) (Ev.step (fun k => by rw [saronref00_Equal.l0, if_neg (by simp)]) (Ev.now false))
  | a :: b :: r, _ =>
    refine evc (fun k => by rw [saronref00_Equal.f, show ((((a :: b :: r : List Int).length : Nat) : Int) == ((([x] : List Int).length : Nat) : Int)) = false from beq_eq_false_iff_ne.mpr (by simp only [List.length_cons, List.length_nil]; omega)]) ?_
    refine Ev.step (fun k => by rw [saronref00_Equal.l0, if_neg (by simp)]) ?_
    rw [show ((a :: b :: r : List Int) == [x]) = false by simp]
    exact Ev.now false
  | [a], _ =>
    refine evc (fun k => by rw [saronref00_Equal.f, show (((([a] : List Int).length : Nat) : Int) == ((([x] : List Int).length : Nat) : Int)) = true from rfl]) ?_
    refine Ev.step (fun k => by rw [saronref00_Equal.l0, if_pos rfl, if_pos (by simp), if_pos (by omega), if_pos (by simp), w64 (x := 0 + 1) (by omega) (by omega), show rd [a] 0 = a from rfl, show rd [x] 0 = x from rfl]) ?_
    refine Ev.step (fun k => by rw [saronref00_Equal.l0, if_neg (show ¬ ((0 : Int) + 1 < (([a] : List Int).length : Int)) by simp), ite_self]) ?_
    rw [show (([a] : List Int) == [x]) = (a == x) by simp]
    exact Ev.now _
theorem equalRows_l0 (l : List (List Int)) (hl : l.length ≤ 9223372036854775807) (hr : ∀ x ∈ l, x.length ≤ 9223372036854775807) : ∀ (d n : Nat), n + d = l.length → Ev (fun k => saronref00_EqualRows.l0 k l l true (n : Int)) true
  | 0, n, hd => by
    refine Ev.step (fun k => by rw [saronref00_EqualRows.l0, if_pos rfl, if_neg (by omega)]) ?_
    exact Ev.now true
  | d + 1, n, hd => by
    have hn : n < l.length := by omega
    refine Ev.step (fun k => by rw [saronref00_EqualRows.l0, if_pos rfl, if_pos (by omega), if_pos (by omega), if_pos (by omega), w64 (by omega) (by omega), show ((n : Int) + 1) = ((n + 1 : Nat) : Int) by omega]) ?_
    refine ebind (equal_self _ ?_) (equalRows_l0 l hl hr d (n + 1) (by omega))
    rw [show rd_L1 l (n : Int) = l[n] by simp [rd_L1, hn]]
    exact hr _ (List.getElem_mem hn)
theorem equalRows_self (l : List (List Int)) (hl : l.length ≤ 9223372036854775807) (hr : ∀ x ∈ l, x.length ≤ 9223372036854775807) : Ev (fun k => saronref00_EqualRows.f k l l) true := by
  refine evc (fun k => by rw [saronref00_EqualRows.f, beq_self_eq_true]) ?_
  exact equalRows_l0 l hl hr l.length 0 (by omega)
theorem spots_l0 (l : List S38) (hl : l.length ≤ 9223372036854775807) : ∀ (d n : Nat), n + d = l.length → Ev (fun k => saronref05_SameSpots.l0 k l l true (n : Int)) true
  | 0, n, hd => by
    refine Ev.step (fun k => by rw [saronref05_SameSpots.l0, if_pos rfl, if_neg (by omega)]) ?_
    exact Ev.now true
  | d + 1, n, hd => by
    refine Ev.step (fun k => by rw [saronref05_SameSpots.l0, if_pos rfl, if_pos (by omega), if_pos (by omega), if_pos (by omega), w64 (by omega) (by omega), beq_self_eq_true, beq_self_eq_true, Bool.and_self, show ((n : Int) + 1) = ((n + 1 : Nat) : Int) by omega]) ?_
    exact spots_l0 l hl d (n + 1) (by omega)
theorem spots_self (l : List S38) (hl : l.length ≤ 9223372036854775807) : Ev (fun k => saronref05_SameSpots.f k l l) true := by
  refine evc (fun k => by rw [saronref05_SameSpots.f, beq_self_eq_true]) ?_
  exact spots_l0 l hl l.length 0 (by omega)
theorem strokes_l0 (l : List S97) (hl : l.length ≤ 9223372036854775807) : ∀ (d n : Nat), n + d = l.length → Ev (fun k => saronref05_SameStrokes.l0 k l l true (n : Int)) true
  | 0, n, hd => by
    refine Ev.step (fun k => by rw [saronref05_SameStrokes.l0, if_pos rfl, if_neg (by omega)]) ?_
    exact Ev.now true
  | d + 1, n, hd => by
    refine Ev.step (fun k => by rw [saronref05_SameStrokes.l0, if_pos rfl, if_pos (by omega), if_pos (by omega), if_pos (by omega), w64 (by omega) (by omega), beq_self_eq_true, beq_self_eq_true, Bool.and_self, show ((n : Int) + 1) = ((n + 1 : Nat) : Int) by omega]) ?_
    exact strokes_l0 l hl d (n + 1) (by omega)
theorem strokes_self (l : List S97) (hl : l.length ≤ 9223372036854775807) : Ev (fun k => saronref05_SameStrokes.f k l l) true := by
  refine evc (fun k => by rw [saronref05_SameStrokes.f, beq_self_eq_true]) ?_
  exact strokes_l0 l hl l.length 0 (by omega)

/-- What any book's rows are: none longer than Go has. -/
def Small (l : List S63) : Prop := l.length ≤ 9223372036854775807 ∧ ∀ f ∈ l, f.f1.length ≤ 9223372036854775807 ∧ ∀ r ∈ f.f1, r.length ≤ 9223372036854775807
end Go.Proofs.YtephecfapclgfaaDoor.Q
namespace Go.Proofs.YtephecfapclgfaaDoor.Q
open Go.RowKit Go.Proofs.YtephecfapclgfaaDoorW.PrintWords Go.Proofs.YtephecfapclgfaaDoorW.PrintLast Go.Proofs.YtephecfapclgfaaDoor.PRaspKeys Go.Proofs.YtephecfapclgfaaDoor.R

/-! ### What a sound book is -/
theorem getD_ge {α : Type} {l : List α} {n : Nat} (d : α) (h : l.length ≤ n) : l.getD n d = d := by simp [List.getD, List.getElem?_eq_none h]
theorem getD_lt {α : Type} {l : List α} {n : Nat} (d : α) (h : n < l.length) : l.getD n d = l[n] := by simp [List.getD, List.getElem?_eq_getElem h]
theorem lst_gt (h : Nat → Bool) : ∀ (n m : Nat), (∀ i, n ≤ i → h i = false) → lst h (n + m) = lst h n
  | n, 0, _ => rfl
  | n, m + 1, hh => by
    show (if h (n + m) = true then lst h (n + m) ++ [((n + m : Nat) : Int)] else lst h (n + m)) = _
    rw [hh (n + m) (by omega), if_neg (by simp)]
    exact lst_gt h n m hh
theorem lst_five (h : Nat → Bool) (n : Nat) (hn : n ≤ 5) (hh : ∀ i, n ≤ i → h i = false) : lst h 5 = lst h n := by
  have := lst_gt h n (5 - n) hh
  rwa [show n + (5 - n) = 5 by omega] at this
theorem row_none {l : List S63} {f : Int} {g : Nat} (h : (rd_T63 l f).f1.length ≤ g) : row l f g = [] := by
  unfold row
  rw [getD_ge _ h]
theorem hits_none {l : List S63} {f b : Int} {g : Nat} (h : (rd_T63 l f).f1.length ≤ g) : hits l f b g = false := by
  unfold hits
  rw [row_none h]
  rfl
theorem rd_L1_row (l : List S63) (f : Int) (n : Nat) : rd_L1 (rd_T63 l f).f1 (n : Int) = row l f n := by
  simp [rd_L1, row]
section
variable {g : Int} {l : List S63}
theorem rowlen (hs : Small l) {f : Int} (h1 : f < l.length) (h0 : 0 ≤ f) (n : Nat) : (row l f n).length ≤ 9223372036854775807 := by
  unfold row
  by_cases c : n < (rd_T63 l f).f1.length
  · rw [getD_lt _ c]
    have hm : rd_T63 l f ∈ l := by
      unfold rd_T63
      rw [getD_lt _ (show f.toNat < l.length by omega)]
      exact List.getElem_mem _
    exact (hs.2 _ hm).2 _ (List.getElem_mem c)
  · rw [getD_ge _ (by omega)]
    simp
theorem lst_has (h : Nat → Bool) : ∀ (n m : Nat), (lst h n).contains (m : Int) = (decide (m < n) && h m)
  | 0, m => by simp [lst]
  | n + 1, m => by
    have ih := lst_has h n m
    have e : lst h (n + 1) = if h n = true then lst h n ++ [(n : Int)] else lst h n := rfl
    rw [e]
    by_cases c : h n = true
    · rw [if_pos c, List.contains_append, ih]
      by_cases hm : m = n
      · subst hm; simp [c]
      · have h1 : ¬ (m : Int) = (n : Int) := by omega
        have h2 : decide (m < n + 1) = decide (m < n) := by by_cases h3 : m < n <;> simp [h3] <;> omega
        rw [h2]
        simp [h1]
    · rw [if_neg c, ih]
      by_cases hm : m = n
      · subst hm; simp [c]
      · have h2 : decide (m < n + 1) = decide (m < n) := by by_cases h3 : m < n <;> simp [h3] <;> omega
        rw [h2]
theorem nxtD_is (p : Int → Bool) (b : Int) (n : Nat) (hn : n < 33) (hp : p (b + n) = true) (hlt : ∀ i : Nat, i < n → p (b + i) = false) : nxtD p 33 b = n := by
  obtain ⟨h1, h2, h3⟩ := nxtD_spec p 33 b n hn hp
  by_cases c : nxtD p 33 b < n
  · rw [hlt _ c] at h2; cases h2
  · by_cases c2 : n < nxtD p 33 b
    · rw [h3 n c2] at hp; cases hp
    · omega
theorem hit_cycle (hb : bookOk g l = true) {form : Int} (h0 : 0 ≤ form) (h1 : form < l.length) (gn : Nat) (hr : row l form gn ≠ []) (beat : Int) (hb0 : 0 ≤ beat) :
    ∃ j : Nat, (j : Int) < (rd_T63 l form).f0 ∧ hitB l form gn (beat + j) = true := by
  obtain ⟨x, xs, hx⟩ := List.exists_cons_of_ne_nil hr
  have hxm : x ∈ row l form gn := by rw [hx]; exact List.mem_cons_self
  have hi := row_in hb h0 h1 gn x hxm
  have h2 := (beats_of hb).two form h0 h1
  have e1 := Int.emod_nonneg (x - beat) (show (rd_T63 l form).f0 ≠ 0 by omega)
  have e2 := Int.emod_lt_of_pos (x - beat) (show 0 < (rd_T63 l form).f0 by omega)
  refine ⟨((x - beat) % (rd_T63 l form).f0).toNat, by omega, ?_⟩
  unfold hitB hits
  rw [Int.toNat_of_nonneg e1, show (beat + (x - beat) % (rd_T63 l form).f0) % (rd_T63 l form).f0 = x by rw [Int.add_emod, Int.emod_emod, ← Int.add_emod, show beat + (x - beat) = x by omega]; exact Int.emod_eq_of_lt hi.1 hi.2]
  simpa using hxm
theorem wf_in {n : Int} (h : (Lit.int .i64 n).wf = true) : -9223372036854775808 ≤ n ∧ n ≤ 9223372036854775807 := by simp [Lit.wf] at h; exact h
theorem no_book (hb : ¬ bookOk g l = true) (ok : Bool) : openE g l ok = 50 := by unfold openE; rw [if_neg hb]
end
/-! ### Even: how far each stroke is from the next -/
theorem gr_lt {b : Int} : ∀ (r : List Int) (last : Int), gr b last r = true → ∀ (i j : Nat), i < j → j < r.length → r.getD i 0 < r.getD j 0
  | [], last, h, i, j, hij, hj => by simp at hj
  | x :: xs, last, h, i, j, hij, hj => by
    unfold gr at h
    rw [Bool.and_eq_true] at h
    match i, j with
    | _, 0 => omega
    | 0, j + 1 =>
      have hj' : j < xs.length := by simpa using hj
      have := gr_in xs x h.2 xs[j] (List.getElem_mem hj')
      simpa [hj'] using this.1
    | i + 1, j + 1 =>
      have := gr_lt xs x h.2 i j (by omega) (by simpa using hj)
      simpa using this
section
variable {g : Int} {l : List S63}
theorem row_gr (hb : bookOk g l = true) {form : Int} (h0 : 0 ≤ form) (h1 : form < l.length) (gn : Nat) : gr (rd_T63 l form).f0 (-1) (row l form gn) = true := by
  unfold bookOk at hb
  simp only [Bool.and_eq_true, List.all_eq_true] at hb
  have hm : rd_T63 l form ∈ l := by
    unfold rd_T63
    rw [getD_lt _ (show form.toNat < l.length by omega)]
    exact List.getElem_mem _
  have hf := hb.2 _ hm
  unfold formOk rowsOk at hf
  simp only [Bool.and_eq_true, List.all_eq_true] at hf
  unfold row
  by_cases c : gn < (rd_T63 l form).f1.length
  · rw [getD_lt _ c]
    exact hf.2.2.1 _ (List.getElem_mem c)
  · rw [getD_ge _ (by omega)]
    rfl
/-- What comes after a stroke of a row, in the cycle. -/
def aft (B : Int) (r : List Int) (i : Nat) : Int := if i + 1 < r.length then r.getD (i + 1) 0 - r.getD i 0 else r.getD 0 0 + B - r.getD i 0
theorem mem_getD {r : List Int} {x : Int} (h : x ∈ r) : ∃ i, i < r.length ∧ r.getD i 0 = x := by
  obtain ⟨i, hi, e⟩ := List.getElem_of_mem h
  exact ⟨i, hi, by simpa [hi] using e⟩
theorem gap_aft (hb : bookOk g l = true) {form : Int} (h0 : 0 ≤ form) (h1 : form < l.length) (gn : Nat) (i : Nat) (hi : i < (row l form gn).length) :
    gapB l form gn ((row l form gn).getD i 0) = aft (rd_T63 l form).f0 (row l form gn) i := by
  have hgr := row_gr hb h0 h1 gn
  have h2 := (beats_of hb).two form h0 h1
  have hin : ∀ k, k < (row l form gn).length → 0 ≤ (row l form gn).getD k 0 ∧ (row l form gn).getD k 0 < (rd_T63 l form).f0 := fun k hk => by
    have := row_in hb h0 h1 gn (row l form gn)[k] (List.getElem_mem hk)
    simpa [hk] using this
  have hlt := gr_lt _ _ hgr
  have hhit : ∀ b : Int, hitB l form gn b = true ↔ ∃ k, k < (row l form gn).length ∧ (row l form gn).getD k 0 = b % (rd_T63 l form).f0 := fun b => by
    unfold hitB hits
    constructor
    · intro h
      exact mem_getD (by simpa using h)
    · rintro ⟨k, hk, e⟩
      rw [← e]
      simp [hk]
  have hi' := hin i hi
  unfold gapB nextB aft
  by_cases c : i + 1 < (row l form gn).length
  · rw [if_pos c]
    have hn := hlt i (i + 1) (by omega) c
    have hin' := hin (i + 1) c
    rw [nxtD_is _ _ ((row l form gn).getD (i + 1) 0 - (row l form gn).getD i 0 - 1).toNat (by omega) ?_ ?_]
    · omega
    · rw [hhit]
      refine ⟨i + 1, c, ?_⟩
      rw [show (row l form gn).getD i 0 + 1 + (((row l form gn).getD (i + 1) 0 - (row l form gn).getD i 0 - 1).toNat : Int) = (row l form gn).getD (i + 1) 0 by omega]
      exact (Int.emod_eq_of_lt hin'.1 hin'.2).symm
    · intro t ht
      rw [← Bool.not_eq_true, hhit]
      rintro ⟨k, hk, e⟩
      rw [Int.emod_eq_of_lt (by omega) (by omega)] at e
      by_cases c1 : k ≤ i
      · rcases Nat.lt_or_eq_of_le c1 with c2 | c2
        · have := hlt k i c2 hi; omega
        · subst c2; omega
      · rcases Nat.lt_or_eq_of_le (show i + 1 ≤ k by omega) with c2 | c2
        · have := hlt (i + 1) k c2 hk; omega
        · subst c2; omega
  · rw [if_neg c]
    have hin0 := hin 0 (by omega)
    rw [nxtD_is _ _ ((row l form gn).getD 0 0 + (rd_T63 l form).f0 - (row l form gn).getD i 0 - 1).toNat ?_ ?_ ?_]
    · omega
    · have : (row l form gn).getD 0 0 ≤ (row l form gn).getD i 0 := by
        rcases Nat.eq_zero_or_pos i with c2 | c2
        · subst c2; omega
        · have := hlt 0 i c2 hi; omega
      omega
    · rw [hhit]
      refine ⟨0, by omega, ?_⟩
      rw [show (row l form gn).getD i 0 + 1 + (((row l form gn).getD 0 0 + (rd_T63 l form).f0 - (row l form gn).getD i 0 - 1).toNat : Int) = (row l form gn).getD 0 0 + (rd_T63 l form).f0 by omega]
      rw [Int.add_emod_right]
      exact (Int.emod_eq_of_lt hin0.1 hin0.2).symm
    · intro t ht
      rw [← Bool.not_eq_true, hhit]
      rintro ⟨k, hk, e⟩
      have hki : k ≤ i := by omega
      have h3 : (row l form gn).getD k 0 ≤ (row l form gn).getD i 0 := by
        rcases Nat.lt_or_eq_of_le hki with c2 | c2
        · have := hlt k i c2 hi; omega
        · subst c2; omega
      have h4 : (row l form gn).getD 0 0 ≤ (row l form gn).getD k 0 := by
        rcases Nat.eq_zero_or_pos k with c2 | c2
        · subst c2; omega
        · have := hlt 0 k c2 hk; omega
      by_cases c1 : (row l form gn).getD i 0 + 1 + (t : Int) < (rd_T63 l form).f0
      · rw [Int.emod_eq_of_lt (by omega) c1] at e; omega
      · rw [show (row l form gn).getD i 0 + 1 + (t : Int) = ((row l form gn).getD i 0 + 1 + (t : Int) - (rd_T63 l form).f0) + (rd_T63 l form).f0 by omega, Int.add_emod_right, Int.emod_eq_of_lt (by omega) (by omega)] at e
        omega
end
theorem struckF_len (g : Int) (l : List S63) (a c : Int) : (struckF g l a c).1.length ≤ 5 := by
  unfold struckF
  split
  · exact lst_len _ 5
  · simp
end Go.Proofs.YtephecfapclgfaaDoor.Q
