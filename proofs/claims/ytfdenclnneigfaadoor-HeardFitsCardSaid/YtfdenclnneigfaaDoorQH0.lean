import Derived.Test.YtfdenclnneigfaaDoorGF
import Derived.Test.YtfdenclnneigfaaDoorCS
set_option linter.unusedVariables false
set_option linter.unusedSimpArgs false
namespace Go.Proofs.YtfdenclnneigfaaDoor.Q
open Go.RowKit Go.Proofs.YtfdenclnneigfaaDoorW.PrintWords Go.Proofs.YtfdenclnneigfaaDoorW.PrintLast Go.Proofs.YtfdenclnneigfaaDoor.PRaspKeys Go.Proofs.YtfdenclnneigfaaDoor.R

/-! ### Small words -/
theorem ev_uniq {α : Type} {g : Nat → Option α} {r q : α} (h : Ev g r) (h' : Ev g q) : r = q := by
  obtain ⟨K, h⟩ := h
  obtain ⟨L, h'⟩ := h'
  have a := h (K + L) (by omega)
  have b := h' (K + L) (by omega)
  rw [a] at b
  exact Option.some.inj b
theorem sits_f (n lo hi : Int) : saronref00_Sits.f n lo hi = some (isIn n lo hi) := by
  unfold saronref00_Sits.f isIn
  by_cases c : lo ≤ n
  · rw [if_pos c]; simp [c]
  · rw [if_neg c]; simp [c]
/-- Where a number stands in a row, from place n on. -/
def wh (x : Int) : Int → List Int → Int
  | _, [] => -1
  | n, y :: ys => if y = x then n else wh x (n + 1) ys
theorem wh_iff (x : Int) : ∀ (l : List Int) (n : Int), 0 ≤ n → (0 ≤ wh x n l ↔ l.contains x = true)
  | [], n, h => by simp [wh]
  | y :: ys, n, h => by
    unfold wh
    by_cases c : y = x
    · rw [if_pos c]; simp [c, h]
    · rw [if_neg c, wh_iff x ys (n + 1) (by omega)]
      have : ¬ x = y := fun e => c e.symm
      simp [this]
theorem wh_lt (x : Int) : ∀ (l : List Int) (n : Int), 0 ≤ n → (wh x n l < 0 ↔ l.contains x = false) := fun l n h => by
  rw [← Bool.not_eq_true, ← wh_iff x l n h]; omega
theorem where_l0 (l : List Int) (x : Int) (hl : l.length ≤ 9223372036854775807) : ∀ (d n : Nat), n + d = l.length → Ev (fun k => saronref00_Where.l0 k l x (n : Int)) (wh x n (l.drop n))
  | 0, n, hd => by
    refine Ev.step (fun k => by rw [saronref00_Where.l0, if_neg (by omega)]) ?_
    rw [List.drop_of_length_le (by omega)]
    exact Ev.now (-1)
  | d + 1, n, hd => by
    have hn : n < l.length := by omega
    rw [List.drop_eq_getElem_cons hn]
    refine Ev.step (fun k => by rw [saronref00_Where.l0, if_pos (by omega), if_pos (by omega), rd_nat, show l.getD n 0 = l[n] by simp [hn], w64 (x := (n : Int) + 1) (by omega) (by omega)]) ?_
    unfold wh
    by_cases c : l[n] = x
    · refine evc (fun k => by rw [if_pos c]) ?_
      rw [if_pos c]
      exact Ev.now (n : Int)
    · refine evc (fun k => by rw [if_neg c]) ?_
      rw [if_neg c]
      exact where_l0 l x hl d (n + 1) (by omega)
theorem where_f (l : List Int) (x : Int) (hl : l.length ≤ 9223372036854775807) : Ev (fun k => saronref00_Where.f k l x) (wh x 0 l) := where_l0 l x hl l.length 0 (by omega)
theorem rgrows_l0 (b : Int) (l : List Int) (hl : l.length ≤ 9223372036854775807) : ∀ (d n : Nat) (last : Int), n + d = l.length →
    Ev (fun k => saronref00_Grows.l0 k l b last (n : Int)) (gr b last (l.drop n))
  | 0, n, last, hd => by
    refine Ev.step (fun k => by rw [saronref00_Grows.l0, if_neg (by omega)]) ?_
    rw [List.drop_of_length_le (by omega)]
    exact Ev.now true
  | d + 1, n, last, hd => by
    have hn : n < l.length := by omega
    rw [List.drop_eq_getElem_cons hn]
    refine Ev.step (fun k => by rw [saronref00_Grows.l0, if_pos (by omega), if_pos (by omega), rd_nat, show l.getD n 0 = l[n] by simp [hn], w64 (x := (n : Int) + 1) (by omega) (by omega), show ((n : Int) + 1) = ((n + 1 : Nat) : Int) by omega]) ?_
    unfold gr
    by_cases c1 : l[n] ≤ last
    · refine evc (fun k => by rw [if_pos c1]) ?_
      rw [show isIn l[n] (last + 1) (b - 1) = false by rw [← Bool.not_eq_true, isIn_iff]; omega]
      exact Ev.now false
    · by_cases c2 : l[n] ≥ b
      · refine evc (fun k => by rw [if_neg c1, if_pos c2]) ?_
        rw [show isIn l[n] (last + 1) (b - 1) = false by rw [← Bool.not_eq_true, isIn_iff]; omega]
        exact Ev.now false
      · refine evc (fun k => by rw [if_neg c1, if_neg c2]) ?_
        rw [show isIn l[n] (last + 1) (b - 1) = true by rw [isIn_iff]; omega, Bool.true_and]
        exact rgrows_l0 b l hl d (n + 1) l[n] (by omega)
theorem rgrows_f (b : Int) (l : List Int) (hl : l.length ≤ 9223372036854775807) : Ev (fun k => saronref00_Grows.f k l b) (gr b (-1) l) := rgrows_l0 b l hl l.length 0 (-1) (by omega)
theorem equal_l0 (l : List Int) (hl : l.length ≤ 9223372036854775807) : ∀ (d n : Nat), n + d = l.length → Ev (fun k => saronref00_Equal.l0 k l l true (n : Int)) true
  | 0, n, hd => by
    refine Ev.step (fun k => by rw [saronref00_Equal.l0, if_pos rfl, if_neg (by omega)]) ?_
    exact Ev.now true
  | d + 1, n, hd => by
    refine Ev.step (fun k => by rw [saronref00_Equal.l0, if_pos rfl, if_pos (by omega), if_pos (by omega), if_pos (by omega), w64 (by omega) (by omega), beq_self_eq_true, show ((n : Int) + 1) = ((n + 1 : Nat) : Int) by omega]) ?_
    exact equal_l0 l hl d (n + 1) (by omega)
theorem equal_self (l : List Int) (hl : l.length ≤ 9223372036854775807) : Ev (fun k => saronref00_Equal.f k l l) true := by
  refine evc (fun k => by rw [saronref00_Equal.f, beq_self_eq_true]) ?_
  exact equal_l0 l hl l.length 0 (by omega)
theorem equal_one (l : List Int) (x : Int) (hl : l.length ≤ 9223372036854775807) : Ev (fun k => saronref00_Equal.f k l [x]) (l == [x]) := by
  match l, hl with
  | [], _ => exact evc (fun k => by rw [saronref00_Equal.f, show (((([] : List Int).length : Nat) : Int) == ((([x] : List Int).length : Nat) : Int)) = false from rfl]) (Ev.step (fun k => by rw [saronref00_Equal.l0, if_neg (by simp)]) (Ev.now false))
  | a :: b :: r, _ =>
    refine evc (fun k => by rw [saronref00_Equal.f, show ((((a :: b :: r : List Int).length : Nat) : Int) == ((([x] : List Int).length : Nat) : Int)) = false from beq_eq_false_iff_ne.mpr (by simp only [List.length_cons, List.length_nil]; omega)]) ?_
    refine Ev.step (fun k => by rw [saronref00_Equal.l0, if_neg (by simp)]) ?_
    rw [show ((a :: b :: r : List Int) == [x]) = false by simp]
    exact Ev.now false
  | [a], _ =>
    refine evc (fun k => by rw [saronref00_Equal.f, show (((([a] : List Int).length : Nat) : Int) == ((([x] : List Int).length : Nat) : Int)) = true from rfl]) ?_
    refine Ev.step (fun k => by rw [saronref00_Equal.l0, if_pos rfl, if_pos (by simp), if_pos (by omega), if_pos (by simp), w64 (x := 0 + 1) (by omega) (by omega), show rd [a] 0 = a from rfl, show rd [x] 0 = x from rfl]) ?_
    refine Ev.step (fun k => by rw [saronref00_Equal.l0, if_neg (show ¬ ((0 : Int) + 1 < (([a] : List Int).length : Int)) by simp), ite_self]) ?_
    rw [show (([a] : List Int) == [x]) = (a == x) by simp]
    exact Ev.now _
theorem lst_has (h : Nat → Bool) : ∀ (n m : Nat), (lst h n).contains (m : Int) = (decide (m < n) && h m)
  | 0, m => by simp [lst]
  | n + 1, m => by
    have ih := lst_has h n m
    have e : lst h (n + 1) = if h n = true then lst h n ++ [(n : Int)] else lst h n := rfl
    rw [e]
    by_cases c : h n = true
    · rw [if_pos c, List.contains_append, ih]
      by_cases hm : m = n
      · subst hm; simp [c]
      · have h1 : ¬ (m : Int) = (n : Int) := by omega
        have h2 : decide (m < n + 1) = decide (m < n) := by by_cases h3 : m < n <;> simp [h3] <;> omega
        rw [h2]
        simp [h1]
    · rw [if_neg c, ih]
      by_cases hm : m = n
      · subst hm; simp [c]
      · have h2 : decide (m < n + 1) = decide (m < n) := by by_cases h3 : m < n <;> simp [h3] <;> omega
        rw [h2]
theorem gr_snoc {b : Int} : ∀ (xs : List Int) (last y : Int), gr b last xs = true → last < y → y < b → (∀ x ∈ xs, x < y) → gr b last (xs ++ [y]) = true
  | [], last, y, h, h1, h2, h3 => by
    show (isIn y (last + 1) (b - 1) && gr b y []) = true
    rw [isIn_iff.2 (by omega)]; rfl
  | x :: xs, last, y, h, h1, h2, h3 => by
    unfold gr at h
    rw [Bool.and_eq_true] at h
    show (isIn x (last + 1) (b - 1) && gr b x (xs ++ [y])) = true
    rw [h.1, gr_snoc xs x y h.2 (h3 x List.mem_cons_self) h2 (fun z hz => h3 z (List.mem_cons_of_mem _ hz))]
    rfl
theorem lst_in (h : Nat → Bool) : ∀ n, ∀ x ∈ lst h n, 0 ≤ x ∧ x < n ∧ h x.toNat = true
  | 0, x, hx => by simp [lst] at hx
  | n + 1, x, hx => by
    have e : lst h (n + 1) = if h n = true then lst h n ++ [(n : Int)] else lst h n := rfl
    rw [e] at hx
    by_cases c : h n = true
    · rw [if_pos c, List.mem_append] at hx
      rcases hx with hx | hx
      · have := lst_in h n x hx; exact ⟨this.1, by omega, this.2.2⟩
      · obtain rfl := List.mem_singleton.1 hx
        exact ⟨by omega, by omega, by rw [Int.toNat_natCast]; exact c⟩
    · rw [if_neg c] at hx
      have := lst_in h n x hx; exact ⟨this.1, by omega, this.2.2⟩
theorem gr_lst (h : Nat → Bool) (b : Int) (hb : ∀ i : Nat, h i = true → (i : Int) < b) : ∀ n, gr b (-1) (lst h n) = true
  | 0 => rfl
  | n + 1 => by
    have e : lst h (n + 1) = if h n = true then lst h n ++ [(n : Int)] else lst h n := rfl
    rw [e]
    by_cases c : h n = true
    · rw [if_pos c]
      exact gr_snoc _ _ _ (gr_lst h b hb n) (by omega) (hb n c) (fun x hx => (lst_in h n x hx).2.1)
    · rw [if_neg c]
      exact gr_lst h b hb n
end Go.Proofs.YtfdenclnneigfaaDoor.Q
