import Derived.Test.YtephecfapclgfaaDoorQR
import Derived.Test.YtephecfapclgfaaDoorCC0
set_option linter.unusedVariables false
set_option linter.unusedSimpArgs false
namespace Go.Proofs.YtephecfapclgfaaDoor.Q
open Go.RowKit Go.Proofs.YtephecfapclgfaaDoorW.PrintWords Go.Proofs.YtephecfapclgfaaDoorW.PrintLast Go.Proofs.YtephecfapclgfaaDoor.PRaspKeys Go.Proofs.YtephecfapclgfaaDoor.R

/-! ### The reference's confused -/
def confT (o : Option (S38 × S38)) : Int × Int × Int × Int × Bool := match o with | some st => (st.1.f0, st.1.f1, st.2.f0, st.2.f1, true) | none => (0, 0, 0, 0, false)
section
variable {g : Int} {l : List S63}
theorem lst_congr {h h' : Nat → Bool} : ∀ n, (∀ i, i < n → h i = h' i) → lst h n = lst h' n
  | 0, _ => rfl
  | n + 1, hh => by
    have e : ∀ h, lst h (n + 1) = if h n = true then lst h n ++ [(n : Int)] else lst h n := fun _ => rfl
    rw [e, e, lst_congr n (fun i hi => hh i (by omega)), hh n (by omega)]
theorem less_lone (l : List S63) (s t : S38) (n : Nat) : ∀ k, k ≤ n → ((lessN (passR l s.f0 s.f1 n) (passR l t.f0 t.f1 n) k).length : Int) = lone l s t k
  | 0, _ => rfl
  | k + 1, h => by
    have ih := less_lone l s t n k (by omega)
    unfold lessN
    rw [List.length_append]
    unfold lessK
    rw [passR_at l s.f0 s.f1 n k (by omega), passR_at l t.f0 t.f1 n k (by omega), List.length_map, lst_filter]
    show _ = lone l s t k + aloneF l s.f0 s.f1 t.f0 t.f1 (k : Int)
    have e : lst (missH (passH l s.f0 s.f1 k) (lst (passH l t.f0 t.f1 k) 5)) 5 = lst (fun i => passH l s.f0 s.f1 k i && !passH l t.f0 t.f1 k i) 5 := by
      refine lst_congr 5 (fun i hi => ?_)
      unfold missH
      rw [lst_has, show decide (i < 5) = true from decide_eq_true hi, Bool.true_and]
    rw [e]
    show _ = lone l s t k + ((lst (fun i => passH l s.f0 s.f1 k i && !passH l t.f0 t.f1 k i) 5).length : Int)
    omega
theorem pass_rows (l : List S63) (s : S38) (n : Nat) : (∀ k, ((passR l s.f0 s.f1 n).getD k []).length ≤ 5) ∧ (passR l s.f0 s.f1 n).length = n := by
  have hpl := passR_len l s.f0 s.f1 n
  refine ⟨fun k => ?_, hpl⟩
  by_cases c : k < n
  · rw [passR_at _ _ _ _ _ c]; exact lst_len _ 5
  · rw [getD_ge _ (by omega)]; simp
theorem less_pp (l : List S63) (s t : S38) (n : Nat) (hn : n ≤ 64) : Ev (fun j => saronref05_less.f j (passR l s.f0 s.f1 n) (passR l t.f0 t.f1 n)) (lessN (passR l s.f0 s.f1 n) (passR l t.f0 t.f1 n) n) := by
  obtain ⟨a1, a2⟩ := pass_rows l s n
  obtain ⟨b1, b2⟩ := pass_rows l t n
  have := less_f (passR l s.f0 s.f1 n) (passR l t.f0 t.f1 n) (fun k => by have := b1 k; omega) a1 (by omega) (by omega)
  rwa [a2] at this
def passes (l : List S63) (many : Nat) (ss : List S38) : List (List (List Int)) := ss.map fun s => passR l s.f0 s.f1 many
theorem conf_l2 (lost : Int) (many : Nat) (h1 : 1 ≤ many) (h64 : many ≤ 64) (ss : List S38) (hl : ss.length ≤ 1000) (i : Nat) (hi : i < ss.length) {R : Int × Int × Int × Int × Bool} : ∀ (d k : Nat), k + d = ss.length →
    (((ss.drop k).map (fun t => (ss[i], t))).find? (confP l lost many) = none → Ev (fun j => saronref05_confused.l1 j lost ss (passes l many ss) ((i + 1 : Nat) : Int)) R) →
    (∀ st, ((ss.drop k).map (fun t => (ss[i], t))).find? (confP l lost many) = some st → R = confT (some st)) →
    Ev (fun j => saronref05_confused.l2 j lost ss (passes l many ss) (i : Int) (k : Int)) R
  | 0, k, hd, hn, hs => by
    refine Ev.step (fun j => by rw [saronref05_confused.l2, if_neg (by omega), w64 (x := (i : Int) + 1) (by omega) (by omega), show ((i : Int) + 1) = ((i + 1 : Nat) : Int) by omega]) ?_
    exact hn (by rw [List.drop_of_length_le (by omega)]; rfl)
  | d + 1, k, hd, hn, hs => by
    have hk : k < ss.length := by omega
    have hpl : (passes l many ss).length = ss.length := by simp [passes]
    have hri : rd_L2 (passes l many ss) (i : Int) = passR l ss[i].f0 ss[i].f1 many := by simp [rd_L2, passes, hi]
    have hrk : rd_L2 (passes l many ss) (k : Int) = passR l ss[k].f0 ss[k].f1 many := by simp [rd_L2, passes, hk]
    have hsi : rd_T38 ss (i : Int) = ss[i] := by simp [rd_T38, hi]
    have hsk : rd_T38 ss (k : Int) = ss[k] := by simp [rd_T38, hk]
    rw [List.drop_eq_getElem_cons hk, List.map_cons] at hn hs
    have hiff := untilF_iff l ss[i] ss[k] lost many h1 h64
    have e1 := less_lone l ss[i] ss[k] many many (Nat.le_refl _)
    have e2 := less_lone l ss[k] ss[i] many many (Nat.le_refl _)
    have more : confP l lost many (ss[i], ss[k]) = false → Ev (fun j => saronref05_confused.l2 j lost ss (passes l many ss) (i : Int) ((k + 1 : Nat) : Int)) R := fun hp => by
      rw [List.find?_cons_of_neg (by rw [hp]; simp)] at hn hs
      exact conf_l2 lost many h1 h64 ss hl i hi d (k + 1) (by omega) hn hs
    refine Ev.step (fun j => by rw [saronref05_confused.l2, if_pos (by omega), if_pos (by omega), if_pos (by omega), if_pos (by omega), if_pos (by omega), hri, hrk, hsi, hsk, w64 (x := (k : Int) + 1) (by omega) (by omega), show ((k : Int) + 1) = ((k + 1 : Nat) : Int) by omega]) ?_
    refine ebind (less_pp l ss[i] ss[k] many h64) ?_
    rw [e1]
    by_cases c1 : lone l ss[i] ss[k] many ≤ lost
    · refine evc (fun j => by rw [if_pos c1]) ?_
      refine ebind (less_pp l ss[k] ss[i] many h64) ?_
      rw [e2]
      by_cases c2 : lone l ss[k] ss[i] many ≤ lost
      · have hp : confP l lost many (ss[i], ss[k]) = true := by unfold confP; rw [decide_eq_true_eq]; exact hiff.2 ⟨c1, c2⟩
        have := hs _ (List.find?_cons_of_pos hp)
        refine evc (fun j => by rw [if_pos c2, if_pos (by omega)]) ?_
        rw [this]
        exact Ev.now _
      · refine evc (fun j => by rw [if_neg c2]) ?_
        exact more (by unfold confP; exact decide_eq_false (fun h => c2 (hiff.1 h).2))
    · refine evc (fun j => by rw [if_neg c1]) ?_
      exact more (by unfold confP; exact decide_eq_false (fun h => c1 (hiff.1 h).1))
theorem conf_l1 (lost : Int) (many : Nat) (h1 : 1 ≤ many) (h64 : many ≤ 64) (ss : List S38) (hl : ss.length ≤ 1000) (hpw : ss.Pairwise (fun s t => befB s t = true)) : ∀ (d i : Nat), i + d = ss.length →
    Ev (fun j => saronref05_confused.l1 j lost ss (passes l many ss) (i : Int)) (confT (((ss.drop i).flatMap (pairsS ss)).find? (confP l lost many)))
  | 0, i, hd => by
    refine Ev.step (fun j => by rw [saronref05_confused.l1, if_neg (by omega)]) ?_
    rw [List.drop_of_length_le (by omega)]
    exact Ev.now _
  | d + 1, i, hd => by
    have hi : i < ss.length := by omega
    have ih := conf_l1 lost many h1 h64 ss hl hpw d (i + 1) (by omega)
    refine Ev.step (fun j => by rw [saronref05_confused.l1, if_pos (by omega), w64 (x := (i : Int) + 1) (by omega) (by omega), show ((i : Int) + 1) = ((i + 1 : Nat) : Int) by omega]) ?_
    have hS : pairsS ss ss[i] = (ss.drop (i + 1)).map (fun t => (ss[i], t)) := by unfold pairsS; rw [after_filter hpw i hi]
    rw [List.drop_eq_getElem_cons hi, List.flatMap_cons, hS, List.find?_append]
    refine conf_l2 lost many h1 h64 ss hl i hi d (i + 1) (by omega) (fun h => ?_) (fun st h => ?_)
    · rw [h, Option.none_or]
      exact ih
    · rw [h]
      rfl
theorem conf_l0 (hs : Small l) (hb : bookOk g l = true) (lost : Int) (many : Nat) (h1 : 1 ≤ many) (h64 : many ≤ 64) (ss : List S38) (hss : ∀ s ∈ ss, 0 ≤ s.f0 ∧ s.f0 < l.length ∧ 0 ≤ s.f1 ∧ s.f1 ≤ 1000) (hl : ss.length ≤ 1000) (hpw : ss.Pairwise (fun s t => befB s t = true)) : ∀ (d n : Nat), n + d = ss.length →
    Ev (fun j => saronref05_confused.l0 j lost (many : Int) ss (passes l many (ss.take n)) (n : Int) g l) (confT ((pairsL ss).find? (confP l lost many)))
  | 0, n, hd => by
    refine Ev.step (fun j => by rw [saronref05_confused.l0, if_neg (by omega)]) ?_
    rw [List.take_of_length_le (by omega)]
    have := conf_l1 (l := l) lost many h1 h64 ss hl hpw ss.length 0 (by omega)
    rw [List.drop_zero] at this
    exact this
  | d + 1, n, hd => by
    have hn : n < ss.length := by omega
    obtain ⟨a1, a2, a3, a4⟩ := hss _ (List.getElem_mem hn)
    have hpl : (passes l many (ss.take n)).length ≤ n := by simp [passes]; omega
    have ht : ss.take (n + 1) = ss.take n ++ [ss[n]] := by rw [List.take_add_one, List.getElem?_eq_getElem hn]; rfl
    refine Ev.step (fun j => by rw [saronref05_confused.l0, if_pos (by omega), if_pos (by omega), show rd_T38 ss (n : Int) = ss[n] by simp [rd_T38, hn], w64 (x := (n : Int) + 1) (by omega) (by omega), show ((n : Int) + 1) = ((n + 1 : Nat) : Int) by omega]) ?_
    refine ebind (passage_f hs hb ss[n].f0 ss[n].f1 a1 a2 a3 (by omega) many (by omega)) ?_
    refine evc (fun j => by rw [if_pos (by omega)]) ?_
    have ih := conf_l0 hs hb lost many h1 h64 ss hss hl hpw d (n + 1) (by omega)
    rw [ht] at ih
    unfold passes at ih ⊢
    rw [List.map_append] at ih
    exact ih
theorem confused_f (hs : Small l) (hb : bookOk g l = true) (lost : Int) (many : Nat) (h1 : 1 ≤ many) (h64 : many ≤ 64) :
    Ev (fun k => saronref05_confused.f k g l lost (many : Int)) (confT ((pairsL (spotsN l l.length)).find? (confP l lost many))) := by
  refine evc (fun k => by rw [saronref05_confused.f]) ?_
  refine ebind (rspots_f hb) ?_
  have h4 := (beats_of hb).len
  have hl := spotsN_len (beats_of hb) l.length (Nat.le_refl _)
  exact conf_l0 hs hb lost many h1 h64 _ (spots_ok hb) (by omega) (spotsN_sorted l l.length) _ 0 (Nat.zero_add _)
end
end Go.Proofs.YtephecfapclgfaaDoor.Q
