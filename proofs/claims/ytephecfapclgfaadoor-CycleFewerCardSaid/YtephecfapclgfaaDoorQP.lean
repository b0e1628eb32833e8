import Derived.Test.YtephecfapclgfaaDoorQW
import Derived.Test.YtephecfapclgfaaDoorG6
set_option linter.unusedVariables false
set_option linter.unusedSimpArgs false
namespace Go.Proofs.YtephecfapclgfaaDoor.Q
open Go.RowKit Go.Proofs.YtephecfapclgfaaDoorW.PrintWords Go.Proofs.YtephecfapclgfaaDoorW.PrintLast Go.Proofs.YtephecfapclgfaaDoor.PRaspKeys Go.Proofs.YtephecfapclgfaaDoor.R

/-! ### Passages, and what is missing of them -/
/-- Rows of what was heard: none longer than Go has. -/
def SmallR (p : List (List Int)) : Prop := p.length ≤ 9223372036854775807 ∧ ∀ r ∈ p, r.length ≤ 9223372036854775807
section
variable {g : Int} {l : List S63}
theorem passR_snoc (l : List S63) (sf sb : Int) (n : Nat) : passR l sf sb (n + 1) = passR l sf sb n ++ [lst (passH l sf sb n) 5] := by simp [passR, List.range_succ]
theorem passR_len (l : List S63) (sf sb : Int) (n : Nat) : (passR l sf sb n).length = n := by simp [passR]
theorem passR_at (l : List S63) (sf sb : Int) (n k : Nat) (h : k < n) : (passR l sf sb n).getD k [] = lst (passH l sf sb k) 5 := by
  rw [getD_lt _ (by rw [passR_len]; exact h)]
  simp [passR]
/-! ### What is less -/
def lessK (p q : List (List Int)) (k : Nat) : List S97 := ((p.getD k []).filter (fun x => !(q.getD k []).contains x)).map (fun x => ⟨(k : Int), x⟩)
def lessN (p q : List (List Int)) : Nat → List S97
  | 0 => []
  | k + 1 => lessN p q k ++ lessK p q k
theorem lessK_len (p q : List (List Int)) (k : Nat) : (lessK p q k).length ≤ (p.getD k []).length := by
  unfold lessK
  rw [List.length_map]
  exact List.length_filter_le _ _
theorem lessN_len (p q : List (List Int)) (h5 : ∀ k, (p.getD k []).length ≤ 5) : ∀ k, (lessN p q k).length ≤ 5 * k
  | 0 => by simp [lessN]
  | k + 1 => by
    have := lessN_len p q h5 k
    have h2 := lessK_len p q k
    have := h5 k
    unfold lessN
    rw [List.length_append]
    omega
theorem gr_len {b : Int} : ∀ (r : List Int) (last : Int), gr b last r = true → last < b → (r.length : Int) ≤ b - last - 1
  | [], last, h, hl => by simp; omega
  | x :: xs, last, h, hl => by
    unfold gr at h
    rw [Bool.and_eq_true, isIn_iff] at h
    have := gr_len xs x h.2 (by omega)
    simp only [List.length_cons]
    omega
theorem heard_rows (hb : bookOk g l = true) {p : List (List Int)} (h : heardB g p = true) : 1 ≤ p.length ∧ p.length ≤ 64 ∧ (∀ k, (p.getD k []).length ≤ 5) ∧ ∀ k, ∀ x ∈ p.getD k [], 0 ≤ x ∧ x < g := by
  have hg := gong_of hb
  unfold heardB at h
  simp only [Bool.and_eq_true, isIn_iff, List.all_eq_true] at h
  have hk : ∀ k, gr g (-1) (p.getD k []) = true := fun k => by
    by_cases c : k < p.length
    · rw [getD_lt _ c]; exact h.2 _ (List.getElem_mem c)
    · rw [getD_ge _ (by omega)]; rfl
  refine ⟨by omega, by omega, fun k => ?_, fun k x hx => ?_⟩
  · have := gr_len _ _ (hk k) (by omega); omega
  · have := gr_in _ _ (hk k) x hx; omega
theorem lst_filter (h : Nat → Bool) (r : List Int) : ∀ n, (lst h n).filter (fun x => !r.contains x) = lst (missH h r) n
  | 0 => rfl
  | n + 1 => by
    have e : ∀ h', lst h' (n + 1) = if h' n = true then lst h' n ++ [(n : Int)] else lst h' n := fun _ => rfl
    have ih := lst_filter h r n
    rw [e, e]
    by_cases c : h n = true
    · rw [if_pos c, List.filter_append, ih]
      by_cases c2 : r.contains (n : Int) = true
      · rw [List.filter_cons_of_neg (by rw [c2]; simp), List.filter_nil, List.append_nil, if_neg (by unfold missH; rw [c2]; simp)]
      · rw [Bool.not_eq_true] at c2
        rw [List.filter_cons_of_pos (by rw [c2]; rfl), List.filter_nil, if_pos (by unfold missH; rw [c, c2]; rfl)]
    · rw [if_neg c, ih, if_neg (by unfold missH; rw [Bool.not_eq_true] at c; rw [c]; simp)]
theorem less_pass (l : List S63) (sf sb : Int) (p : List (List Int)) : ∀ k, k ≤ p.length → lessN (passR l sf sb p.length) p k = lostN l sf sb p k
  | 0, _ => rfl
  | k + 1, h => by
    unfold lessN lostN
    rw [less_pass l sf sb p k (by omega)]
    unfold lessK lostK pRow
    rw [passR_at l sf sb p.length k (by omega), lst_filter]
theorem less_heard (l : List S63) (sf sb : Int) (p : List (List Int)) (hin : ∀ k, ∀ x ∈ p.getD k [], 0 ≤ x ∧ x < 5) : ∀ k, k ≤ p.length → (lessN p (passR l sf sb p.length) k = [] ↔ fitN l sf sb p k = true)
  | 0, _ => by simp [lessN, fitN]
  | k + 1, h => by
    unfold lessN fitN
    rw [List.append_eq_nil_iff, less_heard l sf sb p hin k (by omega), Bool.and_eq_true]
    refine and_congr Iff.rfl ?_
    unfold lessK fitK pRow
    rw [passR_at l sf sb p.length k (by omega), List.map_eq_nil_iff, List.filter_eq_nil_iff, List.all_eq_true]
    refine forall_congr' fun x => forall_congr' fun hx => ?_
    have hi := hin k x hx
    have hh := lst_has (passH l sf sb k) 5 x.toNat
    rw [Int.toNat_of_nonneg hi.1] at hh
    rw [hh, show decide (x.toNat < 5) = true from decide_eq_true (by omega), Bool.true_and]
    cases passH l sf sb k x.toNat <;> simp
theorem missF_iff (l : List S63) (sf sb : Int) (p : List (List Int)) : (missF l sf sb p).2 = fitN l sf sb p p.length ∧ (fitN l sf sb p p.length = true → (missF l sf sb p).1 = lostN l sf sb p p.length) := by
  unfold missF
  cases fitN l sf sb p p.length <;> simp
theorem spotB_in {sf sb : Int} (h : isSpotB l sf sb = true) : 0 ≤ sf ∧ sf < l.length ∧ 0 ≤ sb ∧ sb < (rd_T63 l sf).f0 := by
  unfold isSpotB at h
  simp only [Bool.and_eq_true, isIn_iff] at h
  omega
end
theorem passF_len (g : Int) (l : List S63) (s0 s1 many : Int) : (passF g l s0 s1 many).1.length ≤ 64 ∧ ∀ r ∈ (passF g l s0 s1 many).1, r.length ≤ 5 := by
  unfold passF
  by_cases hz : openE g l (okPassage g l s0 s1 many) = 0
  · rw [if_pos hz]
    have ho := (openE_ok hz).2
    unfold okPassage at ho
    simp only [Bool.and_eq_true, isIn_iff] at ho
    refine ⟨by rw [passR_len]; omega, fun r hr => ?_⟩
    obtain ⟨k, _, rfl⟩ := List.mem_map.1 hr
    exact lst_len _ 5
  · rw [if_neg hz]
    simp
theorem placesF_len (g : Int) (l : List S63) (p : List (List Int)) (lost : Int) : (placesF g l p lost).1.length ≤ 1000 := by
  unfold placesF
  by_cases hz : openE g l (okPlaces g l p lost) = 0
  · rw [if_pos hz]
    have hb := (openE_ok hz).1
    have h4 := (beats_of hb).len
    have hl := spotsN_len (beats_of hb) l.length (Nat.le_refl _)
    have := List.length_filter_le (fitsP l p lost) (spotsN l l.length)
    show ((spotsN l l.length).filter (fitsP l p lost)).length ≤ 1000
    omega
  · rw [if_neg hz]
    simp
theorem missingF_len (g : Int) (l : List S63) (s0 s1 : Int) (p : List (List Int)) : (missingF g l s0 s1 p).1.length ≤ 1000 := by
  unfold missingF
  by_cases hz : openE g l (okMissing g l p s0 s1) = 0
  · rw [if_pos hz]
    obtain ⟨hb, ho⟩ := openE_ok hz
    unfold okMissing at ho
    rw [Bool.and_eq_true] at ho
    obtain ⟨q1, q2, q3, q4⟩ := heard_rows hb ho.1
    obtain ⟨e1, e2⟩ := missF_iff l s0 s1 p
    have hl := lostN_len l s0 s1 p p.length
    by_cases c : (missF l s0 s1 p).2 = true
    · rw [if_pos c]
      rw [e1] at c
      show (missF l s0 s1 p).1.length ≤ 1000
      rw [e2 c]
      omega
    · rw [if_neg c]
      simp
  · rw [if_neg hz]
    simp
end Go.Proofs.YtephecfapclgfaaDoor.Q
namespace Go.Proofs.YtephecfapclgfaaDoor.Q
open Go.RowKit Go.Proofs.YtephecfapclgfaaDoorW.PrintWords Go.Proofs.YtephecfapclgfaaDoorW.PrintLast Go.Proofs.YtephecfapclgfaaDoor.PRaspKeys Go.Proofs.YtephecfapclgfaaDoor.R

/-! ### How long two spots can be confused -/
def sumA (a : Nat → Int) : Nat → Int
  | 0 => 0
  | n + 1 => sumA a n + a n
theorem sumA_mono {a : Nat → Int} (h : ∀ k, 0 ≤ a k) : ∀ (d m : Nat), sumA a m ≤ sumA a (m + d)
  | 0, m => Int.le_refl _
  | d + 1, m => by
    have := sumA_mono h d m
    have h2 := h (m + d)
    show sumA a m ≤ sumA a (m + d) + a (m + d)
    omega
theorem sumA_le {a : Nat → Int} (h : ∀ k, 0 ≤ a k) {m n : Nat} (hmn : m ≤ n) : sumA a m ≤ sumA a n := by
  have := sumA_mono h (n - m) m
  rwa [show m + (n - m) = n by omega] at this
theorem untilN_ge (a1 a2 : Nat → Int) (lost : Int) : ∀ (n b : Nat) (d1 d2 : Int), n + b = 64 → (b : Int) ≤ untilN a1 a2 lost n b d1 d2
  | 0, b, d1, d2, h => by unfold untilN; omega
  | n + 1, b, d1, d2, h => by
    have := untilN_ge a1 a2 lost n (b + 1) (d1 + a1 b) (d2 + a2 b) (by omega)
    unfold untilN
    split
    · exact Int.le_refl _
    · omega
theorem mx_gt {a b c : Int} : mx a b > c ↔ a > c ∨ b > c := by unfold mx; split <;> omega
theorem untilN_iff {a1 a2 : Nat → Int} (h1 : ∀ k, 0 ≤ a1 k) (h2 : ∀ k, 0 ≤ a2 k) (lost : Int) (many : Nat) (hm : many ≤ 64) : ∀ (n b : Nat), n + b = 64 → b < many →
    ((many : Int) ≤ untilN a1 a2 lost n b (sumA a1 b) (sumA a2 b) ↔ sumA a1 many ≤ lost ∧ sumA a2 many ≤ lost)
  | 0, b, h, hb => by omega
  | n + 1, b, h, hb => by
    unfold untilN
    have s1 : sumA a1 b + a1 b = sumA a1 (b + 1) := rfl
    have s2 : sumA a2 b + a2 b = sumA a2 (b + 1) := rfl
    have m1 := sumA_le h1 (show b + 1 ≤ many by omega)
    have m2 := sumA_le h2 (show b + 1 ≤ many by omega)
    rw [s1, s2]
    by_cases c : mx (sumA a1 (b + 1)) (sumA a2 (b + 1)) > lost
    · rw [if_pos c]
      rw [mx_gt] at c
      omega
    · rw [if_neg c]
      rw [mx_gt] at c
      by_cases e : b + 1 = many
      · have := untilN_ge a1 a2 lost n (b + 1) (sumA a1 (b + 1)) (sumA a2 (b + 1)) (by omega)
        subst e
        omega
      · exact untilN_iff h1 h2 lost many hm n (b + 1) (by omega) (by omega)
theorem aloneF_nn (l : List S63) (sf sb tf tb b : Int) : 0 ≤ aloneF l sf sb tf tb b := (cntG_bnd _).1
/-- The strokes of a passage from s that one from t has not. -/
def lone (l : List S63) (s t : S38) : Nat → Int := sumA (fun b => aloneF l s.f0 s.f1 t.f0 t.f1 b)
theorem untilF_iff (l : List S63) (s t : S38) (lost : Int) (many : Nat) (h1 : 1 ≤ many) (h64 : many ≤ 64) : (many : Int) ≤ untilF l s.f0 s.f1 t.f0 t.f1 lost ↔ lone l s t many ≤ lost ∧ lone l t s many ≤ lost :=
  untilN_iff (a1 := fun b => aloneF l s.f0 s.f1 t.f0 t.f1 b) (a2 := fun b => aloneF l t.f0 t.f1 s.f0 s.f1 b) (fun _ => aloneF_nn _ _ _ _ _ _) (fun _ => aloneF_nn _ _ _ _ _ _) lost many h64 64 0 (by omega) (by omega)
/-! ### Spots in their order -/
theorem befB_iff {s t : S38} : befB s t = true ↔ s.f0 < t.f0 ∨ (s.f0 = t.f0 ∧ s.f1 < t.f1) := by
  unfold befB
  rw [Bool.or_eq_true, Bool.and_eq_true, decide_eq_true_eq, decide_eq_true_eq, decide_eq_true_eq]
theorem spotsB_sorted (f : Nat) : ∀ n, (spotsB f n).Pairwise (fun s t => befB s t = true)
  | 0 => by simp [spotsB]
  | n + 1 => by
    rw [spotsB_snoc, List.pairwise_append]
    refine ⟨spotsB_sorted f n, List.pairwise_singleton _ _, fun a ha b hb => ?_⟩
    obtain ⟨i, hi, rfl⟩ := List.mem_map.1 ha
    rw [List.mem_range] at hi
    obtain rfl := List.mem_singleton.1 hb
    exact befB_iff.2 (.inr ⟨rfl, by simp only; omega⟩)
theorem spotsN_sorted (l : List S63) : ∀ k, (spotsN l k).Pairwise (fun s t => befB s t = true)
  | 0 => List.Pairwise.nil
  | k + 1 => by
    unfold spotsN
    rw [List.pairwise_append]
    refine ⟨spotsN_sorted l k, spotsB_sorted k _, fun a ha b hb => ?_⟩
    have := spotsN_in l k a ha
    obtain ⟨i, _, rfl⟩ := List.mem_map.1 hb
    exact befB_iff.2 (.inl (by simp only; omega))
theorem after_filter {ss : List S38} (hs : ss.Pairwise (fun s t => befB s t = true)) (i : Nat) (hi : i < ss.length) : ss.filter (befB ss[i]) = ss.drop (i + 1) := by
  have hsp : ss = ss.take (i + 1) ++ ss.drop (i + 1) := (List.take_append_drop _ _).symm
  have hpw := List.pairwise_iff_getElem.1 hs
  have h1 : (ss.take (i + 1)).filter (befB ss[i]) = [] := by
    rw [List.filter_eq_nil_iff]
    intro t ht
    obtain ⟨j, hj, rfl⟩ := List.getElem_of_mem ht
    rw [List.length_take] at hj
    rw [List.getElem_take]
    by_cases e : j = i
    · subst e
      rw [befB_iff]; omega
    · have := befB_iff.1 (hpw j i (by omega) hi (by omega))
      rw [befB_iff]; omega
  have h2 : (ss.drop (i + 1)).filter (befB ss[i]) = ss.drop (i + 1) := by
    rw [List.filter_eq_self]
    intro t ht
    obtain ⟨j, hj, rfl⟩ := List.getElem_of_mem ht
    rw [List.length_drop] at hj
    rw [List.getElem_drop]
    exact hpw i (i + 1 + j) hi (by omega) (by omega)
  calc ss.filter (befB ss[i]) = (ss.take (i + 1) ++ ss.drop (i + 1)).filter (befB ss[i]) := by rw [← hsp]
    _ = ss.drop (i + 1) := by rw [List.filter_append, h1, h2, List.nil_append]
theorem mem_spotsN (l : List S63) : ∀ (k : Nat) (s : S38), 0 ≤ s.f0 → s.f0 < k → 0 ≤ s.f1 → s.f1 < (rd_T63 l s.f0).f0 → s ∈ spotsN l k
  | 0, s, h0, h1, _, _ => by omega
  | k + 1, s, h0, h1, h2, h3 => by
    unfold spotsN
    rw [List.mem_append]
    by_cases c : s.f0 < k
    · exact .inl (mem_spotsN l k s h0 c h2 h3)
    · right
      have e : s.f0 = k := by omega
      unfold spotsB
      rw [List.mem_map]
      refine ⟨s.f1.toNat, by rw [List.mem_range, ← e]; omega, ?_⟩
      cases s
      simp only at e h2
      subst e
      simp only [Int.toNat_of_nonneg h2]
end Go.Proofs.YtephecfapclgfaaDoor.Q
