import Derived.Test.YtephecfapclgfaaDoorQB
import Derived.Test.YtephecfapclgfaaDoorG5
import Derived.Test.YtephecfapclgfaaDoorCH
set_option linter.unusedVariables false
set_option linter.unusedSimpArgs false
namespace Go.Proofs.YtephecfapclgfaaDoor.Q
open Go.RowKit Go.Proofs.YtephecfapclgfaaDoorW.PrintWords Go.Proofs.YtephecfapclgfaaDoorW.PrintLast Go.Proofs.YtephecfapclgfaaDoor.PRaspKeys Go.Proofs.YtephecfapclgfaaDoor.R

/-! ### Passages, spots, what is missing -/
/-- Rows of what was heard: none longer than Go has. -/
def SmallR (p : List (List Int)) : Prop := p.length ≤ 9223372036854775807 ∧ ∀ r ∈ p, r.length ≤ 9223372036854775807
section
variable {g : Int} {l : List S63}
theorem passR_snoc (l : List S63) (sf sb : Int) (n : Nat) : passR l sf sb (n + 1) = passR l sf sb n ++ [lst (passH l sf sb n) 5] := by simp [passR, List.range_succ]
theorem passR_len (l : List S63) (sf sb : Int) (n : Nat) : (passR l sf sb n).length = n := by simp [passR]
theorem passR_at (l : List S63) (sf sb : Int) (n k : Nat) (h : k < n) : (passR l sf sb n).getD k [] = lst (passH l sf sb k) 5 := by
  rw [getD_lt _ (by rw [passR_len]; exact h)]
  simp [passR]
theorem passage_l0 (hs : Small l) (hb : bookOk g l = true) (sf sb : Int) (h0 : 0 ≤ sf) (h1 : sf < l.length) (hb0 : 0 ≤ sb) (hb1 : sb ≤ 1000000) (many : Nat) (hm : many ≤ 1000) : ∀ (d n : Nat), n + d = many →
    Ev (fun k => saronref05_passage.l0 k (many : Int) (passR l sf sb n) (n : Int) g l sf sb) (passR l sf sb many)
  | 0, n, hd => by
    refine Ev.step (fun k => by rw [saronref05_passage.l0, if_neg (by omega)]) ?_
    rw [show n = many by omega]
    exact Ev.now _
  | d + 1, n, hd => by
    refine Ev.step (fun k => by rw [saronref05_passage.l0, if_pos (by omega), w64 (x := sb + n) (by omega) (by omega), w64 (x := (n : Int) + 1) (by omega) (by omega), show ((n : Int) + 1) = ((n + 1 : Nat) : Int) by omega]) ?_
    refine ebind (struck_f hs hb sf (sb + n) h0 h1 (by omega)) ?_
    have := passR_len l sf sb n
    refine evc (fun k => by rw [if_pos (by omega)]) ?_
    have ih := passage_l0 hs hb sf sb h0 h1 hb0 hb1 many hm d (n + 1) (by omega)
    rw [passR_snoc] at ih
    exact ih
theorem passage_f (hs : Small l) (hb : bookOk g l = true) (sf sb : Int) (h0 : 0 ≤ sf) (h1 : sf < l.length) (hb0 : 0 ≤ sb) (hb1 : sb ≤ 1000000) (many : Nat) (hm : many ≤ 1000) :
    Ev (fun k => saronref05_passage.f k g l sf sb (many : Int)) (passR l sf sb many) := passage_l0 hs hb sf sb h0 h1 hb0 hb1 many hm many 0 (by omega)
theorem rspots_l1 (hb : bookOk g l = true) (f : Nat) (hf : f < l.length) (xs : List S38) (hx : xs.length ≤ 1000) {R : List S38} (hn : Ev (fun k => saronref05_spots.l0 k (xs ++ spotsB f (rd_T63 l (f : Int)).f0.toNat) ((f + 1 : Nat) : Int) g l) R) : ∀ (d n : Nat), (n : Int) + d = (rd_T63 l (f : Int)).f0 →
    Ev (fun k => saronref05_spots.l1 k (xs ++ spotsB f n) (f : Int) (n : Int) g l) R
  | 0, n, hd => by
    have h4 := (beats_of hb).len
    refine Ev.step (fun k => by rw [saronref05_spots.l1, if_pos (by omega), if_pos (by omega), if_neg (by omega), w64 (x := (f : Int) + 1) (by omega) (by omega), show ((f : Int) + 1) = ((f + 1 : Nat) : Int) by omega]) ?_
    rw [show (rd_T63 l (f : Int)).f0.toNat = n by omega] at hn
    exact hn
  | d + 1, n, hd => by
    have h4 := (beats_of hb).len
    have h2 := (beats_of hb).two (f : Int) (by omega) (by omega)
    have hlen := spotsB_len f n
    refine Ev.step (fun k => by rw [saronref05_spots.l1, if_pos (by omega), if_pos (by omega), if_pos (by omega), if_pos (by rw [List.length_append]; omega), w64 (x := (n : Int) + 1) (by omega) (by omega), show ((n : Int) + 1) = ((n + 1 : Nat) : Int) by omega]) ?_
    have ih := rspots_l1 hb f hf xs hx hn d (n + 1) (by omega)
    rw [spotsB_snoc, ← List.append_assoc] at ih
    exact ih
theorem rspots_l0 (hb : bookOk g l = true) : ∀ (d f : Nat), f + d = l.length → Ev (fun k => saronref05_spots.l0 k (spotsN l f) (f : Int) g l) (spotsN l l.length)
  | 0, f, hd => by
    refine Ev.step (fun k => by rw [saronref05_spots.l0, if_neg (by omega)]) ?_
    rw [show f = l.length by omega]
    exact Ev.now _
  | d + 1, f, hd => by
    have h4 := (beats_of hb).len
    have h2 := (beats_of hb).two (f : Int) (by omega) (by omega)
    have hl := spotsN_len (beats_of hb) f (by omega)
    refine Ev.step (fun k => by rw [saronref05_spots.l0, if_pos (by omega)]) ?_
    have := rspots_l1 hb f (by omega) (spotsN l f) (by omega) (rspots_l0 hb d (f + 1) (by omega)) (rd_T63 l (f : Int)).f0.toNat 0 (by omega)
    simpa [spotsB] using this
theorem rspots_f (hb : bookOk g l = true) : Ev (fun k => saronref05_spots.f k g l) (spotsN l l.length) := rspots_l0 hb l.length 0 (by omega)
/-! ### What is less -/
def lessK (p q : List (List Int)) (k : Nat) : List S97 := ((p.getD k []).filter (fun x => !(q.getD k []).contains x)).map (fun x => ⟨(k : Int), x⟩)
def lessN (p q : List (List Int)) : Nat → List S97
  | 0 => []
  | k + 1 => lessN p q k ++ lessK p q k
theorem lessK_len (p q : List (List Int)) (k : Nat) : (lessK p q k).length ≤ (p.getD k []).length := by
  unfold lessK
  rw [List.length_map]
  exact List.length_filter_le _ _
theorem lessN_len (p q : List (List Int)) (h5 : ∀ k, (p.getD k []).length ≤ 5) : ∀ k, (lessN p q k).length ≤ 5 * k
  | 0 => by simp [lessN]
  | k + 1 => by
    have := lessN_len p q h5 k
    have h2 := lessK_len p q k
    have := h5 k
    unfold lessN
    rw [List.length_append]
    omega
theorem less_l1 (p q : List (List Int)) (hq : ∀ k, (q.getD k []).length ≤ 9223372036854775807) (h5 : ∀ k, (p.getD k []).length ≤ 5) (k : Nat) (hk : k < p.length) (hk1 : k < 1000) (hpq : p.length ≤ q.length) (xs : List S97) (hx : xs.length ≤ 10000) {R : List S97}
    (hn : Ev (fun j => saronref05_less.l0 j p q (xs ++ lessK p q k) ((k + 1 : Nat) : Int)) R) : ∀ (d n : Nat), n + d = (p.getD k []).length →
    Ev (fun j => saronref05_less.l1 j p q (xs ++ (((p.getD k []).take n).filter (fun x => !(q.getD k []).contains x)).map (fun x => ⟨(k : Int), x⟩)) (k : Int) (p.getD k []) (n : Int)) R
  | 0, n, hd => by
    refine Ev.step (fun j => by rw [saronref05_less.l1, if_neg (by omega), w64 (x := (k : Int) + 1) (by omega) (by omega), show ((k : Int) + 1) = ((k + 1 : Nat) : Int) by omega]) ?_
    rw [List.take_of_length_le (by omega)]
    exact hn
  | d + 1, n, hd => by
    have h5' := h5 k
    have hn' : n < (p.getD k []).length := by omega
    have hr : rd (p.getD k []) (n : Int) = (p.getD k [])[n] := by rw [rd_nat, getD_lt _ hn']
    have hq' : rd_L1 q (k : Int) = q.getD k [] := by simp [rd_L1]
    have hfl : ((((p.getD k []).take n).filter (fun x => !(q.getD k []).contains x)).map (fun x => (⟨(k : Int), x⟩ : S97))).length ≤ 5 := by
      rw [List.length_map]
      have := List.length_filter_le (fun x => !(q.getD k []).contains x) ((p.getD k []).take n)
      have := List.length_take_le n (p.getD k [])
      have := List.length_take_le' n (p.getD k [])
      omega
    refine Ev.step (fun j => by rw [saronref05_less.l1, if_pos (by omega), if_pos (by omega), if_pos (by omega), if_pos (by omega), hq', hr, w64 (x := (n : Int) + 1) (by omega) (by omega), show ((n : Int) + 1) = ((n + 1 : Nat) : Int) by omega]) ?_
    refine ebind (where_f (q.getD k []) (p.getD k [])[n] (hq k)) ?_
    have ih := less_l1 p q hq h5 k hk hk1 hpq xs hx hn d (n + 1) (by omega)
    have ht : (p.getD k []).take (n + 1) = (p.getD k []).take n ++ [(p.getD k [])[n]] := by rw [List.take_add_one, List.getElem?_eq_getElem hn']; rfl
    rw [ht, List.filter_append, List.map_append, ← List.append_assoc] at ih
    by_cases c : wh (p.getD k [])[n] 0 (q.getD k []) < 0
    · have hc := (wh_lt _ _ 0 (by omega)).1 c
      refine evc (fun j => by rw [if_pos c, if_pos (by rw [List.length_append]; omega)]) ?_
      rw [List.filter_cons_of_pos (by rw [hc]; rfl)] at ih
      exact ih
    · have hc := (wh_iff (p.getD k [])[n] (q.getD k []) 0 (by omega)).1 (by omega)
      refine evc (fun j => by rw [if_neg c]) ?_
      rw [List.filter_cons_of_neg (by rw [hc]; simp), List.filter_nil, List.map_nil, List.append_nil] at ih
      exact ih
theorem less_l0 (p q : List (List Int)) (hq : ∀ k, (q.getD k []).length ≤ 9223372036854775807) (h5 : ∀ k, (p.getD k []).length ≤ 5) (hp : p.length ≤ 1000) (hpq : p.length ≤ q.length) : ∀ (d k : Nat), k + d = p.length →
    Ev (fun j => saronref05_less.l0 j p q (lessN p q k) (k : Int)) (lessN p q p.length)
  | 0, k, hd => by
    refine Ev.step (fun j => by rw [saronref05_less.l0, if_neg (by omega)]) ?_
    rw [show k = p.length by omega]
    exact Ev.now _
  | d + 1, k, hd => by
    have hl := lessN_len p q h5 k
    refine Ev.step (fun j => by rw [saronref05_less.l0, if_pos (by omega), if_pos (by omega), show rd_L1 p (k : Int) = p.getD k [] by simp [rd_L1]]) ?_
    have := less_l1 p q hq h5 k (by omega) (by omega) hpq (lessN p q k) (by omega) (less_l0 p q hq h5 hp hpq d (k + 1) (by omega)) (p.getD k []).length 0 (by omega)
    simpa using this
theorem less_f (p q : List (List Int)) (hq : ∀ k, (q.getD k []).length ≤ 9223372036854775807) (h5 : ∀ k, (p.getD k []).length ≤ 5) (hp : p.length ≤ 1000) (hpq : p.length ≤ q.length) : Ev (fun j => saronref05_less.f j p q) (lessN p q p.length) := less_l0 p q hq h5 hp hpq p.length 0 (by omega)
theorem gr_len {b : Int} : ∀ (r : List Int) (last : Int), gr b last r = true → last < b → (r.length : Int) ≤ b - last - 1
  | [], last, h, hl => by simp; omega
  | x :: xs, last, h, hl => by
    unfold gr at h
    rw [Bool.and_eq_true, isIn_iff] at h
    have := gr_len xs x h.2 (by omega)
    simp only [List.length_cons]
    omega
theorem heard_rows (hb : bookOk g l = true) {p : List (List Int)} (h : heardB g p = true) : 1 ≤ p.length ∧ p.length ≤ 64 ∧ (∀ k, (p.getD k []).length ≤ 5) ∧ ∀ k, ∀ x ∈ p.getD k [], 0 ≤ x ∧ x < g := by
  have hg := gong_of hb
  unfold heardB at h
  simp only [Bool.and_eq_true, isIn_iff, List.all_eq_true] at h
  have hk : ∀ k, gr g (-1) (p.getD k []) = true := fun k => by
    by_cases c : k < p.length
    · rw [getD_lt _ c]; exact h.2 _ (List.getElem_mem c)
    · rw [getD_ge _ (by omega)]; rfl
  refine ⟨by omega, by omega, fun k => ?_, fun k x hx => ?_⟩
  · have := gr_len _ _ (hk k) (by omega); omega
  · have := gr_in _ _ (hk k) x hx; omega
theorem rheard_l0 (p : List (List Int)) (hp : SmallR p) : ∀ (d n : Nat) (q : Bool), n + d = p.length → Ev (fun k => saronref05_IsHeard.l0 k p q (n : Int) g l) (q && (p.drop n).all (fun r => gr g (-1) r))
  | d, n, false, hd => by
    refine Ev.step (fun k => by rw [saronref05_IsHeard.l0, if_neg (by simp)]) ?_
    exact Ev.now _
  | 0, n, true, hd => by
    have := hp.1
    refine Ev.step (fun k => by rw [saronref05_IsHeard.l0, if_pos rfl, if_neg (by omega)]) ?_
    rw [List.drop_of_length_le (by omega)]
    exact Ev.now _
  | d + 1, n, true, hd => by
    have := hp.1
    have hn : n < p.length := by omega
    refine Ev.step (fun k => by rw [saronref05_IsHeard.l0, if_pos rfl, if_pos (by omega), if_pos (by omega), show rd_L1 p (n : Int) = p[n] by simp [rd_L1, hn], w64 (x := (n : Int) + 1) (by omega) (by omega), show ((n : Int) + 1) = ((n + 1 : Nat) : Int) by omega]) ?_
    refine ebind (rgrows_f g p[n] (hp.2 _ (List.getElem_mem hn))) ?_
    rw [List.drop_eq_getElem_cons hn, List.all_cons, Bool.true_and]
    exact rheard_l0 p hp d (n + 1) _ (by omega)
theorem rheard_f (p : List (List Int)) (hp : SmallR p) : Ev (fun k => saronref05_IsHeard.f k g l p) (heardB g p) := by
  refine evc (fun k => by rw [saronref05_IsHeard.f, sits_f, Option.bind_some]) ?_
  have := rheard_l0 (g := g) (l := l) p hp p.length 0 (isIn (p.length : Int) 1 64) (by omega)
  rwa [List.drop_zero] at this
theorem lst_filter (h : Nat → Bool) (r : List Int) : ∀ n, (lst h n).filter (fun x => !r.contains x) = lst (missH h r) n
  | 0 => rfl
  | n + 1 => by
    have e : ∀ h', lst h' (n + 1) = if h' n = true then lst h' n ++ [(n : Int)] else lst h' n := fun _ => rfl
    have ih := lst_filter h r n
    rw [e, e]
    by_cases c : h n = true
    · rw [if_pos c, List.filter_append, ih]
      by_cases c2 : r.contains (n : Int) = true
      · rw [List.filter_cons_of_neg (by rw [c2]; simp), List.filter_nil, List.append_nil, if_neg (by unfold missH; rw [c2]; simp)]
      · rw [Bool.not_eq_true] at c2
        rw [List.filter_cons_of_pos (by rw [c2]; rfl), List.filter_nil, if_pos (by unfold missH; rw [c, c2]; rfl)]
    · rw [if_neg c, ih, if_neg (by unfold missH; rw [Bool.not_eq_true] at c; rw [c]; simp)]
theorem less_pass (l : List S63) (sf sb : Int) (p : List (List Int)) : ∀ k, k ≤ p.length → lessN (passR l sf sb p.length) p k = lostN l sf sb p k
  | 0, _ => rfl
  | k + 1, h => by
    unfold lessN lostN
    rw [less_pass l sf sb p k (by omega)]
    unfold lessK lostK pRow
    rw [passR_at l sf sb p.length k (by omega), lst_filter]
theorem less_heard (l : List S63) (sf sb : Int) (p : List (List Int)) (hin : ∀ k, ∀ x ∈ p.getD k [], 0 ≤ x ∧ x < 5) : ∀ k, k ≤ p.length → (lessN p (passR l sf sb p.length) k = [] ↔ fitN l sf sb p k = true)
  | 0, _ => by simp [lessN, fitN]
  | k + 1, h => by
    unfold lessN fitN
    rw [List.append_eq_nil_iff, less_heard l sf sb p hin k (by omega), Bool.and_eq_true]
    refine and_congr Iff.rfl ?_
    unfold lessK fitK pRow
    rw [passR_at l sf sb p.length k (by omega), List.map_eq_nil_iff, List.filter_eq_nil_iff, List.all_eq_true]
    refine forall_congr' fun x => forall_congr' fun hx => ?_
    have hi := hin k x hx
    have hh := lst_has (passH l sf sb k) 5 x.toNat
    rw [Int.toNat_of_nonneg hi.1] at hh
    rw [hh, show decide (x.toNat < 5) = true from decide_eq_true (by omega), Bool.true_and]
    cases passH l sf sb k x.toNat <;> simp
theorem rmissing_f (hs : Small l) (hb : bookOk g l = true) (sf sb : Int) (h0 : 0 ≤ sf) (h1 : sf < l.length) (hb0 : 0 ≤ sb) (hb1 : sb ≤ 1000000) (p : List (List Int)) (hh : heardB g p = true) :
    Ev (fun k => saronref05_missing.f k g l sf sb p) (lostN l sf sb p p.length, fitN l sf sb p p.length) := by
  obtain ⟨q1, q2, q3, q4⟩ := heard_rows hb hh
  have hg := gong_of hb
  have hpl := passR_len l sf sb p.length
  have hp5 : ∀ k, ((passR l sf sb p.length).getD k []).length ≤ 5 := fun k => by
    by_cases c : k < p.length
    · rw [passR_at _ _ _ _ _ c]; exact lst_len _ 5
    · rw [getD_ge _ (by omega)]; simp
  refine evc (fun k => by rw [saronref05_missing.f]) ?_
  refine ebind (passage_f hs hb sf sb h0 h1 hb0 hb1 p.length (by omega)) ?_
  refine ebind (less_f (passR l sf sb p.length) p (fun k => by have := q3 k; omega) hp5 (by omega) (by omega)) ?_
  refine ebind (less_f p (passR l sf sb p.length) (fun k => by have := hp5 k; omega) q3 (by omega) (by omega)) ?_
  rw [hpl, less_pass l sf sb p p.length (Nat.le_refl _)]
  have hiff := less_heard l sf sb p (fun k x hx => by have := q4 k x hx; omega) p.length (Nat.le_refl _)
  have e : (((lessN p (passR l sf sb p.length) p.length).length : Int) == 0) = fitN l sf sb p p.length := by
    rw [Bool.eq_iff_iff, ← hiff, beq_iff_eq, ← List.length_eq_zero_iff]
    omega
  rw [e]
  exact Ev.now _
theorem missF_iff (l : List S63) (sf sb : Int) (p : List (List Int)) : (missF l sf sb p).2 = fitN l sf sb p p.length ∧ (fitN l sf sb p p.length = true → (missF l sf sb p).1 = lostN l sf sb p p.length) := by
  unfold missF
  cases fitN l sf sb p p.length <;> simp
/-! ### The four functions -/
theorem isSpot_some (hs : Small l) (sf sb : Int) : ∃ b, saronref05_isSpot.f g l sf sb = some b := by
  rw [saronref05_isSpot.f, isForm_f g l hs.1, Option.bind_some]
  by_cases c : isIn sf 0 ((l.length : Int) - 1) = true
  · have := isIn_iff.1 c
    rw [if_pos c, if_pos (by omega), if_pos (by omega), sits_f]
    exact ⟨_, rfl⟩
  · rw [if_neg c]
    exact ⟨_, rfl⟩
theorem isSpot_f (hs : Small l) (hb : bookOk g l = true) (sf sb : Int) : saronref05_isSpot.f g l sf sb = some (isSpotB l sf sb) := by
  rw [saronref05_isSpot.f, isForm_f g l hs.1, Option.bind_some]
  unfold isSpotB
  by_cases c : isIn sf 0 ((l.length : Int) - 1) = true
  · have := isIn_iff.1 c
    have h2 := (beats_of hb).two sf (by omega) (by omega)
    rw [if_pos c, if_pos (by omega), if_pos (by omega), sits_f, w64 (by omega) (by omega), c, Bool.true_and]
    rfl
  · rw [if_neg c]
    rw [Bool.not_eq_true] at c
    rw [c, Bool.false_and]
theorem spotB_in {sf sb : Int} (h : isSpotB l sf sb = true) : 0 ≤ sf ∧ sf < l.length ∧ 0 ≤ sb ∧ sb < (rd_T63 l sf).f0 := by
  unfold isSpotB at h
  simp only [Bool.and_eq_true, isIn_iff] at h
  omega
theorem Passage_f (hs : Small l) (sf sb many : Int) : Ev (fun k => saronref05_Passage.f k g l sf sb many) (passF g l sf sb many) := by
  have key : ∀ ok : Bool, (ok = true → bookOk g l = true → isSpotB l sf sb = true ∧ 1 ≤ many ∧ many ≤ 64) →
      Ev (fun k => (saronref05_asked.f k g l ok).bind fun t => (if t = 0 then ((saronref05_passage.f k g l sf sb many).bind fun t' => (some (t', (0 : Int)))) else (some (([] : List (List Int)), t))))
        (if openE g l ok = 0 then (passR l sf sb many.toNat, 0) else ([], openE g l ok)) := fun ok hok => by
    refine ebind (asked_f g l hs ok) ?_
    by_cases hz : openE g l ok = 0
    · obtain ⟨hb, ho⟩ := openE_ok hz
      obtain ⟨h1, h2, h3⟩ := hok ho hb
      have hi := spotB_in h1
      have ht := (beats_of hb).two sf hi.1 hi.2.1
      refine evc (fun k => by rw [if_pos hz]) ?_
      rw [if_pos hz]
      have := passage_f hs hb sf sb hi.1 hi.2.1 hi.2.2.1 (by omega) many.toNat (by omega)
      rw [Int.toNat_of_nonneg (by omega)] at this
      exact ebind this (Ev.now _)
    · refine evc (fun k => by rw [if_neg hz]) ?_
      rw [if_neg hz]
      exact Ev.now _
  by_cases hb : bookOk g l = true
  · unfold passF okPassage
    by_cases c : isSpotB l sf sb = true
    · refine evc (fun k => by rw [saronref05_Passage.f, isSpot_f hs hb, Option.bind_some, if_pos c, sits_f, Option.bind_some]) ?_
      rw [c, Bool.true_and]
      exact key _ (fun h _ => by rw [isIn_iff] at h; exact ⟨c, h⟩)
    · refine evc (fun k => by rw [saronref05_Passage.f, isSpot_f hs hb, Option.bind_some, if_neg c]) ?_
      rw [Bool.not_eq_true] at c
      rw [c, Bool.false_and]
      exact key false (fun h => by cases h)
  · have e : ∀ ok, (if openE g l ok = 0 then (passR l sf sb many.toNat, (0 : Int)) else ([], openE g l ok)) = passF g l sf sb many := fun ok => by
      unfold passF
      rw [no_book hb, no_book hb]
    obtain ⟨b, hsp⟩ := isSpot_some (g := g) hs sf sb
    cases b
    · refine evc (fun k => by rw [saronref05_Passage.f, hsp, Option.bind_some, if_neg (by simp)]) ?_
      rw [← e false]
      exact key false (fun h => by cases h)
    · refine evc (fun k => by rw [saronref05_Passage.f, hsp, Option.bind_some, if_pos rfl, sits_f, Option.bind_some]) ?_
      rw [← e (isIn many 1 64)]
      exact key _ (fun _ h => absurd h hb)
theorem places_l0 (hs : Small l) (hb : bookOk g l = true) (p : List (List Int)) (hh : heardB g p = true) (lost : Int) (ss : List S38) (hss : ∀ s ∈ ss, 0 ≤ s.f0 ∧ s.f0 < l.length ∧ 0 ≤ s.f1 ∧ s.f1 ≤ 1000) (hl : ss.length ≤ 1000) : ∀ (d n : Nat), n + d = ss.length →
    Ev (fun k => saronref05_Places.l0 k p lost ss ((ss.take n).filter (fitsP l p lost)) (n : Int) g l) (ss.filter (fitsP l p lost), 0)
  | 0, n, hd => by
    refine Ev.step (fun k => by rw [saronref05_Places.l0, if_neg (by omega)]) ?_
    rw [List.take_of_length_le (by omega)]
    exact Ev.now _
  | d + 1, n, hd => by
    have hn : n < ss.length := by omega
    have hr : rd_T38 ss (n : Int) = ss[n] := by simp [rd_T38, hn]
    obtain ⟨a1, a2, a3, a4⟩ := hss _ (List.getElem_mem hn)
    have hfl := List.length_filter_le (fitsP l p lost) (ss.take n)
    have htl := List.length_take_le n ss
    refine Ev.step (fun k => by rw [saronref05_Places.l0, if_pos (by omega), if_pos (by omega), hr, w64 (x := (n : Int) + 1) (by omega) (by omega), show ((n : Int) + 1) = ((n + 1 : Nat) : Int) by omega]) ?_
    refine ebind (rmissing_f hs hb ss[n].f0 ss[n].f1 a1 a2 a3 (by omega) p hh) ?_
    have ih := places_l0 hs hb p hh lost ss hss hl d (n + 1) (by omega)
    have ht : ss.take (n + 1) = ss.take n ++ [ss[n]] := by rw [List.take_add_one, List.getElem?_eq_getElem hn]; rfl
    rw [ht, List.filter_append] at ih
    obtain ⟨e1, e2⟩ := missF_iff l ss[n].f0 ss[n].f1 p
    by_cases c : fitN l ss[n].f0 ss[n].f1 p p.length = true
    · refine evc (fun k => by rw [if_pos c]) ?_
      by_cases c2 : ((lostN l ss[n].f0 ss[n].f1 p p.length).length : Int) ≤ lost
      · refine evc (fun k => by rw [if_pos c2, if_pos (by omega)]) ?_
        rw [List.filter_cons_of_pos (by unfold fitsP; rw [e1, c, e2 c, decide_eq_true c2]; rfl)] at ih
        exact ih
      · refine evc (fun k => by rw [if_neg c2]) ?_
        rw [List.filter_cons_of_neg (by unfold fitsP; rw [e1, c, e2 c, decide_eq_false c2]; simp), List.filter_nil, List.append_nil] at ih
        exact ih
    · refine evc (fun k => by rw [if_neg c]) ?_
      rw [Bool.not_eq_true] at c
      rw [List.filter_cons_of_neg (by unfold fitsP; rw [e1, c]; simp), List.filter_nil, List.append_nil] at ih
      exact ih
theorem Places_f (hs : Small l) (p : List (List Int)) (hp : SmallR p) (lost : Int) : Ev (fun k => saronref05_Places.f k g l p lost) (placesF g l p lost) := by
  have key : ∀ ok : Bool, (ok = true → heardB g p = true) →
      Ev (fun k => (saronref05_asked.f k g l ok).bind fun t => (saronref05_Places.j0 k p lost t g l))
        (if openE g l ok = 0 then ((spotsN l l.length).filter (fitsP l p lost), 0) else ([], openE g l ok)) := fun ok hok => by
    refine ebind (asked_f g l hs ok) ?_
    by_cases hz : openE g l ok = 0
    · obtain ⟨hb, ho⟩ := openE_ok hz
      have hh := hok ho
      refine Ev.step (fun k => by rw [saronref05_Places.j0, if_pos hz]) ?_
      rw [if_pos hz]
      refine ebind (rspots_f hb) ?_
      have h4 := (beats_of hb).len
      have hl := spotsN_len (beats_of hb) l.length (Nat.le_refl _)
      exact places_l0 hs hb p hh lost _ (spots_ok hb) (by omega) _ 0 (Nat.zero_add _)
    · refine Ev.step (fun k => by rw [saronref05_Places.j0, if_neg hz]) ?_
      rw [if_neg hz]
      exact Ev.now _
  unfold placesF okPlaces
  refine evc (fun k => by rw [saronref05_Places.f]) ?_
  refine ebind (rheard_f p hp) ?_
  by_cases c : heardB g p = true
  · refine evc (fun k => by rw [if_pos c, sits_f, Option.bind_some]) ?_
    rw [c, Bool.true_and]
    exact key _ (fun _ => c)
  · refine evc (fun k => by rw [if_neg c]) ?_
    rw [Bool.not_eq_true] at c
    rw [c, Bool.false_and]
    exact key false (fun h => by cases h)
/-- The accumulator of the program against the reference's two. -/
def accOf (found : Bool) (best : Int) : Int := if found = true then best else -1
theorem least_l0 (hs : Small l) (hb : bookOk g l = true) (p : List (List Int)) (hh : heardB g p = true) (ss : List S38) (hss : ∀ s ∈ ss, 0 ≤ s.f0 ∧ s.f0 < l.length ∧ 0 ≤ s.f1 ∧ s.f1 ≤ 1000) (hl : ss.length ≤ 1000) : ∀ (d n : Nat) (found : Bool) (best : Int), n + d = ss.length → 0 ≤ best → best ≤ 100000 →
    Ev (fun k => saronref05_Least.l0 k p ss found best (n : Int) g l) (if (ss.drop n).foldl (stepL l p) (accOf found best) < 0 then (0, 4) else ((ss.drop n).foldl (stepL l p) (accOf found best), 0))
  | 0, n, found, best, hd, h0, h1 => by
    refine Ev.step (fun k => by rw [saronref05_Least.l0, if_neg (by omega)]) ?_
    rw [List.drop_of_length_le (by omega), List.foldl_nil]
    unfold accOf
    cases found
    · exact Ev.now _
    · simp only [if_true]
      rw [if_neg (by omega)]
      exact Ev.now _
  | d + 1, n, found, best, hd, h0, h1 => by
    have hn : n < ss.length := by omega
    have hr : rd_T38 ss (n : Int) = ss[n] := by simp [rd_T38, hn]
    obtain ⟨a1, a2, a3, a4⟩ := hss _ (List.getElem_mem hn)
    obtain ⟨q1, q2, q3, q4⟩ := heard_rows hb hh
    have hll := lostN_len l ss[n].f0 ss[n].f1 p p.length
    refine Ev.step (fun k => by rw [saronref05_Least.l0, if_pos (by omega), if_pos (by omega), hr, w64 (x := (n : Int) + 1) (by omega) (by omega), show ((n : Int) + 1) = ((n + 1 : Nat) : Int) by omega]) ?_
    refine ebind (rmissing_f hs hb ss[n].f0 ss[n].f1 a1 a2 a3 (by omega) p hh) ?_
    rw [List.drop_eq_getElem_cons hn, List.foldl_cons]
    obtain ⟨e1, e2⟩ := missF_iff l ss[n].f0 ss[n].f1 p
    by_cases c : fitN l ss[n].f0 ss[n].f1 p p.length = true
    · refine evc (fun k => by rw [if_pos c]) ?_
      cases found
      · refine evc (fun k => by rw [if_neg (by simp)]) ?_
        have ih := least_l0 hs hb p hh ss hss hl d (n + 1) true ((lostN l ss[n].f0 ss[n].f1 p p.length).length : Int) (by omega) (by omega) (by omega)
        rw [show accOf true ((lostN l ss[n].f0 ss[n].f1 p p.length).length : Int) = stepL l p (accOf false best) ss[n] by unfold stepL accOf; rw [if_pos rfl, if_pos ⟨by rw [e1]; exact c, .inl (by rw [if_neg (by simp)]; omega)⟩, e2 c]] at ih
        exact ih
      · refine evc (fun k => by rw [if_pos rfl]) ?_
        by_cases c2 : ((lostN l ss[n].f0 ss[n].f1 p p.length).length : Int) < best
        · refine evc (fun k => by rw [if_pos c2]) ?_
          have ih := least_l0 hs hb p hh ss hss hl d (n + 1) true ((lostN l ss[n].f0 ss[n].f1 p p.length).length : Int) (by omega) (by omega) (by omega)
          rw [show accOf true ((lostN l ss[n].f0 ss[n].f1 p p.length).length : Int) = stepL l p (accOf true best) ss[n] by unfold stepL accOf; rw [if_pos rfl, if_pos rfl, if_pos ⟨by rw [e1]; exact c, .inr (by rw [e2 c]; exact c2)⟩, e2 c]] at ih
          exact ih
        · refine evc (fun k => by rw [if_neg c2]) ?_
          have ih := least_l0 hs hb p hh ss hss hl d (n + 1) true best (by omega) h0 h1
          rw [show stepL l p (accOf true best) ss[n] = accOf true best by unfold stepL accOf; rw [if_pos rfl, if_neg (by rw [e2 c]; omega)]]
          exact ih
    · refine evc (fun k => by rw [if_neg c]) ?_
      have ih := least_l0 hs hb p hh ss hss hl d (n + 1) found best (by omega) h0 h1
      rw [show stepL l p (accOf found best) ss[n] = accOf found best by unfold stepL; rw [if_neg (by rw [e1]; exact fun h => c h.1)]]
      exact ih
theorem Least_f (hs : Small l) (p : List (List Int)) (hp : SmallR p) : Ev (fun k => saronref05_Least.f k g l p) (leastF g l p) := by
  refine evc (fun k => by rw [saronref05_Least.f]) ?_
  refine ebind (rheard_f p hp) ?_
  refine ebind (asked_f g l hs _) ?_
  unfold leastF okLeast
  by_cases hz : openE g l (heardB g p) = 0
  · obtain ⟨hb, hh⟩ := openE_ok hz
    refine evc (fun k => by rw [if_pos hz]) ?_
    rw [if_pos hz]
    refine ebind (rspots_f hb) ?_
    have h4 := (beats_of hb).len
    have hl := spotsN_len (beats_of hb) l.length (Nat.le_refl _)
    have := least_l0 hs hb p hh _ (spots_ok hb) (by omega) _ 0 false 0 (Nat.zero_add _) (by omega) (by omega)
    rw [List.drop_zero] at this
    exact this
  · refine evc (fun k => by rw [if_neg hz]) ?_
    rw [if_neg hz]
    exact Ev.now _
theorem Missing_f (hs : Small l) (sf sb : Int) (p : List (List Int)) (hp : SmallR p) : Ev (fun k => saronref05_Missing.f k g l sf sb p) (missingF g l sf sb p) := by
  have key : ∀ ok : Bool, (ok = true → bookOk g l = true → heardB g p = true ∧ isSpotB l sf sb = true) →
      Ev (fun k => (saronref05_asked.f k g l ok).bind fun t => (saronref05_Missing.j0 k p t g l sf sb))
        (if openE g l ok = 0 then (if (missF l sf sb p).2 = true then ((missF l sf sb p).1, 0) else ([], 4)) else ([], openE g l ok)) := fun ok hok => by
    refine ebind (asked_f g l hs ok) ?_
    by_cases hz : openE g l ok = 0
    · obtain ⟨hb, ho⟩ := openE_ok hz
      obtain ⟨hh, h1⟩ := hok ho hb
      have hi := spotB_in h1
      have ht := (beats_of hb).two sf hi.1 hi.2.1
      obtain ⟨e1, e2⟩ := missF_iff l sf sb p
      refine Ev.step (fun k => by rw [saronref05_Missing.j0, if_pos hz]) ?_
      rw [if_pos hz]
      refine ebind (rmissing_f hs hb sf sb hi.1 hi.2.1 hi.2.2.1 (by omega) p hh) ?_
      rw [e1]
      by_cases c : fitN l sf sb p p.length = true
      · refine evc (fun k => by rw [if_pos c]) ?_
        rw [if_pos c, e2 c]
        exact Ev.now _
      · refine evc (fun k => by rw [if_neg c]) ?_
        rw [if_neg c]
        exact Ev.now _
    · refine Ev.step (fun k => by rw [saronref05_Missing.j0, if_neg hz]) ?_
      rw [if_neg hz]
      exact Ev.now _
  refine evc (fun k => by rw [saronref05_Missing.f]) ?_
  refine ebind (rheard_f p hp) ?_
  by_cases hb : bookOk g l = true
  · unfold missingF okMissing
    by_cases c : heardB g p = true
    · refine evc (fun k => by rw [if_pos c, isSpot_f hs hb, Option.bind_some]) ?_
      rw [c, Bool.true_and]
      exact key _ (fun h _ => ⟨c, h⟩)
    · refine evc (fun k => by rw [if_neg c]) ?_
      rw [Bool.not_eq_true] at c
      rw [c, Bool.false_and]
      exact key false (fun h => by cases h)
  · have e : ∀ ok, (if openE g l ok = 0 then (if (missF l sf sb p).2 = true then ((missF l sf sb p).1, (0 : Int)) else ([], 4)) else ([], openE g l ok)) = missingF g l sf sb p := fun ok => by
      unfold missingF
      rw [no_book hb, no_book hb]
    obtain ⟨b, hsp⟩ := isSpot_some (g := g) hs sf sb
    by_cases c : heardB g p = true
    · refine evc (fun k => by rw [if_pos c, hsp, Option.bind_some]) ?_
      rw [← e b]
      exact key _ (fun _ h => absurd h hb)
    · refine evc (fun k => by rw [if_neg c]) ?_
      rw [← e false]
      exact key false (fun h => by cases h)
end
end Go.Proofs.YtephecfapclgfaaDoor.Q
