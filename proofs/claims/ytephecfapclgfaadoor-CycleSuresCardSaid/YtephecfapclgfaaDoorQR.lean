import Derived.Test.YtephecfapclgfaaDoorQB
import Derived.Test.YtephecfapclgfaaDoorQP
set_option linter.unusedVariables false
set_option linter.unusedSimpArgs false
namespace Go.Proofs.YtephecfapclgfaaDoor.Q
open Go.RowKit Go.Proofs.YtephecfapclgfaaDoorW.PrintWords Go.Proofs.YtephecfapclgfaaDoorW.PrintLast Go.Proofs.YtephecfapclgfaaDoor.PRaspKeys Go.Proofs.YtephecfapclgfaaDoor.R

/-! ### Passages, spots, what is missing -/
section
variable {g : Int} {l : List S63}
theorem passage_l0 (hs : Small l) (hb : bookOk g l = true) (sf sb : Int) (h0 : 0 ≤ sf) (h1 : sf < l.length) (hb0 : 0 ≤ sb) (hb1 : sb ≤ 1000000) (many : Nat) (hm : many ≤ 1000) : ∀ (d n : Nat), n + d = many →
    Ev (fun k => saronref05_passage.l0 k (many : Int) (passR l sf sb n) (n : Int) g l sf sb) (passR l sf sb many)
  | 0, n, hd => by
    refine Ev.step (fun k => by rw [saronref05_passage.l0, if_neg (by omega)]) ?_
    rw [show n = many by omega]
    exact Ev.now _
  | d + 1, n, hd => by
    refine Ev.step (fun k => by rw [saronref05_passage.l0, if_pos (by omega), w64 (x := sb + n) (by omega) (by omega), w64 (x := (n : Int) + 1) (by omega) (by omega), show ((n : Int) + 1) = ((n + 1 : Nat) : Int) by omega]) ?_
    refine ebind (struck_f hs hb sf (sb + n) h0 h1 (by omega)) ?_
    have := passR_len l sf sb n
    refine evc (fun k => by rw [if_pos (by omega)]) ?_
    have ih := passage_l0 hs hb sf sb h0 h1 hb0 hb1 many hm d (n + 1) (by omega)
    rw [passR_snoc] at ih
    exact ih
theorem passage_f (hs : Small l) (hb : bookOk g l = true) (sf sb : Int) (h0 : 0 ≤ sf) (h1 : sf < l.length) (hb0 : 0 ≤ sb) (hb1 : sb ≤ 1000000) (many : Nat) (hm : many ≤ 1000) :
    Ev (fun k => saronref05_passage.f k g l sf sb (many : Int)) (passR l sf sb many) := passage_l0 hs hb sf sb h0 h1 hb0 hb1 many hm many 0 (by omega)
theorem rspots_l1 (hb : bookOk g l = true) (f : Nat) (hf : f < l.length) (xs : List S38) (hx : xs.length ≤ 1000) {R : List S38} (hn : Ev (fun k => saronref05_spots.l0 k (xs ++ spotsB f (rd_T63 l (f : Int)).f0.toNat) ((f + 1 : Nat) : Int) g l) R) : ∀ (d n : Nat), (n : Int) + d = (rd_T63 l (f : Int)).f0 →
    Ev (fun k => saronref05_spots.l1 k (xs ++ spotsB f n) (f : Int) (n : Int) g l) R
  | 0, n, hd => by
    have h4 := (beats_of hb).len
    refine Ev.step (fun k => by rw [saronref05_spots.l1, if_pos (by omega), if_pos (by omega), if_neg (by omega), w64 (x := (f : Int) + 1) (by omega) (by omega), show ((f : Int) + 1) = ((f + 1 : Nat) : Int) by omega]) ?_
    rw [show (rd_T63 l (f : Int)).f0.toNat = n by omega] at hn
    exact hn
  | d + 1, n, hd => by
    have h4 := (beats_of hb).len
    have h2 := (beats_of hb).two (f : Int) (by omega) (by omega)
    have hlen := spotsB_len f n
    refine Ev.step (fun k => by rw [saronref05_spots.l1, if_pos (by omega), if_pos (by omega), if_pos (by omega), if_pos (by rw [List.length_append]; omega), w64 (x := (n : Int) + 1) (by omega) (by omega), show ((n : Int) + 1) = ((n + 1 : Nat) : Int) by omega]) ?_
    have ih := rspots_l1 hb f hf xs hx hn d (n + 1) (by omega)
    rw [spotsB_snoc, ← List.append_assoc] at ih
    exact ih
theorem rspots_l0 (hb : bookOk g l = true) : ∀ (d f : Nat), f + d = l.length → Ev (fun k => saronref05_spots.l0 k (spotsN l f) (f : Int) g l) (spotsN l l.length)
  | 0, f, hd => by
    refine Ev.step (fun k => by rw [saronref05_spots.l0, if_neg (by omega)]) ?_
    rw [show f = l.length by omega]
    exact Ev.now _
  | d + 1, f, hd => by
    have h4 := (beats_of hb).len
    have h2 := (beats_of hb).two (f : Int) (by omega) (by omega)
    have hl := spotsN_len (beats_of hb) f (by omega)
    refine Ev.step (fun k => by rw [saronref05_spots.l0, if_pos (by omega)]) ?_
    have := rspots_l1 hb f (by omega) (spotsN l f) (by omega) (rspots_l0 hb d (f + 1) (by omega)) (rd_T63 l (f : Int)).f0.toNat 0 (by omega)
    simpa [spotsB] using this
theorem rspots_f (hb : bookOk g l = true) : Ev (fun k => saronref05_spots.f k g l) (spotsN l l.length) := rspots_l0 hb l.length 0 (by omega)
theorem less_l1 (p q : List (List Int)) (hq : ∀ k, (q.getD k []).length ≤ 9223372036854775807) (h5 : ∀ k, (p.getD k []).length ≤ 5) (k : Nat) (hk : k < p.length) (hk1 : k < 1000) (hpq : p.length ≤ q.length) (xs : List S97) (hx : xs.length ≤ 10000) {R : List S97}
    (hn : Ev (fun j => saronref05_less.l0 j p q (xs ++ lessK p q k) ((k + 1 : Nat) : Int)) R) : ∀ (d n : Nat), n + d = (p.getD k []).length →
    Ev (fun j => saronref05_less.l1 j p q (xs ++ (((p.getD k []).take n).filter (fun x => !(q.getD k []).contains x)).map (fun x => ⟨(k : Int), x⟩)) (k : Int) (p.getD k []) (n : Int)) R
  | 0, n, hd => by
    refine Ev.step (fun j => by rw [saronref05_less.l1, if_neg (by omega), w64 (x := (k : Int) + 1) (by omega) (by omega), show ((k : Int) + 1) = ((k + 1 : Nat) : Int) by omega]) ?_
    rw [List.take_of_length_le (by omega)]
    exact hn
  | d + 1, n, hd => by
    have h5' := h5 k
    have hn' : n < (p.getD k []).length := by omega
    have hr : rd (p.getD k []) (n : Int) = (p.getD k [])[n] := by rw [rd_nat, getD_lt _ hn']
    have hq' : rd_L1 q (k : Int) = q.getD k [] := by simp [rd_L1]
    have hfl : ((((p.getD k []).take n).filter (fun x => !(q.getD k []).contains x)).map (fun x => (⟨(k : Int), x⟩ : S97))).length ≤ 5 := by
      rw [List.length_map]
      have := List.length_filter_le (fun x => !(q.getD k []).contains x) ((p.getD k []).take n)
      have := List.length_take_le n (p.getD k [])
      have := List.length_take_le' n (p.getD k [])
      omega
    refine Ev.step (fun j => by rw [saronref05_less.l1, if_pos (by omega), if_pos (by omega), if_pos (by omega), if_pos (by omega), hq', hr, w64 (x := (n : Int) + 1) (by omega) (by omega), show ((n : Int) + 1) = ((n + 1 : Nat) : Int) by omega]) ?_
    refine ebind (where_f (q.getD k []) (p.getD k [])[n] (hq k)) ?_
    have ih := less_l1 p q hq h5 k hk hk1 hpq xs hx hn d (n + 1) (by omega)
    have ht : (p.getD k []).take (n + 1) = (p.getD k []).take n ++ [(p.getD k [])[n]] := by rw [List.take_add_one, List.getElem?_eq_getElem hn']; rfl
    rw [ht, List.filter_append, List.map_append, ← List.append_assoc] at ih
    by_cases c : wh (p.getD k [])[n] 0 (q.getD k []) < 0
    · have hc := (wh_lt _ _ 0 (by omega)).1 c
      refine evc (fun j => by rw [if_pos c, if_pos (by rw [List.length_append]; omega)]) ?_
      rw [List.filter_cons_of_pos (by rw [hc]; rfl)] at ih
      exact ih
    · have hc := (wh_iff (p.getD k [])[n] (q.getD k []) 0 (by omega)).1 (by omega)
      refine evc (fun j => by rw [if_neg c]) ?_
      rw [List.filter_cons_of_neg (by rw [hc]; simp), List.filter_nil, List.map_nil, List.append_nil] at ih
      exact ih
theorem less_l0 (p q : List (List Int)) (hq : ∀ k, (q.getD k []).length ≤ 9223372036854775807) (h5 : ∀ k, (p.getD k []).length ≤ 5) (hp : p.length ≤ 1000) (hpq : p.length ≤ q.length) : ∀ (d k : Nat), k + d = p.length →
    Ev (fun j => saronref05_less.l0 j p q (lessN p q k) (k : Int)) (lessN p q p.length)
  | 0, k, hd => by
    refine Ev.step (fun j => by rw [saronref05_less.l0, if_neg (by omega)]) ?_
    rw [show k = p.length by omega]
    exact Ev.now _
  | d + 1, k, hd => by
    have hl := lessN_len p q h5 k
    refine Ev.step (fun j => by rw [saronref05_less.l0, if_pos (by omega), if_pos (by omega), show rd_L1 p (k : Int) = p.getD k [] by simp [rd_L1]]) ?_
    have := less_l1 p q hq h5 k (by omega) (by omega) hpq (lessN p q k) (by omega) (less_l0 p q hq h5 hp hpq d (k + 1) (by omega)) (p.getD k []).length 0 (by omega)
    simpa using this
theorem less_f (p q : List (List Int)) (hq : ∀ k, (q.getD k []).length ≤ 9223372036854775807) (h5 : ∀ k, (p.getD k []).length ≤ 5) (hp : p.length ≤ 1000) (hpq : p.length ≤ q.length) : Ev (fun j => saronref05_less.f j p q) (lessN p q p.length) := less_l0 p q hq h5 hp hpq p.length 0 (by omega)
theorem rheard_l0 (p : List (List Int)) (hp : SmallR p) : ∀ (d n : Nat) (q : Bool), n + d = p.length → Ev (fun k => saronref05_IsHeard.l0 k p q (n : Int) g l) (q && (p.drop n).all (fun r => gr g (-1) r))
  | d, n, false, hd => by
    refine Ev.step (fun k => by rw [saronref05_IsHeard.l0, if_neg (by simp)]) ?_
    exact Ev.now _
  | 0, n, true, hd => by
    have := hp.1
    refine Ev.step (fun k => by rw [saronref05_IsHeard.l0, if_pos rfl, if_neg (by omega)]) ?_
    rw [List.drop_of_length_le (by omega)]
    exact Ev.now _
  | d + 1, n, true, hd => by
    have := hp.1
    have hn : n < p.length := by omega
    refine Ev.step (fun k => by rw [saronref05_IsHeard.l0, if_pos rfl, if_pos (by omega), if_pos (by omega), show rd_L1 p (n : Int) = p[n] by simp [rd_L1, hn], w64 (x := (n : Int) + 1) (by omega) (by omega), show ((n : Int) + 1) = ((n + 1 : Nat) : Int) by omega]) ?_
    refine ebind (rgrows_f g p[n] (hp.2 _ (List.getElem_mem hn))) ?_
    rw [List.drop_eq_getElem_cons hn, List.all_cons, Bool.true_and]
    exact rheard_l0 p hp d (n + 1) _ (by omega)
theorem rheard_f (p : List (List Int)) (hp : SmallR p) : Ev (fun k => saronref05_IsHeard.f k g l p) (heardB g p) := by
  refine evc (fun k => by rw [saronref05_IsHeard.f, sits_f, Option.bind_some]) ?_
  have := rheard_l0 (g := g) (l := l) p hp p.length 0 (isIn (p.length : Int) 1 64) (by omega)
  rwa [List.drop_zero] at this
theorem rmissing_f (hs : Small l) (hb : bookOk g l = true) (sf sb : Int) (h0 : 0 ≤ sf) (h1 : sf < l.length) (hb0 : 0 ≤ sb) (hb1 : sb ≤ 1000000) (p : List (List Int)) (hh : heardB g p = true) :
    Ev (fun k => saronref05_missing.f k g l sf sb p) (lostN l sf sb p p.length, fitN l sf sb p p.length) := by
  obtain ⟨q1, q2, q3, q4⟩ := heard_rows hb hh
  have hg := gong_of hb
  have hpl := passR_len l sf sb p.length
  have hp5 : ∀ k, ((passR l sf sb p.length).getD k []).length ≤ 5 := fun k => by
    by_cases c : k < p.length
    · rw [passR_at _ _ _ _ _ c]; exact lst_len _ 5
    · rw [getD_ge _ (by omega)]; simp
  refine evc (fun k => by rw [saronref05_missing.f]) ?_
  refine ebind (passage_f hs hb sf sb h0 h1 hb0 hb1 p.length (by omega)) ?_
  refine ebind (less_f (passR l sf sb p.length) p (fun k => by have := q3 k; omega) hp5 (by omega) (by omega)) ?_
  refine ebind (less_f p (passR l sf sb p.length) (fun k => by have := hp5 k; omega) q3 (by omega) (by omega)) ?_
  rw [hpl, less_pass l sf sb p p.length (Nat.le_refl _)]
  have hiff := less_heard l sf sb p (fun k x hx => by have := q4 k x hx; omega) p.length (Nat.le_refl _)
  have e : (((lessN p (passR l sf sb p.length) p.length).length : Int) == 0) = fitN l sf sb p p.length := by
    rw [Bool.eq_iff_iff, ← hiff, beq_iff_eq, ← List.length_eq_zero_iff]
    omega
  rw [e]
  exact Ev.now _
end
end Go.Proofs.YtephecfapclgfaaDoor.Q
