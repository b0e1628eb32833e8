import Derived.Test.YtephecfapclgfaaDoorQD
import Derived.Test.YtephecfapclgfaaDoorQP
set_option linter.unusedVariables false
set_option linter.unusedSimpArgs false
namespace Go.Proofs.YtephecfapclgfaaDoor.Q
open Go.RowKit Go.Proofs.YtephecfapclgfaaDoorW.PrintWords Go.Proofs.YtephecfapclgfaaDoorW.PrintLast Go.Proofs.YtephecfapclgfaaDoor.PRaspKeys Go.Proofs.YtephecfapclgfaaDoor.R

/-! ### A passage of which some strokes are lost -/
/-- What is kept of a row, by what is left of it. -/
def Kept (r h : List Int) : Prop := h = r.filter (fun x => h.contains x)
theorem kept_keep {r h : List Int} {n : Nat} (hn : n < r.length) (hnd : r[n] ∉ r.take n) (hk : Kept (r.take n) h) :
    Kept (r.take (n + 1)) (h ++ [r[n]]) ∧ (r.take (n + 1)).filter (fun x => !(h ++ [r[n]]).contains x) = (r.take n).filter (fun x => !h.contains x) := by
  have ht : r.take (n + 1) = r.take n ++ [r[n]] := by rw [List.take_add_one, List.getElem?_eq_getElem hn]; rfl
  have hc : ∀ x ∈ r.take n, (h ++ [r[n]]).contains x = h.contains x := fun x hx => by
    have hne : ¬ x = r[n] := fun e => hnd (e ▸ hx)
    rw [Bool.eq_iff_iff]
    simp [hne]
  unfold Kept at hk ⊢
  rw [ht]
  refine ⟨?_, ?_⟩
  · rw [List.filter_append, List.filter_congr hc, ← hk, List.filter_cons_of_pos (by simp), List.filter_nil]
  · rw [List.filter_append, List.filter_congr (fun x hx => by rw [hc x hx]), List.filter_cons_of_neg (by simp), List.filter_nil, List.append_nil]
theorem kept_lose {r h : List Int} {n : Nat} (hn : n < r.length) (hnd : r[n] ∉ r.take n) (hk : Kept (r.take n) h) :
    Kept (r.take (n + 1)) h ∧ (r.take (n + 1)).filter (fun x => !h.contains x) = (r.take n).filter (fun x => !h.contains x) ++ [r[n]] := by
  have ht : r.take (n + 1) = r.take n ++ [r[n]] := by rw [List.take_add_one, List.getElem?_eq_getElem hn]; rfl
  have hx : ¬ h.contains r[n] = true := by
    intro hc
    have hm : r[n] ∈ h := by simpa using hc
    unfold Kept at hk
    rw [hk] at hm
    exact hnd (List.mem_filter.1 hm).1
  unfold Kept at hk ⊢
  rw [ht]
  refine ⟨?_, ?_⟩
  · rw [List.filter_append, List.filter_cons_of_neg hx, List.filter_nil, List.append_nil]
    exact hk
  · rw [List.filter_append, List.filter_cons_of_pos (by rw [Bool.not_eq_true] at hx; rw [hx]; rfl), List.filter_nil]
def gonePart (r h : List Int) (k n : Nat) : List S97 := ((r.take n).filter (fun x => !h.contains x)).map (fun x => ⟨(k : Int), x⟩)
theorem missed_l1 (p : List (List Int)) (lost : Int) (hl0 : 0 ≤ lost) (hl1 : lost ≤ 1000) (bits : List Int) (hm : bits.length ≤ 9223372036854775807) (k : Nat) (hk : k < p.length) (hk1 : p.length ≤ 1000) (r : List Int) (hpr : p.getD k [] = r) (h5 : r.length ≤ 5) (hnd : ∀ n (h : n < r.length), r[n] ∉ r.take n) (x8 : List (List Int)) (hx8 : x8.length ≤ 1000) (G : List S97) :
    ∀ (d n : Nat) (h : List Int) (gone : List S97) (ctr : Int), n + d = r.length → Kept (r.take n) h → h.length ≤ n → gone = G ++ gonePart r h k n → (gone.length : Int) ≤ lost → 0 ≤ ctr → ctr + d ≤ 100000 →
    ∃ hr gone' ctr', Kept r hr ∧ gone' = G ++ gonePart r hr k r.length ∧ (gone'.length : Int) ≤ lost ∧ 0 ≤ ctr' ∧ ctr' ≤ ctr + d ∧
      ∀ R, Ev (fun j => saronlaw05_missed.l0 j p lost bits (x8 ++ [hr]) gone' ctr' ((k + 1 : Nat) : Int)) R → Ev (fun j => saronlaw05_missed.l1 j p lost bits x8 gone ctr (k : Int) h (n : Int)) R
  | 0, n, h, gone, ctr, hd, hK, hle, hG, hgl, hc0, hc1 => by
    have hnr : n = r.length := by omega
    rw [hnr, List.take_length] at hK
    refine ⟨h, gone, ctr, hK, by rw [hG, hnr], hgl, hc0, by omega, fun R hR => ?_⟩
    refine Ev.step (fun j => by rw [saronlaw05_missed.l1, if_pos (by omega), if_pos (by omega), show rd_L1 p (k : Int) = r by rw [← hpr]; simp [rd_L1], if_neg (by omega), if_pos (by omega), w64 (x := (k : Int) + 1) (by omega) (by omega), show ((k : Int) + 1) = ((k + 1 : Nat) : Int) by omega]) ?_
    exact hR
  | d + 1, n, h, gone, ctr, hd, hK, hle, hG, hgl, hc0, hc1 => by
    have hn : n < r.length := by omega
    have hrd : rd r (n : Int) = r[n] := by rw [rd_nat, getD_lt _ hn]
    obtain ⟨k1, k2⟩ := kept_keep hn (hnd n hn) hK
    obtain ⟨l1, l2⟩ := kept_lose hn (hnd n hn) hK
    have keep := missed_l1 p lost hl0 hl1 bits hm k hk hk1 r hpr h5 hnd x8 hx8 G d (n + 1) (h ++ [r[n]]) gone (ctr + 1) (by omega) k1 (by rw [List.length_append]; simp; omega) (by rw [hG]; unfold gonePart; rw [k2]) hgl (by omega) (by omega)
    by_cases c : (gone.length : Int) < lost
    · obtain ⟨v, hv⟩ := nth_f bits (ctr + 1) hm
      by_cases c2 : v % 3 = 0
      · obtain ⟨hr, gone', ctr', a1, a2, a3, a4, a5, a6⟩ := missed_l1 p lost hl0 hl1 bits hm k hk hk1 r hpr h5 hnd x8 hx8 G d (n + 1) h (gone ++ [⟨(k : Int), r[n]⟩]) (ctr + 1) (by omega) l1 (by omega) (by rw [hG]; unfold gonePart; rw [l2, List.map_append, List.append_assoc]; rfl) (by rw [List.length_append]; simp; omega) (by omega) (by omega)
        refine ⟨hr, gone', ctr', a1, a2, a3, a4, by omega, fun R hR => ?_⟩
        refine Ev.step (fun j => by rw [saronlaw05_missed.l1, if_pos (by omega), if_pos (by omega), show rd_L1 p (k : Int) = r by rw [← hpr]; simp [rd_L1], if_pos (by omega), if_pos c, w64 (x := ctr + 1) (by omega) (by omega), hv, Option.bind_some, turn_f v 3 (by omega) (by omega), Option.bind_some, if_pos c2, if_pos (by omega), if_pos (by omega), hrd, w64 (x := (n : Int) + 1) (by omega) (by omega), show ((n : Int) + 1) = ((n + 1 : Nat) : Int) by omega]) ?_
        exact a6 R hR
      · obtain ⟨hr, gone', ctr', a1, a2, a3, a4, a5, a6⟩ := keep
        refine ⟨hr, gone', ctr', a1, a2, a3, a4, by omega, fun R hR => ?_⟩
        refine Ev.step (fun j => by rw [saronlaw05_missed.l1, if_pos (by omega), if_pos (by omega), show rd_L1 p (k : Int) = r by rw [← hpr]; simp [rd_L1], if_pos (by omega), if_pos c, w64 (x := ctr + 1) (by omega) (by omega), hv, Option.bind_some, turn_f v 3 (by omega) (by omega), Option.bind_some, if_neg c2, if_pos (by omega), if_pos (by omega), hrd, w64 (x := (n : Int) + 1) (by omega) (by omega), show ((n : Int) + 1) = ((n + 1 : Nat) : Int) by omega]) ?_
        exact a6 R hR
    · obtain ⟨hr, gone', ctr', a1, a2, a3, a4, a5, a6⟩ := keep
      refine ⟨hr, gone', ctr', a1, a2, a3, a4, by omega, fun R hR => ?_⟩
      refine Ev.step (fun j => by rw [saronlaw05_missed.l1, if_pos (by omega), if_pos (by omega), show rd_L1 p (k : Int) = r by rw [← hpr]; simp [rd_L1], if_pos (by omega), if_neg c, w64 (x := ctr + 1) (by omega) (by omega), if_pos (by omega), if_pos (by omega), hrd, w64 (x := (n : Int) + 1) (by omega) (by omega), show ((n : Int) + 1) = ((n + 1 : Nat) : Int) by omega]) ?_
      exact a6 R hR
theorem lessN_pre (p : List (List Int)) {a b : List (List Int)} : ∀ k, (∀ j, j < k → a.getD j [] = b.getD j []) → lessN p a k = lessN p b k
  | 0, h => rfl
  | k + 1, h => by
    unfold lessN lessK
    rw [lessN_pre p k (fun j hj => h j (by omega)), h k (by omega)]
theorem getD_pre {α : Type} {a b : List α} (d : α) (h : ∃ t, b = a ++ t) (j : Nat) (hj : j < a.length) : a.getD j d = b.getD j d := by
  obtain ⟨t, rfl⟩ := h
  simp [List.getD, List.getElem?_append_left hj]
theorem missed_l0 (p : List (List Int)) (lost : Int) (hl0 : 0 ≤ lost) (hl1 : lost ≤ 1000) (bits : List Int) (hm : bits.length ≤ 9223372036854775807) (hp : p.length ≤ 1000) (h5 : ∀ k, (p.getD k []).length ≤ 5) (hnd : ∀ k n (h : n < (p.getD k []).length), (p.getD k [])[n] ∉ (p.getD k []).take n) :
    ∀ (d k : Nat) (x8 : List (List Int)) (gone : List S97) (ctr : Int), k + d = p.length → x8.length = k → (∀ j, j < k → Kept (p.getD j []) (x8.getD j [])) → gone = lessN p x8 k → (gone.length : Int) ≤ lost → 0 ≤ ctr → ctr + 5 * d ≤ 10000 →
    ∃ heard, heard.length = p.length ∧ (∀ j, j < p.length → Kept (p.getD j []) (heard.getD j [])) ∧ ((lessN p heard p.length).length : Int) ≤ lost ∧ Ev (fun j => saronlaw05_missed.l0 j p lost bits x8 gone ctr (k : Int)) (heard, lessN p heard p.length)
  | 0, k, x8, gone, ctr, hd, hx, hK, hG, hgl, hc0, hc1 => by
    have hkp : k = p.length := by omega
    refine ⟨x8, by omega, fun j hj => hK j (by omega), by rw [← hkp, ← hG]; exact hgl, ?_⟩
    refine Ev.step (fun j => by rw [saronlaw05_missed.l0, if_neg (by omega)]) ?_
    rw [← hkp, ← hG]
    exact Ev.now _
  | d + 1, k, x8, gone, ctr, hd, hx, hK, hG, hgl, hc0, hc1 => by
    have h5k := h5 k
    obtain ⟨hr, gone', ctr', a1, a2, a3, a4, a5, a6⟩ := missed_l1 p lost hl0 hl1 bits hm k (by omega) hp (p.getD k []) rfl (h5 k) (hnd k) x8 (by omega) gone (p.getD k []).length 0 [] gone ctr (by omega) (by unfold Kept; simp) (by simp) (by unfold gonePart; simp) hgl hc0 (by omega)
    have hgk : (x8 ++ [hr]).getD k [] = hr := by rw [← hx]; simp
    obtain ⟨heard, b1, b2, b3, b4⟩ := missed_l0 p lost hl0 hl1 bits hm hp h5 hnd d (k + 1) (x8 ++ [hr]) gone' ctr' (by omega) (by simp [hx]) (fun j hj => by
      by_cases e : j = k
      · subst e; rw [hgk]; exact a1
      · rw [← getD_pre [] ⟨[hr], rfl⟩ j (by omega)]; exact hK j (by omega)) (by
      unfold lessN lessK
      rw [hgk, lessN_pre p (a := x8 ++ [hr]) (b := x8) k (fun j hj => (getD_pre [] ⟨[hr], rfl⟩ j (by omega)).symm), ← hG, a2]
      unfold gonePart
      rw [List.take_length]) a3 a4 (by omega)
    refine ⟨heard, b1, b2, b3, ?_⟩
    refine Ev.step (fun j => by rw [saronlaw05_missed.l0, if_pos (by omega)]) ?_
    exact a6 _ b4
theorem gr_sub {b : Int} (f : Int → Bool) : ∀ (r : List Int) (last : Int), gr b last r = true → ∀ last', last' ≤ last → gr b last' (r.filter f) = true
  | [], last, h, last', hl => rfl
  | x :: xs, last, h, last', hl => by
    unfold gr at h
    rw [Bool.and_eq_true, isIn_iff] at h
    by_cases c : f x = true
    · rw [List.filter_cons_of_pos c]
      show (isIn x (last' + 1) (b - 1) && gr b x (xs.filter f)) = true
      rw [isIn_iff.2 (by omega), gr_sub f xs x h.2 x (Int.le_refl _)]
      rfl
    · rw [List.filter_cons_of_neg c]
      exact gr_sub f xs x h.2 last' (by omega)
theorem nodup_gr {b : Int} {r : List Int} (h : gr b (-1) r = true) : ∀ n (hn : n < r.length), r[n] ∉ r.take n := by
  intro n hn hm
  obtain ⟨j, hj, e⟩ := List.getElem_of_mem hm
  rw [List.length_take] at hj
  rw [List.getElem_take] at e
  have := gr_lt r (-1) h j n (by omega) hn
  rw [getD_lt _ hn, getD_lt _ (by omega), e] at this
  omega
section
variable {g : Int} {l : List S63}
theorem pass_gr (hb : bookOk g l = true) (sf sb : Int) (h0 : 0 ≤ sf) (h1 : sf < l.length) (k : Nat) : gr g (-1) (lst (passH l sf sb k) 5) = true := gr_lst _ g (fun i hi => by
  apply Decidable.byContradiction
  intro c
  have hlen := form_len hb h0 h1
  unfold passH at hi
  rw [hits_none (by omega)] at hi
  cases hi) 5
/-- What is left of a passage when some strokes are lost: it can be what was heard, it fits there, and what is missing is what was lost. -/
theorem missed_f (hb : bookOk g l = true) (sf sb : Int) (h0 : 0 ≤ sf) (h1 : sf < l.length) (many : Nat) (hm1 : 1 ≤ many) (hm : many ≤ 64) (lost : Int) (hl0 : 0 ≤ lost) (hl1 : lost ≤ 6) (bits : List Int) (hbits : bits.length ≤ 9223372036854775807) :
    ∃ heard, heard.length = many ∧ heardB g heard = true ∧ fitN l sf sb heard heard.length = true ∧ ((lostN l sf sb heard heard.length).length : Int) ≤ lost ∧
      Ev (fun j => saronlaw05_missed.f j (passR l sf sb many) lost bits) (heard, lostN l sf sb heard heard.length) := by
  have hg := gong_of hb
  have hpl := passR_len l sf sb many
  have hrow : ∀ k, gr g (-1) ((passR l sf sb many).getD k []) = true ∧ ((passR l sf sb many).getD k []).length ≤ 5 := fun k => by
    by_cases c : k < many
    · rw [passR_at _ _ _ _ _ c]; exact ⟨pass_gr hb sf sb h0 h1 k, lst_len _ 5⟩
    · rw [getD_ge _ (by omega)]; exact ⟨rfl, by simp⟩
  obtain ⟨heard, b1, b2, b3, b4⟩ := missed_l0 (passR l sf sb many) lost hl0 (by omega) bits hbits (by omega) (fun k => (hrow k).2) (fun k n h => nodup_gr (hrow k).1 n h) many 0 [] [] 0 (by omega) rfl (fun j hj => by omega) rfl (by simp; omega) (by omega) (by omega)
  have hlen : heard.length = many := by omega
  have hk : ∀ k, k < many → heard.getD k [] = (lst (passH l sf sb k) 5).filter (fun x => (heard.getD k []).contains x) := fun k hk => by
    have := b2 k (by omega)
    unfold Kept at this
    rwa [passR_at _ _ _ _ _ hk] at this
  have hgrow : ∀ k, k < many → gr g (-1) (heard.getD k []) = true := fun k hk' => by
    rw [hk k hk']
    exact gr_sub _ _ _ (pass_gr hb sf sb h0 h1 k) _ (Int.le_refl _)
  have hfit : ∀ k, k ≤ many → fitN l sf sb heard k = true := fun k => by
    induction k with
    | zero => intro _; rfl
    | succ k ih =>
      intro hk'
      unfold fitN
      rw [ih (by omega), Bool.true_and]
      unfold fitK pRow
      rw [List.all_eq_true]
      intro x hx
      rw [hk k (by omega)] at hx
      exact (lst_in _ 5 x (List.mem_filter.1 hx).1).2.2
  have e : lessN (passR l sf sb many) heard many = lostN l sf sb heard heard.length := by
    have := less_pass l sf sb heard heard.length (Nat.le_refl _)
    rw [hlen] at this ⊢
    exact this
  rw [hpl] at b3 b4
  rw [e] at b3 b4
  refine ⟨heard, hlen, ?_, by rw [hlen]; exact hfit many (Nat.le_refl _), b3, b4⟩
  unfold heardB
  rw [hlen, isIn_iff.2 (by omega), Bool.true_and, List.all_eq_true]
  intro r hr
  obtain ⟨k, hk', rfl⟩ := List.getElem_of_mem hr
  have := hgrow k (by omega)
  rwa [getD_lt _ hk'] at this
theorem openE_yes (hb : bookOk g l = true) : openE g l true = 0 := by unfold openE; rw [if_pos hb, if_pos rfl]
theorem isSpotB_of {s0 s1 : Int} (h0 : 0 ≤ s0) (h1 : s0 < l.length) (h2 : 0 ≤ s1) (h3 : s1 < (rd_T63 l s0).f0) : isSpotB l s0 s1 = true := by
  unfold isSpotB; rw [isIn_iff.2 (by omega), isIn_iff.2 (by omega)]; rfl
theorem passF_ok (hb : bookOk g l = true) {s0 s1 : Int} (hsp : isSpotB l s0 s1 = true) (many : Nat) (h1 : 1 ≤ many) (h64 : many ≤ 64) : passF g l s0 s1 many = (passR l s0 s1 many, 0) := by
  unfold passF okPassage
  rw [hsp, isIn_iff.2 (by omega), Bool.and_self, openE_yes hb, if_pos rfl, Int.toNat_natCast]
theorem placesF_ok (hb : bookOk g l = true) {p : List (List Int)} (hh : heardB g p = true) {lost : Int} (h0 : 0 ≤ lost) (h6 : lost ≤ 6) : placesF g l p lost = ((spotsN l l.length).filter (fitsP l p lost), 0) := by
  unfold placesF okPlaces
  rw [hh, isIn_iff.2 (by omega), Bool.and_self, openE_yes hb, if_pos rfl]
theorem missingF_ok (hb : bookOk g l = true) {p : List (List Int)} (hh : heardB g p = true) {s0 s1 : Int} (hsp : isSpotB l s0 s1 = true) : missingF g l s0 s1 p = if fitN l s0 s1 p p.length = true then (lostN l s0 s1 p p.length, 0) else ([], 4) := by
  obtain ⟨e1, e2⟩ := missF_iff l s0 s1 p
  unfold missingF okMissing
  rw [hh, hsp, Bool.and_self, openE_yes hb, if_pos rfl, e1]
  by_cases c : fitN l s0 s1 p p.length = true
  · rw [if_pos c, if_pos c, e2 c]
  · rw [if_neg c, if_neg c]
theorem fitsP_iff {p : List (List Int)} {lost : Int} {s : S38} : fitsP l p lost s = true ↔ fitN l s.f0 s.f1 p p.length = true ∧ ((lostN l s.f0 s.f1 p p.length).length : Int) ≤ lost := by
  obtain ⟨e1, e2⟩ := missF_iff l s.f0 s.f1 p
  unfold fitsP
  rw [Bool.and_eq_true, decide_eq_true_eq, e1]
  constructor
  · rintro ⟨a, b⟩; rw [e2 a] at b; exact ⟨a, b⟩
  · rintro ⟨a, b⟩; rw [e2 a]; exact ⟨a, b⟩
/-- The least number is told just if some spot fits, and it is the least. -/
theorem least_spec (p : List (List Int)) : ∀ (ss : List S38) (acc : Int), -1 ≤ acc →
    (∀ s ∈ ss, fitN l s.f0 s.f1 p p.length = true → 0 ≤ ss.foldl (stepL l p) acc ∧ ss.foldl (stepL l p) acc ≤ ((lostN l s.f0 s.f1 p p.length).length : Int)) ∧
    (0 ≤ acc → 0 ≤ ss.foldl (stepL l p) acc ∧ ss.foldl (stepL l p) acc ≤ acc) ∧ -1 ≤ ss.foldl (stepL l p) acc ∧
    (0 ≤ ss.foldl (stepL l p) acc → (0 ≤ acc ∧ ss.foldl (stepL l p) acc = acc) ∨ ∃ s ∈ ss, fitN l s.f0 s.f1 p p.length = true ∧ ss.foldl (stepL l p) acc = ((lostN l s.f0 s.f1 p p.length).length : Int))
  | [], acc, ha => ⟨fun s hs => (by cases hs), fun h => ⟨h, Int.le_refl _⟩, ha, fun h => .inl ⟨h, rfl⟩⟩
  | t :: ss, acc, ha => by
    obtain ⟨e1, e2⟩ := missF_iff l t.f0 t.f1 p
    have hst : stepL l p acc t = if fitN l t.f0 t.f1 p p.length = true ∧ (acc < 0 ∨ ((lostN l t.f0 t.f1 p p.length).length : Int) < acc) then ((lostN l t.f0 t.f1 p p.length).length : Int) else acc := by
      unfold stepL
      rw [e1]
      by_cases c : fitN l t.f0 t.f1 p p.length = true
      · rw [e2 c]
      · rw [if_neg (fun h => c h.1), if_neg (fun h => c h.1)]
    rw [List.foldl_cons]
    have hn : 0 ≤ ((lostN l t.f0 t.f1 p p.length).length : Int) := by omega
    have hge : -1 ≤ stepL l p acc t := by rw [hst]; split <;> omega
    obtain ⟨i1, i2, i3, i4⟩ := least_spec p ss (stepL l p acc t) hge
    refine ⟨fun s hs hf => ?_, fun h0 => ?_, i3, fun h => ?_⟩
    · rcases List.mem_cons.1 hs with rfl | hs
      · have hle : 0 ≤ stepL l p acc s ∧ stepL l p acc s ≤ ((lostN l s.f0 s.f1 p p.length).length : Int) := by
          rw [hst]
          by_cases c : acc < 0 ∨ ((lostN l s.f0 s.f1 p p.length).length : Int) < acc
          · rw [if_pos ⟨hf, c⟩]; omega
          · rw [if_neg (fun h => c h.2)]; omega
        have := i2 hle.1
        omega
      · exact i1 s hs hf
    · have hle : 0 ≤ stepL l p acc t ∧ stepL l p acc t ≤ acc := by rw [hst]; split <;> omega
      have := i2 hle.1
      omega
    · rcases i4 h with ⟨a, b⟩ | ⟨s, hs, hf, b⟩
      · rw [hst] at a b
        by_cases c : fitN l t.f0 t.f1 p p.length = true ∧ (acc < 0 ∨ ((lostN l t.f0 t.f1 p p.length).length : Int) < acc)
        · rw [if_pos c] at b
          rw [hst, if_pos c]
          exact .inr ⟨t, List.mem_cons_self, c.1, b⟩
        · rw [if_neg c] at a b
          rw [hst, if_neg c]
          exact .inl ⟨a, b⟩
      · exact .inr ⟨s, List.mem_cons_of_mem _ hs, hf, b⟩
theorem leastF_ok (hb : bookOk g l = true) {p : List (List Int)} (hh : heardB g p = true) : leastF g l p = if leastN l p < 0 then (0, 4) else (leastN l p, 0) := by
  unfold leastF okLeast
  rw [hh, openE_yes hb, if_pos rfl]
end
end Go.Proofs.YtephecfapclgfaaDoor.Q
