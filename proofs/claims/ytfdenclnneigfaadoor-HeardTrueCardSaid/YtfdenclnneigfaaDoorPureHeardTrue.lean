import Derived.Test.YtfdenclnneigfaaDoorQR
import Derived.Test.YtfdenclnneigfaaDoorQS
import Derived.Test.YtfdenclnneigfaaDoorQK
import Derived.Test.YtfdenclnneigfaaDoorLTrue
set_option linter.unusedVariables false
set_option linter.unusedSimpArgs false
namespace Go.Proofs.YtfdenclnneigfaaDoor
open Go.RowKit PRaspKeys R Q Go.Proofs.YtfdenclnneigfaaDoorW.PrintWords Go.Proofs.YtfdenclnneigfaaDoorW.PrintLast
namespace HeardTrue
/-! ### A reading, stroke by stroke -/
def csum (c : Nat → Nat → Int) : Nat → List Nat → Int
  | _, [] => 0
  | k, s :: l => c k s + csum c (k + 1) l
theorem csum_snoc (c : Nat → Nat → Int) : ∀ (l : List Nat) (k s : Nat), csum c k (l ++ [s]) = csum c k l + c (k + l.length) s
  | [], k, s => by
    show c k s + 0 = 0 + c k s
    omega
  | a :: l, k, s => by
    show c k a + csum c (k + 1) (l ++ [s]) = c k a + csum c (k + 1) l + c (k + (l.length + 1)) s
    rw [csum_snoc c l (k + 1) s, show k + 1 + l.length = k + (l.length + 1) by omega]
    omega
theorem csum_congr {c c' : Nat → Nat → Int} : ∀ (l : List Nat) (k : Nat), (∀ i (h : i < l.length), c (k + i) l[i] = c' (k + i) l[i]) → csum c k l = csum c' k l
  | [], k, h => rfl
  | a :: l, k, h => by
    have h0 : c k a = c' k a := h 0 (by simp)
    have ih := csum_congr (c := c) (c' := c') l (k + 1) (fun i hi => by
      have := h (i + 1) (by simp; omega)
      rw [List.getElem_cons_succ] at this
      rw [show k + 1 + i = k + (i + 1) by omega, this])
    show c k a + csum c (k + 1) l = c' k a + csum c' (k + 1) l
    rw [ih, h0]
theorem rd_list {c : Nat → Nat → Int} : ∀ (l : List Nat) (k s : Nat), (s :: l).Pairwise (· < ·) → (∀ i (h : i < (s :: l).length), c (k + i) (s :: l)[i] < 1000) → ∃ e, H.Rd c k s l.length e (csum c k (s :: l)) ∧ e ∈ s :: l
  | [], k, s, hp, h => by
    refine ⟨s, ?_, by simp⟩
    show H.Rd c k s 0 s (c k s + 0)
    rw [Int.add_zero]
    exact H.Rd.one (h 0 (by simp))
  | b :: l, k, s, hp, h => by
    rw [List.pairwise_cons] at hp
    obtain ⟨e, h1, h2⟩ := rd_list l (k + 1) b hp.2 (fun i hi => by
      have := h (i + 1) (by simp at hi ⊢; omega)
      rw [show k + 1 + i = k + (i + 1) by omega]
      exact this)
    exact ⟨e, H.Rd.cons (h 0 (by simp)) (hp.1 b (by simp)) h1, List.mem_cons_of_mem _ h2⟩
theorem gr_mono {b b' : Int} (hb : b ≤ b') : ∀ (l : List Int) (last : Int), gr b last l = true → gr b' last l = true
  | [], last, h => rfl
  | x :: l, last, h => by
    rw [gr_cons, Bool.and_eq_true, isIn_iff] at h ⊢
    exact ⟨by omega, gr_mono hb l x h.2⟩
theorem gr_len {b : Int} : ∀ (r : List Int) (last : Int), gr b last r = true → last < b → (r.length : Int) ≤ b - last - 1
  | [], last, h, hl => by simp; omega
  | x :: xs, last, h, hl => by
    unfold gr at h
    rw [Bool.and_eq_true, isIn_iff] at h
    have := gr_len xs x h.2 (by omega)
    simp only [List.length_cons]
    omega
abbrev iS (st : List Nat) : List Int := st.map (fun n : Nat => (n : Int))
def hc (g : Int) (l : List S114) (ps : List S62) (piece : Int) (t gs : List Int) (lost wrong : Int) : HC := HC.mk g none 0 l none 0 ps piece none 0 t none 0 gs lost wrong
section
variable {g : Int} {l : List S114} {ps : List S62} {piece : Int}
/-- What was written of the strokes from one on, up to another. -/
structure Wr (g : Int) (l : List S114) (ps : List S62) (piece : Int) (fr s : Nat) (lost wrong : Int) (st : List Nat) (T G : List Int) : Prop where
  len : T.length = st.length
  cnt : (s : Int) = fr + st.length + lost
  l0 : 0 ≤ lost
  w0 : 0 ≤ wrong
  inn : ∀ y ∈ st, fr ≤ y ∧ y < s
  pw : st.Pairwise (· < ·)
  tv : ∀ y ∈ T, 0 ≤ y ∧ y ≤ 6
  gw : gr (T.length : Int) (-1) G = true
  cost : ∀ i (h : i < st.length), (hc g l ps piece T G 0 0).cost i st[i] < 1000
  sum : csum (hc g l ps piece T G 0 0).cost 0 st ≤ wrong
theorem Wr.skip {fr s : Nat} {lost wrong : Int} {st : List Nat} {T G : List Int} (h : Wr g l ps piece fr s lost wrong st T G) : Wr g l ps piece fr (s + 1) (lost + 1) wrong st T G :=
  ⟨h.len, by have := h.cnt; omega, by have := h.l0; omega, h.w0, fun y hy => by have := h.inn y hy; omega, h.pw, h.tv, h.gw, h.cost, h.sum⟩
theorem Wr.keep {fr s : Nat} {lost wrong : Int} {st : List Nat} {T G : List Int} (h : Wr g l ps piece fr s lost wrong st T G) (hf : fr ≤ s) {tone d : Int} (hd : 0 ≤ d) (hd1 : d ≤ 1) (ht : 0 ≤ tone ∧ tone ≤ 6) {G' : List Int}
    (hto : tone = (rd_T62 ps piece).f1.getD s 0 ∨ d = 1 ∧ (tone - (rd_T62 ps piece).f1.getD s 0 = 1 ∨ tone - (rd_T62 ps piece).f1.getD s 0 = 0 ∨ tone - (rd_T62 ps piece).f1.getD s 0 = -1))
    (hG : G' = G ∨ G' = G ++ [(T.length : Int)] ∧ (hc g l ps piece [] [] 0 0).gong (s : Int) = true) : Wr g l ps piece fr (s + 1) lost (wrong + d) (st ++ [s]) (T ++ [tone]) G' := by
  have hin := gr_in G (-1) h.gw
  have hcon : ∀ k : Nat, k < T.length → G'.contains (k : Int) = G.contains (k : Int) := by
    intro k hk
    rcases hG with rfl | ⟨rfl, _⟩
    · rfl
    · rw [Bool.eq_iff_iff, List.contains_iff_mem, List.contains_iff_mem, List.mem_append, List.mem_singleton]
      exact ⟨fun h => h.elim id (fun e => by omega), .inl⟩
  have hold : ∀ k j : Nat, k < T.length → (hc g l ps piece (T ++ [tone]) G' 0 0).cost k j = (hc g l ps piece T G 0 0).cost k j := by
    intro k j hk
    have e1 : (T ++ [tone]).getD k 0 = T.getD k 0 := by rw [List.getD_eq_getElem?_getD, List.getElem?_append_left hk, List.getD_eq_getElem?_getD]
    show (if (G'.contains (k : Int) && !(hc g l ps piece (T ++ [tone]) G' 0 0).gong (j : Int)) = true then (1000 : Int) else if (T ++ [tone]).getD k 0 = (rd_T62 ps piece).f1.getD j 0 then 0 else if (T ++ [tone]).getD k 0 - (rd_T62 ps piece).f1.getD j 0 = 1 ∨ (T ++ [tone]).getD k 0 - (rd_T62 ps piece).f1.getD j 0 = -1 then 1 else 1000) = _
    rw [hcon k hk, e1]
    rfl
  have hnew : (hc g l ps piece (T ++ [tone]) G' 0 0).cost T.length s ≤ d := by
    have e1 : (T ++ [tone]).getD T.length 0 = tone := by simp
    have e2 : (G'.contains (T.length : Int) && !(hc g l ps piece (T ++ [tone]) G' 0 0).gong (s : Int)) = false := by
      rcases hG with rfl | ⟨rfl, hg⟩
      · cases hq : G'.contains (T.length : Int)
        · rfl
        · have := hin _ (List.contains_iff_mem.1 hq)
          omega
      · rw [show (hc g l ps piece (T ++ [tone]) (G ++ [(T.length : Int)]) 0 0).gong (s : Int) = true from hg]
        simp
    show (if (G'.contains (T.length : Int) && !(hc g l ps piece (T ++ [tone]) G' 0 0).gong (s : Int)) = true then (1000 : Int) else if (T ++ [tone]).getD T.length 0 = (rd_T62 ps piece).f1.getD s 0 then 0 else if (T ++ [tone]).getD T.length 0 - (rd_T62 ps piece).f1.getD s 0 = 1 ∨ (T ++ [tone]).getD T.length 0 - (rd_T62 ps piece).f1.getD s 0 = -1 then 1 else 1000) ≤ d
    rw [e1, e2, if_neg (by simp)]
    rcases hto with e | ⟨e, e'⟩
    · rw [if_pos e]; exact hd
    · split
      · exact hd
      · rw [if_pos (by omega)]; omega
  refine ⟨by simp [h.len], by have := h.cnt; simp; omega, h.l0, by have := h.w0; omega, ?_, ?_, ?_, ?_, ?_, ?_⟩
  · intro y hy
    rcases List.mem_append.1 hy with hy | hy
    · have := h.inn y hy
      omega
    · rw [List.mem_singleton] at hy
      omega
  · rw [List.pairwise_append]
    exact ⟨h.pw, List.pairwise_singleton _ _, fun a ha b hb => by rw [List.mem_singleton] at hb; have := h.inn a ha; omega⟩
  · intro y hy
    rcases List.mem_append.1 hy with hy | hy
    · exact h.tv y hy
    · rw [List.mem_singleton] at hy
      subst hy
      exact ht
  · have hm : gr ((T ++ [tone]).length : Int) (-1) G = true := gr_mono (by simp; omega) G (-1) h.gw
    rcases hG with rfl | ⟨rfl, _⟩
    · exact hm
    · exact gr_snoc G (-1) (T.length : Int) hm (by omega) (by rw [List.length_append, List.length_singleton]; omega) (fun x hx => by have := hin x hx; omega)
  · intro i hi
    rw [List.length_append, List.length_singleton] at hi
    by_cases c : i < st.length
    · rw [List.getElem_append_left c, hold i _ (by have := h.len; omega)]
      exact h.cost i c
    · obtain rfl : i = st.length := by omega
      rw [show (st ++ [s])[st.length]'(by simp) = s by simp, ← h.len]
      omega
  · rw [csum_snoc, Nat.zero_add, ← h.len]
    rw [csum_congr (c' := (hc g l ps piece T G 0 0).cost) st 0 (fun i hi => by rw [Nat.zero_add]; exact hold i _ (by have := h.len; omega))]
    have := h.sum
    omega
/-- What the law is about. -/
structure Fact (g : Int) (l : List S114) (ps : List S62) (piece : Int) : Prop where
  ok : hbookOk g l ps = true
  p0 : 0 ≤ piece
  p1 : piece < ps.length
theorem Wr.next {fr s : Nat} {lost wrong : Int} {st : List Nat} {T G : List Int} (h : Wr g l ps piece fr s lost wrong st T G) : st.length ≤ s := by
  have := h.cnt
  have := h.l0
  omega
theorem mn_min (a b : Int) : mn a b = min a b := by unfold mn; split <;> omega
theorem mx_max (a b : Int) : mx a b = max a b := by unfold mx; split <;> omega
/-- The loop's end: what was written. -/
def Out (g : Int) (l : List S114) (ps : List S62) (piece : Int) (fr un : Nat) (L M : Int) (f : Nat → Option (List Int × List Int × Int × Int × List Int)) : Prop :=
  ∃ (T' G' : List Int) (st' : List Nat) (lost' wrong' : Int), Ev f (T', G', L, M, iS st') ∧ Wr g l ps piece fr (un + 1) lost' wrong' st' T' G' ∧ lost' ≤ L ∧ wrong' ≤ M ∧ st' ≠ []
theorem Out.step {fr un : Nat} {L M : Int} {f f' : Nat → Option (List Int × List Int × Int × Int × List Int)} (o : Out g l ps piece fr un L M f) (h : ∀ k, f' (k + 1) = f k) : Out g l ps piece fr un L M f' := by
  obtain ⟨T, G, st, lo, wr, h1, h2⟩ := o
  exact ⟨T, G, st, lo, wr, Ev.step h h1, h2⟩
theorem Out.cong {fr un : Nat} {L M : Int} {f f' : Nat → Option (List Int × List Int × Int × Int × List Int)} (o : Out g l ps piece fr un L M f) (h : ∀ k, f' k = f k) : Out g l ps piece fr un L M f' := by
  obtain ⟨T, G, st, lo, wr, h1, h2⟩ := o
  exact ⟨T, G, st, lo, wr, evc h h1, h2⟩
theorem Out.bind {α : Type} {fr un : Nat} {L M : Int} {q : Nat → Option α} {x : α} {f : Nat → α → Option (List Int × List Int × Int × Int × List Int)} (e : Ev q x) (o : Out g l ps piece fr un L M (fun k => f k x)) : Out g l ps piece fr un L M (fun k => (q k).bind (f k)) := by
  obtain ⟨T, G, st, lo, wr, h1, h2⟩ := o
  exact ⟨T, G, st, lo, wr, ebind e h1, h2⟩
/-- What a round tells of its stroke. -/
structure At (g : Int) (l : List S114) (ps : List S62) (piece : Int) (P : List Int) (s : Nat) (v : Int) (L5 : List Int) : Prop where
  p0 : 0 ≤ piece
  p1 : piece < ps.length
  sp : (s : Int) < P.length
  s24 : s ≤ 24
  rdv : rd P (s : Int) = v
  v0 : 0 ≤ v
  v1 : v ≤ 6
  pv : v = (rd_T62 ps piece).f1.getD s 0
  st : cycle_Struck.f g l (rd_T62 ps piece).f0 (s : Int) = some (L5, 0)
  go : (hc g l ps piece [] [] 0 0).gong (s : Int) = L5.contains 0
  l5 : L5.length ≤ 5
  es : wrap64 ((s : Int) + 1) = ((s + 1 : Nat) : Int)
theorem at_of (h : Fact g l ps piece) (s : Nat) (hs : s < (rd_T62 ps piece).f1.length) : ∃ v L5, At g l ps piece (rd_T62 ps piece).f1 s v L5 := by
  have pp := piece_f (piece_at h.ok h.p0 h.p1)
  have hbk := (hbookOk_iff.1 h.ok).1
  refine ⟨(rd_T62 ps piece).f1.getD s 0, lst (hits l (rd_T62 ps piece).f0 ((s : Int) % (rd_T114 l (rd_T62 ps piece).f0).f0)) 5, h.p0, h.p1, by omega, by omega, rd_nat _ _, ?_, ?_, rfl, ?_, rfl, lst_len _ _, ?_⟩
  · rw [show (rd_T62 ps piece).f1.getD s 0 = (rd_T62 ps piece).f1[s] by simp [hs]]
    exact (pp.2.2 _ (List.getElem_mem _)).1
  · rw [show (rd_T62 ps piece).f1.getD s 0 = (rd_T62 ps piece).f1[s] by simp [hs]]
    exact (pp.2.2 _ (List.getElem_mem _)).2
  · unfold cycle_Struck.f struckF
    have : openE g l (okStruck g l (rd_T62 ps piece).f0 (s : Int)) = 0 := by
      unfold openE
      rw [if_pos hbk, if_pos]
      unfold okStruck
      rw [isIn_iff.2 pp.1, isIn_iff.2 (by omega)]
      rfl
    rw [if_pos this]
  · rw [w64 (by omega) (by omega)]
    omega
section
variable {P bits : List Int} {fr un s : Nat} {lost wrong v L M : Int} {st : List Nat} {T G L5 : List Int}
/-- A stroke that is written. -/
theorem wrote_j3 (hA : At g l ps piece P s v L5) (hb : bits.length ≤ 9223372036854775807) (hM : M ≤ 6) (hL : L ≤ 6) (hfs : fr ≤ s) (hw : Wr g l ps piece fr s lost wrong st T G) (hl : lost ≤ L)
    (ih : ∀ (lost wrong : Int) (st : List Nat) (T G : List Int), Wr g l ps piece fr (s + 1) lost wrong st T G → lost ≤ L → wrong ≤ M → st ≠ [] → Out g l ps piece fr un L M (fun k => sW.l0 k piece bits P (fr : Int) (un : Int) lost wrong (iS st) ((s + 1 : Nat) : Int) g l ps T G L M))
    (tone d' : Int) (h0 : 0 ≤ d') (h1 : d' ≤ 1) (h2 : wrong + d' ≤ M) (h3 : 0 ≤ tone ∧ tone ≤ 6) (h4 : tone = v ∨ d' = 1 ∧ (tone - v = 1 ∨ tone - v = 0 ∨ tone - v = -1)) :
    Out g l ps piece fr un L M (fun k => sW.j3 k piece bits P (fr : Int) (un : Int) lost (wrong + d') (iS st) (s : Int) tone g l ps T G L M) := by
  rw [hA.pv] at h4
  have emap : iS (st ++ [s]) = iS st ++ [(s : Int)] := by simp [iS]
  have hT : T.length < 17592186044416 := by have := hw.next; have := hw.len; have := hA.s24; omega
  have hS : (iS st).length < 17592186044416 := by rw [List.length_map]; have := hw.next; have := hA.s24; omega
  have hG : G.length < 17592186044416 := by have := gr_len G (-1) hw.gw (by omega); omega
  have o1 := ih lost (wrong + d') (st ++ [s]) (T ++ [tone]) G (hw.keep hfs h0 h1 h3 h4 (.inl rfl)) hl h2 (by simp)
  have e1 := hA.st
  have e2 := hA.es
  rw [emap] at o1
  have hl5 := hA.l5
  by_cases cg : wh 0 0 L5 ≥ 0
  · have hg := (wh_iff 0 L5 0 (by omega)).1 cg
    obtain ⟨u, hu⟩ := nth_f bits (wrap64 ((s : Int) + 3)) hb
    have ht := turn_f u 2 (by omega) (by omega)
    by_cases c2 : u % 2 = 0
    · have o2 := ih lost (wrong + d') (st ++ [s]) (T ++ [tone]) (G ++ [(T.length : Int)]) (hw.keep hfs h0 h1 h3 h4 (.inr ⟨rfl, by rw [hA.go]; exact hg⟩)) hl h2 (by simp)
      rw [emap] at o2
      refine Out.step (f := fun k => (saronref00_Where.f k L5 0).bind fun t253 => _) (Out.bind (where_f L5 0 (by omega)) ?_) (fun k => by rw [sW.j3, if_pos hA.p0, if_pos hA.p1, e1, Option.bind_some])
      exact o2.cong (fun k => by rw [if_pos cg, hu, Option.bind_some, ht, Option.bind_some, if_pos c2, if_pos hG, if_pos hT, if_pos hS, e2])
    · refine Out.step (f := fun k => (saronref00_Where.f k L5 0).bind fun t253 => _) (Out.bind (where_f L5 0 (by omega)) ?_) (fun k => by rw [sW.j3, if_pos hA.p0, if_pos hA.p1, e1, Option.bind_some])
      exact o1.cong (fun k => by rw [if_pos cg, hu, Option.bind_some, ht, Option.bind_some, if_neg c2, if_pos hT, if_pos hS, e2])
  · refine Out.step (f := fun k => (saronref00_Where.f k L5 0).bind fun t253 => _) (Out.bind (where_f L5 0 (by omega)) ?_) (fun k => by rw [sW.j3, if_pos hA.p0, if_pos hA.p1, e1, Option.bind_some])
    exact o1.cong (fun k => by rw [if_neg cg, if_pos hT, if_pos hS, e2])
theorem wrote_keep (hA : At g l ps piece P s v L5) (hb : bits.length ≤ 9223372036854775807) (hM : M ≤ 6) (hL : L ≤ 6) (hfs : fr ≤ s) (hw : Wr g l ps piece fr s lost wrong st T G) (hl : lost ≤ L) (hm : wrong ≤ M)
    (ih : ∀ (lost wrong : Int) (st : List Nat) (T G : List Int), Wr g l ps piece fr (s + 1) lost wrong st T G → lost ≤ L → wrong ≤ M → st ≠ [] → Out g l ps piece fr un L M (fun k => sW.l0 k piece bits P (fr : Int) (un : Int) lost wrong (iS st) ((s + 1 : Nat) : Int) g l ps T G L M)) :
    Out g l ps piece fr un L M (fun k => sW.j1 k piece bits P (fr : Int) (un : Int) lost wrong (iS st) (s : Int) false g l ps T G L M) := by
  have v0 := hA.v0
  have v1 := hA.v1
  have e3 := hA.rdv
  have hw0 := hw.w0
  have s0 : (0 : Int) ≤ s := by omega
  have sp := hA.sp
  have o0 := wrote_j3 hA hb hM hL hfs hw hl ih v 0 (by omega) (by omega) (by omega) ⟨v0, v1⟩ (.inl rfl)
  rw [Int.add_zero] at o0
  have o0' : Out g l ps piece fr un L M (fun k => sW.j2 k piece bits P (fr : Int) (un : Int) lost wrong (iS st) (s : Int) v false g l ps T G L M) := o0.step (fun k => by rw [sW.j2, if_neg (by simp)])
  by_cases cw : wrong < M
  · obtain ⟨u, hu⟩ := nth_f bits (wrap64 ((s : Int) + 1)) hb
    have ht := turn_f u 4 (by omega) (by omega)
    by_cases c4 : u % 4 = 0
    · obtain ⟨x, hx⟩ := nth_f bits (wrap64 ((s : Int) + 2)) hb
      have x0 := Int.emod_nonneg x (show (2 : Int) ≠ 0 by omega)
      have x1 := Int.emod_lt_of_pos x (show (0 : Int) < 2 by omega)
      have hx2 := turn_f x 2 (by omega) (by omega)
      generalize x % 2 = y at *
      have o1 := wrote_j3 hA hb hM hL hfs hw hl ih (max 0 (min 6 (v + 1 - 2 * y))) 1 (by omega) (by omega) (by omega) (by omega) (.inr ⟨rfl, by omega⟩)
      have w1 : wrap64 (wrong + 1) = wrong + 1 := w64 (by omega) (by omega)
      have w2 : wrap64 (wrap64 (v + 1) - wrap64 (2 * y)) = v + 1 - 2 * y := by rw [w64 (x := v + 1) (by omega) (by omega), w64 (x := 2 * y) (by omega) (by omega), w64 (by omega) (by omega)]
      have o2 : Out g l ps piece fr un L M (fun k => sW.j2 k piece bits P (fr : Int) (un : Int) lost wrong (iS st) (s : Int) v true g l ps T G L M) := o1.step (fun k => by rw [sW.j2, if_pos rfl, hx, Option.bind_some, hx2, Option.bind_some, w1, w2, mn_min, mx_max])
      exact o2.step (fun k => by rw [sW.j1, if_neg (by simp), if_pos s0, if_pos sp, if_pos cw, hu, Option.bind_some, ht, Option.bind_some, e3, show (u % 4 == 0) = true by simp [c4]])
    · exact o0'.step (fun k => by rw [sW.j1, if_neg (by simp), if_pos s0, if_pos sp, if_pos cw, hu, Option.bind_some, ht, Option.bind_some, e3, show (u % 4 == 0) = false by simp [c4]])
  · exact o0'.step (fun k => by rw [sW.j1, if_neg (by simp), if_pos s0, if_pos sp, if_neg cw, e3])
theorem wrote_step (hA : At g l ps piece P s v L5) (hb : bits.length ≤ 9223372036854775807) (hM : M ≤ 6) (hL : L ≤ 6) (hfs : fr ≤ s) (hsu : s ≤ un) (hw : Wr g l ps piece fr s lost wrong st T G) (hl : lost ≤ L) (hm : wrong ≤ M) (hne : fr < s → st ≠ [])
    (ih : ∀ (lost wrong : Int) (st : List Nat) (T G : List Int), Wr g l ps piece fr (s + 1) lost wrong st T G → lost ≤ L → wrong ≤ M → st ≠ [] → Out g l ps piece fr un L M (fun k => sW.l0 k piece bits P (fr : Int) (un : Int) lost wrong (iS st) ((s + 1 : Nat) : Int) g l ps T G L M)) :
    Out g l ps piece fr un L M (fun k => sW.l0 k piece bits P (fr : Int) (un : Int) lost wrong (iS st) (s : Int) g l ps T G L M) := by
  have ok := wrote_keep hA hb hM hL hfs hw hl hm ih
  have hl0 := hw.l0
  have e2 := hA.es
  have hsu' : (s : Int) ≤ un := by omega
  by_cases c1 : (s : Int) > fr
  · by_cases c2 : (s : Int) < un
    · by_cases c3 : lost < L
      · obtain ⟨u, hu⟩ := nth_f bits (s : Int) hb
        have ht := turn_f u 3 (by omega) (by omega)
        by_cases c4 : u % 3 = 0
        · have o1 := ih (lost + 1) wrong st T G hw.skip (by omega) hm (hne (by omega))
          have w1 : wrap64 (lost + 1) = lost + 1 := w64 (by omega) (by omega)
          have o2 : Out g l ps piece fr un L M (fun k => sW.j1 k piece bits P (fr : Int) (un : Int) lost wrong (iS st) (s : Int) true g l ps T G L M) := o1.step (fun k => by rw [sW.j1, if_pos rfl, w1, e2])
          exact o2.step (fun k => by rw [sW.l0, if_pos hsu', if_pos c1, if_pos c2, if_pos c3, hu, Option.bind_some, ht, Option.bind_some, show (u % 3 == 0) = true by simp [c4]])
        · exact ok.step (fun k => by rw [sW.l0, if_pos hsu', if_pos c1, if_pos c2, if_pos c3, hu, Option.bind_some, ht, Option.bind_some, show (u % 3 == 0) = false by simp [c4]])
      · exact ok.step (fun k => by rw [sW.l0, if_pos hsu', if_pos c1, if_pos c2, if_neg c3])
    · exact ok.step (fun k => by rw [sW.l0, if_pos hsu', if_pos c1, if_neg c2])
  · exact ok.step (fun k => by rw [sW.l0, if_pos hsu', if_neg c1])
end
theorem wrote_l0 (h : Fact g l ps piece) (fr un : Nat) (hu : un < (rd_T62 ps piece).f1.length) (bits : List Int) (hb : bits.length ≤ 9223372036854775807) (L M : Int) (hL : L ≤ 6) (hM : M ≤ 6) : ∀ (d s : Nat) (lost wrong : Int) (st : List Nat) (T G : List Int), s + d = un + 1 → fr ≤ s →
    Wr g l ps piece fr s lost wrong st T G → lost ≤ L → wrong ≤ M → (fr < s → st ≠ []) → (d = 0 → st ≠ []) →
    Out g l ps piece fr un L M (fun k => sW.l0 k piece bits (rd_T62 ps piece).f1 (fr : Int) (un : Int) lost wrong (iS st) (s : Int) g l ps T G L M)
  | 0, s, lost, wrong, st, T, G, hd, hfs, hw, hl, hm, hne, hn0 => by
    obtain rfl : s = un + 1 := by omega
    exact ⟨T, G, st, lost, wrong, Ev.step (fun k => by rw [sW.l0, if_neg (by omega)]) (Ev.now _), hw, hl, hm, hn0 rfl⟩
  | d + 1, s, lost, wrong, st, T, G, hd, hfs, hw, hl, hm, hne, hn0 => by
    obtain ⟨v, L5, hA⟩ := at_of h s (by omega)
    exact wrote_step hA hb hM hL hfs (by omega) hw hl hm hne (fun lost wrong st T G hw hl hm hne => wrote_l0 h fr un hu bits hb L M hL hM d (s + 1) lost wrong st T G (by omega) (by omega) hw hl hm (fun _ => hne) (fun _ => hne))
/-- The strokes that were written are a reading. -/
theorem Wr.lsn {fr un : Nat} {lo wr : Int} {st : List Nat} {T G : List Int} (h : Wr g l ps piece fr (un + 1) lo wr st T G) (hu : un < (rd_T62 ps piece).f1.length) (hne : st ≠ []) {L M : Int} (hm : wr ≤ M) {c : Nat → Nat → Int} (hc : ∀ i (h : i < st.length), c i st[i] = (hc g l ps piece T G L M).cost i st[i])
    {lost : Int} (hl : (st.getLast hne : Int) ≤ (st.head hne : Int) + st.length - 1 + lost) : ∃ e, Lsn (HeardTrue.hc g l ps piece T G L M) c lost (st.head hne) e := by
  have hin := h.inn
  have hsum := h.sum
  have hcost := h.cost
  have hlen := h.len
  have hpw := h.pw
  match st, hne with
  | s0 :: rest, hne =>
    obtain ⟨e, h1, h2⟩ := rd_list (c := c) rest 0 s0 hpw (fun i hi => by rw [Nat.zero_add, hc i hi]; exact hcost i hi)
    have hel : e ≤ (s0 :: rest).getLast hne := by
      obtain ⟨i, hi, rfl⟩ := List.mem_iff_getElem.1 h2
      rw [List.getLast_eq_getElem]
      rw [List.pairwise_iff_getElem] at hpw
      by_cases ci : i = (s0 :: rest).length - 1
      · subst ci; exact Nat.le_refl _
      · exact Nat.le_of_lt (hpw i ((s0 :: rest).length - 1) hi (by simp) (by omega))
    have h3 := hin s0 (by simp)
    have h4 := hin e h2
    have et : (HeardTrue.hc g l ps piece T G L M).t.length = rest.length + 1 := by
      show T.length = _
      rw [hlen]; rfl
    have ep : (HeardTrue.hc g l ps piece T G L M).p.length = (rd_T62 ps piece).f1.length := rfl
    rw [List.length_cons] at hl
    rw [List.head_cons] at hl ⊢
    refine ⟨e, by omega, by omega, by omega, csum c 0 (s0 :: rest), ?_, ?_⟩
    · rw [et]
      exact h1
    · have e1 := csum_congr (c := c) (c' := (HeardTrue.hc g l ps piece T G L M).cost) (s0 :: rest) 0 (fun i hi => by rw [Nat.zero_add]; exact hc i hi)
      rw [e1]
      exact Int.le_trans hsum hm
theorem leaG_le {x : HC} {n : Nat} (hn : n < 24) (h : x.fitsB (n : Int) = true) : ∃ k : Nat, k ≤ n ∧ leaG x = ((k : Int), 0) := by
  unfold leaG
  cases hf : (List.range 24).find? (fun k : Nat => x.fitsB (k : Int)) with
  | none => exact absurd h (by rw [List.find?_eq_none] at hf; exact hf n (by simpa using hn))
  | some k =>
    obtain ⟨_, i, hi, e, ha⟩ := List.find?_eq_some_iff_getElem.1 hf
    refine ⟨k, ?_, rfl⟩
    simp at e
    subst e
    refine Classical.byContradiction fun hlt => ?_
    have := ha n (by omega)
    simp [h] at this
theorem cAt_self (c : Nat → Nat → Int) (st : List Nat) (q : Nat) (hq : q < st.length) (i : Nat) (hi : i < st.length) : H.cAt c q st[q] i st[i] = c i st[i] := by
  unfold H.cAt
  by_cases e : i = q
  · subst e; rw [if_neg (fun h => h.2 rfl)]
  · rw [if_neg (fun h => e h.1)]
/-- All that the law asks of what was written. -/
structure All (g : Int) (l : List S114) (ps : List S62) (piece : Int) (st : List Nat) (T G : List Int) (L M : Int) : Prop where
  len : T.length = st.length
  n1 : 1 ≤ st.length
  n2 : st.length ≤ 24
  note : noteB T G L M = true
  fits : (hc g l ps piece T G L M).fitsB L = true
  can : ∀ q (h : q < st.length), (strL (hc g l ps piece T G L M) (q : Int)).contains (st[q] : Int) = true
  least : ∃ n : Nat, leaG (hc g l ps piece T G L M) = ((n : Int), 0) ∧ (n : Int) ≤ rd (iS st) ((st.length : Int) - 1) - rd (iS st) 0 + 1 - st.length
  big : 0 ≤ rd (iS st) ((st.length : Int) - 1) - rd (iS st) 0 + 1 - st.length
  bnd : ∀ i : Int, 0 ≤ rd (iS st) i ∧ rd (iS st) i ≤ 24
theorem pw_len {st : List Nat} (h : st.Pairwise (· < ·)) (hne : st ≠ []) : st.head hne + st.length ≤ st.getLast hne + 1 := by
  match st, hne with
  | [a], hne => simp
  | a :: b :: r, hne =>
    rw [List.pairwise_cons] at h
    have := pw_len h.2 (by simp)
    have := h.1 b (by simp)
    rw [List.getLast_cons (by simp), List.head_cons, List.length_cons]
    simp only [List.head_cons] at *
    omega
theorem Wr.all {fr un : Nat} {lo wr : Int} {st : List Nat} {T G : List Int} (h : Wr g l ps piece fr (un + 1) lo wr st T G) (hF : Fact g l ps piece) (hu : un < (rd_T62 ps piece).f1.length) (hne : st ≠ []) {L M : Int} (hlo : lo ≤ L) (hm : wr ≤ M) (hL : 0 ≤ L ∧ L ≤ 6) (hM : 0 ≤ M ∧ M ≤ 6) : All g l ps piece st T G L M := by
  have pp := piece_f (piece_at hF.ok hF.p0 hF.p1)
  have hlen := h.len
  have hcnt := h.cnt
  have hl0 := h.l0
  have h1 : 1 ≤ st.length := List.length_pos_iff.2 hne
  have hpl := pw_len h.pw hne
  have hh := h.inn _ (List.head_mem hne)
  have hla := h.inn _ (List.getLast_mem hne)
  have ert : ∀ i : Nat, (hi : i < st.length) → rd (iS st) (i : Int) = (st[i] : Int) := fun i hi => by rw [rd_nat]; simp [hi]
  have e0 : rd (iS st) 0 = (st.head hne : Int) := by
    have := ert 0 (by omega)
    rw [List.head_eq_getElem]
    exact this
  have e1 : rd (iS st) ((st.length : Int) - 1) = (st.getLast hne : Int) := by
    have := ert (st.length - 1) (by omega)
    rw [List.getLast_eq_getElem, ← this]
    congr 1
    omega
  have et : (hc g l ps piece T G L M).t.length = T.length := rfl
  have ep : (hc g l ps piece T G L M).p.length = (rd_T62 ps piece).f1.length := rfl
  have elo : (hc g l ps piece T G L M).lost = L := rfl
  have ew : (hc g l ps piece T G L M).wrong = M := rfl
  refine ⟨hlen, h1, by omega, ?_, ?_, ?_, ?_, by rw [e0, e1]; omega, ?_⟩
  · unfold noteB
    rw [Bool.and_eq_true, Bool.and_eq_true, Bool.and_eq_true, isIn_iff, isIn_iff, tonesB_iff]
    exact ⟨h.gw, ⟨⟨by omega, h.tv⟩, hL⟩, hM⟩
  · obtain ⟨e, k⟩ := h.lsn hu hne (L := L) (M := M) hm (c := (hc g l ps piece T G L M).cost) (fun _ _ => rfl) (lost := L) (by omega)
    exact (fitsB_iff (by omega) hL.1 (by omega)).2 ⟨_, e, k⟩
  · intro q hq
    obtain ⟨e, k⟩ := h.lsn hu hne (L := L) (M := M) hm (c := H.cAt (hc g l ps piece T G L M).cost q st[q]) (fun i hi => cAt_self _ st q hq i hi) (lost := L) (by omega)
    have := h.inn _ (List.getElem_mem hq)
    exact (str_has (by omega) (by omega) (by omega) (by omega)).2 ⟨by omega, _, e, k⟩
  · obtain ⟨n, hn⟩ : ∃ n : Nat, (n : Int) = (st.getLast hne : Int) - (st.head hne : Int) + 1 - st.length := ⟨st.getLast hne + 1 - st.length - st.head hne, by omega⟩
    obtain ⟨e, k⟩ := h.lsn hu hne (L := L) (M := M) hm (c := (hc g l ps piece T G L M).cost) (fun _ _ => rfl) (lost := (n : Int)) (by omega)
    obtain ⟨m, hm1, hm2⟩ := leaG_le (n := n) (by omega) ((fitsB_iff (by omega) (by omega) (by omega)).2 ⟨_, e, k⟩)
    exact ⟨m, hm2, by rw [e0, e1]; omega⟩
  · intro i
    show 0 ≤ (iS st).getD i.toNat 0 ∧ (iS st).getD i.toNat 0 ≤ 24
    by_cases c : i.toNat < st.length
    · rw [show (iS st).getD i.toNat 0 = (st[i.toNat] : Int) by simp [c]]
      have := h.inn _ (List.getElem_mem c)
      omega
    · rw [show (iS st).getD i.toNat 0 = 0 by simp [c]]
      omega
theorem ask0 {st : List Nat} {T G : List Int} {L M : Int} (h : All g l ps piece st T G L M) (hF : Fact g l ps piece) : askE g l ps (okAsk ps piece T G L M) = 0 := by
  unfold askE
  rw [if_pos hF.ok, if_pos]
  unfold okAsk
  have := hF.p0
  have := hF.p1
  rw [h.note, isIn_iff.2 (by omega)]
  rfl
theorem notes_l0 {st : List Nat} {T G : List Int} {L M : Int} (h : All g l ps piece st T G L M) (hF : Fact g l ps piece) : ∀ (d q : Nat), q + d = st.length →
    Ev (fun k => sHT.l0 k piece (iS st) (q : Int) g l ps T G L M) true
  | 0, q, hd => by
    exact Ev.step (fun k => by rw [sHT.l0, if_neg (by rw [List.length_map]; omega), saronlaw09_listened.f, Option.bind_some]) (Ev.now true)
  | d + 1, q, hd => by
    have hq : q < st.length := by omega
    have h2 := h.n2
    have hst : heard_Strokes.f g l ps piece T G L M (q : Int) = some (strL (hc g l ps piece T G L M) (q : Int), 0) := by
      unfold heard_Strokes.f stroF
      rw [if_pos (ask0 h hF), if_pos (isIn_iff.2 (by have := h.len; omega))]
      rfl
    have hll : (strL (hc g l ps piece T G L M) (q : Int)).length ≤ 24 := lst_len _ _
    refine Ev.step (fun k => by rw [sHT.l0, if_pos (by rw [List.length_map]; omega), hst, Option.bind_some, if_pos rfl, if_pos (by omega)]) ?_
    refine ebind (where_f (strL (hc g l ps piece T G L M) (q : Int)) _ (by omega)) ?_
    have hw := (wh_iff (rd (iS st) (q : Int)) (strL (hc g l ps piece T G L M) (q : Int)) 0 (by omega)).2 (by rw [rd_nat]; simp only [List.getD_eq_getElem?_getD, List.getElem?_map, List.getElem?_eq_getElem hq, Option.map_some, Option.getD_some]; exact h.can q hq)
    exact evc (fun k => by rw [if_neg (by omega), w64 (x := (q : Int) + 1) (by omega) (by omega), show ((q : Int) + 1) = ((q + 1 : Nat) : Int) by omega]) (notes_l0 h hF d (q + 1) (by omega))
end
end HeardTrue
set_option maxHeartbeats 4000000 in
open HeardTrue in
theorem HeardTrue.pure (g : Int) (l : List S114) (ps : List S62) (wg : (Lit.int .i64 g).wf = true) (hs : l.length ≤ 9223372036854775807 ∧ ∀ f ∈ l, f.f1.length ≤ 9223372036854775807 ∧ ∀ r ∈ f.f1, r.length ≤ 9223372036854775807) (hp : ps.length ≤ 9223372036854775807) (hpp : ∀ f ∈ ps, f.f1.length ≤ 9223372036854775807) (n0 n1 n2 : Int) (w0 : (Lit.int .i64 n0).wf = true) (w1 : (Lit.int .i64 n1).wf = true) (w2 : (Lit.int .i64 n2).wf = true)
    (bits : List Int) (hb : bits.length ≤ 9223372036854775807) : ∃ k, sHT.f k g l ps n0 n1 n2 bits = some true := by
  refine Ev.rounds (g := fun k => sHT.f k g l ps n0 n1 n2 bits) ?_
  refine evc (fun k => by rw [sHT.f]) ?_
  refine ebind (hsound_f hs) ?_
  by_cases hk : hbookOk g l ps = true
  · have h6 := (hbookOk_iff.1 hk).2.1
    have q0 := Int.emod_nonneg n0 (show (ps.length : Int) ≠ 0 by omega)
    have q1 := Int.emod_lt_of_pos n0 (show (0 : Int) < ps.length by omega)
    have ht0 := turn_f n0 (ps.length : Int) (by omega) (by omega)
    generalize n0 % (ps.length : Int) = p at *
    have hF : Fact g l ps p := ⟨hk, q0, q1⟩
    have pp := piece_f (piece_at hk q0 q1)
    have f0 := Int.emod_nonneg n1 (show ((rd_T62 ps p).f1.length : Int) ≠ 0 by omega)
    have f1 := Int.emod_lt_of_pos n1 (show (0 : Int) < (rd_T62 ps p).f1.length by omega)
    have ht1 := turn_f n1 ((rd_T62 ps p).f1.length : Int) (by omega) (by omega)
    generalize n1 % ((rd_T62 ps p).f1.length : Int) = fr at *
    obtain ⟨fr, rfl⟩ := Int.eq_ofNat_of_zero_le f0
    have ew : wrap64 (((rd_T62 ps p).f1.length : Int) - 1) = ((rd_T62 ps p).f1.length : Int) - 1 := w64 (by omega) (by omega)
    obtain ⟨un, hun, u0, u1⟩ := draw_f (fr : Int) (((rd_T62 ps p).f1.length : Int) - 1) n2 (by omega) (by omega) (by omega)
    obtain ⟨un, rfl⟩ := Int.eq_ofNat_of_zero_le (show 0 ≤ un by omega)
    obtain ⟨v, hv⟩ := nth_f bits 0 hb
    obtain ⟨u, hu⟩ := nth_f bits 1 hb
    have v0 := Int.emod_nonneg v (show (4 : Int) ≠ 0 by omega)
    have v1 := Int.emod_lt_of_pos v (show (0 : Int) < 4 by omega)
    have x0 := Int.emod_nonneg u (show (3 : Int) ≠ 0 by omega)
    have x1 := Int.emod_lt_of_pos u (show (0 : Int) < 3 by omega)
    have hv4 := turn_f v 4 (by omega) (by omega)
    have hu3 := turn_f u 3 (by omega) (by omega)
    generalize v % 4 = L at *
    generalize u % 3 = M at *
    obtain ⟨T, G, st, lo, wr, hE, hW, hlo, hwr, hne⟩ := wrote_l0 hF fr un (by omega) bits hb L M (by omega) (by omega) (un + 1 - fr) fr 0 0 [] [] [] (by omega) (by omega)
      ⟨rfl, by simp, by omega, by omega, by simp, List.Pairwise.nil, by simp, rfl, by simp, by show (0 : Int) ≤ 0; omega⟩ (by omega) (by omega) (by omega) (by omega)
    have hA := hW.all hF (by omega) hne hlo hwr (by omega) (by omega)
    have hwf : Ev (fun k => sW.f k g l ps p n1 n2 bits) (T, G, L, M, iS st) := by
      refine evc (fun k => by rw [sW.f, if_pos q0, if_pos q1, ht1, Option.bind_some, ew, saronref00_Band.f, Option.bind_some, hun, Option.bind_some, hv, Option.bind_some, hv4, Option.bind_some, hu, Option.bind_some, hu3, Option.bind_some]) ?_
      exact hE
    refine evc (fun k => by rw [if_pos hk, ht0, Option.bind_some]) ?_
    refine ebind hwf ?_
    have hask := ask0 hA hF
    have hfit : heard_Fits.f g l ps p T G L M = some (true, 0) := by
      unfold heard_Fits.f fitF
      rw [if_pos hask]
      exact congrArg (fun b => some (b, (0 : Int))) hA.fits
    obtain ⟨pn, rfl⟩ := Int.eq_ofNat_of_zero_le q0
    have hpie : ∃ r : List Int, heard_Pieces.f g l ps T G L M = some (r, 0) ∧ r.contains (pn : Int) = true ∧ r.length ≤ 6 := by
      refine ⟨lst (fun k => [(⟨T, G, L, M⟩ : S30)].all (fitN g l ps k)) ps.length, ?_, ?_, ?_⟩
      · unfold heard_Pieces.f allF hcheckE
        rw [if_pos hk, if_pos rfl, if_pos]
        rw [show ([(⟨T, G, L, M⟩ : S30)].all nOk) = true by show (noteB T G L M && true) = true; rw [hA.note]; rfl]
        rfl
      · rw [lst_has, Bool.and_eq_true, decide_eq_true_iff]
        refine ⟨by omega, ?_⟩
        show (fitN g l ps pn ⟨T, G, L, M⟩ && true) = true
        rw [Bool.and_true]
        exact hA.fits
      · have := lst_len (fun k => [(⟨T, G, L, M⟩ : S30)].all (fitN g l ps k)) ps.length
        omega
    obtain ⟨r, hr1, hr2, hr3⟩ := hpie
    have hbeg : heard_Begins.f g l ps (pn : Int) T G L M = some (strL (hc g l ps (pn : Int) T G L M) 0, 0) := by
      unfold heard_Begins.f stroF
      rw [if_pos hask, if_pos (isIn_iff.2 (by have := hA.len; have := hA.n1; omega))]
      rfl
    obtain ⟨m, hm1, hm2⟩ := hA.least
    have hlea : heard_Least.f g l ps (pn : Int) T G L M = some ((m : Int), 0) := by
      unfold heard_Least.f leaF
      rw [if_pos hask]
      exact congrArg some hm1
    have hll : (strL (hc g l ps (pn : Int) T G L M) 0).length ≤ 24 := lst_len _ _
    have hn1 := hA.n1
    have hn2 := hA.n2
    have hbig := hA.big
    have hb0 := hA.bnd 0
    have hb1 := hA.bnd ((st.length : Int) - 1)
    have hc0 := hA.can 0 (by omega)
    have er0 : rd (iS st) 0 = (st[0] : Int) := by
      have := rd_nat (iS st) 0
      rw [show ((0 : Nat) : Int) = 0 from rfl] at this
      rw [this]
      simp only [List.getD_eq_getElem?_getD, List.getElem?_map, List.getElem?_eq_getElem (show 0 < st.length by omega), Option.map_some, Option.getD_some]
    have eml : ((iS st).length : Int) = st.length := by simp
    have ewl : wrap64 ((st.length : Int) - 1) = (st.length : Int) - 1 := w64 (by omega) (by omega)
    have hj : Ev (fun k => sHT.j0 k (pn : Int) (iS st) false g l ps T G L M) true :=
      Ev.step (fun k => by rw [sHT.j0, if_neg (by simp)]; rfl) (notes_l0 hA hF st.length 0 (by omega))
    refine evc (fun k => by rw [hfit, Option.bind_some, hr1, Option.bind_some, hbeg, Option.bind_some, hlea, Option.bind_some, eml, ewl, if_pos (by omega), if_pos (by omega), if_pos (by omega), if_pos rfl, if_pos rfl, if_pos rfl, if_pos rfl, if_pos rfl]) ?_
    refine ebind (where_f r (pn : Int) (by omega)) ?_
    refine evc (fun k => by rw [if_neg (by have := (wh_iff (pn : Int) r 0 (by omega)).2 hr2; omega)]) ?_
    refine ebind (where_f (strL (hc g l ps (pn : Int) T G L M) 0) _ (by omega)) ?_
    refine evc (fun k => by rw [if_neg (by rw [er0]; have := (wh_iff (st[0] : Int) (strL (hc g l ps (pn : Int) T G L M) 0) 0 (by omega)).2 hc0; omega), sits_f, Option.bind_some,
      w64 (x := rd (iS st) ((st.length : Int) - 1) - rd (iS st) 0) (by omega) (by omega), w64 (x := rd (iS st) ((st.length : Int) - 1) - rd (iS st) 0 + 1) (by omega) (by omega),
      w64 (x := rd (iS st) ((st.length : Int) - 1) - rd (iS st) 0 + 1 - (st.length : Int)) (by omega) (by omega), show isIn (m : Int) 0 (rd (iS st) ((st.length : Int) - 1) - rd (iS st) 0 + 1 - (st.length : Int)) = true from isIn_iff.2 (by omega)]) ?_
    exact hj
  · exact evc (fun k => by rw [if_neg hk, saronlaw09_listened.f, Option.bind_some]) (Ev.now true)
end Go.Proofs.YtfdenclnneigfaaDoor
