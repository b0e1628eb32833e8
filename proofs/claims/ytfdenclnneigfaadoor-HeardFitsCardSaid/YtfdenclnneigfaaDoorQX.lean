import Derived.Test.YtfdenclnneigfaaDoorQA9
import Derived.Test.YtfdenclnneigfaaDoorQR
import Derived.Test.YtfdenclnneigfaaDoorC2
import Derived.Test.YtfdenclnneigfaaDoorCTG
set_option linter.unusedVariables false
set_option linter.unusedSimpArgs false
namespace Go.Proofs.YtfdenclnneigfaaDoor.Q
open Go.RowKit Go.Proofs.YtfdenclnneigfaaDoorW.PrintWords Go.Proofs.YtfdenclnneigfaaDoorW.PrintLast Go.Proofs.YtfdenclnneigfaaDoor.PRaspKeys Go.Proofs.YtfdenclnneigfaaDoor.R
/-! ### The reference: notes, and what a note can be -/
theorem mn_min (a b : Int) : mn a b = min a b := by unfold mn; split <;> omega
section
variable {g : Int} {l : List S114} {ps : List S62}
theorem pbook_iff : hbookOk g l ps = true ↔ bookOk g l = true ∧ (1 ≤ (ps.length : Int) ∧ (ps.length : Int) ≤ 6) ∧ ∀ p ∈ ps, pieceOk l.length p = true := by
  unfold hbookOk
  rw [Bool.and_eq_true, Bool.and_eq_true, isIn_iff, List.all_eq_true, and_assoc]
theorem ppiece_f (hk : hbookOk g l ps = true) {n : Int} (h0 : 0 ≤ n) (h1 : n < ps.length) : (0 ≤ (rd_T62 ps n).f0 ∧ (rd_T62 ps n).f0 ≤ (l.length : Int) - 1) ∧ (1 ≤ ((rd_T62 ps n).f1.length : Int) ∧ ((rd_T62 ps n).f1.length : Int) ≤ 24) ∧ ∀ y ∈ (rd_T62 ps n).f1, 0 ≤ y ∧ y ≤ 6 := by
  obtain ⟨m, rfl⟩ := Int.eq_ofNat_of_zero_le h0
  rw [rdT62 ps m (by omega)]
  have h := (pbook_iff.1 hk).2.2 _ (List.getElem_mem (show m < ps.length by omega))
  unfold pieceOk at h
  rw [Bool.and_eq_true, isIn_iff, tonesB_iff] at h
  exact ⟨h.1, h.2.1, h.2.2⟩
theorem rnote_f (t gs : List Int) (lost wrong : Int) (ht : t.length ≤ 9223372036854775807) (hg : gs.length ≤ 9223372036854775807) : Ev (fun k => rN.f k t gs lost wrong) (noteB t gs lost wrong) := by
  refine evc (fun k => by rw [rN.f]) ?_
  refine ebind (rtones_f t 1 ht) ?_
  unfold noteB
  cases c1 : tonesB t 1
  · refine evc (fun k => by rw [if_neg (by simp)]) ?_
    rw [Bool.false_and, Bool.false_and, Bool.and_false]
    exact Ev.now false
  · refine evc (fun k => by rw [if_pos rfl]) ?_
    refine ebind (rgrows_f (t.length : Int) gs hg) ?_
    cases c2 : gr (t.length : Int) (-1) gs
    · exact evc (fun k => by rw [if_neg (by simp)]) (Ev.now false)
    · refine evc (fun k => by rw [if_pos rfl, sits_f, Option.bind_some]) ?_
      cases c3 : isIn lost 0 6
      · exact evc (fun k => by rw [if_neg (by simp)]) (Ev.now false)
      · rw [Bool.true_and, Bool.true_and, Bool.true_and]
        exact evc (fun k => by rw [if_pos rfl, sits_f, Option.bind_some]) (Ev.now _)
/-- A book, a piece of it, and tones that can be asked about. -/
structure TF (g : Int) (l : List S114) (ps : List S62) (piece : Int) (t gs : List Int) : Prop where
  ok : hbookOk g l ps = true
  p0 : 0 ≤ piece
  p1 : piece < ps.length
  t2 : t.length ≤ 24
  tv : ∀ y ∈ t, 0 ≤ y ∧ y ≤ 6
  gl : gs.length ≤ 9223372036854775807
def hcx (g : Int) (l : List S114) (ps : List S62) (piece : Int) (t gs : List Int) (lost wrong : Int) : HC := HC.mk g none 0 l none 0 ps piece none 0 t none 0 gs lost wrong
def gongF (l : List S114) (ps : List S62) (piece s : Int) : Bool := (lst (hits l (rd_T62 ps piece).f0 (s % (rd_T114 l (rd_T62 ps piece).f0).f0)) 5).contains 0
theorem rdT114 (l : List S114) (m : Nat) (h : m < l.length) : rd_T114 l (m : Int) = l[m] := by simp [rd_T114, h]
theorem lst_zero (h : Nat → Bool) (n : Nat) (hn : 1 ≤ n) : (lst h n).contains 0 = h 0 := by
  have := lst_has h n 0
  rw [show ((0 : Nat) : Int) = 0 from rfl] at this
  rw [this, decide_eq_true (by omega), Bool.true_and]
/-- A form's numbers. -/
theorem form_f (hk : bookOk g l = true) {f : Int} (h0 : 0 ≤ f) (h1 : f ≤ (l.length : Int) - 1) : (2 ≤ (rd_T114 l f).f0 ∧ (rd_T114 l f).f0 ≤ 32) ∧ ((rd_T114 l f).f1.length : Int) = g ∧ 1 ≤ g ∧ g ≤ 5 := by
  obtain ⟨m, rfl⟩ := Int.eq_ofNat_of_zero_le h0
  unfold bookOk at hk
  rw [Bool.and_eq_true, Bool.and_eq_true, isIn_iff, isIn_iff, List.all_eq_true] at hk
  have hf := hk.2 _ (List.getElem_mem (show m < l.length by omega))
  unfold formOk at hf
  rw [Bool.and_eq_true, Bool.and_eq_true, isIn_iff, beq_iff_eq] at hf
  rw [rdT114 l m (by omega)]
  exact ⟨hf.1, hf.2.1, hk.1.1⟩
theorem rstruck_l0 (rows : List (List Int)) (hg : (rows.length : Int) = g) (hg5 : g ≤ 5) (b beat : Int) (hb : 1 ≤ b) (hbt : 0 ≤ beat) (hr : ∀ r ∈ rows, r.length ≤ 9223372036854775807) : ∀ (d n : Nat), n + d = rows.length →
    Ev (fun k => r5s.l0 k beat (lst (fun i => (rows.getD i []).contains (beat % b)) n) (n : Int) g l b rows) (lst (fun i => (rows.getD i []).contains (beat % b)) rows.length)
  | 0, n, hd => by
    obtain rfl : n = rows.length := by omega
    exact Ev.step (fun k => by rw [r5s.l0, if_neg (by omega)]) (Ev.now _)
  | d + 1, n, hd => by
    have hn : n < rows.length := by omega
    have hll := lst_len (fun i => (rows.getD i []).contains (beat % b)) n
    have e0 : rd_L1 rows (n : Int) = rows.getD n [] := by simp [rd_L1]
    have e1 : rows.getD n [] = rows[n] := by simp [hn]
    have e2 : Int.tmod beat b = beat % b := Int.tmod_eq_emod_of_nonneg hbt
    have ew : wrap64 ((n : Int) + 1) = ((n + 1 : Nat) : Int) := by rw [w64 (by omega) (by omega)]; omega
    have ih := rstruck_l0 rows hg hg5 b beat hb hbt hr d (n + 1) (by omega)
    refine Ev.step (fun k => by rw [r5s.l0, if_pos (by omega), if_pos (by omega), if_pos (by omega), if_neg (by omega), e0, e2]) ?_
    refine ebind (where_f (rows.getD n []) (beat % b) (by rw [e1]; exact hr _ (List.getElem_mem hn))) ?_
    have hwh := wh_iff (beat % b) (rows.getD n []) 0 (by omega)
    by_cases c : wh (beat % b) 0 (rows.getD n []) ≥ 0
    · have h1 := hwh.1 c
      have e3 : lst (fun i => (rows.getD i []).contains (beat % b)) (n + 1) = lst (fun i => (rows.getD i []).contains (beat % b)) n ++ [(n : Int)] := by
        conv => lhs; unfold lst
        rw [if_pos h1]
      rw [e3] at ih
      exact evc (fun k => by rw [if_pos c, if_pos (by omega), ew]) ih
    · have e3 : lst (fun i => (rows.getD i []).contains (beat % b)) (n + 1) = lst (fun i => (rows.getD i []).contains (beat % b)) n := by
        conv => lhs; unfold lst
        rw [if_neg (fun h => c (hwh.2 h))]
      rw [e3] at ih
      exact evc (fun k => by rw [if_neg c, ew]) ih
theorem rgong_f (hk : hbookOk g l ps = true) (hs : Small l) {piece : Int} (h0 : 0 ≤ piece) (h1 : piece < ps.length) {s : Nat} (hs24 : s ≤ 24) : Ev (fun k => rG.f k g l ps piece (s : Int)) (gongF l ps piece (s : Int)) := by
  have hb := (pbook_iff.1 hk).1
  have pp := (ppiece_f hk h0 h1).1
  unfold gongF
  refine evc (fun k => by rw [rG.f, if_pos h0, if_pos h1]) ?_
  generalize (rd_T62 ps piece).f0 = f at *
  have ff := form_f hb pp.1 pp.2
  have hll : l.length ≤ 4 := by
    unfold bookOk at hb
    rw [Bool.and_eq_true, Bool.and_eq_true, isIn_iff, isIn_iff] at hb
    omega
  have hrows : ∀ r ∈ (rd_T114 l f).f1, r.length ≤ 9223372036854775807 := by
    obtain ⟨m, rfl⟩ := Int.eq_ofNat_of_zero_le pp.1
    rw [rdT114 l m (by omega)]
    exact (hs.2 _ (List.getElem_mem (show m < l.length by omega))).2
  have hst : Ev (fun k => r5S.f k g l f (s : Int)) (lst (fun i => ((rd_T114 l f).f1.getD i []).contains ((s : Int) % (rd_T114 l f).f0)) (rd_T114 l f).f1.length, 0) := by
    have hc := rcheck_f g l hs
    unfold checkE at hc
    rw [if_pos hb] at hc
    refine evc (fun k => by rw [r5S.f, r5f.f, w64 (x := (l.length : Int) - 1) (by omega) (by omega), sits_f, Option.bind_some, Option.bind_some, if_pos (isIn_iff.2 pp), sits_f, Option.bind_some]) ?_
    have ha : Ev (fun k => r5a.f k g l (isIn (s : Int) 0 100000)) 0 := by
      rw [show isIn (s : Int) 0 100000 = true from isIn_iff.2 (by omega)]
      refine evc (fun k => by rw [r5a.f]) ?_
      refine ebind hc ?_
      exact evc (fun k => by rw [if_pos rfl, if_pos rfl]) (Ev.now 0)
    refine ebind ha ?_
    refine evc (fun k => by rw [if_pos rfl]) ?_
    have hs2 : Ev (fun k => r5s.f k g l f (s : Int)) (lst (fun i => ((rd_T114 l f).f1.getD i []).contains ((s : Int) % (rd_T114 l f).f0)) (rd_T114 l f).f1.length) := by
      refine evc (fun k => by rw [r5s.f, if_pos pp.1, if_pos (show f < (l.length : Int) by omega)]) ?_
      exact rstruck_l0 (rd_T114 l f).f1 ff.2.1 ff.2.2.2 (rd_T114 l f).f0 (s : Int) (by omega) (by omega) hrows _ 0 (Nat.zero_add _)
    exact ebind hs2 (Ev.now _)
  refine ebind hst ?_
  have hll2 := lst_len (fun i => ((rd_T114 l f).f1.getD i []).contains ((s : Int) % (rd_T114 l f).f0)) (rd_T114 l f).f1.length
  refine ebind (where_f (lst (fun i => ((rd_T114 l f).f1.getD i []).contains ((s : Int) % (rd_T114 l f).f0)) (rd_T114 l f).f1.length) 0 (by omega)) ?_
  have e1 : (lst (hits l f ((s : Int) % (rd_T114 l f).f0)) 5).contains 0 = (lst (fun i => ((rd_T114 l f).f1.getD i []).contains ((s : Int) % (rd_T114 l f).f0)) (rd_T114 l f).f1.length).contains 0 := by
    rw [lst_zero _ _ (by omega), lst_zero _ _ (by omega)]
    rfl
  rw [e1]
  have hwh := wh_iff 0 (lst (fun i => ((rd_T114 l f).f1.getD i []).contains ((s : Int) % (rd_T114 l f).f0)) (rd_T114 l f).f1.length) 0 (by omega)
  generalize lst (fun i => ((rd_T114 l f).f1.getD i []).contains ((s : Int) % (rd_T114 l f).f0)) (rd_T114 l f).f1.length = X at *
  have e2 : decide (wh 0 0 X ≥ 0) = X.contains 0 := by
    rw [Bool.eq_iff_iff, decide_eq_true_iff]
    exact hwh
  rw [← e2]
  exact Ev.now _
/-- A note's wrongness at a stroke, of tones and gongs alone. -/
def cF (l : List S114) (ps : List S62) (piece : Int) (t gs : List Int) (k s : Nat) : Int := if (gs.contains (k : Int) && !gongF l ps piece (s : Int)) = true then 1000 else if t.getD k 0 = (rd_T62 ps piece).f1.getD s 0 then 0 else if t.getD k 0 - (rd_T62 ps piece).f1.getD s 0 = 1 ∨ t.getD k 0 - (rd_T62 ps piece).f1.getD s 0 = -1 then 1 else 1000
theorem cF_eq (piece : Int) (t gs : List Int) (lost wrong : Int) : (hcx g l ps piece t gs lost wrong).cost = cF l ps piece t gs := rfl
def couldV (c : Int) : Bool × Int := if c < 1000 then (true, c) else (false, 0)
theorem cF_cases (piece : Int) (t gs : List Int) (k s : Nat) : cF l ps piece t gs k s = 0 ∨ cF l ps piece t gs k s = 1 ∨ cF l ps piece t gs k s = 1000 := by
  unfold cF
  split
  · exact .inr (.inr rfl)
  · split
    · exact .inl rfl
    · split
      · exact .inr (.inl rfl)
      · exact .inr (.inr rfl)
variable {piece : Int} {t gs : List Int}
/-- What a note and a stroke tell of each other: by how much they differ, and what could tells. -/
theorem could_val (h : TF g l ps piece t gs) (k s : Nat) (hk : k < t.length) (hsp : s < (rd_T62 ps piece).f1.length) : ∃ o : Int, 0 ≤ o ∧ o ≤ 6 ∧ saronref00_Plain.f (wrap64 (t.getD k 0 - (rd_T62 ps piece).f1.getD s 0)) = some o ∧
    ((1 < o ∧ couldV (cF l ps piece t gs k s) = (false, 0)) ∨ (o ≤ 1 ∧ gs.contains (k : Int) = false ∧ couldV (cF l ps piece t gs k s) = (true, o)) ∨ (o ≤ 1 ∧ gs.contains (k : Int) = true ∧ gongF l ps piece (s : Int) = true ∧ couldV (cF l ps piece t gs k s) = (true, o)) ∨ (o ≤ 1 ∧ gs.contains (k : Int) = true ∧ gongF l ps piece (s : Int) = false ∧ couldV (cF l ps piece t gs k s) = (false, 0))) := by
  have pp := ppiece_f h.ok h.p0 h.p1
  have htv : 0 ≤ t.getD k 0 ∧ t.getD k 0 ≤ 6 := by
    rw [show t.getD k 0 = t[k] by simp [hk]]
    exact h.tv _ (List.getElem_mem hk)
  have hpv : 0 ≤ (rd_T62 ps piece).f1.getD s 0 ∧ (rd_T62 ps piece).f1.getD s 0 ≤ 6 := by
    rw [show (rd_T62 ps piece).f1.getD s 0 = (rd_T62 ps piece).f1[s] by simp [hsp]]
    exact pp.2.2 _ (List.getElem_mem hsp)
  have hc : cF l ps piece t gs k s = if (gs.contains (k : Int) && !gongF l ps piece (s : Int)) = true then 1000 else if t.getD k 0 = (rd_T62 ps piece).f1.getD s 0 then 0 else if t.getD k 0 - (rd_T62 ps piece).f1.getD s 0 = 1 ∨ t.getD k 0 - (rd_T62 ps piece).f1.getD s 0 = -1 then 1 else 1000 := rfl
  rw [hc]
  clear hc
  generalize gongF l ps piece (s : Int) = G at *
  generalize t.getD k 0 = x at *
  generalize (rd_T62 ps piece).f1.getD s 0 = y at *
  generalize gs.contains (k : Int) = q at *
  refine ⟨if x - y < 0 then - (x - y) else x - y, by split <;> omega, by split <;> omega, ?_, ?_⟩
  · rw [w64 (by omega) (by omega)]
    unfold saronref00_Plain.f
    split
    · rw [w64 (by omega) (by omega)]
    · rfl
  · obtain ⟨o, ho⟩ : ∃ o, o = if x - y < 0 then - (x - y) else x - y := ⟨_, rfl⟩
    rw [← ho]
    have ho2 : (x - y = o ∨ x - y = - o) ∧ 0 ≤ o := by
      rw [ho]
      split <;> omega
    clear ho
    by_cases c1 : o > 1
    · refine .inl ⟨c1, ?_⟩
      rw [if_neg (show ¬ x = y by omega), if_neg (show ¬ (x - y = 1 ∨ x - y = -1) by omega)]
      split <;> rfl
    · have e3 : (if x = y then (0 : Int) else if x - y = 1 ∨ x - y = -1 then 1 else 1000) = o := by
        by_cases c : x = y
        · rw [if_pos c]; omega
        · rw [if_neg c, if_pos (by omega)]; omega
      rw [e3]
      have e4 : couldV o = (true, o) := by unfold couldV; rw [if_pos (by omega)]
      right
      cases q
      · exact .inl ⟨by omega, rfl, by rw [Bool.false_and, if_neg (by simp), e4]⟩
      · right
        cases G
        · exact .inr ⟨by omega, rfl, rfl, rfl⟩
        · exact .inl ⟨by omega, rfl, rfl, by rw [show (if (true && !true) = true then (1000 : Int) else o) = o from if_neg (by simp), e4]⟩
/-! ### The table -/
theorem tb_bnd {c : Nat → Nat → Int} {b : Nat} (hc : ∀ k s, 0 ≤ c k s) : ∀ k s, 0 ≤ H.tbN c b k s ∧ H.tbN c b k s ≤ 100
  | 0, s => by
    unfold H.tbN
    have := hc 0 s
    split <;> omega
  | k + 1, s => by
    unfold H.tbN
    have h1 := hc (k + 1) s
    have h2 := H.minT_bnd (f := fun j => H.tbN c b k j) (a := 0) (fun i => (tb_bnd hc k i).1) s
    split <;> omega
def tbR (c : Nat → Nat → Int) (b k n : Nat) : List Int := (List.range n).map fun s => H.tbN c b k s
def tbT (c : Nat → Nat → Int) (b n m : Nat) : List (List Int) := (List.range m).map fun k => tbR c b k n
theorem tbR_succ (c : Nat → Nat → Int) (b k n : Nat) : tbR c b k (n + 1) = tbR c b k n ++ [H.tbN c b k n] := by
  unfold tbR
  rw [List.range_succ, List.map_append]
  rfl
theorem tbT_succ (c : Nat → Nat → Int) (b n m : Nat) : tbT c b n (m + 1) = tbT c b n m ++ [tbR c b m n] := by
  unfold tbT
  rw [List.range_succ, List.map_append]
  rfl
theorem tbR_len (c : Nat → Nat → Int) (b k n : Nat) : (tbR c b k n).length = n := by simp [tbR]
theorem tbT_len (c : Nat → Nat → Int) (b n m : Nat) : (tbT c b n m).length = m := by simp [tbT]
theorem tbR_at (c : Nat → Nat → Int) (b k n s : Nat) (h : s < n) : rd (tbR c b k n) (s : Int) = H.tbN c b k s := by rw [rd_nat]; simp [tbR, h]
theorem tbT_at (c : Nat → Nat → Int) (b n m k : Nat) (h : k < m) : rd_L1 (tbT c b n m) (k : Int) = tbR c b k n := by simp [rd_L1, tbT, h]
end
/-! ### The reference: where a note begins and ends -/
theorem lst_nil' (h : Nat → Bool) : ∀ n, (∀ i, i < n → h i = false) → lst h n = []
  | 0, _ => rfl
  | n + 1, hn => by
    unfold lst
    rw [if_neg (by rw [hn n (by omega)]; simp), lst_nil' h n (fun i hi => hn i (by omega))]
theorem lst_cong {h h' : Nat → Bool} : ∀ n, (∀ i, i < n → h i = h' i) → lst h n = lst h' n
  | 0, _ => rfl
  | n + 1, hn => by
    unfold lst
    rw [hn n (by omega), lst_cong n (fun i hi => hn i (by omega))]
theorem lst_cut (h : Nat → Bool) (n : Nat) : ∀ d, (∀ i, n ≤ i → h i = false) → lst h (n + d) = lst h n
  | 0, _ => rfl
  | d + 1, hn => by
    rw [show n + (d + 1) = n + d + 1 by omega]
    conv => lhs; unfold lst
    rw [if_neg (by rw [hn (n + d) (by omega)]; simp), lst_cut h n d hn]
theorem lst_same {h h' : Nat → Bool} {n m : Nat} (hnm : n ≤ m) (h0 : ∀ i, n ≤ i → h i = false) (h1 : ∀ i, i < n → h i = h' i) : lst h m = lst h' n := by
  obtain ⟨d, rfl⟩ := Nat.exists_eq_add_of_le hnm
  rw [lst_cut h n d h0, lst_cong n h1]
theorem lst_pos (h : Nat → Bool) (n : Nat) : 0 < (lst h n).length ↔ ∃ i, i < n ∧ h i = true := by
  constructor
  · intro hp
    obtain ⟨v, hv⟩ := List.exists_mem_of_length_pos hp
    have := lst_in h n v hv
    exact ⟨v.toNat, by omega, this.2.2⟩
  · rintro ⟨i, hi, hh⟩
    have := lst_has h n i
    rw [decide_eq_true hi, hh] at this
    exact List.length_pos_of_mem (List.contains_iff_mem.1 this)
theorem lst_step (h : Nat → Bool) (n : Nat) : lst h (n + 1) = if h n = true then lst h n ++ [(n : Int)] else lst h n := by conv => lhs; unfold lst
def endB (c : Nat → Nat → Int) (b m : Nat) (wrong lost : Int) (s : Nat) : Bool := decide (b ≤ s) && (decide (H.tbN c b (m - 1) s ≤ wrong) && decide ((s : Int) - b + 1 - m ≤ lost))
def begR (c : Nat → Nat → Int) (m n : Nat) (wrong lost : Int) (s : Nat) : Bool := decide (0 < (lst (endB c s m wrong lost) n).length)
section
variable {g : Int} {l : List S114} {ps : List S62} {piece : Int} {t gs : List Int}
/-! ### .. as the program has it -/
theorem cF_nn (k s : Nat) : 0 ≤ cF l ps piece t gs k s := by have := cF_cases (l := l) (ps := ps) piece t gs k s; omega
theorem cF_lt {k s : Nat} (h : cF l ps piece t gs k s < 1000) : cF l ps piece t gs k s < 100 := by have := cF_cases (l := l) (ps := ps) piece t gs k s; omega
theorem endB_iff (ht : 1 ≤ t.length) {wrong lost L : Int} (hw : wrong < 100) {b e : Nat} (hb : b < (rd_T62 ps piece).f1.length) (he : e < (rd_T62 ps piece).f1.length) : endB (cF l ps piece t gs) b t.length wrong lost e = true ↔ Lsn (hcx g l ps piece t gs L wrong) (cF l ps piece t gs) lost b e := by
  unfold endB Lsn
  rw [Bool.and_eq_true, Bool.and_eq_true, decide_eq_true_iff, decide_eq_true_iff, decide_eq_true_iff, H.tb_le (fun k s => cF_nn k s) (fun k s => cF_lt) _ _ _ hw]
  show b ≤ e ∧ (∃ x, H.Rd (cF l ps piece t gs) 0 b (t.length - 1) e x ∧ x ≤ wrong) ∧ (e : Int) - b + 1 - t.length ≤ lost ↔ b < (rd_T62 ps piece).f1.length ∧ e < (rd_T62 ps piece).f1.length ∧ (e : Int) ≤ (b : Int) + t.length - 1 + lost ∧ ∃ y, H.Rd (cF l ps piece t gs) 0 b (t.length - 1) e y ∧ y ≤ wrong
  constructor
  · rintro ⟨_, h1, h2⟩
    exact ⟨hb, he, by omega, h1⟩
  · rintro ⟨_, _, h2, y, h3, h4⟩
    have := h3.le
    exact ⟨by omega, ⟨y, h3, h4⟩, by omega⟩
theorem begR_iff (ht : 1 ≤ t.length) {wrong lost L : Int} (hw : wrong < 100) {b : Nat} (hb : b < (rd_T62 ps piece).f1.length) : begR (cF l ps piece t gs) t.length (rd_T62 ps piece).f1.length wrong lost b = true ↔ ∃ e, Lsn (hcx g l ps piece t gs L wrong) (cF l ps piece t gs) lost b e := by
  unfold begR
  rw [decide_eq_true_iff, lst_pos]
  constructor
  · rintro ⟨e, he, h⟩
    exact ⟨e, (endB_iff ht hw hb he).1 h⟩
  · rintro ⟨e, h⟩
    exact ⟨e, h.2.1, (endB_iff ht hw hb h.2.1).2 h⟩
theorem fits_eq (ht : 1 ≤ t.length) {wrong lost L : Int} (hl : 0 ≤ lost) (hw : wrong < 100) : decide (0 < (lst (begR (cF l ps piece t gs) t.length (rd_T62 ps piece).f1.length wrong lost) (rd_T62 ps piece).f1.length).length) = (hcx g l ps piece t gs L wrong).fitsB lost := by
  rw [Bool.eq_iff_iff, decide_eq_true_iff, lst_pos, fitsB_iff (x := hcx g l ps piece t gs L wrong) ht hl (show wrong < 1000 by omega)]
  constructor
  · rintro ⟨f, hf, h⟩
    obtain ⟨e, h⟩ := (begR_iff (g := g) (L := L) ht hw hf).1 h
    exact ⟨f, e, h⟩
  · rintro ⟨f, e, h⟩
    exact ⟨f, h.1, (begR_iff (g := g) (L := L) ht hw h.1).2 ⟨e, h⟩⟩
theorem cAt_first {c : Nat → Nat → Int} {j f d e : Nat} {y : Int} (h : H.Rd (H.cAt c 0 j) 0 f d e y) : f = j := by
  have h1 : H.cAt c 0 j 0 f < 1000 := by cases h <;> assumption
  exact (H.cAt_lt h1).2 rfl
theorem str0_eq (ht : 1 ≤ t.length) {wrong L : Int} (hl : 0 ≤ L) (hw : wrong < 100) (hp : (rd_T62 ps piece).f1.length ≤ 24) : lst (begR (cF l ps piece t gs) t.length (rd_T62 ps piece).f1.length wrong L) (rd_T62 ps piece).f1.length = strL (hcx g l ps piece t gs L wrong) 0 := by
  have hx : ∀ j : Nat, (strL (hcx g l ps piece t gs L wrong) 0).contains (j : Int) = true ↔ j < (rd_T62 ps piece).f1.length ∧ ∃ e, Lsn (hcx g l ps piece t gs L wrong) (cF l ps piece t gs) L j e := by
    intro j
    have := str_has (x := hcx g l ps piece t gs L wrong) (q := 0) (j := j) ht hp hl (show wrong < 1000 by omega)
    rw [show ((0 : Nat) : Int) = 0 from rfl] at this
    rw [this]
    show j < (rd_T62 ps piece).f1.length ∧ CanBe (hcx g l ps piece t gs L wrong) 0 j ↔ _
    constructor
    · rintro ⟨hj, f, e, h⟩
      obtain rfl := cAt_first h.2.2.2.choose_spec.1
      exact ⟨hj, e, lsn_cost h⟩
    · rintro ⟨hj, e, h⟩
      exact ⟨hj, lsn_first h⟩
  symm
  unfold strL at hx ⊢
  have hm := fun j => hx j
  simp only [lst_has] at hm
  refine lst_same hp (fun i hi => ?_) (fun i hi => ?_)
  · cases hc : metH (fun k => (hcx g l ps piece t gs L wrong).begB (mayAt 0 k) (hcx g l ps piece t gs L wrong).lost) (hcx g l ps piece t gs L wrong).p.length (hcx g l ps piece t gs L wrong).p.length 0 i
    · rfl
    · rw [metH_end, Bool.and_eq_true, decide_eq_true_iff] at hc
      have : i < (rd_T62 ps piece).f1.length := hc.1
      omega
  · have h1 := hm i
    rw [decide_eq_true (show i < 24 by omega), Bool.true_and] at h1
    rw [Bool.eq_iff_iff, h1, begR_iff (g := g) (L := L) ht hw hi]
    exact ⟨fun h => h.2, fun h => ⟨hi, h⟩⟩
end
end Go.Proofs.YtfdenclnneigfaaDoor.Q
