import Derived.Test.YtfdenclnneigfaaDoorQA9
import Derived.Test.YtfdenclnneigfaaDoorQR
import Derived.Test.YtfdenclnneigfaaDoorC2
import Derived.Test.YtfdenclnneigfaaDoorCT
set_option linter.unusedVariables false
set_option linter.unusedSimpArgs false
namespace Go.Proofs.YtfdenclnneigfaaDoor.Q
open Go.RowKit Go.Proofs.YtfdenclnneigfaaDoorW.PrintWords Go.Proofs.YtfdenclnneigfaaDoorW.PrintLast Go.Proofs.YtfdenclnneigfaaDoor.PRaspKeys Go.Proofs.YtfdenclnneigfaaDoor.R
/-! ### The reference: notes, and what a note can be -/
theorem mn_min (a b : Int) : mn a b = min a b := by unfold mn; split <;> omega
section
variable {g : Int} {l : List S114} {ps : List S62}
theorem pbook_iff : hbookOk g l ps = true ↔ bookOk g l = true ∧ (1 ≤ (ps.length : Int) ∧ (ps.length : Int) ≤ 6) ∧ ∀ p ∈ ps, pieceOk l.length p = true := by
  unfold hbookOk
  rw [Bool.and_eq_true, Bool.and_eq_true, isIn_iff, List.all_eq_true, and_assoc]
theorem ppiece_f (hk : hbookOk g l ps = true) {n : Int} (h0 : 0 ≤ n) (h1 : n < ps.length) : (0 ≤ (rd_T62 ps n).f0 ∧ (rd_T62 ps n).f0 ≤ (l.length : Int) - 1) ∧ (1 ≤ ((rd_T62 ps n).f1.length : Int) ∧ ((rd_T62 ps n).f1.length : Int) ≤ 24) ∧ ∀ y ∈ (rd_T62 ps n).f1, 0 ≤ y ∧ y ≤ 6 := by
  obtain ⟨m, rfl⟩ := Int.eq_ofNat_of_zero_le h0
  rw [rdT62 ps m (by omega)]
  have h := (pbook_iff.1 hk).2.2 _ (List.getElem_mem (show m < ps.length by omega))
  unfold pieceOk at h
  rw [Bool.and_eq_true, isIn_iff, tonesB_iff] at h
  exact ⟨h.1, h.2.1, h.2.2⟩
theorem rnote_f (t gs : List Int) (lost wrong : Int) (ht : t.length ≤ 9223372036854775807) (hg : gs.length ≤ 9223372036854775807) : Ev (fun k => rN.f k t gs lost wrong) (noteB t gs lost wrong) := by
  refine evc (fun k => by rw [rN.f]) ?_
  refine ebind (rtones_f t 1 ht) ?_
  unfold noteB
  cases c1 : tonesB t 1
  · refine evc (fun k => by rw [if_neg (by simp)]) ?_
    rw [Bool.false_and, Bool.false_and, Bool.and_false]
    exact Ev.now false
  · refine evc (fun k => by rw [if_pos rfl]) ?_
    refine ebind (rgrows_f (t.length : Int) gs hg) ?_
    cases c2 : gr (t.length : Int) (-1) gs
    · exact evc (fun k => by rw [if_neg (by simp)]) (Ev.now false)
    · refine evc (fun k => by rw [if_pos rfl, sits_f, Option.bind_some]) ?_
      cases c3 : isIn lost 0 6
      · exact evc (fun k => by rw [if_neg (by simp)]) (Ev.now false)
      · rw [Bool.true_and, Bool.true_and, Bool.true_and]
        exact evc (fun k => by rw [if_pos rfl, sits_f, Option.bind_some]) (Ev.now _)
/-- A book, a piece of it, and tones that can be asked about. -/
structure TF (g : Int) (l : List S114) (ps : List S62) (piece : Int) (t gs : List Int) : Prop where
  ok : hbookOk g l ps = true
  p0 : 0 ≤ piece
  p1 : piece < ps.length
  t2 : t.length ≤ 24
  tv : ∀ y ∈ t, 0 ≤ y ∧ y ≤ 6
  gl : gs.length ≤ 9223372036854775807
def hcx (g : Int) (l : List S114) (ps : List S62) (piece : Int) (t gs : List Int) (lost wrong : Int) : HC := HC.mk g none 0 l none 0 ps piece none 0 t none 0 gs lost wrong
def gongF (l : List S114) (ps : List S62) (piece s : Int) : Bool := (lst (hits l (rd_T62 ps piece).f0 (s % (rd_T114 l (rd_T62 ps piece).f0).f0)) 5).contains 0
theorem rdT114 (l : List S114) (m : Nat) (h : m < l.length) : rd_T114 l (m : Int) = l[m] := by simp [rd_T114, h]
theorem lst_zero (h : Nat → Bool) (n : Nat) (hn : 1 ≤ n) : (lst h n).contains 0 = h 0 := by
  have := lst_has h n 0
  rw [show ((0 : Nat) : Int) = 0 from rfl] at this
  rw [this, decide_eq_true (by omega), Bool.true_and]
/-- A form's numbers. -/
theorem form_f (hk : bookOk g l = true) {f : Int} (h0 : 0 ≤ f) (h1 : f ≤ (l.length : Int) - 1) : (2 ≤ (rd_T114 l f).f0 ∧ (rd_T114 l f).f0 ≤ 32) ∧ ((rd_T114 l f).f1.length : Int) = g ∧ 1 ≤ g ∧ g ≤ 5 := by
  obtain ⟨m, rfl⟩ := Int.eq_ofNat_of_zero_le h0
  unfold bookOk at hk
  rw [Bool.and_eq_true, Bool.and_eq_true, isIn_iff, isIn_iff, List.all_eq_true] at hk
  have hf := hk.2 _ (List.getElem_mem (show m < l.length by omega))
  unfold formOk at hf
  rw [Bool.and_eq_true, Bool.and_eq_true, isIn_iff, beq_iff_eq] at hf
  rw [rdT114 l m (by omega)]
  exact ⟨hf.1, hf.2.1, hk.1.1⟩
theorem rstruck_l0 (rows : List (List Int)) (hg : (rows.length : Int) = g) (hg5 : g ≤ 5) (b beat : Int) (hb : 1 ≤ b) (hbt : 0 ≤ beat) (hr : ∀ r ∈ rows, r.length ≤ 9223372036854775807) : ∀ (d n : Nat), n + d = rows.length →
    Ev (fun k => r5s.l0 k beat (lst (fun i => (rows.getD i []).contains (beat % b)) n) (n : Int) g l b rows) (lst (fun i => (rows.getD i []).contains (beat % b)) rows.length)
  | 0, n, hd => by
    obtain rfl : n = rows.length := by omega
    exact Ev.step (fun k => by rw [r5s.l0, if_neg (by omega)]) (Ev.now _)
  | d + 1, n, hd => by
    have hn : n < rows.length := by omega
    have hll := lst_len (fun i => (rows.getD i []).contains (beat % b)) n
    have e0 : rd_L1 rows (n : Int) = rows.getD n [] := by simp [rd_L1]
    have e1 : rows.getD n [] = rows[n] := by simp [hn]
    have e2 : Int.tmod beat b = beat % b := Int.tmod_eq_emod_of_nonneg hbt
    have ew : wrap64 ((n : Int) + 1) = ((n + 1 : Nat) : Int) := by rw [w64 (by omega) (by omega)]; omega
    have ih := rstruck_l0 rows hg hg5 b beat hb hbt hr d (n + 1) (by omega)
    refine Ev.step (fun k => by rw [r5s.l0, if_pos (by omega), if_pos (by omega), if_pos (by omega), if_neg (by omega), e0, e2]) ?_
    refine ebind (where_f (rows.getD n []) (beat % b) (by rw [e1]; exact hr _ (List.getElem_mem hn))) ?_
    have hwh := wh_iff (beat % b) (rows.getD n []) 0 (by omega)
    by_cases c : wh (beat % b) 0 (rows.getD n []) ≥ 0
    · have h1 := hwh.1 c
      have e3 : lst (fun i => (rows.getD i []).contains (beat % b)) (n + 1) = lst (fun i => (rows.getD i []).contains (beat % b)) n ++ [(n : Int)] := by
        conv => lhs; unfold lst
        rw [if_pos h1]
      rw [e3] at ih
      exact evc (fun k => by rw [if_pos c, if_pos (by omega), ew]) ih
    · have e3 : lst (fun i => (rows.getD i []).contains (beat % b)) (n + 1) = lst (fun i => (rows.getD i []).contains (beat % b)) n := by
        conv => lhs; unfold lst
        rw [if_neg (fun h => c (hwh.2 h))]
      rw [e3] at ih
      exact evc (fun k => by rw [if_neg c, ew]) ih
theorem rgong_f (hk : hbookOk g l ps = true) (hs : Small l) {piece : Int} (h0 : 0 ≤ piece) (h1 : piece < ps.length) {s : Nat} (hs24 : s ≤ 24) : Ev (fun k => rG.f k g l ps piece (s : Int)) (gongF l ps piece (s : Int)) := by
  have hb := (pbook_iff.1 hk).1
  have pp := (ppiece_f hk h0 h1).1
  unfold gongF
  refine evc (fun k => by rw [rG.f, if_pos h0, if_pos h1]) ?_
  generalize (rd_T62 ps piece).f0 = f at *
  have ff := form_f hb pp.1 pp.2
  have hll : l.length ≤ 4 := by
    unfold bookOk at hb
    rw [Bool.and_eq_true, Bool.and_eq_true, isIn_iff, isIn_iff] at hb
    omega
  have hrows : ∀ r ∈ (rd_T114 l f).f1, r.length ≤ 9223372036854775807 := by
    obtain ⟨m, rfl⟩ := Int.eq_ofNat_of_zero_le pp.1
    rw [rdT114 l m (by omega)]
    exact (hs.2 _ (List.getElem_mem (show m < l.length by omega))).2
  have hst : Ev (fun k => r5S.f k g l f (s : Int)) (lst (fun i => ((rd_T114 l f).f1.getD i []).contains ((s : Int) % (rd_T114 l f).f0)) (rd_T114 l f).f1.length, 0) := by
    have hc := rcheck_f g l hs
    unfold checkE at hc
    rw [if_pos hb] at hc
    refine evc (fun k => by rw [r5S.f, r5f.f, w64 (x := (l.length : Int) - 1) (by omega) (by omega), sits_f, Option.bind_some, Option.bind_some, if_pos (isIn_iff.2 pp), sits_f, Option.bind_some]) ?_
    have ha : Ev (fun k => r5a.f k g l (isIn (s : Int) 0 100000)) 0 := by
      rw [show isIn (s : Int) 0 100000 = true from isIn_iff.2 (by omega)]
      refine evc (fun k => by rw [r5a.f]) ?_
      refine ebind hc ?_
      exact evc (fun k => by rw [if_pos rfl, if_pos rfl]) (Ev.now 0)
    refine ebind ha ?_
    refine evc (fun k => by rw [if_pos rfl]) ?_
    have hs2 : Ev (fun k => r5s.f k g l f (s : Int)) (lst (fun i => ((rd_T114 l f).f1.getD i []).contains ((s : Int) % (rd_T114 l f).f0)) (rd_T114 l f).f1.length) := by
      refine evc (fun k => by rw [r5s.f, if_pos pp.1, if_pos (show f < (l.length : Int) by omega)]) ?_
      exact rstruck_l0 (rd_T114 l f).f1 ff.2.1 ff.2.2.2 (rd_T114 l f).f0 (s : Int) (by omega) (by omega) hrows _ 0 (Nat.zero_add _)
    exact ebind hs2 (Ev.now _)
  refine ebind hst ?_
  have hll2 := lst_len (fun i => ((rd_T114 l f).f1.getD i []).contains ((s : Int) % (rd_T114 l f).f0)) (rd_T114 l f).f1.length
  refine ebind (where_f (lst (fun i => ((rd_T114 l f).f1.getD i []).contains ((s : Int) % (rd_T114 l f).f0)) (rd_T114 l f).f1.length) 0 (by omega)) ?_
  have e1 : (lst (hits l f ((s : Int) % (rd_T114 l f).f0)) 5).contains 0 = (lst (fun i => ((rd_T114 l f).f1.getD i []).contains ((s : Int) % (rd_T114 l f).f0)) (rd_T114 l f).f1.length).contains 0 := by
    rw [lst_zero _ _ (by omega), lst_zero _ _ (by omega)]
    rfl
  rw [e1]
  have hwh := wh_iff 0 (lst (fun i => ((rd_T114 l f).f1.getD i []).contains ((s : Int) % (rd_T114 l f).f0)) (rd_T114 l f).f1.length) 0 (by omega)
  generalize lst (fun i => ((rd_T114 l f).f1.getD i []).contains ((s : Int) % (rd_T114 l f).f0)) (rd_T114 l f).f1.length = X at *
  have e2 : decide (wh 0 0 X ≥ 0) = X.contains 0 := by
    rw [Bool.eq_iff_iff, decide_eq_true_iff]
    exact hwh
  rw [← e2]
  exact Ev.now _
/-- A note's wrongness at a stroke, of tones and gongs alone. -/
def cF (l : List S114) (ps : List S62) (piece : Int) (t gs : List Int) (k s : Nat) : Int := if (gs.contains (k : Int) && !gongF l ps piece (s : Int)) = true then 1000 else if t.getD k 0 = (rd_T62 ps piece).f1.getD s 0 then 0 else if t.getD k 0 - (rd_T62 ps piece).f1.getD s 0 = 1 ∨ t.getD k 0 - (rd_T62 ps piece).f1.getD s 0 = -1 then 1 else 1000
theorem cF_eq (piece : Int) (t gs : List Int) (lost wrong : Int) : (hcx g l ps piece t gs lost wrong).cost = cF l ps piece t gs := rfl
def couldV (c : Int) : Bool × Int := if c < 1000 then (true, c) else (false, 0)
theorem cF_cases (piece : Int) (t gs : List Int) (k s : Nat) : cF l ps piece t gs k s = 0 ∨ cF l ps piece t gs k s = 1 ∨ cF l ps piece t gs k s = 1000 := by
  unfold cF
  split
  · exact .inr (.inr rfl)
  · split
    · exact .inl rfl
    · split
      · exact .inr (.inl rfl)
      · exact .inr (.inr rfl)
variable {piece : Int} {t gs : List Int}
theorem could_f (hs : Small l) (h : TF g l ps piece t gs) (lost wrong : Int) (k s : Nat) (hk : k < t.length) (hsp : s < (rd_T62 ps piece).f1.length) : Ev (fun n => rC.f n g l ps piece t gs lost wrong (k : Int) (s : Int)) (couldV (cF l ps piece t gs k s)) := by
  have pp := ppiece_f h.ok h.p0 h.p1
  have hgong := rgong_f h.ok hs h.p0 h.p1 (s := s) (by omega)
  have hwh := wh_iff (k : Int) gs 0 (by omega)
  have htv : 0 ≤ t.getD k 0 ∧ t.getD k 0 ≤ 6 := by
    rw [show t.getD k 0 = t[k] by simp [hk]]
    exact h.tv _ (List.getElem_mem hk)
  have hpv : 0 ≤ (rd_T62 ps piece).f1.getD s 0 ∧ (rd_T62 ps piece).f1.getD s 0 ≤ 6 := by
    rw [show (rd_T62 ps piece).f1.getD s 0 = (rd_T62 ps piece).f1[s] by simp [hsp]]
    exact pp.2.2 _ (List.getElem_mem hsp)
  have e1 : rd t (k : Int) = t.getD k 0 := rd_nat _ _
  have e2 : rd (rd_T62 ps piece).f1 (s : Int) = (rd_T62 ps piece).f1.getD s 0 := rd_nat _ _
  have hc : cF l ps piece t gs k s = if (gs.contains (k : Int) && !gongF l ps piece (s : Int)) = true then 1000 else if t.getD k 0 = (rd_T62 ps piece).f1.getD s 0 then 0 else if t.getD k 0 - (rd_T62 ps piece).f1.getD s 0 = 1 ∨ t.getD k 0 - (rd_T62 ps piece).f1.getD s 0 = -1 then 1 else 1000 := rfl
  rw [hc]
  clear hc
  generalize gongF l ps piece (s : Int) = G at *
  refine evc (fun n => by rw [rC.f, if_pos (by omega), if_pos (by omega), if_pos h.p0, if_pos h.p1, if_pos (by omega), if_pos (by omega), e1, e2]) ?_
  generalize t.getD k 0 = x at *
  generalize (rd_T62 ps piece).f1.getD s 0 = y at *
  have hpl : saronref00_Plain.f (wrap64 (x - y)) = some (if x - y < 0 then - (x - y) else x - y) := by
    rw [w64 (by omega) (by omega)]
    unfold saronref00_Plain.f
    split
    · rw [w64 (by omega) (by omega)]
    · rfl
  obtain ⟨o, ho⟩ : ∃ o, o = if x - y < 0 then - (x - y) else x - y := ⟨_, rfl⟩
  rw [← ho] at hpl
  have ho2 : (x - y = o ∨ x - y = - o) ∧ 0 ≤ o := by
    rw [ho]
    split <;> omega
  clear ho
  refine evc (fun n => by rw [hpl, Option.bind_some]) ?_
  by_cases c1 : o > 1
  · refine evc (fun n => by rw [if_pos c1]) ?_
    have : couldV (if (gs.contains (k : Int) && !G) = true then 1000 else if x = y then 0 else if x - y = 1 ∨ x - y = -1 then 1 else 1000) = (false, 0) := by
      rw [if_neg (show ¬ x = y by omega), if_neg (show ¬ (x - y = 1 ∨ x - y = -1) by omega)]
      split <;> rfl
    rw [this]
    exact Ev.now _
  · refine evc (fun n => by rw [if_neg c1]) ?_
    refine ebind (where_f gs (k : Int) h.gl) ?_
    have e3 : (if x = y then (0 : Int) else if x - y = 1 ∨ x - y = -1 then 1 else 1000) = o := by
      by_cases c : x = y
      · rw [if_pos c]; omega
      · rw [if_neg c, if_pos (by omega)]; omega
    rw [e3]
    have e4 : couldV o = (true, o) := by unfold couldV; rw [if_pos (by omega)]
    by_cases cg : wh (k : Int) 0 gs ≥ 0
    · refine evc (fun n => by rw [if_pos cg]) ?_
      refine ebind hgong ?_
      rw [hwh.1 cg, Bool.true_and]
      cases G
      · rw [show couldV (if (!false) = true then 1000 else o) = (false, 0) from rfl]
        exact evc (fun n => by rw [if_neg (by simp)]) (Ev.now _)
      · rw [show (if (!true) = true then (1000 : Int) else o) = o from if_neg (by simp), e4]
        exact evc (fun n => by rw [if_pos rfl]) (Ev.now _)
    · have : gs.contains (k : Int) = false := by
        cases hq : gs.contains (k : Int)
        · rfl
        · exact absurd (hwh.2 hq) (by omega)
      rw [this, Bool.false_and, if_neg (by simp), e4]
      exact evc (fun n => by rw [if_neg cg]) (Ev.now _)
/-! ### The table -/
theorem tb_bnd {c : Nat → Nat → Int} {b : Nat} (hc : ∀ k s, 0 ≤ c k s) : ∀ k s, 0 ≤ H.tbN c b k s ∧ H.tbN c b k s ≤ 100
  | 0, s => by
    unfold H.tbN
    have := hc 0 s
    split <;> omega
  | k + 1, s => by
    unfold H.tbN
    have h1 := hc (k + 1) s
    have h2 := H.minT_bnd (f := fun j => H.tbN c b k j) (a := 0) (fun i => (tb_bnd hc k i).1) s
    split <;> omega
def tbR (c : Nat → Nat → Int) (b k n : Nat) : List Int := (List.range n).map fun s => H.tbN c b k s
def tbT (c : Nat → Nat → Int) (b n m : Nat) : List (List Int) := (List.range m).map fun k => tbR c b k n
theorem tbR_succ (c : Nat → Nat → Int) (b k n : Nat) : tbR c b k (n + 1) = tbR c b k n ++ [H.tbN c b k n] := by
  unfold tbR
  rw [List.range_succ, List.map_append]
  rfl
theorem tbT_succ (c : Nat → Nat → Int) (b n m : Nat) : tbT c b n (m + 1) = tbT c b n m ++ [tbR c b m n] := by
  unfold tbT
  rw [List.range_succ, List.map_append]
  rfl
theorem tbR_len (c : Nat → Nat → Int) (b k n : Nat) : (tbR c b k n).length = n := by simp [tbR]
theorem tbT_len (c : Nat → Nat → Int) (b n m : Nat) : (tbT c b n m).length = m := by simp [tbT]
theorem tbR_at (c : Nat → Nat → Int) (b k n s : Nat) (h : s < n) : rd (tbR c b k n) (s : Int) = H.tbN c b k s := by rw [rd_nat]; simp [tbR, h]
theorem tbT_at (c : Nat → Nat → Int) (b n m k : Nat) (h : k < m) : rd_L1 (tbT c b n m) (k : Int) = tbR c b k n := by simp [rd_L1, tbT, h]
section
variable {P : List Int} {c : Nat → Nat → Int} {b n : Nat} {lost wrong : Int} {R : List (List Int)}
theorem table_l2 (hc : ∀ k s, c k s = 0 ∨ c k s = 1 ∨ c k s = 1000) (hn : n ≤ 24) (m s : Nat) (hm : m < 24) (hs : s < n) (h1 : c (m + 1) s < 1000)
    (hnext : Ev (fun k => rT.l1 k piece (b : Int) (n : Int) (tbT c b n (m + 1)) ((m + 1 : Nat) : Int) (tbR c b (m + 1) (s + 1)) ((s + 1 : Nat) : Int) g l ps t gs lost wrong) R) : ∀ (d j : Nat), j + d = s →
    Ev (fun k => rT.l2 k piece (b : Int) (n : Int) (tbT c b n (m + 1)) ((m + 1 : Nat) : Int) (tbR c b (m + 1) s) (s : Int) (c (m + 1) s) (min 100 (H.minT (fun j => H.tbN c b m j) 0 j + c (m + 1) s)) (j : Int) g l ps t gs lost wrong) R
  | 0, j, hd => by
    obtain rfl : j = s := by omega
    have ew : wrap64 ((j : Int) + 1) = ((j + 1 : Nat) : Int) := by rw [w64 (by omega) (by omega)]; omega
    have e1 : min 100 (H.minT (fun j => H.tbN c b m j) 0 j + c (m + 1) j) = H.tbN c b (m + 1) j := by
      conv => rhs; unfold H.tbN
      rw [if_pos (by have := hc (m + 1) j; omega)]
    rw [e1]
    rw [tbR_succ] at hnext
    exact Ev.step (fun k => by rw [rT.l2, if_neg (by omega), if_pos (by rw [tbR_len]; omega), ew]) hnext
  | d + 1, j, hd => by
    have ih := table_l2 hc hn m s hm hs h1 hnext d (j + 1) (by omega)
    have ew : wrap64 ((j : Int) + 1) = ((j + 1 : Nat) : Int) := by rw [w64 (by omega) (by omega)]; omega
    have ek : wrap64 (((m + 1 : Nat) : Int) - 1) = (m : Int) := by rw [w64 (by omega) (by omega)]; omega
    have hb := tb_bnd (b := b) (fun k s => (show 0 ≤ c k s by have := hc k s; omega)) m j
    have hc1 := hc (m + 1) s
    have e2 : wrap64 (H.tbN c b m j + c (m + 1) s) = H.tbN c b m j + c (m + 1) s := w64 (by omega) (by omega)
    have e3 : min (min 100 (H.minT (fun j => H.tbN c b m j) 0 j + c (m + 1) s)) (H.tbN c b m j + c (m + 1) s) = min 100 (H.minT (fun j => H.tbN c b m j) 0 (j + 1) + c (m + 1) s) := by
      conv => rhs; unfold H.minT
      rw [Nat.zero_add]
      omega
    rw [← e3] at ih
    refine Ev.step (fun k => by rw [rT.l2, if_pos (by omega), ek, if_pos (by omega), if_pos (by rw [tbT_len]; omega), if_pos (by omega), tbT_at _ _ _ _ _ (by omega), if_pos (by rw [tbR_len]; omega), tbR_at _ _ _ _ _ (by omega), e2, mn_min, ew]) ih
theorem table_l1 (hs : Small l) (h : TF g l ps piece t gs) (b : Nat) (lost wrong : Int) (m : Nat) (hm : m < t.length)
    (hnext : Ev (fun k => rT.l0 k piece (b : Int) ((rd_T62 ps piece).f1.length : Int) (tbT (cF l ps piece t gs) b (rd_T62 ps piece).f1.length (m + 1)) ((m + 1 : Nat) : Int) g l ps t gs lost wrong) R) : ∀ (d s : Nat), s + d = (rd_T62 ps piece).f1.length →
    Ev (fun k => rT.l1 k piece (b : Int) ((rd_T62 ps piece).f1.length : Int) (tbT (cF l ps piece t gs) b (rd_T62 ps piece).f1.length m) (m : Int) (tbR (cF l ps piece t gs) b m s) (s : Int) g l ps t gs lost wrong) R
  | 0, s, hd => by
    obtain rfl : s = (rd_T62 ps piece).f1.length := by omega
    have ht2 := h.t2
    have ew : wrap64 ((m : Int) + 1) = ((m + 1 : Nat) : Int) := by rw [w64 (by omega) (by omega)]; omega
    rw [tbT_succ] at hnext
    exact Ev.step (fun k => by rw [rT.l1, if_neg (by omega), if_pos (by rw [tbT_len]; omega), ew]) hnext
  | d + 1, s, hd => by
    have ih := table_l1 hs h b lost wrong m hm hnext d (s + 1) (by omega)
    have ht2 := h.t2
    have hp24 := (ppiece_f h.ok h.p0 h.p1).2.1
    have hsp : s < (rd_T62 ps piece).f1.length := by omega
    have hcs := cF_cases (l := l) (ps := ps) piece t gs
    have hcc := hcs m s
    have ew : wrap64 ((s : Int) + 1) = ((s + 1 : Nat) : Int) := by rw [w64 (by omega) (by omega)]; omega
    have hcd := could_f hs h lost wrong m s hm hsp
    generalize cF l ps piece t gs = c at *
    generalize (rd_T62 ps piece).f1.length = n at *
    have hl2 : (tbR c b m s).length < 17592186044416 := by rw [tbR_len]; omega
    have ih2 := ih
    rw [tbR_succ] at ih2
    refine Ev.step (fun k => by rw [rT.l1, if_pos (by omega)]) ?_
    refine ebind hcd ?_
    unfold couldV
    by_cases c1 : c m s < 1000
    · rw [if_pos c1]
      refine evc (fun k => by rw [if_pos rfl]) ?_
      match m with
      | 0 =>
        refine evc (fun k => by rw [if_pos (by omega)]) ?_
        by_cases cb : s = b
        · have e1 : H.tbN c b 0 s = c 0 s := by unfold H.tbN; rw [if_pos ⟨by omega, cb⟩]
          rw [e1] at ih2
          exact Ev.step (fun k => by rw [rT.j2, if_pos (by rw [beq_iff_eq]; omega), if_pos hl2, ew]) ih2
        · have e1 : H.tbN c b 0 s = 100 := by unfold H.tbN; rw [if_neg (fun h => cb h.2)]
          rw [e1] at ih2
          exact Ev.step (fun k => by rw [rT.j2, if_neg (by rw [beq_iff_eq]; omega), if_neg (by omega), if_pos hl2, ew]) ih2
      | m + 1 =>
        refine evc (fun k => by rw [if_neg (by omega)]) ?_
        have h2 := table_l2 (g := g) (l := l) (ps := ps) (piece := piece) (t := t) (gs := gs) (lost := lost) (wrong := wrong) (R := R) (b := b) hcs (by omega) m s (by omega) hsp c1 ih s 0 (by omega)
        rw [show min 100 (H.minT (fun j => H.tbN c b m j) 0 0 + c (m + 1) s) = 100 by unfold H.minT; omega] at h2
        exact Ev.step (fun k => by rw [rT.j2, if_neg (by simp), if_pos (by omega)]; rfl) h2
    · rw [if_neg c1]
      have e1 : H.tbN c b m s = 100 := by
        match m with
        | 0 => unfold H.tbN; rw [if_neg (fun h => by omega)]
        | m + 1 => unfold H.tbN; rw [if_neg (by omega)]
      rw [e1] at ih2
      exact evc (fun k => by rw [if_neg (by simp), if_pos hl2, ew]) ih2
theorem table_l0 (hs : Small l) (h : TF g l ps piece t gs) (b : Nat) (lost wrong : Int) : ∀ (d m : Nat), m + d = t.length →
    Ev (fun k => rT.l0 k piece (b : Int) ((rd_T62 ps piece).f1.length : Int) (tbT (cF l ps piece t gs) b (rd_T62 ps piece).f1.length m) (m : Int) g l ps t gs lost wrong) (tbT (cF l ps piece t gs) b (rd_T62 ps piece).f1.length t.length)
  | 0, m, hd => by
    obtain rfl : m = t.length := by omega
    exact Ev.step (fun k => by rw [rT.l0, if_neg (by omega)]) (Ev.now _)
  | d + 1, m, hd => by
    have h1 := table_l1 hs h b lost wrong m (by omega) (table_l0 hs h b lost wrong d (m + 1) (by omega)) (rd_T62 ps piece).f1.length 0 (Nat.zero_add _)
    exact Ev.step (fun k => by rw [rT.l0, if_pos (by omega)]; rfl) h1
theorem table_f (hs : Small l) (h : TF g l ps piece t gs) (b : Nat) (lost wrong : Int) : Ev (fun k => rT.f k g l ps piece t gs lost wrong (b : Int)) (tbT (cF l ps piece t gs) b (rd_T62 ps piece).f1.length t.length) := by
  refine evc (fun k => by rw [rT.f, if_pos h.p0, if_pos h.p1]) ?_
  exact table_l0 hs h b lost wrong t.length 0 (Nat.zero_add _)
end
end
end Go.Proofs.YtfdenclnneigfaaDoor.Q
