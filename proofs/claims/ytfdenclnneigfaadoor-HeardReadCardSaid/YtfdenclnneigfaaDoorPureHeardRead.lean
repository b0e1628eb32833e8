import Derived.Test.YtfdenclnneigfaaDoorQR
import Derived.Test.YtfdenclnneigfaaDoorQS
import Derived.Test.YtfdenclnneigfaaDoorQFA
import Derived.Test.YtfdenclnneigfaaDoorLRead
set_option linter.unusedVariables false
set_option linter.unusedSimpArgs false
namespace Go.Proofs.YtfdenclnneigfaaDoor
open Go.RowKit PRaspKeys R Q Go.Proofs.YtfdenclnneigfaaDoorW.PrintWords Go.Proofs.YtfdenclnneigfaaDoorW.PrintLast
theorem mn_min (a b : Int) : mn a b = min a b := by unfold mn; split <;> omega
section
variable {g : Int} {l : List S114} {ps : List S62} {piece : Int} {t gs : List Int} {lost wrong : Int}
/-- The book, the piece and the note. -/
def HeardRead.hc (g : Int) (l : List S114) (ps : List S62) (piece : Int) (t gs : List Int) (lost wrong : Int) : HC := HC.mk g none 0 l none 0 ps piece none 0 t none 0 gs lost wrong
structure HeardRead.Fact (g : Int) (l : List S114) (ps : List S62) (piece : Int) (t gs : List Int) (lost wrong : Int) : Prop where
  ok : hbookOk g l ps = true
  p0 : 0 ≤ piece
  p1 : piece < ps.length
  t1 : 1 ≤ t.length
  t2 : t.length ≤ 24
  n0 : 0 ≤ lost
  n1 : lost ≤ 6
  w0 : 0 ≤ wrong
  w1 : wrong ≤ 6
  tv : ∀ y ∈ t, 0 ≤ y ∧ y ≤ 6
  gl : gs.length ≤ 9223372036854775807
  note : noteB t gs lost wrong = true
theorem HeardRead.fact (hk : hbookOk g l ps = true) (p0 : 0 ≤ piece) (p1 : piece < ps.length) (hn : noteB t gs lost wrong = true) (hg : gs.length ≤ 9223372036854775807) : HeardRead.Fact g l ps piece t gs lost wrong := by
  have h := hn
  unfold noteB at h
  rw [Bool.and_eq_true, Bool.and_eq_true, Bool.and_eq_true, isIn_iff, isIn_iff, tonesB_iff] at h
  obtain ⟨_, ⟨⟨a1, a2⟩, b1, b2⟩, c1, c2⟩ := h
  exact ⟨hk, p0, p1, by omega, by omega, b1, b2, c1, c2, a2, hg, hn⟩
theorem HeardRead.ask0 (h : HeardRead.Fact g l ps piece t gs lost wrong) : askE g l ps (okAsk ps piece t gs lost wrong) = 0 := by
  unfold askE
  rw [if_pos h.ok, if_pos]
  unfold okAsk
  have := h.p0
  have := h.p1
  rw [h.note, isIn_iff.2 (by omega)]
  rfl
theorem HeardRead.l1_ev (h : HeardRead.Fact g l ps piece t gs lost wrong) (x7 : Bool) (q : Nat) (hq : q < t.length) (R : Bool)
    (hn : Ev (fun k => saronlaw09_HeardRead.l0 k piece x7 (strL (HeardRead.hc g l ps piece t gs lost wrong) 0) (rd_T62 ps piece).f1 ((q + 1 : Nat) : Int) g l ps t gs lost wrong) R) : ∀ (d i : Nat), i + d = (strL (HeardRead.hc g l ps piece t gs lost wrong) (q : Int)).length →
    Ev (fun k => saronlaw09_HeardRead.l1 k piece x7 (strL (HeardRead.hc g l ps piece t gs lost wrong) 0) (rd_T62 ps piece).f1 (q : Int) (strL (HeardRead.hc g l ps piece t gs lost wrong) (q : Int)) (i : Int) g l ps t gs lost wrong) R
  | 0, i, hd => by
    have := h.t2
    exact Ev.step (fun k => by rw [saronlaw09_HeardRead.l1, if_neg (by omega), w64 (x := (q : Int) + 1) (by omega) (by omega), show ((q : Int) + 1) = ((q + 1 : Nat) : Int) by omega]) hn
  | d + 1, i, hd => by
    have ih := HeardRead.l1_ev h x7 q hq R hn d (i + 1) (by omega)
    obtain ⟨x, hx⟩ : ∃ x, x = HeardRead.hc g l ps piece t gs lost wrong := ⟨_, rfl⟩
    have ht2 := h.t2
    have ht1 := h.t1
    have hn0 := h.n0
    have hn1 := h.n1
    have hw1 := h.w1
    have hw0 := h.w0
    have pp := piece_f (piece_at h.ok h.p0 h.p1)
    have e1 : x.t = t := by rw [hx]; rfl
    have e2 : x.p = (rd_T62 ps piece).f1 := by rw [hx]; rfl
    have e3 : x.wrong = wrong := by rw [hx]; rfl
    have e4 : x.lost = lost := by rw [hx]; rfl
    have e5 : x.gs = gs := by rw [hx]; rfl
    have e6 : x.t.length = t.length := by rw [e1]
    have e7 : x.p.length = (rd_T62 ps piece).f1.length := by rw [e2]
    rw [← hx] at ih hd ⊢
    have hll : (strL x (q : Int)).length ≤ 24 := lst_len _ _
    have hlb : (strL x 0).length ≤ 24 := lst_len _ _
    have hi : i < (strL x (q : Int)).length := by omega
    have hmem : (strL x (q : Int))[i] ∈ strL x (q : Int) := List.getElem_mem hi
    obtain ⟨j, hj, hjp, hcb⟩ := str_in (by omega) (by omega) (by omega) (by omega) hmem
    obtain ⟨f, e, hls, hfj, hje, hc1, hc2⟩ := canBe_f (by omega) hcb
    obtain ⟨k1, k2, k3, k4⟩ := cost_f hc1
    have hfm : (f : Int) ∈ strL x 0 := by
      have := (str_has (x := x) (q := 0) (j := f) (by omega) (by omega) (by omega) (by omega)).2 ⟨hls.1, lsn_first hls⟩
      exact List.contains_iff_mem.1 this
    have hb := str_bnd x 0 hfm
    have hbl : 0 < (strL x 0).length := List.length_pos_of_mem hfm
    have hlast : rd (strL x 0) (((strL x 0).length - 1 : Nat) : Int) < x.p.length ∧ 0 ≤ rd (strL x 0) (((strL x 0).length - 1 : Nat) : Int) := by
      have hm : (strL x 0)[(strL x 0).length - 1] ∈ strL x 0 := List.getElem_mem _
      obtain ⟨m, hm1, hm2, _⟩ := str_in (q := 0) (by omega) (by omega) (by omega) (by omega) hm
      rw [rd_nat, show (strL x 0).getD ((strL x 0).length - 1) 0 = (strL x 0)[(strL x 0).length - 1] by simp [show (strL x 0).length - 1 < (strL x 0).length by omega], hm1]
      omega
    have hfst : 0 ≤ rd (strL x 0) 0 := by
      have hm : (strL x 0)[0] ∈ strL x 0 := List.getElem_mem _
      have := (lst_in _ _ _ hm).1
      rw [show (0 : Int) = ((0 : Nat) : Int) from rfl, rd_nat, show (strL x ((0 : Nat) : Int)).getD 0 0 = (strL x 0)[0] by simp [hbl]]
      exact this
    have hrdi : rd (strL x (q : Int)) (i : Int) = (j : Int) := by rw [rd_nat, show (strL x (q : Int)).getD i 0 = (strL x (q : Int))[i] by simp [hi], hj]
    have hbk := (hbookOk_iff.1 h.ok).1
    have hst : cycle_Struck.f g l (rd_T62 ps piece).f0 (j : Int) = some (lst (hits l (rd_T62 ps piece).f0 ((j : Int) % (rd_T114 l (rd_T62 ps piece).f0).f0)) 5, 0) := by
      unfold cycle_Struck.f struckF
      have : openE g l (okStruck g l (rd_T62 ps piece).f0 (j : Int)) = 0 := by
        unfold openE
        rw [if_pos hbk, if_pos]
        unfold okStruck
        rw [isIn_iff.2 pp.1, isIn_iff.2 (by omega)]
        rfl
      rw [if_pos this]
    have hgong : x.gong (j : Int) = (lst (hits l (rd_T62 ps piece).f0 ((j : Int) % (rd_T114 l (rd_T62 ps piece).f0).f0)) 5).contains 0 := by rw [hx]; rfl
    have hl5 := lst_len (hits l (rd_T62 ps piece).f0 ((j : Int) % (rd_T114 l (rd_T62 ps piece).f0).f0)) 5
    generalize lst (hits l (rd_T62 ps piece).f0 ((j : Int) % (rd_T114 l (rd_T62 ps piece).f0).f0)) 5 = L5 at hst hgong hl5
    have hwl : (((strL x 0).length : Int) - 1) = (((strL x 0).length - 1 : Nat) : Int) := by omega
    have hjt : rd (rd_T62 ps piece).f1 (j : Int) = x.p.getD j 0 := by rw [rd_nat, e2]
    have hqt : rd t (q : Int) = x.t.getD q 0 := by rw [rd_nat, e1]
    have hpv : 0 ≤ x.p.getD j 0 ∧ x.p.getD j 0 ≤ 6 := by
      rw [show x.p.getD j 0 = x.p[j] by simp [hjp]]
      exact pp.2.2 _ (by rw [← e2]; exact List.getElem_mem _)
    have htv : 0 ≤ x.t.getD q 0 ∧ x.t.getD q 0 ≤ 6 := by
      rw [e1, show t.getD q 0 = t[q] by simp [hq]]
      exact h.tv _ (List.getElem_mem _)
    have hpl : ∃ v, saronref00_Plain.f (wrap64 (rd (rd_T62 ps piece).f1 (j : Int) - rd t (q : Int))) = some v ∧ ¬ v > mn 1 wrong := by
      rw [hjt, hqt, w64 (x := x.p.getD j 0 - x.t.getD q 0) (by omega) (by omega), mn_min]
      unfold saronref00_Plain.f
      by_cases c : x.p.getD j 0 - x.t.getD q 0 < 0
      · rw [if_pos c, w64 (by omega) (by omega)]
        exact ⟨_, rfl, by omega⟩
      · rw [if_neg c]
        exact ⟨_, rfl, by omega⟩
    obtain ⟨v, hv1, hv2⟩ := hpl
    refine Ev.step (fun k => by rw [saronlaw09_HeardRead.l1, if_pos (by omega), if_pos h.p0, if_pos h.p1, if_pos (by omega), hrdi, hst, Option.bind_some, if_pos rfl, if_pos (by omega), if_pos (by omega), if_pos (by omega), if_pos (by omega), hv1, Option.bind_some, if_neg hv2]) ?_
    have hend : Ev (fun k => (if 0 < ((strL x 0).length : Int) then (if (j : Int) < (wrap64 ((rd (strL x 0) 0) + (q : Int))) then (some false) else (if 0 ≤ (wrap64 (((strL x 0).length : Int) - 1)) then (if (wrap64 (((strL x 0).length : Int) - 1)) < ((strL x 0).length : Int) then (if (j : Int) > (wrap64 ((wrap64 ((rd (strL x 0) (wrap64 (((strL x 0).length : Int) - 1))) + (q : Int))) + lost)) then (some false) else (saronlaw09_HeardRead.l1 k piece x7 (strL x 0) (rd_T62 ps piece).f1 (q : Int) (strL x (q : Int)) (wrap64 ((i : Int) + 1)) g l ps t gs lost wrong)) else (none)) else (none))) else (none))) R := by
      have hls3 := hls.2.2.1
      have hls2 := hls.2.1
      refine evc (fun k => by rw [w64 (x := ((strL x 0).length : Int) - 1) (by omega) (by omega), hwl, w64 (x := rd (strL x 0) 0 + (q : Int)) (by omega) (by omega), w64 (x := rd (strL x 0) (((strL x 0).length - 1 : Nat) : Int) + (q : Int)) (by omega) (by omega), w64 (x := rd (strL x 0) (((strL x 0).length - 1 : Nat) : Int) + (q : Int) + lost) (by omega) (by omega), if_pos (by omega), if_neg (by omega), if_pos (by omega), if_pos (by omega), if_neg (by omega), w64 (x := (i : Int) + 1) (by omega) (by omega), show ((i : Int) + 1) = ((i + 1 : Nat) : Int) by omega]) ih
    refine ebind (where_f gs (q : Int) h.gl) ?_
    by_cases cg : wh (q : Int) 0 gs ≥ 0
    · have hcon := (wh_iff (q : Int) gs 0 (by omega)).1 cg
      rw [e5, hgong] at k4
      have h0 := (wh_iff 0 L5 0 (by omega)).2 (k4 hcon)
      refine evc (fun k => by rw [if_pos cg]) ?_
      refine ebind (where_f L5 0 (by omega)) ?_
      exact evc (fun k => by rw [if_neg (by omega)]) hend
    · exact evc (fun k => by rw [if_neg cg]) hend
theorem HeardRead.some_iff (h : HeardRead.Fact g l ps piece t gs lost wrong) (q : Nat) (hq : q < t.length) : (HeardRead.hc g l ps piece t gs lost wrong).fitsB lost = decide (0 < (strL (HeardRead.hc g l ps piece t gs lost wrong) (q : Int)).length) := by
  obtain ⟨x, hx⟩ : ∃ x, x = HeardRead.hc g l ps piece t gs lost wrong := ⟨_, rfl⟩
  have ht2 := h.t2
  have ht1 := h.t1
  have hn0 := h.n0
  have hn1 := h.n1
  have hw1 := h.w1
  have hw0 := h.w0
  have pp := piece_f (piece_at h.ok h.p0 h.p1)
  have e6 : x.t.length = t.length := by rw [hx]; rfl
  have e7 : x.p.length = (rd_T62 ps piece).f1.length := by rw [hx]; rfl
  have e3 : x.wrong = wrong := by rw [hx]; rfl
  have e4 : x.lost = lost := by rw [hx]; rfl
  rw [← hx, ← e4]
  have hi := fitsB_iff (x := x) (lost := x.lost) (by omega) (by omega) (by omega)
  rw [Bool.eq_iff_iff, hi, decide_eq_true_iff]
  constructor
  · rintro ⟨f, e, hls⟩
    obtain ⟨j, hj, hc⟩ := lsn_at (q := q) (by omega) hls
    exact List.length_pos_of_mem (List.contains_iff_mem.1 ((str_has (by omega) (by omega) (by omega) (by omega)).2 ⟨hj, hc⟩))
  · intro hpos
    obtain ⟨v, hv⟩ := List.exists_mem_of_length_pos hpos
    obtain ⟨j, _, _, hc⟩ := str_in (by omega) (by omega) (by omega) (by omega) hv
    obtain ⟨f, e, hls, _⟩ := canBe_f (by omega) hc
    exact ⟨f, e, hls⟩
theorem HeardRead.l0_ev (h : HeardRead.Fact g l ps piece t gs lost wrong) : ∀ (d n : Nat), n + d = t.length →
    Ev (fun k => saronlaw09_HeardRead.l0 k piece ((HeardRead.hc g l ps piece t gs lost wrong).fitsB lost) (strL (HeardRead.hc g l ps piece t gs lost wrong) 0) (rd_T62 ps piece).f1 (n : Int) g l ps t gs lost wrong) true
  | 0, n, hd => by
    exact Ev.step (fun k => by rw [saronlaw09_HeardRead.l0, if_neg (by omega), saronlaw09_listened.f, Option.bind_some]) (Ev.now true)
  | d + 1, n, hd => by
    have hl1 := HeardRead.l1_ev h ((HeardRead.hc g l ps piece t gs lost wrong).fitsB lost) n (by omega) true (HeardRead.l0_ev h d (n + 1) (by omega)) _ 0 (Nat.zero_add _)
    have hso := HeardRead.some_iff h n (by omega)
    have hst : heard_Strokes.f g l ps piece t gs lost wrong (n : Int) = some (strL (HeardRead.hc g l ps piece t gs lost wrong) (n : Int), 0) := by
      unfold heard_Strokes.f stroF
      rw [if_pos (HeardRead.ask0 h), if_pos (isIn_iff.2 (by omega))]
      rfl
    have hll : (strL (HeardRead.hc g l ps piece t gs lost wrong) (n : Int)).length ≤ 24 := lst_len _ _
    have hgr : gr ((rd_T62 ps piece).f1.length : Int) (-1) (strL (HeardRead.hc g l ps piece t gs lost wrong) (n : Int)) = true := str_gr (x := HeardRead.hc g l ps piece t gs lost wrong)
    refine Ev.step (fun k => by rw [saronlaw09_HeardRead.l0, if_pos (by omega), hst, Option.bind_some, if_pos rfl]) ?_
    refine ebind (rgrows_f _ (strL (HeardRead.hc g l ps piece t gs lost wrong) (n : Int)) (by omega)) ?_
    have hj : Ev (fun k => saronlaw09_HeardRead.j3 k piece ((HeardRead.hc g l ps piece t gs lost wrong).fitsB lost) (strL (HeardRead.hc g l ps piece t gs lost wrong) 0) (rd_T62 ps piece).f1 (n : Int) (strL (HeardRead.hc g l ps piece t gs lost wrong) (n : Int)) false g l ps t gs lost wrong) true :=
      Ev.step (fun k => by rw [saronlaw09_HeardRead.j3, if_neg (by simp)]; rfl) hl1
    have hne : ((HeardRead.hc g l ps piece t gs lost wrong).fitsB lost != decide (((strL (HeardRead.hc g l ps piece t gs lost wrong) (n : Int)).length : Int) > 0)) = false := by
      rw [hso]
      simp
    refine evc (fun k => by rw [if_pos hgr, if_neg (by rw [hne]; simp)]) ?_
    by_cases hn : (n : Int) = 0
    · refine evc (fun k => by rw [if_pos hn]) ?_
      obtain rfl : n = 0 := by omega
      refine ebind (equal_self (strL (HeardRead.hc g l ps piece t gs lost wrong) ((0 : Nat) : Int)) (by omega)) ?_
      exact hj
    · exact evc (fun k => by rw [if_neg hn]) hj
end
theorem HeardRead.pure (g : Int) (l : List S114) (ps : List S62) (wg : (Lit.int .i64 g).wf = true) (hs : l.length ≤ 9223372036854775807 ∧ ∀ f ∈ l, f.f1.length ≤ 9223372036854775807 ∧ ∀ r ∈ f.f1, r.length ≤ 9223372036854775807) (hp : ps.length ≤ 9223372036854775807) (hpp : ∀ f ∈ ps, f.f1.length ≤ 9223372036854775807) (a : Int) (wa : (Lit.int .i64 a).wf = true)
    (t gs : List Int) (ht : t.length ≤ 9223372036854775807) (hg : gs.length ≤ 9223372036854775807) (lost wrong : Int) (wl : (Lit.int .i64 lost).wf = true) (ww : (Lit.int .i64 wrong).wf = true) :
    ∃ k, saronlaw09_HeardRead.f k g l ps a t gs lost wrong = some true := by
  refine Ev.rounds (g := fun k => saronlaw09_HeardRead.f k g l ps a t gs lost wrong) ?_
  refine evc (fun k => by rw [saronlaw09_HeardRead.f, heard_Fits.f, Option.bind_some]) ?_
  refine ebind (hsound_f hs) ?_
  by_cases hk : hbookOk g l ps = true
  · have h6 := (hbookOk_iff.1 hk).2.1
    have hw : wrap64 ((ps.length : Int) - 1) = (ps.length : Int) - 1 := w64 (by omega) (by omega)
    refine evc (fun k => by rw [if_pos hk]) ?_
    refine ebind (fair_f t gs lost wrong ht hg) ?_
    have hbad : okAsk ps a t gs lost wrong = false → Ev (fun k => saronlaw09_HeardRead.j0 k a (fitF g l ps a t gs lost wrong).1 (fitF g l ps a t gs lost wrong).2 true g l ps t gs lost wrong) true := by
      intro hno
      have he : askE g l ps (okAsk ps a t gs lost wrong) = 91 := by
        unfold askE
        rw [if_pos hk, hno, if_neg (by simp)]
      have hf : fitF g l ps a t gs lost wrong = (false, 91) := by
        unfold fitF
        rw [he, if_neg (by omega)]
      rw [hf]
      exact Ev.step (fun k => by rw [saronlaw09_HeardRead.j0, if_pos rfl, if_pos rfl, if_neg (by simp), saronlaw09_listened.f, Option.bind_some]) (Ev.now true)
    cases hn : noteB t gs lost wrong
    · exact evc (fun k => by rw [if_neg (by simp)]) (hbad (by unfold okAsk; rw [hn, Bool.and_false]))
    · refine evc (fun k => by rw [if_pos rfl, sits_f, Option.bind_some, hw]) ?_
      cases hi : isIn a 0 ((ps.length : Int) - 1)
      · exact hbad (by unfold okAsk; rw [hi, Bool.false_and])
      · rw [isIn_iff] at hi
        have h := HeardRead.fact hk hi.1 (show a < ps.length by omega) hn hg
        have hf : fitF g l ps a t gs lost wrong = ((HeardRead.hc g l ps a t gs lost wrong).fitsB lost, 0) := by
          unfold fitF
          rw [if_pos (HeardRead.ask0 h)]
          rfl
        have hb : heard_Begins.f g l ps a t gs lost wrong = some (strL (HeardRead.hc g l ps a t gs lost wrong) 0, 0) := by
          have := h.t1
          unfold heard_Begins.f stroF
          rw [if_pos (HeardRead.ask0 h), if_pos (isIn_iff.2 (by omega))]
          rfl
        have hll : (strL (HeardRead.hc g l ps a t gs lost wrong) 0).length ≤ 24 := lst_len _ _
        have hgr : gr ((rd_T62 ps a).f1.length : Int) (-1) (strL (HeardRead.hc g l ps a t gs lost wrong) 0) = true := str_gr (x := HeardRead.hc g l ps a t gs lost wrong)
        have hso := HeardRead.some_iff h 0 h.t1
        have hne : ((HeardRead.hc g l ps a t gs lost wrong).fitsB lost != decide (((strL (HeardRead.hc g l ps a t gs lost wrong) 0).length : Int) > 0)) = false := by
          rw [hso]
          simp
        rw [hf]
        refine Ev.step (fun k => by rw [saronlaw09_HeardRead.j0, if_neg (by simp), hb, Option.bind_some, if_pos hi.1, if_pos (by omega), if_pos rfl, if_pos rfl]) ?_
        refine ebind (rgrows_f _ (strL (HeardRead.hc g l ps a t gs lost wrong) 0) (by omega)) ?_
        refine evc (fun k => by rw [if_pos hgr, hne]) ?_
        exact Ev.step (fun k => by rw [saronlaw09_HeardRead.j1, if_neg (by simp)]; rfl) (HeardRead.l0_ev h t.length 0 (by omega))
  · have hf : fitF g l ps a t gs lost wrong = (false, 90) := by
      have he : askE g l ps (okAsk ps a t gs lost wrong) = 90 := by
        unfold askE
        rw [if_neg hk]
      unfold fitF
      rw [he, if_neg (by omega)]
    refine evc (fun k => by rw [if_neg hk, hf, if_pos rfl, if_neg (by simp), saronlaw09_listened.f, Option.bind_some]) ?_
    exact Ev.now true
end Go.Proofs.YtfdenclnneigfaaDoor
