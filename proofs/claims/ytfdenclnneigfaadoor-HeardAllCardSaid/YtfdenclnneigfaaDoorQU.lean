import Derived.Test.YtfdenclnneigfaaDoorQT
set_option linter.unusedVariables false
set_option linter.unusedSimpArgs false
namespace Go.Proofs.YtfdenclnneigfaaDoor.Q
open Go.RowKit Go.Proofs.YtfdenclnneigfaaDoorW.PrintWords Go.Proofs.YtfdenclnneigfaaDoorW.PrintLast Go.Proofs.YtfdenclnneigfaaDoor.PRaspKeys Go.Proofs.YtfdenclnneigfaaDoor.R
/-! ### The reference: where a note begins and ends -/
theorem lst_nil' (h : Nat → Bool) : ∀ n, (∀ i, i < n → h i = false) → lst h n = []
  | 0, _ => rfl
  | n + 1, hn => by
    unfold lst
    rw [if_neg (by rw [hn n (by omega)]; simp), lst_nil' h n (fun i hi => hn i (by omega))]
theorem lst_cong {h h' : Nat → Bool} : ∀ n, (∀ i, i < n → h i = h' i) → lst h n = lst h' n
  | 0, _ => rfl
  | n + 1, hn => by
    unfold lst
    rw [hn n (by omega), lst_cong n (fun i hi => hn i (by omega))]
theorem lst_cut (h : Nat → Bool) (n : Nat) : ∀ d, (∀ i, n ≤ i → h i = false) → lst h (n + d) = lst h n
  | 0, _ => rfl
  | d + 1, hn => by
    rw [show n + (d + 1) = n + d + 1 by omega]
    conv => lhs; unfold lst
    rw [if_neg (by rw [hn (n + d) (by omega)]; simp), lst_cut h n d hn]
theorem lst_same {h h' : Nat → Bool} {n m : Nat} (hnm : n ≤ m) (h0 : ∀ i, n ≤ i → h i = false) (h1 : ∀ i, i < n → h i = h' i) : lst h m = lst h' n := by
  obtain ⟨d, rfl⟩ := Nat.exists_eq_add_of_le hnm
  rw [lst_cut h n d h0, lst_cong n h1]
theorem lst_pos (h : Nat → Bool) (n : Nat) : 0 < (lst h n).length ↔ ∃ i, i < n ∧ h i = true := by
  constructor
  · intro hp
    obtain ⟨v, hv⟩ := List.exists_mem_of_length_pos hp
    have := lst_in h n v hv
    exact ⟨v.toNat, by omega, this.2.2⟩
  · rintro ⟨i, hi, hh⟩
    have := lst_has h n i
    rw [decide_eq_true hi, hh] at this
    exact List.length_pos_of_mem (List.contains_iff_mem.1 this)
theorem lst_step (h : Nat → Bool) (n : Nat) : lst h (n + 1) = if h n = true then lst h n ++ [(n : Int)] else lst h n := by conv => lhs; unfold lst
def endB (c : Nat → Nat → Int) (b m : Nat) (wrong lost : Int) (s : Nat) : Bool := decide (b ≤ s) && (decide (H.tbN c b (m - 1) s ≤ wrong) && decide ((s : Int) - b + 1 - m ≤ lost))
def begR (c : Nat → Nat → Int) (m n : Nat) (wrong lost : Int) (s : Nat) : Bool := decide (0 < (lst (endB c s m wrong lost) n).length)
section
variable {g : Int} {l : List S114} {ps : List S62} {piece : Int} {t gs : List Int}
theorem ends_l0 (c : Nat → Nat → Int) (b n : Nat) (hn : n ≤ 24) (ht : t.length ≤ 24) (lost wrong ln : Int) (gs' : List Int) : ∀ (d s : Nat), s + d = n → b ≤ s →
    Ev (fun k => rE.l0 k (b : Int) lost (tbR c b (t.length - 1) n) (lst (endB c b t.length wrong lost) s) (s : Int) t gs' ln wrong) (lst (endB c b t.length wrong lost) n)
  | 0, s, hd, hb => by
    obtain rfl : s = n := by omega
    exact Ev.step (fun k => by rw [rE.l0, if_neg (by rw [tbR_len]; omega)]) (Ev.now _)
  | d + 1, s, hd, hb => by
    have ih := ends_l0 c b n hn ht lost wrong ln gs' d (s + 1) (by omega) (by omega)
    have hll := lst_len (endB c b t.length wrong lost) s
    have ew : wrap64 ((s : Int) + 1) = ((s + 1 : Nat) : Int) := by rw [w64 (by omega) (by omega)]; omega
    have e2 : wrap64 (wrap64 (wrap64 ((s : Int) - (b : Int)) + 1) - (t.length : Int)) = (s : Int) - b + 1 - t.length := by rw [w64 (x := (s : Int) - (b : Int)) (by omega) (by omega), w64 (x := (s : Int) - (b : Int) + 1) (by omega) (by omega), w64 (by omega) (by omega)]
    rw [lst_step] at ih
    have hE : endB c b t.length wrong lost s = (decide (H.tbN c b (t.length - 1) s ≤ wrong) && decide ((s : Int) - b + 1 - t.length ≤ lost)) := by
      unfold endB
      rw [decide_eq_true hb, Bool.true_and]
    rw [hE] at ih
    refine Ev.step (fun k => by rw [rE.l0, if_pos (by rw [tbR_len]; omega), if_pos (by omega), tbR_at _ _ _ _ _ (by omega), e2, ew]) ?_
    generalize H.tbN c b (t.length - 1) s = v at *
    by_cases c1 : v ≤ wrong
    · refine evc (fun k => by rw [if_pos c1]) ?_
      rw [decide_eq_true c1, Bool.true_and] at ih
      by_cases c2 : (s : Int) - b + 1 - t.length ≤ lost
      · rw [if_pos (decide_eq_true c2)] at ih
        exact evc (fun k => by rw [if_pos c2, if_pos (by omega)]) ih
      · rw [if_neg (by rw [decide_eq_false c2]; simp)] at ih
        exact evc (fun k => by rw [if_neg c2]) ih
    · rw [if_neg (by rw [decide_eq_false c1]; simp)] at ih
      exact evc (fun k => by rw [if_neg c1]) ih
theorem ends_f (hs : Small l) (h : TF g l ps piece t gs) (ht : 1 ≤ t.length) (lost wrong lo : Int) (b : Nat) (hb : b ≤ (rd_T62 ps piece).f1.length) : Ev (fun k => rE.f k g l ps piece t gs lo wrong (b : Int) lost) (lst (endB (cF l ps piece t gs) b t.length wrong lost) (rd_T62 ps piece).f1.length) := by
  have ht2 := h.t2
  have hp24 := (ppiece_f h.ok h.p0 h.p1).2.1
  have ew : wrap64 ((t.length : Int) - 1) = ((t.length - 1 : Nat) : Int) := by rw [w64 (by omega) (by omega)]; omega
  refine evc (fun k => by rw [rE.f]) ?_
  refine ebind (table_f hs h b lo wrong) ?_
  refine evc (fun k => by rw [tbT_len, ew, if_pos (by omega), if_pos (by omega), tbT_at _ _ _ _ _ (by omega)]) ?_
  have := ends_l0 (t := t) (cF l ps piece t gs) b (rd_T62 ps piece).f1.length (by omega) ht2 lost wrong lo gs ((rd_T62 ps piece).f1.length - b) b (by omega) (Nat.le_refl _)
  rw [lst_nil' (endB (cF l ps piece t gs) b t.length wrong lost) b (fun i hi => by unfold endB; rw [decide_eq_false (by omega), Bool.false_and])] at this
  exact this
theorem begins_l0 (hs : Small l) (h : TF g l ps piece t gs) (ht : 1 ≤ t.length) (lost wrong lo : Int) : ∀ (d s : Nat), s + d = (rd_T62 ps piece).f1.length →
    Ev (fun k => rB.l0 k piece lost (lst (begR (cF l ps piece t gs) t.length (rd_T62 ps piece).f1.length wrong lost) s) (s : Int) g l ps t gs lo wrong) (lst (begR (cF l ps piece t gs) t.length (rd_T62 ps piece).f1.length wrong lost) (rd_T62 ps piece).f1.length)
  | 0, s, hd => by
    obtain rfl : s = (rd_T62 ps piece).f1.length := by omega
    exact Ev.step (fun k => by rw [rB.l0, if_pos h.p0, if_pos h.p1, if_neg (by omega)]) (Ev.now _)
  | d + 1, s, hd => by
    have ih := begins_l0 hs h ht lost wrong lo d (s + 1) (by omega)
    have hp24 := (ppiece_f h.ok h.p0 h.p1).2.1
    have he := ends_f hs h ht lost wrong lo s (by omega)
    have hll := lst_len (begR (cF l ps piece t gs) t.length (rd_T62 ps piece).f1.length wrong lost) s
    have ew : wrap64 ((s : Int) + 1) = ((s + 1 : Nat) : Int) := by rw [w64 (by omega) (by omega)]; omega
    rw [lst_step] at ih
    have hE : begR (cF l ps piece t gs) t.length (rd_T62 ps piece).f1.length wrong lost s = decide (0 < (lst (endB (cF l ps piece t gs) s t.length wrong lost) (rd_T62 ps piece).f1.length).length) := rfl
    rw [hE] at ih
    refine Ev.step (fun k => by rw [rB.l0, if_pos h.p0, if_pos h.p1, if_pos (by omega)]) ?_
    refine ebind he ?_
    generalize lst (endB (cF l ps piece t gs) s t.length wrong lost) (rd_T62 ps piece).f1.length = X at *
    by_cases c1 : 0 < X.length
    · rw [if_pos (decide_eq_true c1)] at ih
      exact evc (fun k => by rw [if_pos (by omega), if_pos (by omega), ew]) ih
    · rw [if_neg (by rw [decide_eq_false c1]; simp)] at ih
      exact evc (fun k => by rw [if_neg (by omega), ew]) ih
theorem begins_f (hs : Small l) (h : TF g l ps piece t gs) (ht : 1 ≤ t.length) (lost wrong lo : Int) : Ev (fun k => rB.f k g l ps piece t gs lo wrong lost) (lst (begR (cF l ps piece t gs) t.length (rd_T62 ps piece).f1.length wrong lost) (rd_T62 ps piece).f1.length) :=
  evc (fun k => by rw [rB.f]; rfl) (begins_l0 hs h ht lost wrong lo _ 0 (Nat.zero_add _))
/-! ### .. as the program has it -/
theorem cF_nn (k s : Nat) : 0 ≤ cF l ps piece t gs k s := by have := cF_cases (l := l) (ps := ps) piece t gs k s; omega
theorem cF_lt {k s : Nat} (h : cF l ps piece t gs k s < 1000) : cF l ps piece t gs k s < 100 := by have := cF_cases (l := l) (ps := ps) piece t gs k s; omega
theorem endB_iff (ht : 1 ≤ t.length) {wrong lost L : Int} (hw : wrong < 100) {b e : Nat} (hb : b < (rd_T62 ps piece).f1.length) (he : e < (rd_T62 ps piece).f1.length) : endB (cF l ps piece t gs) b t.length wrong lost e = true ↔ Lsn (hcx g l ps piece t gs L wrong) (cF l ps piece t gs) lost b e := by
  unfold endB Lsn
  rw [Bool.and_eq_true, Bool.and_eq_true, decide_eq_true_iff, decide_eq_true_iff, decide_eq_true_iff, H.tb_le (fun k s => cF_nn k s) (fun k s => cF_lt) _ _ _ hw]
  show b ≤ e ∧ (∃ x, H.Rd (cF l ps piece t gs) 0 b (t.length - 1) e x ∧ x ≤ wrong) ∧ (e : Int) - b + 1 - t.length ≤ lost ↔ b < (rd_T62 ps piece).f1.length ∧ e < (rd_T62 ps piece).f1.length ∧ (e : Int) ≤ (b : Int) + t.length - 1 + lost ∧ ∃ y, H.Rd (cF l ps piece t gs) 0 b (t.length - 1) e y ∧ y ≤ wrong
  constructor
  · rintro ⟨_, h1, h2⟩
    exact ⟨hb, he, by omega, h1⟩
  · rintro ⟨_, _, h2, y, h3, h4⟩
    have := h3.le
    exact ⟨by omega, ⟨y, h3, h4⟩, by omega⟩
theorem begR_iff (ht : 1 ≤ t.length) {wrong lost L : Int} (hw : wrong < 100) {b : Nat} (hb : b < (rd_T62 ps piece).f1.length) : begR (cF l ps piece t gs) t.length (rd_T62 ps piece).f1.length wrong lost b = true ↔ ∃ e, Lsn (hcx g l ps piece t gs L wrong) (cF l ps piece t gs) lost b e := by
  unfold begR
  rw [decide_eq_true_iff, lst_pos]
  constructor
  · rintro ⟨e, he, h⟩
    exact ⟨e, (endB_iff ht hw hb he).1 h⟩
  · rintro ⟨e, h⟩
    exact ⟨e, h.2.1, (endB_iff ht hw hb h.2.1).2 h⟩
theorem fits_eq (ht : 1 ≤ t.length) {wrong lost L : Int} (hl : 0 ≤ lost) (hw : wrong < 100) : decide (0 < (lst (begR (cF l ps piece t gs) t.length (rd_T62 ps piece).f1.length wrong lost) (rd_T62 ps piece).f1.length).length) = (hcx g l ps piece t gs L wrong).fitsB lost := by
  rw [Bool.eq_iff_iff, decide_eq_true_iff, lst_pos, fitsB_iff (x := hcx g l ps piece t gs L wrong) ht hl (show wrong < 1000 by omega)]
  constructor
  · rintro ⟨f, hf, h⟩
    obtain ⟨e, h⟩ := (begR_iff (g := g) (L := L) ht hw hf).1 h
    exact ⟨f, e, h⟩
  · rintro ⟨f, e, h⟩
    exact ⟨f, h.1, (begR_iff (g := g) (L := L) ht hw h.1).2 ⟨e, h⟩⟩
theorem cAt_first {c : Nat → Nat → Int} {j f d e : Nat} {y : Int} (h : H.Rd (H.cAt c 0 j) 0 f d e y) : f = j := by
  have h1 : H.cAt c 0 j 0 f < 1000 := by cases h <;> assumption
  exact (H.cAt_lt h1).2 rfl
theorem str0_eq (ht : 1 ≤ t.length) {wrong L : Int} (hl : 0 ≤ L) (hw : wrong < 100) (hp : (rd_T62 ps piece).f1.length ≤ 24) : lst (begR (cF l ps piece t gs) t.length (rd_T62 ps piece).f1.length wrong L) (rd_T62 ps piece).f1.length = strL (hcx g l ps piece t gs L wrong) 0 := by
  have hx : ∀ j : Nat, (strL (hcx g l ps piece t gs L wrong) 0).contains (j : Int) = true ↔ j < (rd_T62 ps piece).f1.length ∧ ∃ e, Lsn (hcx g l ps piece t gs L wrong) (cF l ps piece t gs) L j e := by
    intro j
    have := str_has (x := hcx g l ps piece t gs L wrong) (q := 0) (j := j) ht hp hl (show wrong < 1000 by omega)
    rw [show ((0 : Nat) : Int) = 0 from rfl] at this
    rw [this]
    show j < (rd_T62 ps piece).f1.length ∧ CanBe (hcx g l ps piece t gs L wrong) 0 j ↔ _
    constructor
    · rintro ⟨hj, f, e, h⟩
      obtain rfl := cAt_first h.2.2.2.choose_spec.1
      exact ⟨hj, e, lsn_cost h⟩
    · rintro ⟨hj, e, h⟩
      exact ⟨hj, lsn_first h⟩
  symm
  unfold strL at hx ⊢
  have hm := fun j => hx j
  simp only [lst_has] at hm
  refine lst_same hp (fun i hi => ?_) (fun i hi => ?_)
  · cases hc : metH (fun k => (hcx g l ps piece t gs L wrong).begB (mayAt 0 k) (hcx g l ps piece t gs L wrong).lost) (hcx g l ps piece t gs L wrong).p.length (hcx g l ps piece t gs L wrong).p.length 0 i
    · rfl
    · rw [metH_end, Bool.and_eq_true, decide_eq_true_iff] at hc
      have : i < (rd_T62 ps piece).f1.length := hc.1
      omega
  · have h1 := hm i
    rw [decide_eq_true (show i < 24 by omega), Bool.true_and] at h1
    rw [Bool.eq_iff_iff, h1, begR_iff (g := g) (L := L) ht hw hi]
    exact ⟨fun h => h.2, fun h => ⟨hi, h⟩⟩
end
end Go.Proofs.YtfdenclnneigfaaDoor.Q
