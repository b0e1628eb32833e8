import Derived.Test.YtfdenclnneigfaaDoorQH4
import Derived.Test.YtfdenclnneigfaaDoorLWholes
set_option linter.unusedVariables false
set_option linter.unusedSimpArgs false
namespace Go.Proofs.YtfdenclnneigfaaDoor
open Go.RowKit PRaspKeys R Q Go.Proofs.YtfdenclnneigfaaDoorW.PrintWords Go.Proofs.YtfdenclnneigfaaDoorW.PrintLast
section
variable {g : Int} {l : List S114} {ps : List S62}
/-- What Common answers. -/
def comV (g : Int) (l : List S114) (ps : List S62) (a b : Int) : Int × Int := if hbookOk g l ps = true then (if (isIn a 0 ((ps.length : Int) - 1) && isIn b 0 ((ps.length : Int) - 1)) = true then (H.lcs (rd_T62 ps a).f1 (rd_T62 ps b).f1, 0) else (0, 91)) else (0, 90)
theorem hc_ok {g : Int} {l : List S114} {ps : List S62} (hk : hbookOk g l ps = true) : hcheckE g l ps = 0 := by unfold hcheckE; rw [if_pos hk]
theorem hc_no {g : Int} {l : List S114} {ps : List S62} (hk : ¬ hbookOk g l ps = true) : hcheckE g l ps = 90 := by unfold hcheckE; rw [if_neg hk]
theorem com_f (hp : ps.length ≤ 9223372036854775807) (a b : Int) : heard_Common.f g l ps a b = some (comV g l ps a b) := by
  unfold comV
  by_cases hk : hbookOk g l ps = true
  · rw [if_pos hk]
    have h6 := (hbookOk_iff.1 hk).2.1
    have hw : wrap64 ((ps.length : Int) - 1) = (ps.length : Int) - 1 := w64 (by omega) (by omega)
    cases c1 : isIn a 0 ((ps.length : Int) - 1)
    · rw [Bool.false_and, heard_Common.f, heard_Check.f, Option.bind_some, hc_ok hk, if_pos rfl, heard_lies.f, Option.bind_some, hw, c1, if_neg (by simp)]
      rfl
    · cases c2 : isIn b 0 ((ps.length : Int) - 1)
      · rw [Bool.true_and, heard_Common.f, heard_Check.f, Option.bind_some, hc_ok hk, if_pos rfl, heard_lies.f, Option.bind_some, hw, c1, if_pos rfl, heard_lies.f, Option.bind_some, c2, if_neg (by simp)]
        rfl
      · rw [isIn_iff] at c1 c2
        rw [Bool.true_and, if_pos rfl]
        exact common_f hk c1.1 (by omega) c2.1 (by omega)
  · rw [if_neg hk, heard_Common.f, heard_Check.f, Option.bind_some, hc_no hk, if_neg (by omega)]
theorem rcom_f (hs : Small l) (hp : ps.length ≤ 9223372036854775807) (hpp : ∀ f ∈ ps, f.f1.length ≤ 9223372036854775807) (a b : Int) : Ev (fun k => saronref09_Common.f k g l ps a b) (comV g l ps a b) := by
  have hw : wrap64 ((ps.length : Int) - 1) = (ps.length : Int) - 1 := w64 (by omega) (by omega)
  refine evc (fun k => by rw [saronref09_Common.f, saronref09_isPiece.f, sits_f, Option.bind_some, Option.bind_some, hw]) ?_
  unfold comV
  cases c1 : isIn a 0 ((ps.length : Int) - 1)
  · refine evc (fun k => by rw [if_neg (by simp)]) ?_
    refine ebind (hasked_f hs hp hpp false) ?_
    unfold askE
    by_cases hk : hbookOk g l ps = true
    · rw [if_pos hk, if_pos hk, Bool.false_and]
      exact evc (fun k => by rw [if_neg (show ¬ (if false = true then (0 : Int) else 91) = 0 by simp)]; rfl) (Ev.now (0, 91))
    · rw [if_neg hk, if_neg hk]
      exact evc (fun k => by rw [if_neg (by omega)]) (Ev.now (0, 90))
  · refine evc (fun k => by rw [if_pos rfl, saronref09_isPiece.f, sits_f, Option.bind_some, Option.bind_some, hw]) ?_
    refine ebind (hasked_f hs hp hpp _) ?_
    unfold askE
    by_cases hk : hbookOk g l ps = true
    · rw [if_pos hk, if_pos hk, Bool.true_and]
      cases c2 : isIn b 0 ((ps.length : Int) - 1)
      · exact evc (fun k => by rw [if_neg (show ¬ (if false = true then (0 : Int) else 91) = 0 by simp)]; rfl) (Ev.now (0, 91))
      · rw [isIn_iff] at c1 c2
        have pa := piece_f (piece_at hk c1.1 (show a < ps.length by omega))
        have pb := piece_f (piece_at hk c2.1 (show b < ps.length by omega))
        refine evc (fun k => by rw [if_pos (show (if true = true then (0 : Int) else 91) = 0 by simp), if_pos c1.1, if_pos (by omega), if_pos c2.1, if_pos (by omega)]) ?_
        exact ebind (f := fun _ t => some (t, (0 : Int))) (share_f (rd_T62 ps a).f1 (rd_T62 ps b).f1 (by omega) (by omega)) (Ev.now (H.lcs (rd_T62 ps a).f1 (rd_T62 ps b).f1, (0 : Int)))
    · rw [if_neg hk, if_neg hk]
      exact evc (fun k => by rw [if_neg (by omega)]) (Ev.now (0, 90))
/-- What Whole answers. -/
def whoV (g : Int) (l : List S114) (ps : List S62) (t : List Int) (lost : Int) : List Int × Int := if hbookOk g l ps = true then (if (tonesB t 0 && isIn lost 0 6) = true then (lst (whB ps t lost) ps.length, 0) else ([], 91)) else ([], 90)
theorem who_f (t : List Int) (lost : Int) : Ev (fun k => heard_Whole.f k g l ps t lost) (whoV g l ps t lost) := by
  unfold whoV
  by_cases hk : hbookOk g l ps = true
  · rw [if_pos hk]
    cases c1 : tonesB t 0
    · refine evc (fun k => by rw [heard_Whole.f, heard_Check.f, Option.bind_some, hc_ok hk, if_pos rfl, heard_areTones.f, Option.bind_some, c1, if_neg (by simp)]) ?_
      exact Ev.step (fun k => by rw [heard_Whole.j0]; rfl) (Ev.now _)
    · cases c2 : isIn lost 0 6
      · refine evc (fun k => by rw [heard_Whole.f, heard_Check.f, Option.bind_some, hc_ok hk, if_pos rfl, heard_areTones.f, Option.bind_some, c1, if_pos rfl, heard_lies.f, Option.bind_some, c2]) ?_
        exact Ev.step (fun k => by rw [heard_Whole.j0]; rfl) (Ev.now _)
      · have h1 := tonesB_iff.1 c1
        rw [isIn_iff] at c2
        exact whole_f hk t lost (by omega) h1.2 c2.1 c2.2
  · rw [if_neg hk]
    exact evc (fun k => by rw [heard_Whole.f, heard_Check.f, Option.bind_some, hc_no hk, if_neg (by omega)]) (Ev.now _)
theorem rwhole_l0 (hk : hbookOk g l ps = true) (t : List Int) (lost : Int) (ht : t.length ≤ 24) : ∀ (d n : Nat), n + d = ps.length →
    Ev (fun k => saronref09_Whole.l0 k t lost (lst (whB ps t lost) n) (n : Int) g l ps) (lst (whB ps t lost) ps.length, 0)
  | 0, n, hd => by
    refine Ev.step (fun k => by rw [saronref09_Whole.l0, if_neg (by omega)]) ?_
    rw [show n = ps.length by omega]
    exact Ev.now _
  | d + 1, n, hd => by
    have h6 := (hbookOk_iff.1 hk).2.1
    have pn := piece_f (piece_at hk (n := (n : Int)) (by omega) (by omega))
    have ih := rwhole_l0 hk t lost ht d (n + 1) (by omega)
    have hll := lst_len (whB ps t lost) n
    rw [lst] at ih
    refine Ev.step (fun k => by rw [saronref09_Whole.l0, if_pos (by omega), if_pos (by omega)]) ?_
    refine ebind (share_f (rd_T62 ps (n : Int)).f1 t (by omega) (by omega)) ?_
    refine evc (fun k => by rw [w64 (x := ((rd_T62 ps (n : Int)).f1.length : Int) - (t.length : Int)) (by omega) (by omega), w64 (x := (n : Int) + 1) (by omega) (by omega), show ((n : Int) + 1) = ((n + 1 : Nat) : Int) by omega]) ?_
    by_cases c1 : H.lcs (rd_T62 ps (n : Int)).f1 t = t.length
    · by_cases c2 : ((rd_T62 ps (n : Int)).f1.length : Int) - t.length ≤ lost
      · rw [if_pos (show whB ps t lost n = true by unfold whB; rw [decide_eq_true c1, decide_eq_true c2]; rfl)] at ih
        exact evc (fun k => by rw [if_pos c1, if_pos c2, if_pos (by omega)]) ih
      · rw [if_neg (show ¬ whB ps t lost n = true by unfold whB; rw [decide_eq_false c2, Bool.and_false]; simp)] at ih
        exact evc (fun k => by rw [if_pos c1, if_neg c2]) ih
    · rw [if_neg (show ¬ whB ps t lost n = true by unfold whB; rw [decide_eq_false c1, Bool.false_and]; simp)] at ih
      exact evc (fun k => by rw [if_neg c1]) ih
theorem rwho_f (hs : Small l) (hp : ps.length ≤ 9223372036854775807) (hpp : ∀ f ∈ ps, f.f1.length ≤ 9223372036854775807) (t : List Int) (lost : Int) (ht : t.length ≤ 9223372036854775807) : Ev (fun k => saronref09_Whole.f k g l ps t lost) (whoV g l ps t lost) := by
  unfold whoV
  refine evc (fun k => by rw [saronref09_Whole.f]) ?_
  refine ebind (rtones_f t 0 ht) ?_
  cases c1 : tonesB t 0
  · refine evc (fun k => by rw [if_neg (by simp)]) ?_
    refine ebind (hasked_f hs hp hpp false) ?_
    unfold askE
    by_cases hk : hbookOk g l ps = true
    · rw [if_pos hk, if_pos hk, Bool.false_and]
      exact Ev.step (fun k => by rw [saronref09_Whole.j0, if_neg (show ¬ (if false = true then (0 : Int) else 91) = 0 by simp)]; rfl) (Ev.now _)
    · rw [if_neg hk, if_neg hk]
      exact Ev.step (fun k => by rw [saronref09_Whole.j0, if_neg (by omega)]) (Ev.now _)
  · refine evc (fun k => by rw [if_pos rfl, sits_f, Option.bind_some]) ?_
    refine ebind (hasked_f hs hp hpp _) ?_
    unfold askE
    by_cases hk : hbookOk g l ps = true
    · rw [if_pos hk, if_pos hk, Bool.true_and]
      cases c2 : isIn lost 0 6
      · exact Ev.step (fun k => by rw [saronref09_Whole.j0, if_neg (show ¬ (if false = true then (0 : Int) else 91) = 0 by simp)]; rfl) (Ev.now _)
      · have h1 := tonesB_iff.1 c1
        refine Ev.step (fun k => by rw [saronref09_Whole.j0, if_pos (show (if true = true then (0 : Int) else 91) = 0 by simp)]) ?_
        exact rwhole_l0 hk t lost (by omega) ps.length 0 (by omega)
    · rw [if_neg hk, if_neg hk]
      exact Ev.step (fun k => by rw [saronref09_Whole.j0, if_neg (by omega)]) (Ev.now _)
/-- What the reference's Known knows of the pairs that it looked at. -/
def KSt (ps : List S62) (V : Nat → Nat → Prop) (n : Int) : Prop :=
  (n = (rd_T62 ps 0).f1.length ∧ ∀ i j, ¬ V i j) ∨ (0 ≤ n ∧ n ≤ 24 ∧ (∀ i j, V i j → n + 1 ≤ loP ps i j) ∧ ∃ i j, V i j ∧ n + 1 = loP ps i j)
theorem KSt.of {V V' : Nat → Nat → Prop} {n : Int} (h : KSt ps V n) (e : ∀ i j, V i j ↔ V' i j) : KSt ps V' n := by
  rcases h with ⟨h1, h3⟩ | ⟨h1, h2, h4, i, j, h5, h6⟩
  · exact .inl ⟨h1, fun i j hv => h3 i j ((e i j).2 hv)⟩
  · exact .inr ⟨h1, h2, fun i j hv => h4 i j ((e i j).2 hv), i, j, (e i j).1 h5, h6⟩
theorem rk_l1 (hk : hbookOk g l ps = true) (i : Nat) (hi : i < ps.length) : ∀ (d j : Nat) (n : Int), j + d = ps.length → i < j → KSt ps (fun a c => a < c ∧ c < ps.length ∧ (a < i ∨ a = i ∧ c < j)) n →
    ((∃ a c : Nat, a < c ∧ c < ps.length ∧ loP ps a c = 0) ∧ Ev (fun k => saronref09_Known.l1 k n (i : Int) (j : Int) g l ps) (0, 4)) ∨
    ∃ n', KSt ps (fun a c => a < c ∧ c < ps.length ∧ a < i + 1) n' ∧ ∀ R, Ev (fun k => saronref09_Known.l0 k n' ((i + 1 : Nat) : Int) g l ps) R → Ev (fun k => saronref09_Known.l1 k n (i : Int) (j : Int) g l ps) R
  | 0, j, n, hd, hij, hS => by
    have h6 := (hbookOk_iff.1 hk).2.1
    refine .inr ⟨n, hS.of (fun a c => by constructor <;> rintro ⟨h1, h2, h3⟩ <;> exact ⟨h1, h2, by omega⟩), fun R hR => ?_⟩
    exact Ev.step (fun k => by rw [saronref09_Known.l1, if_neg (by omega), w64 (x := (i : Int) + 1) (by omega) (by omega), show ((i : Int) + 1) = ((i + 1 : Nat) : Int) by omega]) hR
  | d + 1, j, n, hd, hij, hS => by
    have h6 := (hbookOk_iff.1 hk).2.1
    have hjl : j < ps.length := by omega
    have hlo := loP_bnd hk hi hjl
    have hL := Lib.hid (show max ((rd_T62 ps (i : Int)).f1.length : Int) ((rd_T62 ps (j : Int)).f1.length : Int) - H.lcs (rd_T62 ps (i : Int)).f1 (rd_T62 ps (j : Int)).f1 = loP ps i j from rfl)
    have hwj : wrap64 ((j : Int) + 1) = ((j + 1 : Nat) : Int) := by rw [w64 (by omega) (by omega)]; omega
    have hsh : Ev (fun k => saronref09_share.f k (rd_T62 ps (i : Int)).f1 (rd_T62 ps (j : Int)).f1) (H.lcs (rd_T62 ps (i : Int)).f1 (rd_T62 ps (j : Int)).f1) := by
      have pi := piece_f (piece_at hk (n := (i : Int)) (by omega) (by omega))
      have pj := piece_f (piece_at hk (n := (j : Int)) (by omega) (by omega))
      clear hlo
      exact share_f (rd_T62 ps (i : Int)).f1 (rd_T62 ps (j : Int)).f1 (by omega) (by omega)
    by_cases hz : loP ps i j = 0
    · refine .inl ⟨⟨i, j, hij, hjl, hz⟩, ?_⟩
      refine Ev.step (fun k => by rw [saronref09_Known.l1, if_pos (by omega), if_pos (by omega), if_pos (by omega), if_pos (by omega)]) ?_
      refine ebind hsh ?_
      exact evc (fun k => by rw [mx_max, hL.out, w64 (x := loP ps i j) (by omega) (by omega), if_pos hz]) (Ev.now _)
    · obtain ⟨n', hS', hn'⟩ : ∃ n', KSt ps (fun a c => a < c ∧ c < ps.length ∧ (a < i ∨ a = i ∧ c < j + 1)) n' ∧ ∀ k, (if (i : Int) = 0 then (if (j : Int) = 1 then (saronref09_Known.l1 k (loP ps i j - 1) (i : Int) ((j + 1 : Nat) : Int) g l ps) else (if loP ps i j - 1 < n then (saronref09_Known.l1 k (loP ps i j - 1) (i : Int) ((j + 1 : Nat) : Int) g l ps) else (saronref09_Known.l1 k n (i : Int) ((j + 1 : Nat) : Int) g l ps))) else (if loP ps i j - 1 < n then (saronref09_Known.l1 k (loP ps i j - 1) (i : Int) ((j + 1 : Nat) : Int) g l ps) else (saronref09_Known.l1 k n (i : Int) ((j + 1 : Nat) : Int) g l ps))) = saronref09_Known.l1 k n' (i : Int) ((j + 1 : Nat) : Int) g l ps := by
        rcases hS with ⟨h1, h3⟩ | ⟨h1, h2, h4, a, c, h5, h7⟩
        · have h01 : i = 0 ∧ j = 1 := by
            apply Decidable.byContradiction
            intro hne
            by_cases c0 : i = 0
            · exact h3 0 1 ⟨by omega, by omega, by omega⟩
            · exact h3 0 1 ⟨by omega, by omega, by omega⟩
          refine ⟨loP ps i j - 1, .inr ⟨by omega, by omega, fun a c hv => ?_, i, j, ⟨hij, hjl, by omega⟩, by omega⟩, fun k => by rw [if_pos (by omega), if_pos (by omega)]⟩
          have : a = i ∧ c = j := by omega
          rw [this.1, this.2]
          omega
        · have hne : ¬ ((i : Int) = 0 ∧ (j : Int) = 1) := by omega
          by_cases c1 : loP ps i j - 1 < n
          · refine ⟨loP ps i j - 1, .inr ⟨by omega, by omega, fun a c hv => ?_, i, j, ⟨hij, hjl, by omega⟩, by omega⟩, fun k => ?_⟩
            · by_cases e : a = i ∧ c = j
              · rw [e.1, e.2]; omega
              · have := h4 a c ⟨hv.1, hv.2.1, by omega⟩
                omega
            · by_cases c0 : (i : Int) = 0
              · rw [if_pos c0, if_neg (fun h => hne ⟨c0, h⟩), if_pos c1]
              · rw [if_neg c0, if_pos c1]
          · refine ⟨n, .inr ⟨h1, h2, fun a c hv => ?_, a, c, ⟨h5.1, h5.2.1, by omega⟩, h7⟩, fun k => ?_⟩
            · by_cases e : a = i ∧ c = j
              · rw [e.1, e.2]; omega
              · exact h4 a c ⟨hv.1, hv.2.1, by omega⟩
            · by_cases c0 : (i : Int) = 0
              · rw [if_pos c0, if_neg (fun h => hne ⟨c0, h⟩), if_neg c1]
              · rw [if_neg c0, if_neg c1]
      have hstep : ∀ R, Ev (fun k => saronref09_Known.l1 k n' (i : Int) ((j + 1 : Nat) : Int) g l ps) R → Ev (fun k => saronref09_Known.l1 k n (i : Int) (j : Int) g l ps) R := fun R hR => by
        refine Ev.step (fun k => by rw [saronref09_Known.l1, if_pos (by omega), if_pos (by omega), if_pos (by omega), if_pos (by omega)]) ?_
        refine ebind hsh ?_
        exact evc (fun k => by rw [mx_max, hL.out, w64 (x := loP ps i j) (by omega) (by omega), if_neg hz, w64 (x := loP ps i j - 1) (by omega) (by omega), hwj, hn' k]) hR
      rcases rk_l1 hk i hi d (j + 1) n' (by omega) (by omega) hS' with ⟨h1, h2⟩ | ⟨n2, h1, h2⟩
      · exact .inl ⟨h1, hstep _ h2⟩
      · exact .inr ⟨n2, h1, fun R hR => hstep R (h2 R hR)⟩
theorem rk_l0 (hk : hbookOk g l ps = true) : ∀ (d i : Nat) (n : Int), i + d = ps.length → KSt ps (fun a c => a < c ∧ c < ps.length ∧ a < i) n →
    ((∃ a c : Nat, a < c ∧ c < ps.length ∧ loP ps a c = 0) ∧ Ev (fun k => saronref09_Known.l0 k n (i : Int) g l ps) (0, 4)) ∨
    ∃ n', KSt ps (fun a c => a < c ∧ c < ps.length) n' ∧ Ev (fun k => saronref09_Known.l0 k n (i : Int) g l ps) (n', 0)
  | 0, i, n, hd, hS => by
    obtain rfl : i = ps.length := by omega
    exact .inr ⟨n, hS.of (fun a c => by constructor <;> intro h <;> omega), Ev.step (fun k => by rw [saronref09_Known.l0, if_neg (by omega)]) (Ev.now _)⟩
  | d + 1, i, n, hd, hS => by
    have h6 := (hbookOk_iff.1 hk).2.1
    have hstep : ∀ R, Ev (fun k => saronref09_Known.l1 k n (i : Int) ((i + 1 : Nat) : Int) g l ps) R → Ev (fun k => saronref09_Known.l0 k n (i : Int) g l ps) R := fun R hR =>
      Ev.step (fun k => by rw [saronref09_Known.l0, if_pos (by omega), w64 (x := (i : Int) + 1) (by omega) (by omega), show ((i : Int) + 1) = ((i + 1 : Nat) : Int) by omega]) hR
    rcases rk_l1 hk i (by omega) (ps.length - (i + 1)) (i + 1) n (by omega) (by omega) (hS.of (fun a c => by constructor <;> intro h <;> omega)) with ⟨h1, h2⟩ | ⟨n1, h1, h2⟩
    · exact .inl ⟨h1, hstep _ h2⟩
    · rcases rk_l0 hk d (i + 1) n1 (by omega) h1 with ⟨h3, h4⟩ | ⟨n2, h3, h4⟩
      · exact .inl ⟨h3, hstep _ (h2 _ h4)⟩
      · exact .inr ⟨n2, h3, hstep _ (h2 _ h4)⟩
theorem kno_f (hs : Small l) (hp : ps.length ≤ 9223372036854775807) (hpp : ∀ f ∈ ps, f.f1.length ≤ 9223372036854775807) : ∃ r : Int × Int, Ev (fun k => heard_Known.f k g l ps) r ∧ Ev (fun k => saronref09_Known.f k g l ps) r := by
  by_cases hk : hbookOk g l ps = true
  · have h6 := (hbookOk_iff.1 hk).2.1
    have hc := hc_f (g := g) hs hp hpp
    rw [hc_ok hk] at hc
    have hr : ∀ R, Ev (fun k => saronref09_Known.l0 k ((rd_T62 ps 0).f1.length : Int) ((0 : Nat) : Int) g l ps) R → Ev (fun k => saronref09_Known.f k g l ps) R := fun R hR => by
      refine evc (fun k => by rw [saronref09_Known.f]) ?_
      refine ebind hc ?_
      exact evc (fun k => by rw [if_pos rfl, if_pos (by omega)]; rfl) hR
    have h0 := rk_l0 hk ps.length 0 ((rd_T62 ps 0).f1.length : Int) (by omega) (.inl ⟨rfl, fun i j h => by omega⟩)
    rcases known_f hk with ⟨h1, hK⟩ | ⟨h2, M, m1, m2, m3, m4, hK⟩
    · refine ⟨_, hK, hr _ ?_⟩
      rcases h0 with ⟨⟨a, c, h, h', _⟩, _⟩ | ⟨n', hS, hE⟩
      · omega
      · rcases hS with ⟨rfl, _⟩ | ⟨_, _, _, a, c, h, _⟩
        · exact hE
        · omega
    · refine ⟨_, hK, hr _ ?_⟩
      obtain ⟨i, j, q1, q2, q3⟩ := m2
      rcases h0 with ⟨⟨a, c, h, h', e⟩, hE⟩ | ⟨n', hS, hE⟩
      · have := m1 c a h h'
        rw [loP_comm] at this
        have hM : M = 0 := by omega
        rw [if_pos hM]
        exact hE
      · rcases hS with ⟨_, hno⟩ | ⟨n1, n2, n3, a, c, hv, n4⟩
        · exact absurd ⟨q1, q2⟩ (hno j i)
        · have h1 := n3 j i ⟨q1, q2⟩
          rw [loP_comm] at h1
          have h2 := m1 c a hv.1 hv.2
          rw [loP_comm] at h2
          rw [if_neg (by omega), show M - 1 = n' by omega]
          exact hE
  · refine ⟨(0, 90), ?_, ?_⟩
    · exact evc (fun k => by rw [heard_Known.f, heard_Check.f, Option.bind_some, hc_no hk, if_neg (by omega)]) (Ev.now _)
    · have hc := hc_f (g := g) hs hp hpp
      rw [hc_no hk] at hc
      refine evc (fun k => by rw [saronref09_Known.f]) ?_
      exact ebind hc (evc (fun k => by rw [if_neg (by omega)]) (Ev.now _))
end
theorem HeardWholes.pure (g : Int) (l : List S114) (ps : List S62) (wg : (Lit.int .i64 g).wf = true) (hs : l.length ≤ 9223372036854775807 ∧ ∀ f ∈ l, f.f1.length ≤ 9223372036854775807 ∧ ∀ r ∈ f.f1, r.length ≤ 9223372036854775807) (hp : ps.length ≤ 9223372036854775807) (hpp : ∀ f ∈ ps, f.f1.length ≤ 9223372036854775807) (a b c : Int) (wa : (Lit.int .i64 a).wf = true) (wb : (Lit.int .i64 b).wf = true) (wc : (Lit.int .i64 c).wf = true) (t : List Int) (ht : t.length ≤ 9223372036854775807) :
    ∃ k, saronlaw09_HeardWholes.f k g l ps a b c t = some true := by
  refine Ev.rounds (g := fun k => saronlaw09_HeardWholes.f k g l ps a b c t) ?_
  refine evc (fun k => by rw [saronlaw09_HeardWholes.f, com_f hp, Option.bind_some]) ?_
  refine ebind (rcom_f hs hp hpp a b) ?_
  refine evc (fun k => by rw [if_pos rfl, show ((comV g l ps a b).2 != (comV g l ps a b).2) = false by simp]) ?_
  refine Ev.step (fun k => by rw [saronlaw09_HeardWholes.j0, if_neg (by simp)]) ?_
  refine ebind (who_f t c) ?_
  refine ebind (rwho_f hs hp hpp t c ht) ?_
  have hwl : (whoV g l ps t c).1.length ≤ 9223372036854775807 := by
    unfold whoV
    split
    · split
      · have := lst_len (whB ps t c) ps.length
        show (lst (whB ps t c) ps.length).length ≤ _
        omega
      · simp
    · simp
  refine ebind (equal_self (whoV g l ps t c).1 hwl) ?_
  refine evc (fun k => by rw [if_pos rfl, show ((whoV g l ps t c).2 != (whoV g l ps t c).2) = false by simp]) ?_
  refine Ev.step (fun k => by rw [saronlaw09_HeardWholes.j1, if_neg (by simp)]) ?_
  obtain ⟨r, h1, h2⟩ := kno_f (g := g) hs hp hpp
  refine ebind h1 ?_
  refine ebind h2 ?_
  refine evc (fun k => by rw [if_pos rfl, if_pos rfl, saronlaw09_listened.f, Option.bind_some]) ?_
  exact Ev.now true
end Go.Proofs.YtfdenclnneigfaaDoor
