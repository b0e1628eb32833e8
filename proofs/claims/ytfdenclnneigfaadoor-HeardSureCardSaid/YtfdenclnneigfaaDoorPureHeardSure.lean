import Derived.Test.YtfdenclnneigfaaDoorQH2
import Derived.Test.YtfdenclnneigfaaDoorLSure
set_option linter.unusedVariables false
set_option linter.unusedSimpArgs false
namespace Go.Proofs.YtfdenclnneigfaaDoor
open Go.RowKit PRaspKeys R Q Go.Proofs.YtfdenclnneigfaaDoorW.PrintWords Go.Proofs.YtfdenclnneigfaaDoorW.PrintLast
theorem mx_max (a b : Int) : mx a b = max a b := by unfold mx; split <;> omega
theorem mn_min (a b : Int) : mn a b = min a b := by unfold mn; split <;> omega
section
variable {g : Int} {l : List S114} {ps : List S62}
/-- What the law knows of the pairs that were looked at. -/
def HeardSure.St (ps : List S62) (V : Nat → Nat → Prop) (al : Bool) (le : Int) : Prop :=
  (le = -1 ∧ al = false ∧ ∀ i j, ¬ V i j) ∨ (0 ≤ le ∧ le ≤ 24 ∧ al = decide (le = 0) ∧ (∀ i j, V i j → le ≤ loP ps i j) ∧ ∃ i j, V i j ∧ le = loP ps i j)
theorem HeardSure.St.of {ps : List S62} {V V' : Nat → Nat → Prop} {al : Bool} {le : Int} (h : HeardSure.St ps V al le) (e : ∀ i j, V i j ↔ V' i j) : HeardSure.St ps V' al le := by
  rcases h with ⟨h1, h2, h3⟩ | ⟨h1, h2, h3, h4, i, j, h5, h6⟩
  · exact .inl ⟨h1, h2, fun i j hv => h3 i j ((e i j).2 hv)⟩
  · exact .inr ⟨h1, h2, h3, fun i j hv => h4 i j ((e i j).2 hv), i, j, (e i j).1 h5, h6⟩
theorem HeardSure.St.add {ps : List S62} {V V' : Nat → Nat → Prop} {al : Bool} {le : Int} (h : HeardSure.St ps V al le) {i j : Nat} (hl : 0 ≤ loP ps i j ∧ loP ps i j ≤ 24) (e : ∀ a c, V' a c ↔ V a c ∨ (a = i ∧ c = j)) :
    HeardSure.St ps V' (al || decide (loP ps i j = 0)) (if le < 0 ∨ loP ps i j < le then loP ps i j else le) := by
  rcases h with ⟨h1, h2, h3⟩ | ⟨h1, h2, h3, h4, a, c, h5, h6⟩
  · subst h1 h2
    rw [if_pos (.inl (by omega)), Bool.false_or]
    exact .inr ⟨hl.1, hl.2, rfl, fun a c hv => by
      rcases (e a c).1 hv with h | ⟨rfl, rfl⟩
      · exact absurd h (h3 a c)
      · omega, i, j, (e i j).2 (.inr ⟨rfl, rfl⟩), rfl⟩
  · subst h3
    by_cases c1 : loP ps i j < le
    · rw [if_pos (.inr c1)]
      refine .inr ⟨hl.1, hl.2, ?_, fun a c hv => ?_, i, j, (e i j).2 (.inr ⟨rfl, rfl⟩), rfl⟩
      · rw [decide_eq_false (show ¬ le = 0 by omega), Bool.false_or]
      · rcases (e a c).1 hv with h | ⟨rfl, rfl⟩
        · have := h4 a c h; omega
        · omega
    · rw [if_neg (by omega)]
      refine .inr ⟨h1, h2, ?_, fun a c hv => ?_, a, c, (e a c).2 (.inl h5), h6⟩
      · by_cases z : le = 0
        · rw [decide_eq_true z, Bool.true_or]
        · rw [decide_eq_false z, decide_eq_false (show ¬ loP ps i j = 0 by omega), Bool.false_or]
      · rcases (e a c).1 hv with h | ⟨rfl, rfl⟩
        · exact h4 a c h
        · omega
theorem HeardSure.l1_ev (hk : hbookOk g l ps = true) (bits : List Int) (most er p : Int) (t : List Int) (i : Nat) (hi : i < ps.length) :
    ∀ (d j : Nat) (al : Bool) (le : Int), j + d = ps.length → i < j → HeardSure.St ps (fun a c => a < c ∧ c < ps.length ∧ (a < i ∨ a = i ∧ c < j)) al le →
    ∃ al' le', HeardSure.St ps (fun a c => a < c ∧ c < ps.length ∧ a < i + 1) al' le' ∧ ∀ R, Ev (fun k => saronlaw09_HeardSure.l0 k bits most er p t al' le' ((i + 1 : Nat) : Int) g l ps) R → Ev (fun k => saronlaw09_HeardSure.l1 k bits most er p t al le (i : Int) (j : Int) g l ps) R
  | 0, j, al, le, hd, hij, hS => by
    have h6 := (hbookOk_iff.1 hk).2.1
    refine ⟨al, le, hS.of (fun a c => by constructor <;> rintro ⟨h1, h2, h3⟩ <;> exact ⟨h1, h2, by omega⟩), fun R hR => ?_⟩
    exact Ev.step (fun k => by rw [saronlaw09_HeardSure.l1, if_neg (by omega), w64 (x := (i : Int) + 1) (by omega) (by omega), show ((i : Int) + 1) = ((i + 1 : Nat) : Int) by omega]) hR
  | d + 1, j, al, le, hd, hij, hS => by
    have h6 := (hbookOk_iff.1 hk).2.1
    have hlo := loP_bnd hk hi (show j < ps.length by omega)
    have hS' := hS.add (V' := fun a c => a < c ∧ c < ps.length ∧ (a < i ∨ a = i ∧ c < j + 1)) hlo (fun a c => by constructor <;> intro h <;> omega)
    obtain ⟨al', le', h1, h2⟩ := HeardSure.l1_ev hk bits most er p t i hi d (j + 1) _ _ (by omega) (by omega) hS'
    refine ⟨al', le', h1, fun R hR => ?_⟩
    have hR2 := h2 R hR
    refine Ev.step (fun k => by rw [saronlaw09_HeardSure.l1, if_pos (by omega), common_f hk (a := (i : Int)) (b := (j : Int)) (by omega) (by omega) (by omega) (by omega), Option.bind_some, if_pos (by omega), if_pos (by omega), if_pos (by omega), if_pos rfl, mx_max, show max ((rd_T62 ps (i : Int)).f1.length : Int) ((rd_T62 ps (j : Int)).f1.length : Int) - (H.lcs (rd_T62 ps (i : Int)).f1 (rd_T62 ps (j : Int)).f1, (0 : Int)).1 = loP ps i j from rfl, w64 (x := loP ps i j) (by omega) (by omega), decide_eq_false (show ¬ loP ps i j < 0 by omega)]) ?_
    have hw : wrap64 ((j : Int) + 1) = ((j + 1 : Nat) : Int) := by rw [w64 (by omega) (by omega)]; omega
    have hbe : (loP ps i j == 0) = decide (loP ps i j = 0) := rfl
    cases al
    · rw [Bool.false_or] at hR2
      by_cases c1 : le < 0
      · rw [if_pos (.inl c1)] at hR2
        exact Ev.step (fun k => by rw [saronlaw09_HeardSure.j2, if_neg (by simp), if_neg (by simp), if_pos c1, hw, hbe]) hR2
      · by_cases c2 : loP ps i j < le
        · rw [if_pos (.inr c2)] at hR2
          exact Ev.step (fun k => by rw [saronlaw09_HeardSure.j2, if_neg (by simp), if_neg (by simp), if_neg c1, if_pos c2, hw, hbe]) hR2
        · rw [if_neg (by omega)] at hR2
          exact Ev.step (fun k => by rw [saronlaw09_HeardSure.j2, if_neg (by simp), if_neg (by simp), if_neg c1, if_neg c2, hw, hbe]) hR2
    · rw [Bool.true_or] at hR2
      by_cases c1 : le < 0
      · rw [if_pos (.inl c1)] at hR2
        exact Ev.step (fun k => by rw [saronlaw09_HeardSure.j2, if_neg (by simp), if_pos rfl, if_pos c1, hw]) hR2
      · by_cases c2 : loP ps i j < le
        · rw [if_pos (.inr c2)] at hR2
          exact Ev.step (fun k => by rw [saronlaw09_HeardSure.j2, if_neg (by simp), if_pos rfl, if_neg c1, if_pos c2, hw]) hR2
        · rw [if_neg (by omega)] at hR2
          exact Ev.step (fun k => by rw [saronlaw09_HeardSure.j2, if_neg (by simp), if_pos rfl, if_neg c1, if_neg c2, hw]) hR2
theorem HeardSure.l0_ev (hk : hbookOk g l ps = true) (bits : List Int) (most er p : Int) (t : List Int) :
    ∀ (d i : Nat) (al : Bool) (le : Int), i + d = ps.length → HeardSure.St ps (fun a c => a < c ∧ c < ps.length ∧ a < i) al le →
    ∃ al' le', HeardSure.St ps (fun a c => a < c ∧ c < ps.length) al' le' ∧ ∀ R, Ev (fun k => saronlaw09_HeardSure.l0 k bits most er p t al' le' (ps.length : Int) g l ps) R → Ev (fun k => saronlaw09_HeardSure.l0 k bits most er p t al le (i : Int) g l ps) R
  | 0, i, al, le, hd, hS => by
    obtain rfl : i = ps.length := by omega
    exact ⟨al, le, hS.of (fun a c => by constructor <;> intro h <;> omega), fun R hR => hR⟩
  | d + 1, i, al, le, hd, hS => by
    have h6 := (hbookOk_iff.1 hk).2.1
    obtain ⟨a1, b1, h1, h2⟩ := HeardSure.l1_ev hk bits most er p t i (by omega) (ps.length - (i + 1)) (i + 1) al le (by omega) (by omega) (hS.of (fun a c => by constructor <;> intro h <;> omega))
    obtain ⟨a2, b2, h3, h4⟩ := HeardSure.l0_ev hk bits most er p t d (i + 1) a1 b1 (by omega) h1
    refine ⟨a2, b2, h3, fun R hR => ?_⟩
    exact Ev.step (fun k => by rw [saronlaw09_HeardSure.l0, if_pos (by omega), w64 (x := (i : Int) + 1) (by omega) (by omega), show ((i : Int) + 1) = ((i + 1 : Nat) : Int) by omega]) (h2 R (h4 R hR))
theorem lst_one (h : Nat → Bool) (m : Nat) (hm : h m = true) : ∀ n, (∀ i, i < n → h i = true → i = m) → lst h n = if m < n then [(m : Int)] else []
  | 0, _ => by rw [if_neg (by omega)]; rfl
  | n + 1, hu => by
    have ih := lst_one h m hm n (fun i hi => hu i (by omega))
    unfold lst
    by_cases c : h n = true
    · obtain rfl := hu n (by omega) c
      rw [if_pos c, ih, if_neg (by omega), if_pos (by omega)]
      rfl
    · rw [if_neg c, ih]
      by_cases e : m < n
      · rw [if_pos e, if_pos (by omega)]
      · rw [if_neg e, if_neg (fun h' => c (by rw [show n = m by omega]; exact hm))]
theorem HeardSure.j3_ev (hk : hbookOk g l ps = true) (bits : List Int) (hbits : bits.length ≤ 9223372036854775807) (M : Int) (hM0 : 1 ≤ M) (hM : M ≤ 24) (hle : ∀ i j : Nat, j < i → i < ps.length → M ≤ loP ps i j) (p : Nat) (hp : p < ps.length) :
    Ev (fun k => saronlaw09_HeardSure.j3 k bits (M - 1) (p : Int) (rd_T62 ps (p : Int)).f1 false g l ps) true := by
  have h6 := (hbookOk_iff.1 hk).2.1
  have pp := piece_f (piece_at hk (n := (p : Int)) (by omega) (by omega))
  obtain ⟨lost, hlo⟩ : ∃ lost : Int, lost = mn (M - 1) 6 := ⟨_, rfl⟩
  have hl := mn_min (M - 1) 6
  obtain ⟨r, hr, hsub, hgone⟩ := some_f (rd_T62 ps (p : Int)).f1 bits lost (by omega) hbits (by omega)
  have hrl := hsub.length_le
  have hrv : ∀ y ∈ r, 0 ≤ y ∧ y ≤ 6 := fun y hy => pp.2.2 y (hsub.subset hy)
  have hlcs : H.lcs (rd_T62 ps (p : Int)).f1 r = r.length := H.lcs_sub.2 hsub
  have hwp : whB ps r lost p = true := by unfold whB; rw [decide_eq_true hlcs, decide_eq_true (by omega)]; rfl
  have huniq : ∀ i, i < ps.length → whB ps r lost i = true → i = p := by
    intro i hi hw
    apply Decidable.byContradiction
    intro hne
    unfold whB at hw
    rw [Bool.and_eq_true, decide_eq_true_eq, decide_eq_true_eq] at hw
    have hs2 := H.lcs_sub.1 hw.1
    have hmax := H.lcs_max _ _ r hsub hs2
    have hlo2 : loP ps p i ≤ lost := by unfold loP; omega
    have : M ≤ loP ps p i := by
      by_cases c : i < p
      · exact hle p i c hp
      · rw [loP_comm]; exact hle i p (by omega) hi
    omega
  have hone := lst_one (whB ps r lost) p hwp ps.length huniq
  rw [if_pos hp] at hone
  refine Ev.step (fun k => by rw [saronlaw09_HeardSure.j3, if_neg (by simp), ← hlo]) ?_
  refine ebind hr ?_
  refine ebind (whole_f hk r lost (by omega) hrv (by omega) (by omega)) ?_
  rw [hone]
  refine evc (fun k => by rw [if_pos rfl]) ?_
  refine ebind (equal_one [(p : Int)] (p : Int) (by simp)) ?_
  refine evc (fun k => by rw [beq_self_eq_true, if_pos rfl, saronlaw09_listened.f, Option.bind_some]) ?_
  exact Ev.now true
end
theorem HeardSure.pure (g : Int) (l : List S114) (ps : List S62) (wg : (Lit.int .i64 g).wf = true) (hs : l.length ≤ 9223372036854775807 ∧ ∀ f ∈ l, f.f1.length ≤ 9223372036854775807 ∧ ∀ r ∈ f.f1, r.length ≤ 9223372036854775807) (hp : ps.length ≤ 9223372036854775807) (hpp : ∀ f ∈ ps, f.f1.length ≤ 9223372036854775807) (a : Int) (wa : (Lit.int .i64 a).wf = true) (bits : List Int) (hbits : bits.length ≤ 9223372036854775807) :
    ∃ k, saronlaw09_HeardSure.f k g l ps a bits = some true := by
  refine Ev.rounds (g := fun k => saronlaw09_HeardSure.f k g l ps a bits) ?_
  refine evc (fun k => by rw [saronlaw09_HeardSure.f]) ?_
  by_cases hk : hbookOk g l ps = true
  · have h6 := (hbookOk_iff.1 hk).2.1
    have i0 := Int.emod_nonneg a (show (ps.length : Int) ≠ 0 by omega)
    have i1 := Int.emod_lt_of_pos a (show (0 : Int) < ps.length by omega)
    have ht := turn_f a (ps.length : Int) (by omega) (by omega)
    generalize a % (ps.length : Int) = i at i0 i1 ht
    obtain ⟨p, rfl⟩ := Int.eq_ofNat_of_zero_le i0
    have hS0 : HeardSure.St ps (fun a c => a < c ∧ c < ps.length ∧ a < 0) false (-1) := .inl ⟨rfl, rfl, fun i j h => by omega⟩
    rcases known_f hk with ⟨h1, hK⟩ | ⟨h2, M, m1, m2, m3, m4, hK⟩
    · refine ebind hK ?_
      refine ebind (hsound_f hs) ?_
      refine evc (fun k => by rw [if_pos hk, ht, Option.bind_some, if_pos i0, if_pos i1]) ?_
      obtain ⟨al, le, hS, hE⟩ := HeardSure.l0_ev hk bits ((rd_T62 ps 0).f1.length : Int) 0 (p : Int) (rd_T62 ps (p : Int)).f1 ps.length 0 false (-1) (by omega) hS0
      obtain rfl : p = 0 := by omega
      refine hE true ?_
      rcases hS with ⟨rfl, rfl, _⟩ | ⟨_, _, _, _, i, j, hv, _⟩
      · refine Ev.step (fun k => by rw [saronlaw09_HeardSure.l0, if_neg (by omega), if_pos rfl, if_pos (by omega), if_pos (show ((rd_T62 ps 0).f1.length : Int) = ((rd_T62 ps ((0 : Nat) : Int)).f1.length : Int) from rfl), saronlaw09_listened.f, Option.bind_some]) ?_
        exact Ev.now true
      · omega
    · refine ebind hK ?_
      refine ebind (hsound_f hs) ?_
      refine evc (fun k => by rw [if_pos hk, ht, Option.bind_some, if_pos i0, if_pos i1]) ?_
      obtain ⟨al, le, hS, hE⟩ := HeardSure.l0_ev hk bits (if M = 0 then ((0 : Int), (4 : Int)) else (M - 1, 0)).1 (if M = 0 then ((0 : Int), (4 : Int)) else (M - 1, 0)).2 (p : Int) (rd_T62 ps (p : Int)).f1 ps.length 0 false (-1) (by omega) hS0
      refine hE true ?_
      obtain ⟨i, j, q1, q2, q3⟩ := m2
      rcases hS with ⟨rfl, rfl, hno⟩ | ⟨n1, n2, n3, n4, i', j', hv, n5⟩
      · exact absurd ⟨q1, q2⟩ (hno j i)
      · have hle := n4 j i ⟨q1, q2⟩
        rw [loP_comm] at hle
        have hge := m1 j' i' hv.1 hv.2
        rw [loP_comm] at hge
        obtain rfl : le = M := by omega
        by_cases hz : le = 0
        · subst hz
          rw [if_pos rfl]
          refine Ev.step (fun k => by rw [saronlaw09_HeardSure.l0, if_neg (by omega), if_neg (by omega), if_pos rfl, if_pos rfl, n3, decide_eq_true rfl, if_pos rfl, saronlaw09_listened.f, Option.bind_some]) ?_
          exact Ev.now true
        · rw [if_neg hz]
          rw [decide_eq_false hz] at n3
          subst n3
          refine Ev.step (fun k => by rw [saronlaw09_HeardSure.l0, if_neg (by omega), if_pos rfl, if_neg (by omega), if_neg (by simp), w64 (x := le - 1) (by omega) (by omega), show (le - 1 != le - 1) = false by simp]) ?_
          exact HeardSure.j3_ev hk bits hbits le (by omega) m4 m1 p (by omega)
  · have hK : Ev (fun k => heard_Known.f k g l ps) (0, 90) := by
      refine evc (fun k => by rw [heard_Known.f, heard_Check.f, Option.bind_some, show hcheckE g l ps = 90 by unfold hcheckE; rw [if_neg hk], if_neg (by omega)]) ?_
      exact Ev.now _
    refine ebind hK ?_
    refine ebind (hsound_f hs) ?_
    refine evc (fun k => by rw [if_neg hk, if_pos rfl, if_pos rfl, saronlaw09_listened.f, Option.bind_some]) ?_
    exact Ev.now true
end Go.Proofs.YtfdenclnneigfaaDoor
