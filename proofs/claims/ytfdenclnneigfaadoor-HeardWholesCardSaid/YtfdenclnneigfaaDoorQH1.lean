import Derived.Test.YtfdenclnneigfaaDoorQH0
import Derived.Test.YtfdenclnneigfaaDoorCD
set_option linter.unusedVariables false
set_option linter.unusedSimpArgs false
namespace Go.Proofs.YtfdenclnneigfaaDoor.Q
open Go.RowKit Go.Proofs.YtfdenclnneigfaaDoorW.PrintWords Go.Proofs.YtfdenclnneigfaaDoorW.PrintLast Go.Proofs.YtfdenclnneigfaaDoor.PRaspKeys Go.Proofs.YtfdenclnneigfaaDoor.R

/-! ### Books, and what the law draws -/
theorem turn_f (a b : Int) (hb : 1 ≤ b) (hb2 : b ≤ 9223372036854775807) : saronref00_Turn.f a b = some (a % b) := by
  have e1 := Int.emod_nonneg a (show b ≠ 0 by omega)
  have e2 := Int.emod_lt_of_pos a (show 0 < b by omega)
  unfold saronref00_Turn.f
  rw [if_neg (by omega), if_neg (by omega), Int.tmod_eq_emod]
  by_cases c : 0 ≤ a ∨ b ∣ a
  · rw [if_pos c, if_neg (by omega)]
    simp
  · rw [if_neg c]
    have hn : ((b.natAbs : Nat) : Int) = b := by omega
    rw [hn, if_pos (by omega), w64 (by omega) (by omega)]
    congr 1
    omega
theorem nth_f (bits : List Int) (i : Int) (hm : bits.length ≤ 9223372036854775807) : ∃ v, saronref00_Nth.f bits i = some v := by
  unfold saronref00_Nth.f
  by_cases h0 : (bits.length : Int) = 0
  · exact ⟨0, by rw [if_pos h0]⟩
  · rw [if_neg h0, turn_f i _ (by omega) (by omega), Option.bind_some]
    have h1 := Int.emod_nonneg i h0
    have h2 := Int.emod_lt_of_pos i (show (0 : Int) < bits.length by omega)
    exact ⟨_, by rw [if_pos h1, if_pos h2]⟩
section
variable {g : Int} {l : List S114} {ps : List S62}
theorem hbookOk_iff : hbookOk g l ps = true ↔ bookOk g l = true ∧ (1 ≤ (ps.length : Int) ∧ (ps.length : Int) ≤ 6) ∧ ∀ p ∈ ps, pieceOk l.length p = true := by
  unfold hbookOk
  rw [Bool.and_eq_true, Bool.and_eq_true, isIn_iff, List.all_eq_true, and_assoc]
theorem piece_at (hk : hbookOk g l ps = true) {n : Int} (h0 : 0 ≤ n) (h1 : n < ps.length) : pieceOk l.length (rd_T62 ps n) = true := by
  obtain ⟨m, rfl⟩ := Int.eq_ofNat_of_zero_le h0
  rw [show ((m : Nat) : Int) = (m : Int) from rfl, rdT62 ps m (by omega)]
  exact (hbookOk_iff.1 hk).2.2 _ (List.getElem_mem _)
theorem piece_f {n : Int} (h : pieceOk l.length (rd_T62 ps n) = true) : (0 ≤ (rd_T62 ps n).f0 ∧ (rd_T62 ps n).f0 ≤ (l.length : Int) - 1) ∧ (1 ≤ ((rd_T62 ps n).f1.length : Int) ∧ ((rd_T62 ps n).f1.length : Int) ≤ 24) ∧ ∀ y ∈ (rd_T62 ps n).f1, 0 ≤ y ∧ y ≤ 6 := by
  unfold pieceOk at h
  rw [Bool.and_eq_true, isIn_iff, tonesB_iff] at h
  exact ⟨h.1, h.2.1, h.2.2⟩
theorem hsound_l1 (hl : l.length ≤ 9223372036854775807) (x4 : Int) (t : List Int) (ht : (t.length : Int) ≤ 24) (hv : ∀ y ∈ t, 0 ≤ y ∧ y ≤ 6) {R : Bool} (hn : Ev (fun k => saronlaw09_sound.l0 k true (wrap64 (x4 + 1)) g l ps) R) : ∀ (d n : Nat), n + d = t.length →
    Ev (fun k => saronlaw09_sound.l1 k true x4 t (n : Int) g l ps) R
  | 0, n, hd => Ev.step (fun k => by rw [saronlaw09_sound.l1, if_pos rfl, if_neg (by omega)]) hn
  | d + 1, n, hd => by
    have hlt : n < t.length := by omega
    have hy := hv t[n] (List.getElem_mem hlt)
    refine Ev.step (fun k => by rw [saronlaw09_sound.l1, if_pos rfl, if_pos (by omega), if_pos (by omega), rd_nat, show t.getD n 0 = t[n] by simp [hlt], sits_f, Option.bind_some, show isIn t[n] 0 6 = true from isIn_iff.2 hy, w64 (x := (n : Int) + 1) (by omega) (by omega), show ((n : Int) + 1) = ((n + 1 : Nat) : Int) by omega]) ?_
    exact hsound_l1 hl x4 t ht hv hn d (n + 1) (by omega)
theorem hsound_l0 (hl : l.length ≤ 9223372036854775807) (hk : hbookOk g l ps = true) : ∀ (d n : Nat), n + d = ps.length → Ev (fun k => saronlaw09_sound.l0 k true (n : Int) g l ps) true
  | 0, n, hd => by
    refine Ev.step (fun k => by rw [saronlaw09_sound.l0, if_pos rfl, show decide ((n : Int) < (ps.length : Int)) = false from decide_eq_false (by omega)]) ?_
    exact Ev.step (fun k => by rw [saronlaw09_sound.j2, if_neg (by simp)]) (Ev.now true)
  | d + 1, n, hd => by
    have hp := piece_f (piece_at hk (n := (n : Int)) (by omega) (by omega))
    have h6 := (hbookOk_iff.1 hk).2.1
    refine Ev.step (fun k => by rw [saronlaw09_sound.l0, if_pos rfl, show decide ((n : Int) < (ps.length : Int)) = true from decide_eq_true (by omega)]) ?_
    refine Ev.step (fun k => by rw [saronlaw09_sound.j2, if_pos rfl, if_pos (by omega), if_pos (by omega), sits_f, Option.bind_some, show isIn ((rd_T62 ps (n : Int)).f1.length : Int) 1 24 = true from isIn_iff.2 hp.2.1, if_pos rfl, sits_f, Option.bind_some, w64 (x := (l.length : Int) - 1) (by omega) (by omega), show isIn (rd_T62 ps (n : Int)).f0 0 ((l.length : Int) - 1) = true from isIn_iff.2 hp.1]) ?_
    refine Ev.step (fun k => by rw [saronlaw09_sound.j3]) ?_
    refine hsound_l1 hl (n : Int) _ hp.2.1.2 hp.2.2 ?_ (rd_T62 ps (n : Int)).f1.length 0 (by omega)
    refine evc (fun k => by rw [w64 (x := (n : Int) + 1) (by omega) (by omega), show ((n : Int) + 1) = ((n + 1 : Nat) : Int) by omega]) ?_
    exact hsound_l0 hl hk d (n + 1) (by omega)
theorem hsound_f (hs : l.length ≤ 9223372036854775807 ∧ ∀ f ∈ l, f.f1.length ≤ 9223372036854775807 ∧ ∀ r ∈ f.f1, r.length ≤ 9223372036854775807) : Ev (fun k => saronlaw09_sound.f k g l ps) (hbookOk g l ps) := by
  by_cases hk : hbookOk g l ps = true
  · have hb := hbookOk_iff.1 hk
    refine evc (fun k => by rw [saronlaw09_sound.f, heard_Check.f, Option.bind_some, show hcheckE g l ps = 0 by unfold hcheckE; rw [if_pos hk], if_pos rfl]) ?_
    have hc := check_f (g := g) (l := l) hs.1 hs.2
    rw [show checkE g l = 0 by unfold checkE; rw [if_pos hb.1]] at hc
    refine ebind hc ?_
    refine evc (fun k => by rw [if_pos rfl, sits_f, Option.bind_some, show isIn (ps.length : Int) 1 6 = true from isIn_iff.2 hb.2.1]) ?_
    rw [hk]
    exact Ev.step (fun k => by rw [saronlaw09_sound.j0]; rfl) (hsound_l0 hs.1 hk ps.length 0 (by omega))
  · refine evc (fun k => by rw [saronlaw09_sound.f, heard_Check.f, Option.bind_some, show hcheckE g l ps = 90 by unfold hcheckE; rw [if_neg hk], if_neg (by omega)]) ?_
    rw [Bool.not_eq_true] at hk
    rw [hk]
    refine Ev.step (fun k => by rw [saronlaw09_sound.j0]) ?_
    refine Ev.step (fun k => by rw [saronlaw09_sound.l0, if_neg (by simp)]) ?_
    exact Ev.step (fun k => by rw [saronlaw09_sound.j2, if_neg (by simp)]) (Ev.now false)
theorem common_f (hk : hbookOk g l ps = true) {a b : Int} (a0 : 0 ≤ a) (a1 : a < ps.length) (b0 : 0 ≤ b) (b1 : b < ps.length) : heard_Common.f g l ps a b = some (H.lcs (rd_T62 ps a).f1 (rd_T62 ps b).f1, 0) := by
  have h6 := (hbookOk_iff.1 hk).2.1
  have pa := piece_f (piece_at hk a0 a1)
  have pb := piece_f (piece_at hk b0 b1)
  rw [heard_Common.f, heard_Check.f, Option.bind_some, show hcheckE g l ps = 0 by unfold hcheckE; rw [if_pos hk], if_pos rfl, heard_lies.f, Option.bind_some, w64 (x := (ps.length : Int) - 1) (by omega) (by omega), show isIn a 0 ((ps.length : Int) - 1) = true from isIn_iff.2 (by omega), if_pos rfl, heard_lies.f, Option.bind_some, show isIn b 0 ((ps.length : Int) - 1) = true from isIn_iff.2 (by omega), if_pos rfl, if_pos a0, if_pos a1, if_pos b0, if_pos b1, heard_common.f, if_pos (by omega), Option.bind_some]
/-- The pieces that tones are, but for some strokes. -/
def whB (ps : List S62) (t : List Int) (lost : Int) (k : Nat) : Bool := decide (H.lcs (rd_T62 ps (k : Int)).f1 t = t.length) && decide (((rd_T62 ps (k : Int)).f1.length : Int) - t.length ≤ lost)
theorem whole_l0 (hk : hbookOk g l ps = true) (t : List Int) (lost : Int) (ht : t.length ≤ 24) : ∀ (d n : Nat), n + d = ps.length →
    Ev (fun k => heard_Whole.l0 k t lost (lst (whB ps t lost) n) ps (ps.length : Int) (n : Int)) (lst (whB ps t lost) ps.length, 0)
  | 0, n, hd => by
    refine Ev.step (fun k => by rw [heard_Whole.l0, if_neg (by omega)]) ?_
    rw [show n = ps.length by omega]
    exact Ev.now _
  | d + 1, n, hd => by
    have h6 := (hbookOk_iff.1 hk).2.1
    have pn := piece_f (piece_at hk (n := (n : Int)) (by omega) (by omega))
    have ih := whole_l0 hk t lost ht d (n + 1) (by omega)
    have hll := lst_len (whB ps t lost) n
    rw [lst] at ih
    refine Ev.step (fun k => by rw [heard_Whole.l0, if_pos (by omega), if_pos (by omega), if_pos (by omega), heard_common.f, if_pos (by omega), Option.bind_some, w64 (x := ((rd_T62 ps (n : Int)).f1.length : Int) - (t.length : Int)) (by omega) (by omega), w64 (x := (n : Int) + 1) (by omega) (by omega), show ((n : Int) + 1) = ((n + 1 : Nat) : Int) by omega]) ?_
    by_cases c1 : H.lcs (rd_T62 ps (n : Int)).f1 t = t.length
    · by_cases c2 : ((rd_T62 ps (n : Int)).f1.length : Int) - t.length ≤ lost
      · rw [if_pos (show whB ps t lost n = true by unfold whB; rw [decide_eq_true c1, decide_eq_true c2]; rfl)] at ih
        exact evc (fun k => by rw [if_pos c1, if_pos c2, if_pos (by omega)]) ih
      · rw [if_neg (show ¬ whB ps t lost n = true by unfold whB; rw [decide_eq_false c2, Bool.and_false]; simp)] at ih
        exact evc (fun k => by rw [if_pos c1, if_neg c2]) ih
    · rw [if_neg (show ¬ whB ps t lost n = true by unfold whB; rw [decide_eq_false c1, Bool.false_and]; simp)] at ih
      exact evc (fun k => by rw [if_neg c1]) ih
theorem whole_f (hk : hbookOk g l ps = true) (t : List Int) (lost : Int) (ht : t.length ≤ 24) (hv : ∀ y ∈ t, 0 ≤ y ∧ y ≤ 6) (l0 : 0 ≤ lost) (l1 : lost ≤ 6) : Ev (fun k => heard_Whole.f k g l ps t lost) (lst (whB ps t lost) ps.length, 0) := by
  refine evc (fun k => by rw [heard_Whole.f, heard_Check.f, Option.bind_some, show hcheckE g l ps = 0 by unfold hcheckE; rw [if_pos hk], if_pos rfl, heard_areTones.f, Option.bind_some, show tonesB t 0 = true from tonesB_iff.2 ⟨by omega, hv⟩, if_pos rfl, heard_lies.f, Option.bind_some, show isIn lost 0 6 = true from isIn_iff.2 ⟨l0, l1⟩]) ?_
  exact Ev.step (fun k => by rw [heard_Whole.j0, if_neg (by simp)]; rfl) (whole_l0 hk t lost ht ps.length 0 (by omega))
end
theorem some_l0 (t bits : List Int) (lost : Int) (ht : t.length ≤ 24) (hb : bits.length ≤ 9223372036854775807) : ∀ (d n : Nat) (acc : List Int) (gone : Int), n + d = t.length → acc.Sublist (t.take n) → gone + acc.length = n → 0 ≤ gone → gone ≤ max lost 0 →
    ∃ r : List Int, Ev (fun k => saronlaw09_some.l0 k t lost bits acc gone (n : Int)) r ∧ r.Sublist t ∧ (t.length : Int) - r.length ≤ max lost 0
  | 0, n, acc, gone, hd, hs, hg, g0, g1 => by
    have e : t.take n = t := List.take_of_length_le (by omega)
    rw [e] at hs
    exact ⟨acc, Ev.step (fun k => by rw [saronlaw09_some.l0, if_neg (by omega)]) (Ev.now acc), hs, by omega⟩
  | d + 1, n, acc, gone, hd, hs, hg, g0, g1 => by
    have hlt : n < t.length := by omega
    have htk : t.take (n + 1) = t.take n ++ [t[n]] := by rw [List.take_add_one, List.getElem?_eq_getElem hlt]; rfl
    have hal := hs.length_le
    rw [List.length_take] at hal
    have hadd : (acc ++ [t[n]]).Sublist (t.take (n + 1)) := by rw [htk]; exact List.Sublist.append hs (List.Sublist.refl _)
    obtain ⟨v, hv⟩ := nth_f bits (n : Int) hb
    by_cases c1 : gone < lost
    · by_cases c2 : v % 3 = 0
      · obtain ⟨r, h1, h2, h3⟩ := some_l0 t bits lost ht hb d (n + 1) acc (gone + 1) (by omega) (by rw [htk]; exact hs.trans (List.sublist_append_left _ _)) (by push_cast; omega) (by omega) (by omega)
        refine ⟨r, ?_, h2, h3⟩
        refine Ev.step (fun k => by rw [saronlaw09_some.l0, if_pos (by omega), if_pos c1, hv, Option.bind_some, turn_f v 3 (by omega) (by omega), Option.bind_some, if_pos c2, w64 (x := gone + 1) (by omega) (by omega), w64 (x := (n : Int) + 1) (by omega) (by omega), show ((n : Int) + 1) = ((n + 1 : Nat) : Int) by omega]) h1
      · obtain ⟨r, h1, h2, h3⟩ := some_l0 t bits lost ht hb d (n + 1) (acc ++ [t[n]]) gone (by omega) hadd (by rw [List.length_append, List.length_singleton]; push_cast; omega) g0 g1
        refine ⟨r, ?_, h2, h3⟩
        refine Ev.step (fun k => by rw [saronlaw09_some.l0, if_pos (by omega), if_pos c1, hv, Option.bind_some, turn_f v 3 (by omega) (by omega), Option.bind_some, if_neg c2, if_pos (by omega), if_pos (by omega), rd_nat, show t.getD n 0 = t[n] by simp [hlt], w64 (x := (n : Int) + 1) (by omega) (by omega), show ((n : Int) + 1) = ((n + 1 : Nat) : Int) by omega]) h1
    · obtain ⟨r, h1, h2, h3⟩ := some_l0 t bits lost ht hb d (n + 1) (acc ++ [t[n]]) gone (by omega) hadd (by rw [List.length_append, List.length_singleton]; push_cast; omega) g0 g1
      refine ⟨r, ?_, h2, h3⟩
      refine Ev.step (fun k => by rw [saronlaw09_some.l0, if_pos (by omega), if_neg c1, if_pos (by omega), if_pos (by omega), rd_nat, show t.getD n 0 = t[n] by simp [hlt], w64 (x := (n : Int) + 1) (by omega) (by omega), show ((n : Int) + 1) = ((n + 1 : Nat) : Int) by omega]) h1
theorem some_f (t bits : List Int) (lost : Int) (ht : t.length ≤ 24) (hb : bits.length ≤ 9223372036854775807) (h0 : 0 ≤ lost) : ∃ r : List Int, Ev (fun k => saronlaw09_some.f k t lost bits) r ∧ r.Sublist t ∧ (t.length : Int) - r.length ≤ lost := by
  obtain ⟨r, h1, h2, h3⟩ := some_l0 t bits lost ht hb t.length 0 [] 0 (by omega) (List.nil_sublist _) (by simp) (by omega) (by omega)
  exact ⟨r, evc (fun k => by rw [saronlaw09_some.f]; rfl) h1, h2, by omega⟩
end Go.Proofs.YtfdenclnneigfaaDoor.Q
