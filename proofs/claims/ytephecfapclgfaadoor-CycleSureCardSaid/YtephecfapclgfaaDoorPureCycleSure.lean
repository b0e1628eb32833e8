import Derived.Test.YtephecfapclgfaaDoorQF
import Derived.Test.YtephecfapclgfaaDoorLSure
set_option linter.unusedVariables false
set_option linter.unusedSimpArgs false
namespace Go.Proofs.YtephecfapclgfaaDoor
open Go.RowKit PRaspKeys R Q Go.Proofs.YtephecfapclgfaaDoorW.PrintWords
theorem CycleSure.pure (g : Int) (l : List S63) (wg : (Lit.int .i64 g).wf = true) (hs : Small l) (a b c d : Int) (wa : (Lit.int .i64 a).wf = true) (wb : (Lit.int .i64 b).wf = true) (wc : (Lit.int .i64 c).wf = true) (wd : (Lit.int .i64 d).wf = true) (bits : List Int) (hbits : bits.length ≤ 9223372036854775807) :
    ∃ k, saronlaw05_CycleSure.f k g l a b c d bits = some true := by
  refine Ev.rounds (g := fun k => saronlaw05_CycleSure.f k g l a b c d bits) ?_
  have ha0 := Int.emod_nonneg a (show (7 : Int) ≠ 0 by omega)
  have ha1 := Int.emod_lt_of_pos a (show (0 : Int) < 7 by omega)
  refine evc (fun k => by rw [saronlaw05_CycleSure.f, turn_f a 7 (by omega) (by omega), Option.bind_some, cycle_Sure.f, Option.bind_some]) ?_
  refine ebind (sound_f hs) ?_
  generalize a % 7 = lost at ha0 ha1 ⊢
  by_cases hb : bookOk g l = true
  · obtain ⟨m1, m2, m3, m4⟩ := sureM_spec l lost
    have hS := sureF_ok hb ha0 (show lost ≤ 6 by omega)
    by_cases c64 : sureM l lost = 64
    · rw [if_pos c64] at hS
      rcases conf_cases hb ha0 (show lost ≤ 6 by omega) (show (1 : Int) ≤ 64 by omega) (show (64 : Int) ≤ 64 by omega) with ⟨_, hno⟩ | ⟨s, hs1, t, ht1, hC, hbf, _⟩
      · obtain ⟨s, hs1, t, ht1, hbf, e⟩ := m4 (by omega)
        have := hno s hs1 t ht1 hbf
        omega
      · have hne := bef_ne hbf
        refine evc (fun k => by rw [if_pos hb, hS, if_neg (by show ¬ (4 : Int) = 0; omega), cycle_Confused.f, hC, Option.bind_some, if_pos rfl, if_pos rfl, if_pos rfl, if_pos (by
          show (!(s.f0 == t.f0) || !(s.f1 == t.f1)) = true
          by_cases e0 : s.f0 = t.f0
          · by_cases e1 : s.f1 = t.f1
            · exact absurd (by cases s; cases t; simp_all) hne
            · simp [e1]
          · simp [e0]), saronlaw05_marked.f, Option.bind_some]) ?_
        exact Ev.now true
    · rw [if_neg c64] at hS
      obtain ⟨v, hv, hv1, hv2⟩ := draw_f (sureM l lost + 1) 64 d (by omega) (by omega) (by omega)
      obtain ⟨many, rfl⟩ : ∃ many : Nat, v = many := ⟨v.toNat, by omega⟩
      have hno : ∀ s ∈ spotsN l l.length, ∀ t ∈ spotsN l l.length, befB s t = true → untilF l s.f0 s.f1 t.f0 t.f1 lost < many := fun s hs1 t ht1 hbf => by
        have := m3 s hs1 t ht1 hbf
        omega
      have hC : confF g l lost many = ((⟨0, 0⟩, ⟨0, 0⟩), 4) := by
        rcases conf_cases hb ha0 (show lost ≤ 6 by omega) (show (1 : Int) ≤ (many : Int) by omega) (by omega) with ⟨e, _⟩ | ⟨s, hs1, t, ht1, _, hbf, hge⟩
        · exact e
        · have := hno s hs1 t ht1 hbf
          omega
      obtain ⟨t1, h2, h3⟩ := spot_f hb b c
      obtain ⟨_, h0, h1⟩ := form_turn hb b
      refine evc (fun k => by rw [if_pos hb, hS, if_pos rfl, sits_f, Option.bind_some, isIn_iff.2 (show 1 ≤ sureM l lost + 1 ∧ sureM l lost + 1 ≤ 64 by omega), if_pos rfl, saronref00_Band.f, Option.bind_some, hv, Option.bind_some, cycle_Confused.f, hC, Option.bind_some, t1, Option.bind_some]) ?_
      generalize c % (rd_T63 l (b % (l.length : Int))).f0 = s1 at h2 h3 ⊢
      generalize b % (l.length : Int) = s0 at h0 h1 h2 h3 ⊢
      have hsp := isSpotB_of h0 h1 h2 h3
      refine evc (fun k => by rw [cycle_Passage.f, passF_ok hb hsp many (by omega) (by omega), Option.bind_some]) ?_
      obtain ⟨heard, q1, q2, q3, q4, q5⟩ := missed_f hb s0 s1 h0 h1 many (by omega) (by omega) lost ha0 (by omega) bits hbits
      refine ebind q5 ?_
      have hmem := mem_spotsN l l.length ⟨s0, s1⟩ h0 h1 h2 h3
      have hone := one_spot hb many (by omega) (by omega) hno q2 q1 hmem q3 q4
      refine evc (fun k => by rw [cycle_Places.f, placesF_ok hb q2 ha0 (by omega), hone, Option.bind_some, if_pos rfl, if_pos rfl, if_pos rfl]) ?_
      refine ebind (spots_self [(⟨s0, s1⟩ : S38)] (by simp)) ?_
      refine Ev.step (fun k => by rw [saronlaw05_CycleSure.j0, if_neg (by simp)]) ?_
      by_cases c1 : sureM l lost + 1 = 1
      · refine evc (fun k => by rw [if_pos (show (sureM l lost + 1, (0 : Int)).1 = 1 from c1), saronlaw05_marked.f, Option.bind_some]) ?_
        exact Ev.now true
      · obtain ⟨s, hs1, t, ht1, hbf, e⟩ := m4 (by omega)
        rcases conf_cases hb ha0 (show lost ≤ 6 by omega) (show (1 : Int) ≤ sureM l lost by omega) (by omega) with ⟨_, hno2⟩ | ⟨s', hs', t', ht', hC2, _, _⟩
        · have := hno2 s hs1 t ht1 hbf
          omega
        · refine evc (fun k => by rw [if_neg (show ¬ (sureM l lost + 1, (0 : Int)).1 = 1 from c1), show wrap64 ((sureM l lost + 1, (0 : Int)).1 - 1) = sureM l lost by show wrap64 (sureM l lost + 1 - 1) = _; rw [w64 (by omega) (by omega)]; omega, cycle_Confused.f, hC2, Option.bind_some, if_pos rfl, saronlaw05_marked.f, Option.bind_some]) ?_
          exact Ev.now true
  · have hS : sureF g l lost = (0, 50) := by unfold sureF; rw [no_book hb, if_neg (by omega)]
    refine evc (fun k => by rw [if_neg hb, hS, if_pos rfl, if_pos rfl, saronlaw05_marked.f, Option.bind_some]) ?_
    exact Ev.now true
end Go.Proofs.YtephecfapclgfaaDoor
