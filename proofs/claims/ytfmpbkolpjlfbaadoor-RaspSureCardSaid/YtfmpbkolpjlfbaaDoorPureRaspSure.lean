import Derived.Test.YtfmpbkolpjlfbaaDoorPH
import Derived.Test.YtfmpbkolpjlfbaaDoorLSure
set_option linter.unusedVariables false
set_option linter.unusedSimpArgs false
namespace Go.Proofs.YtfmpbkolpjlfbaaDoor
open Go.RowKit PRaspKeys R Q Go.Proofs.YtfmpbkolpjlfbaaDoorW.PrintWords
theorem RaspSure.walk (l0 : List S57) (lo hi : Int) (l3 : List S69) (hb : bookOk l0 lo hi l3 = true) (bits : List Int) (hm : bits.length ≤ 9223372036854775807) : ∀ (n : Nat) (o m left i : Int), -60 ≤ o ∧ o ≤ 60 → 0 ≤ m → m < n → m ≤ 30 → (strk l0 lo hi 0 o m).2 ≠ 1000 → (strk l0 lo hi 0 o m).2 ≤ left → left ≤ 1000 → 0 ≤ i → i + m ≤ 1000 →
    Ev (fun k => saronlaw03_RaspSure.l0 k bits o m left i l0 lo hi l3) true
  | 0, o, m, left, i, ho, h0, hn, hm', hne, hle, hl1, hi0, him => by omega
  | n + 1, o, m, left, i, ho, h0, hn, hm', hne, hle, hl1, hi0, him => by
    have hs := sound_of hb
    have hlen := len_ok hb
    have hsb := strk_bnd l0 lo hi 0 o m
    have hnx := next_ok hb ho h0 hm'
    rw [if_neg hne] at hnx
    refine Ev.step (fun k => by rw [saronlaw03_RaspSure.l0, rasp_Next.f, hnx, Option.bind_some, if_pos rfl, sits_f, Option.bind_some, if_pos (isIn_iff.2 ⟨hsb.1, hle⟩), bears_f, Option.bind_some]) ?_
    by_cases hf : lo ≤ o ∧ o ≤ hi
    · have e := strk_fine hs (way := 0) h0 ho hf
      rw [e, isIn_iff.2 hf]
      refine evc (fun k => by rw [if_neg (by simp)]) ?_
      refine Ev.step (fun k => by rw [saronlaw03_RaspSure.j2, if_neg (by simp), if_pos rfl]) ?_
      exact Ev.now true
    · obtain ⟨j, hj, e1, hc, hc1, hs1, hst⟩ := step_ok hs o m h0 hm' ho hf hne
      have hmv := hs.move j hj
      rw [e1, show isIn o lo hi = false by rw [← Bool.not_eq_true, isIn_iff]; exact hf]
      have hj1 : (((j : Int)) == (-1)) = false := beq_eq_false_iff_ne.mpr (by omega)
      have hs0 : ((strk l0 lo hi 0 o m).2 == 0) = false := beq_eq_false_iff_ne.mpr (by omega)
      refine evc (fun k => by rw [hj1, if_neg (by simp), hs0]) ?_
      obtain ⟨v, hv⟩ := nth_f bits i hm
      obtain ⟨d, hd, hd1, hd2⟩ := draw_f (l0.getD j z57).f0.f0 (l0.getD j z57).f0.f1 v (by omega) (by omega) (by omega)
      obtain ⟨g1, g2, g3, g4⟩ := hst d hd1 hd2
      have hrd : rd_T57 l0 (j : Int) = l0.getD j z57 := by simp [rd_T57]
      refine Ev.step (fun k => by rw [saronlaw03_RaspSure.j2, if_neg (by simp), if_neg (by omega), sits_f, Option.bind_some, w64 (x := (l0.length : Int) - 1) (by omega) (by omega), isIn_iff.2 (show (0 : Int) ≤ (j : Int) ∧ (j : Int) ≤ (l0.length : Int) - 1 by omega)]) ?_
      refine Ev.step (fun k => by rw [saronlaw03_RaspSure.j3, if_neg (by simp), if_pos (by omega), if_pos (by omega), hv, Option.bind_some, hrd, hd, Option.bind_some, w64 (x := m - _) (by omega) (by omega), if_neg (by omega), w64 (x := o + d) (by omega) (by omega), sits_f, Option.bind_some, isIn_iff.2 ⟨g3, g4⟩, w64 (x := (strk l0 lo hi 0 o m).2 - 1) (by omega) (by omega)]) ?_
      refine Ev.step (fun k => by rw [saronlaw03_RaspSure.j4, if_neg (by simp), w64 (x := i + 1) (by omega) (by omega)]) ?_
      exact RaspSure.walk l0 lo hi l3 hb bits hm n (o + d) (m - (l0.getD j z57).f1) ((strk l0 lo hi 0 o m).2 - 1) (i + 1) ⟨g3, g4⟩ (by omega) (by omega) (by omega) g1 (by omega) (by omega) (by omega) (by omega)
theorem RaspSure.pure (l0 : List S57) (lo hi : Int) (l3 : List S69) (h0 : l0.length ≤ 9223372036854775807) (h3 : l3.length ≤ 9223372036854775807) (a b : Int) (wa : (Lit.int .i64 a).wf = true) (wb : (Lit.int .i64 b).wf = true) (bits : List Int) (hm : bits.length ≤ 9223372036854775807) :
    ∃ k, saronlaw03_RaspSure.f k l0 lo hi l3 a b bits = some true := by
  refine Ev.rounds (g := fun k => saronlaw03_RaspSure.f k l0 lo hi l3 a b bits) ?_
  refine ebind (sound_f l0 lo hi l3 h0 h3) ?_
  by_cases hb : bookOk l0 lo hi l3 = true
  · have ha := Int.emod_nonneg a (show (121 : Int) ≠ 0 by omega)
    have ha' := Int.emod_lt_of_pos a (show (0 : Int) < 121 by omega)
    have hbb := Int.emod_nonneg b (show (31 : Int) ≠ 0 by omega)
    have hbb' := Int.emod_lt_of_pos b (show (0 : Int) < 31 by omega)
    refine Ev.step (fun k => by rw [saronlaw03_RaspSure.j0, hb, if_neg (by simp), state_f, Option.bind_some, rasp_Next.f, Option.bind_some, next_ok hb (o := a % 121 - 60) (m := b % 31) (by omega) (by omega) (by omega)]) ?_
    by_cases hn : (strk l0 lo hi 0 (a % 121 - 60) (b % 31)).2 = 1000
    · refine ev_some fun k => ?_
      rw [if_pos hn]
      rfl
    · rw [if_neg hn]
      have hsb := strk_bnd l0 lo hi 0 (a % 121 - 60) (b % 31)
      refine evc (fun k => by rw [if_pos rfl]) ?_
      exact RaspSure.walk l0 lo hi l3 hb bits hm 31 (a % 121 - 60) (b % 31) (strk l0 lo hi 0 (a % 121 - 60) (b % 31)).2 0 (by omega) (by omega) (by omega) (by omega) hn (by omega) (by omega) (by omega) (by omega)
  · refine Ev.step (fun k => by rw [saronlaw03_RaspSure.j0, if_pos (by simpa using hb)]) ?_
    exact Ev.now true
end Go.Proofs.YtfmpbkolpjlfbaaDoor
