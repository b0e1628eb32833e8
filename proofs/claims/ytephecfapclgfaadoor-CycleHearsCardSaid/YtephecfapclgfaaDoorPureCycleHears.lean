import Derived.Test.YtephecfapclgfaaDoorQH
import Derived.Test.YtephecfapclgfaaDoorLHears
set_option linter.unusedVariables false
set_option linter.unusedSimpArgs false
namespace Go.Proofs.YtephecfapclgfaaDoor
open Go.RowKit PRaspKeys R Q Go.Proofs.YtephecfapclgfaaDoorW.PrintWords
theorem passF_len (g : Int) (l : List S63) (s0 s1 many : Int) : (passF g l s0 s1 many).1.length ≤ 64 ∧ ∀ r ∈ (passF g l s0 s1 many).1, r.length ≤ 5 := by
  unfold passF
  by_cases hz : openE g l (okPassage g l s0 s1 many) = 0
  · rw [if_pos hz]
    have ho := (openE_ok hz).2
    unfold okPassage at ho
    simp only [Bool.and_eq_true, isIn_iff] at ho
    refine ⟨by rw [passR_len]; omega, fun r hr => ?_⟩
    obtain ⟨k, _, rfl⟩ := List.mem_map.1 hr
    exact lst_len _ 5
  · rw [if_neg hz]
    simp
theorem placesF_len (g : Int) (l : List S63) (p : List (List Int)) (lost : Int) : (placesF g l p lost).1.length ≤ 1000 := by
  unfold placesF
  by_cases hz : openE g l (okPlaces g l p lost) = 0
  · rw [if_pos hz]
    have hb := (openE_ok hz).1
    have h4 := (beats_of hb).len
    have hl := spotsN_len (beats_of hb) l.length (Nat.le_refl _)
    have := List.length_filter_le (fitsP l p lost) (spotsN l l.length)
    show ((spotsN l l.length).filter (fitsP l p lost)).length ≤ 1000
    omega
  · rw [if_neg hz]
    simp
theorem missingF_len (g : Int) (l : List S63) (s0 s1 : Int) (p : List (List Int)) : (missingF g l s0 s1 p).1.length ≤ 1000 := by
  unfold missingF
  by_cases hz : openE g l (okMissing g l p s0 s1) = 0
  · rw [if_pos hz]
    obtain ⟨hb, ho⟩ := openE_ok hz
    unfold okMissing at ho
    rw [Bool.and_eq_true] at ho
    obtain ⟨q1, q2, q3, q4⟩ := heard_rows hb ho.1
    obtain ⟨e1, e2⟩ := missF_iff l s0 s1 p
    have hl := lostN_len l s0 s1 p p.length
    by_cases c : (missF l s0 s1 p).2 = true
    · rw [if_pos c]
      rw [e1] at c
      show (missF l s0 s1 p).1.length ≤ 1000
      rw [e2 c]
      omega
    · rw [if_neg c]
      simp
  · rw [if_neg hz]
    simp
theorem CycleHears.pure (g : Int) (l : List S63) (wg : (Lit.int .i64 g).wf = true) (hs : Small l) (s0 s1 many : Int) (p : List (List Int)) (hp0 : p.length ≤ 9223372036854775807) (hp1 : ∀ r ∈ p, r.length ≤ 9223372036854775807) (lost : Int)
    (w2 : (Lit.int .i64 s0).wf = true) (w3 : (Lit.int .i64 s1).wf = true) (w4 : (Lit.int .i64 many).wf = true) (w6 : (Lit.int .i64 lost).wf = true) :
    ∃ k, saronlaw05_CycleHears.f k g l s0 s1 many p lost = some true := by
  refine Ev.rounds (g := fun k => saronlaw05_CycleHears.f k g l s0 s1 many p lost) ?_
  obtain ⟨h1, h2⟩ := passF_len g l s0 s1 many
  have h3 := placesF_len g l p lost
  have h4 := missingF_len g l s0 s1 p
  refine evc (fun k => by rw [saronlaw05_CycleHears.f, cycle_Passage.f, Option.bind_some]) ?_
  refine ebind (Passage_f hs s0 s1 many) ?_
  refine ebind (equalRows_self _ (by omega) (fun r hr => by have := h2 r hr; omega)) ?_
  refine evc (fun k => by rw [if_pos rfl]) ?_
  refine Ev.step (fun k => by rw [saronlaw05_CycleHears.j0, if_neg (by simp), cycle_Places.f, Option.bind_some]) ?_
  refine ebind (Places_f hs p ⟨hp0, hp1⟩ lost) ?_
  refine ebind (spots_self _ (by omega)) ?_
  refine evc (fun k => by rw [if_pos rfl]) ?_
  refine Ev.step (fun k => by rw [saronlaw05_CycleHears.j1, if_neg (by simp), cycle_Least.f, Option.bind_some]) ?_
  refine ebind (Least_f hs p ⟨hp0, hp1⟩) ?_
  refine evc (fun k => by rw [if_pos rfl]) ?_
  refine Ev.step (fun k => by rw [saronlaw05_CycleHears.j2, if_neg (by simp), cycle_Missing.f, Option.bind_some]) ?_
  refine ebind (Missing_f hs s0 s1 p ⟨hp0, hp1⟩) ?_
  refine ebind (strokes_self _ (by omega)) ?_
  refine evc (fun k => by rw [if_pos rfl, if_pos rfl, saronlaw05_marked.f]) ?_
  exact Ev.now true
end Go.Proofs.YtephecfapclgfaaDoor
