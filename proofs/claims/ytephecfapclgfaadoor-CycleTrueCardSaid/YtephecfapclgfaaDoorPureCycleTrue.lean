import Derived.Test.YtephecfapclgfaaDoorQE
import Derived.Test.YtephecfapclgfaaDoorLTrue
set_option linter.unusedVariables false
set_option linter.unusedSimpArgs false
namespace Go.Proofs.YtephecfapclgfaaDoor
open Go.RowKit PRaspKeys R Q Go.Proofs.YtephecfapclgfaaDoorW.PrintWords
theorem CycleTrue.loop {g : Int} {l : List S63} (hb : bookOk g l = true) (heard : List (List Int)) (hh : heardB g heard = true) (lost least : Int) (s0 s1 : Int) (L : List S38) (hL : L.length ≤ 1000)
    (hLs : ∀ t ∈ L, (0 ≤ t.f0 ∧ t.f0 < l.length ∧ 0 ≤ t.f1 ∧ t.f1 < (rd_T63 l t.f0).f0) ∧ fitN l t.f0 t.f1 heard heard.length = true ∧ ((lostN l t.f0 t.f1 heard heard.length).length : Int) ≤ lost ∧ least ≤ ((lostN l t.f0 t.f1 heard heard.length).length : Int)) :
    ∀ (d n : Nat) (found : Bool), n + d = L.length → (found = true ∨ ∃ j, ∃ h : j < L.length, n ≤ j ∧ L[j] = ⟨s0, s1⟩) →
    Ev (fun k => saronlaw05_CycleTrue.l0 k lost heard L least found (n : Int) g l s0 s1) true
  | 0, n, found, hd, hf => by
    have e : found = true := by
      rcases hf with e | ⟨j, hj, hn, _⟩
      · exact e
      · omega
    subst e
    refine Ev.step (fun k => by rw [saronlaw05_CycleTrue.l0, if_neg (by omega), if_pos rfl, saronlaw05_marked.f, Option.bind_some]) ?_
    exact Ev.now true
  | d + 1, n, found, hd, hf => by
    have hn : n < L.length := by omega
    obtain ⟨⟨a1, a2, a3, a4⟩, b1, b2, b3⟩ := hLs _ (List.getElem_mem hn)
    have hrd : rd_T38 L (n : Int) = L[n] := by simp [rd_T38, hn]
    have hM := missingF_ok hb hh (isSpotB_of a1 a2 a3 a4)
    rw [if_pos b1] at hM
    cases found
    · refine Ev.step (fun k => by rw [saronlaw05_CycleTrue.l0, if_pos (by omega), if_neg (by simp), if_pos (by omega), hrd, cycle_Missing.f, hM, Option.bind_some, if_pos rfl, if_neg (by show ¬ ((lostN l L[n].f0 L[n].f1 heard heard.length).length : Int) > lost; omega), if_neg (by show ¬ ((lostN l L[n].f0 L[n].f1 heard heard.length).length : Int) < least; omega), w64 (x := (n : Int) + 1) (by omega) (by omega), show ((n : Int) + 1) = ((n + 1 : Nat) : Int) by omega]) ?_
      refine CycleTrue.loop hb heard hh lost least s0 s1 L hL hLs d (n + 1) _ (by omega) ?_
      rcases hf with e | ⟨j, hj, hnj, e⟩
      · cases e
      · by_cases c : j = n
        · subst c
          left
          rw [e]; simp
        · exact .inr ⟨j, hj, by omega, e⟩
    · refine Ev.step (fun k => by rw [saronlaw05_CycleTrue.l0, if_pos (by omega), if_pos rfl, if_pos (by omega), hrd, cycle_Missing.f, hM, Option.bind_some, if_pos rfl, if_neg (by show ¬ ((lostN l L[n].f0 L[n].f1 heard heard.length).length : Int) > lost; omega), if_neg (by show ¬ ((lostN l L[n].f0 L[n].f1 heard heard.length).length : Int) < least; omega), w64 (x := (n : Int) + 1) (by omega) (by omega), show ((n : Int) + 1) = ((n + 1 : Nat) : Int) by omega]) ?_
      exact CycleTrue.loop hb heard hh lost least s0 s1 L hL hLs d (n + 1) true (by omega) (.inl rfl)
theorem CycleTrue.pure (g : Int) (l : List S63) (wg : (Lit.int .i64 g).wf = true) (hs : Small l) (a b c d : Int) (wa : (Lit.int .i64 a).wf = true) (wb : (Lit.int .i64 b).wf = true) (wc : (Lit.int .i64 c).wf = true) (wd : (Lit.int .i64 d).wf = true) (bits : List Int) (hbits : bits.length ≤ 9223372036854775807) :
    ∃ k, saronlaw05_CycleTrue.f k g l a b c d bits = some true := by
  refine Ev.rounds (g := fun k => saronlaw05_CycleTrue.f k g l a b c d bits) ?_
  refine evc (fun k => by rw [saronlaw05_CycleTrue.f]) ?_
  refine ebind (sound_f hs) ?_
  by_cases hb : bookOk g l = true
  · obtain ⟨t1, h2, h3⟩ := spot_f hb a b
    obtain ⟨_, h0, h1⟩ := form_turn hb a
    have hc0 := Int.emod_nonneg c (show (64 : Int) ≠ 0 by omega)
    have hc1 := Int.emod_lt_of_pos c (show (0 : Int) < 64 by omega)
    have hd0 := Int.emod_nonneg d (show (7 : Int) ≠ 0 by omega)
    have hd1 := Int.emod_lt_of_pos d (show (0 : Int) < 7 by omega)
    refine evc (fun k => by rw [if_pos hb, t1, Option.bind_some, turn_f c 64 (by omega) (by omega), Option.bind_some, turn_f d 7 (by omega) (by omega), Option.bind_some, w64 (x := 1 + c % 64) (by omega) (by omega)]) ?_
    generalize b % (rd_T63 l (a % (l.length : Int))).f0 = s1 at h2 h3 ⊢
    generalize a % (l.length : Int) = s0 at h0 h1 h2 h3 ⊢
    generalize d % 7 = lost at hd0 hd1 ⊢
    obtain ⟨many, hmany⟩ : ∃ many : Nat, 1 + c % 64 = many := ⟨(1 + c % 64).toNat, by omega⟩
    rw [hmany]
    have hsp := isSpotB_of h0 h1 h2 h3
    have hpl := passR_len l s0 s1 many
    refine evc (fun k => by rw [cycle_Passage.f, passF_ok hb hsp many (by omega) (by omega), Option.bind_some, if_pos rfl, show (((passR l s0 s1 many, (0 : Int)).1.length : Int) != (many : Int)) = false by rw [bne_eq_false_iff_eq]; show ((passR l s0 s1 many).length : Int) = many; omega]) ?_
    obtain ⟨heard, m1, m2, m3, m4, m5⟩ := missed_f hb s0 s1 h0 h1 many (by omega) (by omega) lost hd0 (by omega) bits hbits
    refine Ev.step (fun k => by rw [saronlaw05_CycleTrue.j0, if_neg (by simp)]) ?_
    refine ebind m5 ?_
    have hM := missingF_ok hb m2 hsp
    rw [if_pos m3] at hM
    have hmem := mem_spotsN l l.length ⟨s0, s1⟩ h0 h1 h2 h3
    obtain ⟨i1, _, _, i4⟩ := least_spec (l := l) heard (spotsN l l.length) (-1) (by omega)
    have hle := i1 _ hmem m3
    have hleast : leastF g l heard = (leastN l heard, 0) := by rw [leastF_ok hb m2, if_neg (by unfold leastN; omega)]
    have hll := lostN_len l s0 s1 heard heard.length
    refine evc (fun k => by rw [cycle_Places.f, placesF_ok hb m2 hd0 (by omega), Option.bind_some, cycle_Missing.f, hM, Option.bind_some, cycle_Least.f, hleast, Option.bind_some, if_pos rfl, if_pos rfl, if_pos rfl, sits_f, Option.bind_some, isIn_iff.2 (show 0 ≤ leastN l heard ∧ leastN l heard ≤ ((lostN l s0 s1 heard heard.length).length : Int) from hle), if_pos rfl]) ?_
    refine ebind (strokes_self (lostN l s0 s1 heard heard.length) (by omega)) ?_
    refine Ev.step (fun k => by rw [saronlaw05_CycleTrue.j1, if_neg (by simp)]) ?_
    have h4 := (beats_of hb).len
    have hsl := spotsN_len (beats_of hb) l.length (Nat.le_refl _)
    have hfl := List.length_filter_le (fitsP l heard lost) (spotsN l l.length)
    refine CycleTrue.loop hb heard m2 lost (leastN l heard) s0 s1 ((spotsN l l.length).filter (fitsP l heard lost)) (by omega) (fun t ht => ?_) _ 0 false (Nat.zero_add _) ?_
    · obtain ⟨ht1, ht2⟩ := List.mem_filter.1 ht
      have hin := spotsN_in l _ t ht1
      obtain ⟨f1, f2⟩ := fitsP_iff.1 ht2
      exact ⟨hin, f1, f2, (i1 t ht1 f1).2⟩
    · right
      have hm : (⟨s0, s1⟩ : S38) ∈ (spotsN l l.length).filter (fitsP l heard lost) := List.mem_filter.2 ⟨hmem, fitsP_iff.2 ⟨m3, m4⟩⟩
      obtain ⟨j, hj, e⟩ := List.getElem_of_mem hm
      exact ⟨j, hj, Nat.zero_le _, e⟩
  · refine evc (fun k => by rw [if_neg hb, saronlaw05_marked.f, Option.bind_some]) ?_
    exact Ev.now true
end Go.Proofs.YtephecfapclgfaaDoor
