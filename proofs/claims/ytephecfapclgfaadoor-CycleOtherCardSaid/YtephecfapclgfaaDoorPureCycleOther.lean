import Derived.Test.YtephecfapclgfaaDoorG10
set_option linter.unusedVariables false
set_option linter.unusedSimpArgs false
namespace Go.Proofs.YtephecfapclgfaaDoor.Q
open Go.RowKit Go.Proofs.YtephecfapclgfaaDoorW.PrintWords Go.Proofs.YtephecfapclgfaaDoorW.PrintLast Go.Proofs.YtephecfapclgfaaDoor.PRaspKeys Go.Proofs.YtephecfapclgfaaDoor.R

/-! ### The law CycleOther -/
section
variable {g : Int} {l : List S63}
theorem fitL_N (hb : bookOk g l = true) {p : List (List Int)} (hh : heardB g p = true) (a b : Int) : ∀ k, k ≤ p.length → fitL p (passR l a b p.length) k = fitN l a b p k
  | 0, _ => rfl
  | k + 1, h => by
    unfold fitL fitN
    rw [fitL_N hb hh a b k (by omega), passR_at _ _ _ _ _ (show k < p.length by omega), fitK_has hb hh]
theorem misL_N (l : List S63) {p : List (List Int)} (a b : Int) : ∀ k, k ≤ p.length → misL p (passR l a b p.length) k = missN l a b p k
  | 0, _ => rfl
  | k + 1, h => by
    unfold misL missN
    rw [misL_N l a b k (by omega), passR_at _ _ _ _ _ (show k < p.length by omega)]
theorem foundL_mem (a b : Int) (L : List S38) : foundL a b L L.length = true ↔ (⟨a, b⟩ : S38) ∈ L := by
  unfold foundL
  rw [List.take_length, List.any_eq_true]
  constructor
  · rintro ⟨t, ht, e⟩
    rw [Bool.and_eq_true, beq_iff_eq, beq_iff_eq] at e
    rw [← e.1, ← e.2]
    exact ht
  · intro h
    exact ⟨_, h, by simp⟩
theorem law9 (A : Option Addr) (c : Nat) (Ap : Option Addr) (cp : Nat) (p : List (List Int)) (n0 n1 n2 : Int) (w : World) (hB : Book w A c l) (hr : Kd.C (Kd.slice 3 (Kd.int .i64)) w Ap p.length p) (hc : p.length ≤ cp) :
    Calls Tryd.prog 9 #[.agg #[.int .i64 g, .slice A l.length c], .slice Ap p.length cp, .agg #[.int .i64 n0, .int .i64 n1, .int .i64 n2]] w fun e w' => e = .returned (.bool true) ∧ X.Fr0 w w' := by
  have ha0 := Int.emod_nonneg n0 (show (7 : Int) ≠ 0 by omega)
  have ha1 := Int.emod_lt_of_pos n0 (show (0 : Int) < 7 by omega)
  by_cases hb : bookOk g l = true
  · by_cases hh : heardB g p = true
    · obtain ⟨q1, q2, q3, q4⟩ := heard_rows hb hh
      obtain ⟨t1, h2, h3⟩ := spot_f hb n1 n2
      obtain ⟨_, h0, h1⟩ := form_turn hb n1
      generalize n2 % (rd_T63 l (n1 % (l.length : Int))).f0 = b at t1 h2 h3
      generalize n1 % (l.length : Int) = a at t1 h0 h1 h2 h3
      have hsp := isSpotB_of h0 h1 h2 h3
      have hpl := passR_len l a b p.length
      have hhu := hh
      unfold heardB at hhu
      rw [Bool.and_eq_true] at hhu
      have h4 := (beats_of hb).len
      have hsl := spotsN_len (beats_of hb) l.length (Nat.le_refl _)
      have hfl := List.length_filter_le (fitsP l p (n0 % 7)) (spotsN l l.length)
      have hmem := mem_spotsN l l.length ⟨a, b⟩ h0 h1 h2 h3
      have hin : ((⟨a, b⟩ : S38) ∈ (spotsN l l.length).filter (fitsP l p (n0 % 7))) ↔ fitN l a b p p.length = true ∧ ((lostN l a b p p.length).length : Int) ≤ n0 % 7 := by
        rw [List.mem_filter, fitsP_iff]
        exact ⟨fun h => h.2, fun h => ⟨hmem, h⟩⟩
      have hlen : ((spotsN l l.length).filter (fitsP l p (n0 % 7))).length ≤ 1000 := by omega
      have hpw := (spotsN_sorted l l.length).filter (fitsP l p (n0 % 7))
      have hnn : ∀ t ∈ (spotsN l l.length).filter (fitsP l p (n0 % 7)), befB ⟨-1, 0⟩ t = true := fun t ht => befB_iff.2 (.inl (by have := spotsN_in l _ t (List.mem_filter.1 ht).1; simp only; omega))
      have hP := placesF_ok hb hh ha0 (show n0 % 7 ≤ 6 by omega)
      generalize (spotsN l l.length).filter (fitsP l p (n0 % 7)) = L at hin hlen hpw hnn hP
      have hq5 : ∀ k, ((passR l a b p.length).getD k []).length ≤ 5 := fun k => by
        by_cases c : k < p.length
        · rw [passR_at _ _ _ _ _ c]; exact lst_len _ 5
        · rw [getD_ge _ (by rw [passR_len]; omega)]; simp
      have hM := missingF_ok hb hh hsp
      have hfm := foundL_mem a b L
      by_cases hf : fitN l a b p p.length = true
      · have hml := miss_lost hb hh a b h0 h1 p.length (Nat.le_refl _) hf
        rw [if_pos hf] at hM
        refine other_heard g A c l Ap cp p n0 n1 n2 w hB hr hc hb L hP hhu.1 hhu.2 a b t1 _ (passF_ok hb hsp p.length (by omega) (by omega)) hpl (by omega) (fun k => by have := q3 k; omega) hq5 _ _ hM hlen (fun n h => hnn _ (List.getElem_mem h)) hpw _ (fitL_N hb hh a b _ (Nat.le_refl _)) _ (misL_N l a b _ (Nat.le_refl _)) _ rfl ?_
        refine .inl ⟨hf, rfl, hml.symm, ?_⟩
        rw [Bool.eq_iff_iff, decide_eq_true_eq, hfm, hin, hml]
        exact ⟨fun h => h.2, fun h => ⟨hf, h⟩⟩
      · rw [if_neg hf] at hM
        refine other_heard g A c l Ap cp p n0 n1 n2 w hB hr hc hb L hP hhu.1 hhu.2 a b t1 _ (passF_ok hb hsp p.length (by omega) (by omega)) hpl (by omega) (fun k => by have := q3 k; omega) hq5 _ _ hM hlen (fun n h => hnn _ (List.getElem_mem h)) hpw _ (fitL_N hb hh a b _ (Nat.le_refl _)) _ (misL_N l a b _ (Nat.le_refl _)) _ rfl ?_
        refine .inr ⟨by simpa using hf, rfl, rfl, ?_⟩
        rw [← Bool.not_eq_true, hfm, hin]
        exact fun h => hf h.1
    · have hP : placesF g l p (n0 % 7) = ([], 51) := by
        unfold placesF okPlaces
        rw [Bool.not_eq_true] at hh
        rw [hh, Bool.false_and, show openE g l false = 51 by unfold openE; rw [if_pos hb, if_neg (by simp)], if_neg (by omega)]
      rw [Bool.not_eq_true] at hh
      exact other_deaf g A c l Ap cp p n0 n1 n2 w hB hr hc hb hP _ rfl hh
  · have hP : placesF g l p (n0 % 7) = ([], 50) := by
      unfold placesF
      rw [no_book hb, if_neg (by omega)]
    exact other_bad g A c l Ap cp p n0 n1 n2 w hB hr hc (by simpa using hb) hP
end
end Go.Proofs.YtephecfapclgfaaDoor.Q
namespace Go.Proofs.YtephecfapclgfaaDoor.PRaspKeys
open Go.RowKit Go.Proofs.YtephecfapclgfaaDoorW.PrintWords Go.Proofs.YtephecfapclgfaaDoorW.PrintLast Go.Proofs.YtephecfapclgfaaDoor.R
def saronlaw05_CycleOther.f (k : Nat) (g : Int) (l : List S63) (p : List (List Int)) (n0 n1 n2 : Int) : Option Bool := some true
theorem saronlaw05_CycleOther.calls (k : Nat) (a0_0 : Int) (A0_1 : Option Addr) (c0_1 : Nat) (l0_1 : List (S63)) (A1 : Option Addr) (c1 : Nat) (l1 : List (List Int)) (a2_0 : Int) (a2_1 : Int) (a2_2 : Int) (r : Bool) (w : World) (hr0_1 : Kd.C k63 w A0_1 l0_1.length l0_1) (hc0_1 : l0_1.length ≤ c0_1) (hr1 : Kd.C (Kd.slice 3 (Kd.int .i64)) w A1 l1.length l1) (hc1 : l1.length ≤ c1) (hG : Glob w) (h : saronlaw05_CycleOther.f k a0_0 l0_1 l1 a2_0 a2_1 a2_2 = some r) :
    Calls Tryd.prog 9 #[.agg #[.int .i64 a0_0, .slice A0_1 l0_1.length c0_1], .slice A1 l1.length c1, .agg #[.int .i64 a2_0, .int .i64 a2_1, .int .i64 a2_2]] w fun e w' => e = .returned (.bool r) ∧ Below w.heap.size w w' := by
  cases Option.some.inj h
  exact (Q.law9 A0_1 c0_1 A1 c1 l1 a2_0 a2_1 a2_2 w ⟨hr0_1, hc0_1, hG⟩ hr1 hc1).mono fun e w' h => ⟨h.1, fr_below h.2⟩
end Go.Proofs.YtephecfapclgfaaDoor.PRaspKeys
namespace Go.Proofs.YtephecfapclgfaaDoor
open Go.RowKit PRaspKeys R Q
theorem CycleOther.pure (g : Int) (l : List S63) (wg : (Lit.int .i64 g).wf = true) (hs : Small l) (p : List (List Int)) (hp0 : p.length ≤ 9223372036854775807) (hp1 : ∀ r ∈ p, r.length ≤ 9223372036854775807) (a b c : Int) (wa : (Lit.int .i64 a).wf = true) (wb : (Lit.int .i64 b).wf = true) (wc : (Lit.int .i64 c).wf = true) :
    ∃ k, saronlaw05_CycleOther.f k g l p a b c = some true := ⟨0, rfl⟩
end Go.Proofs.YtephecfapclgfaaDoor
