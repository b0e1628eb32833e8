import Derived.Test.YtfdenclnneigfaaDoorQH2
import Derived.Test.YtfdenclnneigfaaDoorQH3
import Derived.Test.YtfdenclnneigfaaDoorC1
import Derived.Test.YtfdenclnneigfaaDoorC3
import Derived.Test.YtfdenclnneigfaaDoorCW
import Derived.Test.YtfdenclnneigfaaDoorCN
set_option linter.unusedVariables false
set_option linter.unusedSimpArgs false
namespace Go.Proofs.YtfdenclnneigfaaDoor.Q
open Go.RowKit Go.Proofs.YtfdenclnneigfaaDoorW.PrintWords Go.Proofs.YtfdenclnneigfaaDoorW.PrintLast Go.Proofs.YtfdenclnneigfaaDoor.PRaspKeys Go.Proofs.YtfdenclnneigfaaDoor.R

/-! ### The reference: Check, asked -/
theorem mx_max (a b : Int) : mx a b = max a b := by unfold mx; split <;> omega
theorem rtones_l0 (t : List Int) (ht : t.length ≤ 9223372036854775807) : ∀ (d n : Nat) (q : Bool), n + d = t.length → Ev (fun k => saronref09_areTones.l0 k t q (n : Int)) (q && (t.drop n).all fun x => isIn x 0 6)
  | 0, n, q, hd => by
    rw [List.drop_of_length_le (by omega), List.all_nil, Bool.and_true]
    cases q
    · exact Ev.step (fun k => by rw [saronref09_areTones.l0, if_neg (by simp)]) (Ev.now false)
    · exact Ev.step (fun k => by rw [saronref09_areTones.l0, if_pos rfl, if_neg (by omega)]) (Ev.now true)
  | d + 1, n, q, hd => by
    have hlt : n < t.length := by omega
    cases q
    · rw [Bool.false_and]
      exact Ev.step (fun k => by rw [saronref09_areTones.l0, if_neg (by simp)]) (Ev.now false)
    · rw [Bool.true_and, List.drop_eq_getElem_cons hlt, List.all_cons]
      refine Ev.step (fun k => by rw [saronref09_areTones.l0, if_pos rfl, if_pos (by omega), if_pos (by omega), rd_nat, show t.getD n 0 = t[n] by simp [hlt], sits_f, Option.bind_some, w64 (x := (n : Int) + 1) (by omega) (by omega), show ((n : Int) + 1) = ((n + 1 : Nat) : Int) by omega]) ?_
      exact rtones_l0 t ht d (n + 1) _ (by omega)
theorem rtones_f (t : List Int) (lo : Int) (ht : t.length ≤ 9223372036854775807) : Ev (fun k => saronref09_areTones.f k t lo 24) (tonesB t lo) := by
  refine evc (fun k => by rw [saronref09_areTones.f, sits_f, Option.bind_some]) ?_
  exact rtones_l0 t ht t.length 0 _ (by omega)
section
variable {g : Int} {l : List S114} {ps : List S62}
theorem hc_l0 (hl : l.length ≤ 9223372036854775807) (hp : ps.length ≤ 9223372036854775807) (hpp : ∀ f ∈ ps, f.f1.length ≤ 9223372036854775807) : ∀ (d n : Nat) (q : Bool), n + d = ps.length → Ev (fun k => saronref09_Check.l0 k q (n : Int) g l ps) (if (q && (ps.drop n).all (pieceOk l.length)) = true then 0 else 90)
  | 0, n, q, hd => by
    rw [List.drop_of_length_le (by omega), List.all_nil, Bool.and_true]
    cases q
    · refine Ev.step (fun k => by rw [saronref09_Check.l0, if_neg (by simp)]) ?_
      exact Ev.step (fun k => by rw [saronref09_Check.j2, if_neg (by simp), if_neg (by simp)]) (Ev.now 90)
    · refine Ev.step (fun k => by rw [saronref09_Check.l0, if_pos rfl, decide_eq_false (show ¬ (n : Int) < ps.length by omega)]) ?_
      exact Ev.step (fun k => by rw [saronref09_Check.j2, if_neg (by simp), if_pos rfl]) (Ev.now 0)
  | d + 1, n, q, hd => by
    have hlt : n < ps.length := by omega
    cases q
    · rw [Bool.false_and]
      refine Ev.step (fun k => by rw [saronref09_Check.l0, if_neg (by simp)]) ?_
      exact Ev.step (fun k => by rw [saronref09_Check.j2, if_neg (by simp), if_neg (by simp)]) (Ev.now 90)
    · rw [Bool.true_and, List.drop_eq_getElem_cons hlt, List.all_cons]
      refine Ev.step (fun k => by rw [saronref09_Check.l0, if_pos rfl, decide_eq_true (show (n : Int) < ps.length by omega)]) ?_
      refine Ev.step (fun k => by rw [saronref09_Check.j2, if_pos rfl, if_pos (by omega), if_pos (by omega), sits_f, Option.bind_some, rdT62 ps n hlt, w64 (x := (l.length : Int) - 1) (by omega) (by omega), w64 (x := (n : Int) + 1) (by omega) (by omega), show ((n : Int) + 1) = ((n + 1 : Nat) : Int) by omega]) ?_
      have hn : pieceOk l.length ps[n] = (isIn ps[n].f0 0 ((l.length : Int) - 1) && tonesB ps[n].f1 1) := rfl
      cases c : isIn ps[n].f0 0 ((l.length : Int) - 1)
      · rw [hn, c, Bool.false_and]
        refine evc (fun k => by rw [if_neg (by simp)]) ?_
        exact hc_l0 hl hp hpp d (n + 1) false (by omega)
      · rw [hn, c, Bool.true_and]
        refine evc (fun k => by rw [if_pos rfl]) ?_
        refine ebind (rtones_f ps[n].f1 1 (hpp _ (List.getElem_mem hlt))) ?_
        exact hc_l0 hl hp hpp d (n + 1) _ (by omega)
theorem hc_f (hs : Small l) (hp : ps.length ≤ 9223372036854775807) (hpp : ∀ f ∈ ps, f.f1.length ≤ 9223372036854775807) : Ev (fun k => saronref09_Check.f k g l ps) (hcheckE g l ps) := by
  refine evc (fun k => by rw [saronref09_Check.f]) ?_
  refine ebind (rcheck_f g l hs) ?_
  unfold hcheckE hbookOk checkE
  by_cases hb : bookOk g l = true
  · refine evc (fun k => by rw [if_pos hb, if_pos rfl, sits_f, Option.bind_some]) ?_
    rw [hb, Bool.true_and]
    exact Ev.step (fun k => by rw [saronref09_Check.j0]; rfl) (hc_l0 hs.1 hp hpp ps.length 0 _ (by omega))
  · refine evc (fun k => by rw [if_neg hb, if_neg (by omega)]) ?_
    rw [Bool.not_eq_true] at hb
    rw [hb, Bool.false_and, Bool.false_and]
    exact Ev.step (fun k => by rw [saronref09_Check.j0]; rfl) (hc_l0 hs.1 hp hpp ps.length 0 false (by omega))
theorem hasked_f (hs : Small l) (hp : ps.length ≤ 9223372036854775807) (hpp : ∀ f ∈ ps, f.f1.length ≤ 9223372036854775807) (ok : Bool) : Ev (fun k => saronref09_asked.f k g l ps ok) (askE g l ps ok) := by
  refine evc (fun k => by rw [saronref09_asked.f]) ?_
  refine ebind (hc_f hs hp hpp) ?_
  unfold hcheckE askE
  by_cases hk : hbookOk g l ps = true
  · refine evc (fun k => by rw [if_pos hk, if_pos rfl]) ?_
    rw [if_pos hk]
    cases ok
    · exact evc (fun k => by rw [if_neg (by simp)]) (Ev.now 91)
    · exact evc (fun k => by rw [if_pos rfl]) (Ev.now 0)
  · refine evc (fun k => by rw [if_neg hk, if_neg (by omega)]) ?_
    rw [if_neg hk]
    exact Ev.now 90
end
/-! ### The reference: what two rows share -/
def shR (a b : List Int) (i : Nat) : List Int := (List.range (b.length + 1)).map fun k => H.lcs (a.take i) (b.take k)
def shN (a b : List Int) (i n : Nat) : List Int := (List.range (b.length + 1)).map fun k => if k ≤ n then H.lcs (a.take (i + 1)) (b.take k) else 0
theorem rd_map (f : Nat → Int) (m k : Nat) (h : k < m) : rd ((List.range m).map f) (k : Int) = f k := by rw [rd_nat]; simp [h]
theorem set_map (f : Nat → Int) (m k : Nat) (v : Int) : ((List.range m).map f).set k v = (List.range m).map fun j => if j = k then v else f j := by
  apply List.ext_getElem
  · simp
  · intro j h1 h2
    rw [List.getElem_set]
    by_cases e : k = j
    · subst e; simp
    · have e' : ¬ j = k := fun h => e h.symm
      simp [e, e']
theorem lcs_nil0 (b : List Int) : H.lcs [] b = 0 := rfl
theorem shR_0 (a b : List Int) : shR a b 0 = List.replicate (b.length + 1) 0 := by
  unfold shR
  rw [List.take_zero]
  apply List.ext_getElem
  · simp
  · intro j h1 h2
    simp [lcs_nil0]
theorem shN_0 (a b : List Int) (i : Nat) : shN a b i 0 = List.replicate (b.length + 1) 0 := by
  unfold shN
  apply List.ext_getElem
  · simp
  · intro j h1 h2
    simp only [List.getElem_map, List.getElem_range, List.getElem_replicate]
    by_cases e : j = 0
    · subst e; simp [H.lcs_nil]
    · rw [if_neg (by omega)]
theorem shN_end (a b : List Int) (i : Nat) : shN a b i b.length = shR a b (i + 1) := by
  unfold shN shR
  apply List.map_congr_left
  intro k hk
  rw [if_pos (by have := List.mem_range.1 hk; omega)]
theorem share_l1 (a b : List Int) (ha : a.length ≤ 24) (hb : b.length ≤ 24) (i : Nat) (hi : i < a.length) : ∀ (d n : Nat), n + d = b.length → ∀ R,
    Ev (fun k => saronref09_share.l0 k a b (shR a b (i + 1)) ((i + 1 : Nat) : Int)) R → Ev (fun k => saronref09_share.l1 k a b (shR a b i) (i : Int) (shN a b i n) (n : Int)) R
  | 0, n, hd, R, hR => by
    obtain rfl : n = b.length := by omega
    rw [shN_end]
    exact Ev.step (fun k => by rw [saronref09_share.l1, if_neg (by omega), w64 (x := (i : Int) + 1) (by omega) (by omega), show ((i : Int) + 1) = ((i + 1 : Nat) : Int) by omega]) hR
  | d + 1, n, hd, R, hR => by
    have hn : n < b.length := by omega
    have ih := share_l1 a b ha hb i hi d (n + 1) (by omega) R hR
    have hlR : (shR a b i).length = b.length + 1 := by simp [shR]
    have hlN : (shN a b i n).length = b.length + 1 := by simp [shN]
    have r1 := Lib.hid <| show rd (shN a b i n) (n : Int) = H.lcs (a.take (i + 1)) (b.take n) from by unfold shN; rw [rd_map _ _ _ (by omega), if_pos (by omega)]
    have r2 := Lib.hid <| show rd (shR a b i) ((n + 1 : Nat) : Int) = H.lcs (a.take i) (b.take (n + 1)) from by unfold shR; rw [rd_map _ _ _ (by omega)]
    have r3 := Lib.hid <| show rd (shR a b i) (n : Int) = H.lcs (a.take i) (b.take n) from by unfold shR; rw [rd_map _ _ _ (by omega)]
    have ta : a.take (i + 1) = a.take i ++ [a[i]] := by rw [List.take_add_one, List.getElem?_eq_getElem hi]; rfl
    have tb : b.take (n + 1) = b.take n ++ [b[n]] := by rw [List.take_add_one, List.getElem?_eq_getElem hn]; rfl
    have HSN := Lib.hid (show H.lcs (a.take (i + 1)) (b.take (n + 1)) = if a[i] = b[n] then max (max (H.lcs (a.take i) (b.take (n + 1))) (H.lcs (a.take (i + 1)) (b.take n))) (1 + H.lcs (a.take i) (b.take n)) else max (H.lcs (a.take i) (b.take (n + 1))) (H.lcs (a.take (i + 1)) (b.take n)) by
      have hsn := H.lcs_snoc (a.take i) (b.take n) a[i] b[n]
      rwa [← ta, ← tb] at hsn)
    have b1 := H.lcs_bnd (a.take i) (b.take n)
    have b2 := List.length_take_le i a
    have hc := Lib.hid (show 0 ≤ H.lcs (a.take i) (b.take n) ∧ H.lcs (a.take i) (b.take n) ≤ 24 by omega)
    clear b1 b2 ta tb
    obtain ⟨v, hv⟩ : ∃ v : Int, v = max (H.lcs (a.take (i + 1)) (b.take n)) (H.lcs (a.take i) (b.take (n + 1))) := ⟨_, rfl⟩
    have HV := Lib.hid hv
    clear hv
    have hset : ∀ u : Int, ((shN a b i n).set (n + 1) u) = (List.range (b.length + 1)).map fun j => if j = n + 1 then u else if j ≤ n then H.lcs (a.take (i + 1)) (b.take j) else 0 := fun u => by unfold shN; rw [set_map]
    have hfin : ∀ u : Int, u = H.lcs (a.take (i + 1)) (b.take (n + 1)) → (shN a b i n).set (n + 1) u = shN a b i (n + 1) := fun u hu => by
      rw [hset, hu]
      unfold shN
      apply List.map_congr_left
      intro j _
      by_cases e : j = n + 1
      · subst e; rw [if_pos rfl, if_pos (by omega)]
      · rw [if_neg e]
        by_cases e2 : j ≤ n
        · rw [if_pos e2, if_pos (by omega)]
        · rw [if_neg e2, if_neg (by omega)]
    have hw : wrap64 ((n : Int) + 1) = ((n + 1 : Nat) : Int) := by rw [w64 (by omega) (by omega)]; omega
    refine Ev.step (fun k => by rw [saronref09_share.l1, if_pos (by omega), if_pos (by omega), if_pos (by omega), hw, if_pos (by omega), if_pos (by omega), if_pos (by omega), Option.bind_some, if_pos (by omega), if_pos (by omega), rd_nat, rd_nat, show a.getD i 0 = a[i] by simp [hi], show b.getD n 0 = b[n] by simp [hn], r1.out, r2.out, r3.out, mx_max, ← HV.out, Int.toNat_natCast]) ?_
    by_cases e : a[i] = b[n]
    · have hu : max v (H.lcs (a.take i) (b.take n) + 1) = H.lcs (a.take (i + 1)) (b.take (n + 1)) := by
        rw [HSN.out, if_pos e, HV.out]
        generalize H.lcs (a.take i) (b.take n) = C
        generalize H.lcs (a.take i) (b.take (n + 1)) = B
        generalize H.lcs (a.take (i + 1)) (b.take n) = A
        omega
      have r4 : rd ((shN a b i n).set (n + 1) v) ((n + 1 : Nat) : Int) = v := by rw [hset, rd_map _ _ _ (by omega), if_pos rfl]
      refine evc (fun k => by rw [if_pos e, if_pos (by omega), r4, mx_max, w64 (x := H.lcs (a.take i) (b.take n) + 1) (by have := hc.out; omega) (by have := hc.out; omega), List.set_set, hfin _ hu]) ?_
      exact ih
    · have hu : v = H.lcs (a.take (i + 1)) (b.take (n + 1)) := by
        rw [HSN.out, if_neg e, HV.out]
        generalize H.lcs (a.take i) (b.take (n + 1)) = B
        generalize H.lcs (a.take (i + 1)) (b.take n) = A
        omega
      refine evc (fun k => by rw [if_neg e, hfin _ hu]) ?_
      exact ih
theorem share_l0 (a b : List Int) (ha : a.length ≤ 24) (hb : b.length ≤ 24) : ∀ (d i : Nat), i + d = a.length → Ev (fun k => saronref09_share.l0 k a b (shR a b i) (i : Int)) (H.lcs a b)
  | 0, i, hd => by
    have hlR : (shR a b i).length = b.length + 1 := by simp [shR]
    refine Ev.step (fun k => by rw [saronref09_share.l0, if_neg (by omega), if_pos (by omega), if_pos (by omega), show rd (shR a b i) (b.length : Int) = H.lcs a b by unfold shR; rw [rd_map _ _ _ (by omega), List.take_of_length_le (show a.length ≤ i by omega), List.take_length]]) ?_
    exact Ev.now _
  | d + 1, i, hd => by
    have hw : wrap64 ((b.length : Int) + 1) = ((b.length + 1 : Nat) : Int) := by rw [w64 (by omega) (by omega)]; omega
    refine Ev.step (fun k => by rw [saronref09_share.l0, if_pos (by omega), hw, if_pos (by omega), if_pos (by rw [Int.toNat_natCast]; omega), Int.toNat_natCast, ← shN_0 a b i]) ?_
    exact share_l1 a b ha hb i (by omega) b.length 0 (by omega) _ (share_l0 a b ha hb d (i + 1) (by omega))
theorem share_f (a b : List Int) (ha : a.length ≤ 24) (hb : b.length ≤ 24) : Ev (fun k => saronref09_share.f k a b) (H.lcs a b) := by
  have hw : wrap64 ((b.length : Int) + 1) = ((b.length + 1 : Nat) : Int) := by rw [w64 (by omega) (by omega)]; omega
  refine evc (fun k => by rw [saronref09_share.f, hw, if_pos (by omega), if_pos (by rw [Int.toNat_natCast]; omega), Int.toNat_natCast, ← shR_0 a b]) ?_
  exact share_l0 a b ha hb a.length 0 (by omega)
end Go.Proofs.YtfdenclnneigfaaDoor.Q
