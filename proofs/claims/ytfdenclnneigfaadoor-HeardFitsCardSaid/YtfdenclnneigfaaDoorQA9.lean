import Derived.Test.YtfdenclnneigfaaDoorQH0
import Derived.Test.YtfdenclnneigfaaDoorQH3
import Derived.Test.YtfdenclnneigfaaDoorC1
set_option linter.unusedVariables false
set_option linter.unusedSimpArgs false
namespace Go.Proofs.YtfdenclnneigfaaDoor.Q
open Go.RowKit Go.Proofs.YtfdenclnneigfaaDoorW.PrintWords Go.Proofs.YtfdenclnneigfaaDoorW.PrintLast Go.Proofs.YtfdenclnneigfaaDoor.PRaspKeys Go.Proofs.YtfdenclnneigfaaDoor.R

/-! ### The reference: Check, asked -/
theorem mx_max (a b : Int) : mx a b = max a b := by unfold mx; split <;> omega
theorem rtones_l0 (t : List Int) (ht : t.length ≤ 9223372036854775807) : ∀ (d n : Nat) (q : Bool), n + d = t.length → Ev (fun k => saronref09_areTones.l0 k t q (n : Int)) (q && (t.drop n).all fun x => isIn x 0 6)
  | 0, n, q, hd => by
    rw [List.drop_of_length_le (by omega), List.all_nil, Bool.and_true]
    cases q
    · exact Ev.step (fun k => by rw [saronref09_areTones.l0, if_neg (by simp)]) (Ev.now false)
    · exact Ev.step (fun k => by rw [saronref09_areTones.l0, if_pos rfl, if_neg (by omega)]) (Ev.now true)
  | d + 1, n, q, hd => by
    have hlt : n < t.length := by omega
    cases q
    · rw [Bool.false_and]
      exact Ev.step (fun k => by rw [saronref09_areTones.l0, if_neg (by simp)]) (Ev.now false)
    · rw [Bool.true_and, List.drop_eq_getElem_cons hlt, List.all_cons]
      refine Ev.step (fun k => by rw [saronref09_areTones.l0, if_pos rfl, if_pos (by omega), if_pos (by omega), rd_nat, show t.getD n 0 = t[n] by simp [hlt], sits_f, Option.bind_some, w64 (x := (n : Int) + 1) (by omega) (by omega), show ((n : Int) + 1) = ((n + 1 : Nat) : Int) by omega]) ?_
      exact rtones_l0 t ht d (n + 1) _ (by omega)
theorem rtones_f (t : List Int) (lo : Int) (ht : t.length ≤ 9223372036854775807) : Ev (fun k => saronref09_areTones.f k t lo 24) (tonesB t lo) := by
  refine evc (fun k => by rw [saronref09_areTones.f, sits_f, Option.bind_some]) ?_
  exact rtones_l0 t ht t.length 0 _ (by omega)
section
variable {g : Int} {l : List S114} {ps : List S62}
theorem hc_l0 (hl : l.length ≤ 9223372036854775807) (hp : ps.length ≤ 9223372036854775807) (hpp : ∀ f ∈ ps, f.f1.length ≤ 9223372036854775807) : ∀ (d n : Nat) (q : Bool), n + d = ps.length → Ev (fun k => saronref09_Check.l0 k q (n : Int) g l ps) (if (q && (ps.drop n).all (pieceOk l.length)) = true then 0 else 90)
  | 0, n, q, hd => by
    rw [List.drop_of_length_le (by omega), List.all_nil, Bool.and_true]
    cases q
    · refine Ev.step (fun k => by rw [saronref09_Check.l0, if_neg (by simp)]) ?_
      exact Ev.step (fun k => by rw [saronref09_Check.j2, if_neg (by simp), if_neg (by simp)]) (Ev.now 90)
    · refine Ev.step (fun k => by rw [saronref09_Check.l0, if_pos rfl, decide_eq_false (show ¬ (n : Int) < ps.length by omega)]) ?_
      exact Ev.step (fun k => by rw [saronref09_Check.j2, if_neg (by simp), if_pos rfl]) (Ev.now 0)
  | d + 1, n, q, hd => by
    have hlt : n < ps.length := by omega
    cases q
    · rw [Bool.false_and]
      refine Ev.step (fun k => by rw [saronref09_Check.l0, if_neg (by simp)]) ?_
      exact Ev.step (fun k => by rw [saronref09_Check.j2, if_neg (by simp), if_neg (by simp)]) (Ev.now 90)
    · rw [Bool.true_and, List.drop_eq_getElem_cons hlt, List.all_cons]
      refine Ev.step (fun k => by rw [saronref09_Check.l0, if_pos rfl, decide_eq_true (show (n : Int) < ps.length by omega)]) ?_
      refine Ev.step (fun k => by rw [saronref09_Check.j2, if_pos rfl, if_pos (by omega), if_pos (by omega), sits_f, Option.bind_some, rdT62 ps n hlt, w64 (x := (l.length : Int) - 1) (by omega) (by omega), w64 (x := (n : Int) + 1) (by omega) (by omega), show ((n : Int) + 1) = ((n + 1 : Nat) : Int) by omega]) ?_
      have hn : pieceOk l.length ps[n] = (isIn ps[n].f0 0 ((l.length : Int) - 1) && tonesB ps[n].f1 1) := rfl
      cases c : isIn ps[n].f0 0 ((l.length : Int) - 1)
      · rw [hn, c, Bool.false_and]
        refine evc (fun k => by rw [if_neg (by simp)]) ?_
        exact hc_l0 hl hp hpp d (n + 1) false (by omega)
      · rw [hn, c, Bool.true_and]
        refine evc (fun k => by rw [if_pos rfl]) ?_
        refine ebind (rtones_f ps[n].f1 1 (hpp _ (List.getElem_mem hlt))) ?_
        exact hc_l0 hl hp hpp d (n + 1) _ (by omega)
theorem hc_f (hs : Small l) (hp : ps.length ≤ 9223372036854775807) (hpp : ∀ f ∈ ps, f.f1.length ≤ 9223372036854775807) : Ev (fun k => saronref09_Check.f k g l ps) (hcheckE g l ps) := by
  refine evc (fun k => by rw [saronref09_Check.f]) ?_
  refine ebind (rcheck_f g l hs) ?_
  unfold hcheckE hbookOk checkE
  by_cases hb : bookOk g l = true
  · refine evc (fun k => by rw [if_pos hb, if_pos rfl, sits_f, Option.bind_some]) ?_
    rw [hb, Bool.true_and]
    exact Ev.step (fun k => by rw [saronref09_Check.j0]; rfl) (hc_l0 hs.1 hp hpp ps.length 0 _ (by omega))
  · refine evc (fun k => by rw [if_neg hb, if_neg (by omega)]) ?_
    rw [Bool.not_eq_true] at hb
    rw [hb, Bool.false_and, Bool.false_and]
    exact Ev.step (fun k => by rw [saronref09_Check.j0]; rfl) (hc_l0 hs.1 hp hpp ps.length 0 false (by omega))
theorem hasked_f (hs : Small l) (hp : ps.length ≤ 9223372036854775807) (hpp : ∀ f ∈ ps, f.f1.length ≤ 9223372036854775807) (ok : Bool) : Ev (fun k => saronref09_asked.f k g l ps ok) (askE g l ps ok) := by
  refine evc (fun k => by rw [saronref09_asked.f]) ?_
  refine ebind (hc_f hs hp hpp) ?_
  unfold hcheckE askE
  by_cases hk : hbookOk g l ps = true
  · refine evc (fun k => by rw [if_pos hk, if_pos rfl]) ?_
    rw [if_pos hk]
    cases ok
    · exact evc (fun k => by rw [if_neg (by simp)]) (Ev.now 91)
    · exact evc (fun k => by rw [if_pos rfl]) (Ev.now 0)
  · refine evc (fun k => by rw [if_neg hk, if_neg (by omega)]) ?_
    rw [if_neg hk]
    exact Ev.now 90
end
end Go.Proofs.YtfdenclnneigfaaDoor.Q
