import Derived.Test.YtfdenclnneigfaaDoorQH0
import Derived.Test.YtfdenclnneigfaaDoorCJ
set_option linter.unusedVariables false
set_option linter.unusedSimpArgs false
namespace Go.Proofs.YtfdenclnneigfaaDoor.Q
open Go.RowKit Go.Proofs.YtfdenclnneigfaaDoorW.PrintWords Go.Proofs.YtfdenclnneigfaaDoorW.PrintLast Go.Proofs.YtfdenclnneigfaaDoor.PRaspKeys Go.Proofs.YtfdenclnneigfaaDoor.R
/-! ### Can a note be asked about? -/
theorem fair_l0 (t gs : List Int) (lost wrong : Int) (ht : t.length ≤ 9223372036854775807) : ∀ (d n : Nat) (q : Bool), n + d = t.length → Ev (fun k => saronlaw09_fair.l0 k q (n : Int) t gs lost wrong) (q && (t.drop n).all fun x => isIn x 0 6)
  | 0, n, q, hd => by
    rw [List.drop_of_length_le (by omega), List.all_nil, Bool.and_true]
    cases q
    · exact Ev.step (fun k => by rw [saronlaw09_fair.l0, if_neg (by simp)]) (Ev.now false)
    · exact Ev.step (fun k => by rw [saronlaw09_fair.l0, if_pos rfl, if_neg (by omega)]) (Ev.now true)
  | d + 1, n, q, hd => by
    have hlt : n < t.length := by omega
    cases q
    · rw [Bool.false_and]
      exact Ev.step (fun k => by rw [saronlaw09_fair.l0, if_neg (by simp)]) (Ev.now false)
    · rw [Bool.true_and, List.drop_eq_getElem_cons hlt, List.all_cons]
      refine Ev.step (fun k => by rw [saronlaw09_fair.l0, if_pos rfl, if_pos (by omega), if_pos (by omega), rd_nat, show t.getD n 0 = t[n] by simp [hlt], sits_f, Option.bind_some, w64 (x := (n : Int) + 1) (by omega) (by omega), show ((n : Int) + 1) = ((n + 1 : Nat) : Int) by omega]) ?_
      exact fair_l0 t gs lost wrong ht d (n + 1) _ (by omega)
theorem fair_j (t gs : List Int) (lost wrong : Int) (ht : t.length ≤ 9223372036854775807) (q : Bool) : Ev (fun k => saronlaw09_fair.j0 k q t gs lost wrong) (q && t.all fun x => isIn x 0 6) :=
  Ev.step (fun k => by rw [saronlaw09_fair.j0]; rfl) (fair_l0 t gs lost wrong ht t.length 0 q (by omega))
theorem fair_f (t gs : List Int) (lost wrong : Int) (ht : t.length ≤ 9223372036854775807) (hg : gs.length ≤ 9223372036854775807) : Ev (fun k => saronlaw09_fair.f k t gs lost wrong) (noteB t gs lost wrong) := by
  have e : noteB t gs lost wrong = (((isIn (t.length : Int) 1 24 && gr (t.length : Int) (-1) gs) && isIn lost 0 6 && isIn wrong 0 6) && t.all fun x => isIn x 0 6) := by
    unfold noteB tonesB
    cases isIn (t.length : Int) 1 24 <;> cases gr (t.length : Int) (-1) gs <;> cases isIn lost 0 6 <;> cases isIn wrong 0 6 <;> simp
  rw [e]
  refine evc (fun k => by rw [saronlaw09_fair.f, sits_f, Option.bind_some]) ?_
  cases c1 : isIn (t.length : Int) 1 24
  · exact evc (fun k => by rw [if_neg (by simp)]) (fair_j t gs lost wrong ht false)
  · refine evc (fun k => by rw [if_pos rfl]) ?_
    refine ebind (rgrows_f (t.length : Int) gs hg) ?_
    cases c2 : gr (t.length : Int) (-1) gs
    · exact evc (fun k => by rw [if_neg (by simp)]) (fair_j t gs lost wrong ht false)
    · refine evc (fun k => by rw [if_pos rfl, sits_f, Option.bind_some]) ?_
      cases c3 : isIn lost 0 6
      · exact evc (fun k => by rw [if_neg (by simp)]) (fair_j t gs lost wrong ht false)
      · exact evc (fun k => by rw [if_pos rfl, sits_f, Option.bind_some]; rfl) (fair_j t gs lost wrong ht _)
end Go.Proofs.YtfdenclnneigfaaDoor.Q
