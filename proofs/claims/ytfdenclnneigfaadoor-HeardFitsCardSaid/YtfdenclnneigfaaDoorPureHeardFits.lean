import Derived.Test.YtfdenclnneigfaaDoorLFits
set_option linter.unusedVariables false
set_option linter.unusedSimpArgs false
namespace Go.Proofs.YtfdenclnneigfaaDoor
open Go.RowKit PRaspKeys R Q Go.Proofs.YtfdenclnneigfaaDoorW.PrintWords Go.Proofs.YtfdenclnneigfaaDoorW.PrintLast
theorem HeardFits.pure (g : Int) (l : List S114) (ps : List S62) (wg : (Lit.int .i64 g).wf = true) (hs : l.length ≤ 9223372036854775807 ∧ ∀ f ∈ l, f.f1.length ≤ 9223372036854775807 ∧ ∀ r ∈ f.f1, r.length ≤ 9223372036854775807) (hp : ps.length ≤ 9223372036854775807) (hpp : ∀ f ∈ ps, f.f1.length ≤ 9223372036854775807) (a : Int) (wa : (Lit.int .i64 a).wf = true)
    (t gs : List Int) (ht : t.length ≤ 9223372036854775807) (hg : gs.length ≤ 9223372036854775807) (lost wrong : Int) (wl : (Lit.int .i64 lost).wf = true) (ww : (Lit.int .i64 wrong).wf = true) :
    ∃ k, sHF.f k g l ps a t gs lost wrong = some true := by
  have hl1 : (allF g l ps [⟨t, gs, lost, wrong⟩]).1.length ≤ 9223372036854775807 := by
    unfold allF
    split
    · split
      · exact Nat.le_trans (lst_len _ _) hp
      · simp
    · simp
  have hl2 : (stroF g l ps a t gs lost wrong 0).1.length ≤ 9223372036854775807 := by
    unfold stroF
    split
    · split
      · exact Nat.le_trans (lst_len _ _) (by omega)
      · simp
    · simp
  have hj2 : Ev (fun k => sHF.j2 k a false g l ps t gs lost wrong) true :=
    Ev.step (fun k => by rw [sHF.j2, if_neg (by simp), heard_Least.f, Option.bind_some, saronref09_Least.f, Option.bind_some, if_pos rfl, if_pos rfl, saronlaw09_listened.f, Option.bind_some]) (Ev.now true)
  have hj1 : Ev (fun k => sHF.j1 k a false g l ps t gs lost wrong) true := by
    refine Ev.step (fun k => by rw [sHF.j1, if_neg (by simp), heard_Begins.f, Option.bind_some, saronref09_Begins.f, Option.bind_some]) ?_
    refine ebind (equal_self (stroF g l ps a t gs lost wrong 0).1 hl2) ?_
    exact evc (fun k => by rw [if_pos rfl, bne_self_eq_false]) hj2
  have hj0 : Ev (fun k => sHF.j0 k a false g l ps t gs lost wrong) true := by
    refine Ev.step (fun k => by rw [sHF.j0, if_neg (by simp), heard_Pieces.f, Option.bind_some, saronref09_Pieces.f, Option.bind_some]) ?_
    refine ebind (equal_self (allF g l ps [⟨t, gs, lost, wrong⟩]).1 hl1) ?_
    exact evc (fun k => by rw [if_pos rfl, bne_self_eq_false]) hj1
  refine Ev.rounds (g := fun k => sHF.f k g l ps a t gs lost wrong) ?_
  refine evc (fun k => by rw [sHF.f, heard_Fits.f, Option.bind_some, saronref09_Fits.f, Option.bind_some, if_neg (by simp), if_pos rfl, heard_Check.f, Option.bind_some]) ?_
  refine ebind (hc_f hs hp hpp) ?_
  exact evc (fun k => by rw [bne_self_eq_false]) hj0
end Go.Proofs.YtfdenclnneigfaaDoor
