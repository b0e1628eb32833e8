import Derived.Test.YtfmpbkolpjlfbaaDoorPA
import Derived.Test.YtfmpbkolpjlfbaaDoorLNexts
set_option linter.unusedVariables false
set_option linter.unusedSimpArgs false
namespace Go.Proofs.YtfmpbkolpjlfbaaDoor.Q
open Go.RowKit Go.Proofs.YtfmpbkolpjlfbaaDoorW.PrintWords Go.Proofs.YtfmpbkolpjlfbaaDoorW.PrintLast Go.Proofs.YtfmpbkolpjlfbaaDoor.PRaspKeys Go.Proofs.YtfmpbkolpjlfbaaDoor.R
section
variable (tools : List S57) (lo hi : Int) (l3 : List S69)
theorem asked_iff {a b : Int} : asked a b = true ↔ (-60 ≤ a ∧ a ≤ 60) ∧ (0 ≤ b ∧ b ≤ 30) := by
  unfold asked
  rw [Bool.and_eq_true, isIn_iff, isIn_iff]
theorem len4 {l0 : List S57} {lo hi : Int} {l3 : List S69} (h : bookOk l0 lo hi l3 = true) : l0.length ≤ 4 := by
  unfold bookOk isIn at h
  simp only [Bool.and_eq_true, decide_eq_true_eq] at h
  omega
theorem rNext_f (hs0 : tools.length ≤ 9223372036854775807) (hs : l3.length ≤ 9223372036854775807) (a b : Int) : Ev (fun k => saronref03_Next.f k tools lo hi l3 a b) (nextF tools lo hi l3 a b) := by
  unfold nextF
  refine evc (fun k => by rw [saronref03_Next.f, isState_f, Option.bind_some]) ?_
  refine ebind (rasked_f tools lo hi l3 _ hs0 hs) ?_
  by_cases h : openV tools lo hi l3 (asked a b) = 0
  · obtain ⟨hbk, hin⟩ := openV_zero h
    rw [asked_iff] at hin
    refine evc (fun k => by rw [if_pos h]) ?_
    rw [if_neg (by simpa using h)]
    refine ebind (rows_f tools lo hi l3 (sound_of hbk) (len4 hbk) true) ?_
    refine ebind (best_f tools lo hi l3 (sound_of hbk) (len4 hbk) 0 true rfl 31 a b (by omega) (by omega) (by omega) (by omega) (by omega)) ?_
    refine ev_some fun k => ?_
    split <;> rfl
  · refine ev_some fun k => ?_
    rw [if_neg h, if_pos h]
theorem rLucky_f (hs0 : tools.length ≤ 9223372036854775807) (hs : l3.length ≤ 9223372036854775807) (a b : Int) : Ev (fun k => saronref03_Lucky.f k tools lo hi l3 a b) (luckyF tools lo hi l3 a b) := by
  unfold luckyF
  refine evc (fun k => by rw [saronref03_Lucky.f, isState_f, Option.bind_some]) ?_
  refine ebind (rasked_f tools lo hi l3 _ hs0 hs) ?_
  by_cases h : openV tools lo hi l3 (asked a b) = 0
  · obtain ⟨hbk, hin⟩ := openV_zero h
    rw [asked_iff] at hin
    refine evc (fun k => by rw [if_pos h]) ?_
    rw [if_neg (by simpa using h)]
    refine ebind (rows_f tools lo hi l3 (sound_of hbk) (len4 hbk) false) ?_
    refine ev_some fun k => ?_
    rw [if_pos (by omega), if_pos (by rw [rowsTo_len]; omega), rowsTo_rd _ _ _ _ _ _ (by omega) (by omega), row_at_f _ _ _ _ _ _ (by omega) (by omega)]
    simp only [Option.bind_some]
    show _ = some _
    rw [show wyB false = 1 from rfl]
    split <;> rfl
  · refine ev_some fun k => ?_
    rw [if_neg h, if_pos h]
end
end Go.Proofs.YtfmpbkolpjlfbaaDoor.Q
namespace Go.Proofs.YtfmpbkolpjlfbaaDoor
open Go.RowKit PRaspKeys R Q Go.Proofs.YtfmpbkolpjlfbaaDoorW.PrintWords
theorem RaspNexts.pure (l0 : List S57) (lo hi : Int) (l3 : List S69) (h0 : l0.length ≤ 9223372036854775807) (h3 : l3.length ≤ 9223372036854775807) (a b : Int) (wa : (Lit.int .i64 a).wf = true) (wb : (Lit.int .i64 b).wf = true) :
    ∃ k, saronlaw03_RaspNexts.f k l0 lo hi l3 a b = some true := by
  refine Ev.rounds (g := fun k => saronlaw03_RaspNexts.f k l0 lo hi l3 a b) ?_
  refine evc (fun k => by rw [saronlaw03_RaspNexts.f, rasp_Next.f, Option.bind_some]) ?_
  refine ebind (rNext_f l0 lo hi l3 h0 h3 a b) ?_
  refine evc (fun k => by rw [if_pos rfl, if_pos rfl, if_pos rfl]) ?_
  have hc : Ev (fun k => rasp_Check.f k l0 lo hi l3) (checkE l0 lo hi l3) := ⟨l0.length + l3.length + 4, fun k hk => check_f l0 lo hi l3 (by omega) (by omega) k (by omega)⟩
  refine ebind hc ?_
  refine ebind (rcheck_f l0 lo hi l3 h0 h3) ?_
  refine Ev.step (fun k => by rw [saronlaw03_RaspNexts.j0, if_neg (by simp), rasp_Lucky.f, Option.bind_some]) ?_
  refine ebind (rLucky_f l0 lo hi l3 h0 h3 a b) ?_
  refine ev_some fun k => ?_
  rw [if_pos rfl, if_pos rfl, saronlaw03_filed.f]
  rfl
end Go.Proofs.YtfmpbkolpjlfbaaDoor
