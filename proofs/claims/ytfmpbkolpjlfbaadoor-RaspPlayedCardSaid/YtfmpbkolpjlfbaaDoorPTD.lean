import Derived.Test.YtfmpbkolpjlfbaaDoorPS
import Derived.Test.YtfmpbkolpjlfbaaDoorG5
set_option linter.unusedVariables false
set_option linter.unusedSimpArgs false
namespace Go.Proofs.YtfmpbkolpjlfbaaDoor.Q
open Go.RowKit Go.Proofs.YtfmpbkolpjlfbaaDoorW.PrintWords Go.Proofs.YtfmpbkolpjlfbaaDoorW.PrintLast Go.Proofs.YtfmpbkolpjlfbaaDoor.PRaspKeys Go.Proofs.YtfmpbkolpjlfbaaDoor.R
theorem len4t {l0 : List S57} {lo hi : Int} {l3 : List S69} (h : bookOk l0 lo hi l3 = true) : l0.length ≤ 4 := by
  unfold bookOk isIn at h
  simp only [Bool.and_eq_true, decide_eq_true_eq] at h
  omega
section
variable (tools : List S57) (lo hi : Int) (l3 : List S69) (heard : List Int)
/-- The first n tools that can move by so much. -/
def tlF (d : Int) : Nat → List Int
  | 0 => []
  | n + 1 => if isIn d (tools.getD n z57).f0.f0 (tools.getD n z57).f0.f1 = true then tlF d n ++ [(n : Int)] else tlF d n
theorem tlF_len (d : Int) : ∀ n, (tlF tools d n).length ≤ n
  | 0 => by simp [tlF]
  | n + 1 => by
    have := tlF_len d n
    unfold tlF
    split
    · simp; omega
    · omega
def rowT : Nat → Nat → List (List Int) → List (List Int) × Int
  | 0, _, acc => (acc, 0)
  | d + 1, i, acc => if (tlF tools (heard.getD (i + 1) 0 - heard.getD i 0) tools.length).length = 0 then ([], 4) else rowT d (i + 1) (acc ++ [tlF tools (heard.getD (i + 1) 0 - heard.getD i 0) tools.length])
def toldOk : Bool := isIn heard.length 1 31 && heard.all (fun x => isIn x (-60) 60)
def toldG : List (List Int) × Int := if openV tools lo hi l3 (toldOk heard) ≠ 0 then ([], openV tools lo hi l3 (toldOk heard)) else rowT tools heard (heard.length - 1) 0 []
theorem asked0 (x : Int) : asked x 0 = isIn x (-60) 60 := by unfold asked isIn; simp
variable {heard}
theorem heard_at (hok : heard.all (fun x => isIn x (-60) 60) = true) (i : Nat) : -60 ≤ heard.getD i 0 ∧ heard.getD i 0 ≤ 60 := by
  rw [List.all_eq_true] at hok
  by_cases h : i < heard.length
  · rw [show heard.getD i 0 = heard[i] by simp [h]]
    exact isIn_iff.1 (hok _ (List.getElem_mem h))
  · rw [show heard.getD i 0 = 0 by simp [List.getD, List.getElem?_eq_none (by omega : heard.length ≤ i)]]
    omega
theorem told_l1 (hok : heard.all (fun x => isIn x (-60) 60) = true) (hl : heard.length ≤ 31) (h4 : tools.length ≤ 4) (i : Nat) (hi1 : i + 1 < heard.length) (acc : List (List Int)) (hacc : acc.length ≤ 31) (R : List (List Int) × Int)
    (h : (tlF tools (heard.getD (i + 1) 0 - heard.getD i 0) tools.length).length ≠ 0 → Ev (fun k => rasp_Told.l0 k heard (acc ++ [tlF tools (heard.getD (i + 1) 0 - heard.getD i 0) tools.length]) ((heard.length : Int) - 1) ((i + 1 : Nat) : Int) tools lo hi l3) R)
    (hR : (tlF tools (heard.getD (i + 1) 0 - heard.getD i 0) tools.length).length = 0 → R = ([], 4)) : ∀ (d n : Nat), n + d = tools.length →
    Ev (fun k => rasp_Told.l1 k heard acc (i : Int) (tlF tools (heard.getD (i + 1) 0 - heard.getD i 0) n) ((heard.length : Int) - 1) (i : Int) tools (tools.length : Int) (n : Int) tools lo hi l3) R
  | 0, n, hd => by
    obtain rfl : n = tools.length := by omega
    refine Ev.step (fun k => by rw [rasp_Told.l1, if_neg (by omega)]) ?_
    by_cases c : (tlF tools (heard.getD (i + 1) 0 - heard.getD i 0) tools.length).length = 0
    · refine ev_some fun k => ?_
      rw [if_pos (by omega), hR c]
    · refine evc (fun k => by rw [if_neg (by omega), if_pos (by omega), w64 (by omega) (by omega), show ((i : Int) + 1) = ((i + 1 : Nat) : Int) by omega]) ?_
      exact h c
  | d + 1, n, hd => by
    have hn : n < tools.length := by omega
    have hlen := tlF_len tools (heard.getD (i + 1) 0 - heard.getD i 0) n
    have ha := heard_at hok i
    have hb := heard_at hok (i + 1)
    refine Ev.step (fun k => by rw [rasp_Told.l1, if_pos (by omega), if_pos (by omega), if_pos (by omega), w64 (x := (i : Int) + 1) (by omega) (by omega), if_pos (by omega), if_pos (by omega), if_pos (by omega), if_pos (by omega), show ((i : Int) + 1) = ((i + 1 : Nat) : Int) by omega, rd_nat, rd_nat, w64 (x := heard.getD (i + 1) 0 - heard.getD i 0) (by omega) (by omega), lies_f, Option.bind_some, w64 (x := (n : Int) + 1) (by omega) (by omega), show rd_T57 tools (n : Int) = tools.getD n z57 by simp [rd_T57], show ((n : Int) + 1) = ((n + 1 : Nat) : Int) by omega]) ?_
    have ih := told_l1 hok hl h4 i hi1 acc hacc R h hR d (n + 1) (by omega)
    rw [tlF] at ih
    by_cases c : isIn (heard.getD (i + 1) 0 - heard.getD i 0) (tools.getD n z57).f0.f0 (tools.getD n z57).f0.f1 = true
    · refine evc (fun k => by rw [if_pos c, if_pos (by omega)]) ?_
      rw [if_pos c] at ih
      exact ih
    · refine evc (fun k => by rw [if_neg c]) ?_
      rw [if_neg c] at ih
      exact ih
theorem told_l0 (hok : heard.all (fun x => isIn x (-60) 60) = true) (hl : heard.length ≤ 31) (h4 : tools.length ≤ 4) : ∀ (d i : Nat) (acc : List (List Int)), i + d + 1 = heard.length → acc.length ≤ i →
    Ev (fun k => rasp_Told.l0 k heard acc ((heard.length : Int) - 1) (i : Int) tools lo hi l3) (rowT tools heard d i acc)
  | 0, i, acc, hd, ha => by
    refine Ev.step (fun k => by rw [rasp_Told.l0, if_neg (by omega)]) ?_
    exact Ev.now _
  | d + 1, i, acc, hd, ha => by
    refine Ev.step (fun k => by rw [rasp_Told.l0, if_pos (by omega)]) ?_
    have := told_l1 tools lo hi l3 hok hl h4 i (by omega) acc (by omega) (rowT tools heard (d + 1) i acc) (fun c => by
      rw [rowT, if_neg c]
      exact told_l0 hok hl h4 d (i + 1) _ (by omega) (by simp; omega)) (fun c => by rw [rowT, if_pos c]) tools.length 0 (by omega)
    simpa [tlF] using this
variable (heard)
theorem Told_f (hs0 : tools.length ≤ 9223372036854775807) (hs : l3.length ≤ 9223372036854775807) (hh : heard.length ≤ 9223372036854775807) : Ev (fun k => rasp_Told.f k tools lo hi l3 heard) (toldG tools lo hi l3 heard) := by
  have hc : Ev (fun k => rasp_Check.f k tools lo hi l3) (checkE tools lo hi l3) := ⟨tools.length + l3.length + 4, fun k hk => check_f tools lo hi l3 (by omega) (by omega) k (by omega)⟩
  refine ebind hc ?_
  unfold toldG openV openE
  by_cases h : checkE tools lo hi l3 = 0
  · have hbk : bookOk tools lo hi l3 = true := by
      unfold checkE at h
      by_cases hb : bookOk tools lo hi l3 = true
      · exact hb
      · rw [if_neg hb] at h; omega
    refine evc (fun k => by rw [if_pos h, lies_f, Option.bind_some]) ?_
    simp only [h, ne_eq, not_true_eq_false, if_false]
    by_cases c1 : isIn (heard.length : Int) 1 31 = true
    · refine evc (fun k => by rw [if_pos c1, slices_ContainsFunc_int_int.f, Option.bind_some]) ?_
      have e : (heard.any fun x => !asked x 0) = !(heard.all (fun x => isIn x (-60) 60)) := by
        rw [List.all_eq_not_any_not, Bool.not_not]
        congr 1
        funext x
        rw [asked0]
      by_cases c2 : heard.all (fun x => isIn x (-60) 60) = true
      · refine Ev.step (fun k => by rw [rasp_Told.j0, e, c2, if_neg (by simp)]) ?_
        have c1' := isIn_iff.1 c1
        have ho : toldOk heard = true := by unfold toldOk; rw [c1, c2]; rfl
        rw [ho]
        simp only [if_true, not_true_eq_false, if_false]
        refine evc (fun k => by rw [w64 (by omega) (by omega)]) ?_
        exact told_l0 tools lo hi l3 c2 (by omega) (len4t hbk) (heard.length - 1) 0 [] (by omega) (by simp)
      · rw [Bool.not_eq_true] at c2
        refine Ev.step (fun k => by rw [rasp_Told.j0, e, c2, if_pos (by simp)]) ?_
        have ho : toldOk heard = false := by unfold toldOk; rw [c1, c2]; rfl
        rw [ho]
        simpa using Ev.now (([] : List (List Int)), (31 : Int))
    · refine evc (fun k => by rw [if_neg c1]) ?_
      refine Ev.step (fun k => by rw [rasp_Told.j0, if_pos (by simp)]) ?_
      have ho : toldOk heard = false := by unfold toldOk; rw [Bool.not_eq_true] at c1; rw [c1]; rfl
      rw [ho]
      simpa using Ev.now (([] : List (List Int)), (31 : Int))
  · refine ev_some fun k => ?_
    simp only [h, ne_eq, not_false_eq_true, if_true, if_false]
theorem rowT_len : ∀ (d i : Nat) (acc : List (List Int)), (∀ x ∈ acc, x.length ≤ tools.length) → (rowT tools heard d i acc).1.length ≤ acc.length + d ∧ ∀ x ∈ (rowT tools heard d i acc).1, x.length ≤ tools.length
  | 0, i, acc, h => ⟨by simp [rowT], by simpa [rowT] using h⟩
  | d + 1, i, acc, h => by
    unfold rowT
    split
    · simp
    · have := rowT_len d (i + 1) (acc ++ [tlF tools (heard.getD (i + 1) 0 - heard.getD i 0) tools.length]) (by
        intro x hx
        rcases List.mem_append.1 hx with hx | hx
        · exact h x hx
        · rw [List.mem_singleton.1 hx]; exact tlF_len _ _ _)
      refine ⟨?_, this.2⟩
      have := this.1
      simp at this ⊢
      omega
end
end Go.Proofs.YtfmpbkolpjlfbaaDoor.Q
