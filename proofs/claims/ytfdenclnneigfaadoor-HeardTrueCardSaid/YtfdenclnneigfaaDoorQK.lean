import Derived.Test.YtfdenclnneigfaaDoorQH0
import Derived.Test.YtfdenclnneigfaaDoorCK
set_option linter.unusedVariables false
set_option linter.unusedSimpArgs false
namespace Go.Proofs.YtfdenclnneigfaaDoor.Q
open Go.RowKit Go.Proofs.YtfdenclnneigfaaDoorW.PrintWords Go.Proofs.YtfdenclnneigfaaDoorW.PrintLast Go.Proofs.YtfdenclnneigfaaDoor.PRaspKeys Go.Proofs.YtfdenclnneigfaaDoor.R
/-! ### What the law draws -/
theorem turn_f (a b : Int) (hb : 1 ≤ b) (hb2 : b ≤ 9223372036854775807) : saronref00_Turn.f a b = some (a % b) := by
  have e1 := Int.emod_nonneg a (show b ≠ 0 by omega)
  have e2 := Int.emod_lt_of_pos a (show 0 < b by omega)
  unfold saronref00_Turn.f
  rw [if_neg (by omega), if_neg (by omega), Int.tmod_eq_emod]
  by_cases c : 0 ≤ a ∨ b ∣ a
  · rw [if_pos c, if_neg (by omega)]
    simp
  · rw [if_neg c]
    have hn : ((b.natAbs : Nat) : Int) = b := by omega
    rw [hn, if_pos (by omega), w64 (by omega) (by omega)]
    congr 1
    omega
theorem nth_f (bits : List Int) (i : Int) (hm : bits.length ≤ 9223372036854775807) : ∃ v, saronref00_Nth.f bits i = some v := by
  unfold saronref00_Nth.f
  by_cases h0 : (bits.length : Int) = 0
  · exact ⟨0, by rw [if_pos h0]⟩
  · rw [if_neg h0, turn_f i _ (by omega) (by omega), Option.bind_some]
    have h1 := Int.emod_nonneg i h0
    have h2 := Int.emod_lt_of_pos i (show (0 : Int) < bits.length by omega)
    exact ⟨_, by rw [if_pos h1, if_pos h2]⟩
theorem draw_f (lo hi n : Int) (h : lo ≤ hi) (h0 : 0 ≤ lo) (h1 : hi ≤ 1000000) : ∃ v, saronref00_Draw.f lo hi n = some v ∧ lo ≤ v ∧ v ≤ hi := by
  unfold saronref00_Draw.f
  by_cases c : hi ≤ lo
  · rw [if_pos c]
    exact ⟨_, rfl, by omega, by omega⟩
  · rw [if_neg c, w64 (x := hi - lo) (by omega) (by omega), w64 (x := hi - lo + 1) (by omega) (by omega), if_neg (by omega), turn_f _ _ (by omega) (by omega), Option.bind_some]
    have e1 := Int.emod_nonneg n (show hi - lo + 1 ≠ 0 by omega)
    have e2 := Int.emod_lt_of_pos n (show 0 < hi - lo + 1 by omega)
    rw [w64 (by omega) (by omega)]
    exact ⟨_, rfl, by omega, by omega⟩
end Go.Proofs.YtfdenclnneigfaaDoor.Q
