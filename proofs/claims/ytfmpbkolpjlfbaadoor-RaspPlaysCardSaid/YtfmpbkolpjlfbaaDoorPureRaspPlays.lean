import Derived.Test.YtfmpbkolpjlfbaaDoorPS
import Derived.Test.YtfmpbkolpjlfbaaDoorPA
import Derived.Test.YtfmpbkolpjlfbaaDoorCP
import Derived.Test.YtfmpbkolpjlfbaaDoorLPlays
set_option linter.unusedVariables false
set_option linter.unusedSimpArgs false
namespace Go.Proofs.YtfmpbkolpjlfbaaDoor.Q
open Go.RowKit Go.Proofs.YtfmpbkolpjlfbaaDoorW.PrintWords Go.Proofs.YtfmpbkolpjlfbaaDoorW.PrintLast Go.Proofs.YtfmpbkolpjlfbaaDoor.PRaspKeys Go.Proofs.YtfmpbkolpjlfbaaDoor.R
theorem key_ok_at' {l0 : List S57} {lo hi : Int} {l3 : List S69} (h : bookOk l0 lo hi l3 = true) (k : Nat) (hk : k < l3.length) :
    -60 ≤ (l3.getD k z69).f0.f0 ∧ (l3.getD k z69).f0.f0 ≤ (l3.getD k z69).f0.f1 ∧ (l3.getD k z69).f0.f1 ≤ 60 ∧ 0 ≤ (l3.getD k z69).f1 ∧ (l3.getD k z69).f1 ≤ 30 := by
  have hok := keys_ok h k hk
  unfold keyOk isIn at hok
  simp only [Bool.and_eq_true, decide_eq_true_eq] at hok
  omega
theorem len4' {l0 : List S57} {lo hi : Int} {l3 : List S69} (h : bookOk l0 lo hi l3 = true) : l0.length ≤ 4 := by
  unfold bookOk isIn at h
  simp only [Bool.and_eq_true, decide_eq_true_eq] at h
  omega
section
variable (tools : List S57) (lo hi : Int) (l3 : List S69)
/-- A stroke of the tool that is told leads to where the key isn't spoilt. -/
theorem step_ok {tools : List S57} {lo hi : Int} (hs : Sound tools) (off m : Int) (h0 : 0 ≤ m) (hm : m ≤ 30) (hin : -60 ≤ off ∧ off ≤ 60) (hf : ¬ (lo ≤ off ∧ off ≤ hi)) (hn : (strk tools lo hi 0 off m).2 ≠ 1000) :
    ∃ j : Nat, j < tools.length ∧ (strk tools lo hi 0 off m).1 = (j : Int) ∧ (tools.getD j z57).f1 ≤ m ∧ 1 ≤ (tools.getD j z57).f1 ∧ ∀ x, (tools.getD j z57).f0.f0 ≤ x → x ≤ (tools.getD j z57).f0.f1 →
      (strk tools lo hi 0 (off + x) (m - (tools.getD j z57).f1)).2 ≠ 1000 ∧ (strk tools lo hi 0 (off + x) (m - (tools.getD j z57).f1)).2 < (strk tools lo hi 0 off m).2 ∧ -60 ≤ off + x ∧ off + x ≤ 60 := by
  rcases strk_cases hs (.inl rfl) off m h0 hm hin with ⟨h, _⟩ | ⟨_, e, _⟩ | ⟨_, j, hj, e, hc, hl, hlm, _⟩
  · exact absurd h hf
  · rw [e] at hn; exact absurd rfl hn
  · refine ⟨j, hj, by rw [e], hc, (hs.cost j hj).1, fun x hx hx' => ?_⟩
    have hw := (Ld_worst hs (lo := lo) (hi := hi) (off := off) (m := m) hj).1 x hx hx'
    have hne : (strk tools lo hi 0 (off + x) (m - (tools.getD j z57).f1)).2 ≠ 1000 := by have := (hs.cost j hj); omega
    refine ⟨hne, by rw [e]; dsimp only; omega, ?_⟩
    by_cases c : -60 ≤ off + x ∧ off + x ≤ 60
    · exact c
    · rw [strk_out _ _ _ _ _ _ c] at hne; exact absurd rfl hne
theorem rPlay_l0 (hbk : bookOk tools lo hi l3 = true) (moves : List Int) (hml : moves.length ≤ 9223372036854775807) : ∀ (d : Nat) (told : List Int) (off m : Int), told.length + d = moves.length → 0 ≤ m → m ≤ 30 → (told.length : Int) + m ≤ 30 → -60 ≤ off ∧ off ≤ 60 → (strk tools lo hi 0 off m).2 ≠ 1000 →
    Ev (fun k => saronref03_Play.l0 k off moves (rowsTo tools lo hi 0 31) m told tools lo hi l3) (playTo tools lo hi moves d told off m)
  | d, told, off, m, hd, h0, hm, ht, hin, hn => by
    have hs := sound_of hbk
    by_cases hf : lo ≤ off ∧ off ≤ hi
    · refine Ev.step (fun k => by rw [saronref03_Play.l0, bears_f, Option.bind_some, if_pos (isIn_iff.2 hf)]) ?_
      cases d with
      | zero => exact ev_some fun k => by rw [if_neg (by omega), playTo, if_pos hf]
      | succ d => exact ev_some fun k => by rw [if_pos (by omega), playTo, if_pos hf]
    · refine Ev.step (fun k => by rw [saronref03_Play.l0, bears_f, Option.bind_some, if_neg (by rw [isIn_iff]; exact hf)]) ?_
      obtain ⟨j, hj, e, hc, hc1, hstep⟩ := step_ok hs off m h0 hm hin hf hn
      refine ebind (best_f tools lo hi l3 hs (len4' hbk) 0 true rfl 31 off m hin.1 hin.2 h0 (by omega) (by omega)) ?_
      rw [show (strk tools lo hi 0 off m) = ((j : Int), (strk tools lo hi 0 off m).2) from Prod.ext e rfl]
      refine evc (fun k => by rw [if_pos (by omega), if_pos (by omega)]) ?_
      cases d with
      | zero => exact ev_some fun k => by rw [if_pos (by omega), playTo, if_neg hf]
      | succ d =>
        have hmv := hs.move j hj
        refine evc (fun k => by rw [if_neg (by omega), if_pos (by omega), if_pos (by omega), bears_f, Option.bind_some, rd_nat]) ?_
        rw [playTo, if_neg hf, e, if_neg (by omega)]
        rw [show rd_T57 tools (j : Int) = tools.getD j z57 by simp [rd_T57], Int.toNat_natCast]
        by_cases hi' : isIn (moves.getD told.length 0) (tools.getD j z57).f0.f0 (tools.getD j z57).f0.f1 = true
        · have hi2 := isIn_iff.1 hi'
          obtain ⟨g1, g2, g3, g4⟩ := hstep _ hi2.1 hi2.2
          refine evc (fun k => by rw [if_pos hi', if_pos (by omega), w64 (by omega) (by omega), w64 (by omega) (by omega)]) ?_
          rw [if_pos hi']
          exact rPlay_l0 hbk moves hml d (told ++ [(j : Int)]) _ _ (by simp only [List.length_append, List.length_singleton]; omega) (by omega) (by omega) (by simp only [List.length_append, List.length_singleton]; omega) ⟨g3, g4⟩ g1
        · refine ev_some fun k => ?_
          rw [if_neg hi', if_neg hi']
theorem rPlay_f (hs0 : tools.length ≤ 9223372036854775807) (hs : l3.length ≤ 9223372036854775807) (ki off : Int) (moves : List Int) (hml : moves.length ≤ 9223372036854775807) : Ev (fun k => saronref03_Play.f k tools lo hi l3 ki off moves) (playF tools lo hi l3 ki off moves) := by
  have hj0 : Ev (fun k => saronref03_Play.j0 k ki off moves (openV tools lo hi l3 (playOk l3 ki off)) tools lo hi l3) (playF tools lo hi l3 ki off moves) := by
    unfold playF
    by_cases h : openV tools lo hi l3 (playOk l3 ki off) = 0
    · obtain ⟨hbk, hin⟩ := openV_zero h
      unfold playOk at hin
      simp only [Bool.and_eq_true, isIn_iff] at hin
      have hk := key_ok_at' hbk ki.toNat (by omega)
      have hsb := strk_bnd tools lo hi 0 off (l3.getD ki.toNat z69).f1
      refine Ev.step (fun k => by rw [saronref03_Play.j0, if_pos h]) ?_
      rw [if_neg (by simpa using h)]
      refine ebind (rows_f tools lo hi l3 (sound_of hbk) (len4' hbk) true) ?_
      refine evc (fun k => by rw [if_pos (by omega), if_pos (by omega), show rd_T69 l3 ki = l3.getD ki.toNat z69 from rfl, if_pos (by omega), if_pos (by rw [rowsTo_len]; omega), rowsTo_rd _ _ _ _ _ _ (by omega) (by omega), row_at_f _ _ _ _ _ _ (by omega) (by omega), Option.bind_some]) ?_
      rw [show wyB true = 0 from rfl]
      by_cases c : (strk tools lo hi 0 off (l3.getD ki.toNat z69).f1).2 = 1000
      · refine ev_some fun k => ?_
        rw [if_pos c, if_pos c]
      · refine evc (fun k => by rw [if_neg c]) ?_
        rw [if_neg c]
        exact rPlay_l0 tools lo hi l3 hbk moves hml moves.length [] off _ (by simp only [List.length_nil]; omega) (by omega) (by omega) (by simp only [List.length_nil]; omega) (by omega) c
    · refine Ev.step (fun k => by rw [saronref03_Play.j0, if_neg h]) ?_
      rw [if_pos h]
      exact Ev.now _
  refine evc (fun k => by rw [saronref03_Play.f, w64 (by omega) (by omega), sits_f, Option.bind_some]) ?_
  by_cases c : isIn ki 0 ((l3.length : Int) - 1) = true
  · have c' := isIn_iff.1 c
    refine evc (fun k => by rw [if_pos c, if_pos (by omega), if_pos (by omega), bears_f, Option.bind_some]) ?_
    have e : playOk l3 ki off = isIn off (rd_T69 l3 ki).f0.f0 (rd_T69 l3 ki).f0.f1 := by unfold playOk; rw [c]; rfl
    rw [e] at hj0
    exact ebind (rasked_f tools lo hi l3 _ hs0 hs) hj0
  · refine evc (fun k => by rw [if_neg c]) ?_
    have e : playOk l3 ki off = false := by unfold playOk; rw [Bool.not_eq_true] at c; rw [c]; rfl
    rw [e] at hj0
    exact ebind (rasked_f tools lo hi l3 _ hs0 hs) hj0
theorem playTo_len (moves : List Int) : ∀ (d : Nat) (told : List Int) (off m : Int), (playTo tools lo hi moves d told off m).1.length ≤ told.length + d
  | 0, told, off, m => by
    unfold playTo
    split <;> simp
  | d + 1, told, off, m => by
    unfold playTo
    split
    · simp
    · split
      · simp
      · split
        · have := playTo_len moves d (told ++ [(strk tools lo hi 0 off m).1]) (off + moves.getD told.length 0) (m - (tools.getD (strk tools lo hi 0 off m).1.toNat z57).f1)
          simp at this ⊢
          omega
        · simp
end
end Go.Proofs.YtfmpbkolpjlfbaaDoor.Q
namespace Go.Proofs.YtfmpbkolpjlfbaaDoor
open Go.RowKit PRaspKeys R Q Go.Proofs.YtfmpbkolpjlfbaaDoorW.PrintWords
theorem RaspPlays.pure (l0 : List S57) (lo hi : Int) (l3 : List S69) (h0 : l0.length ≤ 9223372036854775807) (h3 : l3.length ≤ 9223372036854775807) (a b : Int) (wa : (Lit.int .i64 a).wf = true) (wb : (Lit.int .i64 b).wf = true) (moves : List Int) (hm : moves.length ≤ 9223372036854775807) :
    ∃ k, saronlaw03_RaspPlays.f k l0 lo hi l3 a b moves = some true := by
  refine Ev.rounds (g := fun k => saronlaw03_RaspPlays.f k l0 lo hi l3 a b moves) ?_
  refine evc (fun k => by rw [saronlaw03_RaspPlays.f, rasp_Play.f, Option.bind_some]) ?_
  refine ebind (rPlay_f l0 lo hi l3 h0 h3 a b moves hm) ?_
  have hsl : (playF l0 lo hi l3 a b moves).1.length ≤ 9223372036854775807 := by
    unfold playF
    split
    · simp
    · split
      · simp
      · have := playTo_len l0 lo hi moves moves.length [] b (l3.getD a.toNat z69).f1
        simp only [List.length_nil, Nat.zero_add] at this
        omega
  refine ebind (equal_self _ hsl) ?_
  refine ev_some fun k => ?_
  rw [if_pos rfl, if_pos rfl, if_pos rfl, saronlaw03_filed.f]
  rfl
end Go.Proofs.YtfmpbkolpjlfbaaDoor
