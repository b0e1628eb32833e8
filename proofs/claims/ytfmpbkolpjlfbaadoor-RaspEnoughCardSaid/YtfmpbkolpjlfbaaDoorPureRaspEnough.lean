import Derived.Test.YtfmpbkolpjlfbaaDoorPH
import Derived.Test.YtfmpbkolpjlfbaaDoorPC
import Derived.Test.YtfmpbkolpjlfbaaDoorLEnough
set_option linter.unusedVariables false
set_option linter.unusedSimpArgs false
namespace Go.Proofs.YtfmpbkolpjlfbaaDoor
open Go.RowKit PRaspKeys R Q Go.Proofs.YtfmpbkolpjlfbaaDoorW.PrintWords
/-! Lists -/
theorem RaspEnough.grows_l0 (l : List Int) (below : Int) (hl : l.length ≤ 1000) : ∀ (d n : Nat) (last : Int), n + d = l.length → (l.drop n).Pairwise (· < ·) → (∀ x ∈ l.drop n, last < x ∧ x < below) → Ev (fun k => saronref00_Grows.l0 k l below last (n : Int)) true
  | 0, n, last, hd, hp, ha => by
    refine Ev.step (fun k => by rw [saronref00_Grows.l0, if_neg (by omega)]) ?_
    exact Ev.now true
  | d + 1, n, last, hd, hp, ha => by
    have hn : n < l.length := by omega
    rw [List.drop_eq_getElem_cons hn] at hp ha
    have h1 := ha l[n] List.mem_cons_self
    rw [List.pairwise_cons] at hp
    refine Ev.step (fun k => by rw [saronref00_Grows.l0, if_pos (by omega), if_pos (by omega), rd_nat, show l.getD n 0 = l[n] by simp [hn], if_neg (by omega), if_neg (by omega), w64 (by omega) (by omega), show ((n : Int) + 1) = ((n + 1 : Nat) : Int) by omega]) ?_
    exact RaspEnough.grows_l0 l below hl d (n + 1) _ (by omega) hp.2 fun x hx => ⟨hp.1 x hx, (ha x (List.mem_cons_of_mem _ hx)).2⟩
theorem RaspEnough.where_l0 (l : List Int) (v : Int) (hl : l.length ≤ 1000) : ∀ (d n : Nat), n + d = l.length → ∃ r, Ev (fun k => saronref00_Where.l0 k l v (n : Int)) r ∧ (0 ≤ r ↔ v ∈ l.drop n)
  | 0, n, hd => by
    refine ⟨-1, ?_, ?_⟩
    · refine Ev.step (fun k => by rw [saronref00_Where.l0, if_neg (by omega)]) ?_
      exact Ev.now _
    · rw [List.drop_of_length_le (by omega)]
      simp
  | d + 1, n, hd => by
    have hn : n < l.length := by omega
    obtain ⟨r, hr, hi⟩ := RaspEnough.where_l0 l v hl d (n + 1) (by omega)
    rw [List.drop_eq_getElem_cons hn]
    by_cases c : l[n] = v
    · refine ⟨n, ?_, ?_⟩
      · refine Ev.step (fun k => by rw [saronref00_Where.l0, if_pos (by omega), if_pos (by omega), rd_nat, show l.getD n 0 = l[n] by simp [hn], if_pos c]) ?_
        exact Ev.now _
      · simp [c]
    · refine ⟨r, ?_, ?_⟩
      · refine Ev.step (fun k => by rw [saronref00_Where.l0, if_pos (by omega), if_pos (by omega), rd_nat, show l.getD n 0 = l[n] by simp [hn], if_neg c, w64 (by omega) (by omega), show ((n : Int) + 1) = ((n + 1 : Nat) : Int) by omega]) ?_
        exact hr
      · rw [hi, List.mem_cons]
        exact ⟨.inr, fun h => h.resolve_left (fun e => c e.symm)⟩
section
variable (l0 : List S57) (lo hi : Int) (l3 : List S69)
theorem RaspEnough.sp_mem : ∀ (n : Nat) (v : Int), v ∈ spList l0 lo hi l3 n ↔ ∃ i : Nat, i < n ∧ v = i ∧ spoiltAt l0 lo hi l3 l3.length i = true
  | 0, v => by simp [spList]
  | n + 1, v => by
    unfold spList
    have ih := RaspEnough.sp_mem n v
    by_cases c : spoiltAt l0 lo hi l3 l3.length n = true
    · rw [if_pos c, List.mem_append, List.mem_singleton, ih]
      constructor
      · rintro (⟨i, h1, h2, h3⟩ | h)
        · exact ⟨i, by omega, h2, h3⟩
        · exact ⟨n, by omega, h, c⟩
      · rintro ⟨i, h1, h2, h3⟩
        by_cases e : i = n
        · subst e; exact .inr h2
        · exact .inl ⟨i, by omega, h2, h3⟩
    · rw [if_neg c, ih]
      constructor
      · rintro ⟨i, h1, h2, h3⟩
        exact ⟨i, by omega, h2, h3⟩
      · rintro ⟨i, h1, h2, h3⟩
        by_cases e : i = n
        · subst e; exact absurd h3 c
        · exact ⟨i, by omega, h2, h3⟩
theorem RaspEnough.sp_grows : ∀ (n : Nat), (spList l0 lo hi l3 n).Pairwise (· < ·)
  | 0 => by simp [spList]
  | n + 1 => by
    unfold spList
    split
    · rw [List.pairwise_append]
      refine ⟨RaspEnough.sp_grows n, by simp, fun x hx y hy => ?_⟩
      obtain ⟨i, h1, h2, _⟩ := (RaspEnough.sp_mem l0 lo hi l3 n x).1 hx
      rw [List.mem_singleton.1 hy, h2]
      omega
    · exact RaspEnough.sp_grows n
theorem RaspEnough.sp_nil (hb : bookOk l0 lo hi l3 = true) : (((spList l0 lo hi l3 l3.length).length : Int) == 0) = !(anySpoilt l0 lo hi l3) := by
  have h6 := (len_ok hb).2.2.2.2.2
  by_cases c : anySpoilt l0 lo hi l3 = true
  · rw [c]
    unfold anySpoilt at c
    simp only [Bool.or_eq_true] at c
    have : ∃ i, spoiltAt l0 lo hi l3 l3.length i = true := by
      rcases c with ((((c | c) | c) | c) | c) | c <;> exact ⟨_, c⟩
    obtain ⟨i, hi'⟩ := this
    have hil : i < l3.length := by unfold spoiltAt at hi'; simp at hi'; exact hi'.1
    have := (RaspEnough.sp_mem l0 lo hi l3 l3.length i).2 ⟨i, hil, rfl, hi'⟩
    have := List.length_pos_of_mem this
    exact beq_eq_false_iff_ne.mpr (by omega)
  · have : spList l0 lo hi l3 l3.length = [] := by
      rw [List.eq_nil_iff_forall_not_mem]
      intro v hv
      obtain ⟨i, h1, _, h3⟩ := (RaspEnough.sp_mem l0 lo hi l3 _ v).1 hv
      apply c
      unfold anySpoilt
      simp only [Bool.or_eq_true]
      match i, h1, h3 with
      | 0, _, h => exact .inl (.inl (.inl (.inl (.inl h))))
      | 1, _, h => exact .inl (.inl (.inl (.inl (.inr h))))
      | 2, _, h => exact .inl (.inl (.inl (.inr h)))
      | 3, _, h => exact .inl (.inl (.inr h))
      | 4, _, h => exact .inl (.inr h)
      | 5, _, h => exact .inr h
      | i + 6, h, _ => omega
    rw [this, Bool.not_eq_true] at *
    simp [c, this]
theorem RaspEnough.keyTo_fo (a m : Int) : ∀ n, keyTo l0 lo hi a m n = fo (fun b x => max b (strk l0 lo hi 0 x m).2) n 0 a
  | 0 => rfl
  | n + 1 => by rw [fo_snoc, keyTo, RaspEnough.keyTo_fo a m n]
/-- What Next tells of the strokes. -/
def RaspEnough.own (x m : Int) : Int := if (strk l0 lo hi 0 x m).2 = 1000 then 0 else (strk l0 lo hi 0 x m).2
def RaspEnough.bad (x m : Int) : Bool := decide ((strk l0 lo hi 0 x m).2 = 1000)
theorem RaspEnough.bads (m : Int) : ∀ (n : Nat) (s : Bool) (x : Int), fo (fun s y => s || RaspEnough.bad l0 lo hi y m) n s x = true ↔ s = true ∨ ∃ i : Nat, i < n ∧ (strk l0 lo hi 0 (x + i) m).2 = 1000
  | 0, s, x => by simp [fo]
  | n + 1, s, x => by
    unfold fo
    rw [RaspEnough.bads m n]
    rw [Bool.or_eq_true]
    unfold RaspEnough.bad
    rw [decide_eq_true_eq]
    constructor
    · rintro ((h | h) | ⟨i, h1, h2⟩)
      · exact .inl h
      · exact .inr ⟨0, by omega, by simpa using h⟩
      · exact .inr ⟨i + 1, by omega, by rw [show x + ((i + 1 : Nat) : Int) = x + 1 + (i : Int) by omega]; exact h2⟩
    · rintro (h | ⟨i, h1, h2⟩)
      · exact .inl (.inl h)
      · cases i with
        | zero => exact .inl (.inr (by simpa using h2))
        | succ i => exact .inr ⟨i, by omega, by rw [show x + 1 + (i : Int) = x + ((i + 1 : Nat) : Int) by omega]; exact h2⟩
end
section
variable {l0 : List S57} {lo hi : Int} {l3 : List S69}
theorem RaspEnough.l1_run (hb : bookOk l0 lo hi l3 = true) (sp : List Int) (all f sum : Int) (n : Nat) (hn : n < l3.length) (st e a b : Int) (R : Bool) : ∀ (d : Nat) (w : Int) (s : Bool) (x : Int), x + d = (l3.getD n z69).f0.f1 + 1 → (l3.getD n z69).f0.f0 ≤ x →
    Ev (fun k => saronlaw03_RaspEnough.l1 k sp all f sum (n : Int) st e (fo (fun w y => max w (RaspEnough.own l0 lo hi y (l3.getD n z69).f1)) d w x) (fo (fun s y => s || RaspEnough.bad l0 lo hi y (l3.getD n z69).f1) d s x) ((l3.getD n z69).f0.f1 + 1) l0 lo hi l3 a b) R →
    Ev (fun k => saronlaw03_RaspEnough.l1 k sp all f sum (n : Int) st e w s x l0 lo hi l3 a b) R
  | 0, w, s, x, hd, hx, h => by
    obtain rfl : x = (l3.getD n z69).f0.f1 + 1 := by omega
    exact h
  | d + 1, w, s, x, hd, hx, h => by
    have hk := key_ok_h hb n hn
    have hsb := strk_bnd l0 lo hi 0 x (l3.getD n z69).f1
    have hnx := next_ok hb (o := x) (m := (l3.getD n z69).f1) (by omega) (by omega) (by omega)
    refine Ev.step (fun k => by rw [saronlaw03_RaspEnough.l1, if_pos (by omega), if_pos (by omega), show rd_T69 l3 (n : Int) = l3.getD n z69 by simp [rd_T69], if_pos (by omega), rasp_Next.f, Option.bind_some, hnx, w64 (x := x + 1) (by omega) (by omega)]) ?_
    have e1 : mx w (if (strk l0 lo hi 0 x (l3.getD n z69).f1).2 = 1000 then ((0, 0, 4) : Int × Int × Int) else ((strk l0 lo hi 0 x (l3.getD n z69).f1).1, (strk l0 lo hi 0 x (l3.getD n z69).f1).2, 0)).2.1 = max w (RaspEnough.own l0 lo hi x (l3.getD n z69).f1) := by
      unfold mx RaspEnough.own
      split <;> dsimp only <;> omega
    have e2 : ((if (strk l0 lo hi 0 x (l3.getD n z69).f1).2 = 1000 then ((0, 0, 4) : Int × Int × Int) else ((strk l0 lo hi 0 x (l3.getD n z69).f1).1, (strk l0 lo hi 0 x (l3.getD n z69).f1).2, 0)).2.2 != 0) = RaspEnough.bad l0 lo hi x (l3.getD n z69).f1 := by
      unfold RaspEnough.bad
      by_cases c : (strk l0 lo hi 0 x (l3.getD n z69).f1).2 = 1000
      · rw [if_pos c, decide_eq_true c]; rfl
      · rw [if_neg c, decide_eq_false c]; rfl
    have ih := RaspEnough.l1_run hb sp all f sum n hn st e a b R d (max w (RaspEnough.own l0 lo hi x (l3.getD n z69).f1)) (s || RaspEnough.bad l0 lo hi x (l3.getD n z69).f1) (x + 1) (by omega) (by omega) h
    cases s with
    | true =>
      refine evc (fun k => by rw [if_pos rfl, e1]) ?_
      exact ih
    | false =>
      refine evc (fun k => by rw [if_neg (by simp), e1, e2]) ?_
      exact ih
theorem RaspEnough.need_spec (l0 : List S57) (lo hi o : Int) : ∀ (d m : Nat), (∃ j : Nat, m ≤ j ∧ j < m + d ∧ needFrom l0 lo hi o d m = ((j : Int), 0) ∧ (strk l0 lo hi 0 o j).2 ≠ 1000 ∧ ∀ i : Nat, m ≤ i → i < j → (strk l0 lo hi 0 o i).2 = 1000) ∨ (needFrom l0 lo hi o d m = (0, 4) ∧ ∀ i : Nat, m ≤ i → i < m + d → (strk l0 lo hi 0 o i).2 = 1000)
  | 0, m => .inr ⟨rfl, fun i h h' => by omega⟩
  | d + 1, m => by
    unfold needFrom
    by_cases c : (strk l0 lo hi 0 o m).2 = 1000
    · rw [if_pos c]
      rcases RaspEnough.need_spec l0 lo hi o d (m + 1) with ⟨j, h1, h2, h3, h4, h5⟩ | ⟨h1, h2⟩
      · refine .inl ⟨j, by omega, by omega, h3, h4, fun i hi hj => ?_⟩
        by_cases e : i = m
        · subst e; exact c
        · exact h5 i (by omega) hj
      · refine .inr ⟨h1, fun i hi hj => ?_⟩
        by_cases e : i = m
        · subst e; exact c
        · exact h2 i (by omega) (by omega)
    · rw [if_neg c]
      exact .inl ⟨m, Nat.le_refl _, by omega, rfl, c, fun i hi hj => by omega⟩
theorem RaspEnough.l0_run (hb : bookOk l0 lo hi l3 = true) (a b : Int) : ∀ (d n : Nat), n + d = l3.length →
    Ev (fun k => saronlaw03_RaspEnough.l0 k (spList l0 lo hi l3 l3.length) (totalF l0 lo hi l3).1 (totalF l0 lo hi l3).2 (sumTo l0 lo hi l3 n) (n : Int) l0 lo hi l3 a b) true
  | 0, n, hd => by
    obtain rfl : n = l3.length := by omega
    have hs := sound_of hb
    have ha := Int.emod_nonneg a (show (121 : Int) ≠ 0 by omega)
    have ha' := Int.emod_lt_of_pos a (show (0 : Int) < 121 by omega)
    have hbb := Int.emod_nonneg b (show (31 : Int) ≠ 0 by omega)
    have hbb' := Int.emod_lt_of_pos b (show (0 : Int) < 31 by omega)
    refine Ev.step (fun k => by rw [saronlaw03_RaspEnough.l0, if_neg (by omega), state_f, Option.bind_some, rasp_Need.f, Option.bind_some, rasp_Next.f, Option.bind_some]) ?_
    generalize ho : a % 121 - 60 = o
    generalize hm' : b % 31 = m at *
    have hin : -60 ≤ o ∧ o ≤ 60 := by omega
    have hnd : needF l0 lo hi l3 o = needFrom l0 lo hi o 31 0 := by
      unfold needF
      rw [asked_of (o := o) (m := 0) hin (by omega) (by omega), openV_ok hb, if_neg (by simp)]
    rw [next_ok hb hin (by omega) (by omega), hnd]
    have hsum : (totalF l0 lo hi l3).2 = 0 → sumTo l0 lo hi l3 l3.length = (totalF l0 lo hi l3).1 := by
      unfold totalF
      rw [openV_ok hb, if_neg (by simp)]
      split
      · intro h; cases h
      · intro; rfl
    have red : ∀ k, (if (needFrom l0 lo hi o 31 0).2 = 0 then ((saronref00_Sits.f (needFrom l0 lo hi o 31 0).1 0 30).bind fun t => saronlaw03_RaspEnough.j5 k m (needFrom l0 lo hi o 31 0).1 (needFrom l0 lo hi o 31 0).2 (if (strk l0 lo hi 0 o m).2 = 1000 then ((0, 0, 4) : Int × Int × Int) else ((strk l0 lo hi 0 o m).1, (strk l0 lo hi 0 o m).2, 0)).2.2 (!t)) else (if (needFrom l0 lo hi o 31 0).2 = 4 then saronlaw03_RaspEnough.j5 k m (needFrom l0 lo hi o 31 0).1 (needFrom l0 lo hi o 31 0).2 (if (strk l0 lo hi 0 o m).2 = 1000 then ((0, 0, 4) : Int × Int × Int) else ((strk l0 lo hi 0 o m).1, (strk l0 lo hi 0 o m).2, 0)).2.2 false else saronlaw03_RaspEnough.j5 k m (needFrom l0 lo hi o 31 0).1 (needFrom l0 lo hi o 31 0).2 (if (strk l0 lo hi 0 o m).2 = 1000 then ((0, 0, 4) : Int × Int × Int) else ((strk l0 lo hi 0 o m).1, (strk l0 lo hi 0 o m).2, 0)).2.2 true)) = saronlaw03_RaspEnough.j5 k m (needFrom l0 lo hi o 31 0).1 (needFrom l0 lo hi o 31 0).2 (if (strk l0 lo hi 0 o m).2 = 1000 then ((0, 0, 4) : Int × Int × Int) else ((strk l0 lo hi 0 o m).1, (strk l0 lo hi 0 o m).2, 0)).2.2 false := fun k => by
      rcases RaspEnough.need_spec l0 lo hi o 31 0 with ⟨j, h1, h2, h3, h4, h5⟩ | ⟨h1, h2⟩
      · rw [h3, if_pos rfl, sits_f, Option.bind_some, isIn_iff.2 (show 0 ≤ ((j : Int), (0 : Int)).1 ∧ ((j : Int), (0 : Int)).1 ≤ 30 by dsimp only; omega)]
        rfl
      · rw [h1]
        rfl
    have body : (if (needFrom l0 lo hi o 31 0).2 = 0 then (if (((if (strk l0 lo hi 0 o m).2 = 1000 then ((0, 0, 4) : Int × Int × Int) else ((strk l0 lo hi 0 o m).1, (strk l0 lo hi 0 o m).2, 0)).2.2 == 0) == (decide (m ≥ (needFrom l0 lo hi o 31 0).1))) = true then ((saronlaw03_filed.f).bind fun t215 => (some t215)) else (some false)) else (if (((if (strk l0 lo hi 0 o m).2 = 1000 then ((0, 0, 4) : Int × Int × Int) else ((strk l0 lo hi 0 o m).1, (strk l0 lo hi 0 o m).2, 0)).2.2 == 0) == false) = true then ((saronlaw03_filed.f).bind fun t216 => (some t216)) else (some false))) = some true := by
      rcases RaspEnough.need_spec l0 lo hi o 31 0 with ⟨j, h1, h2, h3, h4, h5⟩ | ⟨h1, h2⟩
      · rw [h3, if_pos rfl]
        have he : ((if (strk l0 lo hi 0 o m).2 = 1000 then ((0, 0, 4) : Int × Int × Int) else ((strk l0 lo hi 0 o m).1, (strk l0 lo hi 0 o m).2, 0)).2.2 == 0) = decide (m ≥ (j : Int)) := by
          by_cases c : m ≥ (j : Int)
          · have := more_metal hs (lo := lo) (hi := hi) (way := 0) (.inl rfl) o (j : Int) m (by omega) c (by omega)
            have hsb := strk_bnd l0 lo hi 0 o (j : Int)
            rw [if_neg (by omega)]
            simp [c]
          · have := h5 m.toNat (by omega) (by omega)
            rw [show ((m.toNat : Nat) : Int) = m by omega] at this
            rw [if_pos this]
            simp; omega
        rw [he, if_pos (by simp)]
        rfl
      · have := h2 m.toNat (by omega) (by omega)
        rw [show ((m.toNat : Nat) : Int) = m by omega] at this
        rw [h1, if_pos this]
        rfl
    have fin : Ev (fun k => saronlaw03_RaspEnough.j5 k m (needFrom l0 lo hi o 31 0).1 (needFrom l0 lo hi o 31 0).2 (if (strk l0 lo hi 0 o m).2 = 1000 then ((0, 0, 4) : Int × Int × Int) else ((strk l0 lo hi 0 o m).1, (strk l0 lo hi 0 o m).2, 0)).2.2 false) true := by
      refine Ev.step (fun k => by rw [saronlaw03_RaspEnough.j5, if_neg (by simp)]) ?_
      exact ev_some fun k => body
    by_cases c : (totalF l0 lo hi l3).2 = 0
    · refine evc (fun k => by rw [if_pos c, if_pos (hsum c), red]) ?_
      exact fin
    · refine evc (fun k => by rw [if_neg c, red]) ?_
      exact fin
  | d + 1, n, hd => by
    have hlen := len_ok hb
    have hn : n < l3.length := by omega
    have hk := key_ok_h hb n hn
    have ih := RaspEnough.l0_run hb a b d (n + 1) (by omega)
    have hst : strokesF l0 lo hi l3 (n : Int) = if keyF l0 lo hi (l3.getD n z69) = 1000 then (0, 4) else (keyF l0 lo hi (l3.getD n z69), 0) := by
      unfold strokesF
      rw [show isIn (n : Int) 0 ((l3.length : Int) - 1) = true from isIn_iff.2 (by omega), openV_ok hb, if_neg (by simp), Int.toNat_natCast]
    refine Ev.step (fun k => by rw [saronlaw03_RaspEnough.l0, if_pos (by omega), rasp_Strokes.f, Option.bind_some, if_pos (by omega), hst, show rd_T69 l3 (n : Int) = l3.getD n z69 by simp [rd_T69]]) ?_
    refine RaspEnough.l1_run hb _ _ _ _ n hn _ _ a b true ((l3.getD n z69).f0.f1 - (l3.getD n z69).f0.f0 + 1).toNat 0 false _ (by omega) (Int.le_refl _) ?_
    obtain ⟨q1, q2⟩ := keyTo_sp l0 lo hi (l3.getD n z69).f0.f0 (l3.getD n z69).f1 ((l3.getD n z69).f0.f1 - (l3.getD n z69).f0.f0 + 1).toNat
    have hkF : keyF l0 lo hi (l3.getD n z69) = keyTo l0 lo hi (l3.getD n z69).f0.f0 (l3.getD n z69).f1 ((l3.getD n z69).f0.f1 - (l3.getD n z69).f0.f0 + 1).toNat := rfl
    have hkb := keyTo_bnd l0 lo hi (l3.getD n z69).f0.f0 (l3.getD n z69).f1 ((l3.getD n z69).f0.f1 - (l3.getD n z69).f0.f0 + 1).toNat
    have hbads := RaspEnough.bads l0 lo hi (l3.getD n z69).f1 ((l3.getD n z69).f0.f1 - (l3.getD n z69).f0.f0 + 1).toNat false (l3.getD n z69).f0.f0
    have hsp : fo (fun s y => s || RaspEnough.bad l0 lo hi y (l3.getD n z69).f1) ((l3.getD n z69).f0.f1 - (l3.getD n z69).f0.f0 + 1).toNat false (l3.getD n z69).f0.f0 = decide (keyF l0 lo hi (l3.getD n z69) = 1000) := by
      rw [Bool.eq_iff_iff, hbads, decide_eq_true_eq, hkF]
      constructor
      · rintro (h | ⟨i, h1, h2⟩)
        · cases h
        · have := q1 i h1; omega
      · intro h
        rcases q2 with q2 | ⟨i, h1, h2⟩
        · omega
        · exact .inr ⟨i, h1, by omega⟩
    rw [hsp]
    obtain ⟨r, hr, hri⟩ := RaspEnough.where_l0 (spList l0 lo hi l3 l3.length) (n : Int) (by have := spList_len l0 lo hi l3 l3.length; omega) (spList l0 lo hi l3 l3.length).length 0 (by omega)
    have hri' : decide (r ≥ 0) = decide (keyF l0 lo hi (l3.getD n z69) = 1000) := by
      rw [Bool.eq_iff_iff, decide_eq_true_eq, decide_eq_true_eq]
      show 0 ≤ r ↔ _
      rw [hri, List.drop_zero, RaspEnough.sp_mem]
      constructor
      · rintro ⟨i, h1, h2, h3⟩
        obtain rfl : n = i := by omega
        unfold spoiltAt at h3
        simp at h3
        simpa using h3.2
      · intro h
        refine ⟨n, hn, rfl, ?_⟩
        unfold spoiltAt
        simp at h ⊢
        exact ⟨hn, h⟩
    refine Ev.step (fun k => by rw [saronlaw03_RaspEnough.l1, if_pos (by omega), if_pos (by omega), show rd_T69 l3 (n : Int) = l3.getD n z69 by simp [rd_T69], if_neg (by omega)]) ?_
    refine ebind (show Ev (fun k => saronref00_Where.f k (spList l0 lo hi l3 l3.length) (n : Int)) r from hr) ?_
    have hsumb := sumTo_bnd l0 lo hi l3 n
    have hu : sumTo l0 lo hi l3 (n + 1) = if keyF l0 lo hi (l3.getD n z69) = 1000 then sumTo l0 lo hi l3 n else sumTo l0 lo hi l3 n + keyF l0 lo hi (l3.getD n z69) := rfl
    rw [hu] at ih
    by_cases c : keyF l0 lo hi (l3.getD n z69) = 1000
    · rw [if_pos c] at ih
      refine evc (fun k => by rw [hri', if_pos c, decide_eq_true c, if_neg (by simp), if_neg (by simp), if_pos rfl]) ?_
      refine Ev.step (fun k => by rw [saronlaw03_RaspEnough.j4, if_neg (by simp), w64 (x := (n : Int) + 1) (by omega) (by omega), w64 (by dsimp only; omega) (by dsimp only; omega), show ((n : Int) + 1) = ((n + 1 : Nat) : Int) by omega, show sumTo l0 lo hi l3 n + ((0, 4) : Int × Int).1 = sumTo l0 lo hi l3 n by simp]) ?_
      exact ih
    · rw [if_neg c] at ih
      have hw : fo (fun w y => max w (RaspEnough.own l0 lo hi y (l3.getD n z69).f1)) ((l3.getD n z69).f0.f1 - (l3.getD n z69).f0.f0 + 1).toNat 0 (l3.getD n z69).f0.f0 = keyF l0 lo hi (l3.getD n z69) := by
        rw [hkF, RaspEnough.keyTo_fo]
        refine fo_congr _ _ _ fun w x hx hx' => ?_
        have := q1 (x - (l3.getD n z69).f0.f0).toNat (by omega)
        rw [show (l3.getD n z69).f0.f0 + (((x - (l3.getD n z69).f0.f0).toNat : Nat) : Int) = x by omega] at this
        unfold RaspEnough.own
        rw [if_neg (by omega)]
      rw [hw]
      refine evc (fun k => by rw [hri', if_neg c, decide_eq_false c, if_neg (by simp), if_neg (by simp), if_neg (by simp), if_pos rfl, bne_self_eq_false]) ?_
      refine Ev.step (fun k => by rw [saronlaw03_RaspEnough.j4, if_neg (by simp), w64 (x := (n : Int) + 1) (by omega) (by omega), w64 (by dsimp only; omega) (by dsimp only; omega), show ((n : Int) + 1) = ((n + 1 : Nat) : Int) by omega]) ?_
      exact ih
end
theorem RaspEnough.pure (l0 : List S57) (lo hi : Int) (l3 : List S69) (h0 : l0.length ≤ 9223372036854775807) (h3 : l3.length ≤ 9223372036854775807) (a b : Int) (wa : (Lit.int .i64 a).wf = true) (wb : (Lit.int .i64 b).wf = true) :
    ∃ k, saronlaw03_RaspEnough.f k l0 lo hi l3 a b = some true := by
  refine Ev.rounds (g := fun k => saronlaw03_RaspEnough.f k l0 lo hi l3 a b) ?_
  refine evc (fun k => by rw [saronlaw03_RaspEnough.f, rasp_Spoilt.f, Option.bind_some]) ?_
  refine ebind (sound_f l0 lo hi l3 h0 h3) ?_
  by_cases hb : bookOk l0 lo hi l3 = true
  · have hlen := len_ok hb
    have hsp : spoiltF l0 lo hi l3 = (spList l0 lo hi l3 l3.length, 0) := by
      unfold spoiltF
      rw [openV_ok hb, if_neg (by simp)]
    have hsl := spList_len l0 lo hi l3 l3.length
    refine Ev.step (fun k => by rw [saronlaw03_RaspEnough.j0, if_neg (by simp [hb]), rasp_Total.f, Option.bind_some, hsp, if_pos rfl]) ?_
    have hgr : Ev (fun k => saronref00_Grows.f k (spList l0 lo hi l3 l3.length) (l3.length : Int)) true := by
      refine RaspEnough.grows_l0 _ _ (by omega) (spList l0 lo hi l3 l3.length).length 0 (-1) (by omega) ?_ ?_
      · rw [List.drop_zero]; exact RaspEnough.sp_grows l0 lo hi l3 _
      · rw [List.drop_zero]
        intro x hx
        obtain ⟨i, h1, h2, _⟩ := (RaspEnough.sp_mem l0 lo hi l3 _ x).1 hx
        omega
    refine ebind hgr ?_
    have hnil := RaspEnough.sp_nil l0 lo hi l3 hb
    have hrun := RaspEnough.l0_run hb a b l3.length 0 (by omega)
    have htot : totalF l0 lo hi l3 = if anySpoilt l0 lo hi l3 = true then (0, 4) else (sumTo l0 lo hi l3 l3.length, 0) := by
      unfold totalF
      rw [openV_ok hb, if_neg (by simp)]
    by_cases c : anySpoilt l0 lo hi l3 = true
    · rw [if_pos c] at htot
      rw [htot] at hrun
      refine evc (fun k => by rw [if_pos rfl, htot, hnil, c, if_neg (by simp), if_neg (by simp), if_pos rfl, bne_self_eq_false]) ?_
      refine Ev.step (fun k => by rw [saronlaw03_RaspEnough.j1, if_neg (by simp)]) ?_
      exact hrun
    · rw [if_neg c] at htot
      rw [htot] at hrun
      rw [Bool.not_eq_true] at c
      refine evc (fun k => by rw [if_pos rfl, htot, hnil, c, if_neg (by simp), if_pos rfl]) ?_
      refine Ev.step (fun k => by rw [saronlaw03_RaspEnough.j1, if_neg (by simp)]) ?_
      exact hrun
  · have e : spoiltF l0 lo hi l3 = ([], 30) := by
      unfold spoiltF openV openE checkE
      rw [if_neg hb]
      simp
    refine Ev.step (fun k => by rw [saronlaw03_RaspEnough.j0, if_pos (by simpa using hb), e, if_pos rfl, if_pos (by rfl)]) ?_
    exact Ev.now true
end Go.Proofs.YtfmpbkolpjlfbaaDoor
