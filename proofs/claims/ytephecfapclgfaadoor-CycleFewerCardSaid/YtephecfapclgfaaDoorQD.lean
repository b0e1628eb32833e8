import Derived.Test.YtephecfapclgfaaDoorQW
import Derived.Test.YtephecfapclgfaaDoorCD
set_option linter.unusedVariables false
set_option linter.unusedSimpArgs false
namespace Go.Proofs.YtephecfapclgfaaDoor.Q
open Go.RowKit Go.Proofs.YtephecfapclgfaaDoorW.PrintWords Go.Proofs.YtephecfapclgfaaDoorW.PrintLast Go.Proofs.YtephecfapclgfaaDoor.PRaspKeys Go.Proofs.YtephecfapclgfaaDoor.R

/-! ### What the statements that don't use the reference share -/
theorem turn_f (a b : Int) (hb : 1 ≤ b) (hb2 : b ≤ 9223372036854775807) : saronref00_Turn.f a b = some (a % b) := by
  have e1 := Int.emod_nonneg a (show b ≠ 0 by omega)
  have e2 := Int.emod_lt_of_pos a (show 0 < b by omega)
  unfold saronref00_Turn.f
  rw [if_neg (by omega), if_neg (by omega), Int.tmod_eq_emod]
  by_cases c : 0 ≤ a ∨ b ∣ a
  · rw [if_pos c, if_neg (by omega)]
    simp
  · rw [if_neg c]
    have hn : ((b.natAbs : Nat) : Int) = b := by omega
    rw [hn, if_pos (by omega), w64 (by omega) (by omega)]
    congr 1
    omega
section
variable {g : Int} {l : List S63}
theorem sound_l1 (hg5 : g ≤ 5) (x4 : Int) (b : Int) (rows : List (List Int)) (hr : ∀ r ∈ rows, r.length ≤ 9223372036854775807) (hok : ∀ r ∈ rows, gr b (-1) r = true) (hl : (rows.length : Int) = g) {R : Bool} (hn : Ev (fun k => saronlaw05_sound.l0 k true (wrap64 (x4 + 1)) g l) R) : ∀ (d n : Nat), n + d = rows.length →
    Ev (fun k => saronlaw05_sound.l1 k true x4 (n : Int) g l b rows) R
  | 0, n, hd => by
    refine Ev.step (fun k => by rw [saronlaw05_sound.l1, if_pos rfl, if_neg (by omega)]) ?_
    exact hn
  | d + 1, n, hd => by
    have hn' : n < rows.length := by omega
    refine Ev.step (fun k => by rw [saronlaw05_sound.l1, if_pos rfl, if_pos (by omega), if_pos (by omega), if_pos (by omega), show rd_L1 rows (n : Int) = rows[n] by simp [rd_L1, hn'], w64 (x := (n : Int) + 1) (by omega) (by omega), show ((n : Int) + 1) = ((n + 1 : Nat) : Int) by omega]) ?_
    refine ebind (rgrows_f b rows[n] (hr _ (List.getElem_mem hn'))) ?_
    rw [hok _ (List.getElem_mem hn')]
    exact sound_l1 hg5 x4 b rows hr hok hl hn d (n + 1) (by omega)
theorem sound_l0 (hs : Small l) (hb : bookOk g l = true) : ∀ (d n : Nat), n + d = l.length → Ev (fun k => saronlaw05_sound.l0 k true (n : Int) g l) true
  | 0, n, hd => by
    have h4 := (beats_of hb).len
    refine Ev.step (fun k => by rw [saronlaw05_sound.l0, if_pos rfl, show decide ((n : Int) < (l.length : Int)) = false from decide_eq_false (by omega)]) ?_
    refine Ev.step (fun k => by rw [saronlaw05_sound.j2, if_neg (by simp)]) ?_
    exact Ev.now true
  | d + 1, n, hd => by
    have h4 := (beats_of hb).len
    have hg := gong_of hb
    have hn : n < l.length := by omega
    have hrd : rd_T63 l (n : Int) = l[n] := by simp [rd_T63, hn]
    have hf : formOk g l[n] = true := by
      have := hb
      unfold bookOk at this
      simp only [Bool.and_eq_true, List.all_eq_true] at this
      exact this.2 _ (List.getElem_mem hn)
    unfold formOk rowsOk at hf
    simp only [Bool.and_eq_true, List.all_eq_true, beq_iff_eq] at hf
    refine Ev.step (fun k => by rw [saronlaw05_sound.l0, if_pos rfl, show decide ((n : Int) < (l.length : Int)) = true from decide_eq_true (by omega)]) ?_
    refine Ev.step (fun k => by rw [saronlaw05_sound.j2, if_pos rfl, if_pos (by omega), if_pos (by omega), hrd, sits_f, Option.bind_some, if_pos hf.1, show ((l[n].f1.length : Int) == g) = true from beq_iff_eq.2 hf.2.1]) ?_
    refine Ev.step (fun k => by rw [saronlaw05_sound.j3]) ?_
    refine sound_l1 hg.2 _ l[n].f0 l[n].f1 (hs.2 _ (List.getElem_mem hn)).2 hf.2.2.1 hf.2.1 ?_ l[n].f1.length 0 (by omega)
    rw [w64 (by omega) (by omega), show ((n : Int) + 1) = ((n + 1 : Nat) : Int) by omega]
    exact sound_l0 hs hb d (n + 1) (by omega)
theorem sound_f (hs : Small l) : Ev (fun k => saronlaw05_sound.f k g l) (bookOk g l) := by
  refine evc (fun k => by rw [saronlaw05_sound.f]) ?_
  refine ebind (check_f g l hs.1 hs.2) ?_
  unfold checkE
  by_cases hb : bookOk g l = true
  · have h := hb
    unfold bookOk at h
    simp only [Bool.and_eq_true] at h
    refine evc (fun k => by rw [if_pos hb, if_pos rfl, sits_f, Option.bind_some, if_pos h.1.1, sits_f, Option.bind_some, h.1.2]) ?_
    refine Ev.step (fun k => by rw [saronlaw05_sound.j0]) ?_
    rw [hb]
    exact sound_l0 hs hb l.length 0 (by omega)
  · refine evc (fun k => by rw [if_neg hb, if_neg (by omega)]) ?_
    refine Ev.step (fun k => by rw [saronlaw05_sound.j0]) ?_
    refine Ev.step (fun k => by rw [saronlaw05_sound.l0, if_neg (by simp)]) ?_
    refine Ev.step (fun k => by rw [saronlaw05_sound.j2, if_neg (by simp)]) ?_
    rw [Bool.not_eq_true] at hb
    rw [hb]
    exact Ev.now false
theorem len_pos (hb : bookOk g l = true) : 1 ≤ l.length ∧ l.length ≤ 4 := by
  unfold bookOk at hb
  simp only [Bool.and_eq_true, isIn_iff] at hb
  omega
/-- A number turned into a form. -/
theorem form_turn (hb : bookOk g l = true) (a : Int) : saronref00_Turn.f a (l.length : Int) = some (a % (l.length : Int)) ∧ 0 ≤ a % (l.length : Int) ∧ a % (l.length : Int) < l.length := by
  have := len_pos hb
  exact ⟨turn_f _ _ (by omega) (by omega), Int.emod_nonneg _ (by omega), Int.emod_lt_of_pos _ (by omega)⟩
theorem spot_f (hb : bookOk g l = true) (a b : Int) : saronlaw05_spot.f g l a b = some (a % (l.length : Int), b % (rd_T63 l (a % (l.length : Int))).f0) ∧ 0 ≤ b % (rd_T63 l (a % (l.length : Int))).f0 ∧ b % (rd_T63 l (a % (l.length : Int))).f0 < (rd_T63 l (a % (l.length : Int))).f0 := by
  obtain ⟨h1, h2, h3⟩ := form_turn hb a
  have ht := (beats_of hb).two _ h2 h3
  refine ⟨?_, Int.emod_nonneg _ (by omega), Int.emod_lt_of_pos _ (by omega)⟩
  rw [saronlaw05_spot.f, h1, Option.bind_some, if_pos h2, if_pos h3, turn_f _ _ (by omega) (by omega), Option.bind_some, saronlaw05_at.f, Option.bind_some]
end
theorem nth_f (bits : List Int) (i : Int) (hm : bits.length ≤ 9223372036854775807) : ∃ v, saronref00_Nth.f bits i = some v := by
  unfold saronref00_Nth.f
  by_cases c : (bits.length : Int) = 0
  · rw [if_pos c]; exact ⟨_, rfl⟩
  · have e1 := Int.emod_nonneg i c
    have e2 := Int.emod_lt_of_pos i (show 0 < (bits.length : Int) by omega)
    rw [if_neg c, turn_f _ _ (by omega) (by omega), Option.bind_some, if_pos e1, if_pos e2]
    exact ⟨_, rfl⟩
theorem gr_snoc {b : Int} : ∀ (xs : List Int) (last y : Int), gr b last xs = true → last < y → y < b → (∀ x ∈ xs, x < y) → gr b last (xs ++ [y]) = true
  | [], last, y, h, h1, h2, h3 => by
    show (isIn y (last + 1) (b - 1) && gr b y []) = true
    rw [isIn_iff.2 (by omega)]; rfl
  | x :: xs, last, y, h, h1, h2, h3 => by
    unfold gr at h
    rw [Bool.and_eq_true] at h
    show (isIn x (last + 1) (b - 1) && gr b x (xs ++ [y])) = true
    rw [h.1, gr_snoc xs x y h.2 (h3 x List.mem_cons_self) h2 (fun z hz => h3 z (List.mem_cons_of_mem _ hz))]
    rfl
theorem lst_in (h : Nat → Bool) : ∀ n, ∀ x ∈ lst h n, 0 ≤ x ∧ x < n ∧ h x.toNat = true
  | 0, x, hx => by simp [lst] at hx
  | n + 1, x, hx => by
    have e : lst h (n + 1) = if h n = true then lst h n ++ [(n : Int)] else lst h n := rfl
    rw [e] at hx
    by_cases c : h n = true
    · rw [if_pos c, List.mem_append] at hx
      rcases hx with hx | hx
      · have := lst_in h n x hx; exact ⟨this.1, by omega, this.2.2⟩
      · obtain rfl := List.mem_singleton.1 hx
        exact ⟨by omega, by omega, by rw [Int.toNat_natCast]; exact c⟩
    · rw [if_neg c] at hx
      have := lst_in h n x hx; exact ⟨this.1, by omega, this.2.2⟩
theorem gr_lst (h : Nat → Bool) (b : Int) (hb : ∀ i : Nat, h i = true → (i : Int) < b) : ∀ n, gr b (-1) (lst h n) = true
  | 0 => rfl
  | n + 1 => by
    have e : lst h (n + 1) = if h n = true then lst h n ++ [(n : Int)] else lst h n := rfl
    rw [e]
    by_cases c : h n = true
    · rw [if_pos c]
      exact gr_snoc _ _ _ (gr_lst h b hb n) (by omega) (hb n c) (fun x hx => (lst_in h n x hx).2.1)
    · rw [if_neg c]
      exact gr_lst h b hb n
theorem wh_dec (x : Int) (r : List Int) : decide (wh x 0 r ≥ 0) = r.contains x := by
  rw [Bool.eq_iff_iff, decide_eq_true_eq]
  exact wh_iff x r 0 (by omega)
theorem row_zero {g : Int} {l : List S63} (hb : bookOk g l = true) {form : Int} (h0 : 0 ≤ form) (h1 : form < l.length) : row l form 0 = [(rd_T63 l form).f0 - 1] := by
  have hlen := form_len hb h0 h1
  have hg := gong_of hb
  unfold bookOk at hb
  simp only [Bool.and_eq_true, List.all_eq_true] at hb
  have hm : rd_T63 l form ∈ l := by
    unfold rd_T63
    rw [getD_lt _ (show form.toNat < l.length by omega)]
    exact List.getElem_mem _
  have hf := hb.2 _ hm
  unfold formOk rowsOk at hf
  simp only [Bool.and_eq_true] at hf
  have h2 := hf.2.2.2
  unfold row
  generalize (rd_T63 l form).f1 = rows at hlen h2
  match rows, hlen with
  | [], hlen => simp at hlen; omega
  | r :: rs, hlen => simpa using h2
theorem struckF_ok {g : Int} {l : List S63} (hb : bookOk g l = true) {form beat : Int} (h0 : 0 ≤ form) (h1 : form < l.length) (hb0 : 0 ≤ beat) (hb1 : beat ≤ 100000) : struckF g l form beat = (lst (hits l form (beat % (rd_T63 l form).f0)) 5, 0) := by
  have hok : okStruck g l form beat = true := by unfold okStruck; rw [isIn_iff.2 (by omega), isIn_iff.2 (by omega)]; rfl
  unfold struckF
  rw [hok, show openE g l true = 0 by unfold openE; rw [if_pos hb, if_pos rfl], if_pos rfl]
theorem nextF_ok {g : Int} {l : List S63} (hb : bookOk g l = true) {form beat : Int} (h0 : 0 ≤ form) (h1 : form < l.length) (gn : Nat) (hg : (gn : Int) < g) (hb0 : 0 ≤ beat) (hb1 : beat ≤ 100000) : nextF g l form gn beat = if row l form gn = [] then (0, 4) else (nextB l form gn beat, 0) := by
  have hok : okNext g l form gn beat = true := by unfold okNext; rw [isIn_iff.2 (by omega), isIn_iff.2 (by omega), isIn_iff.2 (by omega)]; rfl
  unfold nextF
  rw [hok, show openE g l true = 0 by unfold openE; rw [if_pos hb, if_pos rfl], if_pos rfl, Int.toNat_natCast]
/-- The next stroke: where it is, and that none is before it. -/
theorem nextB_is {g : Int} {l : List S63} (hb : bookOk g l = true) {form : Int} (h0 : 0 ≤ form) (h1 : form < l.length) (gn : Nat) (hr : row l form gn ≠ []) (beat : Int) (hb0 : 0 ≤ beat) :
    beat ≤ nextB l form gn beat ∧ nextB l form gn beat ≤ beat + (rd_T63 l form).f0 - 1 ∧ hitB l form gn (nextB l form gn beat) = true ∧ ∀ x, beat ≤ x → x < nextB l form gn beat → hitB l form gn x = false := by
  obtain ⟨j, hj, hh⟩ := hit_cycle hb h0 h1 gn hr beat hb0
  have h2 := (beats_of hb).two form h0 h1
  obtain ⟨e1, e2, e3⟩ := nxtD_spec (hitB l form gn) 33 beat j (by omega) hh
  unfold nextB
  refine ⟨by omega, ?_, e2, fun x hx hx' => ?_⟩
  · by_cases c : nxtD (hitB l form gn) 33 beat ≤ j
    · omega
    · rw [e3 j (by omega)] at hh; cases hh
  · have := e3 (x - beat).toNat (by omega)
    rwa [show beat + (((x - beat).toNat : Nat) : Int) = x by omega] at this
theorem gr_len' {b : Int} {r : List Int} (h : gr b (-1) r = true) : (r.length : Int) ≤ b ∨ r = [] := by
  have key : ∀ (r : List Int) (last : Int), gr b last r = true → last < b → (r.length : Int) ≤ b - last - 1 := by
    intro r
    induction r with
    | nil => intro last _ hl; simp; omega
    | cons x xs ih =>
      intro last h hl
      unfold gr at h
      rw [Bool.and_eq_true, isIn_iff] at h
      have := ih x h.2 (by omega)
      simp only [List.length_cons]
      omega
  match r, h with
  | [], _ => exact .inr rfl
  | x :: xs, h =>
    left
    have h' := h
    unfold gr at h'
    rw [Bool.and_eq_true, isIn_iff] at h'
    have := key (x :: xs) (-1) h (by omega)
    omega
end Go.Proofs.YtephecfapclgfaaDoor.Q
