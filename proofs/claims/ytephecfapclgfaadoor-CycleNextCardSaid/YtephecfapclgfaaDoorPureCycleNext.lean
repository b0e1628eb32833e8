import Derived.Test.YtephecfapclgfaaDoorQD
import Derived.Test.YtephecfapclgfaaDoorLNext
set_option linter.unusedVariables false
set_option linter.unusedSimpArgs false
namespace Go.Proofs.YtephecfapclgfaaDoor
open Go.RowKit PRaspKeys R Q Go.Proofs.YtephecfapclgfaaDoorW.PrintWords

/-! ### The strokes of a gong, one after the other -/
theorem nxtD_shift {p : Int → Bool} : ∀ (n : Nat) (b c : Int), (∀ i : Nat, p (b + i) = p (c + i)) → nxtD p n b = nxtD p n c
  | 0, b, c, h => rfl
  | n + 1, b, c, h => by
    have h0 := h 0
    rw [show b + ((0 : Nat) : Int) = b by omega, show c + ((0 : Nat) : Int) = c by omega] at h0
    unfold nxtD
    rw [h0, nxtD_shift n (b + 1) (c + 1) (fun i => by
      have := h (i + 1)
      rwa [show b + ((i + 1 : Nat) : Int) = b + 1 + (i : Int) by omega, show c + ((i + 1 : Nat) : Int) = c + 1 + (i : Int) by omega] at this)]
theorem nextB_shift (l : List S63) (form : Int) (gn : Nat) (x z : Int) : nextB l form gn (x + z * (rd_T63 l form).f0) = nextB l form gn x + z * (rd_T63 l form).f0 := by
  unfold nextB
  rw [nxtD_shift 33 (x + z * (rd_T63 l form).f0) x (fun i => by
    unfold hitB
    rw [show x + z * (rd_T63 l form).f0 + (i : Int) = x + i + z * (rd_T63 l form).f0 by omega, Int.add_mul_emod_self_right])]
  omega
def pos (B : Int) (r : List Int) (m : Nat) : Int := ((m / r.length : Nat) : Int) * B + r.getD (m % r.length) 0
theorem pos_step (B : Int) (r : List Int) (hr : 0 < r.length) (m : Nat) : pos B r (m + 1) = pos B r m + aft B r (m % r.length) := by
  have e := Nat.div_add_mod m r.length
  have hs := Nat.mod_lt m hr
  unfold pos aft
  generalize m / r.length = q at e ⊢
  generalize m % r.length = s at e hs ⊢
  rw [← e, show r.length * q + s + 1 = r.length * q + (s + 1) by omega, Nat.mul_add_div hr, Nat.mul_add_mod]
  by_cases c : s + 1 < r.length
  · rw [Nat.div_eq_of_lt c, Nat.mod_eq_of_lt c, if_pos c, Nat.add_zero]
    omega
  · have c' : s + 1 = r.length := by omega
    rw [c', Nat.div_self hr, Nat.mod_self, if_neg (by omega), show ((q + 1 : Nat) : Int) = (q : Int) + 1 by omega, Int.add_mul]
    omega
section
variable {g : Int} {l : List S63}
theorem next_gap (hb : bookOk g l = true) {form : Int} (h0 : 0 ≤ form) (h1 : form < l.length) (gn : Nat) (k : Nat) (hk : k < (row l form gn).length) (z : Int) :
    nextB l form gn ((row l form gn).getD k 0 + z * (rd_T63 l form).f0 + 1) = (row l form gn).getD k 0 + z * (rd_T63 l form).f0 + aft (rd_T63 l form).f0 (row l form gn) k := by
  have hg := gap_aft hb h0 h1 gn k hk
  unfold gapB at hg
  rw [show (row l form gn).getD k 0 + z * (rd_T63 l form).f0 + 1 = ((row l form gn).getD k 0 + 1) + z * (rd_T63 l form).f0 by omega, nextB_shift]
  omega
theorem next_pos (hb : bookOk g l = true) {form : Int} (h0 : 0 ≤ form) (h1 : form < l.length) (gn : Nat) (hr : 0 < (row l form gn).length) (m : Nat) (q : Int) :
    nextB l form gn (pos (rd_T63 l form).f0 (row l form gn) m + q * (rd_T63 l form).f0 + 1) = pos (rd_T63 l form).f0 (row l form gn) (m + 1) + q * (rd_T63 l form).f0 := by
  rw [pos_step _ _ hr]
  have := next_gap hb h0 h1 gn (m % (row l form gn).length) (Nat.mod_lt m hr) (((m / (row l form gn).length : Nat) : Int) + q)
  rw [Int.add_mul] at this
  unfold pos
  rw [show ((m / (row l form gn).length : Nat) : Int) * (rd_T63 l form).f0 + (row l form gn).getD (m % (row l form gn).length) 0 + q * (rd_T63 l form).f0 + 1 = (row l form gn).getD (m % (row l form gn).length) 0 + (((m / (row l form gn).length : Nat) : Int) * (rd_T63 l form).f0 + q * (rd_T63 l form).f0) + 1 by omega, this]
  omega
theorem aft_pos (hb : bookOk g l = true) {form : Int} (h0 : 0 ≤ form) (h1 : form < l.length) (gn : Nat) (k : Nat) (hk : k < (row l form gn).length) : 1 ≤ aft (rd_T63 l form).f0 (row l form gn) k ∧ aft (rd_T63 l form).f0 (row l form gn) k ≤ 64 := by
  have hgr := row_gr hb h0 h1 gn
  have h2 := (beats_of hb).two form h0 h1
  have hin : ∀ k, k < (row l form gn).length → 0 ≤ (row l form gn).getD k 0 ∧ (row l form gn).getD k 0 < (rd_T63 l form).f0 := fun k hk => by
    have := row_in hb h0 h1 gn (row l form gn)[k] (List.getElem_mem hk)
    simpa [hk] using this
  have a := hin k hk
  have a0 := hin 0 (by omega)
  unfold aft
  by_cases c : k + 1 < (row l form gn).length
  · have := gr_lt _ _ hgr k (k + 1) (by omega) c
    have a1 := hin (k + 1) c
    rw [if_pos c]; omega
  · rw [if_neg c]
    rcases Nat.eq_zero_or_pos k with c2 | c2
    · subst c2; omega
    · have := gr_lt _ _ hgr 0 k c2 hk
      omega
theorem evenF_ok (hb : bookOk g l = true) {form : Int} (h0 : 0 ≤ form) (h1 : form < l.length) (gn : Nat) (hg : (gn : Int) < g) : evenF g l form gn = evenR l form gn (row l form gn) := by
  have hok : okEven g l form gn = true := by unfold okEven; rw [isIn_iff.2 (by omega), isIn_iff.2 (by omega)]; rfl
  unfold evenF
  rw [hok, show openE g l true = 0 by unfold openE; rw [if_pos hb, if_pos rfl], if_pos rfl, Int.toNat_natCast]
theorem even_cases (hb : bookOk g l = true) {form : Int} (h0 : 0 ≤ form) (h1 : form < l.length) (gn : Nat) (hr : 0 < (row l form gn).length) :
    (evenR l form gn (row l form gn) = (aft (rd_T63 l form).f0 (row l form gn) 0, 0) ∧ ∀ k, k < (row l form gn).length → aft (rd_T63 l form).f0 (row l form gn) k = aft (rd_T63 l form).f0 (row l form gn) 0) ∨
    (evenR l form gn (row l form gn) = (0, 4) ∧ ∃ k, k < (row l form gn).length ∧ aft (rd_T63 l form).f0 (row l form gn) k ≠ aft (rd_T63 l form).f0 (row l form gn) 0) := by
  have hgap := fun i hi => gap_aft hb h0 h1 gn i hi
  generalize row l form gn = r at hr hgap ⊢
  match r, hr with
  | x :: xs, _ =>
    have e0 := hgap 0 (by simp)
    rw [show (x :: xs).getD 0 0 = x from rfl] at e0
    show ((if (x :: xs).all (fun y => gapB l form gn y == gapB l form gn x) = true then (gapB l form gn x, (0 : Int)) else (0, 4)) = _ ∧ _) ∨ _
    by_cases c : (x :: xs).all (fun y => gapB l form gn y == gapB l form gn x) = true
    · left
      rw [if_pos c, e0]
      refine ⟨rfl, fun k hk => ?_⟩
      have := List.all_eq_true.1 c _ (List.getElem_mem hk)
      rw [beq_iff_eq] at this
      rw [← hgap k hk, ← e0, ← this, getD_lt _ hk]
    · right
      refine ⟨?_, ?_⟩
      · show (if (x :: xs).all (fun y => gapB l form gn y == gapB l form gn x) = true then (gapB l form gn x, (0 : Int)) else (0, 4)) = _
        rw [if_neg c]
      · apply Decidable.byContradiction
        intro hno
        apply c
        rw [List.all_eq_true]
        intro y hy
        obtain ⟨k, hk, rfl⟩ := mem_getD hy
        rw [beq_iff_eq, hgap k hk, e0]
        apply Decidable.byContradiction
        intro hne
        exact hno ⟨k, hk, hne⟩
/-- Strokes that are always as far apart divide the cycle. -/
theorem even_div (hb : bookOk g l = true) {form : Int} (h0 : 0 ≤ form) (h1 : form < l.length) (gn : Nat) (hr : 0 < (row l form gn).length) (far : Int) (ha : ∀ k, k < (row l form gn).length → aft (rd_T63 l form).f0 (row l form gn) k = far) : (rd_T63 l form).f0 = ((row l form gn).length : Int) * far := by
  generalize row l form gn = r at hr ha
  have hp : ∀ m : Nat, pos (rd_T63 l form).f0 r m = pos (rd_T63 l form).f0 r 0 + (m : Int) * far := fun m => by
    induction m with
    | zero => omega
    | succ m ih => rw [pos_step _ _ hr, ih, ha _ (Nat.mod_lt m hr), show ((m + 1 : Nat) : Int) = (m : Int) + 1 by omega, Int.add_mul]; omega
  have := hp r.length
  unfold pos at this
  rw [Nat.div_self hr, Nat.mod_self, Nat.zero_div, Nat.zero_mod] at this
  omega
end
theorem CycleNext.loop {g : Int} {l : List S63} (hs : Small l) (hb : bookOk g l = true) {form beat : Int} (h0 : 0 ≤ form) (h1 : form < l.length) (gn : Nat) (hg : (gn : Int) < g) (hb0 : 0 ≤ beat) (hb1 : beat ≤ 1000) (hr : row l form gn ≠ []) (x11 x12 : Int) {R : Bool}
    (hn : Ev (fun k => saronlaw05_CycleNext.l0 k form gn (nextB l form gn beat) x11 x12 (nextB l form gn beat + 1) g l (rd_T63 l form).f0 (rd_T63 l form).f1) R) : ∀ (d : Nat) (x : Int), beat ≤ x → x + d = nextB l form gn beat + 1 →
    Ev (fun k => saronlaw05_CycleNext.l0 k form gn (nextB l form gn beat) x11 x12 x g l (rd_T63 l form).f0 (rd_T63 l form).f1) R
  | 0, x, hx, hd => by
    rw [show x = nextB l form gn beat + 1 by omega]
    exact hn
  | d + 1, x, hx, hd => by
    have h2 := (beats_of hb).two form h0 h1
    have hgg := gong_of hb
    obtain ⟨n1, n2, n3, n4⟩ := nextB_is hb h0 h1 gn hr beat hb0
    have hll := lst_len (hits l form (x % (rd_T63 l form).f0)) 5
    refine Ev.step (fun k => by rw [saronlaw05_CycleNext.l0, if_pos (by omega), cycle_Struck.f, struckF_ok hb h0 h1 (by omega) (by omega), Option.bind_some, if_pos rfl]) ?_
    refine ebind (where_f _ (gn : Int) (by show (lst (hits l form (x % (rd_T63 l form).f0)) 5).length ≤ _; omega)) ?_
    have hh : hits l form (x % (rd_T63 l form).f0) gn = (x == nextB l form gn beat) := by
      rw [Bool.eq_iff_iff, beq_iff_eq]
      show hitB l form gn x = true ↔ _
      constructor
      · intro hh
        apply Decidable.byContradiction
        intro hne
        rw [n4 x hx (by omega)] at hh
        cases hh
      · intro e; rw [e]; exact n3
    refine evc (fun k => by rw [wh_dec, lst_has, show decide (gn < 5) = true from decide_eq_true (by omega), Bool.true_and, hh, if_neg (by simp), w64 (x := x + 1) (by omega) (by omega)]) ?_
    exact CycleNext.loop hs hb h0 h1 gn hg hb0 hb1 hr x11 x12 hn d (x + 1) (by omega) (by omega)
theorem CycleNext.walk {g : Int} {l : List S63} (hs : Small l) (hb : bookOk g l = true) {form : Int} (h0 : 0 ≤ form) (h1 : form < l.length) (gn : Nat) (hg : (gn : Int) < g) (hr : 0 < (row l form gn).length) (next q : Int) (i0 : Nat) (hq0 : 0 ≤ q)
    (hi0 : i0 < (row l form gn).length) (hnext : next = pos (rd_T63 l form).f0 (row l form gn) i0 + q * (rd_T63 l form).f0) (hn0 : 0 ≤ next) (hn1 : next ≤ 2000)
    (hne : ∃ k, k < (row l form gn).length ∧ aft (rd_T63 l form).f0 (row l form gn) k ≠ aft (rd_T63 l form).f0 (row l form gn) 0) : ∀ (d j : Nat) (least most : Int), j + d = (row l form gn).length →
    (∀ t, t < j → least ≤ aft (rd_T63 l form).f0 (row l form gn) ((i0 + t) % (row l form gn).length)) → (∀ t, t < j → aft (rd_T63 l form).f0 (row l form gn) ((i0 + t) % (row l form gn).length) ≤ most) →
    pos (rd_T63 l form).f0 (row l form gn) (i0 + j) ≤ pos (rd_T63 l form).f0 (row l form gn) i0 + 64 * j → pos (rd_T63 l form).f0 (row l form gn) i0 ≤ pos (rd_T63 l form).f0 (row l form gn) (i0 + j) →
    Ev (fun k => saronlaw05_CycleNext.l1 k form gn next 0 4 least most (pos (rd_T63 l form).f0 (row l form gn) (i0 + j) + q * (rd_T63 l form).f0) (j : Int) g l (rd_T63 l form).f0 (rd_T63 l form).f1) true
  | 0, j, least, most, hd, hle, hmo, hup, hlo => by
    have h2 := (beats_of hb).two form h0 h1
    have hlen := form_len hb h0 h1
    have hjr : j = (row l form gn).length := by omega
    have hend : pos (rd_T63 l form).f0 (row l form gn) (i0 + j) = pos (rd_T63 l form).f0 (row l form gn) i0 + (rd_T63 l form).f0 := by
      rw [hjr]
      unfold pos
      rw [Nat.add_div_right _ hr, Nat.add_mod_right, show ((i0 / (row l form gn).length).succ : Int) = ((i0 / (row l form gn).length : Nat) : Int) + 1 by omega, Int.add_mul]
      omega
    have hall : ∀ k, k < (row l form gn).length → least ≤ aft (rd_T63 l form).f0 (row l form gn) k ∧ aft (rd_T63 l form).f0 (row l form gn) k ≤ most := fun k hk => by
      by_cases c : i0 ≤ k
      · have a := hle (k - i0) (by omega)
        have b := hmo (k - i0) (by omega)
        rw [show i0 + (k - i0) = k by omega, Nat.mod_eq_of_lt hk] at a b
        exact ⟨a, b⟩
      · have a := hle (k + (row l form gn).length - i0) (by omega)
        have b := hmo (k + (row l form gn).length - i0) (by omega)
        rw [show i0 + (k + (row l form gn).length - i0) = k + (row l form gn).length by omega, Nat.add_mod_right, Nat.mod_eq_of_lt hk] at a b
        exact ⟨a, b⟩
    obtain ⟨k, hk, hkne⟩ := hne
    have a1 := hall k hk
    have a2 := hall 0 hr
    refine Ev.step (fun k => by rw [saronlaw05_CycleNext.l1, if_pos (by omega), if_pos (by omega), rd_L1_row, if_neg (by omega), if_pos rfl, if_pos rfl, if_pos (by omega), w64 (x := next + (rd_T63 l form).f0) (by omega) (by omega), hend, if_pos (by omega), saronlaw05_marked.f, Option.bind_some]) ?_
    exact Ev.now true
  | d + 1, j, least, most, hd, hle, hmo, hup, hlo => by
    have h2 := (beats_of hb).two form h0 h1
    have hlen := form_len hb h0 h1
    have hrw := rowlen hs h1 h0 gn
    have hl33 : (row l form gn).length ≤ 33 := by
      rcases gr_len' (row_gr hb h0 h1 gn) with h | h
      · omega
      · rw [h]; simp
    have hap := aft_pos hb h0 h1 gn ((i0 + j) % (row l form gn).length) (Nat.mod_lt _ hr)
    have hst := pos_step (rd_T63 l form).f0 (row l form gn) hr (i0 + j)
    have hnx := next_pos hb h0 h1 gn hr (i0 + j) q
    have hrne : row l form gn ≠ [] := by intro e; rw [e] at hr; simp at hr
    refine Ev.step (fun k => by rw [saronlaw05_CycleNext.l1, if_pos (by omega), if_pos (by omega), rd_L1_row, if_pos (by omega), w64 (x := pos (rd_T63 l form).f0 (row l form gn) (i0 + j) + q * (rd_T63 l form).f0 + 1) (by omega) (by omega), cycle_Next.f, nextF_ok hb h0 h1 gn hg (by omega) (by omega), if_neg hrne, hnx, Option.bind_some, if_pos rfl]) ?_
    refine evc (fun k => by rw [if_neg (by show ¬ pos (rd_T63 l form).f0 (row l form gn) (i0 + j + 1) + q * (rd_T63 l form).f0 ≤ _; omega), w64 (x := (j : Int) + 1) (by omega) (by omega), show ((j : Int) + 1) = ((j + 1 : Nat) : Int) by omega]) ?_
    have hw : wrap64 (pos (rd_T63 l form).f0 (row l form gn) (i0 + j + 1) + q * (rd_T63 l form).f0 - (pos (rd_T63 l form).f0 (row l form gn) (i0 + j) + q * (rd_T63 l form).f0)) = aft (rd_T63 l form).f0 (row l form gn) ((i0 + j) % (row l form gn).length) := by rw [w64 (by omega) (by omega)]; omega
    refine evc (fun k => by rw [show wrap64 ((pos (rd_T63 l form).f0 (row l form gn) (i0 + j + 1) + q * (rd_T63 l form).f0, (0 : Int)).1 - (pos (rd_T63 l form).f0 (row l form gn) (i0 + j) + q * (rd_T63 l form).f0)) = _ from hw]) ?_
    refine CycleNext.walk hs hb h0 h1 gn hg hr next q i0 hq0 hi0 hnext hn0 hn1 hne d (j + 1) _ _ (by omega) (fun t ht => ?_) (fun t ht => ?_) (by rw [show i0 + (j + 1) = i0 + j + 1 by omega]; omega) (by rw [show i0 + (j + 1) = i0 + j + 1 by omega]; omega)
    · by_cases e : t = j
      · subst e; unfold mn; split <;> omega
      · have := hle t (by omega)
        unfold mn; split <;> omega
    · by_cases e : t = j
      · subst e; unfold mx; split <;> omega
      · have := hmo t (by omega)
        unfold mx; split <;> omega
theorem CycleNext.pure (g : Int) (l : List S63) (wg : (Lit.int .i64 g).wf = true) (hs : Small l) (a b c : Int) (wa : (Lit.int .i64 a).wf = true) (wb : (Lit.int .i64 b).wf = true) (wc : (Lit.int .i64 c).wf = true) :
    ∃ k, saronlaw05_CycleNext.f k g l a b c = some true := by
  refine Ev.rounds (g := fun k => saronlaw05_CycleNext.f k g l a b c) ?_
  refine evc (fun k => by rw [saronlaw05_CycleNext.f]) ?_
  refine ebind (sound_f hs) ?_
  by_cases hb : bookOk g l = true
  · obtain ⟨t1, h0, h1⟩ := form_turn hb a
    have hg := gong_of hb
    have hc0 := Int.emod_nonneg c (show (1000 : Int) ≠ 0 by omega)
    have hc1 := Int.emod_lt_of_pos c (show (0 : Int) < 1000 by omega)
    have hg0 := Int.emod_nonneg b (show g ≠ 0 by omega)
    have hg1 := Int.emod_lt_of_pos b (show (0 : Int) < g by omega)
    refine evc (fun k => by rw [if_pos hb, t1, Option.bind_some, turn_f b g (by omega) (by omega), Option.bind_some, turn_f c 1000 (by omega) (by omega), Option.bind_some]) ?_
    generalize a % (l.length : Int) = form at h0 h1 ⊢
    generalize c % 1000 = beat at hc0 hc1 ⊢
    obtain ⟨gn, hgn⟩ : ∃ gn : Nat, b % g = gn := ⟨(b % g).toNat, by omega⟩
    rw [hgn] at hg0 hg1 ⊢
    have h2 := (beats_of hb).two form h0 h1
    have hlen := form_len hb h0 h1
    have hrw := rowlen hs h1 h0 gn
    refine evc (fun k => by rw [if_pos h0, if_pos h1, cycle_Next.f, nextF_ok hb h0 h1 gn hg1 hc0 (by omega), Option.bind_some, cycle_Even.f, evenF_ok hb h0 h1 gn hg1, Option.bind_some, if_pos hg0, if_pos (by omega), rd_L1_row]) ?_
    by_cases hr : row l form gn = []
    · refine evc (fun k => by rw [if_pos (by rw [hr]; rfl), if_pos hr, if_pos rfl, hr, show evenR l form gn [] = (0, 4) from rfl, if_pos rfl, if_pos rfl, if_pos rfl, saronlaw05_marked.f, Option.bind_some]) ?_
      exact Ev.now true
    · have hpos : 0 < (row l form gn).length := List.length_pos_iff.2 hr
      obtain ⟨n1, n2, n3, n4⟩ := nextB_is hb h0 h1 gn hr beat hc0
      refine evc (fun k => by rw [if_neg (by omega), if_neg hr, if_pos rfl, sits_f, Option.bind_some, w64 (x := beat + (rd_T63 l form).f0) (by omega) (by omega), w64 (x := beat + (rd_T63 l form).f0 - 1) (by omega) (by omega), isIn_iff.2 ⟨n1, n2⟩]) ?_
      refine Ev.step (fun k => by rw [saronlaw05_CycleNext.j0, if_neg (by simp)]) ?_
      refine CycleNext.loop hs hb h0 h1 gn hg1 hc0 (by omega) hr _ _ ?_ (nextB l form gn beat + 1 - beat).toNat beat (by omega) (by omega)
      -- where the next stroke lies in its row
      have hin : ∃ i0, i0 < (row l form gn).length ∧ (row l form gn).getD i0 0 = nextB l form gn beat % (rd_T63 l form).f0 := by
        unfold hitB hits at n3
        exact mem_getD (by simpa using n3)
      obtain ⟨i0, hi0, hie⟩ := hin
      have hdm := Int.emod_add_mul_ediv (nextB l form gn beat) (rd_T63 l form).f0
      have hq0 : 0 ≤ nextB l form gn beat / (rd_T63 l form).f0 := Int.ediv_nonneg (by omega) (by omega)
      have hnext : nextB l form gn beat = pos (rd_T63 l form).f0 (row l form gn) i0 + (nextB l form gn beat / (rd_T63 l form).f0) * (rd_T63 l form).f0 := by
        unfold pos
        rw [Nat.div_eq_of_lt hi0, Nat.mod_eq_of_lt hi0, hie]
        rw [Int.mul_comm] at hdm
        omega
      have hstep := next_pos hb h0 h1 gn hpos i0 (nextB l form gn beat / (rd_T63 l form).f0)
      rw [← hnext, pos_step _ _ hpos, Nat.mod_eq_of_lt hi0] at hstep
      have hap := aft_pos hb h0 h1 gn i0 hi0
      have hafter : nextB l form gn (nextB l form gn beat + 1) = nextB l form gn beat + aft (rd_T63 l form).f0 (row l form gn) i0 := by omega
      refine Ev.step (fun k => by rw [saronlaw05_CycleNext.l0, if_neg (by show ¬ nextB l form gn beat + 1 ≤ nextB l form gn beat; omega), w64 (x := nextB l form gn beat + 1) (by omega) (by omega), cycle_Next.f, nextF_ok hb h0 h1 gn hg1 (by omega) (by omega), if_neg hr, hafter, Option.bind_some, if_pos rfl]) ?_
      rcases even_cases hb h0 h1 gn hpos with ⟨he, hall⟩ | ⟨he, hne⟩
      · have hdiv := even_div hb h0 h1 gn hpos _ hall
        have ha0 := aft_pos hb h0 h1 gn 0 hpos
        have hi := hall i0 hi0
        have hm0 : Int.tmod (rd_T63 l form).f0 (aft (rd_T63 l form).f0 (row l form gn) 0) = 0 := by
          rw [rem_eq (by omega)]
          conv => lhs; arg 1; rw [hdiv]
          exact Int.mul_emod_left _ _
        have hd0 : Int.tdiv (rd_T63 l form).f0 (aft (rd_T63 l form).f0 (row l form gn) 0) = ((row l form gn).length : Int) := by
          rw [Int.tdiv_eq_ediv_of_nonneg (by omega)]
          conv => lhs; arg 1; rw [hdiv]
          exact Int.mul_ediv_cancel _ (by omega)
        refine evc (fun k => by rw [he, if_pos rfl, if_pos (by show aft (rd_T63 l form).f0 (row l form gn) 0 > 0; omega), w64 (x := _ - _) (by show _ ≤ nextB l form gn beat + aft (rd_T63 l form).f0 (row l form gn) i0 - nextB l form gn beat; omega) (by show nextB l form gn beat + aft (rd_T63 l form).f0 (row l form gn) i0 - nextB l form gn beat ≤ _; omega), if_pos (by show nextB l form gn beat + aft (rd_T63 l form).f0 (row l form gn) i0 - nextB l form gn beat = aft (rd_T63 l form).f0 (row l form gn) 0; omega), if_neg (by show ¬ aft (rd_T63 l form).f0 (row l form gn) 0 = 0; omega), if_pos hm0, if_pos hg0, if_pos (by omega), hd0, w64 (by omega) (by omega), rd_L1_row, if_pos rfl, saronlaw05_marked.f, Option.bind_some]) ?_
        exact Ev.now true
      · refine evc (fun k => by rw [he, if_neg (by show ¬ (4 : Int) = 0; omega)]) ?_
        have := CycleNext.walk hs hb h0 h1 gn hg1 hpos (nextB l form gn beat) (nextB l form gn beat / (rd_T63 l form).f0) i0 hq0 hi0 hnext (by omega) (by omega) hne (row l form gn).length 0 (rd_T63 l form).f0 0 (by omega) (fun t ht => by omega) (fun t ht => by omega) (by rw [Nat.add_zero]; omega) (by rw [Nat.add_zero]; omega)
        rw [Nat.add_zero, ← hnext] at this
        exact this
  · refine evc (fun k => by rw [if_neg hb, saronlaw05_marked.f, Option.bind_some]) ?_
    exact Ev.now true
end Go.Proofs.YtephecfapclgfaaDoor
