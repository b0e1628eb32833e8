import Derived.Test.YtephecfapclgfaaDoorG7
import Derived.Test.YtephecfapclgfaaDoorQE
import Derived.Test.YtephecfapclgfaaDoorVXD
set_option linter.unusedVariables false
set_option linter.unusedSimpArgs false
namespace Go.Proofs.YtephecfapclgfaaDoor.Q
open Go.RowKit PRaspKeys R Go.Proofs.YtephecfapclgfaaDoorW.PrintWords

/-! ### What a passage lacks, by number -/
theorem gr_pw {b : Int} : ∀ (r : List Int) (last : Int), gr b last r = true → r.Pairwise (· < ·)
  | [], _, _ => List.Pairwise.nil
  | x :: xs, last, h => by
    unfold gr at h
    rw [Bool.and_eq_true] at h
    exact List.pairwise_cons.2 ⟨fun y hy => (gr_in xs x h.2 y hy).1, gr_pw xs x h.2⟩
/-- What is left out of a row, by number. -/
theorem left_out : ∀ (r h : List Int), r.Pairwise (· < ·) → h.Pairwise (· < ·) → (∀ x ∈ h, x ∈ r) → (r.filter (fun x => !h.contains x)).length + h.length = r.length
  | [], h, hr, hh, hs => by
    match h, hs with
    | [], _ => rfl
    | y :: ys, hs => exact absurd (hs y List.mem_cons_self) (by simp)
  | x :: xs, [], hr, hh, hs => by
    have e : (x :: xs).filter (fun z => !([] : List Int).contains z) = x :: xs := List.filter_eq_self.2 (fun y _ => rfl)
    rw [e]
    rfl
  | x :: xs, y :: ys, hr, hh, hs => by
    have hr' := List.pairwise_cons.1 hr
    have hh' := List.pairwise_cons.1 hh
    by_cases e : y = x
    · subst e
      have hc : ∀ z ∈ xs, (!(y :: ys).contains z) = (!ys.contains z) := fun z hz => by
        have hne : ¬ z = y := fun e => by have := hr'.1 z hz; omega
        congr 1
        rw [Bool.eq_iff_iff]
        simp [hne]
      rw [List.filter_cons_of_neg (by simp), List.filter_congr hc, List.length_cons, List.length_cons]
      have := left_out xs ys hr'.2 hh'.2 (fun z hz => by
        rcases List.mem_cons.1 (hs z (List.mem_cons_of_mem _ hz)) with e | e
        · have := hh'.1 z hz; omega
        · exact e)
      omega
    · have hyx : x < y := by
        rcases List.mem_cons.1 (hs y List.mem_cons_self) with e' | e'
        · exact absurd e' e
        · exact hr'.1 y e'
      have hge : ∀ z ∈ y :: ys, x < z := fun z hz => by
        rcases List.mem_cons.1 hz with e' | e'
        · omega
        · have := hh'.1 z e'; omega
      have hxn : (!(y :: ys).contains x) = true := by
        rw [Bool.not_eq_true', ← Bool.not_eq_true]
        intro hc
        have hm : x ∈ y :: ys := by simpa using hc
        have := hge x hm
        omega
      rw [List.filter_cons_of_pos (p := fun z => !(y :: ys).contains z) hxn]
      have := left_out xs (y :: ys) hr'.2 hh (fun z hz => by
        rcases List.mem_cons.1 (hs z hz) with e' | e'
        · have := hge z hz; omega
        · exact e')
      simp only [List.length_cons] at this ⊢
      omega
section
variable {g : Int} {l : List S63}
/-- How many strokes are missing, row by row. -/
def missN (l : List S63) (s0 s1 : Int) (p : List (List Int)) : Nat → Int
  | 0 => 0
  | k + 1 => missN l s0 s1 p k + (((lst (passH l s0 s1 k) 5).length : Int) - ((p.getD k []).length : Int))
theorem fitK_has (hb : bookOk g l = true) {p : List (List Int)} (hh : heardB g p = true) (s0 s1 : Int) (k : Nat) : (p.getD k []).all (fun x => (lst (passH l s0 s1 k) 5).contains x) = fitK l s0 s1 p k := by
  obtain ⟨_, _, _, q4⟩ := heard_rows hb hh
  have hg := gong_of hb
  unfold fitK pRow
  rw [Bool.eq_iff_iff, List.all_eq_true, List.all_eq_true]
  refine forall_congr' fun x => forall_congr' fun hx => ?_
  have hi := q4 k x hx
  have hl := lst_has (passH l s0 s1 k) 5 x.toNat
  rw [Int.toNat_of_nonneg hi.1] at hl
  rw [hl, show decide (x.toNat < 5) = true from decide_eq_true (by omega), Bool.true_and]
theorem miss_lost (hb : bookOk g l = true) {p : List (List Int)} (hh : heardB g p = true) (s0 s1 : Int) (h0 : 0 ≤ s0) (h1 : s0 < l.length) : ∀ k, k ≤ p.length → fitN l s0 s1 p k = true → ((lostN l s0 s1 p k).length : Int) = missN l s0 s1 p k
  | 0, _, _ => rfl
  | k + 1, hk, hf => by
    unfold fitN at hf
    rw [Bool.and_eq_true] at hf
    have ih := miss_lost hb hh s0 s1 h0 h1 k (by omega) hf.1
    have hf2 := hf.2
    rw [← fitK_has hb hh, List.all_eq_true] at hf2
    have hgr : gr g (-1) (p.getD k []) = true := by
      unfold heardB at hh
      simp only [Bool.and_eq_true, List.all_eq_true] at hh
      rw [getD_lt _ (show k < p.length by omega)]
      exact hh.2 _ (List.getElem_mem _)
    have := left_out (lst (passH l s0 s1 k) 5) (p.getD k []) (gr_pw _ _ (pass_gr hb s0 s1 h0 h1 k)) (gr_pw _ _ hgr) (fun x hx => by simpa using hf2 x hx)
    unfold lostN missN lostK pRow
    rw [List.length_append, List.length_map, ← lst_filter]
    omega
theorem missN_bnd (hb : bookOk g l = true) {p : List (List Int)} (hh : heardB g p = true) (s0 s1 : Int) : ∀ k : Nat, -(5 * (k : Int)) ≤ missN l s0 s1 p k ∧ missN l s0 s1 p k ≤ 5 * k
  | 0 => by unfold missN; omega
  | k + 1 => by
    have := missN_bnd hb hh s0 s1 k
    have h5 := lst_len (passH l s0 s1 k) 5
    have q3 := (heard_rows hb hh).2.2.1 k
    unfold missN
    omega
end
end Go.Proofs.YtephecfapclgfaaDoor.Q
namespace Go.Proofs.YtephecfapclgfaaDoor.R
open Go.RowKit Go.Shelf Go.Proofs.YtephecfapclgfaaDoorW.PrintWords Go.Proofs.YtephecfapclgfaaDoorW.PrintLast Go.Proofs.YtephecfapclgfaaDoorW.PrintMore Go.Proofs.YtephecfapclgfaaDoor.PRaspKeys Go.Proofs.YtephecfapclgfaaDoor.X Go.Proofs.YtephecfapclgfaaDoor.Q
attribute [local go_sem] Oper.semAt_some
attribute [local go_sem high] eqA38 eqA97

/-! ### What the laws' helpers tell -/
theorem small_of {w : World} {A : Option Addr} {c : Nat} {l : List S63} (hB : Book w A c l) : Small l := ⟨C_len hB.r, C63_len hB.r⟩
theorem turn40 (a b : Int) (h1 : 1 ≤ b) (h2 : b ≤ 1000000) (w : World) : Calls Tryd.prog 40 #[.int .i64 a, .int .i64 b] w fun e w' => e = .returned (.int .i64 (a % b)) ∧ Fr0 w w' :=
  (saronref00_Turn.calls a b _ w (turn_f a b h1 (by omega))).mono fun e w' h => ⟨h.1, mk_dr h.2⟩
theorem sound39 {w : World} {g : Int} {A : Option Addr} {c : Nat} {l : List S63} (hB : Book w A c l) : Calls Tryd.prog 39 #[.agg #[.int .i64 g, .slice A l.length c]] w fun e w' => e = .returned (.bool (bookOk g l)) ∧ Fr0 w w' := by
  obtain ⟨K, hK⟩ := sound_f (g := g) (small_of hB)
  exact (saronlaw05_sound.calls K g A c l _ w hB.r hB.c (hK K (Nat.le_refl _))).mono fun e w' h => ⟨h.1, Go.Proofs.YtephecfapclgfaaDoor.X.Fr.of_below h.2⟩
theorem where42 {w : World} {A : Option Addr} {c : Nat} {r : List Int} (hr : Kd.C (Kd.int .i64) w A r.length r) (hc : r.length ≤ c) (x : Int) : Calls Tryd.prog 42 #[.slice A r.length c, .int .i64 x] w fun e w' => e = .returned (.int .i64 (wh x 0 r)) ∧ Fr0 w w' := by
  obtain ⟨K, hK⟩ := where_f r x (C_len hr)
  exact (saronref00_Where.calls K A c r x _ w hr hc (hK K (Nat.le_refl _))).mono fun e w' h => ⟨h.1, mk_dr h.2⟩
theorem marked23 {w : World} (hG : Glob w) : Calls Tryd.prog 23 #[] w fun e w' => e = .returned (.bool true) ∧ Fr0 w w' := (marked_any w hG).mono fun e w' h => ⟨h.1, mk_fr h.2⟩
theorem places27 {w : World} {g : Int} {A : Option Addr} {c : Nat} {l : List S63} (hB : Book w A c l) {Ap : Option Addr} {cp : Nat} {p : List (List Int)} (hr : Kd.C (Kd.slice 3 (Kd.int .i64)) w Ap p.length p) (hc : p.length ≤ cp) {lost : Int} {L : List S38} {E : Int} (hP : placesF g l p lost = (L, E)) : Calls Tryd.prog 27 #[.agg #[.int .i64 g, .slice A l.length c], .slice Ap p.length cp, .int .i64 lost] w fun e w' =>
    ∃ A2 c2, e = .returned (.tuple #[.slice A2 L.length c2, .int .i64 E]) ∧ Kd.C k38 w' A2 L.length L ∧ L.length ≤ c2 ∧ Fr0 w w' := by
  have h := places_any g A c l Ap cp p lost w hB hr hc
  rw [hP] at h
  refine h.mono ?_
  rintro e w' ⟨v, rfl, ⟨A2, c2, rfl, hc, hF⟩, hb⟩
  exact ⟨A2, c2, rfl, Kd.F_now hF, hc, mk_fr hb⟩
theorem inf_3 : (Tryd.prog.info? 3).map (fun i => (i.zero, i.size, i.bytes)) = some (some (.int .i64 0), 1, 8) := by kernel_rfl
theorem inf_26 : (Tryd.prog.info? 26).map (fun i => (i.zero, i.size, i.bytes)) = some (some (.slice none 0 0), 1, 24) := by kernel_rfl
theorem within_l1 (a b : List S38) (ha : a.length ≤ 1000) (hb : b.length ≤ 9223372036854775807) (i : Nat) (hi : i < a.length) {R : Bool} (hn : Ev (fun k => saronlaw05_within.l0 k a b ((i + 1 : Nat) : Int)) R) : ∀ (d n : Nat) (found : Bool), n + d = b.length → (found = true ∨ ∃ j, ∃ h : j < b.length, n ≤ j ∧ b[j] = a[i]) → Ev (fun k => saronlaw05_within.l1 k a b (i : Int) found (n : Int)) R
  | 0, n, found, hd, hf => by
    have e : found = true := by
      rcases hf with e | ⟨j, hj, hnj, _⟩
      · exact e
      · omega
    subst e
    refine Ev.step (fun k => by rw [saronlaw05_within.l1, if_neg (by omega), if_pos rfl, w64 (x := (i : Int) + 1) (by omega) (by omega), show ((i : Int) + 1) = ((i + 1 : Nat) : Int) by omega]) ?_
    exact hn
  | d + 1, n, found, hd, hf => by
    have hnl : n < b.length := by omega
    have e0 : wrap64 ((n : Int) + 1) = ((n + 1 : Nat) : Int) := by rw [w64 (by omega) (by omega)]; omega
    cases found
    · refine Ev.step (fun k => by rw [saronlaw05_within.l1, if_pos (by omega), if_neg (by simp), if_pos (by omega), if_pos (by omega), if_pos (by omega), show rd_T38 a (i : Int) = a[i] by simp [rd_T38, hi], show rd_T38 b (n : Int) = b[n] by simp [rd_T38, hnl], e0]) ?_
      refine within_l1 a b ha hb i hi hn d (n + 1) _ (by omega) ?_
      rcases hf with e | ⟨j, hj, hnj, e⟩
      · cases e
      · by_cases c : j = n
        · subst c
          left
          rw [e]; simp
        · exact .inr ⟨j, hj, by omega, e⟩
    · refine Ev.step (fun k => by rw [saronlaw05_within.l1, if_pos (by omega), if_pos rfl, e0]) ?_
      exact within_l1 a b ha hb i hi hn d (n + 1) true (by omega) (.inl rfl)
theorem within_l0 (a b : List S38) (ha : a.length ≤ 1000) (hb : b.length ≤ 9223372036854775807) (hm : ∀ s ∈ a, s ∈ b) : ∀ (d i : Nat), i + d = a.length → Ev (fun k => saronlaw05_within.l0 k a b (i : Int)) true
  | 0, i, hd => by
    refine Ev.step (fun k => by rw [saronlaw05_within.l0, if_neg (by omega)]) ?_
    exact Ev.now true
  | d + 1, i, hd => by
    have hi : i < a.length := by omega
    refine Ev.step (fun k => by rw [saronlaw05_within.l0, if_pos (by omega)]) ?_
    refine within_l1 a b ha hb i hi (within_l0 a b ha hb hm d (i + 1) (by omega)) b.length 0 false (by omega) (.inr ?_)
    obtain ⟨j, hj, e⟩ := List.getElem_of_mem (hm _ (List.getElem_mem hi))
    exact ⟨j, hj, Nat.zero_le _, e⟩
theorem within47 {w : World} {A B : Option Addr} {ca cb : Nat} {K L : List S38} (hA : Kd.C k38 w A K.length K) (ha : K.length ≤ ca) (hK : K.length ≤ 1000) (hB : Kd.C k38 w B L.length L) (hc : L.length ≤ cb) (hs : ∀ s ∈ K, s ∈ L) : Calls Tryd.prog 47 #[.slice A K.length ca, .slice B L.length cb] w fun e w' => e = .returned (.bool true) ∧ Fr0 w w' := by
  obtain ⟨k, hk⟩ := within_l0 K L hK (C_len hB) hs K.length 0 (by omega)
  exact (saronlaw05_within.calls k A ca K B cb L true w hA ha hB hc (hk k (Nat.le_refl _))).mono fun e w' h => ⟨h.1, mk_dr h.2⟩
theorem least30 {w : World} {g : Int} {A : Option Addr} {c : Nat} {l : List S63} (hB : Book w A c l) {Ap : Option Addr} {cp : Nat} {p : List (List Int)} (hr : Kd.C (Kd.slice 3 (Kd.int .i64)) w Ap p.length p) (hc : p.length ≤ cp) {a E : Int} (hL : leastF g l p = (a, E)) : Calls Tryd.prog 30 #[.agg #[.int .i64 g, .slice A l.length c], .slice Ap p.length cp] w fun e w' => e = .returned (.tuple #[.int .i64 a, .int .i64 E]) ∧ Fr0 w w' := by
  have h := least_any g A c l Ap cp p w hB hr hc
  rw [hL] at h
  exact h.mono fun e w' h => ⟨h.1, mk_fr h.2⟩
theorem places27n {w : World} {g : Int} {A : Option Addr} {c : Nat} {l : List S63} (hB : Book w A c l) {Ap : Option Addr} {cp n : Nat} {p : List (List Int)} (hr : Kd.C (Kd.slice 3 (Kd.int .i64)) w Ap n p) (hn : p.length = n) (hc : n ≤ cp) {lost : Int} {L : List S38} {E : Int} (hP : placesF g l p lost = (L, E)) : Calls Tryd.prog 27 #[.agg #[.int .i64 g, .slice A l.length c], .slice Ap n cp, .int .i64 lost] w fun e w' =>
    ∃ A2 c2, e = .returned (.tuple #[.slice A2 L.length c2, .int .i64 E]) ∧ Kd.C k38 w' A2 L.length L ∧ L.length ≤ c2 ∧ Fr0 w w' := by
  subst hn
  exact places27 hB hr hc hP
/-! ### A row of rows by its rows' heads -/
structure Hd where
  A : Option Addr
  n : Nat
  c : Nat
def hdV (h : Hd) : Value := .slice h.A h.n h.c
theorem hdV_one : ∀ h : Hd, (hdV h).oneCell' = true := fun _ => rfl
def kH : Kd Hd := Kd.scalar hdV hdV_one
def HdAt (w : World) (hs : List Hd) (p : List (List Int)) (j : Nat) : Prop := ∃ hd, hs[j]? = some hd ∧ hd.n = (p.getD j []).length ∧ (p.getD j []).length ≤ hd.c ∧ Kd.C (Kd.int .i64) w hd.A (p.getD j []).length (p.getD j [])
theorem heads {w : World} {A : Option Addr} {n : Nat} {p : List (List Int)} (h : Kd.C (Kd.slice 3 (Kd.int .i64)) w A n p) : ∃ hs : List Hd, hs.length = p.length ∧ kH.C w A n hs ∧ ∀ j, j < p.length → HdAt w hs p j := by
  obtain ⟨h1, h2, h3⟩ := h
  by_cases hn : 0 < n
  · obtain ⟨ad, hA, hc⟩ := h3 hn
    have hex : ∀ j : Fin p.length, ∃ hd : Hd, hd.n = p[j].length ∧ p[j].length ≤ hd.c ∧ Kd.C (Kd.int .i64) w hd.A p[j].length p[j] ∧ w.cell? (ad.add j.1) = some (hdV hd) := fun j => by
      obtain ⟨c, _, ⟨A', c', rfl, hl, hC⟩, hcell⟩ := hc j.1 p[j] (List.getElem?_eq_getElem j.2)
      exact ⟨⟨A', p[j].length, c'⟩, rfl, hl, hC, by have := hcell 0 _ rfl; rwa [show j.1 * (Kd.slice 3 (Kd.int .i64)).sz + 0 = j.1 from Nat.mul_one _] at this⟩
    obtain ⟨f, hf⟩ := Classical.axiomOfChoice hex
    refine ⟨List.ofFn f, List.length_ofFn, ⟨by rw [List.length_ofFn]; exact h1, h2, fun _ => ⟨ad, hA, fun j q hj => ?_⟩⟩, fun j hj => ?_⟩
    · obtain ⟨hjl, e⟩ := List.getElem?_eq_some_iff.1 hj
      rw [List.length_ofFn] at hjl
      rw [List.getElem_ofFn] at e
      subst e
      refine ⟨[hdV (f ⟨j, hjl⟩)], rfl, rfl, fun i u hu => ?_⟩
      cases i with
      | zero =>
        cases hu
        have := (hf ⟨j, hjl⟩).2.2.2
        show w.cell? (ad.add (j * 1 + 0)) = _
        rw [Nat.mul_one]
        exact this
      | succ i => simp at hu
    · refine ⟨f ⟨j, hj⟩, ?_, ?_⟩
      · rw [List.getElem?_eq_getElem (by rw [List.length_ofFn]; exact hj), List.getElem_ofFn]
      · rw [getD_lt _ hj]
        exact ⟨(hf ⟨j, hj⟩).1, (hf ⟨j, hj⟩).2.1, (hf ⟨j, hj⟩).2.2.1⟩
  · have : p = [] := List.length_eq_zero_iff.1 (by omega)
    subst this
    exact ⟨[], rfl, ⟨by simpa using h1, h2, fun h => absurd h hn⟩, fun j hj => absurd hj (by simp)⟩
theorem of_heads {w : World} {A : Option Addr} {n : Nat} {p : List (List Int)} {hs : List Hd} (h : kH.C w A n hs) (hl : hs.length = p.length) (hr : ∀ j, j < p.length → HdAt w hs p j) : Kd.C (Kd.slice 3 (Kd.int .i64)) w A n p := by
  obtain ⟨h1, h2, h3⟩ := h
  refine ⟨by omega, h2, fun hn => ?_⟩
  obtain ⟨ad, hA, hc⟩ := h3 hn
  refine ⟨ad, hA, fun j q hj => ?_⟩
  obtain ⟨hjl, e⟩ := List.getElem?_eq_some_iff.1 hj
  obtain ⟨hd, e1, e2, e3, e4⟩ := hr j hjl
  rw [getD_lt _ hjl, e] at e2 e3 e4
  obtain ⟨c, _, rfl, hcell⟩ := hc j hd e1
  refine ⟨[hdV hd], rfl, ⟨hd.A, hd.c, ?_, e3, e4⟩, hcell⟩
  unfold hdV
  rw [e2]
theorem set_heads {w W : World} {A : Option Addr} {n k : Nat} {p : List (List Int)} {hs : List Hd} {hd : Hd} {row : List Int} (hb : Below w.heap.size w W) (h : kH.C W A n (hs.set k hd)) (hl : hs.length = p.length) (hr : ∀ j, j < p.length → HdAt w hs p j) (e2 : hd.n = row.length) (e3 : row.length ≤ hd.c) (e4 : Kd.C (Kd.int .i64) W hd.A row.length row) : Kd.C (Kd.slice 3 (Kd.int .i64)) W A n (p.set k row) := by
  refine of_heads h (by rw [List.length_set, List.length_set]; exact hl) (fun j hj => ?_)
  rw [List.length_set] at hj
  by_cases e : k = j
  · subst e
    refine ⟨hd, ?_, ?_⟩
    · rw [List.getElem?_set_self (by omega)]
    · rw [getD_lt _ (by rw [List.length_set]; exact hj), List.getElem_set_self]
      exact ⟨e2, e3, e4⟩
  · obtain ⟨x, x1, x2, x3, x4⟩ := hr j hj
    refine ⟨x, by rw [List.getElem?_set_ne e]; exact x1, ?_⟩
    rw [getD_lt _ (by rw [List.length_set]; exact hj), List.getElem_set_ne e]
    rw [getD_lt _ hj] at x2 x3 x4
    exact ⟨x2, x3, Kd.C_below x4 hb⟩
theorem own_lit0 (w : World) : kH.R 26 (w.alloc (.cells #[] 26)) w.heap.size (fun b => w.heap.size ≤ b) (.slice (some ⟨w.heap.size, 0, none⟩) 0 0) [] := by
  refine Kd.R_of_own ?_ (fun k hk => ?_)
  · refine ⟨rfl, .inr ⟨w.heap.size, 0, #[], rfl, Nat.le_refl _, blk_new w _, Nat.le_refl _, Nat.zero_le _, rfl, rfl⟩⟩
  · simp [Value.ownBlock] at hk
    exact Nat.le_of_eq hk
theorem own_open {w : World} {base : Nat} {ok : Nat → Prop} {v : Value} {hs : List Hd} {n : Nat} (h : kH.R 26 w base ok v hs) (hl : hs.length = n) (hn : 1 ≤ n) : ∃ b c, v = .slice (some ⟨b, 0, none⟩) n c ∧ base ≤ b ∧ b < w.heap.size := by
  have hlt := Kd.R_lt h
  obtain ⟨inner, ho⟩ := Kd.R_own h
  rcases ho.2 with ⟨_, h0⟩ | ⟨b, cap, cur, rfl, hb, _⟩
  · omega
  · rw [hl]
    exact ⟨b, cap, rfl, hb, hlt b rfl⟩
/-- A row of numbers below n, with one more. -/
def moreR (r : List Int) (gong : Int) (n : Nat) : List Int := lst (fun i => decide ((i : Int) = gong) || r.contains (i : Int)) n
theorem moreR_yes {r : List Int} {gong : Int} {n : Nat} (h : (decide ((n : Int) = gong) || r.contains (n : Int)) = true) : moreR r gong (n + 1) = moreR r gong n ++ [(n : Int)] := by
  show (if _ then _ else _) = _
  rw [if_pos h]; rfl
theorem moreR_no {r : List Int} {gong : Int} {n : Nat} (h : ¬ (decide ((n : Int) = gong) || r.contains (n : Int)) = true) : moreR r gong (n + 1) = moreR r gong n := by
  show (if _ then _ else _) = _
  rw [if_neg h]; rfl
theorem moreR_len (r : List Int) (gong : Int) : ∀ n, (moreR r gong n).length ≤ n
  | 0 => Nat.le_refl 0
  | n + 1 => by
    have := moreR_len r gong n
    by_cases h : (decide ((n : Int) = gong) || r.contains (n : Int)) = true
    · rw [moreR_yes h, List.length_append]; simp; omega
    · rw [moreR_no h]; omega

set_option maxHeartbeats 8000000 in
set_option maxRecDepth 100000 in
theorem fewer_err (g : Int) (A : Option Addr) (c : Nat) (l : List S63) (Ap : Option Addr) (cp : Nat) (p : List (List Int)) (n0 n1 n2 : Int) (w : World) (hB : Book w A c l) (hr : Kd.C (Kd.slice 3 (Kd.int .i64)) w Ap p.length p) (hc : p.length ≤ cp) (E : Int) (hE : E = 50 ∨ E = 51) (hP0 : placesF g l p (n0 % 6) = ([], E)) (hP1 : placesF g l p (n0 % 6 + 1) = ([], E)) (hL : leastF g l p = (0, E)) :
    Calls Tryd.prog 10 #[.agg #[.int .i64 g, .slice A l.length c], .slice Ap p.length cp, .agg #[.int .i64 n0, .int .i64 n1, .int .i64 n2]] w fun e w' => e = .returned (.bool true) ∧ Fr0 w w' := by
  have HB := Lib.hid hB
  have HR := Lib.hid hr
  have hpb := C_len hr
  have hz0 := Int.emod_nonneg n0 (show (6 : Int) ≠ 0 by omega)
  have hz1 := Int.emod_lt_of_pos n0 (show (0 : Int) < 6 by omega)
  have HT0 := Lib.hid (fun W => turn40 n0 6 (by omega) (by omega) W)
  have hf0 : Fr0 w ((w.alloc (.cells #[.int .i64 g, .slice A l.length c] 24)).alloc (.cells #[.int .i64 n0, .int .i64 n1, .int .i64 n2] 25)) := ((Fr.refl _ _).alloc _).alloc _
  have c2 : Bx ((w.alloc (.cells #[.int .i64 g, .slice A l.length c] 24)).alloc (.cells #[.int .i64 n0, .int .i64 n1, .int .i64 n2] 25)) w.heap.size 24 #[.int .i64 g, .slice A l.length c] := (Bx.of_new rfl).alloc _
  have c3 : Bx ((w.alloc (.cells #[.int .i64 g, .slice A l.length c] 24)).alloc (.cells #[.int .i64 n0, .int .i64 n1, .int .i64 n2] 25)) (w.heap.size + 1) 25 #[.int .i64 n0, .int .i64 n1, .int .i64 n2] := Bx.of_new (by simp)
  clear hB hr
  go_enter Tryd.func10, Tryd.ntmps10
  go_upto_region 1 with fail
  generalize hW : ((w.alloc (.cells #[.int .i64 g, .slice A l.length c] 24)).alloc (.cells #[.int .i64 n0, .int .i64 n1, .int .i64 n2] 25)) = W at hf0 c2 c3 ⊢
  clear hW
  have HF0 := Lib.hid hf0
  have HC2 := Lib.hid c2
  have HC3 := Lib.hid c3
  have u0 := c3.at_ 0 (v := .int .i64 n0) rfl
  clear hf0 c2 c3
  go_upto_region 2 with (first | (go_at_call 40; refine (HT0.out _).mono ?_; rintro e w1 ⟨rfl, hf1⟩; (have H1 := Lib.hid hf1); clear hf1))
  have HF1 := Lib.hid (Fr0.trans HF0.out H1.out)
  have HD2 := Lib.hid (HC2.out.fr0 H1.out)
  have HD3 := Lib.hid (HC3.out.fr0 H1.out)
  clear u0 HT0
  have v0 := HD2.out.at_ 0 (v := .int .i64 g) rfl
  have v1 := HD2.out.at_ 1 (v := .slice A l.length c) rfl

  have HP1 := Lib.hid hP1
  have HP0 := Lib.hid hP0
  have HLF := Lib.hid hL
  clear hP1 hP0 hL
  generalize hlo : n0 % 6 = lost at *
  go_upto_region 3 with (first | (go_at_call 27; refine (places27 (HB.out.fr HF1.out) (C_fr HR.out HF1.out) hc HP0.out).mono ?_; rintro e w2 ⟨AL, cL, rfl, hCL, hcL, hf2⟩; (have HCL := Lib.hid hCL); clear hCL; (have HLC := Lib.hid hcL); clear hcL; (have H2 := Lib.hid hf2); clear hf2))
  have HF2 := Lib.hid (Fr0.trans HF1.out H2.out)
  have HE2 := Lib.hid (HD2.out.fr0 H2.out)
  have HE3 := Lib.hid (HD3.out.fr0 H2.out)
  clear v0 v1
  have v0 := HE2.out.at_ 0 (v := .int .i64 g) rfl
  have v1 := HE2.out.at_ 1 (v := .slice A l.length c) rfl
  go_upto_region 4 with (first | (go_at_call 27; refine (places27 (HB.out.fr HF2.out) (C_fr HR.out HF2.out) hc HP1.out).mono ?_; rintro e w3 ⟨AM, cM, rfl, hCM, hcM, hf3⟩; (have HCM := Lib.hid hCM); clear hCM; (have HMC := Lib.hid hcM); clear hcM; (have H3 := Lib.hid hf3); clear hf3))
  have HF3 := Lib.hid (Fr0.trans HF2.out H3.out)
  have HG2 := Lib.hid (HE2.out.fr0 H3.out)
  have HG3 := Lib.hid (HE3.out.fr0 H3.out)
  clear v0 v1
  have v0 := HG2.out.at_ 0 (v := .int .i64 g) rfl
  have v1 := HG2.out.at_ 1 (v := .slice A l.length c) rfl
  go_upto_region 5 with (first | (go_at_call 30; refine (least30 (HB.out.fr HF3.out) (C_fr HR.out HF3.out) hc HLF.out).mono ?_; rintro e w4 ⟨rfl, hf4⟩; (have H4 := Lib.hid hf4); clear hf4))
  have HF4 := Lib.hid (Fr0.trans HF3.out H4.out)
  have HI2 := Lib.hid (HG2.out.fr0 H4.out)
  have HI3 := Lib.hid (HG3.out.fr0 H4.out)
  clear v0 v1
  rcases hE with rfl | rfl
  · go_wp2_with (first  | (go_at_call 23; refine (marked23 (HB.out.glob.fr (HF4.out))).mono ?_; rintro e w5 ⟨rfl, hf5⟩; (have H5 := Lib.hid hf5); clear hf5))
    refine bodyPost_ret (v := .bool true) (by simp [results, Tryd.results10, go_sem]) rfl ⟨rfl, ?_⟩
    exact Fr0.trans (HF4.out) H5.out
  · go_wp2_with (first  | (go_at_call 23; refine (marked23 (HB.out.glob.fr (HF4.out))).mono ?_; rintro e w5 ⟨rfl, hf5⟩; (have H5 := Lib.hid hf5); clear hf5))
    refine bodyPost_ret (v := .bool true) (by simp [results, Tryd.results10, go_sem]) rfl ⟨rfl, ?_⟩
    exact Fr0.trans (HF4.out) H5.out

set_option maxHeartbeats 8000000 in
set_option maxRecDepth 100000 in
theorem fewer_ok (g : Int) (A : Option Addr) (c : Nat) (l : List S63) (Ap : Option Addr) (cp : Nat) (p : List (List Int)) (n0 n1 n2 : Int) (w : World) (hB : Book w A c l) (hr : Kd.C (Kd.slice 3 (Kd.int .i64)) w Ap p.length p) (hc : p.length ≤ cp) (hb : bookOk g l = true) (gn : Nat) (hg : g = (gn : Int)) (hg1 : 1 ≤ gn) (hg5 : gn ≤ 5) (L1 L2 L3 : List S38) (a E : Int) (hP0 : placesF g l p (n0 % 6) = (L1, 0)) (hP1 : placesF g l p (n0 % 6 + 1) = (L2, 0)) (hL : leastF g l p = (a, E)) (hcase : (E = 0 ∧ 0 ≤ a ∧ (0 < L1.length ↔ a ≤ n0 % 6)) ∨ (E = 4 ∧ L2 = [])) (hs12 : ∀ s ∈ L1, s ∈ L2) (hK1 : L1.length ≤ 1000) (hp1 : 1 ≤ p.length) (hp64 : p.length ≤ 64) (k : Nat) (hk : k < p.length) (htwo : n1 % (p.length : Int) = k) (hP3 : placesF g l (p.set k (moreR (p.getD k []) (n2 % g) gn)) (n0 % 6) = (L3, 0)) (hs34 : ∀ s ∈ L3, s ∈ L2) (hK3 : L3.length ≤ 1000) :
    Calls Tryd.prog 10 #[.agg #[.int .i64 g, .slice A l.length c], .slice Ap p.length cp, .agg #[.int .i64 n0, .int .i64 n1, .int .i64 n2]] w fun e w' => e = .returned (.bool true) ∧ Fr0 w w' := by
  have HB := Lib.hid hB
  have HR := Lib.hid hr
  have hpb := C_len hr
  have HG := Lib.hid hg
  have HT2 := Lib.hid htwo
  have HCS := Lib.hid hcase
  clear hg htwo hcase
  have hz0 := Int.emod_nonneg n0 (show (6 : Int) ≠ 0 by omega)
  have hz1 := Int.emod_lt_of_pos n0 (show (0 : Int) < 6 by omega)
  have HT0 := Lib.hid (fun W => turn40 n0 6 (by omega) (by omega) W)
  have hf0 : Fr0 w ((w.alloc (.cells #[.int .i64 g, .slice A l.length c] 24)).alloc (.cells #[.int .i64 n0, .int .i64 n1, .int .i64 n2] 25)) := ((Fr.refl _ _).alloc _).alloc _
  have c2 : Bx ((w.alloc (.cells #[.int .i64 g, .slice A l.length c] 24)).alloc (.cells #[.int .i64 n0, .int .i64 n1, .int .i64 n2] 25)) w.heap.size 24 #[.int .i64 g, .slice A l.length c] := (Bx.of_new rfl).alloc _
  have c3 : Bx ((w.alloc (.cells #[.int .i64 g, .slice A l.length c] 24)).alloc (.cells #[.int .i64 n0, .int .i64 n1, .int .i64 n2] 25)) (w.heap.size + 1) 25 #[.int .i64 n0, .int .i64 n1, .int .i64 n2] := Bx.of_new (by simp)
  clear hB hr
  go_enter Tryd.func10, Tryd.ntmps10
  go_upto_region 1 with fail
  generalize hW : ((w.alloc (.cells #[.int .i64 g, .slice A l.length c] 24)).alloc (.cells #[.int .i64 n0, .int .i64 n1, .int .i64 n2] 25)) = W at hf0 c2 c3 ⊢
  clear hW
  have HF0 := Lib.hid hf0
  have HC2 := Lib.hid c2
  have HC3 := Lib.hid c3
  have u0 := c3.at_ 0 (v := .int .i64 n0) rfl
  clear hf0 c2 c3
  go_upto_region 2 with (first | (go_at_call 40; refine (HT0.out _).mono ?_; rintro e w1 ⟨rfl, hf1⟩; (have H1 := Lib.hid hf1); clear hf1))
  have HF1 := Lib.hid (Fr0.trans HF0.out H1.out)
  have HD2 := Lib.hid (HC2.out.fr0 H1.out)
  have HD3 := Lib.hid (HC3.out.fr0 H1.out)
  clear u0 HT0
  have v0 := HD2.out.at_ 0 (v := .int .i64 g) rfl
  have v1 := HD2.out.at_ 1 (v := .slice A l.length c) rfl

  have HP1 := Lib.hid hP1
  have HP0 := Lib.hid hP0
  have HLF := Lib.hid hL
  clear hP1 hP0 hL
  generalize hlo : n0 % 6 = lost at *
  go_upto_region 3 with (first | (go_at_call 27; refine (places27 (HB.out.fr HF1.out) (C_fr HR.out HF1.out) hc HP0.out).mono ?_; rintro e w2 ⟨AL, cL, rfl, hCL, hcL, hf2⟩; (have HCL := Lib.hid hCL); clear hCL; (have HLC := Lib.hid hcL); clear hcL; (have H2 := Lib.hid hf2); clear hf2))
  have HF2 := Lib.hid (Fr0.trans HF1.out H2.out)
  have HE2 := Lib.hid (HD2.out.fr0 H2.out)
  have HE3 := Lib.hid (HD3.out.fr0 H2.out)
  clear v0 v1
  have v0 := HE2.out.at_ 0 (v := .int .i64 g) rfl
  have v1 := HE2.out.at_ 1 (v := .slice A l.length c) rfl
  go_upto_region 4 with (first | (go_at_call 27; refine (places27 (HB.out.fr HF2.out) (C_fr HR.out HF2.out) hc HP1.out).mono ?_; rintro e w3 ⟨AM, cM, rfl, hCM, hcM, hf3⟩; (have HCM := Lib.hid hCM); clear hCM; (have HMC := Lib.hid hcM); clear hcM; (have H3 := Lib.hid hf3); clear hf3))
  have HF3 := Lib.hid (Fr0.trans HF2.out H3.out)
  have HG2 := Lib.hid (HE2.out.fr0 H3.out)
  have HG3 := Lib.hid (HE3.out.fr0 H3.out)
  clear v0 v1
  have v0 := HG2.out.at_ 0 (v := .int .i64 g) rfl
  have v1 := HG2.out.at_ 1 (v := .slice A l.length c) rfl
  go_upto_region 5 with (first | (go_at_call 30; refine (least30 (HB.out.fr HF3.out) (C_fr HR.out HF3.out) hc HLF.out).mono ?_; rintro e w4 ⟨rfl, hf4⟩; (have H4 := Lib.hid hf4); clear hf4))
  have HF4 := Lib.hid (Fr0.trans HF3.out H4.out)
  have HI2 := Lib.hid (HG2.out.fr0 H4.out)
  have HI3 := Lib.hid (HG3.out.fr0 H4.out)
  clear v0 v1
  have HP3 := Lib.hid hP3
  have HS12 := Lib.hid hs12
  have HS34 := Lib.hid hs34
  have HK1 := Lib.hid hK1
  have HK3 := Lib.hid hK3
  have HPO := Lib.hid (show 1 ≤ p.length ∧ p.length ≤ 64 from ⟨hp1, hp64⟩)
  clear hP3 hs12 hs34 hK1 hK3
  have v0 := HI2.out.at_ 0 (v := .int .i64 g) rfl
  have v1 := HI2.out.at_ 1 (v := .slice A l.length c) rfl
  have HCL4 := Lib.hid (C_fr HCL.out (Fr0.trans H3.out H4.out))
  have HCM4 := Lib.hid (C_fr HCM.out H4.out)
  go_upto_region 9 with fail
  rcases HCS.out with ⟨rfl, ha0, hal⟩ | ⟨rfl, rfl⟩
  · by_cases hle : a ≤ lost
    · have hpos := hal.2 hle
      have hpos' : (0 : Int) < (L1.length : Int) := by omega
      have hna : ¬ a < 0 := by omega
      go_upto_region 11 with (first
        | (go_at_call 47; refine (within47 HCL4.out HLC.out HK1.out HCM4.out HMC.out HS12.out).mono ?_; rintro e w5 ⟨rfl, hf5⟩; (have H5 := Lib.hid hf5); (have v0 := hf5.cell0 v0); (have v1 := hf5.cell0 v1); clear hf5)
        | (go_at_call 39; refine (sound39 (HB.out.fr (Fr0.trans HF4.out H5.out))).mono ?_; rw [hb]; rintro e w6 ⟨rfl, hf6⟩; (have H6 := Lib.hid hf6); clear hf6))
      have HF6 := Lib.hid (Fr0.trans HF4.out (Fr0.trans H5.out H6.out))
      have HJ2 := Lib.hid (HI2.out.fr0 (Fr0.trans H5.out H6.out))
      have HJ3 := Lib.hid (HI3.out.fr0 (Fr0.trans H5.out H6.out))
      have HM6 := Lib.hid (C_fr HCM4.out (Fr0.trans H5.out H6.out))
      obtain ⟨hs, hsl, hsC, hsA⟩ := heads (C_fr HR.out HF6.out)
      have HSL := Lib.hid hsl
      have HSC := Lib.hid hsC
      have HSA := Lib.hid hsA
      clear hsl hsC hsA v0 v1
      have HLB := Lib.hid (below_alloc (Below.refl w6.heap.size w6) (.cells #[] 26))
      have HL0 := Lib.hid (own_lit0 w6)
      go_upto_region 12 with (first | ((with_reducible refine gate_builtin (b := .append) (xs := #[.tmp 113, .tmp 114]) rfl ?_); at_builtin; refine Kd.R_append_row hdV ⟨none, 0, 0⟩ (h1 := hdV_one) (w0 := w6) w6.heap.size rfl (.tmp 113) (.tmp 114) 39 26 (.slice none 0 0) 24 rfl Tryd.underlying39 inf_26 rfl (by decide) (.slice (some ⟨w6.heap.size, 0, none⟩) 0 0) [] hs Ap p.length cp (fun b => w6.heap.size ≤ b) rfl rfl ?aF ?aO ?aR ?aB ?aS ?aL ?_; (case aF => exact fun k hk => Nat.le_trans HLB.out.size hk); (case aO => exact HL0.out); (case aR => exact Kd.C_below HSC.out HLB.out); (case aB => exact HLB.out); (case aS => exact HLB.out.size); (case aL => have := HPO.out; simp only [List.length_nil]; omega); intro v14 w7 ho hb7 hg7 hat7))
      obtain ⟨b14, c14, rfl, hb14, hb14'⟩ := own_open (hs := hs) ho HSL.out HPO.out.1
      have HO14 := Lib.hid (show kH.R 26 w7 w6.heap.size (fun b => w6.heap.size ≤ b) (.slice (some ⟨b14, 0, none⟩) p.length c14) hs from ho)
      have HF7 := Lib.hid (show Fr0 w6 w7 from mk_fr hb7)
      have HB14 := Lib.hid (show w6.heap.size ≤ b14 ∧ b14 < w7.heap.size from ⟨hb14, hb14'⟩)
      have HF67 := Lib.hid (Fr0.trans HF6.out HF7.out)
      have HQ2 := Lib.hid (HJ2.out.fr0 HF7.out)
      have HQ3 := Lib.hid (HJ3.out.fr0 HF7.out)
      have HM7 := Lib.hid (C_fr HM6.out HF7.out)
      clear ho hb7 hg7 hat7 hb14 hb14'
      have u1 := HQ3.out.at_ 1 (v := .int .i64 n1) rfl
      have hmx : (if 1 < (p.length : Int) then (p.length : Int) else 1) = (p.length : Int) := by
        split
        · rfl
        · omega
      go_upto_region 13 with (first
        | (go_at_call 40; refine (turn40 n1 (p.length : Int) (by have := HPO.out; omega) (by have := HPO.out; omega) _).mono ?_; rw [HT2.out]; rintro e w8 ⟨rfl, hf8⟩; (have H8 := Lib.hid hf8); clear hf8))
      clear hmx
      have HF8 := Lib.hid (Fr0.trans HF67.out H8.out)
      have HR2 := Lib.hid (HQ2.out.fr0 H8.out)
      have HR3 := Lib.hid (HQ3.out.fr0 H8.out)
      have HM8 := Lib.hid (C_fr HM7.out H8.out)
      clear u1
      have v0 := HR2.out.at_ 0 (v := .int .i64 g) rfl
      have u2 := HR3.out.at_ 2 (v := .int .i64 n2) rfl
      have hnp : ¬ p = [] := fun h => by rw [h] at hp1; simp at hp1
      have hl0 : ((p.length : Int) == 0) = false := by rw [beq_eq_false_iff_ne]; omega
      have hl64 : ¬ (p.length : Int) > 64 := by omega
      have HTG := Lib.hid (fun W => turn40 n2 g (by have := HG.out; omega) (by have := HG.out; omega) W)
      go_upto_region 17 with (first
        | (go_at_call 40; refine (HTG.out _).mono ?_; rintro e w9 ⟨rfl, hf9⟩; (have H9 := Lib.hid hf9); clear hf9))
      have HF9 := Lib.hid (Fr0.trans HF8.out H9.out)
      have H79 := Lib.hid (Fr0.trans H8.out H9.out)
      have HS2 := Lib.hid (HR2.out.fr0 H9.out)
      have HM9 := Lib.hid (C_fr HM8.out H9.out)
      clear v0 u2 HTG
      obtain rfl : g = gn := HG.out
      generalize n2 % (gn : Int) = gong at *
      obtain ⟨adp, A2, c2, hA, x0, hlr, hCr⟩ := at_L1 (C_fr HR.out HF9.out) (k : Int) (by omega) (by omega)
      subst hA
      rw [show rd_L1 p (k : Int) = p.getD k [] by simp [rd_L1], Int.toNat_natCast] at x0
      rw [show rd_L1 p (k : Int) = p.getD k [] by simp [rd_L1]] at hlr hCr
      generalize p.getD k [] = r at *
      have HCR := Lib.hid hCr
      have hrl : r.length ≤ 9223372036854775807 := C_len hCr
      clear hCr
      go_wp2
      go_loopw [16, 18] (fun v16 v18 wr => ∃ i : Nat, i ≤ gn ∧ v18 = .int .i64 i ∧ Kd.R (Kd.int .i64) 3 wr w9.heap.size (fun b => w9.heap.size ≤ b) v16 (moreR r gong i) ∧ Below w9.heap.size w9 wr) (fun _ v18 _ => (gn - intOf v18).toNat)
      case atStart => exact ⟨0, by omega, by rfl, Kd.R_nil _ _ _ _ _, Below.refl _ _⟩
      case round =>
        obtain ⟨i, hi, rfl, hR, hbi⟩ := hrel
        have hfi : Fr0 w9 wr := Go.Proofs.YtephecfapclgfaaDoor.X.Fr.of_below hbi
        have hs2 := HS2.out.fr0 hfi
        have v0 := hs2.at_ 0 (v := .int .i64 gn) rfl
        have xi := hfi.cell0 x0
        have HYL := Lib.hid (moreR_len r gong i)
        have HYY := Lib.hid (fun h => moreR_yes (r := r) (gong := gong) (n := i) h)
        have HYN := Lib.hid (fun h => moreR_no (r := r) (gong := gong) (n := i) h)
        by_cases hlt : i < gn
        · have hle : (i : Int) < gn := by omega
          have HR16 := Lib.hid hR
          have HBI := Lib.hid hbi
          have HFI := Lib.hid hfi
          generalize moreR r gong i = ys at *
          clear hR hbi hs2 hfi
          by_cases hgo : (i : Int) = gong
          · have hge : ((i : Int) == gong) = true := by simpa using hgo
            have HGO := Lib.hid hgo
            clear hgo
            go_wp2_with (first | ((with_reducible refine gate_builtin (b := .append) (xs := #[.tmp 153, .tmp 155]) rfl ?_); at_builtin; refine Kd.R_append (Kd.int .i64) (w0 := w9) w9.heap.size rfl (.tmp 153) (.tmp 155) 26 3 (.int .i64 0) 8 rfl Tryd.underlying26 inf_3 rfl (by decide) (by omega) _ ys (i : Int) [.int .i64 (i : Int)] (fun b => w9.heap.size ≤ b) (fun _ => False) rfl rfl ?aP (fun _ hk => hk.elim) ?aF ?aO ?aB ?aS ?aL ?_; (case aP => exact rfl); (case aB => exact HBI.out); (case aF => exact (fun k hk => Nat.le_trans HBI.out.size hk)); (case aO => exact HR16.out); (case aS => exact HBI.out.size); (case aL => have := HYL.out; omega); intro v104 w6' ho hb hg hat))
            go_roundw
            case rel => exact ⟨i + 1, by omega, by go_num, by rw [HYY.out (by simp [HGO.out])]; exact ho, hb⟩
            case measure => simp [intOf]; omega
          · have hge : ((i : Int) == gong) = false := by simpa using hgo
            have HGO := Lib.hid hgo
            have HWH := Lib.hid (wh_iff (i : Int) r 0 (by omega))
            clear hgo
            generalize hz : wh (i : Int) 0 r = z at *
            have HZ := Lib.hid hz
            clear hz
            by_cases hzz : z ≥ 0
            · have HFT := Lib.hid (HWH.out.1 hzz)
              go_wp2_with (first
                | (go_at_call 42; refine (where42 (C_fr HCR.out HFI.out) hlr (i : Int)).mono ?_; rw [HZ.out]; rintro e w20 ⟨rfl, hf20⟩; (have HB20 := Lib.hid (HBI.out.trans ((fr_below hf20).mono HBI.out.size))); (have HR20 := Lib.hid (Kd.R_below HR16.out (fr_below hf20))); clear hf20)
                | ((with_reducible refine gate_builtin (b := .append) (xs := #[.tmp 153, .tmp 155]) rfl ?_); at_builtin; refine Kd.R_append (Kd.int .i64) (w0 := w9) w9.heap.size rfl (.tmp 153) (.tmp 155) 26 3 (.int .i64 0) 8 rfl Tryd.underlying26 inf_3 rfl (by decide) (by omega) _ ys (i : Int) [.int .i64 (i : Int)] (fun b => w9.heap.size ≤ b) (fun _ => False) rfl rfl ?aP (fun _ hk => hk.elim) ?aF ?aO ?aB ?aS ?aL ?_; (case aP => exact rfl); (case aB => exact HB20.out); (case aF => exact (fun k hk => Nat.le_trans HB20.out.size hk)); (case aO => exact HR20.out); (case aS => exact HB20.out.size); (case aL => have := HYL.out; omega); intro v104 w6' ho hb hg hat))
              go_roundw
              case rel => exact ⟨i + 1, by omega, by go_num, by rw [HYY.out (by rw [HFT.out, Bool.or_true])]; exact ho, hb⟩
              case measure => simp [intOf]; omega
            · have HFT := Lib.hid (show ¬ r.contains (i : Int) = true from fun h => hzz (HWH.out.2 h))
              go_wp2_with (first
                | (go_at_call 42; refine (where42 (C_fr HCR.out HFI.out) hlr (i : Int)).mono ?_; rw [HZ.out]; rintro e w20 ⟨rfl, hf20⟩; (have HB20 := Lib.hid (HBI.out.trans ((fr_below hf20).mono HBI.out.size))); (have HR20 := Lib.hid (Kd.R_below HR16.out (fr_below hf20))); clear hf20))
              go_roundw
              case rel => exact ⟨i + 1, by omega, by go_num, by rw [HYN.out (by rw [Bool.or_eq_true, decide_eq_true_eq]; exact fun h => h.elim HGO.out HFT.out)]; exact HR20.out, HB20.out⟩
              case measure => simp [intOf]; omega
        · obtain rfl : i = gn := by omega
          have hle' : ¬ ((i : Int) < i) := by omega
          obtain ⟨A16, c16, rfl, hcl, -⟩ := Kd.R_reads hR
          have hor := Kd.R_below HO14.out ((fr_below H79.out).trans (hbi.mono H79.out.size))
          have hcel := Kd.R_celln (⟨none, 0, 0⟩ : Hd) hor (k : Int) (by omega) (by omega)
          rw [Int.toNat_natCast] at hcel
          obtain ⟨q0, q1⟩ := hcel
          generalize hdV (rdOf (⟨none, 0, 0⟩ : Hd) hs (k : Int)) = ov at q0
          have hf69 : Fr0 w6 wr := Fr0.trans HF7.out (Fr0.trans H79.out hfi)
          have hput := Kd.R_putn hor (k : Int) (⟨A16, (moreR r gong i).length, c16⟩ : Hd)
          rw [Int.toNat_natCast] at hput
          change kH.R 26 (wr.setCell ⟨b14, k, none⟩ (.slice A16 (moreR r gong i).length c16)) w6.heap.size (fun b => w6.heap.size ≤ b) (.slice (some ⟨b14, 0, none⟩) p.length c14) (hs.set k (⟨A16, (moreR r gong i).length, c16⟩ : Hd)) at hput
          have hrow := Kd.R_step (w1 := wr.setCell ⟨b14, k, none⟩ (.slice A16 (moreR r gong i).length c16)) hR (fun b hb hlt => ((Go.Proofs.YtephecfapclgfaaDoor.X.Fr.refl (fun x => x = b14) wr).setCell (p := ⟨b14, k, none⟩) (.inl rfl) _).block b hlt (fun e => by have h1 : w9.heap.size ≤ b := hb; have h2 := HB14.out.2; have h3 := H79.out.size; omega))
          have hfW : Fr0 w6 (wr.setCell ⟨b14, k, none⟩ (.slice A16 (moreR r gong i).length c16)) := hf69.setCell (p := ⟨b14, k, none⟩) (.inr (by dsimp only; exact HB14.out.1)) _
          have hpr := Kd.R_reads' hput
          have hl1 : p.length = (hs.set k (⟨A16, (moreR r gong i).length, c16⟩ : Hd)).length := by rw [List.length_set]; exact HSL.out.symm
          have hCm := hpr.2.2
          rw [← hl1] at hCm
          have HCM2 := Lib.hid (set_heads (row := moreR r gong i) (fr_below hfW) hCm HSL.out HSA.out rfl hcl (Kd.R_reads' hrow).2.2)
          have hc14 := hpr.2.1
          have h96 : Fr0 w9 wr := hfi
          have HT2' := Lib.hid (HS2.out.fr0 h96)
          have HM24 := Lib.hid (C_fr HM6.out hfW)
          have HFW := Lib.hid hfW
          have hHS := HJ2.out.fr0 hfW
          have v0 := hHS.at_ 0 (v := .int .i64 i) rfl
          have v1 := hHS.at_ 1 (v := .slice A l.length c) rfl
          generalize hrow' : moreR r gong i = row at *
          clear hrow' hput hpr hCm hrow hf69 hfW hor hR hs2 hHS hbi hl1
          go_upto_region 23 with fail
          generalize hWS : World.setCell wr _ _ = WS at *
          clear hWS q0 q1 xi x0 v0 v1
          have v0 := (HJ2.out.fr0 HFW.out).at_ 0 (v := .int .i64 i) rfl
          have v1 := (HJ2.out.fr0 HFW.out).at_ 1 (v := .slice A l.length c) rfl
          go_upto_region 24 with (first
            | (go_at_call 27; refine (places27n (HB.out.fr (Fr0.trans HF6.out HFW.out)) HCM2.out (List.length_set ..) hc14 HP3.out).mono ?_; rintro e w24 ⟨A3, c3, rfl, hC3, hl3, hf24⟩; (have HC3' := Lib.hid hC3); (have HL3 := Lib.hid hl3); (have H24 := Lib.hid hf24); clear hC3 hl3 hf24))
          have HF24 := Lib.hid (Fr0.trans HF6.out (Fr0.trans HFW.out H24.out))
          clear v0 v1
          have v0 := (HJ2.out.fr0 (Fr0.trans HFW.out H24.out)).at_ 0 (v := .int .i64 i) rfl
          have v1 := (HJ2.out.fr0 (Fr0.trans HFW.out H24.out)).at_ 1 (v := .slice A l.length c) rfl
          go_upto_region 25 with (first
            | (go_at_call 27; refine (places27 (HB.out.fr HF24.out) (C_fr HR.out HF24.out) hc HP1.out).mono ?_; rintro e w25 ⟨A4, c4, rfl, hC4, hl4, hf25⟩; (have HC4 := Lib.hid hC4); (have HL4 := Lib.hid hl4); (have H25 := Lib.hid hf25); clear hC4 hl4 hf25))
          have HF25 := Lib.hid (Fr0.trans HF24.out H25.out)
          clear v0 v1
          go_wp2_with (first
            | (go_at_call 47; refine (within47 (C_fr HC3'.out H25.out) HL3.out HK3.out HC4.out HL4.out HS34.out).mono ?_; rintro e w26 ⟨rfl, hf26⟩; (have H26 := Lib.hid hf26); clear hf26)
            | (go_at_call 23; refine (marked23 (HB.out.glob.fr (Fr0.trans HF25.out H26.out))).mono ?_; rintro e w27 ⟨rfl, hf27⟩; (have H27 := Lib.hid hf27); clear hf27))
          refine bodyPost_ret (v := .bool true) (by simp [results, Tryd.results10, go_sem]) rfl ⟨rfl, ?_⟩
          exact Fr0.trans (Fr0.trans HF25.out H26.out) H27.out
    · have hpos : ¬ 0 < L1.length := fun h => hle (hal.1 h)
      obtain rfl : L1 = [] := List.length_eq_zero_iff.1 (by omega)
      have hna : ¬ a < 0 := by omega
      go_upto_region 11 with (first
        | (go_at_call 47; refine (within47 HCL4.out HLC.out HK1.out HCM4.out HMC.out HS12.out).mono ?_; rintro e w5 ⟨rfl, hf5⟩; (have H5 := Lib.hid hf5); (have v0 := hf5.cell0 v0); (have v1 := hf5.cell0 v1); clear hf5)
        | (go_at_call 39; refine (sound39 (HB.out.fr (Fr0.trans HF4.out H5.out))).mono ?_; rw [hb]; rintro e w6 ⟨rfl, hf6⟩; (have H6 := Lib.hid hf6); clear hf6))
      have HF6 := Lib.hid (Fr0.trans HF4.out (Fr0.trans H5.out H6.out))
      have HJ2 := Lib.hid (HI2.out.fr0 (Fr0.trans H5.out H6.out))
      have HJ3 := Lib.hid (HI3.out.fr0 (Fr0.trans H5.out H6.out))
      have HM6 := Lib.hid (C_fr HCM4.out (Fr0.trans H5.out H6.out))
      obtain ⟨hs, hsl, hsC, hsA⟩ := heads (C_fr HR.out HF6.out)
      have HSL := Lib.hid hsl
      have HSC := Lib.hid hsC
      have HSA := Lib.hid hsA
      clear hsl hsC hsA v0 v1
      have HLB := Lib.hid (below_alloc (Below.refl w6.heap.size w6) (.cells #[] 26))
      have HL0 := Lib.hid (own_lit0 w6)
      go_upto_region 12 with (first | ((with_reducible refine gate_builtin (b := .append) (xs := #[.tmp 113, .tmp 114]) rfl ?_); at_builtin; refine Kd.R_append_row hdV ⟨none, 0, 0⟩ (h1 := hdV_one) (w0 := w6) w6.heap.size rfl (.tmp 113) (.tmp 114) 39 26 (.slice none 0 0) 24 rfl Tryd.underlying39 inf_26 rfl (by decide) (.slice (some ⟨w6.heap.size, 0, none⟩) 0 0) [] hs Ap p.length cp (fun b => w6.heap.size ≤ b) rfl rfl ?aF ?aO ?aR ?aB ?aS ?aL ?_; (case aF => exact fun k hk => Nat.le_trans HLB.out.size hk); (case aO => exact HL0.out); (case aR => exact Kd.C_below HSC.out HLB.out); (case aB => exact HLB.out); (case aS => exact HLB.out.size); (case aL => have := HPO.out; simp only [List.length_nil]; omega); intro v14 w7 ho hb7 hg7 hat7))
      obtain ⟨b14, c14, rfl, hb14, hb14'⟩ := own_open (hs := hs) ho HSL.out HPO.out.1
      have HO14 := Lib.hid (show kH.R 26 w7 w6.heap.size (fun b => w6.heap.size ≤ b) (.slice (some ⟨b14, 0, none⟩) p.length c14) hs from ho)
      have HF7 := Lib.hid (show Fr0 w6 w7 from mk_fr hb7)
      have HB14 := Lib.hid (show w6.heap.size ≤ b14 ∧ b14 < w7.heap.size from ⟨hb14, hb14'⟩)
      have HF67 := Lib.hid (Fr0.trans HF6.out HF7.out)
      have HQ2 := Lib.hid (HJ2.out.fr0 HF7.out)
      have HQ3 := Lib.hid (HJ3.out.fr0 HF7.out)
      have HM7 := Lib.hid (C_fr HM6.out HF7.out)
      clear ho hb7 hg7 hat7 hb14 hb14'
      have u1 := HQ3.out.at_ 1 (v := .int .i64 n1) rfl
      have hmx : (if 1 < (p.length : Int) then (p.length : Int) else 1) = (p.length : Int) := by
        split
        · rfl
        · omega
      go_upto_region 13 with (first
        | (go_at_call 40; refine (turn40 n1 (p.length : Int) (by have := HPO.out; omega) (by have := HPO.out; omega) _).mono ?_; rw [HT2.out]; rintro e w8 ⟨rfl, hf8⟩; (have H8 := Lib.hid hf8); clear hf8))
      clear hmx
      have HF8 := Lib.hid (Fr0.trans HF67.out H8.out)
      have HR2 := Lib.hid (HQ2.out.fr0 H8.out)
      have HR3 := Lib.hid (HQ3.out.fr0 H8.out)
      have HM8 := Lib.hid (C_fr HM7.out H8.out)
      clear u1
      have v0 := HR2.out.at_ 0 (v := .int .i64 g) rfl
      have u2 := HR3.out.at_ 2 (v := .int .i64 n2) rfl
      have hnp : ¬ p = [] := fun h => by rw [h] at hp1; simp at hp1
      have hl0 : ((p.length : Int) == 0) = false := by rw [beq_eq_false_iff_ne]; omega
      have hl64 : ¬ (p.length : Int) > 64 := by omega
      have HTG := Lib.hid (fun W => turn40 n2 g (by have := HG.out; omega) (by have := HG.out; omega) W)
      go_upto_region 17 with (first
        | (go_at_call 40; refine (HTG.out _).mono ?_; rintro e w9 ⟨rfl, hf9⟩; (have H9 := Lib.hid hf9); clear hf9))
      have HF9 := Lib.hid (Fr0.trans HF8.out H9.out)
      have H79 := Lib.hid (Fr0.trans H8.out H9.out)
      have HS2 := Lib.hid (HR2.out.fr0 H9.out)
      have HM9 := Lib.hid (C_fr HM8.out H9.out)
      clear v0 u2 HTG
      obtain rfl : g = gn := HG.out
      generalize n2 % (gn : Int) = gong at *
      obtain ⟨adp, A2, c2, hA, x0, hlr, hCr⟩ := at_L1 (C_fr HR.out HF9.out) (k : Int) (by omega) (by omega)
      subst hA
      rw [show rd_L1 p (k : Int) = p.getD k [] by simp [rd_L1], Int.toNat_natCast] at x0
      rw [show rd_L1 p (k : Int) = p.getD k [] by simp [rd_L1]] at hlr hCr
      generalize p.getD k [] = r at *
      have HCR := Lib.hid hCr
      have hrl : r.length ≤ 9223372036854775807 := C_len hCr
      clear hCr
      go_wp2
      go_loopw [16, 18] (fun v16 v18 wr => ∃ i : Nat, i ≤ gn ∧ v18 = .int .i64 i ∧ Kd.R (Kd.int .i64) 3 wr w9.heap.size (fun b => w9.heap.size ≤ b) v16 (moreR r gong i) ∧ Below w9.heap.size w9 wr) (fun _ v18 _ => (gn - intOf v18).toNat)
      case atStart => exact ⟨0, by omega, by rfl, Kd.R_nil _ _ _ _ _, Below.refl _ _⟩
      case round =>
        obtain ⟨i, hi, rfl, hR, hbi⟩ := hrel
        have hfi : Fr0 w9 wr := Go.Proofs.YtephecfapclgfaaDoor.X.Fr.of_below hbi
        have hs2 := HS2.out.fr0 hfi
        have v0 := hs2.at_ 0 (v := .int .i64 gn) rfl
        have xi := hfi.cell0 x0
        have HYL := Lib.hid (moreR_len r gong i)
        have HYY := Lib.hid (fun h => moreR_yes (r := r) (gong := gong) (n := i) h)
        have HYN := Lib.hid (fun h => moreR_no (r := r) (gong := gong) (n := i) h)
        by_cases hlt : i < gn
        · have hle : (i : Int) < gn := by omega
          have HR16 := Lib.hid hR
          have HBI := Lib.hid hbi
          have HFI := Lib.hid hfi
          generalize moreR r gong i = ys at *
          clear hR hbi hs2 hfi
          by_cases hgo : (i : Int) = gong
          · have hge : ((i : Int) == gong) = true := by simpa using hgo
            have HGO := Lib.hid hgo
            clear hgo
            go_wp2_with (first | ((with_reducible refine gate_builtin (b := .append) (xs := #[.tmp 153, .tmp 155]) rfl ?_); at_builtin; refine Kd.R_append (Kd.int .i64) (w0 := w9) w9.heap.size rfl (.tmp 153) (.tmp 155) 26 3 (.int .i64 0) 8 rfl Tryd.underlying26 inf_3 rfl (by decide) (by omega) _ ys (i : Int) [.int .i64 (i : Int)] (fun b => w9.heap.size ≤ b) (fun _ => False) rfl rfl ?aP (fun _ hk => hk.elim) ?aF ?aO ?aB ?aS ?aL ?_; (case aP => exact rfl); (case aB => exact HBI.out); (case aF => exact (fun k hk => Nat.le_trans HBI.out.size hk)); (case aO => exact HR16.out); (case aS => exact HBI.out.size); (case aL => have := HYL.out; omega); intro v104 w6' ho hb hg hat))
            go_roundw
            case rel => exact ⟨i + 1, by omega, by go_num, by rw [HYY.out (by simp [HGO.out])]; exact ho, hb⟩
            case measure => simp [intOf]; omega
          · have hge : ((i : Int) == gong) = false := by simpa using hgo
            have HGO := Lib.hid hgo
            have HWH := Lib.hid (wh_iff (i : Int) r 0 (by omega))
            clear hgo
            generalize hz : wh (i : Int) 0 r = z at *
            have HZ := Lib.hid hz
            clear hz
            by_cases hzz : z ≥ 0
            · have HFT := Lib.hid (HWH.out.1 hzz)
              go_wp2_with (first
                | (go_at_call 42; refine (where42 (C_fr HCR.out HFI.out) hlr (i : Int)).mono ?_; rw [HZ.out]; rintro e w20 ⟨rfl, hf20⟩; (have HB20 := Lib.hid (HBI.out.trans ((fr_below hf20).mono HBI.out.size))); (have HR20 := Lib.hid (Kd.R_below HR16.out (fr_below hf20))); clear hf20)
                | ((with_reducible refine gate_builtin (b := .append) (xs := #[.tmp 153, .tmp 155]) rfl ?_); at_builtin; refine Kd.R_append (Kd.int .i64) (w0 := w9) w9.heap.size rfl (.tmp 153) (.tmp 155) 26 3 (.int .i64 0) 8 rfl Tryd.underlying26 inf_3 rfl (by decide) (by omega) _ ys (i : Int) [.int .i64 (i : Int)] (fun b => w9.heap.size ≤ b) (fun _ => False) rfl rfl ?aP (fun _ hk => hk.elim) ?aF ?aO ?aB ?aS ?aL ?_; (case aP => exact rfl); (case aB => exact HB20.out); (case aF => exact (fun k hk => Nat.le_trans HB20.out.size hk)); (case aO => exact HR20.out); (case aS => exact HB20.out.size); (case aL => have := HYL.out; omega); intro v104 w6' ho hb hg hat))
              go_roundw
              case rel => exact ⟨i + 1, by omega, by go_num, by rw [HYY.out (by rw [HFT.out, Bool.or_true])]; exact ho, hb⟩
              case measure => simp [intOf]; omega
            · have HFT := Lib.hid (show ¬ r.contains (i : Int) = true from fun h => hzz (HWH.out.2 h))
              go_wp2_with (first
                | (go_at_call 42; refine (where42 (C_fr HCR.out HFI.out) hlr (i : Int)).mono ?_; rw [HZ.out]; rintro e w20 ⟨rfl, hf20⟩; (have HB20 := Lib.hid (HBI.out.trans ((fr_below hf20).mono HBI.out.size))); (have HR20 := Lib.hid (Kd.R_below HR16.out (fr_below hf20))); clear hf20))
              go_roundw
              case rel => exact ⟨i + 1, by omega, by go_num, by rw [HYN.out (by rw [Bool.or_eq_true, decide_eq_true_eq]; exact fun h => h.elim HGO.out HFT.out)]; exact HR20.out, HB20.out⟩
              case measure => simp [intOf]; omega
        · obtain rfl : i = gn := by omega
          have hle' : ¬ ((i : Int) < i) := by omega
          obtain ⟨A16, c16, rfl, hcl, -⟩ := Kd.R_reads hR
          have hor := Kd.R_below HO14.out ((fr_below H79.out).trans (hbi.mono H79.out.size))
          have hcel := Kd.R_celln (⟨none, 0, 0⟩ : Hd) hor (k : Int) (by omega) (by omega)
          rw [Int.toNat_natCast] at hcel
          obtain ⟨q0, q1⟩ := hcel
          generalize hdV (rdOf (⟨none, 0, 0⟩ : Hd) hs (k : Int)) = ov at q0
          have hf69 : Fr0 w6 wr := Fr0.trans HF7.out (Fr0.trans H79.out hfi)
          have hput := Kd.R_putn hor (k : Int) (⟨A16, (moreR r gong i).length, c16⟩ : Hd)
          rw [Int.toNat_natCast] at hput
          change kH.R 26 (wr.setCell ⟨b14, k, none⟩ (.slice A16 (moreR r gong i).length c16)) w6.heap.size (fun b => w6.heap.size ≤ b) (.slice (some ⟨b14, 0, none⟩) p.length c14) (hs.set k (⟨A16, (moreR r gong i).length, c16⟩ : Hd)) at hput
          have hrow := Kd.R_step (w1 := wr.setCell ⟨b14, k, none⟩ (.slice A16 (moreR r gong i).length c16)) hR (fun b hb hlt => ((Go.Proofs.YtephecfapclgfaaDoor.X.Fr.refl (fun x => x = b14) wr).setCell (p := ⟨b14, k, none⟩) (.inl rfl) _).block b hlt (fun e => by have h1 : w9.heap.size ≤ b := hb; have h2 := HB14.out.2; have h3 := H79.out.size; omega))
          have hfW : Fr0 w6 (wr.setCell ⟨b14, k, none⟩ (.slice A16 (moreR r gong i).length c16)) := hf69.setCell (p := ⟨b14, k, none⟩) (.inr (by dsimp only; exact HB14.out.1)) _
          have hpr := Kd.R_reads' hput
          have hl1 : p.length = (hs.set k (⟨A16, (moreR r gong i).length, c16⟩ : Hd)).length := by rw [List.length_set]; exact HSL.out.symm
          have hCm := hpr.2.2
          rw [← hl1] at hCm
          have HCM2 := Lib.hid (set_heads (row := moreR r gong i) (fr_below hfW) hCm HSL.out HSA.out rfl hcl (Kd.R_reads' hrow).2.2)
          have hc14 := hpr.2.1
          have h96 : Fr0 w9 wr := hfi
          have HT2' := Lib.hid (HS2.out.fr0 h96)
          have HM24 := Lib.hid (C_fr HM6.out hfW)
          have HFW := Lib.hid hfW
          have hHS := HJ2.out.fr0 hfW
          have v0 := hHS.at_ 0 (v := .int .i64 i) rfl
          have v1 := hHS.at_ 1 (v := .slice A l.length c) rfl
          generalize hrow' : moreR r gong i = row at *
          clear hrow' hput hpr hCm hrow hf69 hfW hor hR hs2 hHS hbi hl1
          go_upto_region 23 with fail
          generalize hWS : World.setCell wr _ _ = WS at *
          clear hWS q0 q1 xi x0 v0 v1
          have v0 := (HJ2.out.fr0 HFW.out).at_ 0 (v := .int .i64 i) rfl
          have v1 := (HJ2.out.fr0 HFW.out).at_ 1 (v := .slice A l.length c) rfl
          go_upto_region 24 with (first
            | (go_at_call 27; refine (places27n (HB.out.fr (Fr0.trans HF6.out HFW.out)) HCM2.out (List.length_set ..) hc14 HP3.out).mono ?_; rintro e w24 ⟨A3, c3, rfl, hC3, hl3, hf24⟩; (have HC3' := Lib.hid hC3); (have HL3 := Lib.hid hl3); (have H24 := Lib.hid hf24); clear hC3 hl3 hf24))
          have HF24 := Lib.hid (Fr0.trans HF6.out (Fr0.trans HFW.out H24.out))
          clear v0 v1
          have v0 := (HJ2.out.fr0 (Fr0.trans HFW.out H24.out)).at_ 0 (v := .int .i64 i) rfl
          have v1 := (HJ2.out.fr0 (Fr0.trans HFW.out H24.out)).at_ 1 (v := .slice A l.length c) rfl
          go_upto_region 25 with (first
            | (go_at_call 27; refine (places27 (HB.out.fr HF24.out) (C_fr HR.out HF24.out) hc HP1.out).mono ?_; rintro e w25 ⟨A4, c4, rfl, hC4, hl4, hf25⟩; (have HC4 := Lib.hid hC4); (have HL4 := Lib.hid hl4); (have H25 := Lib.hid hf25); clear hC4 hl4 hf25))
          have HF25 := Lib.hid (Fr0.trans HF24.out H25.out)
          clear v0 v1
          go_wp2_with (first
            | (go_at_call 47; refine (within47 (C_fr HC3'.out H25.out) HL3.out HK3.out HC4.out HL4.out HS34.out).mono ?_; rintro e w26 ⟨rfl, hf26⟩; (have H26 := Lib.hid hf26); clear hf26)
            | (go_at_call 23; refine (marked23 (HB.out.glob.fr (Fr0.trans HF25.out H26.out))).mono ?_; rintro e w27 ⟨rfl, hf27⟩; (have H27 := Lib.hid hf27); clear hf27))
          refine bodyPost_ret (v := .bool true) (by simp [results, Tryd.results10, go_sem]) rfl ⟨rfl, ?_⟩
          exact Fr0.trans (Fr0.trans HF25.out H26.out) H27.out
  · obtain rfl : L1 = [] := by
      cases L1 with
      | nil => rfl
      | cons s t => exact absurd (HS12.out s List.mem_cons_self) (by simp)
    go_upto_region 11 with (first
      | (go_at_call 47; refine (within47 HCL4.out HLC.out HK1.out HCM4.out HMC.out HS12.out).mono ?_; rintro e w5 ⟨rfl, hf5⟩; (have H5 := Lib.hid hf5); (have v0 := hf5.cell0 v0); (have v1 := hf5.cell0 v1); clear hf5)
      | (go_at_call 39; refine (sound39 (HB.out.fr (Fr0.trans HF4.out H5.out))).mono ?_; rw [hb]; rintro e w6 ⟨rfl, hf6⟩; (have H6 := Lib.hid hf6); clear hf6))
    have HF6 := Lib.hid (Fr0.trans HF4.out (Fr0.trans H5.out H6.out))
    have HJ2 := Lib.hid (HI2.out.fr0 (Fr0.trans H5.out H6.out))
    have HJ3 := Lib.hid (HI3.out.fr0 (Fr0.trans H5.out H6.out))
    have HM6 := Lib.hid (C_fr HCM4.out (Fr0.trans H5.out H6.out))
    obtain ⟨hs, hsl, hsC, hsA⟩ := heads (C_fr HR.out HF6.out)
    have HSL := Lib.hid hsl
    have HSC := Lib.hid hsC
    have HSA := Lib.hid hsA
    clear hsl hsC hsA v0 v1
    have HLB := Lib.hid (below_alloc (Below.refl w6.heap.size w6) (.cells #[] 26))
    have HL0 := Lib.hid (own_lit0 w6)
    go_upto_region 12 with (first | ((with_reducible refine gate_builtin (b := .append) (xs := #[.tmp 113, .tmp 114]) rfl ?_); at_builtin; refine Kd.R_append_row hdV ⟨none, 0, 0⟩ (h1 := hdV_one) (w0 := w6) w6.heap.size rfl (.tmp 113) (.tmp 114) 39 26 (.slice none 0 0) 24 rfl Tryd.underlying39 inf_26 rfl (by decide) (.slice (some ⟨w6.heap.size, 0, none⟩) 0 0) [] hs Ap p.length cp (fun b => w6.heap.size ≤ b) rfl rfl ?aF ?aO ?aR ?aB ?aS ?aL ?_; (case aF => exact fun k hk => Nat.le_trans HLB.out.size hk); (case aO => exact HL0.out); (case aR => exact Kd.C_below HSC.out HLB.out); (case aB => exact HLB.out); (case aS => exact HLB.out.size); (case aL => have := HPO.out; simp only [List.length_nil]; omega); intro v14 w7 ho hb7 hg7 hat7))
    obtain ⟨b14, c14, rfl, hb14, hb14'⟩ := own_open (hs := hs) ho HSL.out HPO.out.1
    have HO14 := Lib.hid (show kH.R 26 w7 w6.heap.size (fun b => w6.heap.size ≤ b) (.slice (some ⟨b14, 0, none⟩) p.length c14) hs from ho)
    have HF7 := Lib.hid (show Fr0 w6 w7 from mk_fr hb7)
    have HB14 := Lib.hid (show w6.heap.size ≤ b14 ∧ b14 < w7.heap.size from ⟨hb14, hb14'⟩)
    have HF67 := Lib.hid (Fr0.trans HF6.out HF7.out)
    have HQ2 := Lib.hid (HJ2.out.fr0 HF7.out)
    have HQ3 := Lib.hid (HJ3.out.fr0 HF7.out)
    have HM7 := Lib.hid (C_fr HM6.out HF7.out)
    clear ho hb7 hg7 hat7 hb14 hb14'
    have u1 := HQ3.out.at_ 1 (v := .int .i64 n1) rfl
    have hmx : (if 1 < (p.length : Int) then (p.length : Int) else 1) = (p.length : Int) := by
      split
      · rfl
      · omega
    go_upto_region 13 with (first
      | (go_at_call 40; refine (turn40 n1 (p.length : Int) (by have := HPO.out; omega) (by have := HPO.out; omega) _).mono ?_; rw [HT2.out]; rintro e w8 ⟨rfl, hf8⟩; (have H8 := Lib.hid hf8); clear hf8))
    clear hmx
    have HF8 := Lib.hid (Fr0.trans HF67.out H8.out)
    have HR2 := Lib.hid (HQ2.out.fr0 H8.out)
    have HR3 := Lib.hid (HQ3.out.fr0 H8.out)
    have HM8 := Lib.hid (C_fr HM7.out H8.out)
    clear u1
    have v0 := HR2.out.at_ 0 (v := .int .i64 g) rfl
    have u2 := HR3.out.at_ 2 (v := .int .i64 n2) rfl
    have hnp : ¬ p = [] := fun h => by rw [h] at hp1; simp at hp1
    have hl0 : ((p.length : Int) == 0) = false := by rw [beq_eq_false_iff_ne]; omega
    have hl64 : ¬ (p.length : Int) > 64 := by omega
    have HTG := Lib.hid (fun W => turn40 n2 g (by have := HG.out; omega) (by have := HG.out; omega) W)
    go_upto_region 17 with (first
      | (go_at_call 40; refine (HTG.out _).mono ?_; rintro e w9 ⟨rfl, hf9⟩; (have H9 := Lib.hid hf9); clear hf9))
    have HF9 := Lib.hid (Fr0.trans HF8.out H9.out)
    have H79 := Lib.hid (Fr0.trans H8.out H9.out)
    have HS2 := Lib.hid (HR2.out.fr0 H9.out)
    have HM9 := Lib.hid (C_fr HM8.out H9.out)
    clear v0 u2 HTG
    obtain rfl : g = gn := HG.out
    generalize n2 % (gn : Int) = gong at *
    obtain ⟨adp, A2, c2, hA, x0, hlr, hCr⟩ := at_L1 (C_fr HR.out HF9.out) (k : Int) (by omega) (by omega)
    subst hA
    rw [show rd_L1 p (k : Int) = p.getD k [] by simp [rd_L1], Int.toNat_natCast] at x0
    rw [show rd_L1 p (k : Int) = p.getD k [] by simp [rd_L1]] at hlr hCr
    generalize p.getD k [] = r at *
    have HCR := Lib.hid hCr
    have hrl : r.length ≤ 9223372036854775807 := C_len hCr
    clear hCr
    go_wp2
    go_loopw [16, 18] (fun v16 v18 wr => ∃ i : Nat, i ≤ gn ∧ v18 = .int .i64 i ∧ Kd.R (Kd.int .i64) 3 wr w9.heap.size (fun b => w9.heap.size ≤ b) v16 (moreR r gong i) ∧ Below w9.heap.size w9 wr) (fun _ v18 _ => (gn - intOf v18).toNat)
    case atStart => exact ⟨0, by omega, by rfl, Kd.R_nil _ _ _ _ _, Below.refl _ _⟩
    case round =>
      obtain ⟨i, hi, rfl, hR, hbi⟩ := hrel
      have hfi : Fr0 w9 wr := Go.Proofs.YtephecfapclgfaaDoor.X.Fr.of_below hbi
      have hs2 := HS2.out.fr0 hfi
      have v0 := hs2.at_ 0 (v := .int .i64 gn) rfl
      have xi := hfi.cell0 x0
      have HYL := Lib.hid (moreR_len r gong i)
      have HYY := Lib.hid (fun h => moreR_yes (r := r) (gong := gong) (n := i) h)
      have HYN := Lib.hid (fun h => moreR_no (r := r) (gong := gong) (n := i) h)
      by_cases hlt : i < gn
      · have hle : (i : Int) < gn := by omega
        have HR16 := Lib.hid hR
        have HBI := Lib.hid hbi
        have HFI := Lib.hid hfi
        generalize moreR r gong i = ys at *
        clear hR hbi hs2 hfi
        by_cases hgo : (i : Int) = gong
        · have hge : ((i : Int) == gong) = true := by simpa using hgo
          have HGO := Lib.hid hgo
          clear hgo
          go_wp2_with (first | ((with_reducible refine gate_builtin (b := .append) (xs := #[.tmp 153, .tmp 155]) rfl ?_); at_builtin; refine Kd.R_append (Kd.int .i64) (w0 := w9) w9.heap.size rfl (.tmp 153) (.tmp 155) 26 3 (.int .i64 0) 8 rfl Tryd.underlying26 inf_3 rfl (by decide) (by omega) _ ys (i : Int) [.int .i64 (i : Int)] (fun b => w9.heap.size ≤ b) (fun _ => False) rfl rfl ?aP (fun _ hk => hk.elim) ?aF ?aO ?aB ?aS ?aL ?_; (case aP => exact rfl); (case aB => exact HBI.out); (case aF => exact (fun k hk => Nat.le_trans HBI.out.size hk)); (case aO => exact HR16.out); (case aS => exact HBI.out.size); (case aL => have := HYL.out; omega); intro v104 w6' ho hb hg hat))
          go_roundw
          case rel => exact ⟨i + 1, by omega, by go_num, by rw [HYY.out (by simp [HGO.out])]; exact ho, hb⟩
          case measure => simp [intOf]; omega
        · have hge : ((i : Int) == gong) = false := by simpa using hgo
          have HGO := Lib.hid hgo
          have HWH := Lib.hid (wh_iff (i : Int) r 0 (by omega))
          clear hgo
          generalize hz : wh (i : Int) 0 r = z at *
          have HZ := Lib.hid hz
          clear hz
          by_cases hzz : z ≥ 0
          · have HFT := Lib.hid (HWH.out.1 hzz)
            go_wp2_with (first
              | (go_at_call 42; refine (where42 (C_fr HCR.out HFI.out) hlr (i : Int)).mono ?_; rw [HZ.out]; rintro e w20 ⟨rfl, hf20⟩; (have HB20 := Lib.hid (HBI.out.trans ((fr_below hf20).mono HBI.out.size))); (have HR20 := Lib.hid (Kd.R_below HR16.out (fr_below hf20))); clear hf20)
              | ((with_reducible refine gate_builtin (b := .append) (xs := #[.tmp 153, .tmp 155]) rfl ?_); at_builtin; refine Kd.R_append (Kd.int .i64) (w0 := w9) w9.heap.size rfl (.tmp 153) (.tmp 155) 26 3 (.int .i64 0) 8 rfl Tryd.underlying26 inf_3 rfl (by decide) (by omega) _ ys (i : Int) [.int .i64 (i : Int)] (fun b => w9.heap.size ≤ b) (fun _ => False) rfl rfl ?aP (fun _ hk => hk.elim) ?aF ?aO ?aB ?aS ?aL ?_; (case aP => exact rfl); (case aB => exact HB20.out); (case aF => exact (fun k hk => Nat.le_trans HB20.out.size hk)); (case aO => exact HR20.out); (case aS => exact HB20.out.size); (case aL => have := HYL.out; omega); intro v104 w6' ho hb hg hat))
            go_roundw
            case rel => exact ⟨i + 1, by omega, by go_num, by rw [HYY.out (by rw [HFT.out, Bool.or_true])]; exact ho, hb⟩
            case measure => simp [intOf]; omega
          · have HFT := Lib.hid (show ¬ r.contains (i : Int) = true from fun h => hzz (HWH.out.2 h))
            go_wp2_with (first
              | (go_at_call 42; refine (where42 (C_fr HCR.out HFI.out) hlr (i : Int)).mono ?_; rw [HZ.out]; rintro e w20 ⟨rfl, hf20⟩; (have HB20 := Lib.hid (HBI.out.trans ((fr_below hf20).mono HBI.out.size))); (have HR20 := Lib.hid (Kd.R_below HR16.out (fr_below hf20))); clear hf20))
            go_roundw
            case rel => exact ⟨i + 1, by omega, by go_num, by rw [HYN.out (by rw [Bool.or_eq_true, decide_eq_true_eq]; exact fun h => h.elim HGO.out HFT.out)]; exact HR20.out, HB20.out⟩
            case measure => simp [intOf]; omega
      · obtain rfl : i = gn := by omega
        have hle' : ¬ ((i : Int) < i) := by omega
        obtain ⟨A16, c16, rfl, hcl, -⟩ := Kd.R_reads hR
        have hor := Kd.R_below HO14.out ((fr_below H79.out).trans (hbi.mono H79.out.size))
        have hcel := Kd.R_celln (⟨none, 0, 0⟩ : Hd) hor (k : Int) (by omega) (by omega)
        rw [Int.toNat_natCast] at hcel
        obtain ⟨q0, q1⟩ := hcel
        generalize hdV (rdOf (⟨none, 0, 0⟩ : Hd) hs (k : Int)) = ov at q0
        have hf69 : Fr0 w6 wr := Fr0.trans HF7.out (Fr0.trans H79.out hfi)
        have hput := Kd.R_putn hor (k : Int) (⟨A16, (moreR r gong i).length, c16⟩ : Hd)
        rw [Int.toNat_natCast] at hput
        change kH.R 26 (wr.setCell ⟨b14, k, none⟩ (.slice A16 (moreR r gong i).length c16)) w6.heap.size (fun b => w6.heap.size ≤ b) (.slice (some ⟨b14, 0, none⟩) p.length c14) (hs.set k (⟨A16, (moreR r gong i).length, c16⟩ : Hd)) at hput
        have hrow := Kd.R_step (w1 := wr.setCell ⟨b14, k, none⟩ (.slice A16 (moreR r gong i).length c16)) hR (fun b hb hlt => ((Go.Proofs.YtephecfapclgfaaDoor.X.Fr.refl (fun x => x = b14) wr).setCell (p := ⟨b14, k, none⟩) (.inl rfl) _).block b hlt (fun e => by have h1 : w9.heap.size ≤ b := hb; have h2 := HB14.out.2; have h3 := H79.out.size; omega))
        have hfW : Fr0 w6 (wr.setCell ⟨b14, k, none⟩ (.slice A16 (moreR r gong i).length c16)) := hf69.setCell (p := ⟨b14, k, none⟩) (.inr (by dsimp only; exact HB14.out.1)) _
        have hpr := Kd.R_reads' hput
        have hl1 : p.length = (hs.set k (⟨A16, (moreR r gong i).length, c16⟩ : Hd)).length := by rw [List.length_set]; exact HSL.out.symm
        have hCm := hpr.2.2
        rw [← hl1] at hCm
        have HCM2 := Lib.hid (set_heads (row := moreR r gong i) (fr_below hfW) hCm HSL.out HSA.out rfl hcl (Kd.R_reads' hrow).2.2)
        have hc14 := hpr.2.1
        have h96 : Fr0 w9 wr := hfi
        have HT2' := Lib.hid (HS2.out.fr0 h96)
        have HM24 := Lib.hid (C_fr HM6.out hfW)
        have HFW := Lib.hid hfW
        have hHS := HJ2.out.fr0 hfW
        have v0 := hHS.at_ 0 (v := .int .i64 i) rfl
        have v1 := hHS.at_ 1 (v := .slice A l.length c) rfl
        generalize hrow' : moreR r gong i = row at *
        clear hrow' hput hpr hCm hrow hf69 hfW hor hR hs2 hHS hbi hl1
        go_upto_region 23 with fail
        generalize hWS : World.setCell wr _ _ = WS at *
        clear hWS q0 q1 xi x0 v0 v1
        have v0 := (HJ2.out.fr0 HFW.out).at_ 0 (v := .int .i64 i) rfl
        have v1 := (HJ2.out.fr0 HFW.out).at_ 1 (v := .slice A l.length c) rfl
        go_upto_region 24 with (first
          | (go_at_call 27; refine (places27n (HB.out.fr (Fr0.trans HF6.out HFW.out)) HCM2.out (List.length_set ..) hc14 HP3.out).mono ?_; rintro e w24 ⟨A3, c3, rfl, hC3, hl3, hf24⟩; (have HC3' := Lib.hid hC3); (have HL3 := Lib.hid hl3); (have H24 := Lib.hid hf24); clear hC3 hl3 hf24))
        have HF24 := Lib.hid (Fr0.trans HF6.out (Fr0.trans HFW.out H24.out))
        clear v0 v1
        have v0 := (HJ2.out.fr0 (Fr0.trans HFW.out H24.out)).at_ 0 (v := .int .i64 i) rfl
        have v1 := (HJ2.out.fr0 (Fr0.trans HFW.out H24.out)).at_ 1 (v := .slice A l.length c) rfl
        go_upto_region 25 with (first
          | (go_at_call 27; refine (places27 (HB.out.fr HF24.out) (C_fr HR.out HF24.out) hc HP1.out).mono ?_; rintro e w25 ⟨A4, c4, rfl, hC4, hl4, hf25⟩; (have HC4 := Lib.hid hC4); (have HL4 := Lib.hid hl4); (have H25 := Lib.hid hf25); clear hC4 hl4 hf25))
        have HF25 := Lib.hid (Fr0.trans HF24.out H25.out)
        clear v0 v1
        go_wp2_with (first
          | (go_at_call 47; refine (within47 (C_fr HC3'.out H25.out) HL3.out HK3.out HC4.out HL4.out HS34.out).mono ?_; rintro e w26 ⟨rfl, hf26⟩; (have H26 := Lib.hid hf26); clear hf26)
          | (go_at_call 23; refine (marked23 (HB.out.glob.fr (Fr0.trans HF25.out H26.out))).mono ?_; rintro e w27 ⟨rfl, hf27⟩; (have H27 := Lib.hid hf27); clear hf27))
        refine bodyPost_ret (v := .bool true) (by simp [results, Tryd.results10, go_sem]) rfl ⟨rfl, ?_⟩
        exact Fr0.trans (Fr0.trans HF25.out H26.out) H27.out

end Go.Proofs.YtephecfapclgfaaDoor.R
