import Derived.Test.YtephecfapclgfaaDoorG7
import Derived.Test.YtephecfapclgfaaDoorQE
set_option linter.unusedVariables false
set_option linter.unusedSimpArgs false
namespace Go.Proofs.YtephecfapclgfaaDoor.Q
open Go.RowKit PRaspKeys R Go.Proofs.YtephecfapclgfaaDoorW.PrintWords

/-! ### What a passage lacks, by number -/
theorem gr_pw {b : Int} : ∀ (r : List Int) (last : Int), gr b last r = true → r.Pairwise (· < ·)
  | [], _, _ => List.Pairwise.nil
  | x :: xs, last, h => by
    unfold gr at h
    rw [Bool.and_eq_true] at h
    exact List.pairwise_cons.2 ⟨fun y hy => (gr_in xs x h.2 y hy).1, gr_pw xs x h.2⟩
/-- What is left out of a row, by number. -/
theorem left_out : ∀ (r h : List Int), r.Pairwise (· < ·) → h.Pairwise (· < ·) → (∀ x ∈ h, x ∈ r) → (r.filter (fun x => !h.contains x)).length + h.length = r.length
  | [], h, hr, hh, hs => by
    match h, hs with
    | [], _ => rfl
    | y :: ys, hs => exact absurd (hs y List.mem_cons_self) (by simp)
  | x :: xs, [], hr, hh, hs => by
    have e : (x :: xs).filter (fun z => !([] : List Int).contains z) = x :: xs := List.filter_eq_self.2 (fun y _ => rfl)
    rw [e]
    rfl
  | x :: xs, y :: ys, hr, hh, hs => by
    have hr' := List.pairwise_cons.1 hr
    have hh' := List.pairwise_cons.1 hh
    by_cases e : y = x
    · subst e
      have hc : ∀ z ∈ xs, (!(y :: ys).contains z) = (!ys.contains z) := fun z hz => by
        have hne : ¬ z = y := fun e => by have := hr'.1 z hz; omega
        congr 1
        rw [Bool.eq_iff_iff]
        simp [hne]
      rw [List.filter_cons_of_neg (by simp), List.filter_congr hc, List.length_cons, List.length_cons]
      have := left_out xs ys hr'.2 hh'.2 (fun z hz => by
        rcases List.mem_cons.1 (hs z (List.mem_cons_of_mem _ hz)) with e | e
        · have := hh'.1 z hz; omega
        · exact e)
      omega
    · have hyx : x < y := by
        rcases List.mem_cons.1 (hs y List.mem_cons_self) with e' | e'
        · exact absurd e' e
        · exact hr'.1 y e'
      have hge : ∀ z ∈ y :: ys, x < z := fun z hz => by
        rcases List.mem_cons.1 hz with e' | e'
        · omega
        · have := hh'.1 z e'; omega
      have hxn : (!(y :: ys).contains x) = true := by
        rw [Bool.not_eq_true', ← Bool.not_eq_true]
        intro hc
        have hm : x ∈ y :: ys := by simpa using hc
        have := hge x hm
        omega
      rw [List.filter_cons_of_pos (p := fun z => !(y :: ys).contains z) hxn]
      have := left_out xs (y :: ys) hr'.2 hh (fun z hz => by
        rcases List.mem_cons.1 (hs z hz) with e' | e'
        · have := hge z hz; omega
        · exact e')
      simp only [List.length_cons] at this ⊢
      omega
section
variable {g : Int} {l : List S63}
/-- How many strokes are missing, row by row. -/
def missN (l : List S63) (s0 s1 : Int) (p : List (List Int)) : Nat → Int
  | 0 => 0
  | k + 1 => missN l s0 s1 p k + (((lst (passH l s0 s1 k) 5).length : Int) - ((p.getD k []).length : Int))
theorem fitK_has (hb : bookOk g l = true) {p : List (List Int)} (hh : heardB g p = true) (s0 s1 : Int) (k : Nat) : (p.getD k []).all (fun x => (lst (passH l s0 s1 k) 5).contains x) = fitK l s0 s1 p k := by
  obtain ⟨_, _, _, q4⟩ := heard_rows hb hh
  have hg := gong_of hb
  unfold fitK pRow
  rw [Bool.eq_iff_iff, List.all_eq_true, List.all_eq_true]
  refine forall_congr' fun x => forall_congr' fun hx => ?_
  have hi := q4 k x hx
  have hl := lst_has (passH l s0 s1 k) 5 x.toNat
  rw [Int.toNat_of_nonneg hi.1] at hl
  rw [hl, show decide (x.toNat < 5) = true from decide_eq_true (by omega), Bool.true_and]
theorem miss_lost (hb : bookOk g l = true) {p : List (List Int)} (hh : heardB g p = true) (s0 s1 : Int) (h0 : 0 ≤ s0) (h1 : s0 < l.length) : ∀ k, k ≤ p.length → fitN l s0 s1 p k = true → ((lostN l s0 s1 p k).length : Int) = missN l s0 s1 p k
  | 0, _, _ => rfl
  | k + 1, hk, hf => by
    unfold fitN at hf
    rw [Bool.and_eq_true] at hf
    have ih := miss_lost hb hh s0 s1 h0 h1 k (by omega) hf.1
    have hf2 := hf.2
    rw [← fitK_has hb hh, List.all_eq_true] at hf2
    have hgr : gr g (-1) (p.getD k []) = true := by
      unfold heardB at hh
      simp only [Bool.and_eq_true, List.all_eq_true] at hh
      rw [getD_lt _ (show k < p.length by omega)]
      exact hh.2 _ (List.getElem_mem _)
    have := left_out (lst (passH l s0 s1 k) 5) (p.getD k []) (gr_pw _ _ (pass_gr hb s0 s1 h0 h1 k)) (gr_pw _ _ hgr) (fun x hx => by simpa using hf2 x hx)
    unfold lostN missN lostK pRow
    rw [List.length_append, List.length_map, ← lst_filter]
    omega
theorem missN_bnd (hb : bookOk g l = true) {p : List (List Int)} (hh : heardB g p = true) (s0 s1 : Int) : ∀ k : Nat, -(5 * (k : Int)) ≤ missN l s0 s1 p k ∧ missN l s0 s1 p k ≤ 5 * k
  | 0 => by unfold missN; omega
  | k + 1 => by
    have := missN_bnd hb hh s0 s1 k
    have h5 := lst_len (passH l s0 s1 k) 5
    have q3 := (heard_rows hb hh).2.2.1 k
    unfold missN
    omega
end
end Go.Proofs.YtephecfapclgfaaDoor.Q
namespace Go.Proofs.YtephecfapclgfaaDoor.R
open Go.RowKit Go.Shelf Go.Proofs.YtephecfapclgfaaDoorW.PrintWords Go.Proofs.YtephecfapclgfaaDoorW.PrintLast Go.Proofs.YtephecfapclgfaaDoorW.PrintMore Go.Proofs.YtephecfapclgfaaDoor.PRaspKeys Go.Proofs.YtephecfapclgfaaDoor.X Go.Proofs.YtephecfapclgfaaDoor.Q
attribute [local go_sem] Oper.semAt_some
attribute [local go_sem high] eqA38 eqA97

/-! ### What the laws' helpers tell -/
theorem small_of {w : World} {A : Option Addr} {c : Nat} {l : List S63} (hB : Book w A c l) : Small l := ⟨C_len hB.r, C63_len hB.r⟩
theorem turn40 (a b : Int) (h1 : 1 ≤ b) (h2 : b ≤ 1000000) (w : World) : Calls Tryd.prog 40 #[.int .i64 a, .int .i64 b] w fun e w' => e = .returned (.int .i64 (a % b)) ∧ Fr0 w w' :=
  (saronref00_Turn.calls a b _ w (turn_f a b h1 (by omega))).mono fun e w' h => ⟨h.1, mk_dr h.2⟩
theorem sound39 {w : World} {g : Int} {A : Option Addr} {c : Nat} {l : List S63} (hB : Book w A c l) : Calls Tryd.prog 39 #[.agg #[.int .i64 g, .slice A l.length c]] w fun e w' => e = .returned (.bool (bookOk g l)) ∧ Fr0 w w' := by
  obtain ⟨K, hK⟩ := sound_f (g := g) (small_of hB)
  exact (saronlaw05_sound.calls K g A c l _ w hB.r hB.c (hK K (Nat.le_refl _))).mono fun e w' h => ⟨h.1, Go.Proofs.YtephecfapclgfaaDoor.X.Fr.of_below h.2⟩
theorem where42 {w : World} {A : Option Addr} {c : Nat} {r : List Int} (hr : Kd.C (Kd.int .i64) w A r.length r) (hc : r.length ≤ c) (x : Int) : Calls Tryd.prog 42 #[.slice A r.length c, .int .i64 x] w fun e w' => e = .returned (.int .i64 (wh x 0 r)) ∧ Fr0 w w' := by
  obtain ⟨K, hK⟩ := where_f r x (C_len hr)
  exact (saronref00_Where.calls K A c r x _ w hr hc (hK K (Nat.le_refl _))).mono fun e w' h => ⟨h.1, mk_dr h.2⟩
theorem marked23 {w : World} (hG : Glob w) : Calls Tryd.prog 23 #[] w fun e w' => e = .returned (.bool true) ∧ Fr0 w w' := (marked_any w hG).mono fun e w' h => ⟨h.1, mk_fr h.2⟩
theorem pass24 {w : World} {g : Int} {A : Option Addr} {c : Nat} {l : List S63} (hB : Book w A c l) {s0 s1 : Int} {m : Nat} {p : List (List Int)} (hP : passF g l s0 s1 (m : Int) = (p, 0)) (hm : p.length = m) : Calls Tryd.prog 24 #[.agg #[.int .i64 g, .slice A l.length c], .agg #[.int .i64 s0, .int .i64 s1], .int .i64 (m : Int)] w fun e w' =>
    ∃ A2 c2, e = .returned (.tuple #[.slice A2 m c2, .int .i64 0]) ∧ Kd.C (Kd.slice 3 (Kd.int .i64)) w' A2 p.length p ∧ m ≤ c2 ∧ Fr0 w w' := by
  have h := passages_any g A c l s0 s1 (m : Int) w hB
  rw [hP] at h
  refine h.mono ?_
  rintro e w' ⟨v, rfl, ⟨A2, c2, rfl, hc, hF⟩, hb⟩
  subst hm
  exact ⟨A2, c2, rfl, Kd.F_now hF, hc, mk_fr hb⟩
theorem sits43 (n lo hi : Int) (w : World) : Calls Tryd.prog 43 #[.int .i64 n, .int .i64 lo, .int .i64 hi] w fun e w' => e = .returned (.bool (isIn n lo hi)) ∧ Fr0 w w' :=
  (saronref00_Sits.calls n lo hi _ w (sits_f n lo hi)).mono fun e w' h => ⟨h.1, mk_dr h.2⟩
theorem grows41 {w : World} {A : Option Addr} {c : Nat} {r : List Int} (hr : Kd.C (Kd.int .i64) w A r.length r) (hc : r.length ≤ c) (b : Int) {R : Bool} (hR : gr b (-1) r = R) : Calls Tryd.prog 41 #[.slice A r.length c, .int .i64 b] w fun e w' => e = .returned (.bool R) ∧ Fr0 w w' := by
  obtain ⟨K, hK⟩ := rgrows_f b r (C_len hr)
  rw [← hR]
  exact (saronref00_Grows.calls K A c r b _ w hr hc (hK K (Nat.le_refl _))).mono fun e w' h => ⟨h.1, mk_dr h.2⟩
theorem spot44 {w : World} {g : Int} {A : Option Addr} {c : Nat} {l : List S63} (hB : Book w A c l) {a b sp0 sp1 : Int} (hS : saronlaw05_spot.f g l a b = some (sp0, sp1)) : Calls Tryd.prog 44 #[.agg #[.int .i64 g, .slice A l.length c], .agg #[.int .i64 a, .int .i64 b]] w fun e w' => e = .returned (.agg #[.int .i64 sp0, .int .i64 sp1]) ∧ Fr0 w w' :=
  (saronlaw05_spot.calls g A c l a b sp0 sp1 w hB.r hB.c hS).mono fun e w' h => ⟨h.1, Go.Proofs.YtephecfapclgfaaDoor.X.Fr.of_below h.2⟩
theorem places27 {w : World} {g : Int} {A : Option Addr} {c : Nat} {l : List S63} (hB : Book w A c l) {Ap : Option Addr} {cp : Nat} {p : List (List Int)} (hr : Kd.C (Kd.slice 3 (Kd.int .i64)) w Ap p.length p) (hc : p.length ≤ cp) {lost : Int} {L : List S38} {E : Int} (hP : placesF g l p lost = (L, E)) : Calls Tryd.prog 27 #[.agg #[.int .i64 g, .slice A l.length c], .slice Ap p.length cp, .int .i64 lost] w fun e w' =>
    ∃ A2 c2, e = .returned (.tuple #[.slice A2 L.length c2, .int .i64 E]) ∧ Kd.C k38 w' A2 L.length L ∧ L.length ≤ c2 ∧ Fr0 w w' := by
  have h := places_any g A c l Ap cp p lost w hB hr hc
  rw [hP] at h
  refine h.mono ?_
  rintro e w' ⟨v, rfl, ⟨A2, c2, rfl, hc, hF⟩, hb⟩
  exact ⟨A2, c2, rfl, Kd.F_now hF, hc, mk_fr hb⟩
theorem missing32 {w : World} {g : Int} {A : Option Addr} {c : Nat} {l : List S63} (hB : Book w A c l) {sp0 sp1 : Int} {Ap : Option Addr} {cp : Nat} {p : List (List Int)} (hr : Kd.C (Kd.slice 3 (Kd.int .i64)) w Ap p.length p) (hc : p.length ≤ cp) {M : List S97} {E : Int} (hM : missingF g l sp0 sp1 p = (M, E)) : Calls Tryd.prog 32 #[.agg #[.int .i64 g, .slice A l.length c], .agg #[.int .i64 sp0, .int .i64 sp1], .slice Ap p.length cp] w fun e w' =>
    ∃ A2 c2, e = .returned (.tuple #[.slice A2 M.length c2, .int .i64 E]) ∧ Fr0 w w' := by
  have h := missings_any g A c l sp0 sp1 Ap cp p w hB hr hc
  rw [hM] at h
  refine h.mono ?_
  rintro e w' ⟨v, rfl, ⟨A2, c2, rfl, hc, hF⟩, hb⟩
  exact ⟨A2, c2, rfl, mk_fr hb⟩
/-! ### What the law's loops compute -/
def fitL (p q : List (List Int)) : Nat → Bool
  | 0 => true
  | k + 1 => fitL p q k && (p.getD k []).all (fun x => (q.getD k []).contains x)
def misL (p q : List (List Int)) : Nat → Int
  | 0 => 0
  | k + 1 => misL p q k + (((q.getD k []).length : Int) - ((p.getD k []).length : Int))
theorem misL_bnd {p q : List (List Int)} (hp : ∀ k, (p.getD k []).length ≤ 5) (hq : ∀ k, (q.getD k []).length ≤ 5) : ∀ k : Nat, -(5 * (k : Int)) ≤ misL p q k ∧ misL p q k ≤ 5 * k
  | 0 => by unfold misL; omega
  | k + 1 => by
    have := misL_bnd hp hq k
    have := hp k
    have := hq k
    unfold misL
    omega
def foundL (a b : Int) (L : List S38) (n : Nat) : Bool := (L.take n).any (fun t => t.f0 == a && (t.f1 == b))
theorem foundL_succ (a b : Int) (L : List S38) (n : Nat) (h : n < L.length) : foundL a b L (n + 1) = (foundL a b L n || (L[n].f0 == a && (L[n].f1 == b))) := by
  unfold foundL
  rw [show L.take (n + 1) = L.take n ++ [L[n]] by rw [List.take_add_one, List.getElem?_eq_getElem h]; rfl, List.any_append, List.any_cons, List.any_nil, Bool.or_false]
theorem take_all (r : List Int) (f : Int → Bool) (i : Nat) (hi : i < r.length) : (r.take (i + 1)).all f = ((r.take i).all f && f r[i]) := by
  rw [show r.take (i + 1) = r.take i ++ [r[i]] by rw [List.take_add_one, List.getElem?_eq_getElem hi]; rfl, List.all_append, List.all_cons, List.all_nil, Bool.and_true]

set_option maxHeartbeats 8000000 in
set_option maxRecDepth 100000 in
theorem other_bad (g : Int) (A : Option Addr) (c : Nat) (l : List S63) (Ap : Option Addr) (cp : Nat) (p : List (List Int)) (n0 n1 n2 : Int) (w : World) (hB : Book w A c l) (hr : Kd.C (Kd.slice 3 (Kd.int .i64)) w Ap p.length p) (hc : p.length ≤ cp) (hb : bookOk g l = false) (hP : placesF g l p (n0 % 7) = ([], 50)) :
    Calls Tryd.prog 9 #[.agg #[.int .i64 g, .slice A l.length c], .slice Ap p.length cp, .agg #[.int .i64 n0, .int .i64 n1, .int .i64 n2]] w fun e w' => e = .returned (.bool true) ∧ Fr0 w w' := by
  have HB := Lib.hid hB
  have HR := Lib.hid hr
  have hpb := C_len hr
  have HT0 := Lib.hid (fun W => turn40 n0 7 (by omega) (by omega) W)
  have hf0 : Fr0 w ((w.alloc (.cells #[.int .i64 g, .slice A l.length c] 24)).alloc (.cells #[.int .i64 n0, .int .i64 n1, .int .i64 n2] 25)) := ((Fr.refl _ _).alloc _).alloc _
  have c2 : Bx ((w.alloc (.cells #[.int .i64 g, .slice A l.length c] 24)).alloc (.cells #[.int .i64 n0, .int .i64 n1, .int .i64 n2] 25)) w.heap.size 24 #[.int .i64 g, .slice A l.length c] := (Bx.of_new rfl).alloc _
  have c3 : Bx ((w.alloc (.cells #[.int .i64 g, .slice A l.length c] 24)).alloc (.cells #[.int .i64 n0, .int .i64 n1, .int .i64 n2] 25)) (w.heap.size + 1) 25 #[.int .i64 n0, .int .i64 n1, .int .i64 n2] := Bx.of_new (by simp)
  clear hB hr
  go_enter Tryd.func9, Tryd.ntmps9
  go_upto_region 1 with fail
  generalize hW : ((w.alloc (.cells #[.int .i64 g, .slice A l.length c] 24)).alloc (.cells #[.int .i64 n0, .int .i64 n1, .int .i64 n2] 25)) = W at hf0 c2 c3 ⊢
  clear hW
  have HF0 := Lib.hid hf0
  have HC2 := Lib.hid c2
  have HC3 := Lib.hid c3
  have u0 := c3.at_ 0 (v := .int .i64 n0) rfl
  clear hf0 c2 c3
  go_upto_region 2 with (first | (go_at_call 40; refine (HT0.out _).mono ?_; rintro e w1 ⟨rfl, hf1⟩; (have H1 := Lib.hid hf1); clear hf1))
  have HF1 := Lib.hid (Fr0.trans HF0.out H1.out)
  have HD2 := Lib.hid (HC2.out.fr0 H1.out)
  have HD3 := Lib.hid (HC3.out.fr0 H1.out)
  clear u0 HT0
  generalize n0 % 7 = lost at *
  have v0 := HD2.out.at_ 0 (v := .int .i64 g) rfl
  have v1 := HD2.out.at_ 1 (v := .slice A l.length c) rfl
  go_upto_region 3 with (first | (go_at_call 27; refine (places27 (HB.out.fr HF1.out) (C_fr HR.out HF1.out) hc hP).mono ?_; rintro e w2 ⟨AL, cL, rfl, hCL, hcL, hf2⟩; (have HCL := Lib.hid hCL); clear hCL; (have HLC := Lib.hid hcL); clear hcL; (have H2 := Lib.hid hf2); clear hf2))
  have HF2 := Lib.hid (Fr0.trans HF1.out H2.out)
  have HE2 := Lib.hid (HD2.out.fr0 H2.out)
  have HE3 := Lib.hid (HD3.out.fr0 H2.out)
  clear v0 v1
  have v0 := HE2.out.at_ 0 (v := .int .i64 g) rfl
  have v1 := HE2.out.at_ 1 (v := .slice A l.length c) rfl
  go_upto_region 4 with (first | (go_at_call 39; refine (sound39 (HB.out.fr HF2.out)).mono ?_; rw [hb]; rintro e w3 ⟨rfl, hf3⟩; (have H3 := Lib.hid hf3); clear hf3))
  have HF3 := Lib.hid (Fr0.trans HF2.out H3.out)
  have HG2 := Lib.hid (HE2.out.fr0 H3.out)
  have HG3 := Lib.hid (HE3.out.fr0 H3.out)
  clear v0 v1
  go_wp2_with (first | (go_at_call 23; refine (marked23 (HB.out.glob.fr HF3.out)).mono ?_; rintro e w4 ⟨rfl, hf4⟩; (have H4 := Lib.hid hf4); clear hf4))
  refine bodyPost_ret (v := .bool true) (by simp [results, Tryd.results9, go_sem]) rfl ⟨rfl, ?_⟩
  exact Fr0.trans HF3.out H4.out

set_option maxHeartbeats 8000000 in
set_option maxRecDepth 100000 in
theorem other_deaf (g : Int) (A : Option Addr) (c : Nat) (l : List S63) (Ap : Option Addr) (cp : Nat) (p : List (List Int)) (n0 n1 n2 : Int) (w : World) (hB : Book w A c l) (hr : Kd.C (Kd.slice 3 (Kd.int .i64)) w Ap p.length p) (hc : p.length ≤ cp) (hb : bookOk g l = true) (hP : placesF g l p (n0 % 7) = ([], 51)) (q0 : Bool) (hin : isIn (p.length : Int) 1 64 = q0) (hh : (q0 && p.all (fun r => gr g (-1) r)) = false) :
    Calls Tryd.prog 9 #[.agg #[.int .i64 g, .slice A l.length c], .slice Ap p.length cp, .agg #[.int .i64 n0, .int .i64 n1, .int .i64 n2]] w fun e w' => e = .returned (.bool true) ∧ Fr0 w w' := by
  have HB := Lib.hid hB
  have HR := Lib.hid hr
  have hpb := C_len hr
  have HT0 := Lib.hid (fun W => turn40 n0 7 (by omega) (by omega) W)
  have hf0 : Fr0 w ((w.alloc (.cells #[.int .i64 g, .slice A l.length c] 24)).alloc (.cells #[.int .i64 n0, .int .i64 n1, .int .i64 n2] 25)) := ((Fr.refl _ _).alloc _).alloc _
  have c2 : Bx ((w.alloc (.cells #[.int .i64 g, .slice A l.length c] 24)).alloc (.cells #[.int .i64 n0, .int .i64 n1, .int .i64 n2] 25)) w.heap.size 24 #[.int .i64 g, .slice A l.length c] := (Bx.of_new rfl).alloc _
  have c3 : Bx ((w.alloc (.cells #[.int .i64 g, .slice A l.length c] 24)).alloc (.cells #[.int .i64 n0, .int .i64 n1, .int .i64 n2] 25)) (w.heap.size + 1) 25 #[.int .i64 n0, .int .i64 n1, .int .i64 n2] := Bx.of_new (by simp)
  clear hB hr
  go_enter Tryd.func9, Tryd.ntmps9
  go_upto_region 1 with fail
  generalize hW : ((w.alloc (.cells #[.int .i64 g, .slice A l.length c] 24)).alloc (.cells #[.int .i64 n0, .int .i64 n1, .int .i64 n2] 25)) = W at hf0 c2 c3 ⊢
  clear hW
  have HF0 := Lib.hid hf0
  have HC2 := Lib.hid c2
  have HC3 := Lib.hid c3
  have u0 := c3.at_ 0 (v := .int .i64 n0) rfl
  clear hf0 c2 c3
  go_upto_region 2 with (first | (go_at_call 40; refine (HT0.out _).mono ?_; rintro e w1 ⟨rfl, hf1⟩; (have H1 := Lib.hid hf1); clear hf1))
  have HF1 := Lib.hid (Fr0.trans HF0.out H1.out)
  have HD2 := Lib.hid (HC2.out.fr0 H1.out)
  have HD3 := Lib.hid (HC3.out.fr0 H1.out)
  clear u0 HT0
  generalize n0 % 7 = lost at *
  have v0 := HD2.out.at_ 0 (v := .int .i64 g) rfl
  have v1 := HD2.out.at_ 1 (v := .slice A l.length c) rfl
  go_upto_region 3 with (first | (go_at_call 27; refine (places27 (HB.out.fr HF1.out) (C_fr HR.out HF1.out) hc hP).mono ?_; rintro e w2 ⟨AL, cL, rfl, hCL, hcL, hf2⟩; (have HCL := Lib.hid hCL); clear hCL; (have HLC := Lib.hid hcL); clear hcL; (have H2 := Lib.hid hf2); clear hf2))
  have HF2 := Lib.hid (Fr0.trans HF1.out H2.out)
  have HE2 := Lib.hid (HD2.out.fr0 H2.out)
  have HE3 := Lib.hid (HD3.out.fr0 H2.out)
  clear v0 v1
  have v0 := HE2.out.at_ 0 (v := .int .i64 g) rfl
  have v1 := HE2.out.at_ 1 (v := .slice A l.length c) rfl
  go_upto_region 5 with (first | (go_at_call 39; refine (sound39 (HB.out.fr HF2.out)).mono ?_; rw [hb]; rintro e w3 ⟨rfl, hf3⟩; (have H3 := Lib.hid hf3); clear hf3))
  have HF3 := Lib.hid (Fr0.trans HF2.out H3.out)
  have HG2 := Lib.hid (HE2.out.fr0 H3.out)
  have HG3 := Lib.hid (HE3.out.fr0 H3.out)
  clear v0 v1
  go_upto_region 6 with (first | (go_at_call 43; refine (sits43 _ 1 64 _).mono ?_; rw [hin]; rintro e w4 ⟨rfl, hf4⟩; (have H4 := Lib.hid hf4); clear hf4))
  have HF4 := Lib.hid (Fr0.trans HF3.out H4.out)
  have HI2 := Lib.hid (HG2.out.fr0 H4.out)
  have HI3 := Lib.hid (HG3.out.fr0 H4.out)
  go_wp2
  go_loopw [10, 11] (fun v10 v11 wr => ∃ (q : Bool) (n : Nat), n ≤ p.length ∧ v10 = .bool q ∧ v11 = .int .i64 n ∧ (q && (p.drop n).all (fun r => gr g (-1) r)) = false ∧ Fr0 w4 wr) (fun _ v11 _ => (p.length - intOf v11).toNat)
  case atStart => exact ⟨q0, 0, by omega, by rfl, by rfl, hh, Fr.refl _ _⟩
  case round =>
    obtain ⟨q, n, hn, rfl, rfl, hq, hfw⟩ := hrel
    cases q
    · have HW := Lib.hid hfw
      have HF5 := Lib.hid (Fr0.trans HF4.out HW.out)
      clear hfw hq
      go_wp2_with (first | (go_at_call 23; refine (marked23 (HB.out.glob.fr HF5.out)).mono ?_; rintro e w7 ⟨rfl, hf7⟩; (have H7 := Lib.hid hf7); clear hf7))
      refine bodyPost_ret (v := .bool true) (by simp [results, Tryd.results9, go_sem]) rfl ⟨rfl, ?_⟩
      exact Fr0.trans HF5.out H7.out
    · have hlt : n < p.length := by
        by_cases h : n < p.length
        · exact h
        · rw [List.drop_of_length_le (by omega)] at hq; simp at hq
      have hle : (n : Int) < p.length := by omega
      obtain ⟨adp, A3, c3, hA, x0, hl3, hC3⟩ := at_L1 (C_fr HR.out (Fr0.trans HF4.out hfw)) (n : Int) (by omega) hle
      subst hA
      rw [Int.toNat_natCast] at x0
      have hxr : rd_L1 p (n : Int) = p[n] := by simp [rd_L1, hlt]
      have HQ := Lib.hid (show (gr g (-1) p[n] && (p.drop (n + 1)).all (fun r => gr g (-1) r)) = false by rw [List.drop_eq_getElem_cons hlt, List.all_cons, Bool.true_and] at hq; exact hq)
      have HGR := Lib.hid (show gr g (-1) (rd_L1 p (n : Int)) = gr g (-1) p[n] by rw [hxr])
      generalize gr g (-1) p[n] = q2 at *
      clear hq
      generalize rd_L1 p (n : Int) = r at *
      have HG4 := HI2.out.fr0 hfw
      have v0 := HG4.at_ 0 (v := .int .i64 g) rfl
      have HC3' := Lib.hid hC3
      have HW := Lib.hid hfw
      clear hC3 hfw HG4 hxr
      go_upto_region 9 with fail
      refine start_ (n := 8) (S := fun w' => w'.cell? (adp.add n) = some (.slice A3 r.length c3) ∧ w'.cell? ⟨w.heap.size, 0, none⟩ = some (.int .i64 g)) (ds := []) #[false, false, false, false, false, false, false, false] (by kernel_rfl) rfl rfl ⟨x0, v0⟩ (fun hHeld => ?_)
      refine pure_ (i := 0) (N := some 59) (v := ?_) (a' := ?_) #[true, false, false, false, false, false, false, false] rfl rfl (by kernel_rfl) (fun _ _ _ h => h) (Or.inl ⟨by rfl, ?_⟩) ?_ ?_
      rotate_left
      · intro w'
        go_simp
        with_reducible rfl
      rotate_left
      · simp only [Act.put, List.setIfInBounds_toArray, List.set_cons_zero, List.set_cons_succ, i64_w, i32_w]
        rfl
      refine pure_ (i := 1) (N := some 60) (v := ?_) (a' := ?_) #[true, true, false, false, false, false, false, false] rfl rfl (by kernel_rfl) (fun _ _ _ h => h) (Or.inl ⟨by rfl, ?_⟩) ?_ ?_
      rotate_left
      · intro w'
        go_simp
        with_reducible rfl
      rotate_left
      · simp only [Act.put, List.setIfInBounds_toArray, List.set_cons_zero, List.set_cons_succ, i64_w, i32_w]
        rfl
      refine pure_ (i := 2) (N := some 61) (v := ?_) (a' := ?_) #[true, true, true, false, false, false, false, false] rfl rfl (by kernel_rfl) (fun _ _ _ h => h) (Or.inl ⟨by rfl, ?_⟩) ?_ ?_
      rotate_left
      · intro w'
        go_simp
        with_reducible rfl
      rotate_left
      · simp only [Act.put, List.setIfInBounds_toArray, List.set_cons_zero, List.set_cons_succ, i64_w, i32_w]
        rfl
      refine pure_ (i := 4) (N := some 63) (v := ?_) (a' := ?_) #[true, true, true, false, true, false, false, false] rfl rfl (by kernel_rfl) (fun _ _ _ h => h) (Or.inl ⟨by rfl, ?_⟩) ?_ ?_
      rotate_left
      · intro w'
        go_simp
        with_reducible rfl
      rotate_left
      · simp only [Act.put, List.setIfInBounds_toArray, List.set_cons_zero, List.set_cons_succ, i64_w, i32_w]
        rfl
      refine take_ (i := 3) (N := some 62) (v := ?_) (a' := ?_) #[true, true, true, true, true, false, false, false] rfl rfl (by kernel_rfl) (fun _ _ _ h => h) (Or.inl ⟨by rfl, ?_⟩) hHeld ?_ ?_
      rotate_left
      · rintro w' ⟨s0, s1⟩
        go_simp
        with_reducible rfl
      rotate_left
      · simp only [Act.put, List.setIfInBounds_toArray, List.set_cons_zero, List.set_cons_succ, i64_w, i32_w]
        rfl
      refine take_ (i := 5) (N := some 64) (v := ?_) (a' := ?_) #[true, true, true, true, true, true, false, false] rfl rfl (by kernel_rfl) (fun _ _ _ h => h) (Or.inl ⟨by rfl, ?_⟩) hHeld ?_ ?_
      rotate_left
      · rintro w' ⟨s0, s1⟩
        go_simp
        with_reducible rfl
      rotate_left
      · simp only [Act.put, List.setIfInBounds_toArray, List.set_cons_zero, List.set_cons_succ, i64_w, i32_w]
        rfl
      refine one_ (i := 6) (N := some 65) #[true, true, true, true, true, true, true, false] rfl rfl (by kernel_rfl) (by decide) (fun K hK => ?_)
      refine goes_ Tryd.func41 (by kernel_rfl) rfl #[.slice A3 r.length c3, .int .i64 g] (by rfl) rfl rfl (by simp only [List.map_toArray, List.map_cons, List.map_nil]; rfl) ?_
      with_reducible refine (grows41 (C_fr HC3'.out (Fr.drew (Fr.refl _ _))) hl3 g HGR.out).mono ?_
      rintro e w6 ⟨rfl, hf6⟩
      refine ⟨_, rfl, ?_⟩
      have H6 := Lib.hid (Fr0.trans (Fr.drew (Fr.refl _ wr)) hf6)
      refine hK.out _ _ ⟨(H6.out.cell0 x0), (H6.out.cell0 v0)⟩ (fun hHeld => ?_)
      clear hK K
      refine norm_ (a' := ?_) ?_ ?_
      rotate_left
      · show Act.put _ (some 65) _ = _
        simp only [Act.put, List.setIfInBounds_toArray, List.set_cons_zero, List.set_cons_succ, i64_w, i32_w]
        rfl
      refine pure_ (i := 7) (N := some 10) (v := ?_) (a' := ?_) #[true, true, true, true, true, true, true, true] rfl rfl (by kernel_rfl) (fun _ _ _ h => h) (Or.inl ⟨by rfl, ?_⟩) ?_ ?_
      rotate_left
      · intro w'
        go_simp
        with_reducible rfl
      rotate_left
      · simp only [Act.put, List.setIfInBounds_toArray, List.set_cons_zero, List.set_cons_succ, i64_w, i32_w]
        rfl
      refine done_ (by kernel_rfl) ?_
      go_wp2
      go_roundw
      case rel => exact ⟨q2, n + 1, by omega, by rfl, by go_num, HQ.out, Fr0.trans HW.out H6.out⟩
      case measure => simp [intOf]; omega

set_option maxHeartbeats 8000000 in
set_option maxRecDepth 100000 in
theorem other_heard (g : Int) (A : Option Addr) (c : Nat) (l : List S63) (Ap : Option Addr) (cp : Nat) (p : List (List Int)) (n0 n1 n2 : Int) (w : World) (hB : Book w A c l) (hr : Kd.C (Kd.slice 3 (Kd.int .i64)) w Ap p.length p) (hc : p.length ≤ cp) (hb : bookOk g l = true) (L : List S38) (hP : placesF g l p (n0 % 7) = (L, 0)) (hin : isIn (p.length : Int) 1 64 = true) (hh : p.all (fun r => gr g (-1) r) = true) (sp0 sp1 : Int) (hS : saronlaw05_spot.f g l n1 n2 = some (sp0, sp1)) (q : List (List Int)) (hQ : passF g l sp0 sp1 (p.length : Int) = (q, 0)) (hql : q.length = p.length) (hp64 : p.length ≤ 64) (hp5 : ∀ k, (p.getD k []).length ≤ 5) (hq5 : ∀ k, (q.getD k []).length ≤ 5) (M : List S97) (E : Int) (hM : missingF g l sp0 sp1 p = (M, E)) (hL : L.length ≤ 1000) (hord : ∀ n (h : n < L.length), befB ⟨-1, 0⟩ L[n] = true) (hpw : L.Pairwise (fun s t => befB s t = true)) (cf : Bool) (hcf : fitL p q p.length = cf) (mi : Int) (hmi : misL p q p.length = mi) (F : Bool) (hF : foundL sp0 sp1 L L.length = F) (hcase : (cf = true ∧ E = 0 ∧ mi = M.length ∧ F = decide (mi ≤ n0 % 7)) ∨ (cf = false ∧ E = 4 ∧ M = [] ∧ F = false)) :
    Calls Tryd.prog 9 #[.agg #[.int .i64 g, .slice A l.length c], .slice Ap p.length cp, .agg #[.int .i64 n0, .int .i64 n1, .int .i64 n2]] w fun e w' => e = .returned (.bool true) ∧ Fr0 w w' := by
  have HB := Lib.hid hB
  have HR := Lib.hid hr
  have hpb := C_len hr
  have HT0 := Lib.hid (fun W => turn40 n0 7 (by omega) (by omega) W)
  have hf0 : Fr0 w ((w.alloc (.cells #[.int .i64 g, .slice A l.length c] 24)).alloc (.cells #[.int .i64 n0, .int .i64 n1, .int .i64 n2] 25)) := ((Fr.refl _ _).alloc _).alloc _
  have c2 : Bx ((w.alloc (.cells #[.int .i64 g, .slice A l.length c] 24)).alloc (.cells #[.int .i64 n0, .int .i64 n1, .int .i64 n2] 25)) w.heap.size 24 #[.int .i64 g, .slice A l.length c] := (Bx.of_new rfl).alloc _
  have c3 : Bx ((w.alloc (.cells #[.int .i64 g, .slice A l.length c] 24)).alloc (.cells #[.int .i64 n0, .int .i64 n1, .int .i64 n2] 25)) (w.heap.size + 1) 25 #[.int .i64 n0, .int .i64 n1, .int .i64 n2] := Bx.of_new (by simp)
  clear hB hr
  go_enter Tryd.func9, Tryd.ntmps9
  go_upto_region 1 with fail
  generalize hW : ((w.alloc (.cells #[.int .i64 g, .slice A l.length c] 24)).alloc (.cells #[.int .i64 n0, .int .i64 n1, .int .i64 n2] 25)) = W at hf0 c2 c3 ⊢
  clear hW
  have HF0 := Lib.hid hf0
  have HC2 := Lib.hid c2
  have HC3 := Lib.hid c3
  have u0 := c3.at_ 0 (v := .int .i64 n0) rfl
  clear hf0 c2 c3
  go_upto_region 2 with (first | (go_at_call 40; refine (HT0.out _).mono ?_; rintro e w1 ⟨rfl, hf1⟩; (have H1 := Lib.hid hf1); clear hf1))
  have HF1 := Lib.hid (Fr0.trans HF0.out H1.out)
  have HD2 := Lib.hid (HC2.out.fr0 H1.out)
  have HD3 := Lib.hid (HC3.out.fr0 H1.out)
  clear u0 HT0
  generalize n0 % 7 = lost at *
  have v0 := HD2.out.at_ 0 (v := .int .i64 g) rfl
  have v1 := HD2.out.at_ 1 (v := .slice A l.length c) rfl
  go_upto_region 3 with (first | (go_at_call 27; refine (places27 (HB.out.fr HF1.out) (C_fr HR.out HF1.out) hc hP).mono ?_; rintro e w2 ⟨AL, cL, rfl, hCL, hcL, hf2⟩; (have HCL := Lib.hid hCL); clear hCL; (have HLC := Lib.hid hcL); clear hcL; (have H2 := Lib.hid hf2); clear hf2))
  have HF2 := Lib.hid (Fr0.trans HF1.out H2.out)
  have HE2 := Lib.hid (HD2.out.fr0 H2.out)
  have HE3 := Lib.hid (HD3.out.fr0 H2.out)
  clear v0 v1
  have v0 := HE2.out.at_ 0 (v := .int .i64 g) rfl
  have v1 := HE2.out.at_ 1 (v := .slice A l.length c) rfl
  go_upto_region 5 with (first | (go_at_call 39; refine (sound39 (HB.out.fr HF2.out)).mono ?_; rw [hb]; rintro e w3 ⟨rfl, hf3⟩; (have H3 := Lib.hid hf3); clear hf3))
  have HF3 := Lib.hid (Fr0.trans HF2.out H3.out)
  have HG2 := Lib.hid (HE2.out.fr0 H3.out)
  have HG3 := Lib.hid (HE3.out.fr0 H3.out)
  clear v0 v1
  go_upto_region 6 with (first | (go_at_call 43; refine (sits43 _ 1 64 _).mono ?_; rw [hin]; rintro e w4 ⟨rfl, hf4⟩; (have H4 := Lib.hid hf4); clear hf4))
  have HF4 := Lib.hid (Fr0.trans HF3.out H4.out)
  have HI2 := Lib.hid (HG2.out.fr0 H4.out)
  have HI3 := Lib.hid (HG3.out.fr0 H4.out)
  go_wp2
  go_loopw [10, 11] (fun v10 v11 wr => ∃ n : Nat, n ≤ p.length ∧ v10 = .bool true ∧ v11 = .int .i64 n ∧ (p.drop n).all (fun r => gr g (-1) r) = true ∧ Fr0 w4 wr) (fun _ v11 _ => (p.length - intOf v11).toNat)
  case atStart => exact ⟨0, by omega, by rfl, by rfl, hh, Fr.refl _ _⟩
  case round =>
    obtain ⟨n, hn, rfl, rfl, hq, hfw⟩ := hrel
    by_cases hlt : n < p.length
    · have hle : (n : Int) < p.length := by omega
      obtain ⟨adp, A3, c3, hA, x0, hl3, hC3⟩ := at_L1 (C_fr HR.out (Fr0.trans HF4.out hfw)) (n : Int) (by omega) hle
      subst hA
      rw [Int.toNat_natCast] at x0
      have hxr : rd_L1 p (n : Int) = p[n] := by simp [rd_L1, hlt]
      have hqq : gr g (-1) p[n] = true ∧ (p.drop (n + 1)).all (fun r => gr g (-1) r) = true := by rw [List.drop_eq_getElem_cons hlt, List.all_cons, Bool.and_eq_true] at hq; exact hq
      have HQ := Lib.hid hqq.2
      have HGR := Lib.hid (show gr g (-1) (rd_L1 p (n : Int)) = true by rw [hxr]; exact hqq.1)
      clear hq hqq
      generalize rd_L1 p (n : Int) = r at *
      have HG4 := HI2.out.fr0 hfw
      have v0 := HG4.at_ 0 (v := .int .i64 g) rfl
      have HC3' := Lib.hid hC3
      have HW := Lib.hid hfw
      clear hC3 hfw HG4 hxr
      go_upto_region 9 with fail
      refine start_ (n := 8) (S := fun w' => w'.cell? (adp.add n) = some (.slice A3 r.length c3) ∧ w'.cell? ⟨w.heap.size, 0, none⟩ = some (.int .i64 g)) (ds := []) #[false, false, false, false, false, false, false, false] (by kernel_rfl) rfl rfl ⟨x0, v0⟩ (fun hHeld => ?_)
      refine pure_ (i := 0) (N := some 59) (v := ?_) (a' := ?_) #[true, false, false, false, false, false, false, false] rfl rfl (by kernel_rfl) (fun _ _ _ h => h) (Or.inl ⟨by rfl, ?_⟩) ?_ ?_
      rotate_left
      · intro w'
        go_simp
        with_reducible rfl
      rotate_left
      · simp only [Act.put, List.setIfInBounds_toArray, List.set_cons_zero, List.set_cons_succ, i64_w, i32_w]
        rfl
      refine pure_ (i := 1) (N := some 60) (v := ?_) (a' := ?_) #[true, true, false, false, false, false, false, false] rfl rfl (by kernel_rfl) (fun _ _ _ h => h) (Or.inl ⟨by rfl, ?_⟩) ?_ ?_
      rotate_left
      · intro w'
        go_simp
        with_reducible rfl
      rotate_left
      · simp only [Act.put, List.setIfInBounds_toArray, List.set_cons_zero, List.set_cons_succ, i64_w, i32_w]
        rfl
      refine pure_ (i := 2) (N := some 61) (v := ?_) (a' := ?_) #[true, true, true, false, false, false, false, false] rfl rfl (by kernel_rfl) (fun _ _ _ h => h) (Or.inl ⟨by rfl, ?_⟩) ?_ ?_
      rotate_left
      · intro w'
        go_simp
        with_reducible rfl
      rotate_left
      · simp only [Act.put, List.setIfInBounds_toArray, List.set_cons_zero, List.set_cons_succ, i64_w, i32_w]
        rfl
      refine pure_ (i := 4) (N := some 63) (v := ?_) (a' := ?_) #[true, true, true, false, true, false, false, false] rfl rfl (by kernel_rfl) (fun _ _ _ h => h) (Or.inl ⟨by rfl, ?_⟩) ?_ ?_
      rotate_left
      · intro w'
        go_simp
        with_reducible rfl
      rotate_left
      · simp only [Act.put, List.setIfInBounds_toArray, List.set_cons_zero, List.set_cons_succ, i64_w, i32_w]
        rfl
      refine take_ (i := 3) (N := some 62) (v := ?_) (a' := ?_) #[true, true, true, true, true, false, false, false] rfl rfl (by kernel_rfl) (fun _ _ _ h => h) (Or.inl ⟨by rfl, ?_⟩) hHeld ?_ ?_
      rotate_left
      · rintro w' ⟨s0, s1⟩
        go_simp
        with_reducible rfl
      rotate_left
      · simp only [Act.put, List.setIfInBounds_toArray, List.set_cons_zero, List.set_cons_succ, i64_w, i32_w]
        rfl
      refine take_ (i := 5) (N := some 64) (v := ?_) (a' := ?_) #[true, true, true, true, true, true, false, false] rfl rfl (by kernel_rfl) (fun _ _ _ h => h) (Or.inl ⟨by rfl, ?_⟩) hHeld ?_ ?_
      rotate_left
      · rintro w' ⟨s0, s1⟩
        go_simp
        with_reducible rfl
      rotate_left
      · simp only [Act.put, List.setIfInBounds_toArray, List.set_cons_zero, List.set_cons_succ, i64_w, i32_w]
        rfl
      refine one_ (i := 6) (N := some 65) #[true, true, true, true, true, true, true, false] rfl rfl (by kernel_rfl) (by decide) (fun K hK => ?_)
      refine goes_ Tryd.func41 (by kernel_rfl) rfl #[.slice A3 r.length c3, .int .i64 g] (by rfl) rfl rfl (by simp only [List.map_toArray, List.map_cons, List.map_nil]; rfl) ?_
      with_reducible refine (grows41 (C_fr HC3'.out (Fr.drew (Fr.refl _ _))) hl3 g HGR.out).mono ?_
      rintro e w6 ⟨rfl, hf6⟩
      refine ⟨_, rfl, ?_⟩
      have H6 := Lib.hid (Fr0.trans (Fr.drew (Fr.refl _ wr)) hf6)
      refine hK.out _ _ ⟨(H6.out.cell0 x0), (H6.out.cell0 v0)⟩ (fun hHeld => ?_)
      clear hK K
      refine norm_ (a' := ?_) ?_ ?_
      rotate_left
      · show Act.put _ (some 65) _ = _
        simp only [Act.put, List.setIfInBounds_toArray, List.set_cons_zero, List.set_cons_succ, i64_w, i32_w]
        rfl
      refine pure_ (i := 7) (N := some 10) (v := ?_) (a' := ?_) #[true, true, true, true, true, true, true, true] rfl rfl (by kernel_rfl) (fun _ _ _ h => h) (Or.inl ⟨by rfl, ?_⟩) ?_ ?_
      rotate_left
      · intro w'
        go_simp
        with_reducible rfl
      rotate_left
      · simp only [Act.put, List.setIfInBounds_toArray, List.set_cons_zero, List.set_cons_succ, i64_w, i32_w]
        rfl
      refine done_ (by kernel_rfl) ?_
      go_wp2
      go_roundw
      case rel => exact ⟨n + 1, by omega, by rfl, by go_num, HQ.out, Fr0.trans HW.out H6.out⟩
      case measure => simp [intOf]; omega
    · obtain rfl : n = p.length := by omega
      have hle' : ¬ ((p.length : Int) < p.length) := by omega
      have HF5 := Lib.hid (Fr0.trans HF4.out hfw)
      have HJ2 := Lib.hid (HI2.out.fr0 hfw)
      have HJ3 := Lib.hid (HI3.out.fr0 hfw)
      have H25 := Lib.hid (Fr0.trans H3.out (Fr0.trans H4.out hfw))
      obtain ⟨wo, hwo⟩ : ∃ wo, wo = wr := ⟨wr, rfl⟩
      subst hwo
      clear hfw hq hh hin
      have HQF := Lib.hid hQ
      have HMF := Lib.hid hM
      have HSF := Lib.hid hS
      have HCA := Lib.hid hcase
      have HORD := Lib.hid hord
      have HPW := Lib.hid hpw
      have HQL := Lib.hid hql
      have HP5 := Lib.hid hp5
      have HQ5 := Lib.hid hq5
      have HCF := Lib.hid hcf
      have HMI := Lib.hid hmi
      have HFO := Lib.hid hF
      clear hQ hM hS hcase hord hpw hql hp5 hq5 hcf hmi hF hb hP
      have v0 := HJ2.out.at_ 0 (v := .int .i64 g) rfl
      have v1 := HJ2.out.at_ 1 (v := .slice A l.length c) rfl
      have u1 := HJ3.out.at_ 1 (v := .int .i64 n1) rfl
      have u2 := HJ3.out.at_ 2 (v := .int .i64 n2) rfl
      go_upto_region 13 with (first
        | (go_at_call 44; refine (spot44 (HB.out.fr HF5.out) HSF.out).mono ?_; rintro e w6 ⟨rfl, hf6⟩; (have H6 := Lib.hid hf6); clear hf6))
      have hx12 : Bx (w6.alloc (.cells #[.int .i64 sp0, .int .i64 sp1] 38)) w6.heap.size 38 #[.int .i64 sp0, .int .i64 sp1] := Bx.of_new rfl
      have hf6 : Fr0 wo (w6.alloc (.cells #[.int .i64 sp0, .int .i64 sp1] 38)) := H6.out.alloc _
      generalize w6.alloc (.cells #[.int .i64 sp0, .int .i64 sp1] 38) = W6 at hx12 hf6 ⊢
      generalize w6.heap.size = b12 at hx12 ⊢
      have HX12 := Lib.hid hx12
      have HF6 := Lib.hid (Fr0.trans HF5.out hf6)
      have HK2 := Lib.hid (HJ2.out.fr0 hf6)
      have H26 := Lib.hid (Fr0.trans H25.out hf6)
      clear v0 v1 u1 u2 hx12 hf6
      have v0 := HK2.out.at_ 0 (v := .int .i64 g) rfl
      have v1 := HK2.out.at_ 1 (v := .slice A l.length c) rfl
      have p0 := HX12.out.at_ 0 (v := .int .i64 sp0) rfl
      have p1 := HX12.out.at_ 1 (v := .int .i64 sp1) rfl
      go_upto_region 14 with (first
        | (go_at_call 24; refine (pass24 (HB.out.fr HF6.out) HQF.out HQL.out).mono ?_; rintro e w7 ⟨Aq, cq, rfl, hCq, hcq, hf7⟩; (have HQ7 := Lib.hid hCq); clear hCq; (have H7 := Lib.hid hf7); clear hf7))
      have HF7 := Lib.hid (Fr0.trans HF6.out H7.out)
      have HM2 := Lib.hid (HK2.out.fr0 H7.out)
      have HX7 := Lib.hid (HX12.out.fr0 H7.out)
      have H27 := Lib.hid (Fr0.trans H26.out H7.out)
      clear v0 v1 p0 p1
      have v0 := HM2.out.at_ 0 (v := .int .i64 g) rfl
      have v1 := HM2.out.at_ 1 (v := .slice A l.length c) rfl
      have p0 := HX7.out.at_ 0 (v := .int .i64 sp0) rfl
      have p1 := HX7.out.at_ 1 (v := .int .i64 sp1) rfl
      go_upto_region 15 with (first
        | (go_at_call 32; refine (missing32 (HB.out.fr HF7.out) (C_fr HR.out HF7.out) hc HMF.out).mono ?_; rintro e w8 ⟨Am, cm, rfl, hf8⟩; (have H8 := Lib.hid hf8); clear hf8))
      have HF8 := Lib.hid (Fr0.trans HF7.out H8.out)
      have HX8 := Lib.hid (HX7.out.fr0 H8.out)
      have HQ8 := Lib.hid (C_fr HQ7.out H8.out)
      have HR8 := Lib.hid (C_fr HR.out HF8.out)
      have H28 := Lib.hid (Fr0.trans H27.out H8.out)
      clear v0 v1 p0 p1
      go_upto_region 18 with fail
      go_wp2
      go_loopw [17, 18, 19] (fun v17 v18 v19 wr => ∃ k : Nat, k ≤ p.length ∧ v17 = .bool (fitL p q k) ∧ v18 = .int .i64 (misL p q k) ∧ v19 = .int .i64 k ∧ Fr0 w8 wr) (fun _ _ v19 _ => (p.length - intOf v19).toNat)
      case atStart => exact ⟨0, by omega, by rfl, by rfl, by rfl, Fr.refl _ _⟩
      case round =>
        clear hlt hn
        obtain ⟨k, hk, rfl, rfl, rfl, hfw⟩ := hrel
        obtain ⟨wx, hwx⟩ : ∃ wx, wx = wr := ⟨wr, rfl⟩
        subst hwx
        by_cases hlt : k < p.length
        · have hle : (k : Int) < p.length := by omega
          obtain ⟨adp, A2, c2, hA, x0, hlr, hCr⟩ := at_L1 (C_fr HR8.out hfw) (k : Int) (by omega) hle
          subst hA
          obtain ⟨adq, A3, c3, hA, y0, hlq, hCq⟩ := at_L1 (C_fr HQ8.out hfw) (k : Int) (by omega) (by rw [HQL.out]; omega)
          subst hA
          have hgp : rd_L1 p (k : Int) = p.getD k [] := by simp [rd_L1]
          have hgq : rd_L1 q (k : Int) = q.getD k [] := by simp [rd_L1]
          have hr5 : (rd_L1 p (k : Int)).length ≤ 5 := by rw [hgp]; exact HP5.out k
          have hq5' : (rd_L1 q (k : Int)).length ≤ 5 := by rw [hgq]; exact HQ5.out k
          have HFT := Lib.hid (show fitL p q (k + 1) = (fitL p q k && (rd_L1 p (k : Int)).all (fun x => (rd_L1 q (k : Int)).contains x)) by rw [hgp, hgq]; rfl)
          have hmb := misL_bnd HP5.out HQ5.out k
          have HMT := Lib.hid (show misL p q (k + 1) = wrap64 (misL p q k + wrap64 (((rd_L1 q (k : Int)).length : Int) - ((rd_L1 p (k : Int)).length : Int))) by rw [w64 (x := ((rd_L1 q (k : Int)).length : Int) - ((rd_L1 p (k : Int)).length : Int)) (by omega) (by omega), w64 (by omega) (by omega), hgp, hgq]; rfl)
          clear hmb hgp hgq
          generalize rd_L1 p (k : Int) = r at *
          generalize rd_L1 q (k : Int) = rq at *
          generalize fitL p q k = cz at *
          generalize misL p q k = mz at *
          rw [Int.toNat_natCast] at x0 y0
          have HW := Lib.hid hfw
          have HCR := Lib.hid hCr
          have HCQ := Lib.hid hCq
          clear hfw hCr hCq
          go_wp2
          go_loopw [17, 20] (fun v17 v20 wr => ∃ (cc : Bool) (i : Nat), i ≤ r.length ∧ v17 = .bool cc ∧ v20 = .int .i64 i ∧ cc = (cz && (r.take i).all (fun x => rq.contains x)) ∧ Fr0 wx wr) (fun _ v20 _ => (r.length - intOf v20).toNat)
          case atStart => exact ⟨cz, 0, by omega, by rfl, by rfl, by simp, Fr.refl _ _⟩
          case round =>
            obtain ⟨cc, i, hi, rfl, rfl, hcc, hfi⟩ := hrel
            have xi := hfi.cell0 x0
            have yi := hfi.cell0 y0
            by_cases hlti : i < r.length
            · have hlei : (i : Int) < r.length := by omega
              have HTA := Lib.hid (take_all r (fun x => rq.contains x) i hlti)
              cases cc
              · have HCC := Lib.hid hcc
                have HFI := Lib.hid hfi
                clear hcc hfi
                go_upto_region 24 with fail
                refine start_ (n := 17) (S := fun w' => w'.cell? (adq.add k) = some (.slice A3 rq.length c3) ∧ w'.cell? (adp.add k) = some (.slice A2 r.length c2)) (ds := []) #[false, false, false, false, false, false, false, false, false, false, false, false, false, false, false, false, false] (by kernel_rfl) rfl rfl ⟨yi, xi⟩ (fun hHeld => ?_)
                refine pure_ (i := 0) (N := some 128) (v := ?_) (a' := ?_) #[true, false, false, false, false, false, false, false, false, false, false, false, false, false, false, false, false] rfl rfl (by kernel_rfl) (fun _ _ _ h => h) (Or.inl ⟨by rfl, ?_⟩) ?_ ?_
                rotate_left
                · intro w'
                  go_simp
                  with_reducible rfl
                rotate_left
                · simp only [Act.put, List.setIfInBounds_toArray, List.set_cons_zero, List.set_cons_succ, i64_w, i32_w]
                  rfl
                refine pure_ (i := 1) (N := some 129) (v := ?_) (a' := ?_) #[true, true, false, false, false, false, false, false, false, false, false, false, false, false, false, false, false] rfl rfl (by kernel_rfl) (fun _ _ _ h => h) (Or.inl ⟨by rfl, ?_⟩) ?_ ?_
                rotate_left
                · intro w'
                  go_simp
                  with_reducible rfl
                rotate_left
                · simp only [Act.put, List.setIfInBounds_toArray, List.set_cons_zero, List.set_cons_succ, i64_w, i32_w]
                  rfl
                refine pure_ (i := 2) (N := some 130) (v := undef) (a' := ?_) #[true, true, true, false, false, false, false, false, false, false, false, false, false, false, false, false, false] rfl rfl (by kernel_rfl) (fun _ _ _ h => h) (Or.inr ⟨by rfl, rfl⟩) ?_ ?_
                rotate_left
                · simp only [Act.put, List.setIfInBounds_toArray, List.set_cons_zero, List.set_cons_succ, i64_w, i32_w]
                  rfl
                refine pure_ (i := 3) (N := some 131) (v := undef) (a' := ?_) #[true, true, true, true, false, false, false, false, false, false, false, false, false, false, false, false, false] rfl rfl (by kernel_rfl) (fun _ _ _ h => h) (Or.inr ⟨by rfl, rfl⟩) ?_ ?_
                rotate_left
                · simp only [Act.put, List.setIfInBounds_toArray, List.set_cons_zero, List.set_cons_succ, i64_w, i32_w]
                  rfl
                refine pure_ (i := 4) (N := some 132) (v := undef) (a' := ?_) #[true, true, true, true, true, false, false, false, false, false, false, false, false, false, false, false, false] rfl rfl (by kernel_rfl) (fun _ _ _ h => h) (Or.inr ⟨by rfl, rfl⟩) ?_ ?_
                rotate_left
                · simp only [Act.put, List.setIfInBounds_toArray, List.set_cons_zero, List.set_cons_succ, i64_w, i32_w]
                  rfl
                refine pure_ (i := 5) (N := some 133) (v := undef) (a' := ?_) #[true, true, true, true, true, true, false, false, false, false, false, false, false, false, false, false, false] rfl rfl (by kernel_rfl) (fun _ _ _ h => h) (Or.inr ⟨by rfl, rfl⟩) ?_ ?_
                rotate_left
                · simp only [Act.put, List.setIfInBounds_toArray, List.set_cons_zero, List.set_cons_succ, i64_w, i32_w]
                  rfl
                refine pure_ (i := 6) (N := some 134) (v := undef) (a' := ?_) #[true, true, true, true, true, true, true, false, false, false, false, false, false, false, false, false, false] rfl rfl (by kernel_rfl) (fun _ _ _ h => h) (Or.inr ⟨by rfl, rfl⟩) ?_ ?_
                rotate_left
                · simp only [Act.put, List.setIfInBounds_toArray, List.set_cons_zero, List.set_cons_succ, i64_w, i32_w]
                  rfl
                refine pure_ (i := 7) (N := some 135) (v := undef) (a' := ?_) #[true, true, true, true, true, true, true, true, false, false, false, false, false, false, false, false, false] rfl rfl (by kernel_rfl) (fun _ _ _ h => h) (Or.inr ⟨by rfl, rfl⟩) ?_ ?_
                rotate_left
                · simp only [Act.put, List.setIfInBounds_toArray, List.set_cons_zero, List.set_cons_succ, i64_w, i32_w]
                  rfl
                refine pure_ (i := 8) (N := some 136) (v := undef) (a' := ?_) #[true, true, true, true, true, true, true, true, true, false, false, false, false, false, false, false, false] rfl rfl (by kernel_rfl) (fun _ _ _ h => h) (Or.inr ⟨by rfl, rfl⟩) ?_ ?_
                rotate_left
                · simp only [Act.put, List.setIfInBounds_toArray, List.set_cons_zero, List.set_cons_succ, i64_w, i32_w]
                  rfl
                refine pure_ (i := 9) (N := some 137) (v := undef) (a' := ?_) #[true, true, true, true, true, true, true, true, true, true, false, false, false, false, false, false, false] rfl rfl (by kernel_rfl) (fun _ _ _ h => h) (Or.inr ⟨by rfl, rfl⟩) ?_ ?_
                rotate_left
                · simp only [Act.put, List.setIfInBounds_toArray, List.set_cons_zero, List.set_cons_succ, i64_w, i32_w]
                  rfl
                refine pure_ (i := 10) (N := some 138) (v := undef) (a' := ?_) #[true, true, true, true, true, true, true, true, true, true, true, false, false, false, false, false, false] rfl rfl (by kernel_rfl) (fun _ _ _ h => h) (Or.inr ⟨by rfl, rfl⟩) ?_ ?_
                rotate_left
                · simp only [Act.put, List.setIfInBounds_toArray, List.set_cons_zero, List.set_cons_succ, i64_w, i32_w]
                  rfl
                refine pure_ (i := 11) (N := some 139) (v := undef) (a' := ?_) #[true, true, true, true, true, true, true, true, true, true, true, true, false, false, false, false, false] rfl rfl (by kernel_rfl) (fun _ _ _ h => h) (Or.inr ⟨by rfl, rfl⟩) ?_ ?_
                rotate_left
                · simp only [Act.put, List.setIfInBounds_toArray, List.set_cons_zero, List.set_cons_succ, i64_w, i32_w]
                  rfl
                refine pure_ (i := 12) (N := some 140) (v := undef) (a' := ?_) #[true, true, true, true, true, true, true, true, true, true, true, true, true, false, false, false, false] rfl rfl (by kernel_rfl) (fun _ _ _ h => h) (Or.inr ⟨by rfl, rfl⟩) ?_ ?_
                rotate_left
                · simp only [Act.put, List.setIfInBounds_toArray, List.set_cons_zero, List.set_cons_succ, i64_w, i32_w]
                  rfl
                refine pure_ (i := 13) (N := some 141) (v := undef) (a' := ?_) #[true, true, true, true, true, true, true, true, true, true, true, true, true, true, false, false, false] rfl rfl (by kernel_rfl) (fun _ _ _ h => h) (Or.inr ⟨by rfl, rfl⟩) ?_ ?_
                rotate_left
                · simp only [Act.put, List.setIfInBounds_toArray, List.set_cons_zero, List.set_cons_succ, i64_w, i32_w]
                  rfl
                refine pure_ (i := 14) (N := some 142) (v := undef) (a' := ?_) #[true, true, true, true, true, true, true, true, true, true, true, true, true, true, true, false, false] rfl rfl (by kernel_rfl) (fun _ _ _ h => h) (Or.inr ⟨by rfl, rfl⟩) ?_ ?_
                rotate_left
                · simp only [Act.put, List.setIfInBounds_toArray, List.set_cons_zero, List.set_cons_succ, i64_w, i32_w]
                  rfl
                refine pure_ (i := 15) (N := some 143) (v := ?_) (a' := ?_) #[true, true, true, true, true, true, true, true, true, true, true, true, true, true, true, true, false] rfl rfl (by kernel_rfl) (fun _ _ _ h => h) (Or.inl ⟨by rfl, ?_⟩) ?_ ?_
                rotate_left
                · intro w'
                  go_simp
                  with_reducible rfl
                rotate_left
                · simp only [Act.put, List.setIfInBounds_toArray, List.set_cons_zero, List.set_cons_succ, i64_w, i32_w]
                  rfl
                refine pure_ (i := 16) (N := some 17) (v := ?_) (a' := ?_) #[true, true, true, true, true, true, true, true, true, true, true, true, true, true, true, true, true] rfl rfl (by kernel_rfl) (fun _ _ _ h => h) (Or.inl ⟨by rfl, ?_⟩) ?_ ?_
                rotate_left
                · intro w'
                  go_simp
                  with_reducible rfl
                rotate_left
                · simp only [Act.put, List.setIfInBounds_toArray, List.set_cons_zero, List.set_cons_succ, i64_w, i32_w]
                  rfl
                refine done_ (by kernel_rfl) ?_
                go_wp2
                go_roundw
                case rel => exact ⟨false, i + 1, by omega, by rfl, by go_num, by rw [HTA.out, ← Bool.and_assoc, ← HCC.out]; rfl, HFI.out.trans (Fr.drew (Fr.refl _ _))⟩
                case measure => simp [intOf]; omega
              · obtain ⟨ade, hA, zi⟩ := Kd.at_int (C_fr HCR.out hfi) (i : Int) (by omega) (by omega)
                subst hA
                have hXI : rd r (i : Int) = r[i] := by rw [rd_nat, getD_lt _ hlti]
                rw [hXI, Int.toNat_natCast] at zi
                have HWH := Lib.hid (wh_iff r[i] rq 0 (by omega))
                have HCC := Lib.hid hcc
                have HFI := Lib.hid hfi
                generalize r[i] = x at *
                generalize hz : wh x 0 rq = z at *
                have HZ := Lib.hid hz
                clear hcc hfi hz hXI
                go_upto_region 24 with fail
                refine start_ (n := 17) (S := fun w' => w'.cell? (adq.add k) = some (.slice A3 rq.length c3) ∧ w'.cell? (adp.add k) = some (.slice (some ade) r.length c2) ∧ w'.cell? (ade.add i) = some (.int .i64 x)) (ds := []) #[false, false, false, false, false, false, false, false, false, false, false, false, false, false, false, false, false] (by kernel_rfl) rfl rfl ⟨yi, xi, zi⟩ (fun hHeld => ?_)
                refine pure_ (i := 0) (N := some 128) (v := ?_) (a' := ?_) #[true, false, false, false, false, false, false, false, false, false, false, false, false, false, false, false, false] rfl rfl (by kernel_rfl) (fun _ _ _ h => h) (Or.inl ⟨by rfl, ?_⟩) ?_ ?_
                rotate_left
                · intro w'
                  go_simp
                  with_reducible rfl
                rotate_left
                · simp only [Act.put, List.setIfInBounds_toArray, List.set_cons_zero, List.set_cons_succ, i64_w, i32_w]
                  rfl
                refine pure_ (i := 1) (N := some 129) (v := ?_) (a' := ?_) #[true, true, false, false, false, false, false, false, false, false, false, false, false, false, false, false, false] rfl rfl (by kernel_rfl) (fun _ _ _ h => h) (Or.inl ⟨by rfl, ?_⟩) ?_ ?_
                rotate_left
                · intro w'
                  go_simp
                  with_reducible rfl
                rotate_left
                · simp only [Act.put, List.setIfInBounds_toArray, List.set_cons_zero, List.set_cons_succ, i64_w, i32_w]
                  rfl
                refine pure_ (i := 2) (N := some 130) (v := ?_) (a' := ?_) #[true, true, true, false, false, false, false, false, false, false, false, false, false, false, false, false, false] rfl rfl (by kernel_rfl) (fun _ _ _ h => h) (Or.inl ⟨by rfl, ?_⟩) ?_ ?_
                rotate_left
                · intro w'
                  go_simp
                  with_reducible rfl
                rotate_left
                · simp only [Act.put, List.setIfInBounds_toArray, List.set_cons_zero, List.set_cons_succ, i64_w, i32_w]
                  rfl
                refine pure_ (i := 3) (N := some 131) (v := ?_) (a' := ?_) #[true, true, true, true, false, false, false, false, false, false, false, false, false, false, false, false, false] rfl rfl (by kernel_rfl) (fun _ _ _ h => h) (Or.inl ⟨by rfl, ?_⟩) ?_ ?_
                rotate_left
                · intro w'
                  go_simp
                  with_reducible rfl
                rotate_left
                · simp only [Act.put, List.setIfInBounds_toArray, List.set_cons_zero, List.set_cons_succ, i64_w, i32_w]
                  rfl
                refine pure_ (i := 4) (N := some 132) (v := ?_) (a' := ?_) #[true, true, true, true, true, false, false, false, false, false, false, false, false, false, false, false, false] rfl rfl (by kernel_rfl) (fun _ _ _ h => h) (Or.inl ⟨by rfl, ?_⟩) ?_ ?_
                rotate_left
                · intro w'
                  go_simp
                  with_reducible rfl
                rotate_left
                · simp only [Act.put, List.setIfInBounds_toArray, List.set_cons_zero, List.set_cons_succ, i64_w, i32_w]
                  rfl
                refine pure_ (i := 6) (N := some 134) (v := ?_) (a' := ?_) #[true, true, true, true, true, false, true, false, false, false, false, false, false, false, false, false, false] rfl rfl (by kernel_rfl) (fun _ _ _ h => h) (Or.inl ⟨by rfl, ?_⟩) ?_ ?_
                rotate_left
                · intro w'
                  go_simp
                  with_reducible rfl
                rotate_left
                · simp only [Act.put, List.setIfInBounds_toArray, List.set_cons_zero, List.set_cons_succ, i64_w, i32_w]
                  rfl
                refine pure_ (i := 7) (N := some 135) (v := ?_) (a' := ?_) #[true, true, true, true, true, false, true, true, false, false, false, false, false, false, false, false, false] rfl rfl (by kernel_rfl) (fun _ _ _ h => h) (Or.inl ⟨by rfl, ?_⟩) ?_ ?_
                rotate_left
                · intro w'
                  go_simp
                  with_reducible rfl
                rotate_left
                · simp only [Act.put, List.setIfInBounds_toArray, List.set_cons_zero, List.set_cons_succ, i64_w, i32_w]
                  rfl
                refine pure_ (i := 8) (N := some 136) (v := ?_) (a' := ?_) #[true, true, true, true, true, false, true, true, true, false, false, false, false, false, false, false, false] rfl rfl (by kernel_rfl) (fun _ _ _ h => h) (Or.inl ⟨by rfl, ?_⟩) ?_ ?_
                rotate_left
                · intro w'
                  go_simp
                  with_reducible rfl
                rotate_left
                · simp only [Act.put, List.setIfInBounds_toArray, List.set_cons_zero, List.set_cons_succ, i64_w, i32_w]
                  rfl
                refine pure_ (i := 10) (N := some 138) (v := ?_) (a' := ?_) #[true, true, true, true, true, false, true, true, true, false, true, false, false, false, false, false, false] rfl rfl (by kernel_rfl) (fun _ _ _ h => h) (Or.inl ⟨by rfl, ?_⟩) ?_ ?_
                rotate_left
                · intro w'
                  go_simp
                  with_reducible rfl
                rotate_left
                · simp only [Act.put, List.setIfInBounds_toArray, List.set_cons_zero, List.set_cons_succ, i64_w, i32_w]
                  rfl
                refine take_ (i := 5) (N := some 133) (v := ?_) (a' := ?_) #[true, true, true, true, true, true, true, true, true, false, true, false, false, false, false, false, false] rfl rfl (by kernel_rfl) (fun _ _ _ h => h) (Or.inl ⟨by rfl, ?_⟩) hHeld ?_ ?_
                rotate_left
                · rintro w' ⟨s0, s1, s2⟩
                  go_simp
                  with_reducible rfl
                rotate_left
                · simp only [Act.put, List.setIfInBounds_toArray, List.set_cons_zero, List.set_cons_succ, i64_w, i32_w]
                  rfl
                refine take_ (i := 9) (N := some 137) (v := ?_) (a' := ?_) #[true, true, true, true, true, true, true, true, true, true, true, false, false, false, false, false, false] rfl rfl (by kernel_rfl) (fun _ _ _ h => h) (Or.inl ⟨by rfl, ?_⟩) hHeld ?_ ?_
                rotate_left
                · rintro w' ⟨s0, s1, s2⟩
                  go_simp
                  with_reducible rfl
                rotate_left
                · simp only [Act.put, List.setIfInBounds_toArray, List.set_cons_zero, List.set_cons_succ, i64_w, i32_w]
                  rfl
                refine pure_ (i := 11) (N := some 139) (v := ?_) (a' := ?_) #[true, true, true, true, true, true, true, true, true, true, true, true, false, false, false, false, false] rfl rfl (by kernel_rfl) (fun _ _ _ h => h) (Or.inl ⟨by rfl, ?_⟩) ?_ ?_
                rotate_left
                · intro w'
                  go_simp
                  with_reducible rfl
                rotate_left
                · simp only [Act.put, List.setIfInBounds_toArray, List.set_cons_zero, List.set_cons_succ, i64_w, i32_w]
                  rfl
                refine take_ (i := 12) (N := some 140) (v := ?_) (a' := ?_) #[true, true, true, true, true, true, true, true, true, true, true, true, true, false, false, false, false] rfl rfl (by kernel_rfl) (fun _ _ _ h => h) (Or.inl ⟨by rfl, ?_⟩) hHeld ?_ ?_
                rotate_left
                · rintro w' ⟨s0, s1, s2⟩
                  go_simp
                  with_reducible rfl
                rotate_left
                · simp only [Act.put, List.setIfInBounds_toArray, List.set_cons_zero, List.set_cons_succ, i64_w, i32_w]
                  rfl
                refine one_ (i := 13) (N := some 141) #[true, true, true, true, true, true, true, true, true, true, true, true, true, true, false, false, false] rfl rfl (by kernel_rfl) (by decide) (fun K hK => ?_)
                refine goes_ Tryd.func42 (by kernel_rfl) rfl #[.slice A3 rq.length c3, .int .i64 x] (by rfl) rfl rfl (by simp only [List.map_toArray, List.map_cons, List.map_nil]; rfl) ?_
                refine (where42 (C_fr HCQ.out (Fr0.trans HFI.out (Fr.drew (Fr.refl _ _)))) hlq x).mono ?_
                rw [HZ.out]
                rintro e w20 ⟨rfl, hf20⟩
                refine ⟨_, rfl, ?_⟩
                have H20 := Lib.hid (Fr0.trans (Fr.drew (Fr.refl _ wr)) hf20)
                refine hK.out _ _ ⟨(H20.out.cell0 yi), (H20.out.cell0 xi), (H20.out.cell0 zi)⟩ (fun hHeld => ?_)
                clear hK K
                refine norm_ (a' := ?_) ?_ ?_
                rotate_left
                · show Act.put _ (some 141) _ = _
                  simp only [Act.put, List.setIfInBounds_toArray, List.set_cons_zero, List.set_cons_succ, i64_w, i32_w]
                  rfl
                refine pure_ (i := 14) (N := some 142) (v := ?_) (a' := ?_) #[true, true, true, true, true, true, true, true, true, true, true, true, true, true, true, false, false] rfl rfl (by kernel_rfl) (fun _ _ _ h => h) (Or.inl ⟨by rfl, ?_⟩) ?_ ?_
                rotate_left
                · intro w'
                  go_simp
                  with_reducible rfl
                rotate_left
                · simp only [Act.put, List.setIfInBounds_toArray, List.set_cons_zero, List.set_cons_succ, i64_w, i32_w]
                  rfl
                refine pure_ (i := 15) (N := some 143) (v := ?_) (a' := ?_) #[true, true, true, true, true, true, true, true, true, true, true, true, true, true, true, true, false] rfl rfl (by kernel_rfl) (fun _ _ _ h => h) (Or.inl ⟨by rfl, ?_⟩) ?_ ?_
                rotate_left
                · intro w'
                  go_simp
                  with_reducible rfl
                rotate_left
                · simp only [Act.put, List.setIfInBounds_toArray, List.set_cons_zero, List.set_cons_succ, i64_w, i32_w]
                  rfl
                refine pure_ (i := 16) (N := some 17) (v := ?_) (a' := ?_) #[true, true, true, true, true, true, true, true, true, true, true, true, true, true, true, true, true] rfl rfl (by kernel_rfl) (fun _ _ _ h => h) (Or.inl ⟨by rfl, ?_⟩) ?_ ?_
                rotate_left
                · intro w'
                  go_simp
                  with_reducible rfl
                rotate_left
                · simp only [Act.put, List.setIfInBounds_toArray, List.set_cons_zero, List.set_cons_succ, i64_w, i32_w]
                  rfl
                refine done_ (by kernel_rfl) ?_
                go_wp2
                go_roundw
                case rel => exact ⟨_, i + 1, by omega, by rfl, by go_num, by rw [HTA.out, ← Bool.and_assoc, ← HCC.out, Bool.true_and, Bool.eq_iff_iff, decide_eq_true_eq]; exact HWH.out, HFI.out.trans H20.out⟩
                case measure => simp [intOf]; omega
            · obtain rfl : i = r.length := by omega
              have hlei' : ¬ ((r.length : Int) < r.length) := by omega
              rw [List.take_length] at hcc
              have HCC := Lib.hid hcc
              have HFI := Lib.hid hfi
              clear hcc hfi
              go_upto_region 25 with fail
              refine start_ (n := 14) (S := fun w' => w'.cell? (adq.add k) = some (.slice A3 rq.length c3) ∧ w'.cell? (adp.add k) = some (.slice A2 r.length c2)) (ds := []) #[false, false, false, false, false, false, false, false, false, false, false, false, false, false] (by kernel_rfl) rfl rfl ⟨yi, xi⟩ (fun hHeld => ?_)
              refine pure_ (i := 0) (N := some 144) (v := ?_) (a' := ?_) #[true, false, false, false, false, false, false, false, false, false, false, false, false, false] rfl rfl (by kernel_rfl) (fun _ _ _ h => h) (Or.inl ⟨by rfl, ?_⟩) ?_ ?_
              rotate_left
              · intro w'
                go_simp
                with_reducible rfl
              rotate_left
              · simp only [Act.put, List.setIfInBounds_toArray, List.set_cons_zero, List.set_cons_succ, i64_w, i32_w]
                rfl
              refine pure_ (i := 1) (N := some 145) (v := ?_) (a' := ?_) #[true, true, false, false, false, false, false, false, false, false, false, false, false, false] rfl rfl (by kernel_rfl) (fun _ _ _ h => h) (Or.inl ⟨by rfl, ?_⟩) ?_ ?_
              rotate_left
              · intro w'
                go_simp
                with_reducible rfl
              rotate_left
              · simp only [Act.put, List.setIfInBounds_toArray, List.set_cons_zero, List.set_cons_succ, i64_w, i32_w]
                rfl
              refine pure_ (i := 2) (N := some 146) (v := ?_) (a' := ?_) #[true, true, true, false, false, false, false, false, false, false, false, false, false, false] rfl rfl (by kernel_rfl) (fun _ _ _ h => h) (Or.inl ⟨by rfl, ?_⟩) ?_ ?_
              rotate_left
              · intro w'
                go_simp
                with_reducible rfl
              rotate_left
              · simp only [Act.put, List.setIfInBounds_toArray, List.set_cons_zero, List.set_cons_succ, i64_w, i32_w]
                rfl
              refine pure_ (i := 3) (N := some 147) (v := ?_) (a' := ?_) #[true, true, true, true, false, false, false, false, false, false, false, false, false, false] rfl rfl (by kernel_rfl) (fun _ _ _ h => h) (Or.inl ⟨by rfl, ?_⟩) ?_ ?_
              rotate_left
              · intro w'
                go_simp
                with_reducible rfl
              rotate_left
              · simp only [Act.put, List.setIfInBounds_toArray, List.set_cons_zero, List.set_cons_succ, i64_w, i32_w]
                rfl
              refine pure_ (i := 6) (N := some 150) (v := ?_) (a' := ?_) #[true, true, true, true, false, false, true, false, false, false, false, false, false, false] rfl rfl (by kernel_rfl) (fun _ _ _ h => h) (Or.inl ⟨by rfl, ?_⟩) ?_ ?_
              rotate_left
              · intro w'
                go_simp
                with_reducible rfl
              rotate_left
              · simp only [Act.put, List.setIfInBounds_toArray, List.set_cons_zero, List.set_cons_succ, i64_w, i32_w]
                rfl
              refine pure_ (i := 7) (N := some 151) (v := ?_) (a' := ?_) #[true, true, true, true, false, false, true, true, false, false, false, false, false, false] rfl rfl (by kernel_rfl) (fun _ _ _ h => h) (Or.inl ⟨by rfl, ?_⟩) ?_ ?_
              rotate_left
              · intro w'
                go_simp
                with_reducible rfl
              rotate_left
              · simp only [Act.put, List.setIfInBounds_toArray, List.set_cons_zero, List.set_cons_succ, i64_w, i32_w]
                rfl
              refine pure_ (i := 8) (N := some 152) (v := ?_) (a' := ?_) #[true, true, true, true, false, false, true, true, true, false, false, false, false, false] rfl rfl (by kernel_rfl) (fun _ _ _ h => h) (Or.inl ⟨by rfl, ?_⟩) ?_ ?_
              rotate_left
              · intro w'
                go_simp
                with_reducible rfl
              rotate_left
              · simp only [Act.put, List.setIfInBounds_toArray, List.set_cons_zero, List.set_cons_succ, i64_w, i32_w]
                rfl
              refine take_ (i := 4) (N := some 148) (v := ?_) (a' := ?_) #[true, true, true, true, true, false, true, true, true, false, false, false, false, false] rfl rfl (by kernel_rfl) (fun _ _ _ h => h) (Or.inl ⟨by rfl, ?_⟩) hHeld ?_ ?_
              rotate_left
              · rintro w' ⟨s0, s1⟩
                go_simp
                with_reducible rfl
              rotate_left
              · simp only [Act.put, List.setIfInBounds_toArray, List.set_cons_zero, List.set_cons_succ, i64_w, i32_w]
                rfl
              refine pure_ (i := 5) (N := some 149) (v := ?_) (a' := ?_) #[true, true, true, true, true, true, true, true, true, false, false, false, false, false] rfl rfl (by kernel_rfl) (fun _ _ _ h => h) (Or.inl ⟨by rfl, ?_⟩) ?_ ?_
              rotate_left
              · intro w'
                go_simp
                with_reducible rfl
              rotate_left
              · simp only [Act.put, List.setIfInBounds_toArray, List.set_cons_zero, List.set_cons_succ, i64_w, i32_w]
                rfl
              refine take_ (i := 9) (N := some 153) (v := ?_) (a' := ?_) #[true, true, true, true, true, true, true, true, true, true, false, false, false, false] rfl rfl (by kernel_rfl) (fun _ _ _ h => h) (Or.inl ⟨by rfl, ?_⟩) hHeld ?_ ?_
              rotate_left
              · rintro w' ⟨s0, s1⟩
                go_simp
                with_reducible rfl
              rotate_left
              · simp only [Act.put, List.setIfInBounds_toArray, List.set_cons_zero, List.set_cons_succ, i64_w, i32_w]
                rfl
              refine pure_ (i := 10) (N := some 154) (v := ?_) (a' := ?_) #[true, true, true, true, true, true, true, true, true, true, true, false, false, false] rfl rfl (by kernel_rfl) (fun _ _ _ h => h) (Or.inl ⟨by rfl, ?_⟩) ?_ ?_
              rotate_left
              · intro w'
                go_simp
                with_reducible rfl
              rotate_left
              · simp only [Act.put, List.setIfInBounds_toArray, List.set_cons_zero, List.set_cons_succ, i64_w, i32_w]
                rfl
              refine pure_ (i := 11) (N := some 155) (v := ?_) (a' := ?_) #[true, true, true, true, true, true, true, true, true, true, true, true, false, false] rfl rfl (by kernel_rfl) (fun _ _ _ h => h) (Or.inl ⟨by rfl, ?_⟩) ?_ ?_
              rotate_left
              · intro w'
                go_simp
                with_reducible rfl
              rotate_left
              · simp only [Act.put, List.setIfInBounds_toArray, List.set_cons_zero, List.set_cons_succ, i64_w, i32_w]
                rfl
              refine pure_ (i := 12) (N := some 156) (v := ?_) (a' := ?_) #[true, true, true, true, true, true, true, true, true, true, true, true, true, false] rfl rfl (by kernel_rfl) (fun _ _ _ h => h) (Or.inl ⟨by rfl, ?_⟩) ?_ ?_
              rotate_left
              · intro w'
                go_simp
                with_reducible rfl
              rotate_left
              · simp only [Act.put, List.setIfInBounds_toArray, List.set_cons_zero, List.set_cons_succ, i64_w, i32_w]
                rfl
              refine pure_ (i := 13) (N := some 18) (v := ?_) (a' := ?_) #[true, true, true, true, true, true, true, true, true, true, true, true, true, true] rfl rfl (by kernel_rfl) (fun _ _ _ h => h) (Or.inl ⟨by rfl, ?_⟩) ?_ ?_
              rotate_left
              · intro w'
                go_simp
                with_reducible rfl
              rotate_left
              · simp only [Act.put, List.setIfInBounds_toArray, List.set_cons_zero, List.set_cons_succ, i64_w, i32_w]
                rfl
              refine done_ (by kernel_rfl) ?_
              go_wp2
              go_roundw
              case rel => exact ⟨k + 1, by omega, by rw [HFT.out, HCC.out], by rw [HMT.out], by go_num, HW.out.trans (HFI.out.trans (Fr.drew (Fr.refl _ _)))⟩
              case measure => simp [intOf]; omega
        · obtain rfl : k = p.length := by omega
          have hle'' : ¬ ((p.length : Int) < q.length) := by have := HQL.out; omega
          rw [HCF.out, HMI.out]
          have HF9 := Lib.hid (Fr0.trans HF8.out hfw)
          have HX9 := Lib.hid (HX8.out.fr0 hfw)
          have HL9 := Lib.hid (C_fr HCL.out (Fr0.trans H28.out hfw))
          clear hfw
          go_upto_region 27 with (first
            | (go_at_call 46; refine (at46 (-1) 0 _).mono ?_; rintro e w10 ⟨rfl, hf10⟩; (have H10 := Lib.hid hf10); clear hf10))
          have hx22 : Bx (w10.alloc (.cells #[.int .i64 (-1), .int .i64 0] 38)) w10.heap.size 38 #[.int .i64 (-1), .int .i64 0] := Bx.of_new rfl
          have hf11 : Fr0 w10 (w10.alloc (.cells #[.int .i64 (-1), .int .i64 0] 38)) := (Fr.refl _ _).alloc _
          have HF10 := Lib.hid (Fr0.trans HF9.out H10.out)
          have HX10 := Lib.hid (HX9.out.fr0 H10.out)
          have HL10 := Lib.hid (C_fr HL9.out H10.out)
          have hb22 : w10.heap.size ≤ w10.heap.size := Nat.le_refl _
          generalize hg22 : w10.heap.size = b22 at hx22 hb22 ⊢
          have HB22 := Lib.hid (show w10.heap.size ≤ b22 by omega)
          clear hg22 hb22
          generalize w10.alloc (.cells #[.int .i64 (-1), .int .i64 0] 38) = W10 at hx22 hf11 ⊢
          have hord : ∀ t ∈ L.drop 0, befB ⟨-1, 0⟩ t = true := fun t ht => by
            rw [List.drop_zero] at ht
            obtain ⟨j, hj, rfl⟩ := List.getElem_of_mem ht
            exact HORD.out j hj
          go_wp2
          go_loopw [21, 23] (fun v21 v23 wr => ∃ (fo : Bool) (n : Nat) (y z : Int), n ≤ L.length ∧ v21 = .bool fo ∧ fo = foundL sp0 sp1 L n ∧ v23 = .int .i64 n ∧ Bx wr b22 38 #[.int .i64 y, .int .i64 z] ∧ (∀ t ∈ L.drop n, befB ⟨y, z⟩ t = true) ∧ Fr0 w10 wr) (fun _ v23 _ => (L.length - intOf v23).toNat)
          case atStart => exact ⟨false, 0, -1, 0, by omega, by rfl, by rfl, by rfl, hx22, hord, hf11⟩
          case round =>
            clear hx22 hf11 hord
            obtain ⟨fo, n, y, z, hn, rfl, hfo, rfl, hbx, hbe, hfw⟩ := hrel
            by_cases hltn : n < L.length
            · have hlen : (n : Int) < L.length := by omega
              obtain ⟨ads, es, x0, x1⟩ := at_T38 (C_fr HL10.out hfw) (n : Int) (by omega) hlen
              subst es
              rw [Int.toNat_natCast] at x0 x1
              have hsj : rd_T38 L (n : Int) = L[n] := by simp [rd_T38, hltn]
              have hdr := List.drop_eq_getElem_cons hltn
              have hbt := befB_iff.1 (hbe L[n] (by rw [hdr]; exact List.mem_cons_self))
              have hrest : ∀ t ∈ L.drop (n + 1), befB ⟨L[n].f0, L[n].f1⟩ t = true := fun t ht => by
                obtain ⟨j, hj, rfl⟩ := List.getElem_of_mem ht
                rw [List.length_drop] at hj
                rw [List.getElem_drop]
                exact List.pairwise_iff_getElem.1 HPW.out n (n + 1 + j) hltn (by omega) (by omega)
              have hfs := foundL_succ sp0 sp1 L n hltn
              rw [← hfo] at hfs
              rw [hsj] at x0 x1
              clear hsj hdr hbe
              have HX11 := Lib.hid (HX10.out.fr0 hfw)
              generalize L[n] = s at *
              obtain ⟨f0, f1⟩ := s
              dsimp only at x0 x1 hbt hrest hfs
              have HREST := Lib.hid hrest
              have HFS := Lib.hid hfs
              have HBX := Lib.hid hbx
              have HFW := Lib.hid hfw
              have HX0 := Lib.hid x0
              have HX1 := Lib.hid x1
              have y0 := hbx.at_ 0 (v := .int .i64 y) rfl
              have y1 := hbx.at_ 1 (v := .int .i64 z) rfl
              clear hrest hfs hbx hfw hfo
              have hn1 : ¬ f0 < y := by omega
              by_cases c1 : f0 = y
              · subst c1
                have hn2 : ¬ f1 ≤ z := by omega
                go_upto_region 30 with fail
                refine start_ (n := 28) (S := fun w' => w'.cell? (ads.add (n * 2)) = some (.int .i64 f0) ∧ w'.cell? ⟨(ads.add (n * 2)).block, (ads.add (n * 2)).off + 1, none⟩ = some (.int .i64 f1) ∧ w'.cell? ⟨b22, 0, none⟩ = some (.int .i64 f0) ∧ w'.cell? ⟨b22, 1, none⟩ = some (.int .i64 z)) (ds := []) #[false, false, false, false, false, false, false, false, false, false, false, false, false, false, false, false, false, false, false, false, false, false, false, false, false, false, false, false] (by kernel_rfl) rfl rfl ⟨x0, x1, y0, y1⟩ (fun hHeld => ?_)
                refine pure_ (i := 0) (N := some 164) (v := ?_) (a' := ?_) #[true, false, false, false, false, false, false, false, false, false, false, false, false, false, false, false, false, false, false, false, false, false, false, false, false, false, false, false] rfl rfl (by kernel_rfl) (fun _ _ _ h => h) (Or.inl ⟨by rfl, ?_⟩) ?_ ?_
                rotate_left
                · intro w'
                  go_simp
                  with_reducible rfl
                rotate_left
                · simp only [Act.put, List.setIfInBounds_toArray, List.set_cons_zero, List.set_cons_succ, i64_w, i32_w]
                  rfl
                refine pure_ (i := 1) (N := some 165) (v := ?_) (a' := ?_) #[true, true, false, false, false, false, false, false, false, false, false, false, false, false, false, false, false, false, false, false, false, false, false, false, false, false, false, false] rfl rfl (by kernel_rfl) (fun _ _ _ h => h) (Or.inl ⟨by rfl, ?_⟩) ?_ ?_
                rotate_left
                · intro w'
                  go_simp
                  with_reducible rfl
                rotate_left
                · simp only [Act.put, List.setIfInBounds_toArray, List.set_cons_zero, List.set_cons_succ, i64_w, i32_w]
                  rfl
                refine pure_ (i := 2) (N := some 166) (v := ?_) (a' := ?_) #[true, true, true, false, false, false, false, false, false, false, false, false, false, false, false, false, false, false, false, false, false, false, false, false, false, false, false, false] rfl rfl (by kernel_rfl) (fun _ _ _ h => h) (Or.inl ⟨by rfl, ?_⟩) ?_ ?_
                rotate_left
                · intro w'
                  go_simp
                  with_reducible rfl
                rotate_left
                · simp only [Act.put, List.setIfInBounds_toArray, List.set_cons_zero, List.set_cons_succ, i64_w, i32_w]
                  rfl
                refine pure_ (i := 3) (N := some 167) (v := ?_) (a' := ?_) #[true, true, true, true, false, false, false, false, false, false, false, false, false, false, false, false, false, false, false, false, false, false, false, false, false, false, false, false] rfl rfl (by kernel_rfl) (fun _ _ _ h => h) (Or.inl ⟨by rfl, ?_⟩) ?_ ?_
                rotate_left
                · intro w'
                  go_simp
                  with_reducible rfl
                rotate_left
                · simp only [Act.put, List.setIfInBounds_toArray, List.set_cons_zero, List.set_cons_succ, i64_w, i32_w]
                  rfl
                refine pure_ (i := 5) (N := some 169) (v := ?_) (a' := ?_) #[true, true, true, true, false, true, false, false, false, false, false, false, false, false, false, false, false, false, false, false, false, false, false, false, false, false, false, false] rfl rfl (by kernel_rfl) (fun _ _ _ h => h) (Or.inl ⟨by rfl, ?_⟩) ?_ ?_
                rotate_left
                · intro w'
                  go_simp
                  with_reducible rfl
                rotate_left
                · simp only [Act.put, List.setIfInBounds_toArray, List.set_cons_zero, List.set_cons_succ, i64_w, i32_w]
                  rfl
                refine take_ (i := 4) (N := some 168) (v := ?_) (a' := ?_) #[true, true, true, true, true, true, false, false, false, false, false, false, false, false, false, false, false, false, false, false, false, false, false, false, false, false, false, false] rfl rfl (by kernel_rfl) (fun _ _ _ h => h) (Or.inl ⟨by rfl, ?_⟩) hHeld ?_ ?_
                rotate_left
                · rintro w' ⟨s0, s1, s2, s3⟩
                  go_simp
                  with_reducible rfl
                rotate_left
                · simp only [Act.put, List.setIfInBounds_toArray, List.set_cons_zero, List.set_cons_succ, i64_w, i32_w]
                  rfl
                refine take_ (i := 6) (N := some 170) (v := ?_) (a' := ?_) #[true, true, true, true, true, true, true, false, false, false, false, false, false, false, false, false, false, false, false, false, false, false, false, false, false, false, false, false] rfl rfl (by kernel_rfl) (fun _ _ _ h => h) (Or.inl ⟨by rfl, ?_⟩) hHeld ?_ ?_
                rotate_left
                · rintro w' ⟨s0, s1, s2, s3⟩
                  go_simp
                  with_reducible rfl
                rotate_left
                · simp only [Act.put, List.setIfInBounds_toArray, List.set_cons_zero, List.set_cons_succ, i64_w, i32_w]
                  rfl
                refine pure_ (i := 7) (N := some 171) (v := ?_) (a' := ?_) #[true, true, true, true, true, true, true, true, false, false, false, false, false, false, false, false, false, false, false, false, false, false, false, false, false, false, false, false] rfl rfl (by kernel_rfl) (fun _ _ _ h => h) (Or.inl ⟨by rfl, ?_⟩) ?_ ?_
                rotate_left
                · intro w'
                  go_simp
                  with_reducible rfl
                rotate_left
                · simp only [Act.put, List.setIfInBounds_toArray, List.set_cons_zero, List.set_cons_succ, i64_w, i32_w]
                  rfl
                refine pure_ (i := 8) (N := some 172) (v := ?_) (a' := ?_) #[true, true, true, true, true, true, true, true, true, false, false, false, false, false, false, false, false, false, false, false, false, false, false, false, false, false, false, false] rfl rfl (by kernel_rfl) (fun _ _ _ h => h) (Or.inl ⟨by rfl, ?_⟩) ?_ ?_
                rotate_left
                · intro w'
                  go_simp
                  with_reducible rfl
                rotate_left
                · simp only [Act.put, List.setIfInBounds_toArray, List.set_cons_zero, List.set_cons_succ, i64_w, i32_w]
                  rfl
                refine pure_ (i := 9) (N := some 173) (v := ?_) (a' := ?_) #[true, true, true, true, true, true, true, true, true, true, false, false, false, false, false, false, false, false, false, false, false, false, false, false, false, false, false, false] rfl rfl (by kernel_rfl) (fun _ _ _ h => h) (Or.inl ⟨by rfl, ?_⟩) ?_ ?_
                rotate_left
                · intro w'
                  go_simp
                  with_reducible rfl
                rotate_left
                · simp only [Act.put, List.setIfInBounds_toArray, List.set_cons_zero, List.set_cons_succ, i64_w, i32_w]
                  rfl
                refine pure_ (i := 10) (N := some 174) (v := ?_) (a' := ?_) #[true, true, true, true, true, true, true, true, true, true, true, false, false, false, false, false, false, false, false, false, false, false, false, false, false, false, false, false] rfl rfl (by kernel_rfl) (fun _ _ _ h => h) (Or.inl ⟨by rfl, ?_⟩) ?_ ?_
                rotate_left
                · intro w'
                  go_simp
                  with_reducible rfl
                rotate_left
                · simp only [Act.put, List.setIfInBounds_toArray, List.set_cons_zero, List.set_cons_succ, i64_w, i32_w]
                  rfl
                refine pure_ (i := 11) (N := some 175) (v := ?_) (a' := ?_) #[true, true, true, true, true, true, true, true, true, true, true, true, false, false, false, false, false, false, false, false, false, false, false, false, false, false, false, false] rfl rfl (by kernel_rfl) (fun _ _ _ h => h) (Or.inl ⟨by rfl, ?_⟩) ?_ ?_
                rotate_left
                · intro w'
                  go_simp
                  with_reducible rfl
                rotate_left
                · simp only [Act.put, List.setIfInBounds_toArray, List.set_cons_zero, List.set_cons_succ, i64_w, i32_w]
                  rfl
                refine pure_ (i := 12) (N := some 176) (v := ?_) (a' := ?_) #[true, true, true, true, true, true, true, true, true, true, true, true, true, false, false, false, false, false, false, false, false, false, false, false, false, false, false, false] rfl rfl (by kernel_rfl) (fun _ _ _ h => h) (Or.inl ⟨by rfl, ?_⟩) ?_ ?_
                rotate_left
                · intro w'
                  go_simp
                  with_reducible rfl
                rotate_left
                · simp only [Act.put, List.setIfInBounds_toArray, List.set_cons_zero, List.set_cons_succ, i64_w, i32_w]
                  rfl
                refine pure_ (i := 14) (N := some 178) (v := ?_) (a' := ?_) #[true, true, true, true, true, true, true, true, true, true, true, true, true, false, true, false, false, false, false, false, false, false, false, false, false, false, false, false] rfl rfl (by kernel_rfl) (fun _ _ _ h => h) (Or.inl ⟨by rfl, ?_⟩) ?_ ?_
                rotate_left
                · intro w'
                  go_simp
                  with_reducible rfl
                rotate_left
                · simp only [Act.put, List.setIfInBounds_toArray, List.set_cons_zero, List.set_cons_succ, i64_w, i32_w]
                  rfl
                refine take_ (i := 13) (N := some 177) (v := ?_) (a' := ?_) #[true, true, true, true, true, true, true, true, true, true, true, true, true, true, true, false, false, false, false, false, false, false, false, false, false, false, false, false] rfl rfl (by kernel_rfl) (fun _ _ _ h => h) (Or.inl ⟨by rfl, ?_⟩) hHeld ?_ ?_
                rotate_left
                · rintro w' ⟨s0, s1, s2, s3⟩
                  go_simp
                  with_reducible rfl
                rotate_left
                · simp only [Act.put, List.setIfInBounds_toArray, List.set_cons_zero, List.set_cons_succ, i64_w, i32_w]
                  rfl
                refine take_ (i := 15) (N := some 179) (v := ?_) (a' := ?_) #[true, true, true, true, true, true, true, true, true, true, true, true, true, true, true, true, false, false, false, false, false, false, false, false, false, false, false, false] rfl rfl (by kernel_rfl) (fun _ _ _ h => h) (Or.inl ⟨by rfl, ?_⟩) hHeld ?_ ?_
                rotate_left
                · rintro w' ⟨s0, s1, s2, s3⟩
                  go_simp
                  with_reducible rfl
                rotate_left
                · simp only [Act.put, List.setIfInBounds_toArray, List.set_cons_zero, List.set_cons_succ, i64_w, i32_w]
                  rfl
                refine pure_ (i := 16) (N := some 180) (v := ?_) (a' := ?_) #[true, true, true, true, true, true, true, true, true, true, true, true, true, true, true, true, true, false, false, false, false, false, false, false, false, false, false, false] rfl rfl (by kernel_rfl) (fun _ _ _ h => h) (Or.inl ⟨by rfl, ?_⟩) ?_ ?_
                rotate_left
                · intro w'
                  go_simp
                  with_reducible rfl
                rotate_left
                · simp only [Act.put, List.setIfInBounds_toArray, List.set_cons_zero, List.set_cons_succ, i64_w, i32_w]
                  rfl
                refine pure_ (i := 17) (N := some 181) (v := ?_) (a' := ?_) #[true, true, true, true, true, true, true, true, true, true, true, true, true, true, true, true, true, true, false, false, false, false, false, false, false, false, false, false] rfl rfl (by kernel_rfl) (fun _ _ _ h => h) (Or.inl ⟨by rfl, ?_⟩) ?_ ?_
                rotate_left
                · intro w'
                  go_simp
                  with_reducible rfl
                rotate_left
                · simp only [Act.put, List.setIfInBounds_toArray, List.set_cons_zero, List.set_cons_succ, i64_w, i32_w]
                  rfl
                refine pure_ (i := 18) (N := some 182) (v := ?_) (a' := ?_) #[true, true, true, true, true, true, true, true, true, true, true, true, true, true, true, true, true, true, true, false, false, false, false, false, false, false, false, false] rfl rfl (by kernel_rfl) (fun _ _ _ h => h) (Or.inl ⟨by rfl, ?_⟩) ?_ ?_
                rotate_left
                · intro w'
                  go_simp
                  with_reducible rfl
                rotate_left
                · simp only [Act.put, List.setIfInBounds_toArray, List.set_cons_zero, List.set_cons_succ, i64_w, i32_w]
                  rfl
                refine pure_ (i := 19) (N := some 183) (v := ?_) (a' := ?_) #[true, true, true, true, true, true, true, true, true, true, true, true, true, true, true, true, true, true, true, true, false, false, false, false, false, false, false, false] rfl rfl (by kernel_rfl) (fun _ _ _ h => h) (Or.inl ⟨by rfl, ?_⟩) ?_ ?_
                rotate_left
                · intro w'
                  go_simp
                  with_reducible rfl
                rotate_left
                · simp only [Act.put, List.setIfInBounds_toArray, List.set_cons_zero, List.set_cons_succ, i64_w, i32_w]
                  rfl
                refine pure_ (i := 20) (N := some 184) (v := ?_) (a' := ?_) #[true, true, true, true, true, true, true, true, true, true, true, true, true, true, true, true, true, true, true, true, true, false, false, false, false, false, false, false] rfl rfl (by kernel_rfl) (fun _ _ _ h => h) (Or.inl ⟨by rfl, ?_⟩) ?_ ?_
                rotate_left
                · intro w'
                  go_simp
                  with_reducible rfl
                rotate_left
                · simp only [Act.put, List.setIfInBounds_toArray, List.set_cons_zero, List.set_cons_succ, i64_w, i32_w]
                  rfl
                refine pure_ (i := 21) (N := some 185) (v := ?_) (a' := ?_) #[true, true, true, true, true, true, true, true, true, true, true, true, true, true, true, true, true, true, true, true, true, true, false, false, false, false, false, false] rfl rfl (by kernel_rfl) (fun _ _ _ h => h) (Or.inl ⟨by rfl, ?_⟩) ?_ ?_
                rotate_left
                · intro w'
                  go_simp
                  with_reducible rfl
                rotate_left
                · simp only [Act.put, List.setIfInBounds_toArray, List.set_cons_zero, List.set_cons_succ, i64_w, i32_w]
                  rfl
                refine pure_ (i := 23) (N := some 187) (v := ?_) (a' := ?_) #[true, true, true, true, true, true, true, true, true, true, true, true, true, true, true, true, true, true, true, true, true, true, false, true, false, false, false, false] rfl rfl (by kernel_rfl) (fun _ _ _ h => h) (Or.inl ⟨by rfl, ?_⟩) ?_ ?_
                rotate_left
                · intro w'
                  go_simp
                  with_reducible rfl
                rotate_left
                · simp only [Act.put, List.setIfInBounds_toArray, List.set_cons_zero, List.set_cons_succ, i64_w, i32_w]
                  rfl
                refine take_ (i := 22) (N := some 186) (v := ?_) (a' := ?_) #[true, true, true, true, true, true, true, true, true, true, true, true, true, true, true, true, true, true, true, true, true, true, true, true, false, false, false, false] rfl rfl (by kernel_rfl) (fun _ _ _ h => h) (Or.inl ⟨by rfl, ?_⟩) hHeld ?_ ?_
                rotate_left
                · rintro w' ⟨s0, s1, s2, s3⟩
                  go_simp
                  with_reducible rfl
                rotate_left
                · simp only [Act.put, List.setIfInBounds_toArray, List.set_cons_zero, List.set_cons_succ, i64_w, i32_w]
                  rfl
                refine take_ (i := 24) (N := some 188) (v := ?_) (a' := ?_) #[true, true, true, true, true, true, true, true, true, true, true, true, true, true, true, true, true, true, true, true, true, true, true, true, true, false, false, false] rfl rfl (by kernel_rfl) (fun _ _ _ h => h) (Or.inl ⟨by rfl, ?_⟩) hHeld ?_ ?_
                rotate_left
                · rintro w' ⟨s0, s1, s2, s3⟩
                  go_simp
                  with_reducible rfl
                rotate_left
                · simp only [Act.put, List.setIfInBounds_toArray, List.set_cons_zero, List.set_cons_succ, i64_w, i32_w]
                  rfl
                refine pure_ (i := 25) (N := some 189) (v := ?_) (a' := ?_) #[true, true, true, true, true, true, true, true, true, true, true, true, true, true, true, true, true, true, true, true, true, true, true, true, true, true, false, false] rfl rfl (by kernel_rfl) (fun _ _ _ h => h) (Or.inl ⟨by rfl, ?_⟩) ?_ ?_
                rotate_left
                · intro w'
                  go_simp
                  with_reducible rfl
                rotate_left
                · simp only [Act.put, List.setIfInBounds_toArray, List.set_cons_zero, List.set_cons_succ, i64_w, i32_w]
                  rfl
                refine pure_ (i := 26) (N := some 190) (v := ?_) (a' := ?_) #[true, true, true, true, true, true, true, true, true, true, true, true, true, true, true, true, true, true, true, true, true, true, true, true, true, true, true, false] rfl rfl (by kernel_rfl) (fun _ _ _ h => h) (Or.inl ⟨by rfl, ?_⟩) ?_ ?_
                rotate_left
                · intro w'
                  go_simp
                  with_reducible rfl
                rotate_left
                · simp only [Act.put, List.setIfInBounds_toArray, List.set_cons_zero, List.set_cons_succ, i64_w, i32_w]
                  rfl
                refine pure_ (i := 27) (N := some 191) (v := ?_) (a' := ?_) #[true, true, true, true, true, true, true, true, true, true, true, true, true, true, true, true, true, true, true, true, true, true, true, true, true, true, true, true] rfl rfl (by kernel_rfl) (fun _ _ _ h => h) (Or.inl ⟨by rfl, ?_⟩) ?_ ?_
                rotate_left
                · intro w'
                  go_simp
                  with_reducible rfl
                rotate_left
                · simp only [Act.put, List.setIfInBounds_toArray, List.set_cons_zero, List.set_cons_succ, i64_w, i32_w]
                  rfl
                refine done_ (by kernel_rfl) ?_
                cases fo
                · have g0 := y0; have g1 := y1; have g9 := HBX.out.frz 0; have g9' := HBX.out.frz 1; clear x0 x1 y0 y1
                  have HD := Lib.hid (Fr.drew (Fr.refl (fun _ => False) wr))
                  have HBD := Lib.hid (HBX.out.fr0 HD.out)
                  have HXD := Lib.hid (HX11.out.fr0 HD.out)
                  have x0 := HD.out.cell0 HX0.out
                  have x1 := HD.out.cell0 HX1.out
                  have y0 := HBD.out.at_ 0 (v := .int .i64 f0) rfl
                  have y1 := HBD.out.at_ 1 (v := .int .i64 z) rfl
                  have k9 := HBD.out.frz 0
                  have k9' := HBD.out.frz 1
                  have m0 := HXD.out.at_ 0 (v := .int .i64 sp0) rfl
                  have m1 := HXD.out.at_ 1 (v := .int .i64 sp1) rfl
                  go_upto_region 32 with fail
                  refine start_ (n := 15) (S := fun w' => w'.cell? (ads.add (n * 2)) = some (.int .i64 f0) ∧ w'.cell? ⟨(ads.add (n * 2)).block, (ads.add (n * 2)).off + 1, none⟩ = some (.int .i64 f1) ∧ w'.cell? ⟨b22, 0, none⟩ = some (.int .i64 f0) ∧ w'.cell? ⟨b22, 1, none⟩ = some (.int .i64 z) ∧ w'.cell? ⟨b12, 0, none⟩ = some (.int .i64 sp0) ∧ w'.cell? ⟨b12, 1, none⟩ = some (.int .i64 sp1)) (ds := [14]) #[false, false, false, false, false, false, false, false, false, false, false, false, false, false, false] (by kernel_rfl) rfl rfl ⟨x0, x1, y0, y1, m0, m1⟩ (fun hHeld => ?_)
                  refine pure_ (i := 0) (N := some 192) (v := ?_) (a' := ?_) #[true, false, false, false, false, false, false, false, false, false, false, false, false, false, false] rfl rfl (by kernel_rfl) (fun _ _ _ h => h) (Or.inl ⟨by rfl, ?_⟩) ?_ ?_
                  rotate_left
                  · intro w'
                    go_simp
                    with_reducible rfl
                  rotate_left
                  · simp only [Act.put, List.setIfInBounds_toArray, List.set_cons_zero, List.set_cons_succ, i64_w, i32_w]
                    rfl
                  refine pure_ (i := 1) (N := some 193) (v := ?_) (a' := ?_) #[true, true, false, false, false, false, false, false, false, false, false, false, false, false, false] rfl rfl (by kernel_rfl) (fun _ _ _ h => h) (Or.inl ⟨by rfl, ?_⟩) ?_ ?_
                  rotate_left
                  · intro w'
                    go_simp
                    with_reducible rfl
                  rotate_left
                  · simp only [Act.put, List.setIfInBounds_toArray, List.set_cons_zero, List.set_cons_succ, i64_w, i32_w]
                    rfl
                  refine pure_ (i := 2) (N := some 194) (v := ?_) (a' := ?_) #[true, true, true, false, false, false, false, false, false, false, false, false, false, false, false] rfl rfl (by kernel_rfl) (fun _ _ _ h => h) (Or.inl ⟨by rfl, ?_⟩) ?_ ?_
                  rotate_left
                  · intro w'
                    go_simp
                    with_reducible rfl
                  rotate_left
                  · simp only [Act.put, List.setIfInBounds_toArray, List.set_cons_zero, List.set_cons_succ, i64_w, i32_w]
                    rfl
                  refine pure_ (i := 3) (N := some 195) (v := ?_) (a' := ?_) #[true, true, true, true, false, false, false, false, false, false, false, false, false, false, false] rfl rfl (by kernel_rfl) (fun _ _ _ h => h) (Or.inl ⟨by rfl, ?_⟩) ?_ ?_
                  rotate_left
                  · intro w'
                    go_simp
                    with_reducible rfl
                  rotate_left
                  · simp only [Act.put, List.setIfInBounds_toArray, List.set_cons_zero, List.set_cons_succ, i64_w, i32_w]
                    rfl
                  refine pure_ (i := 4) (N := some 196) (v := ?_) (a' := ?_) #[true, true, true, true, true, false, false, false, false, false, false, false, false, false, false] rfl rfl (by kernel_rfl) (fun _ _ _ h => h) (Or.inl ⟨by rfl, ?_⟩) ?_ ?_
                  rotate_left
                  · intro w'
                    go_simp
                    with_reducible rfl
                  rotate_left
                  · simp only [Act.put, List.setIfInBounds_toArray, List.set_cons_zero, List.set_cons_succ, i64_w, i32_w]
                    rfl
                  refine pure_ (i := 9) (N := some 201) (v := ?_) (a' := ?_) #[true, true, true, true, true, false, false, false, false, true, false, false, false, false, false] rfl rfl (by kernel_rfl) (fun _ _ _ h => h) (Or.inl ⟨by rfl, ?_⟩) ?_ ?_
                  rotate_left
                  · intro w'
                    go_simp
                    with_reducible rfl
                  rotate_left
                  · simp only [Act.put, List.setIfInBounds_toArray, List.set_cons_zero, List.set_cons_succ, i64_w, i32_w]
                    rfl
                  refine pure_ (i := 10) (N := some 202) (v := ?_) (a' := ?_) #[true, true, true, true, true, false, false, false, false, true, true, false, false, false, false] rfl rfl (by kernel_rfl) (fun _ _ _ h => h) (Or.inl ⟨by rfl, ?_⟩) ?_ ?_
                  rotate_left
                  · intro w'
                    go_simp
                    with_reducible rfl
                  rotate_left
                  · simp only [Act.put, List.setIfInBounds_toArray, List.set_cons_zero, List.set_cons_succ, i64_w, i32_w]
                    rfl
                  refine pure_ (i := 11) (N := some 203) (v := ?_) (a' := ?_) #[true, true, true, true, true, false, false, false, false, true, true, true, false, false, false] rfl rfl (by kernel_rfl) (fun _ _ _ h => h) (Or.inl ⟨by rfl, ?_⟩) ?_ ?_
                  rotate_left
                  · intro w'
                    go_simp
                    with_reducible rfl
                  rotate_left
                  · simp only [Act.put, List.setIfInBounds_toArray, List.set_cons_zero, List.set_cons_succ, i64_w, i32_w]
                    rfl
                  refine take_ (i := 5) (N := some 197) (v := ?_) (a' := ?_) #[true, true, true, true, true, true, false, false, false, true, true, true, false, false, false] rfl rfl (by kernel_rfl) (fun _ _ _ h => h) (Or.inl ⟨by rfl, ?_⟩) hHeld ?_ ?_
                  rotate_left
                  · rintro w' ⟨s0, s1, s2, s3, s4, s5⟩
                    go_simp
                    with_reducible rfl
                  rotate_left
                  · simp only [Act.put, List.setIfInBounds_toArray, List.set_cons_zero, List.set_cons_succ, i64_w, i32_w]
                    rfl
                  refine take_ (i := 6) (N := some 198) (v := ?_) (a' := ?_) #[true, true, true, true, true, true, true, false, false, true, true, true, false, false, false] rfl rfl (by kernel_rfl) (fun _ _ _ h => h) (Or.inl ⟨by rfl, ?_⟩) hHeld ?_ ?_
                  rotate_left
                  · rintro w' ⟨s0, s1, s2, s3, s4, s5⟩
                    go_simp
                    with_reducible rfl
                  rotate_left
                  · simp only [Act.put, List.setIfInBounds_toArray, List.set_cons_zero, List.set_cons_succ, i64_w, i32_w]
                    rfl
                  refine pure_ (i := 7) (N := some 199) (v := ?_) (a' := ?_) #[true, true, true, true, true, true, true, true, false, true, true, true, false, false, false] rfl rfl (by kernel_rfl) (fun _ _ _ h => h) (Or.inl ⟨by rfl, ?_⟩) ?_ ?_
                  rotate_left
                  · intro w'
                    go_simp
                    with_reducible rfl
                  rotate_left
                  · simp only [Act.put, List.setIfInBounds_toArray, List.set_cons_zero, List.set_cons_succ, i64_w, i32_w]
                    rfl
                  refine pure_ (i := 8) (N := some 200) (v := ?_) (a' := ?_) #[true, true, true, true, true, true, true, true, true, true, true, true, false, false, false] rfl rfl (by kernel_rfl) (fun _ _ _ h => h) (Or.inl ⟨by rfl, ?_⟩) ?_ ?_
                  rotate_left
                  · intro w'
                    go_simp
                    with_reducible rfl
                  rotate_left
                  · simp only [Act.put, List.setIfInBounds_toArray, List.set_cons_zero, List.set_cons_succ, i64_w, i32_w]
                    rfl
                  refine pure_ (i := 13) (N := some 21) (v := ?_) (a' := ?_) #[true, true, true, true, true, true, true, true, true, true, true, true, false, true, false] rfl rfl (by kernel_rfl) (fun _ _ _ h => h) (Or.inl ⟨by rfl, ?_⟩) ?_ ?_
                  rotate_left
                  · intro w'
                    go_simp
                    with_reducible rfl
                  rotate_left
                  · simp only [Act.put, List.setIfInBounds_toArray, List.set_cons_zero, List.set_cons_succ, i64_w, i32_w]
                    rfl
                  refine take_ (i := 12) (N := some 204) (v := ?_) (a' := ?_) #[true, true, true, true, true, true, true, true, true, true, true, true, true, true, false] rfl rfl (by kernel_rfl) (fun _ _ _ h => h) (Or.inl ⟨by rfl, ?_⟩) hHeld ?_ ?_
                  rotate_left
                  · rintro w' ⟨s0, s1, s2, s3, s4, s5⟩
                    go_simp
                    with_reducible rfl
                  rotate_left
                  · simp only [Act.put, List.setIfInBounds_toArray, List.set_cons_zero, List.set_cons_succ, i64_w, i32_w]
                    rfl
                  refine last_ (i := 14) (N := none) #[true, true, true, true, true, true, true, true, true, true, true, true, true, true, true] rfl rfl (by kernel_rfl) (by decide) (fun K hK => ?_)
                  refine skip_ (w1 := ?_) (by rfl) rfl ?_ ?_
                  rotate_left
                  · go_simp
                    rfl
                  refine hK.out _ _ ?_
                  clear hK K
                  refine done_ (by kernel_rfl) ?_
                  go_wp2
                  go_roundw
                  case rel => exact ⟨_, n + 1, f0, f1, by omega, by rfl, by rw [HFS.out]; rfl, by go_num, two_set (HBD.out.fr0 (Fr.drew (Fr.refl (fun _ => False) _))) (.int .i64 f0) (.int .i64 f1), HREST.out, ((HFW.out.trans (HD.out.trans (Fr.drew (Fr.refl (fun _ => False) _)))).setCell (p := ⟨b22, 0, none⟩) (.inr (by dsimp only; exact HB22.out)) (.int .i64 f0)).setCell (p := ⟨b22, 1, none⟩) (.inr (by dsimp only; exact HB22.out)) (.int .i64 f1)⟩
                  case measure => simp [intOf]; omega
                · have g0 := y0; have g1 := y1; have g9 := HBX.out.frz 0; have g9' := HBX.out.frz 1; clear x0 x1 y0 y1
                  have HD := Lib.hid (Fr.drew (Fr.refl (fun _ => False) wr))
                  have HBD := Lib.hid (HBX.out.fr0 HD.out)
                  have HXD := Lib.hid (HX11.out.fr0 HD.out)
                  have x0 := HD.out.cell0 HX0.out
                  have x1 := HD.out.cell0 HX1.out
                  have y0 := HBD.out.at_ 0 (v := .int .i64 f0) rfl
                  have y1 := HBD.out.at_ 1 (v := .int .i64 z) rfl
                  have k9 := HBD.out.frz 0
                  have k9' := HBD.out.frz 1
                  go_upto_region 32 with fail
                  refine start_ (n := 15) (S := fun w' => w'.cell? (ads.add (n * 2)) = some (.int .i64 f0) ∧ w'.cell? ⟨(ads.add (n * 2)).block, (ads.add (n * 2)).off + 1, none⟩ = some (.int .i64 f1) ∧ w'.cell? ⟨b22, 0, none⟩ = some (.int .i64 f0) ∧ w'.cell? ⟨b22, 1, none⟩ = some (.int .i64 z)) (ds := [14]) #[false, false, false, false, false, false, false, false, false, false, false, false, false, false, false] (by kernel_rfl) rfl rfl ⟨x0, x1, y0, y1⟩ (fun hHeld => ?_)
                  refine pure_ (i := 0) (N := some 192) (v := ?_) (a' := ?_) #[true, false, false, false, false, false, false, false, false, false, false, false, false, false, false] rfl rfl (by kernel_rfl) (fun _ _ _ h => h) (Or.inl ⟨by rfl, ?_⟩) ?_ ?_
                  rotate_left
                  · intro w'
                    go_simp
                    with_reducible rfl
                  rotate_left
                  · simp only [Act.put, List.setIfInBounds_toArray, List.set_cons_zero, List.set_cons_succ, i64_w, i32_w]
                    rfl
                  refine pure_ (i := 1) (N := some 193) (v := ?_) (a' := ?_) #[true, true, false, false, false, false, false, false, false, false, false, false, false, false, false] rfl rfl (by kernel_rfl) (fun _ _ _ h => h) (Or.inl ⟨by rfl, ?_⟩) ?_ ?_
                  rotate_left
                  · intro w'
                    go_simp
                    with_reducible rfl
                  rotate_left
                  · simp only [Act.put, List.setIfInBounds_toArray, List.set_cons_zero, List.set_cons_succ, i64_w, i32_w]
                    rfl
                  refine pure_ (i := 2) (N := some 194) (v := undef) (a' := ?_) #[true, true, true, false, false, false, false, false, false, false, false, false, false, false, false] rfl rfl (by kernel_rfl) (fun _ _ _ h => h) (Or.inr ⟨by rfl, rfl⟩) ?_ ?_
                  rotate_left
                  · simp only [Act.put, List.setIfInBounds_toArray, List.set_cons_zero, List.set_cons_succ, i64_w, i32_w]
                    rfl
                  refine pure_ (i := 3) (N := some 195) (v := undef) (a' := ?_) #[true, true, true, true, false, false, false, false, false, false, false, false, false, false, false] rfl rfl (by kernel_rfl) (fun _ _ _ h => h) (Or.inr ⟨by rfl, rfl⟩) ?_ ?_
                  rotate_left
                  · simp only [Act.put, List.setIfInBounds_toArray, List.set_cons_zero, List.set_cons_succ, i64_w, i32_w]
                    rfl
                  refine pure_ (i := 4) (N := some 196) (v := undef) (a' := ?_) #[true, true, true, true, true, false, false, false, false, false, false, false, false, false, false] rfl rfl (by kernel_rfl) (fun _ _ _ h => h) (Or.inr ⟨by rfl, rfl⟩) ?_ ?_
                  rotate_left
                  · simp only [Act.put, List.setIfInBounds_toArray, List.set_cons_zero, List.set_cons_succ, i64_w, i32_w]
                    rfl
                  refine pure_ (i := 5) (N := some 197) (v := undef) (a' := ?_) #[true, true, true, true, true, true, false, false, false, false, false, false, false, false, false] rfl rfl (by kernel_rfl) (fun _ _ _ h => h) (Or.inr ⟨by rfl, rfl⟩) ?_ ?_
                  rotate_left
                  · simp only [Act.put, List.setIfInBounds_toArray, List.set_cons_zero, List.set_cons_succ, i64_w, i32_w]
                    rfl
                  refine pure_ (i := 6) (N := some 198) (v := undef) (a' := ?_) #[true, true, true, true, true, true, true, false, false, false, false, false, false, false, false] rfl rfl (by kernel_rfl) (fun _ _ _ h => h) (Or.inr ⟨by rfl, rfl⟩) ?_ ?_
                  rotate_left
                  · simp only [Act.put, List.setIfInBounds_toArray, List.set_cons_zero, List.set_cons_succ, i64_w, i32_w]
                    rfl
                  refine pure_ (i := 7) (N := some 199) (v := undef) (a' := ?_) #[true, true, true, true, true, true, true, true, false, false, false, false, false, false, false] rfl rfl (by kernel_rfl) (fun _ _ _ h => h) (Or.inr ⟨by rfl, rfl⟩) ?_ ?_
                  rotate_left
                  · simp only [Act.put, List.setIfInBounds_toArray, List.set_cons_zero, List.set_cons_succ, i64_w, i32_w]
                    rfl
                  refine pure_ (i := 8) (N := some 200) (v := ?_) (a' := ?_) #[true, true, true, true, true, true, true, true, true, false, false, false, false, false, false] rfl rfl (by kernel_rfl) (fun _ _ _ h => h) (Or.inl ⟨by rfl, ?_⟩) ?_ ?_
                  rotate_left
                  · intro w'
                    go_simp
                    with_reducible rfl
                  rotate_left
                  · simp only [Act.put, List.setIfInBounds_toArray, List.set_cons_zero, List.set_cons_succ, i64_w, i32_w]
                    rfl
                  refine pure_ (i := 9) (N := some 201) (v := ?_) (a' := ?_) #[true, true, true, true, true, true, true, true, true, true, false, false, false, false, false] rfl rfl (by kernel_rfl) (fun _ _ _ h => h) (Or.inl ⟨by rfl, ?_⟩) ?_ ?_
                  rotate_left
                  · intro w'
                    go_simp
                    with_reducible rfl
                  rotate_left
                  · simp only [Act.put, List.setIfInBounds_toArray, List.set_cons_zero, List.set_cons_succ, i64_w, i32_w]
                    rfl
                  refine pure_ (i := 10) (N := some 202) (v := ?_) (a' := ?_) #[true, true, true, true, true, true, true, true, true, true, true, false, false, false, false] rfl rfl (by kernel_rfl) (fun _ _ _ h => h) (Or.inl ⟨by rfl, ?_⟩) ?_ ?_
                  rotate_left
                  · intro w'
                    go_simp
                    with_reducible rfl
                  rotate_left
                  · simp only [Act.put, List.setIfInBounds_toArray, List.set_cons_zero, List.set_cons_succ, i64_w, i32_w]
                    rfl
                  refine pure_ (i := 11) (N := some 203) (v := ?_) (a' := ?_) #[true, true, true, true, true, true, true, true, true, true, true, true, false, false, false] rfl rfl (by kernel_rfl) (fun _ _ _ h => h) (Or.inl ⟨by rfl, ?_⟩) ?_ ?_
                  rotate_left
                  · intro w'
                    go_simp
                    with_reducible rfl
                  rotate_left
                  · simp only [Act.put, List.setIfInBounds_toArray, List.set_cons_zero, List.set_cons_succ, i64_w, i32_w]
                    rfl
                  refine pure_ (i := 13) (N := some 21) (v := ?_) (a' := ?_) #[true, true, true, true, true, true, true, true, true, true, true, true, false, true, false] rfl rfl (by kernel_rfl) (fun _ _ _ h => h) (Or.inl ⟨by rfl, ?_⟩) ?_ ?_
                  rotate_left
                  · intro w'
                    go_simp
                    with_reducible rfl
                  rotate_left
                  · simp only [Act.put, List.setIfInBounds_toArray, List.set_cons_zero, List.set_cons_succ, i64_w, i32_w]
                    rfl
                  refine take_ (i := 12) (N := some 204) (v := ?_) (a' := ?_) #[true, true, true, true, true, true, true, true, true, true, true, true, true, true, false] rfl rfl (by kernel_rfl) (fun _ _ _ h => h) (Or.inl ⟨by rfl, ?_⟩) hHeld ?_ ?_
                  rotate_left
                  · rintro w' ⟨s0, s1, s2, s3⟩
                    go_simp
                    with_reducible rfl
                  rotate_left
                  · simp only [Act.put, List.setIfInBounds_toArray, List.set_cons_zero, List.set_cons_succ, i64_w, i32_w]
                    rfl
                  refine last_ (i := 14) (N := none) #[true, true, true, true, true, true, true, true, true, true, true, true, true, true, true] rfl rfl (by kernel_rfl) (by decide) (fun K hK => ?_)
                  refine skip_ (w1 := ?_) (by rfl) rfl ?_ ?_
                  rotate_left
                  · go_simp
                    rfl
                  refine hK.out _ _ ?_
                  clear hK K
                  refine done_ (by kernel_rfl) ?_
                  go_wp2
                  go_roundw
                  case rel => exact ⟨_, n + 1, f0, f1, by omega, by rfl, by rw [HFS.out]; rfl, by go_num, two_set (HBD.out.fr0 (Fr.drew (Fr.refl (fun _ => False) _))) (.int .i64 f0) (.int .i64 f1), HREST.out, ((HFW.out.trans (HD.out.trans (Fr.drew (Fr.refl (fun _ => False) _)))).setCell (p := ⟨b22, 0, none⟩) (.inr (by dsimp only; exact HB22.out)) (.int .i64 f0)).setCell (p := ⟨b22, 1, none⟩) (.inr (by dsimp only; exact HB22.out)) (.int .i64 f1)⟩
                  case measure => simp [intOf]; omega
              · have hn2 : (f0 == y) = false := by simpa using c1
                go_upto_region 30 with fail
                refine start_ (n := 28) (S := fun w' => w'.cell? (ads.add (n * 2)) = some (.int .i64 f0) ∧ w'.cell? ⟨(ads.add (n * 2)).block, (ads.add (n * 2)).off + 1, none⟩ = some (.int .i64 f1) ∧ w'.cell? ⟨b22, 0, none⟩ = some (.int .i64 y) ∧ w'.cell? ⟨b22, 1, none⟩ = some (.int .i64 z)) (ds := []) #[false, false, false, false, false, false, false, false, false, false, false, false, false, false, false, false, false, false, false, false, false, false, false, false, false, false, false, false] (by kernel_rfl) rfl rfl ⟨x0, x1, y0, y1⟩ (fun hHeld => ?_)
                refine pure_ (i := 0) (N := some 164) (v := ?_) (a' := ?_) #[true, false, false, false, false, false, false, false, false, false, false, false, false, false, false, false, false, false, false, false, false, false, false, false, false, false, false, false] rfl rfl (by kernel_rfl) (fun _ _ _ h => h) (Or.inl ⟨by rfl, ?_⟩) ?_ ?_
                rotate_left
                · intro w'
                  go_simp
                  with_reducible rfl
                rotate_left
                · simp only [Act.put, List.setIfInBounds_toArray, List.set_cons_zero, List.set_cons_succ, i64_w, i32_w]
                  rfl
                refine pure_ (i := 1) (N := some 165) (v := ?_) (a' := ?_) #[true, true, false, false, false, false, false, false, false, false, false, false, false, false, false, false, false, false, false, false, false, false, false, false, false, false, false, false] rfl rfl (by kernel_rfl) (fun _ _ _ h => h) (Or.inl ⟨by rfl, ?_⟩) ?_ ?_
                rotate_left
                · intro w'
                  go_simp
                  with_reducible rfl
                rotate_left
                · simp only [Act.put, List.setIfInBounds_toArray, List.set_cons_zero, List.set_cons_succ, i64_w, i32_w]
                  rfl
                refine pure_ (i := 2) (N := some 166) (v := ?_) (a' := ?_) #[true, true, true, false, false, false, false, false, false, false, false, false, false, false, false, false, false, false, false, false, false, false, false, false, false, false, false, false] rfl rfl (by kernel_rfl) (fun _ _ _ h => h) (Or.inl ⟨by rfl, ?_⟩) ?_ ?_
                rotate_left
                · intro w'
                  go_simp
                  with_reducible rfl
                rotate_left
                · simp only [Act.put, List.setIfInBounds_toArray, List.set_cons_zero, List.set_cons_succ, i64_w, i32_w]
                  rfl
                refine pure_ (i := 3) (N := some 167) (v := ?_) (a' := ?_) #[true, true, true, true, false, false, false, false, false, false, false, false, false, false, false, false, false, false, false, false, false, false, false, false, false, false, false, false] rfl rfl (by kernel_rfl) (fun _ _ _ h => h) (Or.inl ⟨by rfl, ?_⟩) ?_ ?_
                rotate_left
                · intro w'
                  go_simp
                  with_reducible rfl
                rotate_left
                · simp only [Act.put, List.setIfInBounds_toArray, List.set_cons_zero, List.set_cons_succ, i64_w, i32_w]
                  rfl
                refine pure_ (i := 5) (N := some 169) (v := ?_) (a' := ?_) #[true, true, true, true, false, true, false, false, false, false, false, false, false, false, false, false, false, false, false, false, false, false, false, false, false, false, false, false] rfl rfl (by kernel_rfl) (fun _ _ _ h => h) (Or.inl ⟨by rfl, ?_⟩) ?_ ?_
                rotate_left
                · intro w'
                  go_simp
                  with_reducible rfl
                rotate_left
                · simp only [Act.put, List.setIfInBounds_toArray, List.set_cons_zero, List.set_cons_succ, i64_w, i32_w]
                  rfl
                refine take_ (i := 4) (N := some 168) (v := ?_) (a' := ?_) #[true, true, true, true, true, true, false, false, false, false, false, false, false, false, false, false, false, false, false, false, false, false, false, false, false, false, false, false] rfl rfl (by kernel_rfl) (fun _ _ _ h => h) (Or.inl ⟨by rfl, ?_⟩) hHeld ?_ ?_
                rotate_left
                · rintro w' ⟨s0, s1, s2, s3⟩
                  go_simp
                  with_reducible rfl
                rotate_left
                · simp only [Act.put, List.setIfInBounds_toArray, List.set_cons_zero, List.set_cons_succ, i64_w, i32_w]
                  rfl
                refine take_ (i := 6) (N := some 170) (v := ?_) (a' := ?_) #[true, true, true, true, true, true, true, false, false, false, false, false, false, false, false, false, false, false, false, false, false, false, false, false, false, false, false, false] rfl rfl (by kernel_rfl) (fun _ _ _ h => h) (Or.inl ⟨by rfl, ?_⟩) hHeld ?_ ?_
                rotate_left
                · rintro w' ⟨s0, s1, s2, s3⟩
                  go_simp
                  with_reducible rfl
                rotate_left
                · simp only [Act.put, List.setIfInBounds_toArray, List.set_cons_zero, List.set_cons_succ, i64_w, i32_w]
                  rfl
                refine pure_ (i := 7) (N := some 171) (v := ?_) (a' := ?_) #[true, true, true, true, true, true, true, true, false, false, false, false, false, false, false, false, false, false, false, false, false, false, false, false, false, false, false, false] rfl rfl (by kernel_rfl) (fun _ _ _ h => h) (Or.inl ⟨by rfl, ?_⟩) ?_ ?_
                rotate_left
                · intro w'
                  go_simp
                  with_reducible rfl
                rotate_left
                · simp only [Act.put, List.setIfInBounds_toArray, List.set_cons_zero, List.set_cons_succ, i64_w, i32_w]
                  rfl
                refine pure_ (i := 8) (N := some 172) (v := ?_) (a' := ?_) #[true, true, true, true, true, true, true, true, true, false, false, false, false, false, false, false, false, false, false, false, false, false, false, false, false, false, false, false] rfl rfl (by kernel_rfl) (fun _ _ _ h => h) (Or.inl ⟨by rfl, ?_⟩) ?_ ?_
                rotate_left
                · intro w'
                  go_simp
                  with_reducible rfl
                rotate_left
                · simp only [Act.put, List.setIfInBounds_toArray, List.set_cons_zero, List.set_cons_succ, i64_w, i32_w]
                  rfl
                refine pure_ (i := 9) (N := some 173) (v := ?_) (a' := ?_) #[true, true, true, true, true, true, true, true, true, true, false, false, false, false, false, false, false, false, false, false, false, false, false, false, false, false, false, false] rfl rfl (by kernel_rfl) (fun _ _ _ h => h) (Or.inl ⟨by rfl, ?_⟩) ?_ ?_
                rotate_left
                · intro w'
                  go_simp
                  with_reducible rfl
                rotate_left
                · simp only [Act.put, List.setIfInBounds_toArray, List.set_cons_zero, List.set_cons_succ, i64_w, i32_w]
                  rfl
                refine pure_ (i := 10) (N := some 174) (v := ?_) (a' := ?_) #[true, true, true, true, true, true, true, true, true, true, true, false, false, false, false, false, false, false, false, false, false, false, false, false, false, false, false, false] rfl rfl (by kernel_rfl) (fun _ _ _ h => h) (Or.inl ⟨by rfl, ?_⟩) ?_ ?_
                rotate_left
                · intro w'
                  go_simp
                  with_reducible rfl
                rotate_left
                · simp only [Act.put, List.setIfInBounds_toArray, List.set_cons_zero, List.set_cons_succ, i64_w, i32_w]
                  rfl
                refine pure_ (i := 11) (N := some 175) (v := ?_) (a' := ?_) #[true, true, true, true, true, true, true, true, true, true, true, true, false, false, false, false, false, false, false, false, false, false, false, false, false, false, false, false] rfl rfl (by kernel_rfl) (fun _ _ _ h => h) (Or.inl ⟨by rfl, ?_⟩) ?_ ?_
                rotate_left
                · intro w'
                  go_simp
                  with_reducible rfl
                rotate_left
                · simp only [Act.put, List.setIfInBounds_toArray, List.set_cons_zero, List.set_cons_succ, i64_w, i32_w]
                  rfl
                refine pure_ (i := 12) (N := some 176) (v := ?_) (a' := ?_) #[true, true, true, true, true, true, true, true, true, true, true, true, true, false, false, false, false, false, false, false, false, false, false, false, false, false, false, false] rfl rfl (by kernel_rfl) (fun _ _ _ h => h) (Or.inl ⟨by rfl, ?_⟩) ?_ ?_
                rotate_left
                · intro w'
                  go_simp
                  with_reducible rfl
                rotate_left
                · simp only [Act.put, List.setIfInBounds_toArray, List.set_cons_zero, List.set_cons_succ, i64_w, i32_w]
                  rfl
                refine pure_ (i := 14) (N := some 178) (v := ?_) (a' := ?_) #[true, true, true, true, true, true, true, true, true, true, true, true, true, false, true, false, false, false, false, false, false, false, false, false, false, false, false, false] rfl rfl (by kernel_rfl) (fun _ _ _ h => h) (Or.inl ⟨by rfl, ?_⟩) ?_ ?_
                rotate_left
                · intro w'
                  go_simp
                  with_reducible rfl
                rotate_left
                · simp only [Act.put, List.setIfInBounds_toArray, List.set_cons_zero, List.set_cons_succ, i64_w, i32_w]
                  rfl
                refine take_ (i := 13) (N := some 177) (v := ?_) (a' := ?_) #[true, true, true, true, true, true, true, true, true, true, true, true, true, true, true, false, false, false, false, false, false, false, false, false, false, false, false, false] rfl rfl (by kernel_rfl) (fun _ _ _ h => h) (Or.inl ⟨by rfl, ?_⟩) hHeld ?_ ?_
                rotate_left
                · rintro w' ⟨s0, s1, s2, s3⟩
                  go_simp
                  with_reducible rfl
                rotate_left
                · simp only [Act.put, List.setIfInBounds_toArray, List.set_cons_zero, List.set_cons_succ, i64_w, i32_w]
                  rfl
                refine take_ (i := 15) (N := some 179) (v := ?_) (a' := ?_) #[true, true, true, true, true, true, true, true, true, true, true, true, true, true, true, true, false, false, false, false, false, false, false, false, false, false, false, false] rfl rfl (by kernel_rfl) (fun _ _ _ h => h) (Or.inl ⟨by rfl, ?_⟩) hHeld ?_ ?_
                rotate_left
                · rintro w' ⟨s0, s1, s2, s3⟩
                  go_simp
                  with_reducible rfl
                rotate_left
                · simp only [Act.put, List.setIfInBounds_toArray, List.set_cons_zero, List.set_cons_succ, i64_w, i32_w]
                  rfl
                refine pure_ (i := 16) (N := some 180) (v := ?_) (a' := ?_) #[true, true, true, true, true, true, true, true, true, true, true, true, true, true, true, true, true, false, false, false, false, false, false, false, false, false, false, false] rfl rfl (by kernel_rfl) (fun _ _ _ h => h) (Or.inl ⟨by rfl, ?_⟩) ?_ ?_
                rotate_left
                · intro w'
                  go_simp
                  with_reducible rfl
                rotate_left
                · simp only [Act.put, List.setIfInBounds_toArray, List.set_cons_zero, List.set_cons_succ, i64_w, i32_w]
                  rfl
                refine pure_ (i := 17) (N := some 181) (v := ?_) (a' := ?_) #[true, true, true, true, true, true, true, true, true, true, true, true, true, true, true, true, true, true, false, false, false, false, false, false, false, false, false, false] rfl rfl (by kernel_rfl) (fun _ _ _ h => h) (Or.inl ⟨by rfl, ?_⟩) ?_ ?_
                rotate_left
                · intro w'
                  go_simp
                  with_reducible rfl
                rotate_left
                · simp only [Act.put, List.setIfInBounds_toArray, List.set_cons_zero, List.set_cons_succ, i64_w, i32_w]
                  rfl
                refine pure_ (i := 18) (N := some 182) (v := undef) (a' := ?_) #[true, true, true, true, true, true, true, true, true, true, true, true, true, true, true, true, true, true, true, false, false, false, false, false, false, false, false, false] rfl rfl (by kernel_rfl) (fun _ _ _ h => h) (Or.inr ⟨by rfl, rfl⟩) ?_ ?_
                rotate_left
                · simp only [Act.put, List.setIfInBounds_toArray, List.set_cons_zero, List.set_cons_succ, i64_w, i32_w]
                  rfl
                refine pure_ (i := 19) (N := some 183) (v := undef) (a' := ?_) #[true, true, true, true, true, true, true, true, true, true, true, true, true, true, true, true, true, true, true, true, false, false, false, false, false, false, false, false] rfl rfl (by kernel_rfl) (fun _ _ _ h => h) (Or.inr ⟨by rfl, rfl⟩) ?_ ?_
                rotate_left
                · simp only [Act.put, List.setIfInBounds_toArray, List.set_cons_zero, List.set_cons_succ, i64_w, i32_w]
                  rfl
                refine pure_ (i := 20) (N := some 184) (v := undef) (a' := ?_) #[true, true, true, true, true, true, true, true, true, true, true, true, true, true, true, true, true, true, true, true, true, false, false, false, false, false, false, false] rfl rfl (by kernel_rfl) (fun _ _ _ h => h) (Or.inr ⟨by rfl, rfl⟩) ?_ ?_
                rotate_left
                · simp only [Act.put, List.setIfInBounds_toArray, List.set_cons_zero, List.set_cons_succ, i64_w, i32_w]
                  rfl
                refine pure_ (i := 21) (N := some 185) (v := undef) (a' := ?_) #[true, true, true, true, true, true, true, true, true, true, true, true, true, true, true, true, true, true, true, true, true, true, false, false, false, false, false, false] rfl rfl (by kernel_rfl) (fun _ _ _ h => h) (Or.inr ⟨by rfl, rfl⟩) ?_ ?_
                rotate_left
                · simp only [Act.put, List.setIfInBounds_toArray, List.set_cons_zero, List.set_cons_succ, i64_w, i32_w]
                  rfl
                refine pure_ (i := 22) (N := some 186) (v := undef) (a' := ?_) #[true, true, true, true, true, true, true, true, true, true, true, true, true, true, true, true, true, true, true, true, true, true, true, false, false, false, false, false] rfl rfl (by kernel_rfl) (fun _ _ _ h => h) (Or.inr ⟨by rfl, rfl⟩) ?_ ?_
                rotate_left
                · simp only [Act.put, List.setIfInBounds_toArray, List.set_cons_zero, List.set_cons_succ, i64_w, i32_w]
                  rfl
                refine pure_ (i := 23) (N := some 187) (v := undef) (a' := ?_) #[true, true, true, true, true, true, true, true, true, true, true, true, true, true, true, true, true, true, true, true, true, true, true, true, false, false, false, false] rfl rfl (by kernel_rfl) (fun _ _ _ h => h) (Or.inr ⟨by rfl, rfl⟩) ?_ ?_
                rotate_left
                · simp only [Act.put, List.setIfInBounds_toArray, List.set_cons_zero, List.set_cons_succ, i64_w, i32_w]
                  rfl
                refine pure_ (i := 24) (N := some 188) (v := undef) (a' := ?_) #[true, true, true, true, true, true, true, true, true, true, true, true, true, true, true, true, true, true, true, true, true, true, true, true, true, false, false, false] rfl rfl (by kernel_rfl) (fun _ _ _ h => h) (Or.inr ⟨by rfl, rfl⟩) ?_ ?_
                rotate_left
                · simp only [Act.put, List.setIfInBounds_toArray, List.set_cons_zero, List.set_cons_succ, i64_w, i32_w]
                  rfl
                refine pure_ (i := 25) (N := some 189) (v := undef) (a' := ?_) #[true, true, true, true, true, true, true, true, true, true, true, true, true, true, true, true, true, true, true, true, true, true, true, true, true, true, false, false] rfl rfl (by kernel_rfl) (fun _ _ _ h => h) (Or.inr ⟨by rfl, rfl⟩) ?_ ?_
                rotate_left
                · simp only [Act.put, List.setIfInBounds_toArray, List.set_cons_zero, List.set_cons_succ, i64_w, i32_w]
                  rfl
                refine pure_ (i := 26) (N := some 190) (v := ?_) (a' := ?_) #[true, true, true, true, true, true, true, true, true, true, true, true, true, true, true, true, true, true, true, true, true, true, true, true, true, true, true, false] rfl rfl (by kernel_rfl) (fun _ _ _ h => h) (Or.inl ⟨by rfl, ?_⟩) ?_ ?_
                rotate_left
                · intro w'
                  go_simp
                  with_reducible rfl
                rotate_left
                · simp only [Act.put, List.setIfInBounds_toArray, List.set_cons_zero, List.set_cons_succ, i64_w, i32_w]
                  rfl
                refine pure_ (i := 27) (N := some 191) (v := ?_) (a' := ?_) #[true, true, true, true, true, true, true, true, true, true, true, true, true, true, true, true, true, true, true, true, true, true, true, true, true, true, true, true] rfl rfl (by kernel_rfl) (fun _ _ _ h => h) (Or.inl ⟨by rfl, ?_⟩) ?_ ?_
                rotate_left
                · intro w'
                  go_simp
                  with_reducible rfl
                rotate_left
                · simp only [Act.put, List.setIfInBounds_toArray, List.set_cons_zero, List.set_cons_succ, i64_w, i32_w]
                  rfl
                refine done_ (by kernel_rfl) ?_
                cases fo
                · have g0 := y0; have g1 := y1; have g9 := HBX.out.frz 0; have g9' := HBX.out.frz 1; clear x0 x1 y0 y1
                  have HD := Lib.hid (Fr.drew (Fr.refl (fun _ => False) wr))
                  have HBD := Lib.hid (HBX.out.fr0 HD.out)
                  have HXD := Lib.hid (HX11.out.fr0 HD.out)
                  have x0 := HD.out.cell0 HX0.out
                  have x1 := HD.out.cell0 HX1.out
                  have y0 := HBD.out.at_ 0 (v := .int .i64 y) rfl
                  have y1 := HBD.out.at_ 1 (v := .int .i64 z) rfl
                  have k9 := HBD.out.frz 0
                  have k9' := HBD.out.frz 1
                  have m0 := HXD.out.at_ 0 (v := .int .i64 sp0) rfl
                  have m1 := HXD.out.at_ 1 (v := .int .i64 sp1) rfl
                  go_upto_region 32 with fail
                  refine start_ (n := 15) (S := fun w' => w'.cell? (ads.add (n * 2)) = some (.int .i64 f0) ∧ w'.cell? ⟨(ads.add (n * 2)).block, (ads.add (n * 2)).off + 1, none⟩ = some (.int .i64 f1) ∧ w'.cell? ⟨b22, 0, none⟩ = some (.int .i64 y) ∧ w'.cell? ⟨b22, 1, none⟩ = some (.int .i64 z) ∧ w'.cell? ⟨b12, 0, none⟩ = some (.int .i64 sp0) ∧ w'.cell? ⟨b12, 1, none⟩ = some (.int .i64 sp1)) (ds := [14]) #[false, false, false, false, false, false, false, false, false, false, false, false, false, false, false] (by kernel_rfl) rfl rfl ⟨x0, x1, y0, y1, m0, m1⟩ (fun hHeld => ?_)
                  refine pure_ (i := 0) (N := some 192) (v := ?_) (a' := ?_) #[true, false, false, false, false, false, false, false, false, false, false, false, false, false, false] rfl rfl (by kernel_rfl) (fun _ _ _ h => h) (Or.inl ⟨by rfl, ?_⟩) ?_ ?_
                  rotate_left
                  · intro w'
                    go_simp
                    with_reducible rfl
                  rotate_left
                  · simp only [Act.put, List.setIfInBounds_toArray, List.set_cons_zero, List.set_cons_succ, i64_w, i32_w]
                    rfl
                  refine pure_ (i := 1) (N := some 193) (v := ?_) (a' := ?_) #[true, true, false, false, false, false, false, false, false, false, false, false, false, false, false] rfl rfl (by kernel_rfl) (fun _ _ _ h => h) (Or.inl ⟨by rfl, ?_⟩) ?_ ?_
                  rotate_left
                  · intro w'
                    go_simp
                    with_reducible rfl
                  rotate_left
                  · simp only [Act.put, List.setIfInBounds_toArray, List.set_cons_zero, List.set_cons_succ, i64_w, i32_w]
                    rfl
                  refine pure_ (i := 2) (N := some 194) (v := ?_) (a' := ?_) #[true, true, true, false, false, false, false, false, false, false, false, false, false, false, false] rfl rfl (by kernel_rfl) (fun _ _ _ h => h) (Or.inl ⟨by rfl, ?_⟩) ?_ ?_
                  rotate_left
                  · intro w'
                    go_simp
                    with_reducible rfl
                  rotate_left
                  · simp only [Act.put, List.setIfInBounds_toArray, List.set_cons_zero, List.set_cons_succ, i64_w, i32_w]
                    rfl
                  refine pure_ (i := 3) (N := some 195) (v := ?_) (a' := ?_) #[true, true, true, true, false, false, false, false, false, false, false, false, false, false, false] rfl rfl (by kernel_rfl) (fun _ _ _ h => h) (Or.inl ⟨by rfl, ?_⟩) ?_ ?_
                  rotate_left
                  · intro w'
                    go_simp
                    with_reducible rfl
                  rotate_left
                  · simp only [Act.put, List.setIfInBounds_toArray, List.set_cons_zero, List.set_cons_succ, i64_w, i32_w]
                    rfl
                  refine pure_ (i := 4) (N := some 196) (v := ?_) (a' := ?_) #[true, true, true, true, true, false, false, false, false, false, false, false, false, false, false] rfl rfl (by kernel_rfl) (fun _ _ _ h => h) (Or.inl ⟨by rfl, ?_⟩) ?_ ?_
                  rotate_left
                  · intro w'
                    go_simp
                    with_reducible rfl
                  rotate_left
                  · simp only [Act.put, List.setIfInBounds_toArray, List.set_cons_zero, List.set_cons_succ, i64_w, i32_w]
                    rfl
                  refine pure_ (i := 9) (N := some 201) (v := ?_) (a' := ?_) #[true, true, true, true, true, false, false, false, false, true, false, false, false, false, false] rfl rfl (by kernel_rfl) (fun _ _ _ h => h) (Or.inl ⟨by rfl, ?_⟩) ?_ ?_
                  rotate_left
                  · intro w'
                    go_simp
                    with_reducible rfl
                  rotate_left
                  · simp only [Act.put, List.setIfInBounds_toArray, List.set_cons_zero, List.set_cons_succ, i64_w, i32_w]
                    rfl
                  refine pure_ (i := 10) (N := some 202) (v := ?_) (a' := ?_) #[true, true, true, true, true, false, false, false, false, true, true, false, false, false, false] rfl rfl (by kernel_rfl) (fun _ _ _ h => h) (Or.inl ⟨by rfl, ?_⟩) ?_ ?_
                  rotate_left
                  · intro w'
                    go_simp
                    with_reducible rfl
                  rotate_left
                  · simp only [Act.put, List.setIfInBounds_toArray, List.set_cons_zero, List.set_cons_succ, i64_w, i32_w]
                    rfl
                  refine pure_ (i := 11) (N := some 203) (v := ?_) (a' := ?_) #[true, true, true, true, true, false, false, false, false, true, true, true, false, false, false] rfl rfl (by kernel_rfl) (fun _ _ _ h => h) (Or.inl ⟨by rfl, ?_⟩) ?_ ?_
                  rotate_left
                  · intro w'
                    go_simp
                    with_reducible rfl
                  rotate_left
                  · simp only [Act.put, List.setIfInBounds_toArray, List.set_cons_zero, List.set_cons_succ, i64_w, i32_w]
                    rfl
                  refine take_ (i := 5) (N := some 197) (v := ?_) (a' := ?_) #[true, true, true, true, true, true, false, false, false, true, true, true, false, false, false] rfl rfl (by kernel_rfl) (fun _ _ _ h => h) (Or.inl ⟨by rfl, ?_⟩) hHeld ?_ ?_
                  rotate_left
                  · rintro w' ⟨s0, s1, s2, s3, s4, s5⟩
                    go_simp
                    with_reducible rfl
                  rotate_left
                  · simp only [Act.put, List.setIfInBounds_toArray, List.set_cons_zero, List.set_cons_succ, i64_w, i32_w]
                    rfl
                  refine take_ (i := 6) (N := some 198) (v := ?_) (a' := ?_) #[true, true, true, true, true, true, true, false, false, true, true, true, false, false, false] rfl rfl (by kernel_rfl) (fun _ _ _ h => h) (Or.inl ⟨by rfl, ?_⟩) hHeld ?_ ?_
                  rotate_left
                  · rintro w' ⟨s0, s1, s2, s3, s4, s5⟩
                    go_simp
                    with_reducible rfl
                  rotate_left
                  · simp only [Act.put, List.setIfInBounds_toArray, List.set_cons_zero, List.set_cons_succ, i64_w, i32_w]
                    rfl
                  refine pure_ (i := 7) (N := some 199) (v := ?_) (a' := ?_) #[true, true, true, true, true, true, true, true, false, true, true, true, false, false, false] rfl rfl (by kernel_rfl) (fun _ _ _ h => h) (Or.inl ⟨by rfl, ?_⟩) ?_ ?_
                  rotate_left
                  · intro w'
                    go_simp
                    with_reducible rfl
                  rotate_left
                  · simp only [Act.put, List.setIfInBounds_toArray, List.set_cons_zero, List.set_cons_succ, i64_w, i32_w]
                    rfl
                  refine pure_ (i := 8) (N := some 200) (v := ?_) (a' := ?_) #[true, true, true, true, true, true, true, true, true, true, true, true, false, false, false] rfl rfl (by kernel_rfl) (fun _ _ _ h => h) (Or.inl ⟨by rfl, ?_⟩) ?_ ?_
                  rotate_left
                  · intro w'
                    go_simp
                    with_reducible rfl
                  rotate_left
                  · simp only [Act.put, List.setIfInBounds_toArray, List.set_cons_zero, List.set_cons_succ, i64_w, i32_w]
                    rfl
                  refine pure_ (i := 13) (N := some 21) (v := ?_) (a' := ?_) #[true, true, true, true, true, true, true, true, true, true, true, true, false, true, false] rfl rfl (by kernel_rfl) (fun _ _ _ h => h) (Or.inl ⟨by rfl, ?_⟩) ?_ ?_
                  rotate_left
                  · intro w'
                    go_simp
                    with_reducible rfl
                  rotate_left
                  · simp only [Act.put, List.setIfInBounds_toArray, List.set_cons_zero, List.set_cons_succ, i64_w, i32_w]
                    rfl
                  refine take_ (i := 12) (N := some 204) (v := ?_) (a' := ?_) #[true, true, true, true, true, true, true, true, true, true, true, true, true, true, false] rfl rfl (by kernel_rfl) (fun _ _ _ h => h) (Or.inl ⟨by rfl, ?_⟩) hHeld ?_ ?_
                  rotate_left
                  · rintro w' ⟨s0, s1, s2, s3, s4, s5⟩
                    go_simp
                    with_reducible rfl
                  rotate_left
                  · simp only [Act.put, List.setIfInBounds_toArray, List.set_cons_zero, List.set_cons_succ, i64_w, i32_w]
                    rfl
                  refine last_ (i := 14) (N := none) #[true, true, true, true, true, true, true, true, true, true, true, true, true, true, true] rfl rfl (by kernel_rfl) (by decide) (fun K hK => ?_)
                  refine skip_ (w1 := ?_) (by rfl) rfl ?_ ?_
                  rotate_left
                  · go_simp
                    rfl
                  refine hK.out _ _ ?_
                  clear hK K
                  refine done_ (by kernel_rfl) ?_
                  go_wp2
                  go_roundw
                  case rel => exact ⟨_, n + 1, f0, f1, by omega, by rfl, by rw [HFS.out]; rfl, by go_num, two_set (HBD.out.fr0 (Fr.drew (Fr.refl (fun _ => False) _))) (.int .i64 f0) (.int .i64 f1), HREST.out, ((HFW.out.trans (HD.out.trans (Fr.drew (Fr.refl (fun _ => False) _)))).setCell (p := ⟨b22, 0, none⟩) (.inr (by dsimp only; exact HB22.out)) (.int .i64 f0)).setCell (p := ⟨b22, 1, none⟩) (.inr (by dsimp only; exact HB22.out)) (.int .i64 f1)⟩
                  case measure => simp [intOf]; omega
                · have g0 := y0; have g1 := y1; have g9 := HBX.out.frz 0; have g9' := HBX.out.frz 1; clear x0 x1 y0 y1
                  have HD := Lib.hid (Fr.drew (Fr.refl (fun _ => False) wr))
                  have HBD := Lib.hid (HBX.out.fr0 HD.out)
                  have HXD := Lib.hid (HX11.out.fr0 HD.out)
                  have x0 := HD.out.cell0 HX0.out
                  have x1 := HD.out.cell0 HX1.out
                  have y0 := HBD.out.at_ 0 (v := .int .i64 y) rfl
                  have y1 := HBD.out.at_ 1 (v := .int .i64 z) rfl
                  have k9 := HBD.out.frz 0
                  have k9' := HBD.out.frz 1
                  go_upto_region 32 with fail
                  refine start_ (n := 15) (S := fun w' => w'.cell? (ads.add (n * 2)) = some (.int .i64 f0) ∧ w'.cell? ⟨(ads.add (n * 2)).block, (ads.add (n * 2)).off + 1, none⟩ = some (.int .i64 f1) ∧ w'.cell? ⟨b22, 0, none⟩ = some (.int .i64 y) ∧ w'.cell? ⟨b22, 1, none⟩ = some (.int .i64 z)) (ds := [14]) #[false, false, false, false, false, false, false, false, false, false, false, false, false, false, false] (by kernel_rfl) rfl rfl ⟨x0, x1, y0, y1⟩ (fun hHeld => ?_)
                  refine pure_ (i := 0) (N := some 192) (v := ?_) (a' := ?_) #[true, false, false, false, false, false, false, false, false, false, false, false, false, false, false] rfl rfl (by kernel_rfl) (fun _ _ _ h => h) (Or.inl ⟨by rfl, ?_⟩) ?_ ?_
                  rotate_left
                  · intro w'
                    go_simp
                    with_reducible rfl
                  rotate_left
                  · simp only [Act.put, List.setIfInBounds_toArray, List.set_cons_zero, List.set_cons_succ, i64_w, i32_w]
                    rfl
                  refine pure_ (i := 1) (N := some 193) (v := ?_) (a' := ?_) #[true, true, false, false, false, false, false, false, false, false, false, false, false, false, false] rfl rfl (by kernel_rfl) (fun _ _ _ h => h) (Or.inl ⟨by rfl, ?_⟩) ?_ ?_
                  rotate_left
                  · intro w'
                    go_simp
                    with_reducible rfl
                  rotate_left
                  · simp only [Act.put, List.setIfInBounds_toArray, List.set_cons_zero, List.set_cons_succ, i64_w, i32_w]
                    rfl
                  refine pure_ (i := 2) (N := some 194) (v := undef) (a' := ?_) #[true, true, true, false, false, false, false, false, false, false, false, false, false, false, false] rfl rfl (by kernel_rfl) (fun _ _ _ h => h) (Or.inr ⟨by rfl, rfl⟩) ?_ ?_
                  rotate_left
                  · simp only [Act.put, List.setIfInBounds_toArray, List.set_cons_zero, List.set_cons_succ, i64_w, i32_w]
                    rfl
                  refine pure_ (i := 3) (N := some 195) (v := undef) (a' := ?_) #[true, true, true, true, false, false, false, false, false, false, false, false, false, false, false] rfl rfl (by kernel_rfl) (fun _ _ _ h => h) (Or.inr ⟨by rfl, rfl⟩) ?_ ?_
                  rotate_left
                  · simp only [Act.put, List.setIfInBounds_toArray, List.set_cons_zero, List.set_cons_succ, i64_w, i32_w]
                    rfl
                  refine pure_ (i := 4) (N := some 196) (v := undef) (a' := ?_) #[true, true, true, true, true, false, false, false, false, false, false, false, false, false, false] rfl rfl (by kernel_rfl) (fun _ _ _ h => h) (Or.inr ⟨by rfl, rfl⟩) ?_ ?_
                  rotate_left
                  · simp only [Act.put, List.setIfInBounds_toArray, List.set_cons_zero, List.set_cons_succ, i64_w, i32_w]
                    rfl
                  refine pure_ (i := 5) (N := some 197) (v := undef) (a' := ?_) #[true, true, true, true, true, true, false, false, false, false, false, false, false, false, false] rfl rfl (by kernel_rfl) (fun _ _ _ h => h) (Or.inr ⟨by rfl, rfl⟩) ?_ ?_
                  rotate_left
                  · simp only [Act.put, List.setIfInBounds_toArray, List.set_cons_zero, List.set_cons_succ, i64_w, i32_w]
                    rfl
                  refine pure_ (i := 6) (N := some 198) (v := undef) (a' := ?_) #[true, true, true, true, true, true, true, false, false, false, false, false, false, false, false] rfl rfl (by kernel_rfl) (fun _ _ _ h => h) (Or.inr ⟨by rfl, rfl⟩) ?_ ?_
                  rotate_left
                  · simp only [Act.put, List.setIfInBounds_toArray, List.set_cons_zero, List.set_cons_succ, i64_w, i32_w]
                    rfl
                  refine pure_ (i := 7) (N := some 199) (v := undef) (a' := ?_) #[true, true, true, true, true, true, true, true, false, false, false, false, false, false, false] rfl rfl (by kernel_rfl) (fun _ _ _ h => h) (Or.inr ⟨by rfl, rfl⟩) ?_ ?_
                  rotate_left
                  · simp only [Act.put, List.setIfInBounds_toArray, List.set_cons_zero, List.set_cons_succ, i64_w, i32_w]
                    rfl
                  refine pure_ (i := 8) (N := some 200) (v := ?_) (a' := ?_) #[true, true, true, true, true, true, true, true, true, false, false, false, false, false, false] rfl rfl (by kernel_rfl) (fun _ _ _ h => h) (Or.inl ⟨by rfl, ?_⟩) ?_ ?_
                  rotate_left
                  · intro w'
                    go_simp
                    with_reducible rfl
                  rotate_left
                  · simp only [Act.put, List.setIfInBounds_toArray, List.set_cons_zero, List.set_cons_succ, i64_w, i32_w]
                    rfl
                  refine pure_ (i := 9) (N := some 201) (v := ?_) (a' := ?_) #[true, true, true, true, true, true, true, true, true, true, false, false, false, false, false] rfl rfl (by kernel_rfl) (fun _ _ _ h => h) (Or.inl ⟨by rfl, ?_⟩) ?_ ?_
                  rotate_left
                  · intro w'
                    go_simp
                    with_reducible rfl
                  rotate_left
                  · simp only [Act.put, List.setIfInBounds_toArray, List.set_cons_zero, List.set_cons_succ, i64_w, i32_w]
                    rfl
                  refine pure_ (i := 10) (N := some 202) (v := ?_) (a' := ?_) #[true, true, true, true, true, true, true, true, true, true, true, false, false, false, false] rfl rfl (by kernel_rfl) (fun _ _ _ h => h) (Or.inl ⟨by rfl, ?_⟩) ?_ ?_
                  rotate_left
                  · intro w'
                    go_simp
                    with_reducible rfl
                  rotate_left
                  · simp only [Act.put, List.setIfInBounds_toArray, List.set_cons_zero, List.set_cons_succ, i64_w, i32_w]
                    rfl
                  refine pure_ (i := 11) (N := some 203) (v := ?_) (a' := ?_) #[true, true, true, true, true, true, true, true, true, true, true, true, false, false, false] rfl rfl (by kernel_rfl) (fun _ _ _ h => h) (Or.inl ⟨by rfl, ?_⟩) ?_ ?_
                  rotate_left
                  · intro w'
                    go_simp
                    with_reducible rfl
                  rotate_left
                  · simp only [Act.put, List.setIfInBounds_toArray, List.set_cons_zero, List.set_cons_succ, i64_w, i32_w]
                    rfl
                  refine pure_ (i := 13) (N := some 21) (v := ?_) (a' := ?_) #[true, true, true, true, true, true, true, true, true, true, true, true, false, true, false] rfl rfl (by kernel_rfl) (fun _ _ _ h => h) (Or.inl ⟨by rfl, ?_⟩) ?_ ?_
                  rotate_left
                  · intro w'
                    go_simp
                    with_reducible rfl
                  rotate_left
                  · simp only [Act.put, List.setIfInBounds_toArray, List.set_cons_zero, List.set_cons_succ, i64_w, i32_w]
                    rfl
                  refine take_ (i := 12) (N := some 204) (v := ?_) (a' := ?_) #[true, true, true, true, true, true, true, true, true, true, true, true, true, true, false] rfl rfl (by kernel_rfl) (fun _ _ _ h => h) (Or.inl ⟨by rfl, ?_⟩) hHeld ?_ ?_
                  rotate_left
                  · rintro w' ⟨s0, s1, s2, s3⟩
                    go_simp
                    with_reducible rfl
                  rotate_left
                  · simp only [Act.put, List.setIfInBounds_toArray, List.set_cons_zero, List.set_cons_succ, i64_w, i32_w]
                    rfl
                  refine last_ (i := 14) (N := none) #[true, true, true, true, true, true, true, true, true, true, true, true, true, true, true] rfl rfl (by kernel_rfl) (by decide) (fun K hK => ?_)
                  refine skip_ (w1 := ?_) (by rfl) rfl ?_ ?_
                  rotate_left
                  · go_simp
                    rfl
                  refine hK.out _ _ ?_
                  clear hK K
                  refine done_ (by kernel_rfl) ?_
                  go_wp2
                  go_roundw
                  case rel => exact ⟨_, n + 1, f0, f1, by omega, by rfl, by rw [HFS.out]; rfl, by go_num, two_set (HBD.out.fr0 (Fr.drew (Fr.refl (fun _ => False) _))) (.int .i64 f0) (.int .i64 f1), HREST.out, ((HFW.out.trans (HD.out.trans (Fr.drew (Fr.refl (fun _ => False) _)))).setCell (p := ⟨b22, 0, none⟩) (.inr (by dsimp only; exact HB22.out)) (.int .i64 f0)).setCell (p := ⟨b22, 1, none⟩) (.inr (by dsimp only; exact HB22.out)) (.int .i64 f1)⟩
                  case measure => simp [intOf]; omega
            · obtain rfl : n = L.length := by omega
              have hlen' : ¬ ((L.length : Int) < L.length) := by omega
              rw [HFO.out] at hfo
              subst hfo
              have HF11 := Lib.hid (Fr0.trans HF10.out hfw)
              clear hfw hbx hbe
              rcases HCA.out with ⟨rfl, rfl, rfl, h⟩ | ⟨rfl, rfl, rfl, h⟩
              · by_cases hml : (M.length : Int) ≤ lost
                · have h2 : fo = true := by rw [h]; exact decide_eq_true hml
                  clear h; subst h2
                  go_wp2_with (first | (go_at_call 23; refine (marked23 (HB.out.glob.fr HF11.out)).mono ?_; rintro e w12 ⟨rfl, hf12⟩; (have H12 := Lib.hid hf12); clear hf12))
                  refine bodyPost_ret (v := .bool true) (by simp [results, Tryd.results9, go_sem]) rfl ⟨rfl, ?_⟩
                  exact Fr0.trans HF11.out H12.out
                · have h2 : fo = false := by rw [h]; exact decide_eq_false hml
                  clear h; subst h2
                  go_wp2_with (first | (go_at_call 23; refine (marked23 (HB.out.glob.fr HF11.out)).mono ?_; rintro e w12 ⟨rfl, hf12⟩; (have H12 := Lib.hid hf12); clear hf12))
                  refine bodyPost_ret (v := .bool true) (by simp [results, Tryd.results9, go_sem]) rfl ⟨rfl, ?_⟩
                  exact Fr0.trans HF11.out H12.out
              · subst h
                go_wp2_with (first | (go_at_call 23; refine (marked23 (HB.out.glob.fr HF11.out)).mono ?_; rintro e w12 ⟨rfl, hf12⟩; (have H12 := Lib.hid hf12); clear hf12))
                refine bodyPost_ret (v := .bool true) (by simp [results, Tryd.results9, go_sem]) rfl ⟨rfl, ?_⟩
                exact Fr0.trans HF11.out H12.out

end Go.Proofs.YtephecfapclgfaaDoor.R
