import Derived.Test.YtephecfapclgfaaDoorG7
import Derived.Test.YtephecfapclgfaaDoorQF
import Derived.Test.YtephecfapclgfaaDoorVXC
set_option linter.unusedVariables false
set_option linter.unusedSimpArgs false
namespace Go.Proofs.YtephecfapclgfaaDoor.R
open Go.RowKit Go.Shelf Go.Proofs.YtephecfapclgfaaDoorW.PrintWords Go.Proofs.YtephecfapclgfaaDoorW.PrintLast Go.Proofs.YtephecfapclgfaaDoorW.PrintMore Go.Proofs.YtephecfapclgfaaDoor.PRaspKeys Go.Proofs.YtephecfapclgfaaDoor.X Go.Proofs.YtephecfapclgfaaDoor.Q
attribute [local go_sem] Oper.semAt_some
attribute [local go_sem high] eqA38 eqA97

/-! ### What the laws' helpers tell -/
theorem small_of {w : World} {A : Option Addr} {c : Nat} {l : List S63} (hB : Book w A c l) : Small l := ⟨C_len hB.r, C63_len hB.r⟩
theorem turn40 (a b : Int) (h1 : 1 ≤ b) (h2 : b ≤ 1000000) (w : World) : Calls Tryd.prog 40 #[.int .i64 a, .int .i64 b] w fun e w' => e = .returned (.int .i64 (a % b)) ∧ Fr0 w w' :=
  (saronref00_Turn.calls a b _ w (turn_f a b h1 (by omega))).mono fun e w' h => ⟨h.1, mk_dr h.2⟩
theorem sound39 {w : World} {g : Int} {A : Option Addr} {c : Nat} {l : List S63} (hB : Book w A c l) : Calls Tryd.prog 39 #[.agg #[.int .i64 g, .slice A l.length c]] w fun e w' => e = .returned (.bool (bookOk g l)) ∧ Fr0 w w' := by
  obtain ⟨K, hK⟩ := sound_f (g := g) (small_of hB)
  exact (saronlaw05_sound.calls K g A c l _ w hB.r hB.c (hK K (Nat.le_refl _))).mono fun e w' h => ⟨h.1, Go.Proofs.YtephecfapclgfaaDoor.X.Fr.of_below h.2⟩
theorem where42 {w : World} {A : Option Addr} {c : Nat} {r : List Int} (hr : Kd.C (Kd.int .i64) w A r.length r) (hc : r.length ≤ c) (x : Int) : Calls Tryd.prog 42 #[.slice A r.length c, .int .i64 x] w fun e w' => e = .returned (.int .i64 (wh x 0 r)) ∧ Fr0 w w' := by
  obtain ⟨K, hK⟩ := where_f r x (C_len hr)
  exact (saronref00_Where.calls K A c r x _ w hr hc (hK K (Nat.le_refl _))).mono fun e w' h => ⟨h.1, mk_dr h.2⟩
theorem conf35 {w : World} {g : Int} {A : Option Addr} {c : Nat} {l : List S63} (hB : Book w A c l) (lost many : Int) {s0 s1 t0 t1 E : Int} (hC : confF g l lost many = ((⟨s0, s1⟩, ⟨t0, t1⟩), E)) : Calls Tryd.prog 35 #[.agg #[.int .i64 g, .slice A l.length c], .int .i64 lost, .int .i64 many] w fun e w' => e = .returned (.tuple #[.agg #[.int .i64 s0, .int .i64 s1], .agg #[.int .i64 t0, .int .i64 t1], .int .i64 E]) ∧ Fr0 w w' := by
  have h := confused_any g A c l lost many w hB
  rw [hC] at h
  exact h.mono fun e w' h => ⟨h.1, mk_fr h.2⟩
theorem sure37 {w : World} {g : Int} {A : Option Addr} {c : Nat} {l : List S63} (hB : Book w A c l) (lost : Int) {a E : Int} (hC : sureF g l lost = (a, E)) : Calls Tryd.prog 37 #[.agg #[.int .i64 g, .slice A l.length c], .int .i64 lost] w fun e w' => e = .returned (.tuple #[.int .i64 a, .int .i64 E]) ∧ Fr0 w w' := by
  have h := sure_any g A c l lost w hB
  rw [hC] at h
  exact h.mono fun e w' h => ⟨h.1, mk_fr h.2⟩
theorem marked23 {w : World} (hG : Glob w) : Calls Tryd.prog 23 #[] w fun e w' => e = .returned (.bool true) ∧ Fr0 w w' := (marked_any w hG).mono fun e w' h => ⟨h.1, mk_fr h.2⟩
theorem pass24 {w : World} {g : Int} {A : Option Addr} {c : Nat} {l : List S63} (hB : Book w A c l) {s0 s1 : Int} {m : Nat} {p : List (List Int)} (hP : passF g l s0 s1 (m : Int) = (p, 0)) (hm : p.length = m) : Calls Tryd.prog 24 #[.agg #[.int .i64 g, .slice A l.length c], .agg #[.int .i64 s0, .int .i64 s1], .int .i64 (m : Int)] w fun e w' =>
    ∃ A2 c2, e = .returned (.tuple #[.slice A2 m c2, .int .i64 0]) ∧ Kd.C (Kd.slice 3 (Kd.int .i64)) w' A2 p.length p ∧ m ≤ c2 ∧ Fr0 w w' := by
  have h := passages_any g A c l s0 s1 (m : Int) w hB
  rw [hP] at h
  refine h.mono ?_
  rintro e w' ⟨v, rfl, ⟨A2, c2, rfl, hc, hF⟩, hb⟩
  subst hm
  exact ⟨A2, c2, rfl, Kd.F_now hF, hc, mk_fr hb⟩
def bothR (p q : List (List Int)) : Nat → List (List Int)
  | 0 => []
  | k + 1 => bothR p q k ++ [(p.getD k []).filter (fun x => (q.getD k []).contains x)]
theorem bothR_len (p q : List (List Int)) : ∀ k, (bothR p q k).length = k
  | 0 => rfl
  | k + 1 => by unfold bothR; rw [List.length_append, bothR_len p q k]; rfl
theorem take_filter (r : List Int) (f : Int → Bool) (i : Nat) (hi : i < r.length) : (r.take (i + 1)).filter f = (r.take i).filter f ++ (if f r[i] = true then [r[i]] else []) := by
  have ht : r.take (i + 1) = r.take i ++ [r[i]] := by rw [List.take_add_one, List.getElem?_eq_getElem hi]; rfl
  rw [ht, List.filter_append]
  by_cases c : f r[i] = true
  · rw [List.filter_cons_of_pos c, if_pos c]; rfl
  · rw [List.filter_cons_of_neg c, if_neg c]; rfl
theorem inf_3 : (Tryd.prog.info? 3).map (fun i => (i.zero, i.size, i.bytes)) = some (some (.int .i64 0), 1, 8) := by kernel_rfl
theorem inf_26 : (Tryd.prog.info? 26).map (fun i => (i.zero, i.size, i.bytes)) = some (some (.slice none 0 0), 1, 24) := by kernel_rfl
theorem places27 {w : World} {g : Int} {A : Option Addr} {c : Nat} {l : List S63} (hB : Book w A c l) {Ap : Option Addr} {cp : Nat} {p : List (List Int)} (hr : Kd.C (Kd.slice 3 (Kd.int .i64)) w Ap p.length p) (hc : p.length ≤ cp) {lost : Int} {L : List S38} (hP : placesF g l p lost = (L, 0)) : Calls Tryd.prog 27 #[.agg #[.int .i64 g, .slice A l.length c], .slice Ap p.length cp, .int .i64 lost] w fun e w' =>
    ∃ A2 c2, e = .returned (.tuple #[.slice A2 L.length c2, .int .i64 0]) ∧ Kd.C k38 w' A2 L.length L ∧ L.length ≤ c2 ∧ Fr0 w w' := by
  have h := places_any g A c l Ap cp p lost w hB hr hc
  rw [hP] at h
  refine h.mono ?_
  rintro e w' ⟨v, rfl, ⟨A2, c2, rfl, hc, hF⟩, hb⟩
  exact ⟨A2, c2, rfl, Kd.F_now hF, hc, mk_fr hb⟩
theorem _root_.Go.Proofs.YtephecfapclgfaaDoor.X.Bx.new_at {W0 wc : World} (h : Fr0 W0 wc) (t : TypeId) (cs : Array Value) : Bx (wc.alloc (.cells cs t)) wc.heap.size t cs := Bx.new _ _ _
theorem within_l1 (a b : List S38) (ha : a.length ≤ 1000) (hb : b.length ≤ 9223372036854775807) (i : Nat) (hi : i < a.length) {R : Bool} (hn : Ev (fun k => saronlaw05_within.l0 k a b ((i + 1 : Nat) : Int)) R) : ∀ (d n : Nat) (found : Bool), n + d = b.length → (found = true ∨ ∃ j, ∃ h : j < b.length, n ≤ j ∧ b[j] = a[i]) → Ev (fun k => saronlaw05_within.l1 k a b (i : Int) found (n : Int)) R
  | 0, n, found, hd, hf => by
    have e : found = true := by
      rcases hf with e | ⟨j, hj, hnj, _⟩
      · exact e
      · omega
    subst e
    refine Ev.step (fun k => by rw [saronlaw05_within.l1, if_neg (by omega), if_pos rfl, w64 (x := (i : Int) + 1) (by omega) (by omega), show ((i : Int) + 1) = ((i + 1 : Nat) : Int) by omega]) ?_
    exact hn
  | d + 1, n, found, hd, hf => by
    have hnl : n < b.length := by omega
    have e0 : wrap64 ((n : Int) + 1) = ((n + 1 : Nat) : Int) := by rw [w64 (by omega) (by omega)]; omega
    cases found
    · refine Ev.step (fun k => by rw [saronlaw05_within.l1, if_pos (by omega), if_neg (by simp), if_pos (by omega), if_pos (by omega), if_pos (by omega), show rd_T38 a (i : Int) = a[i] by simp [rd_T38, hi], show rd_T38 b (n : Int) = b[n] by simp [rd_T38, hnl], e0]) ?_
      refine within_l1 a b ha hb i hi hn d (n + 1) _ (by omega) ?_
      rcases hf with e | ⟨j, hj, hnj, e⟩
      · cases e
      · by_cases c : j = n
        · subst c
          left
          rw [e]; simp
        · exact .inr ⟨j, hj, by omega, e⟩
    · refine Ev.step (fun k => by rw [saronlaw05_within.l1, if_pos (by omega), if_pos rfl, e0]) ?_
      exact within_l1 a b ha hb i hi hn d (n + 1) true (by omega) (.inl rfl)
theorem within_l0 (a b : List S38) (ha : a.length ≤ 1000) (hb : b.length ≤ 9223372036854775807) (hm : ∀ s ∈ a, s ∈ b) : ∀ (d i : Nat), i + d = a.length → Ev (fun k => saronlaw05_within.l0 k a b (i : Int)) true
  | 0, i, hd => by
    refine Ev.step (fun k => by rw [saronlaw05_within.l0, if_neg (by omega)]) ?_
    exact Ev.now true
  | d + 1, i, hd => by
    have hi : i < a.length := by omega
    refine Ev.step (fun k => by rw [saronlaw05_within.l0, if_pos (by omega)]) ?_
    refine within_l1 a b ha hb i hi (within_l0 a b ha hb hm d (i + 1) (by omega)) b.length 0 false (by omega) (.inr ?_)
    obtain ⟨j, hj, e⟩ := List.getElem_of_mem (hm _ (List.getElem_mem hi))
    exact ⟨j, hj, Nat.zero_le _, e⟩
theorem within47 {w : World} {A B : Option Addr} {cb : Nat} {L : List S38} {s t : S38} (hA : Kd.C k38 w A 2 [s, t]) (hB : Kd.C k38 w B L.length L) (hc : L.length ≤ cb) (h0 : s ∈ L) (h1 : t ∈ L) : Calls Tryd.prog 47 #[.slice A 2 2, .slice B L.length cb] w fun e w' => e = .returned (.bool true) ∧ Fr0 w w' := by
  obtain ⟨K, hK⟩ := within_l0 [s, t] L (by simp) (C_len hB) (fun x hx => by
    rcases List.mem_cons.1 hx with rfl | hx
    · exact h0
    · rw [List.mem_singleton.1 hx]; exact h1) 2 0 rfl
  exact (saronlaw05_within.calls K A 2 [s, t] B cb L true w hA (Nat.le_refl 2) hB hc (hK K (Nat.le_refl _))).mono fun e w' h => ⟨h.1, mk_dr h.2⟩
theorem two_new (W : World) (a b c d : Int) : Kd.C k38 (W.alloc (.cells #[.int .i64 a, .int .i64 b, .int .i64 c, .int .i64 d] 38)) (some ⟨W.heap.size, 0, none⟩) 2 [⟨a, b⟩, ⟨c, d⟩] :=
  C_mk k38 [⟨a, b⟩, ⟨c, d⟩] (fun x => [.int .i64 x.f0, .int .i64 x.f1]) (fun x _ => ⟨[.int .i64 x.f0], [.int .i64 x.f1], rfl, rfl, rfl⟩) (fun _ => rfl) rfl (by simp) (Bx.of_new (t := 38) rfl)
theorem size_al (w : World) (o : Obj) : (w.alloc o).heap.size = w.heap.size + 1 := by simp
/-- Two blocks of two numbers, made behind W0. -/
structure FkP (W0 : World) (g h : Nat) (W : World) : Prop where
  fr : Fr0 W0 W
  x : Bx W g 38 #[.int .i64 0, .int .i64 0]
  y : Bx W h 38 #[.int .i64 0, .int .i64 0]
  gx : W0.heap.size ≤ g
  hy : W0.heap.size ≤ h
  ne : g ≠ h

set_option maxHeartbeats 8000000 in
set_option maxRecDepth 100000 in
theorem confused_bad (g : Int) (A : Option Addr) (c : Nat) (l : List S63) (n0 n1 n2 : Int) (w : World) (hB : Book w A c l) (hb : bookOk g l = false) (hC : confF g l (n0 % 7) (1 + n1 % 64) = ((⟨0, 0⟩, ⟨0, 0⟩), 50)) :
    Calls Tryd.prog 12 #[.agg #[.int .i64 g, .slice A l.length c], .agg #[.int .i64 n0, .int .i64 n1, .int .i64 n2]] w fun e w' => e = .returned (.bool true) ∧ Fr0 w w' := by
  have HB := Lib.hid hB
  have hm0 := Int.emod_nonneg n1 (show (64 : Int) ≠ 0 by omega)
  have hm1 := Int.emod_lt_of_pos n1 (show (0 : Int) < 64 by omega)
  have HT0 := Lib.hid (fun W => turn40 n0 7 (by omega) (by omega) W)
  have HT1 := Lib.hid (fun W => turn40 n1 64 (by omega) (by omega) W)
  have hw : wrap64 (1 + n1 % 64) = 1 + n1 % 64 := w64 (by omega) (by omega)
  have hf0 : Fr0 w ((w.alloc (.cells #[.int .i64 g, .slice A l.length c] 24)).alloc (.cells #[.int .i64 n0, .int .i64 n1, .int .i64 n2] 25)) := ((Fr.refl _ _).alloc _).alloc _
  have c2 : Bx ((w.alloc (.cells #[.int .i64 g, .slice A l.length c] 24)).alloc (.cells #[.int .i64 n0, .int .i64 n1, .int .i64 n2] 25)) w.heap.size 24 #[.int .i64 g, .slice A l.length c] := (Bx.of_new rfl).alloc _
  have c3 : Bx ((w.alloc (.cells #[.int .i64 g, .slice A l.length c] 24)).alloc (.cells #[.int .i64 n0, .int .i64 n1, .int .i64 n2] 25)) (w.heap.size + 1) 25 #[.int .i64 n0, .int .i64 n1, .int .i64 n2] := Bx.of_new (by simp)
  clear hB
  go_enter Tryd.func12, Tryd.ntmps12
  go_wp2
  generalize hW : ((w.alloc (.cells #[.int .i64 g, .slice A l.length c] 24)).alloc (.cells #[.int .i64 n0, .int .i64 n1, .int .i64 n2] 25)) = W at hf0 c2 c3 ⊢
  clear hW
  have HF0 := Lib.hid hf0
  have HC2 := Lib.hid c2
  have HC3 := Lib.hid c3
  have u0 := c3.at_ 0 (v := .int .i64 n0) rfl
  have u1 := c3.at_ 1 (v := .int .i64 n1) rfl
  clear hf0 c2 c3
  refine start_ (n := 9) (S := fun w' => w'.cell? ⟨w.heap.size + 1, 0, none⟩ = some (.int .i64 n0) ∧ w'.cell? ⟨w.heap.size + 1, 1, none⟩ = some (.int .i64 n1)) (ds := []) #[false, false, false, false, false, false, false, false, false] (by kernel_rfl) rfl rfl ⟨u0, u1⟩ (fun hHeld => ?_)
  refine pure_ (i := 0) (N := some 25) (v := ?_) (a' := ?_) #[true, false, false, false, false, false, false, false, false] rfl rfl (by kernel_rfl) (fun _ _ _ h => h) (Or.inl ⟨by rfl, ?_⟩) ?_ ?_
  rotate_left
  · intro w'
    go_simp
    with_reducible rfl
  rotate_left
  · simp only [Act.put, List.setIfInBounds_toArray, List.set_cons_zero, List.set_cons_succ, i64_w, i32_w]
    rfl
  refine pure_ (i := 3) (N := some 28) (v := ?_) (a' := ?_) #[true, false, false, true, false, false, false, false, false] rfl rfl (by kernel_rfl) (fun _ _ _ h => h) (Or.inl ⟨by rfl, ?_⟩) ?_ ?_
  rotate_left
  · intro w'
    go_simp
    with_reducible rfl
  rotate_left
  · simp only [Act.put, List.setIfInBounds_toArray, List.set_cons_zero, List.set_cons_succ, i64_w, i32_w]
    rfl
  refine take_ (i := 1) (N := some 26) (v := ?_) (a' := ?_) #[true, true, false, true, false, false, false, false, false] rfl rfl (by kernel_rfl) (fun _ _ _ h => h) (Or.inl ⟨by rfl, ?_⟩) hHeld ?_ ?_
  rotate_left
  · rintro w' ⟨s0, s1⟩
    go_simp
    with_reducible rfl
  rotate_left
  · simp only [Act.put, List.setIfInBounds_toArray, List.set_cons_zero, List.set_cons_succ, i64_w, i32_w]
    rfl
  refine take_ (i := 4) (N := some 29) (v := ?_) (a' := ?_) #[true, true, false, true, true, false, false, false, false] rfl rfl (by kernel_rfl) (fun _ _ _ h => h) (Or.inl ⟨by rfl, ?_⟩) hHeld ?_ ?_
  rotate_left
  · rintro w' ⟨s0, s1⟩
    go_simp
    with_reducible rfl
  rotate_left
  · simp only [Act.put, List.setIfInBounds_toArray, List.set_cons_zero, List.set_cons_succ, i64_w, i32_w]
    rfl
  refine one_ (i := 2) (N := some 27) #[true, true, true, true, true, false, false, false, false] rfl rfl (by kernel_rfl) (by decide) (fun K hK => ?_)
  refine goes_ Tryd.func40 (by kernel_rfl) rfl #[.int .i64 n0, .int .i64 7] (by rfl) rfl rfl (by simp only [List.map_toArray, List.map_cons, List.map_nil]; rfl) ?_
  with_reducible refine (HT0.out _).mono ?_
  rintro e w3 ⟨rfl, hf3⟩
  refine ⟨_, rfl, ?_⟩
  have H3 := Lib.hid (Fr0.trans (Fr.drew (Fr.refl _ W)) hf3)
  refine hK.out _ _ ⟨(H3.out.cell0 u0), (H3.out.cell0 u1)⟩ (fun hHeld => ?_)
  clear hK K
  refine norm_ (a' := ?_) ?_ ?_
  rotate_left
  · show Act.put _ (some 27) _ = _
    simp only [Act.put, List.setIfInBounds_toArray, List.set_cons_zero, List.set_cons_succ, i64_w, i32_w]
    rfl
  refine one_ (i := 5) (N := some 30) #[true, true, true, true, true, true, false, false, false] rfl rfl (by kernel_rfl) (by decide) (fun K hK => ?_)
  refine goes_ Tryd.func40 (by kernel_rfl) rfl #[.int .i64 n1, .int .i64 64] (by rfl) rfl rfl (by simp only [List.map_toArray, List.map_cons, List.map_nil]; rfl) ?_
  with_reducible refine (HT1.out _).mono ?_
  rintro e w4 ⟨rfl, hf4⟩
  refine ⟨_, rfl, ?_⟩
  have H4 := Lib.hid (Fr0.trans H3.out hf4)
  refine hK.out _ _ ⟨(H4.out.cell0 u0), (H4.out.cell0 u1)⟩ (fun hHeld => ?_)
  clear hK K
  refine norm_ (a' := ?_) ?_ ?_
  rotate_left
  · show Act.put _ (some 30) _ = _
    simp only [Act.put, List.setIfInBounds_toArray, List.set_cons_zero, List.set_cons_succ, i64_w, i32_w]
    rfl
  refine pure_ (i := 6) (N := some 31) (v := ?_) (a' := ?_) #[true, true, true, true, true, true, true, false, false] rfl rfl (by kernel_rfl) (fun _ _ _ h => h) (Or.inl ⟨by rfl, ?_⟩) ?_ ?_
  rotate_left
  · intro w'
    go_simp
    with_reducible rfl
  rotate_left
  · simp only [Act.put, List.setIfInBounds_toArray, List.set_cons_zero, List.set_cons_succ, i64_w, i32_w]
    rfl
  refine pure_ (i := 7) (N := some 5) (v := ?_) (a' := ?_) #[true, true, true, true, true, true, true, true, false] rfl rfl (by kernel_rfl) (fun _ _ _ h => h) (Or.inl ⟨by rfl, ?_⟩) ?_ ?_
  rotate_left
  · intro w'
    go_simp
    with_reducible rfl
  rotate_left
  · simp only [Act.put, List.setIfInBounds_toArray, List.set_cons_zero, List.set_cons_succ, i64_w, i32_w]
    rfl
  refine pure_ (i := 8) (N := some 6) (v := ?_) (a' := ?_) #[true, true, true, true, true, true, true, true, true] rfl rfl (by kernel_rfl) (fun _ _ _ h => h) (Or.inl ⟨by rfl, ?_⟩) ?_ ?_
  rotate_left
  · intro w'
    go_simp
    with_reducible rfl
  rotate_left
  · simp only [Act.put, List.setIfInBounds_toArray, List.set_cons_zero, List.set_cons_succ, i64_w, i32_w]
    rfl
  refine done_ (by kernel_rfl) ?_
  clear u0 u1
  rw [hw]
  clear hw
  generalize n0 % 7 = lost at *
  generalize 1 + n1 % 64 = many at *
  have HD2 := Lib.hid (HC2.out.fr0 H4.out)
  have v0 := HD2.out.at_ 0 (v := .int .i64 g) rfl
  have v1 := HD2.out.at_ 1 (v := .slice A l.length c) rfl
  have HF4 := Lib.hid (Fr0.trans HF0.out H4.out)
  go_upto_region 3 with (first
    | (go_at_call 35; refine (conf35 (HB.out.fr HF4.out) lost many hC).mono ?_; rintro e w5 ⟨rfl, hf5⟩; (have HF5 := Lib.hid hf5); clear hf5))
  have hx7 : Bx ((w5.alloc (.cells #[.int .i64 0, .int .i64 0] 38)).alloc (.cells #[.int .i64 0, .int .i64 0] 38)) w5.heap.size 38 #[.int .i64 0, .int .i64 0] := (Bx.of_new rfl).alloc _
  have hx8 : Bx ((w5.alloc (.cells #[.int .i64 0, .int .i64 0] 38)).alloc (.cells #[.int .i64 0, .int .i64 0] 38)) (w5.heap.size + 1) 38 #[.int .i64 0, .int .i64 0] := Bx.of_new (by simp)
  have hf6 : Fr0 w4 ((w5.alloc (.cells #[.int .i64 0, .int .i64 0] 38)).alloc (.cells #[.int .i64 0, .int .i64 0] 38)) := (HF5.out.alloc _).alloc _
  generalize ((w5.alloc (.cells #[.int .i64 0, .int .i64 0] 38)).alloc (.cells #[.int .i64 0, .int .i64 0] 38)) = W6 at hx7 hx8 hf6 ⊢
  generalize w5.heap.size = b7 at hx7 hx8 ⊢
  have HX7 := Lib.hid hx7
  have HX8 := Lib.hid hx8
  have HF6 := Lib.hid (Fr0.trans HF4.out hf6)
  have HE2 := Lib.hid (HD2.out.fr0 hf6)
  have HE3 := Lib.hid ((HC3.out.fr0 H4.out).fr0 hf6)
  clear v0 v1 hx7 hx8 hf6
  have v0 := HE2.out.at_ 0 (v := .int .i64 g) rfl
  have v1 := HE2.out.at_ 1 (v := .slice A l.length c) rfl
  go_upto_region 4 with (first
    | (go_at_call 39; refine (sound39 (HB.out.fr HF6.out)).mono ?_; rw [hb]; rintro e w7 ⟨rfl, hf7⟩; (have HF7 := Lib.hid hf7); clear hf7))
  have HF8 := Lib.hid (Fr0.trans HF6.out HF7.out)
  have HY7 := Lib.hid (HX7.out.fr0 HF7.out)
  have HY8 := Lib.hid (HX8.out.fr0 HF7.out)
  have HY2 := Lib.hid (HE2.out.fr0 HF7.out)
  have HY3 := Lib.hid (HE3.out.fr0 HF7.out)
  clear v0 v1
  have p0 := HY7.out.at_ 0 (v := .int .i64 0) rfl
  have p1 := HY7.out.at_ 1 (v := .int .i64 0) rfl
  have p2 := HY8.out.at_ 0 (v := .int .i64 0) rfl
  have p3 := HY8.out.at_ 1 (v := .int .i64 0) rfl
  refine start_ (n := 16) (S := fun w' => w'.cell? ⟨b7, 0, none⟩ = some (.int .i64 0) ∧ w'.cell? ⟨b7, 1, none⟩ = some (.int .i64 0) ∧ w'.cell? ⟨b7 + 1, 0, none⟩ = some (.int .i64 0) ∧ w'.cell? ⟨b7 + 1, 1, none⟩ = some (.int .i64 0)) (ds := []) #[false, false, false, false, false, false, false, false, false, false, false, false, false, false, false, false] (by kernel_rfl) rfl rfl ⟨p0, p1, p2, p3⟩ (fun hHeld => ?_)
  refine pure_ (i := 0) (N := some 43) (v := ?_) (a' := ?_) #[true, false, false, false, false, false, false, false, false, false, false, false, false, false, false, false] rfl rfl (by kernel_rfl) (fun _ _ _ h => h) (Or.inl ⟨by rfl, ?_⟩) ?_ ?_
  rotate_left
  · intro w'
    go_simp
    with_reducible rfl
  rotate_left
  · simp only [Act.put, List.setIfInBounds_toArray, List.set_cons_zero, List.set_cons_succ, i64_w, i32_w]
    rfl
  refine pure_ (i := 1) (N := some 44) (v := ?_) (a' := ?_) #[true, true, false, false, false, false, false, false, false, false, false, false, false, false, false, false] rfl rfl (by kernel_rfl) (fun _ _ _ h => h) (Or.inl ⟨by rfl, ?_⟩) ?_ ?_
  rotate_left
  · intro w'
    go_simp
    with_reducible rfl
  rotate_left
  · simp only [Act.put, List.setIfInBounds_toArray, List.set_cons_zero, List.set_cons_succ, i64_w, i32_w]
    rfl
  refine pure_ (i := 2) (N := some 45) (v := ?_) (a' := ?_) #[true, true, true, false, false, false, false, false, false, false, false, false, false, false, false, false] rfl rfl (by kernel_rfl) (fun _ _ _ h => h) (Or.inl ⟨by rfl, ?_⟩) ?_ ?_
  rotate_left
  · intro w'
    go_simp
    with_reducible rfl
  rotate_left
  · simp only [Act.put, List.setIfInBounds_toArray, List.set_cons_zero, List.set_cons_succ, i64_w, i32_w]
    rfl
  refine take_ (i := 3) (N := some 46) (v := ?_) (a' := ?_) #[true, true, true, true, false, false, false, false, false, false, false, false, false, false, false, false] rfl rfl (by kernel_rfl) (fun _ _ _ h => h) (Or.inl ⟨by rfl, ?_⟩) hHeld ?_ ?_
  rotate_left
  · rintro w' ⟨s0, s1, s2, s3⟩
    go_simp
    with_reducible rfl
  rotate_left
  · simp only [Act.put, List.setIfInBounds_toArray, List.set_cons_zero, List.set_cons_succ, i64_w, i32_w]
    rfl
  refine one_ (i := 4) (N := some 47) #[true, true, true, true, true, false, false, false, false, false, false, false, false, false, false, false] rfl rfl (by kernel_rfl) (by decide) (fun K hK => ?_)
  refine goes_ Tryd.func46 (by kernel_rfl) rfl #[.int .i64 0, .int .i64 0] (by rfl) rfl rfl (by simp only [List.map_toArray, List.map_cons, List.map_nil]; rfl) ?_
  with_reducible refine (at46 0 0 _).mono ?_
  rintro e w9 ⟨rfl, hf9⟩
  refine ⟨_, rfl, ?_⟩
  have H9 := Lib.hid (Fr0.trans (Fr.drew (Fr.refl _ w7)) hf9)
  refine hK.out _ _ ⟨(H9.out.cell0 p0), (H9.out.cell0 p1), (H9.out.cell0 p2), (H9.out.cell0 p3)⟩ (fun hHeld => ?_)
  clear hK K
  refine norm_ (a' := ?_) ?_ ?_
  rotate_left
  · show Act.put _ (some 47) _ = _
    simp only [Act.put, List.setIfInBounds_toArray, List.set_cons_zero, List.set_cons_succ, i64_w, i32_w]
    rfl
  refine pure_ (i := 5) (N := some 48) (v := ?_) (a' := ?_) #[true, true, true, true, true, true, false, false, false, false, false, false, false, false, false, false] rfl rfl (by kernel_rfl) (fun _ _ _ h => h) (Or.inl ⟨by rfl, ?_⟩) ?_ ?_
  rotate_left
  · intro w'
    go_simp
    with_reducible rfl
  rotate_left
  · simp only [Act.put, List.setIfInBounds_toArray, List.set_cons_zero, List.set_cons_succ, i64_w, i32_w]
    rfl
  refine pure_ (i := 6) (N := some 49) (v := ?_) (a' := ?_) #[true, true, true, true, true, true, true, false, false, false, false, false, false, false, false, false] rfl rfl (by kernel_rfl) (fun _ _ _ h => h) (Or.inl ⟨by rfl, ?_⟩) ?_ ?_
  rotate_left
  · intro w'
    go_simp
    with_reducible rfl
  rotate_left
  · simp only [Act.put, List.setIfInBounds_toArray, List.set_cons_zero, List.set_cons_succ, i64_w, i32_w]
    rfl
  refine pure_ (i := 7) (N := some 50) (v := ?_) (a' := ?_) #[true, true, true, true, true, true, true, true, false, false, false, false, false, false, false, false] rfl rfl (by kernel_rfl) (fun _ _ _ h => h) (Or.inl ⟨by rfl, ?_⟩) ?_ ?_
  rotate_left
  · intro w'
    go_simp
    with_reducible rfl
  rotate_left
  · simp only [Act.put, List.setIfInBounds_toArray, List.set_cons_zero, List.set_cons_succ, i64_w, i32_w]
    rfl
  refine take_ (i := 8) (N := some 51) (v := ?_) (a' := ?_) #[true, true, true, true, true, true, true, true, true, false, false, false, false, false, false, false] rfl rfl (by kernel_rfl) (fun _ _ _ h => h) (Or.inl ⟨by rfl, ?_⟩) hHeld ?_ ?_
  rotate_left
  · rintro w' ⟨s0, s1, s2, s3⟩
    go_simp
    with_reducible rfl
  rotate_left
  · simp only [Act.put, List.setIfInBounds_toArray, List.set_cons_zero, List.set_cons_succ, i64_w, i32_w]
    rfl
  refine take_ (i := 9) (N := some 52) (v := ?_) (a' := ?_) #[true, true, true, true, true, true, true, true, true, true, false, false, false, false, false, false] rfl rfl (by kernel_rfl) (fun _ _ _ h => h) (Or.inl ⟨by rfl, ?_⟩) hHeld ?_ ?_
  rotate_left
  · rintro w' ⟨s0, s1, s2, s3⟩
    go_simp
    with_reducible rfl
  rotate_left
  · simp only [Act.put, List.setIfInBounds_toArray, List.set_cons_zero, List.set_cons_succ, i64_w, i32_w]
    rfl
  refine pure_ (i := 10) (N := some 53) (v := ?_) (a' := ?_) #[true, true, true, true, true, true, true, true, true, true, true, false, false, false, false, false] rfl rfl (by kernel_rfl) (fun _ _ _ h => h) (Or.inl ⟨by rfl, ?_⟩) ?_ ?_
  rotate_left
  · intro w'
    go_simp
    with_reducible rfl
  rotate_left
  · simp only [Act.put, List.setIfInBounds_toArray, List.set_cons_zero, List.set_cons_succ, i64_w, i32_w]
    rfl
  refine pure_ (i := 11) (N := some 54) (v := ?_) (a' := ?_) #[true, true, true, true, true, true, true, true, true, true, true, true, false, false, false, false] rfl rfl (by kernel_rfl) (fun _ _ _ h => h) (Or.inl ⟨by rfl, ?_⟩) ?_ ?_
  rotate_left
  · intro w'
    go_simp
    with_reducible rfl
  rotate_left
  · simp only [Act.put, List.setIfInBounds_toArray, List.set_cons_zero, List.set_cons_succ, i64_w, i32_w]
    rfl
  refine pure_ (i := 12) (N := some 55) (v := ?_) (a' := ?_) #[true, true, true, true, true, true, true, true, true, true, true, true, true, false, false, false] rfl rfl (by kernel_rfl) (fun _ _ _ h => h) (Or.inl ⟨by rfl, ?_⟩) ?_ ?_
  rotate_left
  · intro w'
    go_simp
    with_reducible rfl
  rotate_left
  · simp only [Act.put, List.setIfInBounds_toArray, List.set_cons_zero, List.set_cons_succ, i64_w, i32_w]
    rfl
  refine one_ (i := 13) (N := some 56) #[true, true, true, true, true, true, true, true, true, true, true, true, true, true, false, false] rfl rfl (by kernel_rfl) (by decide) (fun K hK => ?_)
  refine goes_ Tryd.func23 (by kernel_rfl) rfl #[] (by rfl) rfl rfl (by first | rfl | simp) ?_
  refine (marked23 (HB.out.glob.fr (Fr0.trans HF8.out H9.out))).mono ?_
  rintro e w10 ⟨rfl, hf10⟩
  refine ⟨_, rfl, ?_⟩
  have H10 := Lib.hid (Fr0.trans H9.out hf10)
  refine hK.out _ _ ⟨(H10.out.cell0 p0), (H10.out.cell0 p1), (H10.out.cell0 p2), (H10.out.cell0 p3)⟩ (fun hHeld => ?_)
  clear hK K
  refine norm_ (a' := ?_) ?_ ?_
  rotate_left
  · show Act.put _ (some 56) _ = _
    simp only [Act.put, List.setIfInBounds_toArray, List.set_cons_zero, List.set_cons_succ, i64_w, i32_w]
    rfl
  refine pure_ (i := 14) (N := some 57) (v := ?_) (a' := ?_) #[true, true, true, true, true, true, true, true, true, true, true, true, true, true, true, false] rfl rfl (by kernel_rfl) (fun _ _ _ h => h) (Or.inl ⟨by rfl, ?_⟩) ?_ ?_
  rotate_left
  · intro w'
    go_simp
    with_reducible rfl
  rotate_left
  · simp only [Act.put, List.setIfInBounds_toArray, List.set_cons_zero, List.set_cons_succ, i64_w, i32_w]
    rfl
  refine pure_ (i := 15) (N := some 4) (v := ?_) (a' := ?_) #[true, true, true, true, true, true, true, true, true, true, true, true, true, true, true, true] rfl rfl (by kernel_rfl) (fun _ _ _ h => h) (Or.inl ⟨by rfl, ?_⟩) ?_ ?_
  rotate_left
  · intro w'
    go_simp
    with_reducible rfl
  rotate_left
  · simp only [Act.put, List.setIfInBounds_toArray, List.set_cons_zero, List.set_cons_succ, i64_w, i32_w]
    rfl
  refine done_ (by kernel_rfl) ?_
  go_wp2
  refine bodyPost_ret (v := .bool true) (by simp [results, Tryd.results12, go_sem]) rfl ⟨rfl, ?_⟩
  exact Fr0.trans HF8.out H10.out

set_option maxHeartbeats 8000000 in
set_option maxRecDepth 100000 in
theorem confused_none12 (g : Int) (A : Option Addr) (c : Nat) (l : List S63) (n0 n1 n2 : Int) (w : World) (hB : Book w A c l) (hb : bookOk g l = true) (hC : confF g l (n0 % 7) (1 + n1 % 64) = ((⟨0, 0⟩, ⟨0, 0⟩), 4)) (a : Int) (hS : sureF g l (n0 % 7) = (a, 0)) (hle : a ≤ 1 + n1 % 64) :
    Calls Tryd.prog 12 #[.agg #[.int .i64 g, .slice A l.length c], .agg #[.int .i64 n0, .int .i64 n1, .int .i64 n2]] w fun e w' => e = .returned (.bool true) ∧ Fr0 w w' := by
  have HB := Lib.hid hB
  have hm0 := Int.emod_nonneg n1 (show (64 : Int) ≠ 0 by omega)
  have hm1 := Int.emod_lt_of_pos n1 (show (0 : Int) < 64 by omega)
  have HT0 := Lib.hid (fun W => turn40 n0 7 (by omega) (by omega) W)
  have HT1 := Lib.hid (fun W => turn40 n1 64 (by omega) (by omega) W)
  have hw : wrap64 (1 + n1 % 64) = 1 + n1 % 64 := w64 (by omega) (by omega)
  have hf0 : Fr0 w ((w.alloc (.cells #[.int .i64 g, .slice A l.length c] 24)).alloc (.cells #[.int .i64 n0, .int .i64 n1, .int .i64 n2] 25)) := ((Fr.refl _ _).alloc _).alloc _
  have c2 : Bx ((w.alloc (.cells #[.int .i64 g, .slice A l.length c] 24)).alloc (.cells #[.int .i64 n0, .int .i64 n1, .int .i64 n2] 25)) w.heap.size 24 #[.int .i64 g, .slice A l.length c] := (Bx.of_new rfl).alloc _
  have c3 : Bx ((w.alloc (.cells #[.int .i64 g, .slice A l.length c] 24)).alloc (.cells #[.int .i64 n0, .int .i64 n1, .int .i64 n2] 25)) (w.heap.size + 1) 25 #[.int .i64 n0, .int .i64 n1, .int .i64 n2] := Bx.of_new (by simp)
  clear hB
  go_enter Tryd.func12, Tryd.ntmps12
  go_wp2
  generalize hW : ((w.alloc (.cells #[.int .i64 g, .slice A l.length c] 24)).alloc (.cells #[.int .i64 n0, .int .i64 n1, .int .i64 n2] 25)) = W at hf0 c2 c3 ⊢
  clear hW
  have HF0 := Lib.hid hf0
  have HC2 := Lib.hid c2
  have HC3 := Lib.hid c3
  have u0 := c3.at_ 0 (v := .int .i64 n0) rfl
  have u1 := c3.at_ 1 (v := .int .i64 n1) rfl
  clear hf0 c2 c3
  refine start_ (n := 9) (S := fun w' => w'.cell? ⟨w.heap.size + 1, 0, none⟩ = some (.int .i64 n0) ∧ w'.cell? ⟨w.heap.size + 1, 1, none⟩ = some (.int .i64 n1)) (ds := []) #[false, false, false, false, false, false, false, false, false] (by kernel_rfl) rfl rfl ⟨u0, u1⟩ (fun hHeld => ?_)
  refine pure_ (i := 0) (N := some 25) (v := ?_) (a' := ?_) #[true, false, false, false, false, false, false, false, false] rfl rfl (by kernel_rfl) (fun _ _ _ h => h) (Or.inl ⟨by rfl, ?_⟩) ?_ ?_
  rotate_left
  · intro w'
    go_simp
    with_reducible rfl
  rotate_left
  · simp only [Act.put, List.setIfInBounds_toArray, List.set_cons_zero, List.set_cons_succ, i64_w, i32_w]
    rfl
  refine pure_ (i := 3) (N := some 28) (v := ?_) (a' := ?_) #[true, false, false, true, false, false, false, false, false] rfl rfl (by kernel_rfl) (fun _ _ _ h => h) (Or.inl ⟨by rfl, ?_⟩) ?_ ?_
  rotate_left
  · intro w'
    go_simp
    with_reducible rfl
  rotate_left
  · simp only [Act.put, List.setIfInBounds_toArray, List.set_cons_zero, List.set_cons_succ, i64_w, i32_w]
    rfl
  refine take_ (i := 1) (N := some 26) (v := ?_) (a' := ?_) #[true, true, false, true, false, false, false, false, false] rfl rfl (by kernel_rfl) (fun _ _ _ h => h) (Or.inl ⟨by rfl, ?_⟩) hHeld ?_ ?_
  rotate_left
  · rintro w' ⟨s0, s1⟩
    go_simp
    with_reducible rfl
  rotate_left
  · simp only [Act.put, List.setIfInBounds_toArray, List.set_cons_zero, List.set_cons_succ, i64_w, i32_w]
    rfl
  refine take_ (i := 4) (N := some 29) (v := ?_) (a' := ?_) #[true, true, false, true, true, false, false, false, false] rfl rfl (by kernel_rfl) (fun _ _ _ h => h) (Or.inl ⟨by rfl, ?_⟩) hHeld ?_ ?_
  rotate_left
  · rintro w' ⟨s0, s1⟩
    go_simp
    with_reducible rfl
  rotate_left
  · simp only [Act.put, List.setIfInBounds_toArray, List.set_cons_zero, List.set_cons_succ, i64_w, i32_w]
    rfl
  refine one_ (i := 2) (N := some 27) #[true, true, true, true, true, false, false, false, false] rfl rfl (by kernel_rfl) (by decide) (fun K hK => ?_)
  refine goes_ Tryd.func40 (by kernel_rfl) rfl #[.int .i64 n0, .int .i64 7] (by rfl) rfl rfl (by simp only [List.map_toArray, List.map_cons, List.map_nil]; rfl) ?_
  with_reducible refine (HT0.out _).mono ?_
  rintro e w3 ⟨rfl, hf3⟩
  refine ⟨_, rfl, ?_⟩
  have H3 := Lib.hid (Fr0.trans (Fr.drew (Fr.refl _ W)) hf3)
  refine hK.out _ _ ⟨(H3.out.cell0 u0), (H3.out.cell0 u1)⟩ (fun hHeld => ?_)
  clear hK K
  refine norm_ (a' := ?_) ?_ ?_
  rotate_left
  · show Act.put _ (some 27) _ = _
    simp only [Act.put, List.setIfInBounds_toArray, List.set_cons_zero, List.set_cons_succ, i64_w, i32_w]
    rfl
  refine one_ (i := 5) (N := some 30) #[true, true, true, true, true, true, false, false, false] rfl rfl (by kernel_rfl) (by decide) (fun K hK => ?_)
  refine goes_ Tryd.func40 (by kernel_rfl) rfl #[.int .i64 n1, .int .i64 64] (by rfl) rfl rfl (by simp only [List.map_toArray, List.map_cons, List.map_nil]; rfl) ?_
  with_reducible refine (HT1.out _).mono ?_
  rintro e w4 ⟨rfl, hf4⟩
  refine ⟨_, rfl, ?_⟩
  have H4 := Lib.hid (Fr0.trans H3.out hf4)
  refine hK.out _ _ ⟨(H4.out.cell0 u0), (H4.out.cell0 u1)⟩ (fun hHeld => ?_)
  clear hK K
  refine norm_ (a' := ?_) ?_ ?_
  rotate_left
  · show Act.put _ (some 30) _ = _
    simp only [Act.put, List.setIfInBounds_toArray, List.set_cons_zero, List.set_cons_succ, i64_w, i32_w]
    rfl
  refine pure_ (i := 6) (N := some 31) (v := ?_) (a' := ?_) #[true, true, true, true, true, true, true, false, false] rfl rfl (by kernel_rfl) (fun _ _ _ h => h) (Or.inl ⟨by rfl, ?_⟩) ?_ ?_
  rotate_left
  · intro w'
    go_simp
    with_reducible rfl
  rotate_left
  · simp only [Act.put, List.setIfInBounds_toArray, List.set_cons_zero, List.set_cons_succ, i64_w, i32_w]
    rfl
  refine pure_ (i := 7) (N := some 5) (v := ?_) (a' := ?_) #[true, true, true, true, true, true, true, true, false] rfl rfl (by kernel_rfl) (fun _ _ _ h => h) (Or.inl ⟨by rfl, ?_⟩) ?_ ?_
  rotate_left
  · intro w'
    go_simp
    with_reducible rfl
  rotate_left
  · simp only [Act.put, List.setIfInBounds_toArray, List.set_cons_zero, List.set_cons_succ, i64_w, i32_w]
    rfl
  refine pure_ (i := 8) (N := some 6) (v := ?_) (a' := ?_) #[true, true, true, true, true, true, true, true, true] rfl rfl (by kernel_rfl) (fun _ _ _ h => h) (Or.inl ⟨by rfl, ?_⟩) ?_ ?_
  rotate_left
  · intro w'
    go_simp
    with_reducible rfl
  rotate_left
  · simp only [Act.put, List.setIfInBounds_toArray, List.set_cons_zero, List.set_cons_succ, i64_w, i32_w]
    rfl
  refine done_ (by kernel_rfl) ?_
  clear u0 u1
  rw [hw]
  clear hw
  generalize n0 % 7 = lost at *
  generalize 1 + n1 % 64 = many at *
  have HD2 := Lib.hid (HC2.out.fr0 H4.out)
  have v0 := HD2.out.at_ 0 (v := .int .i64 g) rfl
  have v1 := HD2.out.at_ 1 (v := .slice A l.length c) rfl
  have HF4 := Lib.hid (Fr0.trans HF0.out H4.out)
  go_upto_region 3 with (first
    | (go_at_call 35; refine (conf35 (HB.out.fr HF4.out) lost many hC).mono ?_; rintro e w5 ⟨rfl, hf5⟩; (have HF5 := Lib.hid hf5); clear hf5))
  have hx7 : Bx ((w5.alloc (.cells #[.int .i64 0, .int .i64 0] 38)).alloc (.cells #[.int .i64 0, .int .i64 0] 38)) w5.heap.size 38 #[.int .i64 0, .int .i64 0] := (Bx.of_new rfl).alloc _
  have hx8 : Bx ((w5.alloc (.cells #[.int .i64 0, .int .i64 0] 38)).alloc (.cells #[.int .i64 0, .int .i64 0] 38)) (w5.heap.size + 1) 38 #[.int .i64 0, .int .i64 0] := Bx.of_new (by simp)
  have hf6 : Fr0 w4 ((w5.alloc (.cells #[.int .i64 0, .int .i64 0] 38)).alloc (.cells #[.int .i64 0, .int .i64 0] 38)) := (HF5.out.alloc _).alloc _
  generalize ((w5.alloc (.cells #[.int .i64 0, .int .i64 0] 38)).alloc (.cells #[.int .i64 0, .int .i64 0] 38)) = W6 at hx7 hx8 hf6 ⊢
  generalize w5.heap.size = b7 at hx7 hx8 ⊢
  have HX7 := Lib.hid hx7
  have HX8 := Lib.hid hx8
  have HF6 := Lib.hid (Fr0.trans HF4.out hf6)
  have HE2 := Lib.hid (HD2.out.fr0 hf6)
  have HE3 := Lib.hid ((HC3.out.fr0 H4.out).fr0 hf6)
  clear v0 v1 hx7 hx8 hf6
  have v0 := HE2.out.at_ 0 (v := .int .i64 g) rfl
  have v1 := HE2.out.at_ 1 (v := .slice A l.length c) rfl
  go_upto_region 6 with (first
    | (go_at_call 39; refine (sound39 (HB.out.fr HF6.out)).mono ?_; rw [hb]; rintro e w7 ⟨rfl, hf7⟩; (have HF7 := Lib.hid hf7); clear hf7))
  have HF8 := Lib.hid (Fr0.trans HF6.out HF7.out)
  have HY7 := Lib.hid (HX7.out.fr0 HF7.out)
  have HY8 := Lib.hid (HX8.out.fr0 HF7.out)
  have HY2 := Lib.hid (HE2.out.fr0 HF7.out)
  have HY3 := Lib.hid (HE3.out.fr0 HF7.out)
  clear v0 v1
  have p0 := HY7.out.at_ 0 (v := .int .i64 0) rfl
  have p1 := HY7.out.at_ 1 (v := .int .i64 0) rfl
  have p2 := HY8.out.at_ 0 (v := .int .i64 0) rfl
  have p3 := HY8.out.at_ 1 (v := .int .i64 0) rfl
  clear p0 p1 p2 p3
  have v0 := HY2.out.at_ 0 (v := .int .i64 g) rfl
  have v1 := HY2.out.at_ 1 (v := .slice A l.length c) rfl
  go_upto_region 7 with (first
    | (go_at_call 37; refine (sure37 (HB.out.fr HF8.out) lost hS).mono ?_; rintro e w9 ⟨rfl, hf9⟩; (have HF9 := Lib.hid hf9); clear hf9))
  have HF10 := Lib.hid (Fr0.trans HF8.out HF9.out)
  have HZ7 := Lib.hid (HY7.out.fr0 HF9.out)
  have HZ8 := Lib.hid (HY8.out.fr0 HF9.out)
  clear v0 v1
  have p0 := HZ7.out.at_ 0 (v := .int .i64 0) rfl
  have p1 := HZ7.out.at_ 1 (v := .int .i64 0) rfl
  have p2 := HZ8.out.at_ 0 (v := .int .i64 0) rfl
  have p3 := HZ8.out.at_ 1 (v := .int .i64 0) rfl
  refine start_ (n := 25) (S := fun w' => w'.cell? ⟨b7, 0, none⟩ = some (.int .i64 0) ∧ w'.cell? ⟨b7, 1, none⟩ = some (.int .i64 0) ∧ w'.cell? ⟨b7 + 1, 0, none⟩ = some (.int .i64 0) ∧ w'.cell? ⟨b7 + 1, 1, none⟩ = some (.int .i64 0)) (ds := []) #[false, false, false, false, false, false, false, false, false, false, false, false, false, false, false, false, false, false, false, false, false, false, false, false, false] (by kernel_rfl) rfl rfl ⟨p0, p1, p2, p3⟩ (fun hHeld => ?_)
  refine pure_ (i := 0) (N := some 66) (v := ?_) (a' := ?_) #[true, false, false, false, false, false, false, false, false, false, false, false, false, false, false, false, false, false, false, false, false, false, false, false, false] rfl rfl (by kernel_rfl) (fun _ _ _ h => h) (Or.inl ⟨by rfl, ?_⟩) ?_ ?_
  rotate_left
  · intro w'
    go_simp
    with_reducible rfl
  rotate_left
  · simp only [Act.put, List.setIfInBounds_toArray, List.set_cons_zero, List.set_cons_succ, i64_w, i32_w]
    rfl
  refine pure_ (i := 1) (N := some 67) (v := ?_) (a' := ?_) #[true, true, false, false, false, false, false, false, false, false, false, false, false, false, false, false, false, false, false, false, false, false, false, false, false] rfl rfl (by kernel_rfl) (fun _ _ _ h => h) (Or.inl ⟨by rfl, ?_⟩) ?_ ?_
  rotate_left
  · intro w'
    go_simp
    with_reducible rfl
  rotate_left
  · simp only [Act.put, List.setIfInBounds_toArray, List.set_cons_zero, List.set_cons_succ, i64_w, i32_w]
    rfl
  refine pure_ (i := 2) (N := some 68) (v := ?_) (a' := ?_) #[true, true, true, false, false, false, false, false, false, false, false, false, false, false, false, false, false, false, false, false, false, false, false, false, false] rfl rfl (by kernel_rfl) (fun _ _ _ h => h) (Or.inl ⟨by rfl, ?_⟩) ?_ ?_
  rotate_left
  · intro w'
    go_simp
    with_reducible rfl
  rotate_left
  · simp only [Act.put, List.setIfInBounds_toArray, List.set_cons_zero, List.set_cons_succ, i64_w, i32_w]
    rfl
  refine take_ (i := 3) (N := some 69) (v := ?_) (a' := ?_) #[true, true, true, true, false, false, false, false, false, false, false, false, false, false, false, false, false, false, false, false, false, false, false, false, false] rfl rfl (by kernel_rfl) (fun _ _ _ h => h) (Or.inl ⟨by rfl, ?_⟩) hHeld ?_ ?_
  rotate_left
  · rintro w' ⟨s0, s1, s2, s3⟩
    go_simp
    with_reducible rfl
  rotate_left
  · simp only [Act.put, List.setIfInBounds_toArray, List.set_cons_zero, List.set_cons_succ, i64_w, i32_w]
    rfl
  refine one_ (i := 4) (N := some 70) #[true, true, true, true, true, false, false, false, false, false, false, false, false, false, false, false, false, false, false, false, false, false, false, false, false] rfl rfl (by kernel_rfl) (by decide) (fun K hK => ?_)
  refine goes_ Tryd.func46 (by kernel_rfl) rfl #[.int .i64 0, .int .i64 0] (by rfl) rfl rfl (by simp only [List.map_toArray, List.map_cons, List.map_nil]; rfl) ?_
  with_reducible refine (at46 0 0 _).mono ?_
  rintro e w11 ⟨rfl, hf11⟩
  refine ⟨_, rfl, ?_⟩
  have H11 := Lib.hid (Fr0.trans (Fr.drew (Fr.refl _ w9)) hf11)
  refine hK.out _ _ ⟨(H11.out.cell0 p0), (H11.out.cell0 p1), (H11.out.cell0 p2), (H11.out.cell0 p3)⟩ (fun hHeld => ?_)
  clear hK K
  refine norm_ (a' := ?_) ?_ ?_
  rotate_left
  · show Act.put _ (some 70) _ = _
    simp only [Act.put, List.setIfInBounds_toArray, List.set_cons_zero, List.set_cons_succ, i64_w, i32_w]
    rfl
  refine pure_ (i := 5) (N := some 71) (v := ?_) (a' := ?_) #[true, true, true, true, true, true, false, false, false, false, false, false, false, false, false, false, false, false, false, false, false, false, false, false, false] rfl rfl (by kernel_rfl) (fun _ _ _ h => h) (Or.inl ⟨by rfl, ?_⟩) ?_ ?_
  rotate_left
  · intro w'
    go_simp
    with_reducible rfl
  rotate_left
  · simp only [Act.put, List.setIfInBounds_toArray, List.set_cons_zero, List.set_cons_succ, i64_w, i32_w]
    rfl
  refine pure_ (i := 6) (N := some 72) (v := ?_) (a' := ?_) #[true, true, true, true, true, true, true, false, false, false, false, false, false, false, false, false, false, false, false, false, false, false, false, false, false] rfl rfl (by kernel_rfl) (fun _ _ _ h => h) (Or.inl ⟨by rfl, ?_⟩) ?_ ?_
  rotate_left
  · intro w'
    go_simp
    with_reducible rfl
  rotate_left
  · simp only [Act.put, List.setIfInBounds_toArray, List.set_cons_zero, List.set_cons_succ, i64_w, i32_w]
    rfl
  refine pure_ (i := 7) (N := some 73) (v := ?_) (a' := ?_) #[true, true, true, true, true, true, true, true, false, false, false, false, false, false, false, false, false, false, false, false, false, false, false, false, false] rfl rfl (by kernel_rfl) (fun _ _ _ h => h) (Or.inl ⟨by rfl, ?_⟩) ?_ ?_
  rotate_left
  · intro w'
    go_simp
    with_reducible rfl
  rotate_left
  · simp only [Act.put, List.setIfInBounds_toArray, List.set_cons_zero, List.set_cons_succ, i64_w, i32_w]
    rfl
  refine take_ (i := 8) (N := some 74) (v := ?_) (a' := ?_) #[true, true, true, true, true, true, true, true, true, false, false, false, false, false, false, false, false, false, false, false, false, false, false, false, false] rfl rfl (by kernel_rfl) (fun _ _ _ h => h) (Or.inl ⟨by rfl, ?_⟩) hHeld ?_ ?_
  rotate_left
  · rintro w' ⟨s0, s1, s2, s3⟩
    go_simp
    with_reducible rfl
  rotate_left
  · simp only [Act.put, List.setIfInBounds_toArray, List.set_cons_zero, List.set_cons_succ, i64_w, i32_w]
    rfl
  refine take_ (i := 9) (N := some 75) (v := ?_) (a' := ?_) #[true, true, true, true, true, true, true, true, true, true, false, false, false, false, false, false, false, false, false, false, false, false, false, false, false] rfl rfl (by kernel_rfl) (fun _ _ _ h => h) (Or.inl ⟨by rfl, ?_⟩) hHeld ?_ ?_
  rotate_left
  · rintro w' ⟨s0, s1, s2, s3⟩
    go_simp
    with_reducible rfl
  rotate_left
  · simp only [Act.put, List.setIfInBounds_toArray, List.set_cons_zero, List.set_cons_succ, i64_w, i32_w]
    rfl
  refine pure_ (i := 10) (N := some 76) (v := ?_) (a' := ?_) #[true, true, true, true, true, true, true, true, true, true, true, false, false, false, false, false, false, false, false, false, false, false, false, false, false] rfl rfl (by kernel_rfl) (fun _ _ _ h => h) (Or.inl ⟨by rfl, ?_⟩) ?_ ?_
  rotate_left
  · intro w'
    go_simp
    with_reducible rfl
  rotate_left
  · simp only [Act.put, List.setIfInBounds_toArray, List.set_cons_zero, List.set_cons_succ, i64_w, i32_w]
    rfl
  refine pure_ (i := 11) (N := some 77) (v := ?_) (a' := ?_) #[true, true, true, true, true, true, true, true, true, true, true, true, false, false, false, false, false, false, false, false, false, false, false, false, false] rfl rfl (by kernel_rfl) (fun _ _ _ h => h) (Or.inl ⟨by rfl, ?_⟩) ?_ ?_
  rotate_left
  · intro w'
    go_simp
    with_reducible rfl
  rotate_left
  · simp only [Act.put, List.setIfInBounds_toArray, List.set_cons_zero, List.set_cons_succ, i64_w, i32_w]
    rfl
  refine pure_ (i := 12) (N := some 78) (v := ?_) (a' := ?_) #[true, true, true, true, true, true, true, true, true, true, true, true, true, false, false, false, false, false, false, false, false, false, false, false, false] rfl rfl (by kernel_rfl) (fun _ _ _ h => h) (Or.inl ⟨by rfl, ?_⟩) ?_ ?_
  rotate_left
  · intro w'
    go_simp
    with_reducible rfl
  rotate_left
  · simp only [Act.put, List.setIfInBounds_toArray, List.set_cons_zero, List.set_cons_succ, i64_w, i32_w]
    rfl
  refine pure_ (i := 13) (N := some 79) (v := ?_) (a' := ?_) #[true, true, true, true, true, true, true, true, true, true, true, true, true, true, false, false, false, false, false, false, false, false, false, false, false] rfl rfl (by kernel_rfl) (fun _ _ _ h => h) (Or.inl ⟨by rfl, ?_⟩) ?_ ?_
  rotate_left
  · intro w'
    go_simp
    with_reducible rfl
  rotate_left
  · simp only [Act.put, List.setIfInBounds_toArray, List.set_cons_zero, List.set_cons_succ, i64_w, i32_w]
    rfl
  refine pure_ (i := 14) (N := some 80) (v := ?_) (a' := ?_) #[true, true, true, true, true, true, true, true, true, true, true, true, true, true, true, false, false, false, false, false, false, false, false, false, false] rfl rfl (by kernel_rfl) (fun _ _ _ h => h) (Or.inl ⟨by rfl, ?_⟩) ?_ ?_
  rotate_left
  · intro w'
    go_simp
    with_reducible rfl
  rotate_left
  · simp only [Act.put, List.setIfInBounds_toArray, List.set_cons_zero, List.set_cons_succ, i64_w, i32_w]
    rfl
  refine pure_ (i := 15) (N := some 81) (v := ?_) (a' := ?_) #[true, true, true, true, true, true, true, true, true, true, true, true, true, true, true, true, false, false, false, false, false, false, false, false, false] rfl rfl (by kernel_rfl) (fun _ _ _ h => h) (Or.inl ⟨by rfl, ?_⟩) ?_ ?_
  rotate_left
  · intro w'
    go_simp
    with_reducible rfl
  rotate_left
  · simp only [Act.put, List.setIfInBounds_toArray, List.set_cons_zero, List.set_cons_succ, i64_w, i32_w]
    rfl
  refine pure_ (i := 16) (N := some 82) (v := ?_) (a' := ?_) #[true, true, true, true, true, true, true, true, true, true, true, true, true, true, true, true, true, false, false, false, false, false, false, false, false] rfl rfl (by kernel_rfl) (fun _ _ _ h => h) (Or.inl ⟨by rfl, ?_⟩) ?_ ?_
  rotate_left
  · intro w'
    go_simp
    with_reducible rfl
  rotate_left
  · simp only [Act.put, List.setIfInBounds_toArray, List.set_cons_zero, List.set_cons_succ, i64_w, i32_w]
    rfl
  refine pure_ (i := 17) (N := some 83) (v := ?_) (a' := ?_) #[true, true, true, true, true, true, true, true, true, true, true, true, true, true, true, true, true, true, false, false, false, false, false, false, false] rfl rfl (by kernel_rfl) (fun _ _ _ h => h) (Or.inl ⟨by rfl, ?_⟩) ?_ ?_
  rotate_left
  · intro w'
    go_simp
    with_reducible rfl
  rotate_left
  · simp only [Act.put, List.setIfInBounds_toArray, List.set_cons_zero, List.set_cons_succ, i64_w, i32_w]
    rfl
  refine pure_ (i := 18) (N := some 84) (v := ?_) (a' := ?_) #[true, true, true, true, true, true, true, true, true, true, true, true, true, true, true, true, true, true, true, false, false, false, false, false, false] rfl rfl (by kernel_rfl) (fun _ _ _ h => h) (Or.inl ⟨by rfl, ?_⟩) ?_ ?_
  rotate_left
  · intro w'
    go_simp
    with_reducible rfl
  rotate_left
  · simp only [Act.put, List.setIfInBounds_toArray, List.set_cons_zero, List.set_cons_succ, i64_w, i32_w]
    rfl
  refine one_ (i := 19) (N := some 85) #[true, true, true, true, true, true, true, true, true, true, true, true, true, true, true, true, true, true, true, true, false, false, false, false, false] rfl rfl (by kernel_rfl) (by decide) (fun K hK => ?_)
  refine value_ (w1 := ?_) (v := .bool true) (by rfl) rfl ?_ ?_
  rotate_left 1
  · go_simp
    rfl
  refine hK.out _ _ ⟨(H11.out.cell0 p0), (H11.out.cell0 p1), (H11.out.cell0 p2), (H11.out.cell0 p3)⟩ (fun hHeld => ?_)
  clear hK K
  refine norm_ (a' := ?_) ?_ ?_
  rotate_left
  · show Act.put _ (some 85) _ = _
    simp only [Act.put, List.setIfInBounds_toArray, List.set_cons_zero, List.set_cons_succ, i64_w, i32_w]
    rfl
  refine pure_ (i := 20) (N := some 86) (v := ?_) (a' := ?_) #[true, true, true, true, true, true, true, true, true, true, true, true, true, true, true, true, true, true, true, true, true, false, false, false, false] rfl rfl (by kernel_rfl) (fun _ _ _ h => h) (Or.inl ⟨by rfl, ?_⟩) ?_ ?_
  rotate_left
  · intro w'
    go_simp
    with_reducible rfl
  rotate_left
  · simp only [Act.put, List.setIfInBounds_toArray, List.set_cons_zero, List.set_cons_succ, i64_w, i32_w]
    rfl
  refine pure_ (i := 21) (N := some 87) (v := ?_) (a' := ?_) #[true, true, true, true, true, true, true, true, true, true, true, true, true, true, true, true, true, true, true, true, true, true, false, false, false] rfl rfl (by kernel_rfl) (fun _ _ _ h => h) (Or.inl ⟨by rfl, ?_⟩) ?_ ?_
  rotate_left
  · intro w'
    go_simp
    with_reducible rfl
  rotate_left
  · simp only [Act.put, List.setIfInBounds_toArray, List.set_cons_zero, List.set_cons_succ, i64_w, i32_w]
    rfl
  refine one_ (i := 22) (N := some 88) #[true, true, true, true, true, true, true, true, true, true, true, true, true, true, true, true, true, true, true, true, true, true, true, false, false] rfl rfl (by kernel_rfl) (by decide) (fun K hK => ?_)
  refine goes_ Tryd.func23 (by kernel_rfl) rfl #[] (by rfl) rfl rfl (by first | rfl | simp) ?_
  refine (marked23 (HB.out.glob.fr (Fr0.trans HF10.out H11.out))).mono ?_
  rintro e w12 ⟨rfl, hf12⟩
  refine ⟨_, rfl, ?_⟩
  have H12 := Lib.hid (Fr0.trans H11.out hf12)
  refine hK.out _ _ ⟨(H12.out.cell0 p0), (H12.out.cell0 p1), (H12.out.cell0 p2), (H12.out.cell0 p3)⟩ (fun hHeld => ?_)
  clear hK K
  refine norm_ (a' := ?_) ?_ ?_
  rotate_left
  · show Act.put _ (some 88) _ = _
    simp only [Act.put, List.setIfInBounds_toArray, List.set_cons_zero, List.set_cons_succ, i64_w, i32_w]
    rfl
  refine pure_ (i := 23) (N := some 89) (v := ?_) (a' := ?_) #[true, true, true, true, true, true, true, true, true, true, true, true, true, true, true, true, true, true, true, true, true, true, true, true, false] rfl rfl (by kernel_rfl) (fun _ _ _ h => h) (Or.inl ⟨by rfl, ?_⟩) ?_ ?_
  rotate_left
  · intro w'
    go_simp
    with_reducible rfl
  rotate_left
  · simp only [Act.put, List.setIfInBounds_toArray, List.set_cons_zero, List.set_cons_succ, i64_w, i32_w]
    rfl
  refine pure_ (i := 24) (N := some 4) (v := ?_) (a' := ?_) #[true, true, true, true, true, true, true, true, true, true, true, true, true, true, true, true, true, true, true, true, true, true, true, true, true] rfl rfl (by kernel_rfl) (fun _ _ _ h => h) (Or.inl ⟨by rfl, ?_⟩) ?_ ?_
  rotate_left
  · intro w'
    go_simp
    with_reducible rfl
  rotate_left
  · simp only [Act.put, List.setIfInBounds_toArray, List.set_cons_zero, List.set_cons_succ, i64_w, i32_w]
    rfl
  refine done_ (by kernel_rfl) ?_
  go_wp2
  refine bodyPost_ret (v := .bool true) (by simp [results, Tryd.results12, go_sem]) rfl ⟨rfl, ?_⟩
  exact Fr0.trans HF10.out H12.out

set_option maxHeartbeats 8000000 in
set_option maxRecDepth 100000 in
theorem confused_yes12 (g : Int) (A : Option Addr) (c : Nat) (l : List S63) (n0 n1 n2 : Int) (w : World) (hB : Book w A c l) (hb : bookOk g l = true) (sp0 sp1 tp0 tp1 : Int) (m : Nat) (hmany : 1 + n1 % 64 = (m : Int)) (hC : confF g l (n0 % 7) (m : Int) = ((⟨sp0, sp1⟩, ⟨tp0, tp1⟩), 0)) (p q : List (List Int)) (hP : passF g l sp0 sp1 (m : Int) = (p, 0)) (hQ : passF g l tp0 tp1 (m : Int) = (q, 0)) (hpm : p.length = m) (hqm : q.length = m) (hp5 : ∀ k, (p.getD k []).length ≤ 5) (L : List S38) (hPL : placesF g l (bothR p q m) (n0 % 7) = (L, 0)) (e0 e1 e2 e3 : Int) (hC2 : confF g l (n0 % 7) (1 + n2 % (m : Int)) = ((⟨e0, e1⟩, ⟨e2, e3⟩), 0)) (hin0 : (⟨sp0, sp1⟩ : S38) ∈ L) (hin1 : (⟨tp0, tp1⟩ : S38) ∈ L) (hgt : ¬ sp0 > tp0) (hne : ¬ sp0 = tp0) :
    Calls Tryd.prog 12 #[.agg #[.int .i64 g, .slice A l.length c], .agg #[.int .i64 n0, .int .i64 n1, .int .i64 n2]] w fun e w' => e = .returned (.bool true) ∧ Fr0 w w' := by
  have HB := Lib.hid hB
  have hm0 := Int.emod_nonneg n1 (show (64 : Int) ≠ 0 by omega)
  have hm1 := Int.emod_lt_of_pos n1 (show (0 : Int) < 64 by omega)
  have HT0 := Lib.hid (fun W => turn40 n0 7 (by omega) (by omega) W)
  have HT1 := Lib.hid (fun W => turn40 n1 64 (by omega) (by omega) W)
  have hw : wrap64 (m : Int) = (m : Int) := w64 (by omega) (by omega)
  have hf0 : Fr0 w ((w.alloc (.cells #[.int .i64 g, .slice A l.length c] 24)).alloc (.cells #[.int .i64 n0, .int .i64 n1, .int .i64 n2] 25)) := ((Fr.refl _ _).alloc _).alloc _
  have c2 : Bx ((w.alloc (.cells #[.int .i64 g, .slice A l.length c] 24)).alloc (.cells #[.int .i64 n0, .int .i64 n1, .int .i64 n2] 25)) w.heap.size 24 #[.int .i64 g, .slice A l.length c] := (Bx.of_new rfl).alloc _
  have c3 : Bx ((w.alloc (.cells #[.int .i64 g, .slice A l.length c] 24)).alloc (.cells #[.int .i64 n0, .int .i64 n1, .int .i64 n2] 25)) (w.heap.size + 1) 25 #[.int .i64 n0, .int .i64 n1, .int .i64 n2] := Bx.of_new (by simp)
  clear hB
  go_enter Tryd.func12, Tryd.ntmps12
  go_wp2
  generalize hW : ((w.alloc (.cells #[.int .i64 g, .slice A l.length c] 24)).alloc (.cells #[.int .i64 n0, .int .i64 n1, .int .i64 n2] 25)) = W at hf0 c2 c3 ⊢
  clear hW
  have HF0 := Lib.hid hf0
  have HC2 := Lib.hid c2
  have HC3 := Lib.hid c3
  have u0 := c3.at_ 0 (v := .int .i64 n0) rfl
  have u1 := c3.at_ 1 (v := .int .i64 n1) rfl
  clear hf0 c2 c3
  refine start_ (n := 9) (S := fun w' => w'.cell? ⟨w.heap.size + 1, 0, none⟩ = some (.int .i64 n0) ∧ w'.cell? ⟨w.heap.size + 1, 1, none⟩ = some (.int .i64 n1)) (ds := []) #[false, false, false, false, false, false, false, false, false] (by kernel_rfl) rfl rfl ⟨u0, u1⟩ (fun hHeld => ?_)
  refine pure_ (i := 0) (N := some 25) (v := ?_) (a' := ?_) #[true, false, false, false, false, false, false, false, false] rfl rfl (by kernel_rfl) (fun _ _ _ h => h) (Or.inl ⟨by rfl, ?_⟩) ?_ ?_
  rotate_left
  · intro w'
    go_simp
    with_reducible rfl
  rotate_left
  · simp only [Act.put, List.setIfInBounds_toArray, List.set_cons_zero, List.set_cons_succ, i64_w, i32_w]
    rfl
  refine pure_ (i := 3) (N := some 28) (v := ?_) (a' := ?_) #[true, false, false, true, false, false, false, false, false] rfl rfl (by kernel_rfl) (fun _ _ _ h => h) (Or.inl ⟨by rfl, ?_⟩) ?_ ?_
  rotate_left
  · intro w'
    go_simp
    with_reducible rfl
  rotate_left
  · simp only [Act.put, List.setIfInBounds_toArray, List.set_cons_zero, List.set_cons_succ, i64_w, i32_w]
    rfl
  refine take_ (i := 1) (N := some 26) (v := ?_) (a' := ?_) #[true, true, false, true, false, false, false, false, false] rfl rfl (by kernel_rfl) (fun _ _ _ h => h) (Or.inl ⟨by rfl, ?_⟩) hHeld ?_ ?_
  rotate_left
  · rintro w' ⟨s0, s1⟩
    go_simp
    with_reducible rfl
  rotate_left
  · simp only [Act.put, List.setIfInBounds_toArray, List.set_cons_zero, List.set_cons_succ, i64_w, i32_w]
    rfl
  refine take_ (i := 4) (N := some 29) (v := ?_) (a' := ?_) #[true, true, false, true, true, false, false, false, false] rfl rfl (by kernel_rfl) (fun _ _ _ h => h) (Or.inl ⟨by rfl, ?_⟩) hHeld ?_ ?_
  rotate_left
  · rintro w' ⟨s0, s1⟩
    go_simp
    with_reducible rfl
  rotate_left
  · simp only [Act.put, List.setIfInBounds_toArray, List.set_cons_zero, List.set_cons_succ, i64_w, i32_w]
    rfl
  refine one_ (i := 2) (N := some 27) #[true, true, true, true, true, false, false, false, false] rfl rfl (by kernel_rfl) (by decide) (fun K hK => ?_)
  refine goes_ Tryd.func40 (by kernel_rfl) rfl #[.int .i64 n0, .int .i64 7] (by rfl) rfl rfl (by simp only [List.map_toArray, List.map_cons, List.map_nil]; rfl) ?_
  with_reducible refine (HT0.out _).mono ?_
  rintro e w3 ⟨rfl, hf3⟩
  refine ⟨_, rfl, ?_⟩
  have H3 := Lib.hid (Fr0.trans (Fr.drew (Fr.refl _ W)) hf3)
  refine hK.out _ _ ⟨(H3.out.cell0 u0), (H3.out.cell0 u1)⟩ (fun hHeld => ?_)
  clear hK K
  refine norm_ (a' := ?_) ?_ ?_
  rotate_left
  · show Act.put _ (some 27) _ = _
    simp only [Act.put, List.setIfInBounds_toArray, List.set_cons_zero, List.set_cons_succ, i64_w, i32_w]
    rfl
  refine one_ (i := 5) (N := some 30) #[true, true, true, true, true, true, false, false, false] rfl rfl (by kernel_rfl) (by decide) (fun K hK => ?_)
  refine goes_ Tryd.func40 (by kernel_rfl) rfl #[.int .i64 n1, .int .i64 64] (by rfl) rfl rfl (by simp only [List.map_toArray, List.map_cons, List.map_nil]; rfl) ?_
  with_reducible refine (HT1.out _).mono ?_
  rintro e w4 ⟨rfl, hf4⟩
  refine ⟨_, rfl, ?_⟩
  have H4 := Lib.hid (Fr0.trans H3.out hf4)
  refine hK.out _ _ ⟨(H4.out.cell0 u0), (H4.out.cell0 u1)⟩ (fun hHeld => ?_)
  clear hK K
  refine norm_ (a' := ?_) ?_ ?_
  rotate_left
  · show Act.put _ (some 30) _ = _
    simp only [Act.put, List.setIfInBounds_toArray, List.set_cons_zero, List.set_cons_succ, i64_w, i32_w]
    rfl
  refine pure_ (i := 6) (N := some 31) (v := ?_) (a' := ?_) #[true, true, true, true, true, true, true, false, false] rfl rfl (by kernel_rfl) (fun _ _ _ h => h) (Or.inl ⟨by rfl, ?_⟩) ?_ ?_
  rotate_left
  · intro w'
    go_simp
    with_reducible rfl
  rotate_left
  · simp only [Act.put, List.setIfInBounds_toArray, List.set_cons_zero, List.set_cons_succ, i64_w, i32_w]
    rfl
  refine pure_ (i := 7) (N := some 5) (v := ?_) (a' := ?_) #[true, true, true, true, true, true, true, true, false] rfl rfl (by kernel_rfl) (fun _ _ _ h => h) (Or.inl ⟨by rfl, ?_⟩) ?_ ?_
  rotate_left
  · intro w'
    go_simp
    with_reducible rfl
  rotate_left
  · simp only [Act.put, List.setIfInBounds_toArray, List.set_cons_zero, List.set_cons_succ, i64_w, i32_w]
    rfl
  refine pure_ (i := 8) (N := some 6) (v := ?_) (a' := ?_) #[true, true, true, true, true, true, true, true, true] rfl rfl (by kernel_rfl) (fun _ _ _ h => h) (Or.inl ⟨by rfl, ?_⟩) ?_ ?_
  rotate_left
  · intro w'
    go_simp
    with_reducible rfl
  rotate_left
  · simp only [Act.put, List.setIfInBounds_toArray, List.set_cons_zero, List.set_cons_succ, i64_w, i32_w]
    rfl
  refine done_ (by kernel_rfl) ?_
  clear u0 u1
  rw [hw]
  clear hw
  generalize n0 % 7 = lost at *
  have HD2 := Lib.hid (HC2.out.fr0 H4.out)
  have v0 := HD2.out.at_ 0 (v := .int .i64 g) rfl
  have v1 := HD2.out.at_ 1 (v := .slice A l.length c) rfl
  have HF4 := Lib.hid (Fr0.trans HF0.out H4.out)
  go_upto_region 3 with (first
    | (go_at_call 35; refine (conf35 (HB.out.fr HF4.out) lost (m : Int) hC).mono ?_; rintro e w5 ⟨rfl, hf5⟩; (have HF5 := Lib.hid hf5); clear hf5))
  have hx7 : Bx ((w5.alloc (.cells #[.int .i64 sp0, .int .i64 sp1] 38)).alloc (.cells #[.int .i64 tp0, .int .i64 tp1] 38)) w5.heap.size 38 #[.int .i64 sp0, .int .i64 sp1] := (Bx.of_new rfl).alloc _
  have hx8 : Bx ((w5.alloc (.cells #[.int .i64 sp0, .int .i64 sp1] 38)).alloc (.cells #[.int .i64 tp0, .int .i64 tp1] 38)) (w5.heap.size + 1) 38 #[.int .i64 tp0, .int .i64 tp1] := Bx.of_new (by simp)
  have hf6 : Fr0 w4 ((w5.alloc (.cells #[.int .i64 sp0, .int .i64 sp1] 38)).alloc (.cells #[.int .i64 tp0, .int .i64 tp1] 38)) := (HF5.out.alloc _).alloc _
  generalize ((w5.alloc (.cells #[.int .i64 sp0, .int .i64 sp1] 38)).alloc (.cells #[.int .i64 tp0, .int .i64 tp1] 38)) = W6 at hx7 hx8 hf6 ⊢
  generalize w5.heap.size = b7 at hx7 hx8 ⊢
  have HX7 := Lib.hid hx7
  have HX8 := Lib.hid hx8
  have HF6 := Lib.hid (Fr0.trans HF4.out hf6)
  have HE2 := Lib.hid (HD2.out.fr0 hf6)
  have HE3 := Lib.hid ((HC3.out.fr0 H4.out).fr0 hf6)
  clear v0 v1 hx7 hx8 hf6
  have v0 := HE2.out.at_ 0 (v := .int .i64 g) rfl
  have v1 := HE2.out.at_ 1 (v := .slice A l.length c) rfl
  go_upto_region 8 with (first
    | (go_at_call 39; refine (sound39 (HB.out.fr HF6.out)).mono ?_; rw [hb]; rintro e w7 ⟨rfl, hf7⟩; (have HF7 := Lib.hid hf7); clear hf7))
  have HF8 := Lib.hid (Fr0.trans HF6.out HF7.out)
  have HY7 := Lib.hid (HX7.out.fr0 HF7.out)
  have HY8 := Lib.hid (HX8.out.fr0 HF7.out)
  have HY2 := Lib.hid (HE2.out.fr0 HF7.out)
  have HY3 := Lib.hid (HE3.out.fr0 HF7.out)
  clear v0 v1
  have p0 := HY7.out.at_ 0 (v := .int .i64 sp0) rfl
  have p1 := HY7.out.at_ 1 (v := .int .i64 sp1) rfl
  have p2 := HY8.out.at_ 0 (v := .int .i64 tp0) rfl
  have p3 := HY8.out.at_ 1 (v := .int .i64 tp1) rfl
  clear p0 p1 p2 p3
  have v0 := HY2.out.at_ 0 (v := .int .i64 g) rfl
  have v1 := HY2.out.at_ 1 (v := .slice A l.length c) rfl
  have p0 := HY7.out.at_ 0 (v := .int .i64 sp0) rfl
  have p1 := HY7.out.at_ 1 (v := .int .i64 sp1) rfl
  go_upto_region 9 with (first
    | (go_at_call 24; refine (pass24 (HB.out.fr HF8.out) hP hpm).mono ?_; rintro e w9 ⟨Ap, cp, rfl, hCp, hcp, hf9⟩; (have HP := Lib.hid hCp); clear hCp; (have HF9 := Lib.hid hf9); clear hf9))
  have HF10 := Lib.hid (Fr0.trans HF8.out HF9.out)
  have HZ2 := Lib.hid (HY2.out.fr0 HF9.out)
  have HZ3 := Lib.hid (HY3.out.fr0 HF9.out)
  have HZ7 := Lib.hid (HY7.out.fr0 HF9.out)
  have HZ8 := Lib.hid (HY8.out.fr0 HF9.out)
  clear v0 v1 p0 p1
  have v0 := HZ2.out.at_ 0 (v := .int .i64 g) rfl
  have v1 := HZ2.out.at_ 1 (v := .slice A l.length c) rfl
  have p2 := HZ8.out.at_ 0 (v := .int .i64 tp0) rfl
  have p3 := HZ8.out.at_ 1 (v := .int .i64 tp1) rfl
  go_upto_region 10 with (first
    | (go_at_call 24; refine (pass24 (HB.out.fr HF10.out) hQ hqm).mono ?_; rintro e w11 ⟨Aq, cq, rfl, hCq, hcq, hf11⟩; (have HQ := Lib.hid hCq); clear hCq; (have HF11 := Lib.hid hf11); clear hf11))
  have HF12 := Lib.hid (Fr0.trans HF10.out HF11.out)
  have HW2 := Lib.hid (HZ2.out.fr0 HF11.out)
  have HW3 := Lib.hid (HZ3.out.fr0 HF11.out)
  have HW7 := Lib.hid (HZ7.out.fr0 HF11.out)
  have HW8 := Lib.hid (HZ8.out.fr0 HF11.out)
  have HPW := Lib.hid (C_fr HP.out HF11.out)
  clear v0 v1 p2 p3
  have p0 := HW7.out.at_ 0 (v := .int .i64 sp0) rfl
  have p1 := HW7.out.at_ 1 (v := .int .i64 sp1) rfl
  have p2 := HW8.out.at_ 0 (v := .int .i64 tp0) rfl
  have p3 := HW8.out.at_ 1 (v := .int .i64 tp1) rfl
  go_upto_region 13 with fail
  have hk1 : 1 ≤ (m : Int) := by omega
  have hk2 : (m : Int) ≤ 64 := by omega
  have hq0 := Int.emod_nonneg n2 (show (m : Int) ≠ 0 by omega)
  have hq1 := Int.emod_lt_of_pos n2 (show 0 < (m : Int) by omega)
  have HTM := Lib.hid (fun W => turn40 n2 (m : Int) hk1 (by omega) W)
  have HCF := Lib.hid (show ∀ W, Fr0 w W → Calls Tryd.prog 35 #[.agg #[.int .i64 g, .slice A l.length c], .int .i64 lost, .int .i64 (wrap64 (1 + n2 % (m : Int)))] W fun e w' => e = .returned (.tuple #[.agg #[.int .i64 e0, .int .i64 e1], .agg #[.int .i64 e2, .int .i64 e3], .int .i64 0]) ∧ Fr0 W w' from fun W hW => by
    rw [w64 (x := 1 + n2 % (m : Int)) (by omega) (by omega)]
    exact conf35 (HB.out.fr hW) lost _ hC2)
  clear hC2 hq0 hq1
  have HPM := Lib.hid hpm
  have HQM := Lib.hid hqm
  have HLP := Lib.hid hp5
  have hbo := bothR_len p q m
  clear hpm hqm hP hQ hC hgt hp5 hne
  go_wp2
  go_loopw [16, 17] (fun v16 v17 wr => ∃ k : Nat, k ≤ m ∧ v17 = .int .i64 k ∧ Kd.N (Kd.slice 3 (Kd.int .i64)) 26 wr w11.heap.size (fun b => w11.heap.size ≤ b) v16 (bothR p q k) ∧ Below w11.heap.size w11 wr) (fun _ v17 _ => (m - intOf v17).toNat)
  case atStart => exact ⟨0, by omega, by rfl, Kd.N_nil _ _ _ _ _, Below.refl _ _⟩
  case round =>
    obtain ⟨k, hkm, rfl, hN, hbw⟩ := hrel
    obtain ⟨wo, hwo⟩ : ∃ wo, wo = wr := ⟨wr, rfl⟩
    subst hwo
    by_cases hlt : k < m
    · have hle : (k : Int) < m := by omega
      obtain ⟨adp, A2, c2, rfl, x0, hlr, hCr⟩ := at_L1 (Kd.C_below HPW.out hbw) (k : Int) (by omega) (by rw [HPM.out]; omega)
      obtain ⟨adq, A3, c3, rfl, y0, hlq, hCq⟩ := at_L1 (Kd.C_below HQ.out hbw) (k : Int) (by omega) (by rw [HQM.out]; omega)
      have hr5 : (rd_L1 p (k : Int)).length ≤ 5 := by rw [show rd_L1 p (k : Int) = p.getD k [] by simp [rd_L1]]; exact HLP.out k
      have HBT := Lib.hid (show bothR p q (k + 1) = bothR p q k ++ [(rd_L1 p (k : Int)).filter (fun x => (rd_L1 q (k : Int)).contains x)] by simp [bothR, rd_L1])
      generalize rd_L1 p (k : Int) = r at *
      generalize rd_L1 q (k : Int) = rq at *
      have HXL := Lib.hid (bothR_len p q k)
      generalize bothR p q k = xs at *
      rw [Int.toNat_natCast] at x0 y0
      have HN := Lib.hid hN
      have HOWN := Lib.hid (Kd.N_lt hN)
      have HBW := Lib.hid hbw
      have HCR := Lib.hid hCr
      have HCQ := Lib.hid hCq
      clear hN hbw hCr hCq
      go_wp2
      go_loopw [18, 19] (fun v18 v19 wr => ∃ i : Nat, i ≤ r.length ∧ v19 = .int .i64 i ∧ Kd.R (Kd.int .i64) 3 wr wo.heap.size (fun b => wo.heap.size ≤ b) v18 ((r.take i).filter (fun x => rq.contains x)) ∧ Below wo.heap.size wo wr) (fun _ v19 _ => (r.length - intOf v19).toNat)
      case atStart => exact ⟨0, by omega, by rfl, by simpa using Kd.R_nil _ _ _ _ _, Below.refl _ _⟩
      case round =>
        obtain ⟨i, hir, rfl, hR, hbi⟩ := hrel
        have xi := (hbi.cell (World.block_lt_of_cell? _ _ x0)).trans x0
        have yi := (hbi.cell (World.block_lt_of_cell? _ _ y0)).trans y0
        have HBI := Lib.hid hbi
        by_cases hlti : i < r.length
        · have hlei : (i : Int) < r.length := by omega
          obtain ⟨ade, rfl, zi⟩ := Kd.at_int (Kd.C_below HCR.out hbi) (i : Int) (by omega) (by omega)
          have HXI := Lib.hid (show rd r (i : Int) = r[i] by rw [rd_nat, getD_lt _ hlti])
          have HTF := Lib.hid (take_filter r (fun x => rq.contains x) i hlti)
          rw [HXI.out] at zi
          rw [Int.toNat_natCast] at zi
          have HYL := Lib.hid (show ((r.take i).filter (fun x => rq.contains x)).length ≤ 5 by have := List.length_filter_le (fun x => rq.contains x) (r.take i); have := List.length_take_le' i r; omega)
          have HWH := Lib.hid (wh_iff r[i] rq 0 (by omega))
          generalize (r.take i).filter (fun x => rq.contains x) = ys at *
          generalize r[i] = x at *
          generalize hz : wh x 0 rq = z at *
          have HZ := Lib.hid hz
          have HR := Lib.hid hR
          clear hbi hR hz
          go_upto_region 20 with fail
          refine start_ (n := 13) (S := fun w' => w'.cell? (adq.add k) = some (.slice A3 rq.length c3) ∧ w'.cell? (adp.add k) = some (.slice (some ade) r.length c2) ∧ w'.cell? (ade.add i) = some (.int .i64 x)) (ds := []) #[false, false, false, false, false, false, false, false, false, false, false, false, false] (by kernel_rfl) rfl rfl ⟨yi, xi, zi⟩ (fun hHeld => ?_)
          refine pure_ (i := 0) (N := some 157) (v := ?_) (a' := ?_) #[true, false, false, false, false, false, false, false, false, false, false, false, false] rfl rfl (by kernel_rfl) (fun _ _ _ h => h) (Or.inl ⟨by rfl, ?_⟩) ?_ ?_
          rotate_left
          · intro w'
            go_simp
            with_reducible rfl
          rotate_left
          · simp only [Act.put, List.setIfInBounds_toArray, List.set_cons_zero, List.set_cons_succ, i64_w, i32_w]
            rfl
          refine pure_ (i := 1) (N := some 158) (v := ?_) (a' := ?_) #[true, true, false, false, false, false, false, false, false, false, false, false, false] rfl rfl (by kernel_rfl) (fun _ _ _ h => h) (Or.inl ⟨by rfl, ?_⟩) ?_ ?_
          rotate_left
          · intro w'
            go_simp
            with_reducible rfl
          rotate_left
          · simp only [Act.put, List.setIfInBounds_toArray, List.set_cons_zero, List.set_cons_succ, i64_w, i32_w]
            rfl
          refine pure_ (i := 2) (N := some 159) (v := ?_) (a' := ?_) #[true, true, true, false, false, false, false, false, false, false, false, false, false] rfl rfl (by kernel_rfl) (fun _ _ _ h => h) (Or.inl ⟨by rfl, ?_⟩) ?_ ?_
          rotate_left
          · intro w'
            go_simp
            with_reducible rfl
          rotate_left
          · simp only [Act.put, List.setIfInBounds_toArray, List.set_cons_zero, List.set_cons_succ, i64_w, i32_w]
            rfl
          refine pure_ (i := 4) (N := some 161) (v := ?_) (a' := ?_) #[true, true, true, false, true, false, false, false, false, false, false, false, false] rfl rfl (by kernel_rfl) (fun _ _ _ h => h) (Or.inl ⟨by rfl, ?_⟩) ?_ ?_
          rotate_left
          · intro w'
            go_simp
            with_reducible rfl
          rotate_left
          · simp only [Act.put, List.setIfInBounds_toArray, List.set_cons_zero, List.set_cons_succ, i64_w, i32_w]
            rfl
          refine pure_ (i := 5) (N := some 162) (v := ?_) (a' := ?_) #[true, true, true, false, true, true, false, false, false, false, false, false, false] rfl rfl (by kernel_rfl) (fun _ _ _ h => h) (Or.inl ⟨by rfl, ?_⟩) ?_ ?_
          rotate_left
          · intro w'
            go_simp
            with_reducible rfl
          rotate_left
          · simp only [Act.put, List.setIfInBounds_toArray, List.set_cons_zero, List.set_cons_succ, i64_w, i32_w]
            rfl
          refine pure_ (i := 6) (N := some 163) (v := ?_) (a' := ?_) #[true, true, true, false, true, true, true, false, false, false, false, false, false] rfl rfl (by kernel_rfl) (fun _ _ _ h => h) (Or.inl ⟨by rfl, ?_⟩) ?_ ?_
          rotate_left
          · intro w'
            go_simp
            with_reducible rfl
          rotate_left
          · simp only [Act.put, List.setIfInBounds_toArray, List.set_cons_zero, List.set_cons_succ, i64_w, i32_w]
            rfl
          refine pure_ (i := 8) (N := some 165) (v := ?_) (a' := ?_) #[true, true, true, false, true, true, true, false, true, false, false, false, false] rfl rfl (by kernel_rfl) (fun _ _ _ h => h) (Or.inl ⟨by rfl, ?_⟩) ?_ ?_
          rotate_left
          · intro w'
            go_simp
            with_reducible rfl
          rotate_left
          · simp only [Act.put, List.setIfInBounds_toArray, List.set_cons_zero, List.set_cons_succ, i64_w, i32_w]
            rfl
          refine take_ (i := 3) (N := some 160) (v := ?_) (a' := ?_) #[true, true, true, true, true, true, true, false, true, false, false, false, false] rfl rfl (by kernel_rfl) (fun _ _ _ h => h) (Or.inl ⟨by rfl, ?_⟩) hHeld ?_ ?_
          rotate_left
          · rintro w' ⟨s0, s1, s2⟩
            go_simp
            with_reducible rfl
          rotate_left
          · simp only [Act.put, List.setIfInBounds_toArray, List.set_cons_zero, List.set_cons_succ, i64_w, i32_w]
            rfl
          refine take_ (i := 7) (N := some 164) (v := ?_) (a' := ?_) #[true, true, true, true, true, true, true, true, true, false, false, false, false] rfl rfl (by kernel_rfl) (fun _ _ _ h => h) (Or.inl ⟨by rfl, ?_⟩) hHeld ?_ ?_
          rotate_left
          · rintro w' ⟨s0, s1, s2⟩
            go_simp
            with_reducible rfl
          rotate_left
          · simp only [Act.put, List.setIfInBounds_toArray, List.set_cons_zero, List.set_cons_succ, i64_w, i32_w]
            rfl
          refine pure_ (i := 9) (N := some 166) (v := ?_) (a' := ?_) #[true, true, true, true, true, true, true, true, true, true, false, false, false] rfl rfl (by kernel_rfl) (fun _ _ _ h => h) (Or.inl ⟨by rfl, ?_⟩) ?_ ?_
          rotate_left
          · intro w'
            go_simp
            with_reducible rfl
          rotate_left
          · simp only [Act.put, List.setIfInBounds_toArray, List.set_cons_zero, List.set_cons_succ, i64_w, i32_w]
            rfl
          refine take_ (i := 10) (N := some 167) (v := ?_) (a' := ?_) #[true, true, true, true, true, true, true, true, true, true, true, false, false] rfl rfl (by kernel_rfl) (fun _ _ _ h => h) (Or.inl ⟨by rfl, ?_⟩) hHeld ?_ ?_
          rotate_left
          · rintro w' ⟨s0, s1, s2⟩
            go_simp
            with_reducible rfl
          rotate_left
          · simp only [Act.put, List.setIfInBounds_toArray, List.set_cons_zero, List.set_cons_succ, i64_w, i32_w]
            rfl
          refine one_ (i := 11) (N := some 168) #[true, true, true, true, true, true, true, true, true, true, true, true, false] rfl rfl (by kernel_rfl) (by decide) (fun K hK => ?_)
          refine goes_ Tryd.func42 (by kernel_rfl) rfl #[.slice A3 rq.length c3, .int .i64 x] (by rfl) rfl rfl (by simp only [List.map_toArray, List.map_cons, List.map_nil]; rfl) ?_
          refine (where42 (C_fr (Kd.C_below HCQ.out HBI.out) (Fr.drew (Fr.refl _ _))) hlq x).mono ?_
          rw [HZ.out]
          rintro e w20 ⟨rfl, hf20⟩
          refine ⟨_, rfl, ?_⟩
          have H20 := Lib.hid (Fr0.trans (Fr.drew (Fr.refl _ wr)) hf20)
          refine hK.out _ _ ⟨(H20.out.cell0 yi), (H20.out.cell0 xi), (H20.out.cell0 zi)⟩ (fun hHeld => ?_)
          clear hK K
          refine norm_ (a' := ?_) ?_ ?_
          rotate_left
          · show Act.put _ (some 168) _ = _
            simp only [Act.put, List.setIfInBounds_toArray, List.set_cons_zero, List.set_cons_succ, i64_w, i32_w]
            rfl
          refine pure_ (i := 12) (N := some 169) (v := ?_) (a' := ?_) #[true, true, true, true, true, true, true, true, true, true, true, true, true] rfl rfl (by kernel_rfl) (fun _ _ _ h => h) (Or.inl ⟨by rfl, ?_⟩) ?_ ?_
          rotate_left
          · intro w'
            go_simp
            with_reducible rfl
          rotate_left
          · simp only [Act.put, List.setIfInBounds_toArray, List.set_cons_zero, List.set_cons_succ, i64_w, i32_w]
            rfl
          refine done_ (by kernel_rfl) ?_
          have x20 := H20.out.cell0 xi
          have z20 := H20.out.cell0 zi
          have HB20 := Lib.hid (HBI.out.trans (H20.out.below HBI.out.size (fun _ _ h => h)))
          have HR20 := Lib.hid (Kd.R_below HR.out (fr_below H20.out))
          clear xi yi zi
          by_cases hzz : z ≥ 0
          · have HFT := Lib.hid (HWH.out.1 hzz)
            go_wp2_with (first | ((with_reducible refine gate_builtin (b := .append) (xs := #[.tmp 170, .tmp 178]) rfl ?_); at_builtin; refine Kd.R_append (Kd.int .i64) (w0 := wo) wo.heap.size rfl (.tmp 170) (.tmp 178) 26 3 (.int .i64 0) 8 rfl Tryd.underlying26 inf_3 rfl (by decide) (by omega) _ ys x [.int .i64 x] (fun b => wo.heap.size ≤ b) (fun _ => False) rfl rfl ?aP (fun _ hk => hk.elim) ?aF ?aO ?aB ?aS ?aL ?_; (case aP => exact rfl); (case aB => exact HB20.out); (case aF => exact (fun k hk => Nat.le_trans HB20.out.size hk)); (case aO => exact HR20.out); (case aS => exact HB20.out.size); (case aL => have := HYL.out; omega); intro v104 w6 ho hb hg hat))
            go_roundw
            case rel => exact ⟨i + 1, by omega, by go_num, by rw [HTF.out, if_pos HFT.out]; exact ho, hb⟩
            case measure => simp [intOf]; omega
          · have HFT := Lib.hid (show ¬ rq.contains x = true from fun h => hzz (HWH.out.2 h))
            go_wp2
            go_roundw
            case rel => exact ⟨i + 1, by omega, by go_num, by rw [HTF.out, if_neg HFT.out, List.append_nil]; exact HR20.out, HB20.out⟩
            case measure => simp [intOf]; omega
        · obtain rfl : i = r.length := by omega
          have hle' : ¬ ((r.length : Int) < r.length) := by omega
          rw [List.take_length] at hR
          have HYL := Lib.hid (show (r.filter (fun x => rq.contains x)).length ≤ 5 by have := List.length_filter_le (fun x => rq.contains x) r; omega)
          generalize r.filter (fun x => rq.contains x) = ys at *
          obtain ⟨A18, c18, rfl, hcl, -⟩ := Kd.R_reads hR
          have HFK := Lib.hid (Kd.FK_slice_mk (e := 3) hcl (Kd.R_F hR))
          have HN2 := Lib.hid (Kd.N_below HN.out hbi)
          have HB2 := Lib.hid (HBW.out.trans (hbi.mono HBW.out.size))
          clear hR hbi
          go_wp2_with (first | ((with_reducible refine gate_builtin (b := .append) (xs := #[.tmp 180, .tmp 182]) rfl ?_); at_builtin; refine Kd.N_append (Kd.slice 3 (Kd.int .i64)) (w0 := w11) w11.heap.size rfl (.tmp 180) (.tmp 182) 39 26 (.slice none 0 0) 24 rfl Tryd.underlying39 inf_26 rfl (by decide) (by omega) _ xs ys [.slice A18 ys.length c18] (fun b => w11.heap.size ≤ b) (fun b => wo.heap.size ≤ b) rfl rfl ?aP ?aK ?aF ?aO ?aB ?aS ?aL ?_; (case aP => exact HFK.out); (case aK => exact fun k hk => ⟨Nat.le_trans HBW.out.size hk, fun h => by have := HOWN.out k h.symm; omega⟩); (case aF => exact fun k hk => Nat.le_trans HB2.out.size hk); (case aO => exact HN2.out); (case aB => exact HB2.out); (case aS => exact HB2.out.size); (case aL => have := HXL.out; omega); intro v105 w7 ho hb hg hat))
          go_roundw
          case rel => exact ⟨k + 1, by omega, by go_num, by rw [HBT.out]; exact ho, hb⟩
          case measure => simp [intOf]; omega
    · obtain rfl : k = m := by omega
      have hle' : ¬ ((k : Int) < k) := by omega
      obtain ⟨Ab, cb, rfl⟩ := Kd.N_slice hN
      have hrd := Kd.N_reads' hN
      have HCB := Lib.hid hrd.2.2
      have hcb := hrd.2.1
      have HBO := Lib.hid hbo
      generalize bothR p q k = bo at *
      have hfw : Fr0 w11 wo := Go.Proofs.YtephecfapclgfaaDoor.X.Fr.of_below hbw
      have HFW := Lib.hid hfw
      have HU2 := Lib.hid (HW2.out.fr0 hfw)
      have v0 := HU2.out.at_ 0 (v := .int .i64 g) rfl
      have v1 := HU2.out.at_ 1 (v := .slice A l.length c) rfl
      clear hN hbw hrd hfw hbo p0 p1 p2 p3
      go_upto_region 24 with (first
        | (go_at_call 27; refine (places27 (HB.out.fr (Fr0.trans HF12.out HFW.out)) HCB.out hcb hPL).mono ?_; rintro e w23 ⟨AL, cL, rfl, hCL, hcL, hf23⟩; (have HCL := Lib.hid hCL); clear hCL; (have HF23 := Lib.hid hf23); clear hf23))
      have hfx : Fr0 w11 w23 := Fr0.trans HFW.out HF23.out
      have HFX := Lib.hid (Fr0.trans HF12.out hfx)
      have HV2 := Lib.hid (HW2.out.fr0 hfx)
      have HV3 := Lib.hid (HW3.out.fr0 hfx)
      have HV7 := Lib.hid (HW7.out.fr0 hfx)
      have HV8 := Lib.hid (HW8.out.fr0 hfx)
      clear v0 v1 hfx
      have v0 := HV2.out.at_ 0 (v := .int .i64 g) rfl
      have v1 := HV2.out.at_ 1 (v := .slice A l.length c) rfl
      have v2 := HV3.out.at_ 2 (v := .int .i64 n2) rfl
      have H0 := Lib.hid (Fr.drew (Fr.refl (fun _ => False) w23))
      refine start_ (n := 17) (S := fun w' => w'.cell? ⟨w.heap.size, 0, none⟩ = some (.int .i64 g) ∧ w'.cell? ⟨w.heap.size, 1, none⟩ = some (.slice A l.length c) ∧ w'.cell? ⟨w.heap.size + 1, 2, none⟩ = some (.int .i64 n2)) (ds := [15]) #[false, false, false, false, false, false, false, false, false, false, false, false, false, false, false, false, false] (by kernel_rfl) rfl rfl ⟨v0, v1, v2⟩ (fun hHeld => ?_)
      refine pure_ (i := 1) (N := some 193) (v := ?_) (a' := ?_) #[false, true, false, false, false, false, false, false, false, false, false, false, false, false, false, false, false] rfl rfl (by kernel_rfl) (fun _ _ _ h => h) (Or.inl ⟨by rfl, ?_⟩) ?_ ?_
      rotate_left
      · intro w'
        go_simp
        with_reducible rfl
      rotate_left
      · simp only [Act.put, List.setIfInBounds_toArray, List.set_cons_zero, List.set_cons_succ, i64_w, i32_w]
        rfl
      refine pure_ (i := 2) (N := some 194) (v := ?_) (a' := ?_) #[false, true, true, false, false, false, false, false, false, false, false, false, false, false, false, false, false] rfl rfl (by kernel_rfl) (fun _ _ _ h => h) (Or.inl ⟨by rfl, ?_⟩) ?_ ?_
      rotate_left
      · intro w'
        go_simp
        with_reducible rfl
      rotate_left
      · simp only [Act.put, List.setIfInBounds_toArray, List.set_cons_zero, List.set_cons_succ, i64_w, i32_w]
        rfl
      refine pure_ (i := 4) (N := some 196) (v := ?_) (a' := ?_) #[false, true, true, false, true, false, false, false, false, false, false, false, false, false, false, false, false] rfl rfl (by kernel_rfl) (fun _ _ _ h => h) (Or.inl ⟨by rfl, ?_⟩) ?_ ?_
      rotate_left
      · intro w'
        go_simp
        with_reducible rfl
      rotate_left
      · simp only [Act.put, List.setIfInBounds_toArray, List.set_cons_zero, List.set_cons_succ, i64_w, i32_w]
        rfl
      refine take_ (i := 0) (N := some 192) (v := ?_) (a' := ?_) #[true, true, true, false, true, false, false, false, false, false, false, false, false, false, false, false, false] rfl rfl (by kernel_rfl) (fun _ _ _ h => h) (Or.inl ⟨by rfl, ?_⟩) hHeld ?_ ?_
      rotate_left
      · rintro w' ⟨s0, s1, s2⟩
        go_simp
        with_reducible rfl
      rotate_left
      · simp only [Act.put, List.setIfInBounds_toArray, List.set_cons_zero, List.set_cons_succ, i64_w, i32_w]
        rfl
      refine take_ (i := 3) (N := some 195) (v := ?_) (a' := ?_) #[true, true, true, true, true, false, false, false, false, false, false, false, false, false, false, false, false] rfl rfl (by kernel_rfl) (fun _ _ _ h => h) (Or.inl ⟨by rfl, ?_⟩) hHeld ?_ ?_
      rotate_left
      · rintro w' ⟨s0, s1, s2⟩
        go_simp
        with_reducible rfl
      rotate_left
      · simp only [Act.put, List.setIfInBounds_toArray, List.set_cons_zero, List.set_cons_succ, i64_w, i32_w]
        rfl
      refine join_ (σ := Nat × Nat) 3 #[true, true, true, true, true, true, true, true, true, true, true, true, true, true, false, false, false] (fun s => [(197, .int .i64 (n2 % (k : Int))), (198, .int .i64 (wrap64 (1 + n2 % (k : Int)))), (199, .tuple #[.agg #[.int .i64 e0, .int .i64 e1], .agg #[.int .i64 e2, .int .i64 e3], .int .i64 0]), (191, .tuple #[.agg #[.int .i64 e0, .int .i64 e1], .agg #[.int .i64 e2, .int .i64 e3], .int .i64 0]), (200, .agg #[.int .i64 e0, .int .i64 e1]), (201, .agg #[.int .i64 e2, .int .i64 e3]), (202, .int .i64 0), (22, .pointer (some ⟨s.1, 0, none⟩)), (23, .pointer (some ⟨s.2, 0, none⟩))]) (fun s w' => ((w'.cell? ⟨w.heap.size, 0, none⟩ = some (.int .i64 g)) ∧ (w'.cell? ⟨w.heap.size, 1, none⟩ = some (.slice A l.length c)) ∧ (w'.cell? ⟨w.heap.size + 1, 2, none⟩ = some (.int .i64 n2))) ∧ FkP w23 s.1 s.2 w') ?_ ?_
      rotate_left
      · intro hCont
        refine three_ (i := 5) (j := 12) (k := 13) (Ni := some 197) (Nj := some 22) (Nk := some 23) #[true, true, true, true, true, true, false, false, false, false, false, false, false, false, false, false, false] #[true, true, true, true, true, false, false, false, false, false, false, false, true, false, false, false, false] #[true, true, true, true, true, false, false, false, false, false, false, false, false, true, false, false, false] rfl rfl rfl rfl rfl rfl (by kernel_rfl) (by decide) (by decide) (by decide) (fun K hK => ?_) (fun K hK => ?_) (fun K hK => ?_)
        · skip
          refine goes_ Tryd.func40 (by kernel_rfl) rfl #[.int .i64 n2, .int .i64 (k : Int)] (by rfl) rfl rfl (by simp only [List.map_toArray, List.map_cons, List.map_nil]; rfl) ?_
          with_reducible refine (HTM.out _).mono ?_
          rintro e w3_0 ⟨rfl, hf0⟩
          refine ⟨_, rfl, ?_⟩
          have H1 := Lib.hid (Fr0.trans H0.out hf0)
          refine hK.out _ _ ⟨(H1.out.cell0 v0), (H1.out.cell0 v1), (H1.out.cell0 v2)⟩ (fun hHeld => ?_)
          clear hK K
          refine norm_ (a' := ?_) ?_ ?_
          rotate_left
          · show Act.put _ (some 197) _ = _
            simp only [Act.put, List.setIfInBounds_toArray, List.set_cons_zero, List.set_cons_succ, i64_w, i32_w]
            rfl
          refine pure_ (i := 6) (N := some 198) (v := ?_) (a' := ?_) #[true, true, true, true, true, true, true, false, false, false, false, false, false, false, false, false, false] rfl rfl (by kernel_rfl) (fun _ _ _ h => h) (Or.inl ⟨by rfl, ?_⟩) ?_ ?_
          rotate_left
          · intro w'
            go_simp
            with_reducible rfl
          rotate_left
          · simp only [Act.put, List.setIfInBounds_toArray, List.set_cons_zero, List.set_cons_succ, i64_w, i32_w]
            rfl
          refine three_ (i := 7) (j := 12) (k := 13) (Ni := some 199) (Nj := some 22) (Nk := some 23) #[true, true, true, true, true, true, true, true, false, false, false, false, false, false, false, false, false] #[true, true, true, true, true, true, true, false, false, false, false, false, true, false, false, false, false] #[true, true, true, true, true, true, true, false, false, false, false, false, false, true, false, false, false] rfl rfl rfl rfl rfl rfl (by kernel_rfl) (by decide) (by decide) (by decide) (fun K hK => ?_) (fun K hK => ?_) (fun K hK => ?_)
          · skip
            refine goes_ Tryd.func35 (by kernel_rfl) rfl #[.agg #[.int .i64 g, .slice A l.length c], .int .i64 lost, .int .i64 (wrap64 (1 + n2 % (k : Int)))] (by rfl) rfl rfl (by simp only [List.map_toArray, List.map_cons, List.map_nil]; rfl) ?_
            with_reducible refine (HCF.out _ (Fr0.trans HFX.out H1.out)).mono ?_
            rintro e w3_1 ⟨rfl, hf1⟩
            refine ⟨_, rfl, ?_⟩
            have H2 := Lib.hid (Fr0.trans H1.out hf1)
            refine hK.out _ _ ⟨(H2.out.cell0 v0), (H2.out.cell0 v1), (H2.out.cell0 v2)⟩ (fun hHeld => ?_)
            clear hK K
            refine norm_ (a' := ?_) ?_ ?_
            rotate_left
            · show Act.put _ (some 199) _ = _
              simp only [Act.put, List.setIfInBounds_toArray, List.set_cons_zero, List.set_cons_succ, i64_w, i32_w]
              rfl
            refine pure_ (i := 8) (N := some 191) (v := ?_) (a' := ?_) #[true, true, true, true, true, true, true, true, true, false, false, false, false, false, false, false, false] rfl rfl (by kernel_rfl) (fun _ _ _ h => h) (Or.inl ⟨by rfl, ?_⟩) ?_ ?_
            rotate_left
            · intro w'
              go_simp
              with_reducible rfl
            rotate_left
            · simp only [Act.put, List.setIfInBounds_toArray, List.set_cons_zero, List.set_cons_succ, i64_w, i32_w]
              rfl
            refine pure_ (i := 9) (N := some 200) (v := ?_) (a' := ?_) #[true, true, true, true, true, true, true, true, true, true, false, false, false, false, false, false, false] rfl rfl (by kernel_rfl) (fun _ _ _ h => h) (Or.inl ⟨by rfl, ?_⟩) ?_ ?_
            rotate_left
            · intro w'
              go_simp
              with_reducible rfl
            rotate_left
            · simp only [Act.put, List.setIfInBounds_toArray, List.set_cons_zero, List.set_cons_succ, i64_w, i32_w]
              rfl
            refine pure_ (i := 10) (N := some 201) (v := ?_) (a' := ?_) #[true, true, true, true, true, true, true, true, true, true, true, false, false, false, false, false, false] rfl rfl (by kernel_rfl) (fun _ _ _ h => h) (Or.inl ⟨by rfl, ?_⟩) ?_ ?_
            rotate_left
            · intro w'
              go_simp
              with_reducible rfl
            rotate_left
            · simp only [Act.put, List.setIfInBounds_toArray, List.set_cons_zero, List.set_cons_succ, i64_w, i32_w]
              rfl
            refine pure_ (i := 11) (N := some 202) (v := ?_) (a' := ?_) #[true, true, true, true, true, true, true, true, true, true, true, true, false, false, false, false, false] rfl rfl (by kernel_rfl) (fun _ _ _ h => h) (Or.inl ⟨by rfl, ?_⟩) ?_ ?_
            rotate_left
            · intro w'
              go_simp
              with_reducible rfl
            rotate_left
            · simp only [Act.put, List.setIfInBounds_toArray, List.set_cons_zero, List.set_cons_succ, i64_w, i32_w]
              rfl
            refine two_ (i := 12) (j := 13) (Ni := some 22) (Nj := some 23) #[true, true, true, true, true, true, true, true, true, true, true, true, true, false, false, false, false] #[true, true, true, true, true, true, true, true, true, true, true, true, false, true, false, false, false] rfl rfl rfl rfl (by kernel_rfl) (by decide) (by decide) (fun K hK => ?_) (fun K hK => ?_)
            · skip
              refine value_ (w1 := ?_) (v := ?_) (by rfl) rfl ?_ ?_
              rotate_left 2
              · go_simp
                constructor
                · rfl
                · rfl
              have hx_ := Bx.new_at H2.out 38 #[.int .i64 0, .int .i64 0]
              have HX12 := Lib.hid hx_
              have hl_ := H2.out.size
              have HL12 := Lib.hid hl_
              clear hx_ hl_
              have H3 := Lib.hid (Fr0.trans H2.out (Fr.alloc (Fr.refl _ _) (.cells #[.int .i64 0, .int .i64 0] 38)))
              refine hK.out _ _ ⟨(H3.out.cell0 v0), (H3.out.cell0 v1), (H3.out.cell0 v2)⟩ (fun hHeld => ?_)
              clear hK K
              refine norm_ (a' := ?_) ?_ ?_
              rotate_left
              · show Act.put _ (some 22) _ = _
                simp only [Act.put, List.setIfInBounds_toArray, List.set_cons_zero, List.set_cons_succ, i64_w, i32_w]
                rfl
              refine one_ (i := 13) (N := some 23) #[true, true, true, true, true, true, true, true, true, true, true, true, true, true, false, false, false] rfl rfl (by kernel_rfl) (by decide) (fun K hK => ?_)
              refine value_ (w1 := ?_) (v := ?_) (by rfl) rfl ?_ ?_
              rotate_left 2
              · go_simp
                constructor
                · rfl
                · rfl
              have hx_ := Bx.new_at H3.out 38 #[.int .i64 0, .int .i64 0]
              rw [size_al] at hx_
              have HX13 := Lib.hid hx_
              have hl_ := H3.out.size
              rw [size_al] at hl_
              have HL13 := Lib.hid hl_
              have hn_ := HX12.out.lt
              rw [size_al] at hn_
              have HNE := Lib.hid (Nat.ne_of_lt hn_)
              have HX12 := Lib.hid (HX12.out.alloc (.cells #[.int .i64 0, .int .i64 0] 38))
              clear hn_
              clear hx_ hl_
              have H4 := Lib.hid (Fr0.trans H3.out (Fr.alloc (Fr.refl _ _) (.cells #[.int .i64 0, .int .i64 0] 38)))
              refine hK.out _ _ ⟨(H4.out.cell0 v0), (H4.out.cell0 v1), (H4.out.cell0 v2)⟩ (fun hHeld => ?_)
              clear hK K
              refine norm_ (a' := ?_) ?_ ?_
              rotate_left
              · show Act.put _ (some 23) _ = _
                simp only [Act.put, List.setIfInBounds_toArray, List.set_cons_zero, List.set_cons_succ, i64_w, i32_w]
                rfl
              exact norm_ (by (simp only [putAll, Act.put, List.setIfInBounds_toArray, List.set_cons_zero, List.set_cons_succ]) <;> rfl) (hCont (⟨_, _⟩ : Nat × Nat) _ ⟨⟨H4.out.cell0 v0, H4.out.cell0 v1, H4.out.cell0 v2⟩, ⟨H4.out, HX12.out, HX13.out, HL12.out, HL13.out, HNE.out⟩⟩)
            · skip
              refine value_ (w1 := ?_) (v := ?_) (by rfl) rfl ?_ ?_
              rotate_left 2
              · go_simp
                constructor
                · rfl
                · rfl
              have hx_ := Bx.new_at H2.out 38 #[.int .i64 0, .int .i64 0]
              have HX13 := Lib.hid hx_
              have hl_ := H2.out.size
              have HL13 := Lib.hid hl_
              clear hx_ hl_
              have H3 := Lib.hid (Fr0.trans H2.out (Fr.alloc (Fr.refl _ _) (.cells #[.int .i64 0, .int .i64 0] 38)))
              refine hK.out _ _ ⟨(H3.out.cell0 v0), (H3.out.cell0 v1), (H3.out.cell0 v2)⟩ (fun hHeld => ?_)
              clear hK K
              refine norm_ (a' := ?_) ?_ ?_
              rotate_left
              · show Act.put _ (some 23) _ = _
                simp only [Act.put, List.setIfInBounds_toArray, List.set_cons_zero, List.set_cons_succ, i64_w, i32_w]
                rfl
              refine one_ (i := 12) (N := some 22) #[true, true, true, true, true, true, true, true, true, true, true, true, true, true, false, false, false] rfl rfl (by kernel_rfl) (by decide) (fun K hK => ?_)
              refine value_ (w1 := ?_) (v := ?_) (by rfl) rfl ?_ ?_
              rotate_left 2
              · go_simp
                constructor
                · rfl
                · rfl
              have hx_ := Bx.new_at H3.out 38 #[.int .i64 0, .int .i64 0]
              rw [size_al] at hx_
              have HX12 := Lib.hid hx_
              have hl_ := H3.out.size
              rw [size_al] at hl_
              have HL12 := Lib.hid hl_
              have hn_ := HX13.out.lt
              rw [size_al] at hn_
              have HNE := Lib.hid (Nat.ne_of_gt hn_)
              have HX13 := Lib.hid (HX13.out.alloc (.cells #[.int .i64 0, .int .i64 0] 38))
              clear hn_
              clear hx_ hl_
              have H4 := Lib.hid (Fr0.trans H3.out (Fr.alloc (Fr.refl _ _) (.cells #[.int .i64 0, .int .i64 0] 38)))
              refine hK.out _ _ ⟨(H4.out.cell0 v0), (H4.out.cell0 v1), (H4.out.cell0 v2)⟩ (fun hHeld => ?_)
              clear hK K
              refine norm_ (a' := ?_) ?_ ?_
              rotate_left
              · show Act.put _ (some 22) _ = _
                simp only [Act.put, List.setIfInBounds_toArray, List.set_cons_zero, List.set_cons_succ, i64_w, i32_w]
                rfl
              exact norm_ (by (simp only [putAll, Act.put, List.setIfInBounds_toArray, List.set_cons_zero, List.set_cons_succ]) <;> rfl) (hCont (⟨_, _⟩ : Nat × Nat) _ ⟨⟨H4.out.cell0 v0, H4.out.cell0 v1, H4.out.cell0 v2⟩, ⟨H4.out, HX12.out, HX13.out, HL12.out, HL13.out, HNE.out⟩⟩)
          · skip
            refine value_ (w1 := ?_) (v := ?_) (by rfl) rfl ?_ ?_
            rotate_left 2
            · go_simp
              constructor
              · rfl
              · rfl
            have hx_ := Bx.new_at H1.out 38 #[.int .i64 0, .int .i64 0]
            have HX12 := Lib.hid hx_
            have hl_ := H1.out.size
            have HL12 := Lib.hid hl_
            clear hx_ hl_
            have H2 := Lib.hid (Fr0.trans H1.out (Fr.alloc (Fr.refl _ _) (.cells #[.int .i64 0, .int .i64 0] 38)))
            refine hK.out _ _ ⟨(H2.out.cell0 v0), (H2.out.cell0 v1), (H2.out.cell0 v2)⟩ (fun hHeld => ?_)
            clear hK K
            refine norm_ (a' := ?_) ?_ ?_
            rotate_left
            · show Act.put _ (some 22) _ = _
              simp only [Act.put, List.setIfInBounds_toArray, List.set_cons_zero, List.set_cons_succ, i64_w, i32_w]
              rfl
            refine two_ (i := 7) (j := 13) (Ni := some 199) (Nj := some 23) #[true, true, true, true, true, true, true, true, false, false, false, false, true, false, false, false, false] #[true, true, true, true, true, true, true, false, false, false, false, false, true, true, false, false, false] rfl rfl rfl rfl (by kernel_rfl) (by decide) (by decide) (fun K hK => ?_) (fun K hK => ?_)
            · skip
              refine goes_ Tryd.func35 (by kernel_rfl) rfl #[.agg #[.int .i64 g, .slice A l.length c], .int .i64 lost, .int .i64 (wrap64 (1 + n2 % (k : Int)))] (by rfl) rfl rfl (by simp only [List.map_toArray, List.map_cons, List.map_nil]; rfl) ?_
              with_reducible refine (HCF.out _ (Fr0.trans HFX.out H2.out)).mono ?_
              rintro e w3_2 ⟨rfl, hf2⟩
              refine ⟨_, rfl, ?_⟩
              have H3 := Lib.hid (Fr0.trans H2.out hf2)
              have HX12 := Lib.hid (HX12.out.fr0 hf2)
              refine hK.out _ _ ⟨(H3.out.cell0 v0), (H3.out.cell0 v1), (H3.out.cell0 v2)⟩ (fun hHeld => ?_)
              clear hK K
              refine norm_ (a' := ?_) ?_ ?_
              rotate_left
              · show Act.put _ (some 199) _ = _
                simp only [Act.put, List.setIfInBounds_toArray, List.set_cons_zero, List.set_cons_succ, i64_w, i32_w]
                rfl
              refine pure_ (i := 8) (N := some 191) (v := ?_) (a' := ?_) #[true, true, true, true, true, true, true, true, true, false, false, false, true, false, false, false, false] rfl rfl (by kernel_rfl) (fun _ _ _ h => h) (Or.inl ⟨by rfl, ?_⟩) ?_ ?_
              rotate_left
              · intro w'
                go_simp
                with_reducible rfl
              rotate_left
              · simp only [Act.put, List.setIfInBounds_toArray, List.set_cons_zero, List.set_cons_succ, i64_w, i32_w]
                rfl
              refine pure_ (i := 9) (N := some 200) (v := ?_) (a' := ?_) #[true, true, true, true, true, true, true, true, true, true, false, false, true, false, false, false, false] rfl rfl (by kernel_rfl) (fun _ _ _ h => h) (Or.inl ⟨by rfl, ?_⟩) ?_ ?_
              rotate_left
              · intro w'
                go_simp
                with_reducible rfl
              rotate_left
              · simp only [Act.put, List.setIfInBounds_toArray, List.set_cons_zero, List.set_cons_succ, i64_w, i32_w]
                rfl
              refine pure_ (i := 10) (N := some 201) (v := ?_) (a' := ?_) #[true, true, true, true, true, true, true, true, true, true, true, false, true, false, false, false, false] rfl rfl (by kernel_rfl) (fun _ _ _ h => h) (Or.inl ⟨by rfl, ?_⟩) ?_ ?_
              rotate_left
              · intro w'
                go_simp
                with_reducible rfl
              rotate_left
              · simp only [Act.put, List.setIfInBounds_toArray, List.set_cons_zero, List.set_cons_succ, i64_w, i32_w]
                rfl
              refine pure_ (i := 11) (N := some 202) (v := ?_) (a' := ?_) #[true, true, true, true, true, true, true, true, true, true, true, true, true, false, false, false, false] rfl rfl (by kernel_rfl) (fun _ _ _ h => h) (Or.inl ⟨by rfl, ?_⟩) ?_ ?_
              rotate_left
              · intro w'
                go_simp
                with_reducible rfl
              rotate_left
              · simp only [Act.put, List.setIfInBounds_toArray, List.set_cons_zero, List.set_cons_succ, i64_w, i32_w]
                rfl
              refine one_ (i := 13) (N := some 23) #[true, true, true, true, true, true, true, true, true, true, true, true, true, true, false, false, false] rfl rfl (by kernel_rfl) (by decide) (fun K hK => ?_)
              refine value_ (w1 := ?_) (v := ?_) (by rfl) rfl ?_ ?_
              rotate_left 2
              · go_simp
                constructor
                · rfl
                · rfl
              have hx_ := Bx.new_at H3.out 38 #[.int .i64 0, .int .i64 0]
              have HX13 := Lib.hid hx_
              have hl_ := H3.out.size
              have HL13 := Lib.hid hl_
              have hn_ := HX12.out.lt
              have HNE := Lib.hid (Nat.ne_of_lt hn_)
              have HX12 := Lib.hid (HX12.out.alloc (.cells #[.int .i64 0, .int .i64 0] 38))
              clear hn_
              clear hx_ hl_
              have H4 := Lib.hid (Fr0.trans H3.out (Fr.alloc (Fr.refl _ _) (.cells #[.int .i64 0, .int .i64 0] 38)))
              refine hK.out _ _ ⟨(H4.out.cell0 v0), (H4.out.cell0 v1), (H4.out.cell0 v2)⟩ (fun hHeld => ?_)
              clear hK K
              refine norm_ (a' := ?_) ?_ ?_
              rotate_left
              · show Act.put _ (some 23) _ = _
                simp only [Act.put, List.setIfInBounds_toArray, List.set_cons_zero, List.set_cons_succ, i64_w, i32_w]
                rfl
              exact norm_ (by (simp only [putAll, Act.put, List.setIfInBounds_toArray, List.set_cons_zero, List.set_cons_succ]) <;> rfl) (hCont (⟨_, _⟩ : Nat × Nat) _ ⟨⟨H4.out.cell0 v0, H4.out.cell0 v1, H4.out.cell0 v2⟩, ⟨H4.out, HX12.out, HX13.out, HL12.out, HL13.out, HNE.out⟩⟩)
            · skip
              refine value_ (w1 := ?_) (v := ?_) (by rfl) rfl ?_ ?_
              rotate_left 2
              · go_simp
                constructor
                · rfl
                · rfl
              have hx_ := Bx.new_at H2.out 38 #[.int .i64 0, .int .i64 0]
              rw [size_al] at hx_
              have HX13 := Lib.hid hx_
              have hl_ := H2.out.size
              rw [size_al] at hl_
              have HL13 := Lib.hid hl_
              have hn_ := HX12.out.lt
              rw [size_al] at hn_
              have HNE := Lib.hid (Nat.ne_of_lt hn_)
              have HX12 := Lib.hid (HX12.out.alloc (.cells #[.int .i64 0, .int .i64 0] 38))
              clear hn_
              clear hx_ hl_
              have H3 := Lib.hid (Fr0.trans H2.out (Fr.alloc (Fr.refl _ _) (.cells #[.int .i64 0, .int .i64 0] 38)))
              refine hK.out _ _ ⟨(H3.out.cell0 v0), (H3.out.cell0 v1), (H3.out.cell0 v2)⟩ (fun hHeld => ?_)
              clear hK K
              refine norm_ (a' := ?_) ?_ ?_
              rotate_left
              · show Act.put _ (some 23) _ = _
                simp only [Act.put, List.setIfInBounds_toArray, List.set_cons_zero, List.set_cons_succ, i64_w, i32_w]
                rfl
              refine one_ (i := 7) (N := some 199) #[true, true, true, true, true, true, true, true, false, false, false, false, true, true, false, false, false] rfl rfl (by kernel_rfl) (by decide) (fun K hK => ?_)
              refine goes_ Tryd.func35 (by kernel_rfl) rfl #[.agg #[.int .i64 g, .slice A l.length c], .int .i64 lost, .int .i64 (wrap64 (1 + n2 % (k : Int)))] (by rfl) rfl rfl (by simp only [List.map_toArray, List.map_cons, List.map_nil]; rfl) ?_
              with_reducible refine (HCF.out _ (Fr0.trans HFX.out H3.out)).mono ?_
              rintro e w3_3 ⟨rfl, hf3⟩
              refine ⟨_, rfl, ?_⟩
              have H4 := Lib.hid (Fr0.trans H3.out hf3)
              have HX12 := Lib.hid (HX12.out.fr0 hf3)
              have HX13 := Lib.hid (HX13.out.fr0 hf3)
              refine hK.out _ _ ⟨(H4.out.cell0 v0), (H4.out.cell0 v1), (H4.out.cell0 v2)⟩ (fun hHeld => ?_)
              clear hK K
              refine norm_ (a' := ?_) ?_ ?_
              rotate_left
              · show Act.put _ (some 199) _ = _
                simp only [Act.put, List.setIfInBounds_toArray, List.set_cons_zero, List.set_cons_succ, i64_w, i32_w]
                rfl
              refine pure_ (i := 8) (N := some 191) (v := ?_) (a' := ?_) #[true, true, true, true, true, true, true, true, true, false, false, false, true, true, false, false, false] rfl rfl (by kernel_rfl) (fun _ _ _ h => h) (Or.inl ⟨by rfl, ?_⟩) ?_ ?_
              rotate_left
              · intro w'
                go_simp
                with_reducible rfl
              rotate_left
              · simp only [Act.put, List.setIfInBounds_toArray, List.set_cons_zero, List.set_cons_succ, i64_w, i32_w]
                rfl
              refine pure_ (i := 9) (N := some 200) (v := ?_) (a' := ?_) #[true, true, true, true, true, true, true, true, true, true, false, false, true, true, false, false, false] rfl rfl (by kernel_rfl) (fun _ _ _ h => h) (Or.inl ⟨by rfl, ?_⟩) ?_ ?_
              rotate_left
              · intro w'
                go_simp
                with_reducible rfl
              rotate_left
              · simp only [Act.put, List.setIfInBounds_toArray, List.set_cons_zero, List.set_cons_succ, i64_w, i32_w]
                rfl
              refine pure_ (i := 10) (N := some 201) (v := ?_) (a' := ?_) #[true, true, true, true, true, true, true, true, true, true, true, false, true, true, false, false, false] rfl rfl (by kernel_rfl) (fun _ _ _ h => h) (Or.inl ⟨by rfl, ?_⟩) ?_ ?_
              rotate_left
              · intro w'
                go_simp
                with_reducible rfl
              rotate_left
              · simp only [Act.put, List.setIfInBounds_toArray, List.set_cons_zero, List.set_cons_succ, i64_w, i32_w]
                rfl
              refine pure_ (i := 11) (N := some 202) (v := ?_) (a' := ?_) #[true, true, true, true, true, true, true, true, true, true, true, true, true, true, false, false, false] rfl rfl (by kernel_rfl) (fun _ _ _ h => h) (Or.inl ⟨by rfl, ?_⟩) ?_ ?_
              rotate_left
              · intro w'
                go_simp
                with_reducible rfl
              rotate_left
              · simp only [Act.put, List.setIfInBounds_toArray, List.set_cons_zero, List.set_cons_succ, i64_w, i32_w]
                rfl
              exact norm_ (by (simp only [putAll, Act.put, List.setIfInBounds_toArray, List.set_cons_zero, List.set_cons_succ]) <;> rfl) (hCont (⟨_, _⟩ : Nat × Nat) _ ⟨⟨H4.out.cell0 v0, H4.out.cell0 v1, H4.out.cell0 v2⟩, ⟨H4.out, HX12.out, HX13.out, HL12.out, HL13.out, HNE.out⟩⟩)
          · skip
            refine value_ (w1 := ?_) (v := ?_) (by rfl) rfl ?_ ?_
            rotate_left 2
            · go_simp
              constructor
              · rfl
              · rfl
            have hx_ := Bx.new_at H1.out 38 #[.int .i64 0, .int .i64 0]
            have HX13 := Lib.hid hx_
            have hl_ := H1.out.size
            have HL13 := Lib.hid hl_
            clear hx_ hl_
            have H2 := Lib.hid (Fr0.trans H1.out (Fr.alloc (Fr.refl _ _) (.cells #[.int .i64 0, .int .i64 0] 38)))
            refine hK.out _ _ ⟨(H2.out.cell0 v0), (H2.out.cell0 v1), (H2.out.cell0 v2)⟩ (fun hHeld => ?_)
            clear hK K
            refine norm_ (a' := ?_) ?_ ?_
            rotate_left
            · show Act.put _ (some 23) _ = _
              simp only [Act.put, List.setIfInBounds_toArray, List.set_cons_zero, List.set_cons_succ, i64_w, i32_w]
              rfl
            refine two_ (i := 7) (j := 12) (Ni := some 199) (Nj := some 22) #[true, true, true, true, true, true, true, true, false, false, false, false, false, true, false, false, false] #[true, true, true, true, true, true, true, false, false, false, false, false, true, true, false, false, false] rfl rfl rfl rfl (by kernel_rfl) (by decide) (by decide) (fun K hK => ?_) (fun K hK => ?_)
            · skip
              refine goes_ Tryd.func35 (by kernel_rfl) rfl #[.agg #[.int .i64 g, .slice A l.length c], .int .i64 lost, .int .i64 (wrap64 (1 + n2 % (k : Int)))] (by rfl) rfl rfl (by simp only [List.map_toArray, List.map_cons, List.map_nil]; rfl) ?_
              with_reducible refine (HCF.out _ (Fr0.trans HFX.out H2.out)).mono ?_
              rintro e w3_2 ⟨rfl, hf2⟩
              refine ⟨_, rfl, ?_⟩
              have H3 := Lib.hid (Fr0.trans H2.out hf2)
              have HX13 := Lib.hid (HX13.out.fr0 hf2)
              refine hK.out _ _ ⟨(H3.out.cell0 v0), (H3.out.cell0 v1), (H3.out.cell0 v2)⟩ (fun hHeld => ?_)
              clear hK K
              refine norm_ (a' := ?_) ?_ ?_
              rotate_left
              · show Act.put _ (some 199) _ = _
                simp only [Act.put, List.setIfInBounds_toArray, List.set_cons_zero, List.set_cons_succ, i64_w, i32_w]
                rfl
              refine pure_ (i := 8) (N := some 191) (v := ?_) (a' := ?_) #[true, true, true, true, true, true, true, true, true, false, false, false, false, true, false, false, false] rfl rfl (by kernel_rfl) (fun _ _ _ h => h) (Or.inl ⟨by rfl, ?_⟩) ?_ ?_
              rotate_left
              · intro w'
                go_simp
                with_reducible rfl
              rotate_left
              · simp only [Act.put, List.setIfInBounds_toArray, List.set_cons_zero, List.set_cons_succ, i64_w, i32_w]
                rfl
              refine pure_ (i := 9) (N := some 200) (v := ?_) (a' := ?_) #[true, true, true, true, true, true, true, true, true, true, false, false, false, true, false, false, false] rfl rfl (by kernel_rfl) (fun _ _ _ h => h) (Or.inl ⟨by rfl, ?_⟩) ?_ ?_
              rotate_left
              · intro w'
                go_simp
                with_reducible rfl
              rotate_left
              · simp only [Act.put, List.setIfInBounds_toArray, List.set_cons_zero, List.set_cons_succ, i64_w, i32_w]
                rfl
              refine pure_ (i := 10) (N := some 201) (v := ?_) (a' := ?_) #[true, true, true, true, true, true, true, true, true, true, true, false, false, true, false, false, false] rfl rfl (by kernel_rfl) (fun _ _ _ h => h) (Or.inl ⟨by rfl, ?_⟩) ?_ ?_
              rotate_left
              · intro w'
                go_simp
                with_reducible rfl
              rotate_left
              · simp only [Act.put, List.setIfInBounds_toArray, List.set_cons_zero, List.set_cons_succ, i64_w, i32_w]
                rfl
              refine pure_ (i := 11) (N := some 202) (v := ?_) (a' := ?_) #[true, true, true, true, true, true, true, true, true, true, true, true, false, true, false, false, false] rfl rfl (by kernel_rfl) (fun _ _ _ h => h) (Or.inl ⟨by rfl, ?_⟩) ?_ ?_
              rotate_left
              · intro w'
                go_simp
                with_reducible rfl
              rotate_left
              · simp only [Act.put, List.setIfInBounds_toArray, List.set_cons_zero, List.set_cons_succ, i64_w, i32_w]
                rfl
              refine one_ (i := 12) (N := some 22) #[true, true, true, true, true, true, true, true, true, true, true, true, true, true, false, false, false] rfl rfl (by kernel_rfl) (by decide) (fun K hK => ?_)
              refine value_ (w1 := ?_) (v := ?_) (by rfl) rfl ?_ ?_
              rotate_left 2
              · go_simp
                constructor
                · rfl
                · rfl
              have hx_ := Bx.new_at H3.out 38 #[.int .i64 0, .int .i64 0]
              have HX12 := Lib.hid hx_
              have hl_ := H3.out.size
              have HL12 := Lib.hid hl_
              have hn_ := HX13.out.lt
              have HNE := Lib.hid (Nat.ne_of_gt hn_)
              have HX13 := Lib.hid (HX13.out.alloc (.cells #[.int .i64 0, .int .i64 0] 38))
              clear hn_
              clear hx_ hl_
              have H4 := Lib.hid (Fr0.trans H3.out (Fr.alloc (Fr.refl _ _) (.cells #[.int .i64 0, .int .i64 0] 38)))
              refine hK.out _ _ ⟨(H4.out.cell0 v0), (H4.out.cell0 v1), (H4.out.cell0 v2)⟩ (fun hHeld => ?_)
              clear hK K
              refine norm_ (a' := ?_) ?_ ?_
              rotate_left
              · show Act.put _ (some 22) _ = _
                simp only [Act.put, List.setIfInBounds_toArray, List.set_cons_zero, List.set_cons_succ, i64_w, i32_w]
                rfl
              exact norm_ (by (simp only [putAll, Act.put, List.setIfInBounds_toArray, List.set_cons_zero, List.set_cons_succ]) <;> rfl) (hCont (⟨_, _⟩ : Nat × Nat) _ ⟨⟨H4.out.cell0 v0, H4.out.cell0 v1, H4.out.cell0 v2⟩, ⟨H4.out, HX12.out, HX13.out, HL12.out, HL13.out, HNE.out⟩⟩)
            · skip
              refine value_ (w1 := ?_) (v := ?_) (by rfl) rfl ?_ ?_
              rotate_left 2
              · go_simp
                constructor
                · rfl
                · rfl
              have hx_ := Bx.new_at H2.out 38 #[.int .i64 0, .int .i64 0]
              rw [size_al] at hx_
              have HX12 := Lib.hid hx_
              have hl_ := H2.out.size
              rw [size_al] at hl_
              have HL12 := Lib.hid hl_
              have hn_ := HX13.out.lt
              rw [size_al] at hn_
              have HNE := Lib.hid (Nat.ne_of_gt hn_)
              have HX13 := Lib.hid (HX13.out.alloc (.cells #[.int .i64 0, .int .i64 0] 38))
              clear hn_
              clear hx_ hl_
              have H3 := Lib.hid (Fr0.trans H2.out (Fr.alloc (Fr.refl _ _) (.cells #[.int .i64 0, .int .i64 0] 38)))
              refine hK.out _ _ ⟨(H3.out.cell0 v0), (H3.out.cell0 v1), (H3.out.cell0 v2)⟩ (fun hHeld => ?_)
              clear hK K
              refine norm_ (a' := ?_) ?_ ?_
              rotate_left
              · show Act.put _ (some 22) _ = _
                simp only [Act.put, List.setIfInBounds_toArray, List.set_cons_zero, List.set_cons_succ, i64_w, i32_w]
                rfl
              refine one_ (i := 7) (N := some 199) #[true, true, true, true, true, true, true, true, false, false, false, false, true, true, false, false, false] rfl rfl (by kernel_rfl) (by decide) (fun K hK => ?_)
              refine goes_ Tryd.func35 (by kernel_rfl) rfl #[.agg #[.int .i64 g, .slice A l.length c], .int .i64 lost, .int .i64 (wrap64 (1 + n2 % (k : Int)))] (by rfl) rfl rfl (by simp only [List.map_toArray, List.map_cons, List.map_nil]; rfl) ?_
              with_reducible refine (HCF.out _ (Fr0.trans HFX.out H3.out)).mono ?_
              rintro e w3_3 ⟨rfl, hf3⟩
              refine ⟨_, rfl, ?_⟩
              have H4 := Lib.hid (Fr0.trans H3.out hf3)
              have HX12 := Lib.hid (HX12.out.fr0 hf3)
              have HX13 := Lib.hid (HX13.out.fr0 hf3)
              refine hK.out _ _ ⟨(H4.out.cell0 v0), (H4.out.cell0 v1), (H4.out.cell0 v2)⟩ (fun hHeld => ?_)
              clear hK K
              refine norm_ (a' := ?_) ?_ ?_
              rotate_left
              · show Act.put _ (some 199) _ = _
                simp only [Act.put, List.setIfInBounds_toArray, List.set_cons_zero, List.set_cons_succ, i64_w, i32_w]
                rfl
              refine pure_ (i := 8) (N := some 191) (v := ?_) (a' := ?_) #[true, true, true, true, true, true, true, true, true, false, false, false, true, true, false, false, false] rfl rfl (by kernel_rfl) (fun _ _ _ h => h) (Or.inl ⟨by rfl, ?_⟩) ?_ ?_
              rotate_left
              · intro w'
                go_simp
                with_reducible rfl
              rotate_left
              · simp only [Act.put, List.setIfInBounds_toArray, List.set_cons_zero, List.set_cons_succ, i64_w, i32_w]
                rfl
              refine pure_ (i := 9) (N := some 200) (v := ?_) (a' := ?_) #[true, true, true, true, true, true, true, true, true, true, false, false, true, true, false, false, false] rfl rfl (by kernel_rfl) (fun _ _ _ h => h) (Or.inl ⟨by rfl, ?_⟩) ?_ ?_
              rotate_left
              · intro w'
                go_simp
                with_reducible rfl
              rotate_left
              · simp only [Act.put, List.setIfInBounds_toArray, List.set_cons_zero, List.set_cons_succ, i64_w, i32_w]
                rfl
              refine pure_ (i := 10) (N := some 201) (v := ?_) (a' := ?_) #[true, true, true, true, true, true, true, true, true, true, true, false, true, true, false, false, false] rfl rfl (by kernel_rfl) (fun _ _ _ h => h) (Or.inl ⟨by rfl, ?_⟩) ?_ ?_
              rotate_left
              · intro w'
                go_simp
                with_reducible rfl
              rotate_left
              · simp only [Act.put, List.setIfInBounds_toArray, List.set_cons_zero, List.set_cons_succ, i64_w, i32_w]
                rfl
              refine pure_ (i := 11) (N := some 202) (v := ?_) (a' := ?_) #[true, true, true, true, true, true, true, true, true, true, true, true, true, true, false, false, false] rfl rfl (by kernel_rfl) (fun _ _ _ h => h) (Or.inl ⟨by rfl, ?_⟩) ?_ ?_
              rotate_left
              · intro w'
                go_simp
                with_reducible rfl
              rotate_left
              · simp only [Act.put, List.setIfInBounds_toArray, List.set_cons_zero, List.set_cons_succ, i64_w, i32_w]
                rfl
              exact norm_ (by (simp only [putAll, Act.put, List.setIfInBounds_toArray, List.set_cons_zero, List.set_cons_succ]) <;> rfl) (hCont (⟨_, _⟩ : Nat × Nat) _ ⟨⟨H4.out.cell0 v0, H4.out.cell0 v1, H4.out.cell0 v2⟩, ⟨H4.out, HX12.out, HX13.out, HL12.out, HL13.out, HNE.out⟩⟩)
        · skip
          refine value_ (w1 := ?_) (v := ?_) (by rfl) rfl ?_ ?_
          rotate_left 2
          · go_simp
            constructor
            · rfl
            · rfl
          have hx_ := Bx.new_at H0.out 38 #[.int .i64 0, .int .i64 0]
          have HX12 := Lib.hid hx_
          have hl_ := H0.out.size
          have HL12 := Lib.hid hl_
          clear hx_ hl_
          have H1 := Lib.hid (Fr0.trans H0.out (Fr.alloc (Fr.refl _ _) (.cells #[.int .i64 0, .int .i64 0] 38)))
          refine hK.out _ _ ⟨(H1.out.cell0 v0), (H1.out.cell0 v1), (H1.out.cell0 v2)⟩ (fun hHeld => ?_)
          clear hK K
          refine norm_ (a' := ?_) ?_ ?_
          rotate_left
          · show Act.put _ (some 22) _ = _
            simp only [Act.put, List.setIfInBounds_toArray, List.set_cons_zero, List.set_cons_succ, i64_w, i32_w]
            rfl
          refine two_ (i := 5) (j := 13) (Ni := some 197) (Nj := some 23) #[true, true, true, true, true, true, false, false, false, false, false, false, true, false, false, false, false] #[true, true, true, true, true, false, false, false, false, false, false, false, true, true, false, false, false] rfl rfl rfl rfl (by kernel_rfl) (by decide) (by decide) (fun K hK => ?_) (fun K hK => ?_)
          · skip
            refine goes_ Tryd.func40 (by kernel_rfl) rfl #[.int .i64 n2, .int .i64 (k : Int)] (by rfl) rfl rfl (by simp only [List.map_toArray, List.map_cons, List.map_nil]; rfl) ?_
            with_reducible refine (HTM.out _).mono ?_
            rintro e w3_1 ⟨rfl, hf1⟩
            refine ⟨_, rfl, ?_⟩
            have H2 := Lib.hid (Fr0.trans H1.out hf1)
            have HX12 := Lib.hid (HX12.out.fr0 hf1)
            refine hK.out _ _ ⟨(H2.out.cell0 v0), (H2.out.cell0 v1), (H2.out.cell0 v2)⟩ (fun hHeld => ?_)
            clear hK K
            refine norm_ (a' := ?_) ?_ ?_
            rotate_left
            · show Act.put _ (some 197) _ = _
              simp only [Act.put, List.setIfInBounds_toArray, List.set_cons_zero, List.set_cons_succ, i64_w, i32_w]
              rfl
            refine pure_ (i := 6) (N := some 198) (v := ?_) (a' := ?_) #[true, true, true, true, true, true, true, false, false, false, false, false, true, false, false, false, false] rfl rfl (by kernel_rfl) (fun _ _ _ h => h) (Or.inl ⟨by rfl, ?_⟩) ?_ ?_
            rotate_left
            · intro w'
              go_simp
              with_reducible rfl
            rotate_left
            · simp only [Act.put, List.setIfInBounds_toArray, List.set_cons_zero, List.set_cons_succ, i64_w, i32_w]
              rfl
            refine two_ (i := 7) (j := 13) (Ni := some 199) (Nj := some 23) #[true, true, true, true, true, true, true, true, false, false, false, false, true, false, false, false, false] #[true, true, true, true, true, true, true, false, false, false, false, false, true, true, false, false, false] rfl rfl rfl rfl (by kernel_rfl) (by decide) (by decide) (fun K hK => ?_) (fun K hK => ?_)
            · skip
              refine goes_ Tryd.func35 (by kernel_rfl) rfl #[.agg #[.int .i64 g, .slice A l.length c], .int .i64 lost, .int .i64 (wrap64 (1 + n2 % (k : Int)))] (by rfl) rfl rfl (by simp only [List.map_toArray, List.map_cons, List.map_nil]; rfl) ?_
              with_reducible refine (HCF.out _ (Fr0.trans HFX.out H2.out)).mono ?_
              rintro e w3_2 ⟨rfl, hf2⟩
              refine ⟨_, rfl, ?_⟩
              have H3 := Lib.hid (Fr0.trans H2.out hf2)
              have HX12 := Lib.hid (HX12.out.fr0 hf2)
              refine hK.out _ _ ⟨(H3.out.cell0 v0), (H3.out.cell0 v1), (H3.out.cell0 v2)⟩ (fun hHeld => ?_)
              clear hK K
              refine norm_ (a' := ?_) ?_ ?_
              rotate_left
              · show Act.put _ (some 199) _ = _
                simp only [Act.put, List.setIfInBounds_toArray, List.set_cons_zero, List.set_cons_succ, i64_w, i32_w]
                rfl
              refine pure_ (i := 8) (N := some 191) (v := ?_) (a' := ?_) #[true, true, true, true, true, true, true, true, true, false, false, false, true, false, false, false, false] rfl rfl (by kernel_rfl) (fun _ _ _ h => h) (Or.inl ⟨by rfl, ?_⟩) ?_ ?_
              rotate_left
              · intro w'
                go_simp
                with_reducible rfl
              rotate_left
              · simp only [Act.put, List.setIfInBounds_toArray, List.set_cons_zero, List.set_cons_succ, i64_w, i32_w]
                rfl
              refine pure_ (i := 9) (N := some 200) (v := ?_) (a' := ?_) #[true, true, true, true, true, true, true, true, true, true, false, false, true, false, false, false, false] rfl rfl (by kernel_rfl) (fun _ _ _ h => h) (Or.inl ⟨by rfl, ?_⟩) ?_ ?_
              rotate_left
              · intro w'
                go_simp
                with_reducible rfl
              rotate_left
              · simp only [Act.put, List.setIfInBounds_toArray, List.set_cons_zero, List.set_cons_succ, i64_w, i32_w]
                rfl
              refine pure_ (i := 10) (N := some 201) (v := ?_) (a' := ?_) #[true, true, true, true, true, true, true, true, true, true, true, false, true, false, false, false, false] rfl rfl (by kernel_rfl) (fun _ _ _ h => h) (Or.inl ⟨by rfl, ?_⟩) ?_ ?_
              rotate_left
              · intro w'
                go_simp
                with_reducible rfl
              rotate_left
              · simp only [Act.put, List.setIfInBounds_toArray, List.set_cons_zero, List.set_cons_succ, i64_w, i32_w]
                rfl
              refine pure_ (i := 11) (N := some 202) (v := ?_) (a' := ?_) #[true, true, true, true, true, true, true, true, true, true, true, true, true, false, false, false, false] rfl rfl (by kernel_rfl) (fun _ _ _ h => h) (Or.inl ⟨by rfl, ?_⟩) ?_ ?_
              rotate_left
              · intro w'
                go_simp
                with_reducible rfl
              rotate_left
              · simp only [Act.put, List.setIfInBounds_toArray, List.set_cons_zero, List.set_cons_succ, i64_w, i32_w]
                rfl
              refine one_ (i := 13) (N := some 23) #[true, true, true, true, true, true, true, true, true, true, true, true, true, true, false, false, false] rfl rfl (by kernel_rfl) (by decide) (fun K hK => ?_)
              refine value_ (w1 := ?_) (v := ?_) (by rfl) rfl ?_ ?_
              rotate_left 2
              · go_simp
                constructor
                · rfl
                · rfl
              have hx_ := Bx.new_at H3.out 38 #[.int .i64 0, .int .i64 0]
              have HX13 := Lib.hid hx_
              have hl_ := H3.out.size
              have HL13 := Lib.hid hl_
              have hn_ := HX12.out.lt
              have HNE := Lib.hid (Nat.ne_of_lt hn_)
              have HX12 := Lib.hid (HX12.out.alloc (.cells #[.int .i64 0, .int .i64 0] 38))
              clear hn_
              clear hx_ hl_
              have H4 := Lib.hid (Fr0.trans H3.out (Fr.alloc (Fr.refl _ _) (.cells #[.int .i64 0, .int .i64 0] 38)))
              refine hK.out _ _ ⟨(H4.out.cell0 v0), (H4.out.cell0 v1), (H4.out.cell0 v2)⟩ (fun hHeld => ?_)
              clear hK K
              refine norm_ (a' := ?_) ?_ ?_
              rotate_left
              · show Act.put _ (some 23) _ = _
                simp only [Act.put, List.setIfInBounds_toArray, List.set_cons_zero, List.set_cons_succ, i64_w, i32_w]
                rfl
              exact norm_ (by (simp only [putAll, Act.put, List.setIfInBounds_toArray, List.set_cons_zero, List.set_cons_succ]) <;> rfl) (hCont (⟨_, _⟩ : Nat × Nat) _ ⟨⟨H4.out.cell0 v0, H4.out.cell0 v1, H4.out.cell0 v2⟩, ⟨H4.out, HX12.out, HX13.out, HL12.out, HL13.out, HNE.out⟩⟩)
            · skip
              refine value_ (w1 := ?_) (v := ?_) (by rfl) rfl ?_ ?_
              rotate_left 2
              · go_simp
                constructor
                · rfl
                · rfl
              have hx_ := Bx.new_at H2.out 38 #[.int .i64 0, .int .i64 0]
              have HX13 := Lib.hid hx_
              have hl_ := H2.out.size
              have HL13 := Lib.hid hl_
              have hn_ := HX12.out.lt
              have HNE := Lib.hid (Nat.ne_of_lt hn_)
              have HX12 := Lib.hid (HX12.out.alloc (.cells #[.int .i64 0, .int .i64 0] 38))
              clear hn_
              clear hx_ hl_
              have H3 := Lib.hid (Fr0.trans H2.out (Fr.alloc (Fr.refl _ _) (.cells #[.int .i64 0, .int .i64 0] 38)))
              refine hK.out _ _ ⟨(H3.out.cell0 v0), (H3.out.cell0 v1), (H3.out.cell0 v2)⟩ (fun hHeld => ?_)
              clear hK K
              refine norm_ (a' := ?_) ?_ ?_
              rotate_left
              · show Act.put _ (some 23) _ = _
                simp only [Act.put, List.setIfInBounds_toArray, List.set_cons_zero, List.set_cons_succ, i64_w, i32_w]
                rfl
              refine one_ (i := 7) (N := some 199) #[true, true, true, true, true, true, true, true, false, false, false, false, true, true, false, false, false] rfl rfl (by kernel_rfl) (by decide) (fun K hK => ?_)
              refine goes_ Tryd.func35 (by kernel_rfl) rfl #[.agg #[.int .i64 g, .slice A l.length c], .int .i64 lost, .int .i64 (wrap64 (1 + n2 % (k : Int)))] (by rfl) rfl rfl (by simp only [List.map_toArray, List.map_cons, List.map_nil]; rfl) ?_
              with_reducible refine (HCF.out _ (Fr0.trans HFX.out H3.out)).mono ?_
              rintro e w3_3 ⟨rfl, hf3⟩
              refine ⟨_, rfl, ?_⟩
              have H4 := Lib.hid (Fr0.trans H3.out hf3)
              have HX12 := Lib.hid (HX12.out.fr0 hf3)
              have HX13 := Lib.hid (HX13.out.fr0 hf3)
              refine hK.out _ _ ⟨(H4.out.cell0 v0), (H4.out.cell0 v1), (H4.out.cell0 v2)⟩ (fun hHeld => ?_)
              clear hK K
              refine norm_ (a' := ?_) ?_ ?_
              rotate_left
              · show Act.put _ (some 199) _ = _
                simp only [Act.put, List.setIfInBounds_toArray, List.set_cons_zero, List.set_cons_succ, i64_w, i32_w]
                rfl
              refine pure_ (i := 8) (N := some 191) (v := ?_) (a' := ?_) #[true, true, true, true, true, true, true, true, true, false, false, false, true, true, false, false, false] rfl rfl (by kernel_rfl) (fun _ _ _ h => h) (Or.inl ⟨by rfl, ?_⟩) ?_ ?_
              rotate_left
              · intro w'
                go_simp
                with_reducible rfl
              rotate_left
              · simp only [Act.put, List.setIfInBounds_toArray, List.set_cons_zero, List.set_cons_succ, i64_w, i32_w]
                rfl
              refine pure_ (i := 9) (N := some 200) (v := ?_) (a' := ?_) #[true, true, true, true, true, true, true, true, true, true, false, false, true, true, false, false, false] rfl rfl (by kernel_rfl) (fun _ _ _ h => h) (Or.inl ⟨by rfl, ?_⟩) ?_ ?_
              rotate_left
              · intro w'
                go_simp
                with_reducible rfl
              rotate_left
              · simp only [Act.put, List.setIfInBounds_toArray, List.set_cons_zero, List.set_cons_succ, i64_w, i32_w]
                rfl
              refine pure_ (i := 10) (N := some 201) (v := ?_) (a' := ?_) #[true, true, true, true, true, true, true, true, true, true, true, false, true, true, false, false, false] rfl rfl (by kernel_rfl) (fun _ _ _ h => h) (Or.inl ⟨by rfl, ?_⟩) ?_ ?_
              rotate_left
              · intro w'
                go_simp
                with_reducible rfl
              rotate_left
              · simp only [Act.put, List.setIfInBounds_toArray, List.set_cons_zero, List.set_cons_succ, i64_w, i32_w]
                rfl
              refine pure_ (i := 11) (N := some 202) (v := ?_) (a' := ?_) #[true, true, true, true, true, true, true, true, true, true, true, true, true, true, false, false, false] rfl rfl (by kernel_rfl) (fun _ _ _ h => h) (Or.inl ⟨by rfl, ?_⟩) ?_ ?_
              rotate_left
              · intro w'
                go_simp
                with_reducible rfl
              rotate_left
              · simp only [Act.put, List.setIfInBounds_toArray, List.set_cons_zero, List.set_cons_succ, i64_w, i32_w]
                rfl
              exact norm_ (by (simp only [putAll, Act.put, List.setIfInBounds_toArray, List.set_cons_zero, List.set_cons_succ]) <;> rfl) (hCont (⟨_, _⟩ : Nat × Nat) _ ⟨⟨H4.out.cell0 v0, H4.out.cell0 v1, H4.out.cell0 v2⟩, ⟨H4.out, HX12.out, HX13.out, HL12.out, HL13.out, HNE.out⟩⟩)
          · skip
            refine value_ (w1 := ?_) (v := ?_) (by rfl) rfl ?_ ?_
            rotate_left 2
            · go_simp
              constructor
              · rfl
              · rfl
            have hx_ := Bx.new_at H1.out 38 #[.int .i64 0, .int .i64 0]
            rw [size_al] at hx_
            have HX13 := Lib.hid hx_
            have hl_ := H1.out.size
            rw [size_al] at hl_
            have HL13 := Lib.hid hl_
            have hn_ := HX12.out.lt
            rw [size_al] at hn_
            have HNE := Lib.hid (Nat.ne_of_lt hn_)
            have HX12 := Lib.hid (HX12.out.alloc (.cells #[.int .i64 0, .int .i64 0] 38))
            clear hn_
            clear hx_ hl_
            have H2 := Lib.hid (Fr0.trans H1.out (Fr.alloc (Fr.refl _ _) (.cells #[.int .i64 0, .int .i64 0] 38)))
            refine hK.out _ _ ⟨(H2.out.cell0 v0), (H2.out.cell0 v1), (H2.out.cell0 v2)⟩ (fun hHeld => ?_)
            clear hK K
            refine norm_ (a' := ?_) ?_ ?_
            rotate_left
            · show Act.put _ (some 23) _ = _
              simp only [Act.put, List.setIfInBounds_toArray, List.set_cons_zero, List.set_cons_succ, i64_w, i32_w]
              rfl
            refine one_ (i := 5) (N := some 197) #[true, true, true, true, true, true, false, false, false, false, false, false, true, true, false, false, false] rfl rfl (by kernel_rfl) (by decide) (fun K hK => ?_)
            refine goes_ Tryd.func40 (by kernel_rfl) rfl #[.int .i64 n2, .int .i64 (k : Int)] (by rfl) rfl rfl (by simp only [List.map_toArray, List.map_cons, List.map_nil]; rfl) ?_
            with_reducible refine (HTM.out _).mono ?_
            rintro e w3_2 ⟨rfl, hf2⟩
            refine ⟨_, rfl, ?_⟩
            have H3 := Lib.hid (Fr0.trans H2.out hf2)
            have HX12 := Lib.hid (HX12.out.fr0 hf2)
            have HX13 := Lib.hid (HX13.out.fr0 hf2)
            refine hK.out _ _ ⟨(H3.out.cell0 v0), (H3.out.cell0 v1), (H3.out.cell0 v2)⟩ (fun hHeld => ?_)
            clear hK K
            refine norm_ (a' := ?_) ?_ ?_
            rotate_left
            · show Act.put _ (some 197) _ = _
              simp only [Act.put, List.setIfInBounds_toArray, List.set_cons_zero, List.set_cons_succ, i64_w, i32_w]
              rfl
            refine pure_ (i := 6) (N := some 198) (v := ?_) (a' := ?_) #[true, true, true, true, true, true, true, false, false, false, false, false, true, true, false, false, false] rfl rfl (by kernel_rfl) (fun _ _ _ h => h) (Or.inl ⟨by rfl, ?_⟩) ?_ ?_
            rotate_left
            · intro w'
              go_simp
              with_reducible rfl
            rotate_left
            · simp only [Act.put, List.setIfInBounds_toArray, List.set_cons_zero, List.set_cons_succ, i64_w, i32_w]
              rfl
            refine one_ (i := 7) (N := some 199) #[true, true, true, true, true, true, true, true, false, false, false, false, true, true, false, false, false] rfl rfl (by kernel_rfl) (by decide) (fun K hK => ?_)
            refine goes_ Tryd.func35 (by kernel_rfl) rfl #[.agg #[.int .i64 g, .slice A l.length c], .int .i64 lost, .int .i64 (wrap64 (1 + n2 % (k : Int)))] (by rfl) rfl rfl (by simp only [List.map_toArray, List.map_cons, List.map_nil]; rfl) ?_
            with_reducible refine (HCF.out _ (Fr0.trans HFX.out H3.out)).mono ?_
            rintro e w3_3 ⟨rfl, hf3⟩
            refine ⟨_, rfl, ?_⟩
            have H4 := Lib.hid (Fr0.trans H3.out hf3)
            have HX12 := Lib.hid (HX12.out.fr0 hf3)
            have HX13 := Lib.hid (HX13.out.fr0 hf3)
            refine hK.out _ _ ⟨(H4.out.cell0 v0), (H4.out.cell0 v1), (H4.out.cell0 v2)⟩ (fun hHeld => ?_)
            clear hK K
            refine norm_ (a' := ?_) ?_ ?_
            rotate_left
            · show Act.put _ (some 199) _ = _
              simp only [Act.put, List.setIfInBounds_toArray, List.set_cons_zero, List.set_cons_succ, i64_w, i32_w]
              rfl
            refine pure_ (i := 8) (N := some 191) (v := ?_) (a' := ?_) #[true, true, true, true, true, true, true, true, true, false, false, false, true, true, false, false, false] rfl rfl (by kernel_rfl) (fun _ _ _ h => h) (Or.inl ⟨by rfl, ?_⟩) ?_ ?_
            rotate_left
            · intro w'
              go_simp
              with_reducible rfl
            rotate_left
            · simp only [Act.put, List.setIfInBounds_toArray, List.set_cons_zero, List.set_cons_succ, i64_w, i32_w]
              rfl
            refine pure_ (i := 9) (N := some 200) (v := ?_) (a' := ?_) #[true, true, true, true, true, true, true, true, true, true, false, false, true, true, false, false, false] rfl rfl (by kernel_rfl) (fun _ _ _ h => h) (Or.inl ⟨by rfl, ?_⟩) ?_ ?_
            rotate_left
            · intro w'
              go_simp
              with_reducible rfl
            rotate_left
            · simp only [Act.put, List.setIfInBounds_toArray, List.set_cons_zero, List.set_cons_succ, i64_w, i32_w]
              rfl
            refine pure_ (i := 10) (N := some 201) (v := ?_) (a' := ?_) #[true, true, true, true, true, true, true, true, true, true, true, false, true, true, false, false, false] rfl rfl (by kernel_rfl) (fun _ _ _ h => h) (Or.inl ⟨by rfl, ?_⟩) ?_ ?_
            rotate_left
            · intro w'
              go_simp
              with_reducible rfl
            rotate_left
            · simp only [Act.put, List.setIfInBounds_toArray, List.set_cons_zero, List.set_cons_succ, i64_w, i32_w]
              rfl
            refine pure_ (i := 11) (N := some 202) (v := ?_) (a' := ?_) #[true, true, true, true, true, true, true, true, true, true, true, true, true, true, false, false, false] rfl rfl (by kernel_rfl) (fun _ _ _ h => h) (Or.inl ⟨by rfl, ?_⟩) ?_ ?_
            rotate_left
            · intro w'
              go_simp
              with_reducible rfl
            rotate_left
            · simp only [Act.put, List.setIfInBounds_toArray, List.set_cons_zero, List.set_cons_succ, i64_w, i32_w]
              rfl
            exact norm_ (by (simp only [putAll, Act.put, List.setIfInBounds_toArray, List.set_cons_zero, List.set_cons_succ]) <;> rfl) (hCont (⟨_, _⟩ : Nat × Nat) _ ⟨⟨H4.out.cell0 v0, H4.out.cell0 v1, H4.out.cell0 v2⟩, ⟨H4.out, HX12.out, HX13.out, HL12.out, HL13.out, HNE.out⟩⟩)
        · skip
          refine value_ (w1 := ?_) (v := ?_) (by rfl) rfl ?_ ?_
          rotate_left 2
          · go_simp
            constructor
            · rfl
            · rfl
          have hx_ := Bx.new_at H0.out 38 #[.int .i64 0, .int .i64 0]
          have HX13 := Lib.hid hx_
          have hl_ := H0.out.size
          have HL13 := Lib.hid hl_
          clear hx_ hl_
          have H1 := Lib.hid (Fr0.trans H0.out (Fr.alloc (Fr.refl _ _) (.cells #[.int .i64 0, .int .i64 0] 38)))
          refine hK.out _ _ ⟨(H1.out.cell0 v0), (H1.out.cell0 v1), (H1.out.cell0 v2)⟩ (fun hHeld => ?_)
          clear hK K
          refine norm_ (a' := ?_) ?_ ?_
          rotate_left
          · show Act.put _ (some 23) _ = _
            simp only [Act.put, List.setIfInBounds_toArray, List.set_cons_zero, List.set_cons_succ, i64_w, i32_w]
            rfl
          refine two_ (i := 5) (j := 12) (Ni := some 197) (Nj := some 22) #[true, true, true, true, true, true, false, false, false, false, false, false, false, true, false, false, false] #[true, true, true, true, true, false, false, false, false, false, false, false, true, true, false, false, false] rfl rfl rfl rfl (by kernel_rfl) (by decide) (by decide) (fun K hK => ?_) (fun K hK => ?_)
          · skip
            refine goes_ Tryd.func40 (by kernel_rfl) rfl #[.int .i64 n2, .int .i64 (k : Int)] (by rfl) rfl rfl (by simp only [List.map_toArray, List.map_cons, List.map_nil]; rfl) ?_
            with_reducible refine (HTM.out _).mono ?_
            rintro e w3_1 ⟨rfl, hf1⟩
            refine ⟨_, rfl, ?_⟩
            have H2 := Lib.hid (Fr0.trans H1.out hf1)
            have HX13 := Lib.hid (HX13.out.fr0 hf1)
            refine hK.out _ _ ⟨(H2.out.cell0 v0), (H2.out.cell0 v1), (H2.out.cell0 v2)⟩ (fun hHeld => ?_)
            clear hK K
            refine norm_ (a' := ?_) ?_ ?_
            rotate_left
            · show Act.put _ (some 197) _ = _
              simp only [Act.put, List.setIfInBounds_toArray, List.set_cons_zero, List.set_cons_succ, i64_w, i32_w]
              rfl
            refine pure_ (i := 6) (N := some 198) (v := ?_) (a' := ?_) #[true, true, true, true, true, true, true, false, false, false, false, false, false, true, false, false, false] rfl rfl (by kernel_rfl) (fun _ _ _ h => h) (Or.inl ⟨by rfl, ?_⟩) ?_ ?_
            rotate_left
            · intro w'
              go_simp
              with_reducible rfl
            rotate_left
            · simp only [Act.put, List.setIfInBounds_toArray, List.set_cons_zero, List.set_cons_succ, i64_w, i32_w]
              rfl
            refine two_ (i := 7) (j := 12) (Ni := some 199) (Nj := some 22) #[true, true, true, true, true, true, true, true, false, false, false, false, false, true, false, false, false] #[true, true, true, true, true, true, true, false, false, false, false, false, true, true, false, false, false] rfl rfl rfl rfl (by kernel_rfl) (by decide) (by decide) (fun K hK => ?_) (fun K hK => ?_)
            · skip
              refine goes_ Tryd.func35 (by kernel_rfl) rfl #[.agg #[.int .i64 g, .slice A l.length c], .int .i64 lost, .int .i64 (wrap64 (1 + n2 % (k : Int)))] (by rfl) rfl rfl (by simp only [List.map_toArray, List.map_cons, List.map_nil]; rfl) ?_
              with_reducible refine (HCF.out _ (Fr0.trans HFX.out H2.out)).mono ?_
              rintro e w3_2 ⟨rfl, hf2⟩
              refine ⟨_, rfl, ?_⟩
              have H3 := Lib.hid (Fr0.trans H2.out hf2)
              have HX13 := Lib.hid (HX13.out.fr0 hf2)
              refine hK.out _ _ ⟨(H3.out.cell0 v0), (H3.out.cell0 v1), (H3.out.cell0 v2)⟩ (fun hHeld => ?_)
              clear hK K
              refine norm_ (a' := ?_) ?_ ?_
              rotate_left
              · show Act.put _ (some 199) _ = _
                simp only [Act.put, List.setIfInBounds_toArray, List.set_cons_zero, List.set_cons_succ, i64_w, i32_w]
                rfl
              refine pure_ (i := 8) (N := some 191) (v := ?_) (a' := ?_) #[true, true, true, true, true, true, true, true, true, false, false, false, false, true, false, false, false] rfl rfl (by kernel_rfl) (fun _ _ _ h => h) (Or.inl ⟨by rfl, ?_⟩) ?_ ?_
              rotate_left
              · intro w'
                go_simp
                with_reducible rfl
              rotate_left
              · simp only [Act.put, List.setIfInBounds_toArray, List.set_cons_zero, List.set_cons_succ, i64_w, i32_w]
                rfl
              refine pure_ (i := 9) (N := some 200) (v := ?_) (a' := ?_) #[true, true, true, true, true, true, true, true, true, true, false, false, false, true, false, false, false] rfl rfl (by kernel_rfl) (fun _ _ _ h => h) (Or.inl ⟨by rfl, ?_⟩) ?_ ?_
              rotate_left
              · intro w'
                go_simp
                with_reducible rfl
              rotate_left
              · simp only [Act.put, List.setIfInBounds_toArray, List.set_cons_zero, List.set_cons_succ, i64_w, i32_w]
                rfl
              refine pure_ (i := 10) (N := some 201) (v := ?_) (a' := ?_) #[true, true, true, true, true, true, true, true, true, true, true, false, false, true, false, false, false] rfl rfl (by kernel_rfl) (fun _ _ _ h => h) (Or.inl ⟨by rfl, ?_⟩) ?_ ?_
              rotate_left
              · intro w'
                go_simp
                with_reducible rfl
              rotate_left
              · simp only [Act.put, List.setIfInBounds_toArray, List.set_cons_zero, List.set_cons_succ, i64_w, i32_w]
                rfl
              refine pure_ (i := 11) (N := some 202) (v := ?_) (a' := ?_) #[true, true, true, true, true, true, true, true, true, true, true, true, false, true, false, false, false] rfl rfl (by kernel_rfl) (fun _ _ _ h => h) (Or.inl ⟨by rfl, ?_⟩) ?_ ?_
              rotate_left
              · intro w'
                go_simp
                with_reducible rfl
              rotate_left
              · simp only [Act.put, List.setIfInBounds_toArray, List.set_cons_zero, List.set_cons_succ, i64_w, i32_w]
                rfl
              refine one_ (i := 12) (N := some 22) #[true, true, true, true, true, true, true, true, true, true, true, true, true, true, false, false, false] rfl rfl (by kernel_rfl) (by decide) (fun K hK => ?_)
              refine value_ (w1 := ?_) (v := ?_) (by rfl) rfl ?_ ?_
              rotate_left 2
              · go_simp
                constructor
                · rfl
                · rfl
              have hx_ := Bx.new_at H3.out 38 #[.int .i64 0, .int .i64 0]
              have HX12 := Lib.hid hx_
              have hl_ := H3.out.size
              have HL12 := Lib.hid hl_
              have hn_ := HX13.out.lt
              have HNE := Lib.hid (Nat.ne_of_gt hn_)
              have HX13 := Lib.hid (HX13.out.alloc (.cells #[.int .i64 0, .int .i64 0] 38))
              clear hn_
              clear hx_ hl_
              have H4 := Lib.hid (Fr0.trans H3.out (Fr.alloc (Fr.refl _ _) (.cells #[.int .i64 0, .int .i64 0] 38)))
              refine hK.out _ _ ⟨(H4.out.cell0 v0), (H4.out.cell0 v1), (H4.out.cell0 v2)⟩ (fun hHeld => ?_)
              clear hK K
              refine norm_ (a' := ?_) ?_ ?_
              rotate_left
              · show Act.put _ (some 22) _ = _
                simp only [Act.put, List.setIfInBounds_toArray, List.set_cons_zero, List.set_cons_succ, i64_w, i32_w]
                rfl
              exact norm_ (by (simp only [putAll, Act.put, List.setIfInBounds_toArray, List.set_cons_zero, List.set_cons_succ]) <;> rfl) (hCont (⟨_, _⟩ : Nat × Nat) _ ⟨⟨H4.out.cell0 v0, H4.out.cell0 v1, H4.out.cell0 v2⟩, ⟨H4.out, HX12.out, HX13.out, HL12.out, HL13.out, HNE.out⟩⟩)
            · skip
              refine value_ (w1 := ?_) (v := ?_) (by rfl) rfl ?_ ?_
              rotate_left 2
              · go_simp
                constructor
                · rfl
                · rfl
              have hx_ := Bx.new_at H2.out 38 #[.int .i64 0, .int .i64 0]
              have HX12 := Lib.hid hx_
              have hl_ := H2.out.size
              have HL12 := Lib.hid hl_
              have hn_ := HX13.out.lt
              have HNE := Lib.hid (Nat.ne_of_gt hn_)
              have HX13 := Lib.hid (HX13.out.alloc (.cells #[.int .i64 0, .int .i64 0] 38))
              clear hn_
              clear hx_ hl_
              have H3 := Lib.hid (Fr0.trans H2.out (Fr.alloc (Fr.refl _ _) (.cells #[.int .i64 0, .int .i64 0] 38)))
              refine hK.out _ _ ⟨(H3.out.cell0 v0), (H3.out.cell0 v1), (H3.out.cell0 v2)⟩ (fun hHeld => ?_)
              clear hK K
              refine norm_ (a' := ?_) ?_ ?_
              rotate_left
              · show Act.put _ (some 22) _ = _
                simp only [Act.put, List.setIfInBounds_toArray, List.set_cons_zero, List.set_cons_succ, i64_w, i32_w]
                rfl
              refine one_ (i := 7) (N := some 199) #[true, true, true, true, true, true, true, true, false, false, false, false, true, true, false, false, false] rfl rfl (by kernel_rfl) (by decide) (fun K hK => ?_)
              refine goes_ Tryd.func35 (by kernel_rfl) rfl #[.agg #[.int .i64 g, .slice A l.length c], .int .i64 lost, .int .i64 (wrap64 (1 + n2 % (k : Int)))] (by rfl) rfl rfl (by simp only [List.map_toArray, List.map_cons, List.map_nil]; rfl) ?_
              with_reducible refine (HCF.out _ (Fr0.trans HFX.out H3.out)).mono ?_
              rintro e w3_3 ⟨rfl, hf3⟩
              refine ⟨_, rfl, ?_⟩
              have H4 := Lib.hid (Fr0.trans H3.out hf3)
              have HX12 := Lib.hid (HX12.out.fr0 hf3)
              have HX13 := Lib.hid (HX13.out.fr0 hf3)
              refine hK.out _ _ ⟨(H4.out.cell0 v0), (H4.out.cell0 v1), (H4.out.cell0 v2)⟩ (fun hHeld => ?_)
              clear hK K
              refine norm_ (a' := ?_) ?_ ?_
              rotate_left
              · show Act.put _ (some 199) _ = _
                simp only [Act.put, List.setIfInBounds_toArray, List.set_cons_zero, List.set_cons_succ, i64_w, i32_w]
                rfl
              refine pure_ (i := 8) (N := some 191) (v := ?_) (a' := ?_) #[true, true, true, true, true, true, true, true, true, false, false, false, true, true, false, false, false] rfl rfl (by kernel_rfl) (fun _ _ _ h => h) (Or.inl ⟨by rfl, ?_⟩) ?_ ?_
              rotate_left
              · intro w'
                go_simp
                with_reducible rfl
              rotate_left
              · simp only [Act.put, List.setIfInBounds_toArray, List.set_cons_zero, List.set_cons_succ, i64_w, i32_w]
                rfl
              refine pure_ (i := 9) (N := some 200) (v := ?_) (a' := ?_) #[true, true, true, true, true, true, true, true, true, true, false, false, true, true, false, false, false] rfl rfl (by kernel_rfl) (fun _ _ _ h => h) (Or.inl ⟨by rfl, ?_⟩) ?_ ?_
              rotate_left
              · intro w'
                go_simp
                with_reducible rfl
              rotate_left
              · simp only [Act.put, List.setIfInBounds_toArray, List.set_cons_zero, List.set_cons_succ, i64_w, i32_w]
                rfl
              refine pure_ (i := 10) (N := some 201) (v := ?_) (a' := ?_) #[true, true, true, true, true, true, true, true, true, true, true, false, true, true, false, false, false] rfl rfl (by kernel_rfl) (fun _ _ _ h => h) (Or.inl ⟨by rfl, ?_⟩) ?_ ?_
              rotate_left
              · intro w'
                go_simp
                with_reducible rfl
              rotate_left
              · simp only [Act.put, List.setIfInBounds_toArray, List.set_cons_zero, List.set_cons_succ, i64_w, i32_w]
                rfl
              refine pure_ (i := 11) (N := some 202) (v := ?_) (a' := ?_) #[true, true, true, true, true, true, true, true, true, true, true, true, true, true, false, false, false] rfl rfl (by kernel_rfl) (fun _ _ _ h => h) (Or.inl ⟨by rfl, ?_⟩) ?_ ?_
              rotate_left
              · intro w'
                go_simp
                with_reducible rfl
              rotate_left
              · simp only [Act.put, List.setIfInBounds_toArray, List.set_cons_zero, List.set_cons_succ, i64_w, i32_w]
                rfl
              exact norm_ (by (simp only [putAll, Act.put, List.setIfInBounds_toArray, List.set_cons_zero, List.set_cons_succ]) <;> rfl) (hCont (⟨_, _⟩ : Nat × Nat) _ ⟨⟨H4.out.cell0 v0, H4.out.cell0 v1, H4.out.cell0 v2⟩, ⟨H4.out, HX12.out, HX13.out, HL12.out, HL13.out, HNE.out⟩⟩)
          · skip
            refine value_ (w1 := ?_) (v := ?_) (by rfl) rfl ?_ ?_
            rotate_left 2
            · go_simp
              constructor
              · rfl
              · rfl
            have hx_ := Bx.new_at H1.out 38 #[.int .i64 0, .int .i64 0]
            rw [size_al] at hx_
            have HX12 := Lib.hid hx_
            have hl_ := H1.out.size
            rw [size_al] at hl_
            have HL12 := Lib.hid hl_
            have hn_ := HX13.out.lt
            rw [size_al] at hn_
            have HNE := Lib.hid (Nat.ne_of_gt hn_)
            have HX13 := Lib.hid (HX13.out.alloc (.cells #[.int .i64 0, .int .i64 0] 38))
            clear hn_
            clear hx_ hl_
            have H2 := Lib.hid (Fr0.trans H1.out (Fr.alloc (Fr.refl _ _) (.cells #[.int .i64 0, .int .i64 0] 38)))
            refine hK.out _ _ ⟨(H2.out.cell0 v0), (H2.out.cell0 v1), (H2.out.cell0 v2)⟩ (fun hHeld => ?_)
            clear hK K
            refine norm_ (a' := ?_) ?_ ?_
            rotate_left
            · show Act.put _ (some 22) _ = _
              simp only [Act.put, List.setIfInBounds_toArray, List.set_cons_zero, List.set_cons_succ, i64_w, i32_w]
              rfl
            refine one_ (i := 5) (N := some 197) #[true, true, true, true, true, true, false, false, false, false, false, false, true, true, false, false, false] rfl rfl (by kernel_rfl) (by decide) (fun K hK => ?_)
            refine goes_ Tryd.func40 (by kernel_rfl) rfl #[.int .i64 n2, .int .i64 (k : Int)] (by rfl) rfl rfl (by simp only [List.map_toArray, List.map_cons, List.map_nil]; rfl) ?_
            with_reducible refine (HTM.out _).mono ?_
            rintro e w3_2 ⟨rfl, hf2⟩
            refine ⟨_, rfl, ?_⟩
            have H3 := Lib.hid (Fr0.trans H2.out hf2)
            have HX12 := Lib.hid (HX12.out.fr0 hf2)
            have HX13 := Lib.hid (HX13.out.fr0 hf2)
            refine hK.out _ _ ⟨(H3.out.cell0 v0), (H3.out.cell0 v1), (H3.out.cell0 v2)⟩ (fun hHeld => ?_)
            clear hK K
            refine norm_ (a' := ?_) ?_ ?_
            rotate_left
            · show Act.put _ (some 197) _ = _
              simp only [Act.put, List.setIfInBounds_toArray, List.set_cons_zero, List.set_cons_succ, i64_w, i32_w]
              rfl
            refine pure_ (i := 6) (N := some 198) (v := ?_) (a' := ?_) #[true, true, true, true, true, true, true, false, false, false, false, false, true, true, false, false, false] rfl rfl (by kernel_rfl) (fun _ _ _ h => h) (Or.inl ⟨by rfl, ?_⟩) ?_ ?_
            rotate_left
            · intro w'
              go_simp
              with_reducible rfl
            rotate_left
            · simp only [Act.put, List.setIfInBounds_toArray, List.set_cons_zero, List.set_cons_succ, i64_w, i32_w]
              rfl
            refine one_ (i := 7) (N := some 199) #[true, true, true, true, true, true, true, true, false, false, false, false, true, true, false, false, false] rfl rfl (by kernel_rfl) (by decide) (fun K hK => ?_)
            refine goes_ Tryd.func35 (by kernel_rfl) rfl #[.agg #[.int .i64 g, .slice A l.length c], .int .i64 lost, .int .i64 (wrap64 (1 + n2 % (k : Int)))] (by rfl) rfl rfl (by simp only [List.map_toArray, List.map_cons, List.map_nil]; rfl) ?_
            with_reducible refine (HCF.out _ (Fr0.trans HFX.out H3.out)).mono ?_
            rintro e w3_3 ⟨rfl, hf3⟩
            refine ⟨_, rfl, ?_⟩
            have H4 := Lib.hid (Fr0.trans H3.out hf3)
            have HX12 := Lib.hid (HX12.out.fr0 hf3)
            have HX13 := Lib.hid (HX13.out.fr0 hf3)
            refine hK.out _ _ ⟨(H4.out.cell0 v0), (H4.out.cell0 v1), (H4.out.cell0 v2)⟩ (fun hHeld => ?_)
            clear hK K
            refine norm_ (a' := ?_) ?_ ?_
            rotate_left
            · show Act.put _ (some 199) _ = _
              simp only [Act.put, List.setIfInBounds_toArray, List.set_cons_zero, List.set_cons_succ, i64_w, i32_w]
              rfl
            refine pure_ (i := 8) (N := some 191) (v := ?_) (a' := ?_) #[true, true, true, true, true, true, true, true, true, false, false, false, true, true, false, false, false] rfl rfl (by kernel_rfl) (fun _ _ _ h => h) (Or.inl ⟨by rfl, ?_⟩) ?_ ?_
            rotate_left
            · intro w'
              go_simp
              with_reducible rfl
            rotate_left
            · simp only [Act.put, List.setIfInBounds_toArray, List.set_cons_zero, List.set_cons_succ, i64_w, i32_w]
              rfl
            refine pure_ (i := 9) (N := some 200) (v := ?_) (a' := ?_) #[true, true, true, true, true, true, true, true, true, true, false, false, true, true, false, false, false] rfl rfl (by kernel_rfl) (fun _ _ _ h => h) (Or.inl ⟨by rfl, ?_⟩) ?_ ?_
            rotate_left
            · intro w'
              go_simp
              with_reducible rfl
            rotate_left
            · simp only [Act.put, List.setIfInBounds_toArray, List.set_cons_zero, List.set_cons_succ, i64_w, i32_w]
              rfl
            refine pure_ (i := 10) (N := some 201) (v := ?_) (a' := ?_) #[true, true, true, true, true, true, true, true, true, true, true, false, true, true, false, false, false] rfl rfl (by kernel_rfl) (fun _ _ _ h => h) (Or.inl ⟨by rfl, ?_⟩) ?_ ?_
            rotate_left
            · intro w'
              go_simp
              with_reducible rfl
            rotate_left
            · simp only [Act.put, List.setIfInBounds_toArray, List.set_cons_zero, List.set_cons_succ, i64_w, i32_w]
              rfl
            refine pure_ (i := 11) (N := some 202) (v := ?_) (a' := ?_) #[true, true, true, true, true, true, true, true, true, true, true, true, true, true, false, false, false] rfl rfl (by kernel_rfl) (fun _ _ _ h => h) (Or.inl ⟨by rfl, ?_⟩) ?_ ?_
            rotate_left
            · intro w'
              go_simp
              with_reducible rfl
            rotate_left
            · simp only [Act.put, List.setIfInBounds_toArray, List.set_cons_zero, List.set_cons_succ, i64_w, i32_w]
              rfl
            exact norm_ (by (simp only [putAll, Act.put, List.setIfInBounds_toArray, List.set_cons_zero, List.set_cons_succ]) <;> rfl) (hCont (⟨_, _⟩ : Nat × Nat) _ ⟨⟨H4.out.cell0 v0, H4.out.cell0 v1, H4.out.cell0 v2⟩, ⟨H4.out, HX12.out, HX13.out, HL12.out, HL13.out, HNE.out⟩⟩)
      rintro ⟨g9, h9⟩ w5 ⟨⟨s0, s1, s2⟩, HP⟩
      have hHeld : (w5.cell? ⟨w.heap.size, 0, none⟩ = some (.int .i64 g)) ∧ (w5.cell? ⟨w.heap.size, 1, none⟩ = some (.slice A l.length c)) ∧ (w5.cell? ⟨w.heap.size + 1, 2, none⟩ = some (.int .i64 n2)) := ⟨s0, s1, s2⟩
      dsimp only at HP
      have z9 := HP.x.at_ 0 (v := .int .i64 0) rfl
      have z9' := HP.x.at_ 1 (v := .int .i64 0) rfl
      have f9 := HP.x.frz 0
      have f9' := HP.x.frz 1
      have y9 := HP.y.at_ 0 (v := .int .i64 0) rfl
      have y9' := HP.y.at_ 1 (v := .int .i64 0) rfl
      have k9 := HP.y.frz 0
      have k9' := HP.y.frz 1
      have ne9 := HP.ne
      have ne9' := Ne.symm HP.ne
      refine norm_ (a' := ?_) ?_ ?_
      rotate_left
      · simp only [putAll, Act.put, List.setIfInBounds_toArray, List.set_cons_zero, List.set_cons_succ]
        rfl
      refine one_ (i := 14) (N := none) #[true, true, true, true, true, true, true, true, true, true, true, true, true, true, true, false, false] rfl rfl (by kernel_rfl) (by decide) (fun K hK => ?_)
      refine skip_ (w1 := ?_) (by rfl) rfl ?_ ?_
      rotate_left
      · go_simp
        rfl
      have KA2 := Lib.hid (Bx.far (Bx.far (HV2.out.fr0 HP.fr) (p := ⟨g9, 0, none⟩) (by have := HV2.out.lt; have := HP.gx; dsimp only; omega) (.int .i64 e0)) (p := ⟨g9, 1, none⟩) (by have := HV2.out.lt; have := HP.gx; dsimp only; omega) (.int .i64 e1))
      have KA3 := Lib.hid (Bx.far (Bx.far (HV3.out.fr0 HP.fr) (p := ⟨g9, 0, none⟩) (by have := HV3.out.lt; have := HP.gx; dsimp only; omega) (.int .i64 e0)) (p := ⟨g9, 1, none⟩) (by have := HV3.out.lt; have := HP.gx; dsimp only; omega) (.int .i64 e1))
      refine hK.out _ _ ⟨(KA2.out.at_ 0 rfl), (KA2.out.at_ 1 rfl), (KA3.out.at_ 2 rfl)⟩ (fun hHeld => ?_)
      clear hK K
      refine last_ (i := 15) (N := none) #[true, true, true, true, true, true, true, true, true, true, true, true, true, true, true, true, false] rfl rfl (by kernel_rfl) (by decide) (fun K hK => ?_)
      refine skip_ (w1 := ?_) (by rfl) rfl ?_ ?_
      rotate_left
      · go_simp
        rfl
      refine hK.out _ _ ?_
      clear hK K
      refine pure_ (i := 16) (N := some 24) (v := ?_) (a' := ?_) #[true, true, true, true, true, true, true, true, true, true, true, true, true, true, true, true, true] rfl rfl (by kernel_rfl) (fun _ _ _ h => h) (Or.inl ⟨by rfl, ?_⟩) ?_ ?_
      rotate_left
      · intro w'
        go_simp
        with_reducible rfl
      rotate_left
      · simp only [Act.put, List.setIfInBounds_toArray, List.set_cons_zero, List.set_cons_succ, i64_w, i32_w]
        rfl
      refine done_ (by kernel_rfl) ?_
      have hfE := (((HP.fr.setCell (p := ⟨g9, 0, none⟩) (.inr (by dsimp only; exact HP.gx)) (.int .i64 e0)).setCell (p := ⟨g9, 1, none⟩) (.inr (by dsimp only; exact HP.gx)) (.int .i64 e1)).setCell (p := ⟨h9, 0, none⟩) (.inr (by dsimp only; exact HP.hy)) (.int .i64 e2)).setCell (p := ⟨h9, 1, none⟩) (.inr (by dsimp only; exact HP.hy)) (.int .i64 e3)
      generalize hWE : World.setCell _ _ _ = WE at hfE ⊢
      clear hWE hHeld s0 s1 s2 z9 z9' f9 f9' y9 y9' k9 k9' ne9 ne9' v0 v1 v2
      have HFE := Lib.hid hfE
      have HG7 := HV7.out.fr0 hfE
      have HG8 := HV8.out.fr0 hfE
      have q0 := HG7.at_ 0 (v := .int .i64 sp0) rfl
      have q1 := HG7.at_ 1 (v := .int .i64 sp1) rfl
      have q2 := HG8.at_ 0 (v := .int .i64 tp0) rfl
      have q3 := HG8.at_ 1 (v := .int .i64 tp1) rfl
      have HCE := Lib.hid (C_fr HCL.out hfE)
      have HI0 := Lib.hid hin0
      have HI1 := Lib.hid hin1
      clear hfE HG7 HG8 hin0 hin1 HP
      go_wp2_with (first
        | (go_at_call 47; refine (within47 (two_new WE sp0 sp1 tp0 tp1) (C_fr HCE.out ((Fr.refl _ _).alloc _)) hcL HI0.out HI1.out).mono ?_; rintro e w26 ⟨rfl, hf26⟩; (have HF26 := Lib.hid hf26); clear hf26)
        | (go_at_call 23; refine (marked23 (HB.out.glob.fr (Fr0.trans HFX.out (Fr0.trans (HFE.out.alloc _) HF26.out)))).mono ?_; rintro e w27 ⟨rfl, hf27⟩; (have HF27 := Lib.hid hf27); clear hf27))
      refine bodyPost_ret (v := .bool true) (by simp [results, Tryd.results12, go_sem]) rfl ⟨rfl, ?_⟩
      exact Fr0.trans HFX.out (Fr0.trans (Fr0.trans (HFE.out.alloc _) HF26.out) HF27.out)

set_option maxHeartbeats 8000000 in
set_option maxRecDepth 100000 in
theorem confused_same12 (g : Int) (A : Option Addr) (c : Nat) (l : List S63) (n0 n1 n2 : Int) (w : World) (hB : Book w A c l) (hb : bookOk g l = true) (sp0 sp1 tp1 : Int) (m : Nat) (hmany : 1 + n1 % 64 = (m : Int)) (hC : confF g l (n0 % 7) (m : Int) = ((⟨sp0, sp1⟩, ⟨sp0, tp1⟩), 0)) (p q : List (List Int)) (hP : passF g l sp0 sp1 (m : Int) = (p, 0)) (hQ : passF g l sp0 tp1 (m : Int) = (q, 0)) (hpm : p.length = m) (hqm : q.length = m) (hp5 : ∀ k, (p.getD k []).length ≤ 5) (L : List S38) (hPL : placesF g l (bothR p q m) (n0 % 7) = (L, 0)) (e0 e1 e2 e3 : Int) (hC2 : confF g l (n0 % 7) (1 + n2 % (m : Int)) = ((⟨e0, e1⟩, ⟨e2, e3⟩), 0)) (hin0 : (⟨sp0, sp1⟩ : S38) ∈ L) (hin1 : (⟨sp0, tp1⟩ : S38) ∈ L) (hge : ¬ sp1 ≥ tp1) :
    Calls Tryd.prog 12 #[.agg #[.int .i64 g, .slice A l.length c], .agg #[.int .i64 n0, .int .i64 n1, .int .i64 n2]] w fun e w' => e = .returned (.bool true) ∧ Fr0 w w' := by
  have HB := Lib.hid hB
  have hm0 := Int.emod_nonneg n1 (show (64 : Int) ≠ 0 by omega)
  have hm1 := Int.emod_lt_of_pos n1 (show (0 : Int) < 64 by omega)
  have HT0 := Lib.hid (fun W => turn40 n0 7 (by omega) (by omega) W)
  have HT1 := Lib.hid (fun W => turn40 n1 64 (by omega) (by omega) W)
  have hw : wrap64 (m : Int) = (m : Int) := w64 (by omega) (by omega)
  have hf0 : Fr0 w ((w.alloc (.cells #[.int .i64 g, .slice A l.length c] 24)).alloc (.cells #[.int .i64 n0, .int .i64 n1, .int .i64 n2] 25)) := ((Fr.refl _ _).alloc _).alloc _
  have c2 : Bx ((w.alloc (.cells #[.int .i64 g, .slice A l.length c] 24)).alloc (.cells #[.int .i64 n0, .int .i64 n1, .int .i64 n2] 25)) w.heap.size 24 #[.int .i64 g, .slice A l.length c] := (Bx.of_new rfl).alloc _
  have c3 : Bx ((w.alloc (.cells #[.int .i64 g, .slice A l.length c] 24)).alloc (.cells #[.int .i64 n0, .int .i64 n1, .int .i64 n2] 25)) (w.heap.size + 1) 25 #[.int .i64 n0, .int .i64 n1, .int .i64 n2] := Bx.of_new (by simp)
  clear hB
  go_enter Tryd.func12, Tryd.ntmps12
  go_wp2
  generalize hW : ((w.alloc (.cells #[.int .i64 g, .slice A l.length c] 24)).alloc (.cells #[.int .i64 n0, .int .i64 n1, .int .i64 n2] 25)) = W at hf0 c2 c3 ⊢
  clear hW
  have HF0 := Lib.hid hf0
  have HC2 := Lib.hid c2
  have HC3 := Lib.hid c3
  have u0 := c3.at_ 0 (v := .int .i64 n0) rfl
  have u1 := c3.at_ 1 (v := .int .i64 n1) rfl
  clear hf0 c2 c3
  refine start_ (n := 9) (S := fun w' => w'.cell? ⟨w.heap.size + 1, 0, none⟩ = some (.int .i64 n0) ∧ w'.cell? ⟨w.heap.size + 1, 1, none⟩ = some (.int .i64 n1)) (ds := []) #[false, false, false, false, false, false, false, false, false] (by kernel_rfl) rfl rfl ⟨u0, u1⟩ (fun hHeld => ?_)
  refine pure_ (i := 0) (N := some 25) (v := ?_) (a' := ?_) #[true, false, false, false, false, false, false, false, false] rfl rfl (by kernel_rfl) (fun _ _ _ h => h) (Or.inl ⟨by rfl, ?_⟩) ?_ ?_
  rotate_left
  · intro w'
    go_simp
    with_reducible rfl
  rotate_left
  · simp only [Act.put, List.setIfInBounds_toArray, List.set_cons_zero, List.set_cons_succ, i64_w, i32_w]
    rfl
  refine pure_ (i := 3) (N := some 28) (v := ?_) (a' := ?_) #[true, false, false, true, false, false, false, false, false] rfl rfl (by kernel_rfl) (fun _ _ _ h => h) (Or.inl ⟨by rfl, ?_⟩) ?_ ?_
  rotate_left
  · intro w'
    go_simp
    with_reducible rfl
  rotate_left
  · simp only [Act.put, List.setIfInBounds_toArray, List.set_cons_zero, List.set_cons_succ, i64_w, i32_w]
    rfl
  refine take_ (i := 1) (N := some 26) (v := ?_) (a' := ?_) #[true, true, false, true, false, false, false, false, false] rfl rfl (by kernel_rfl) (fun _ _ _ h => h) (Or.inl ⟨by rfl, ?_⟩) hHeld ?_ ?_
  rotate_left
  · rintro w' ⟨s0, s1⟩
    go_simp
    with_reducible rfl
  rotate_left
  · simp only [Act.put, List.setIfInBounds_toArray, List.set_cons_zero, List.set_cons_succ, i64_w, i32_w]
    rfl
  refine take_ (i := 4) (N := some 29) (v := ?_) (a' := ?_) #[true, true, false, true, true, false, false, false, false] rfl rfl (by kernel_rfl) (fun _ _ _ h => h) (Or.inl ⟨by rfl, ?_⟩) hHeld ?_ ?_
  rotate_left
  · rintro w' ⟨s0, s1⟩
    go_simp
    with_reducible rfl
  rotate_left
  · simp only [Act.put, List.setIfInBounds_toArray, List.set_cons_zero, List.set_cons_succ, i64_w, i32_w]
    rfl
  refine one_ (i := 2) (N := some 27) #[true, true, true, true, true, false, false, false, false] rfl rfl (by kernel_rfl) (by decide) (fun K hK => ?_)
  refine goes_ Tryd.func40 (by kernel_rfl) rfl #[.int .i64 n0, .int .i64 7] (by rfl) rfl rfl (by simp only [List.map_toArray, List.map_cons, List.map_nil]; rfl) ?_
  with_reducible refine (HT0.out _).mono ?_
  rintro e w3 ⟨rfl, hf3⟩
  refine ⟨_, rfl, ?_⟩
  have H3 := Lib.hid (Fr0.trans (Fr.drew (Fr.refl _ W)) hf3)
  refine hK.out _ _ ⟨(H3.out.cell0 u0), (H3.out.cell0 u1)⟩ (fun hHeld => ?_)
  clear hK K
  refine norm_ (a' := ?_) ?_ ?_
  rotate_left
  · show Act.put _ (some 27) _ = _
    simp only [Act.put, List.setIfInBounds_toArray, List.set_cons_zero, List.set_cons_succ, i64_w, i32_w]
    rfl
  refine one_ (i := 5) (N := some 30) #[true, true, true, true, true, true, false, false, false] rfl rfl (by kernel_rfl) (by decide) (fun K hK => ?_)
  refine goes_ Tryd.func40 (by kernel_rfl) rfl #[.int .i64 n1, .int .i64 64] (by rfl) rfl rfl (by simp only [List.map_toArray, List.map_cons, List.map_nil]; rfl) ?_
  with_reducible refine (HT1.out _).mono ?_
  rintro e w4 ⟨rfl, hf4⟩
  refine ⟨_, rfl, ?_⟩
  have H4 := Lib.hid (Fr0.trans H3.out hf4)
  refine hK.out _ _ ⟨(H4.out.cell0 u0), (H4.out.cell0 u1)⟩ (fun hHeld => ?_)
  clear hK K
  refine norm_ (a' := ?_) ?_ ?_
  rotate_left
  · show Act.put _ (some 30) _ = _
    simp only [Act.put, List.setIfInBounds_toArray, List.set_cons_zero, List.set_cons_succ, i64_w, i32_w]
    rfl
  refine pure_ (i := 6) (N := some 31) (v := ?_) (a' := ?_) #[true, true, true, true, true, true, true, false, false] rfl rfl (by kernel_rfl) (fun _ _ _ h => h) (Or.inl ⟨by rfl, ?_⟩) ?_ ?_
  rotate_left
  · intro w'
    go_simp
    with_reducible rfl
  rotate_left
  · simp only [Act.put, List.setIfInBounds_toArray, List.set_cons_zero, List.set_cons_succ, i64_w, i32_w]
    rfl
  refine pure_ (i := 7) (N := some 5) (v := ?_) (a' := ?_) #[true, true, true, true, true, true, true, true, false] rfl rfl (by kernel_rfl) (fun _ _ _ h => h) (Or.inl ⟨by rfl, ?_⟩) ?_ ?_
  rotate_left
  · intro w'
    go_simp
    with_reducible rfl
  rotate_left
  · simp only [Act.put, List.setIfInBounds_toArray, List.set_cons_zero, List.set_cons_succ, i64_w, i32_w]
    rfl
  refine pure_ (i := 8) (N := some 6) (v := ?_) (a' := ?_) #[true, true, true, true, true, true, true, true, true] rfl rfl (by kernel_rfl) (fun _ _ _ h => h) (Or.inl ⟨by rfl, ?_⟩) ?_ ?_
  rotate_left
  · intro w'
    go_simp
    with_reducible rfl
  rotate_left
  · simp only [Act.put, List.setIfInBounds_toArray, List.set_cons_zero, List.set_cons_succ, i64_w, i32_w]
    rfl
  refine done_ (by kernel_rfl) ?_
  clear u0 u1
  rw [hw]
  clear hw
  generalize n0 % 7 = lost at *
  have HD2 := Lib.hid (HC2.out.fr0 H4.out)
  have v0 := HD2.out.at_ 0 (v := .int .i64 g) rfl
  have v1 := HD2.out.at_ 1 (v := .slice A l.length c) rfl
  have HF4 := Lib.hid (Fr0.trans HF0.out H4.out)
  go_upto_region 3 with (first
    | (go_at_call 35; refine (conf35 (HB.out.fr HF4.out) lost (m : Int) hC).mono ?_; rintro e w5 ⟨rfl, hf5⟩; (have HF5 := Lib.hid hf5); clear hf5))
  have hx7 : Bx ((w5.alloc (.cells #[.int .i64 sp0, .int .i64 sp1] 38)).alloc (.cells #[.int .i64 sp0, .int .i64 tp1] 38)) w5.heap.size 38 #[.int .i64 sp0, .int .i64 sp1] := (Bx.of_new rfl).alloc _
  have hx8 : Bx ((w5.alloc (.cells #[.int .i64 sp0, .int .i64 sp1] 38)).alloc (.cells #[.int .i64 sp0, .int .i64 tp1] 38)) (w5.heap.size + 1) 38 #[.int .i64 sp0, .int .i64 tp1] := Bx.of_new (by simp)
  have hf6 : Fr0 w4 ((w5.alloc (.cells #[.int .i64 sp0, .int .i64 sp1] 38)).alloc (.cells #[.int .i64 sp0, .int .i64 tp1] 38)) := (HF5.out.alloc _).alloc _
  generalize ((w5.alloc (.cells #[.int .i64 sp0, .int .i64 sp1] 38)).alloc (.cells #[.int .i64 sp0, .int .i64 tp1] 38)) = W6 at hx7 hx8 hf6 ⊢
  generalize w5.heap.size = b7 at hx7 hx8 ⊢
  have HX7 := Lib.hid hx7
  have HX8 := Lib.hid hx8
  have HF6 := Lib.hid (Fr0.trans HF4.out hf6)
  have HE2 := Lib.hid (HD2.out.fr0 hf6)
  have HE3 := Lib.hid ((HC3.out.fr0 H4.out).fr0 hf6)
  clear v0 v1 hx7 hx8 hf6
  have v0 := HE2.out.at_ 0 (v := .int .i64 g) rfl
  have v1 := HE2.out.at_ 1 (v := .slice A l.length c) rfl
  go_upto_region 8 with (first
    | (go_at_call 39; refine (sound39 (HB.out.fr HF6.out)).mono ?_; rw [hb]; rintro e w7 ⟨rfl, hf7⟩; (have HF7 := Lib.hid hf7); clear hf7))
  have HF8 := Lib.hid (Fr0.trans HF6.out HF7.out)
  have HY7 := Lib.hid (HX7.out.fr0 HF7.out)
  have HY8 := Lib.hid (HX8.out.fr0 HF7.out)
  have HY2 := Lib.hid (HE2.out.fr0 HF7.out)
  have HY3 := Lib.hid (HE3.out.fr0 HF7.out)
  clear v0 v1
  have p0 := HY7.out.at_ 0 (v := .int .i64 sp0) rfl
  have p1 := HY7.out.at_ 1 (v := .int .i64 sp1) rfl
  have p2 := HY8.out.at_ 0 (v := .int .i64 sp0) rfl
  have p3 := HY8.out.at_ 1 (v := .int .i64 tp1) rfl
  clear p0 p1 p2 p3
  have v0 := HY2.out.at_ 0 (v := .int .i64 g) rfl
  have v1 := HY2.out.at_ 1 (v := .slice A l.length c) rfl
  have p0 := HY7.out.at_ 0 (v := .int .i64 sp0) rfl
  have p1 := HY7.out.at_ 1 (v := .int .i64 sp1) rfl
  go_upto_region 9 with (first
    | (go_at_call 24; refine (pass24 (HB.out.fr HF8.out) hP hpm).mono ?_; rintro e w9 ⟨Ap, cp, rfl, hCp, hcp, hf9⟩; (have HP := Lib.hid hCp); clear hCp; (have HF9 := Lib.hid hf9); clear hf9))
  have HF10 := Lib.hid (Fr0.trans HF8.out HF9.out)
  have HZ2 := Lib.hid (HY2.out.fr0 HF9.out)
  have HZ3 := Lib.hid (HY3.out.fr0 HF9.out)
  have HZ7 := Lib.hid (HY7.out.fr0 HF9.out)
  have HZ8 := Lib.hid (HY8.out.fr0 HF9.out)
  clear v0 v1 p0 p1
  have v0 := HZ2.out.at_ 0 (v := .int .i64 g) rfl
  have v1 := HZ2.out.at_ 1 (v := .slice A l.length c) rfl
  have p2 := HZ8.out.at_ 0 (v := .int .i64 sp0) rfl
  have p3 := HZ8.out.at_ 1 (v := .int .i64 tp1) rfl
  go_upto_region 10 with (first
    | (go_at_call 24; refine (pass24 (HB.out.fr HF10.out) hQ hqm).mono ?_; rintro e w11 ⟨Aq, cq, rfl, hCq, hcq, hf11⟩; (have HQ := Lib.hid hCq); clear hCq; (have HF11 := Lib.hid hf11); clear hf11))
  have HF12 := Lib.hid (Fr0.trans HF10.out HF11.out)
  have HW2 := Lib.hid (HZ2.out.fr0 HF11.out)
  have HW3 := Lib.hid (HZ3.out.fr0 HF11.out)
  have HW7 := Lib.hid (HZ7.out.fr0 HF11.out)
  have HW8 := Lib.hid (HZ8.out.fr0 HF11.out)
  have HPW := Lib.hid (C_fr HP.out HF11.out)
  clear v0 v1 p2 p3
  have p0 := HW7.out.at_ 0 (v := .int .i64 sp0) rfl
  have p1 := HW7.out.at_ 1 (v := .int .i64 sp1) rfl
  have p2 := HW8.out.at_ 0 (v := .int .i64 sp0) rfl
  have p3 := HW8.out.at_ 1 (v := .int .i64 tp1) rfl
  go_upto_region 13 with fail
  have hk1 : 1 ≤ (m : Int) := by omega
  have hk2 : (m : Int) ≤ 64 := by omega
  have hq0 := Int.emod_nonneg n2 (show (m : Int) ≠ 0 by omega)
  have hq1 := Int.emod_lt_of_pos n2 (show 0 < (m : Int) by omega)
  have HTM := Lib.hid (fun W => turn40 n2 (m : Int) hk1 (by omega) W)
  have HCF := Lib.hid (show ∀ W, Fr0 w W → Calls Tryd.prog 35 #[.agg #[.int .i64 g, .slice A l.length c], .int .i64 lost, .int .i64 (wrap64 (1 + n2 % (m : Int)))] W fun e w' => e = .returned (.tuple #[.agg #[.int .i64 e0, .int .i64 e1], .agg #[.int .i64 e2, .int .i64 e3], .int .i64 0]) ∧ Fr0 W w' from fun W hW => by
    rw [w64 (x := 1 + n2 % (m : Int)) (by omega) (by omega)]
    exact conf35 (HB.out.fr hW) lost _ hC2)
  clear hC2 hq0 hq1
  have HPM := Lib.hid hpm
  have HQM := Lib.hid hqm
  have HLP := Lib.hid hp5
  have hbo := bothR_len p q m
  clear hpm hqm hP hQ hC hp5 hge
  go_wp2
  go_loopw [16, 17] (fun v16 v17 wr => ∃ k : Nat, k ≤ m ∧ v17 = .int .i64 k ∧ Kd.N (Kd.slice 3 (Kd.int .i64)) 26 wr w11.heap.size (fun b => w11.heap.size ≤ b) v16 (bothR p q k) ∧ Below w11.heap.size w11 wr) (fun _ v17 _ => (m - intOf v17).toNat)
  case atStart => exact ⟨0, by omega, by rfl, Kd.N_nil _ _ _ _ _, Below.refl _ _⟩
  case round =>
    obtain ⟨k, hkm, rfl, hN, hbw⟩ := hrel
    obtain ⟨wo, hwo⟩ : ∃ wo, wo = wr := ⟨wr, rfl⟩
    subst hwo
    by_cases hlt : k < m
    · have hle : (k : Int) < m := by omega
      obtain ⟨adp, A2, c2, rfl, x0, hlr, hCr⟩ := at_L1 (Kd.C_below HPW.out hbw) (k : Int) (by omega) (by rw [HPM.out]; omega)
      obtain ⟨adq, A3, c3, rfl, y0, hlq, hCq⟩ := at_L1 (Kd.C_below HQ.out hbw) (k : Int) (by omega) (by rw [HQM.out]; omega)
      have hr5 : (rd_L1 p (k : Int)).length ≤ 5 := by rw [show rd_L1 p (k : Int) = p.getD k [] by simp [rd_L1]]; exact HLP.out k
      have HBT := Lib.hid (show bothR p q (k + 1) = bothR p q k ++ [(rd_L1 p (k : Int)).filter (fun x => (rd_L1 q (k : Int)).contains x)] by simp [bothR, rd_L1])
      generalize rd_L1 p (k : Int) = r at *
      generalize rd_L1 q (k : Int) = rq at *
      have HXL := Lib.hid (bothR_len p q k)
      generalize bothR p q k = xs at *
      rw [Int.toNat_natCast] at x0 y0
      have HN := Lib.hid hN
      have HOWN := Lib.hid (Kd.N_lt hN)
      have HBW := Lib.hid hbw
      have HCR := Lib.hid hCr
      have HCQ := Lib.hid hCq
      clear hN hbw hCr hCq
      go_wp2
      go_loopw [18, 19] (fun v18 v19 wr => ∃ i : Nat, i ≤ r.length ∧ v19 = .int .i64 i ∧ Kd.R (Kd.int .i64) 3 wr wo.heap.size (fun b => wo.heap.size ≤ b) v18 ((r.take i).filter (fun x => rq.contains x)) ∧ Below wo.heap.size wo wr) (fun _ v19 _ => (r.length - intOf v19).toNat)
      case atStart => exact ⟨0, by omega, by rfl, by simpa using Kd.R_nil _ _ _ _ _, Below.refl _ _⟩
      case round =>
        obtain ⟨i, hir, rfl, hR, hbi⟩ := hrel
        have xi := (hbi.cell (World.block_lt_of_cell? _ _ x0)).trans x0
        have yi := (hbi.cell (World.block_lt_of_cell? _ _ y0)).trans y0
        have HBI := Lib.hid hbi
        by_cases hlti : i < r.length
        · have hlei : (i : Int) < r.length := by omega
          obtain ⟨ade, rfl, zi⟩ := Kd.at_int (Kd.C_below HCR.out hbi) (i : Int) (by omega) (by omega)
          have HXI := Lib.hid (show rd r (i : Int) = r[i] by rw [rd_nat, getD_lt _ hlti])
          have HTF := Lib.hid (take_filter r (fun x => rq.contains x) i hlti)
          rw [HXI.out] at zi
          rw [Int.toNat_natCast] at zi
          have HYL := Lib.hid (show ((r.take i).filter (fun x => rq.contains x)).length ≤ 5 by have := List.length_filter_le (fun x => rq.contains x) (r.take i); have := List.length_take_le' i r; omega)
          have HWH := Lib.hid (wh_iff r[i] rq 0 (by omega))
          generalize (r.take i).filter (fun x => rq.contains x) = ys at *
          generalize r[i] = x at *
          generalize hz : wh x 0 rq = z at *
          have HZ := Lib.hid hz
          have HR := Lib.hid hR
          clear hbi hR hz
          go_upto_region 20 with fail
          refine start_ (n := 13) (S := fun w' => w'.cell? (adq.add k) = some (.slice A3 rq.length c3) ∧ w'.cell? (adp.add k) = some (.slice (some ade) r.length c2) ∧ w'.cell? (ade.add i) = some (.int .i64 x)) (ds := []) #[false, false, false, false, false, false, false, false, false, false, false, false, false] (by kernel_rfl) rfl rfl ⟨yi, xi, zi⟩ (fun hHeld => ?_)
          refine pure_ (i := 0) (N := some 157) (v := ?_) (a' := ?_) #[true, false, false, false, false, false, false, false, false, false, false, false, false] rfl rfl (by kernel_rfl) (fun _ _ _ h => h) (Or.inl ⟨by rfl, ?_⟩) ?_ ?_
          rotate_left
          · intro w'
            go_simp
            with_reducible rfl
          rotate_left
          · simp only [Act.put, List.setIfInBounds_toArray, List.set_cons_zero, List.set_cons_succ, i64_w, i32_w]
            rfl
          refine pure_ (i := 1) (N := some 158) (v := ?_) (a' := ?_) #[true, true, false, false, false, false, false, false, false, false, false, false, false] rfl rfl (by kernel_rfl) (fun _ _ _ h => h) (Or.inl ⟨by rfl, ?_⟩) ?_ ?_
          rotate_left
          · intro w'
            go_simp
            with_reducible rfl
          rotate_left
          · simp only [Act.put, List.setIfInBounds_toArray, List.set_cons_zero, List.set_cons_succ, i64_w, i32_w]
            rfl
          refine pure_ (i := 2) (N := some 159) (v := ?_) (a' := ?_) #[true, true, true, false, false, false, false, false, false, false, false, false, false] rfl rfl (by kernel_rfl) (fun _ _ _ h => h) (Or.inl ⟨by rfl, ?_⟩) ?_ ?_
          rotate_left
          · intro w'
            go_simp
            with_reducible rfl
          rotate_left
          · simp only [Act.put, List.setIfInBounds_toArray, List.set_cons_zero, List.set_cons_succ, i64_w, i32_w]
            rfl
          refine pure_ (i := 4) (N := some 161) (v := ?_) (a' := ?_) #[true, true, true, false, true, false, false, false, false, false, false, false, false] rfl rfl (by kernel_rfl) (fun _ _ _ h => h) (Or.inl ⟨by rfl, ?_⟩) ?_ ?_
          rotate_left
          · intro w'
            go_simp
            with_reducible rfl
          rotate_left
          · simp only [Act.put, List.setIfInBounds_toArray, List.set_cons_zero, List.set_cons_succ, i64_w, i32_w]
            rfl
          refine pure_ (i := 5) (N := some 162) (v := ?_) (a' := ?_) #[true, true, true, false, true, true, false, false, false, false, false, false, false] rfl rfl (by kernel_rfl) (fun _ _ _ h => h) (Or.inl ⟨by rfl, ?_⟩) ?_ ?_
          rotate_left
          · intro w'
            go_simp
            with_reducible rfl
          rotate_left
          · simp only [Act.put, List.setIfInBounds_toArray, List.set_cons_zero, List.set_cons_succ, i64_w, i32_w]
            rfl
          refine pure_ (i := 6) (N := some 163) (v := ?_) (a' := ?_) #[true, true, true, false, true, true, true, false, false, false, false, false, false] rfl rfl (by kernel_rfl) (fun _ _ _ h => h) (Or.inl ⟨by rfl, ?_⟩) ?_ ?_
          rotate_left
          · intro w'
            go_simp
            with_reducible rfl
          rotate_left
          · simp only [Act.put, List.setIfInBounds_toArray, List.set_cons_zero, List.set_cons_succ, i64_w, i32_w]
            rfl
          refine pure_ (i := 8) (N := some 165) (v := ?_) (a' := ?_) #[true, true, true, false, true, true, true, false, true, false, false, false, false] rfl rfl (by kernel_rfl) (fun _ _ _ h => h) (Or.inl ⟨by rfl, ?_⟩) ?_ ?_
          rotate_left
          · intro w'
            go_simp
            with_reducible rfl
          rotate_left
          · simp only [Act.put, List.setIfInBounds_toArray, List.set_cons_zero, List.set_cons_succ, i64_w, i32_w]
            rfl
          refine take_ (i := 3) (N := some 160) (v := ?_) (a' := ?_) #[true, true, true, true, true, true, true, false, true, false, false, false, false] rfl rfl (by kernel_rfl) (fun _ _ _ h => h) (Or.inl ⟨by rfl, ?_⟩) hHeld ?_ ?_
          rotate_left
          · rintro w' ⟨s0, s1, s2⟩
            go_simp
            with_reducible rfl
          rotate_left
          · simp only [Act.put, List.setIfInBounds_toArray, List.set_cons_zero, List.set_cons_succ, i64_w, i32_w]
            rfl
          refine take_ (i := 7) (N := some 164) (v := ?_) (a' := ?_) #[true, true, true, true, true, true, true, true, true, false, false, false, false] rfl rfl (by kernel_rfl) (fun _ _ _ h => h) (Or.inl ⟨by rfl, ?_⟩) hHeld ?_ ?_
          rotate_left
          · rintro w' ⟨s0, s1, s2⟩
            go_simp
            with_reducible rfl
          rotate_left
          · simp only [Act.put, List.setIfInBounds_toArray, List.set_cons_zero, List.set_cons_succ, i64_w, i32_w]
            rfl
          refine pure_ (i := 9) (N := some 166) (v := ?_) (a' := ?_) #[true, true, true, true, true, true, true, true, true, true, false, false, false] rfl rfl (by kernel_rfl) (fun _ _ _ h => h) (Or.inl ⟨by rfl, ?_⟩) ?_ ?_
          rotate_left
          · intro w'
            go_simp
            with_reducible rfl
          rotate_left
          · simp only [Act.put, List.setIfInBounds_toArray, List.set_cons_zero, List.set_cons_succ, i64_w, i32_w]
            rfl
          refine take_ (i := 10) (N := some 167) (v := ?_) (a' := ?_) #[true, true, true, true, true, true, true, true, true, true, true, false, false] rfl rfl (by kernel_rfl) (fun _ _ _ h => h) (Or.inl ⟨by rfl, ?_⟩) hHeld ?_ ?_
          rotate_left
          · rintro w' ⟨s0, s1, s2⟩
            go_simp
            with_reducible rfl
          rotate_left
          · simp only [Act.put, List.setIfInBounds_toArray, List.set_cons_zero, List.set_cons_succ, i64_w, i32_w]
            rfl
          refine one_ (i := 11) (N := some 168) #[true, true, true, true, true, true, true, true, true, true, true, true, false] rfl rfl (by kernel_rfl) (by decide) (fun K hK => ?_)
          refine goes_ Tryd.func42 (by kernel_rfl) rfl #[.slice A3 rq.length c3, .int .i64 x] (by rfl) rfl rfl (by simp only [List.map_toArray, List.map_cons, List.map_nil]; rfl) ?_
          refine (where42 (C_fr (Kd.C_below HCQ.out HBI.out) (Fr.drew (Fr.refl _ _))) hlq x).mono ?_
          rw [HZ.out]
          rintro e w20 ⟨rfl, hf20⟩
          refine ⟨_, rfl, ?_⟩
          have H20 := Lib.hid (Fr0.trans (Fr.drew (Fr.refl _ wr)) hf20)
          refine hK.out _ _ ⟨(H20.out.cell0 yi), (H20.out.cell0 xi), (H20.out.cell0 zi)⟩ (fun hHeld => ?_)
          clear hK K
          refine norm_ (a' := ?_) ?_ ?_
          rotate_left
          · show Act.put _ (some 168) _ = _
            simp only [Act.put, List.setIfInBounds_toArray, List.set_cons_zero, List.set_cons_succ, i64_w, i32_w]
            rfl
          refine pure_ (i := 12) (N := some 169) (v := ?_) (a' := ?_) #[true, true, true, true, true, true, true, true, true, true, true, true, true] rfl rfl (by kernel_rfl) (fun _ _ _ h => h) (Or.inl ⟨by rfl, ?_⟩) ?_ ?_
          rotate_left
          · intro w'
            go_simp
            with_reducible rfl
          rotate_left
          · simp only [Act.put, List.setIfInBounds_toArray, List.set_cons_zero, List.set_cons_succ, i64_w, i32_w]
            rfl
          refine done_ (by kernel_rfl) ?_
          have x20 := H20.out.cell0 xi
          have z20 := H20.out.cell0 zi
          have HB20 := Lib.hid (HBI.out.trans (H20.out.below HBI.out.size (fun _ _ h => h)))
          have HR20 := Lib.hid (Kd.R_below HR.out (fr_below H20.out))
          clear xi yi zi
          by_cases hzz : z ≥ 0
          · have HFT := Lib.hid (HWH.out.1 hzz)
            go_wp2_with (first | ((with_reducible refine gate_builtin (b := .append) (xs := #[.tmp 170, .tmp 178]) rfl ?_); at_builtin; refine Kd.R_append (Kd.int .i64) (w0 := wo) wo.heap.size rfl (.tmp 170) (.tmp 178) 26 3 (.int .i64 0) 8 rfl Tryd.underlying26 inf_3 rfl (by decide) (by omega) _ ys x [.int .i64 x] (fun b => wo.heap.size ≤ b) (fun _ => False) rfl rfl ?aP (fun _ hk => hk.elim) ?aF ?aO ?aB ?aS ?aL ?_; (case aP => exact rfl); (case aB => exact HB20.out); (case aF => exact (fun k hk => Nat.le_trans HB20.out.size hk)); (case aO => exact HR20.out); (case aS => exact HB20.out.size); (case aL => have := HYL.out; omega); intro v104 w6 ho hb hg hat))
            go_roundw
            case rel => exact ⟨i + 1, by omega, by go_num, by rw [HTF.out, if_pos HFT.out]; exact ho, hb⟩
            case measure => simp [intOf]; omega
          · have HFT := Lib.hid (show ¬ rq.contains x = true from fun h => hzz (HWH.out.2 h))
            go_wp2
            go_roundw
            case rel => exact ⟨i + 1, by omega, by go_num, by rw [HTF.out, if_neg HFT.out, List.append_nil]; exact HR20.out, HB20.out⟩
            case measure => simp [intOf]; omega
        · obtain rfl : i = r.length := by omega
          have hle' : ¬ ((r.length : Int) < r.length) := by omega
          rw [List.take_length] at hR
          have HYL := Lib.hid (show (r.filter (fun x => rq.contains x)).length ≤ 5 by have := List.length_filter_le (fun x => rq.contains x) r; omega)
          generalize r.filter (fun x => rq.contains x) = ys at *
          obtain ⟨A18, c18, rfl, hcl, -⟩ := Kd.R_reads hR
          have HFK := Lib.hid (Kd.FK_slice_mk (e := 3) hcl (Kd.R_F hR))
          have HN2 := Lib.hid (Kd.N_below HN.out hbi)
          have HB2 := Lib.hid (HBW.out.trans (hbi.mono HBW.out.size))
          clear hR hbi
          go_wp2_with (first | ((with_reducible refine gate_builtin (b := .append) (xs := #[.tmp 180, .tmp 182]) rfl ?_); at_builtin; refine Kd.N_append (Kd.slice 3 (Kd.int .i64)) (w0 := w11) w11.heap.size rfl (.tmp 180) (.tmp 182) 39 26 (.slice none 0 0) 24 rfl Tryd.underlying39 inf_26 rfl (by decide) (by omega) _ xs ys [.slice A18 ys.length c18] (fun b => w11.heap.size ≤ b) (fun b => wo.heap.size ≤ b) rfl rfl ?aP ?aK ?aF ?aO ?aB ?aS ?aL ?_; (case aP => exact HFK.out); (case aK => exact fun k hk => ⟨Nat.le_trans HBW.out.size hk, fun h => by have := HOWN.out k h.symm; omega⟩); (case aF => exact fun k hk => Nat.le_trans HB2.out.size hk); (case aO => exact HN2.out); (case aB => exact HB2.out); (case aS => exact HB2.out.size); (case aL => have := HXL.out; omega); intro v105 w7 ho hb hg hat))
          go_roundw
          case rel => exact ⟨k + 1, by omega, by go_num, by rw [HBT.out]; exact ho, hb⟩
          case measure => simp [intOf]; omega
    · obtain rfl : k = m := by omega
      have hle' : ¬ ((k : Int) < k) := by omega
      obtain ⟨Ab, cb, rfl⟩ := Kd.N_slice hN
      have hrd := Kd.N_reads' hN
      have HCB := Lib.hid hrd.2.2
      have hcb := hrd.2.1
      have HBO := Lib.hid hbo
      generalize bothR p q k = bo at *
      have hfw : Fr0 w11 wo := Go.Proofs.YtephecfapclgfaaDoor.X.Fr.of_below hbw
      have HFW := Lib.hid hfw
      have HU2 := Lib.hid (HW2.out.fr0 hfw)
      have v0 := HU2.out.at_ 0 (v := .int .i64 g) rfl
      have v1 := HU2.out.at_ 1 (v := .slice A l.length c) rfl
      clear hN hbw hrd hfw hbo p0 p1 p2 p3
      go_upto_region 24 with (first
        | (go_at_call 27; refine (places27 (HB.out.fr (Fr0.trans HF12.out HFW.out)) HCB.out hcb hPL).mono ?_; rintro e w23 ⟨AL, cL, rfl, hCL, hcL, hf23⟩; (have HCL := Lib.hid hCL); clear hCL; (have HF23 := Lib.hid hf23); clear hf23))
      have hfx : Fr0 w11 w23 := Fr0.trans HFW.out HF23.out
      have HFX := Lib.hid (Fr0.trans HF12.out hfx)
      have HV2 := Lib.hid (HW2.out.fr0 hfx)
      have HV3 := Lib.hid (HW3.out.fr0 hfx)
      have HV7 := Lib.hid (HW7.out.fr0 hfx)
      have HV8 := Lib.hid (HW8.out.fr0 hfx)
      clear v0 v1 hfx
      have v0 := HV2.out.at_ 0 (v := .int .i64 g) rfl
      have v1 := HV2.out.at_ 1 (v := .slice A l.length c) rfl
      have v2 := HV3.out.at_ 2 (v := .int .i64 n2) rfl
      have H0 := Lib.hid (Fr.drew (Fr.refl (fun _ => False) w23))
      refine start_ (n := 17) (S := fun w' => w'.cell? ⟨w.heap.size, 0, none⟩ = some (.int .i64 g) ∧ w'.cell? ⟨w.heap.size, 1, none⟩ = some (.slice A l.length c) ∧ w'.cell? ⟨w.heap.size + 1, 2, none⟩ = some (.int .i64 n2)) (ds := [15]) #[false, false, false, false, false, false, false, false, false, false, false, false, false, false, false, false, false] (by kernel_rfl) rfl rfl ⟨v0, v1, v2⟩ (fun hHeld => ?_)
      refine pure_ (i := 1) (N := some 193) (v := ?_) (a' := ?_) #[false, true, false, false, false, false, false, false, false, false, false, false, false, false, false, false, false] rfl rfl (by kernel_rfl) (fun _ _ _ h => h) (Or.inl ⟨by rfl, ?_⟩) ?_ ?_
      rotate_left
      · intro w'
        go_simp
        with_reducible rfl
      rotate_left
      · simp only [Act.put, List.setIfInBounds_toArray, List.set_cons_zero, List.set_cons_succ, i64_w, i32_w]
        rfl
      refine pure_ (i := 2) (N := some 194) (v := ?_) (a' := ?_) #[false, true, true, false, false, false, false, false, false, false, false, false, false, false, false, false, false] rfl rfl (by kernel_rfl) (fun _ _ _ h => h) (Or.inl ⟨by rfl, ?_⟩) ?_ ?_
      rotate_left
      · intro w'
        go_simp
        with_reducible rfl
      rotate_left
      · simp only [Act.put, List.setIfInBounds_toArray, List.set_cons_zero, List.set_cons_succ, i64_w, i32_w]
        rfl
      refine pure_ (i := 4) (N := some 196) (v := ?_) (a' := ?_) #[false, true, true, false, true, false, false, false, false, false, false, false, false, false, false, false, false] rfl rfl (by kernel_rfl) (fun _ _ _ h => h) (Or.inl ⟨by rfl, ?_⟩) ?_ ?_
      rotate_left
      · intro w'
        go_simp
        with_reducible rfl
      rotate_left
      · simp only [Act.put, List.setIfInBounds_toArray, List.set_cons_zero, List.set_cons_succ, i64_w, i32_w]
        rfl
      refine take_ (i := 0) (N := some 192) (v := ?_) (a' := ?_) #[true, true, true, false, true, false, false, false, false, false, false, false, false, false, false, false, false] rfl rfl (by kernel_rfl) (fun _ _ _ h => h) (Or.inl ⟨by rfl, ?_⟩) hHeld ?_ ?_
      rotate_left
      · rintro w' ⟨s0, s1, s2⟩
        go_simp
        with_reducible rfl
      rotate_left
      · simp only [Act.put, List.setIfInBounds_toArray, List.set_cons_zero, List.set_cons_succ, i64_w, i32_w]
        rfl
      refine take_ (i := 3) (N := some 195) (v := ?_) (a' := ?_) #[true, true, true, true, true, false, false, false, false, false, false, false, false, false, false, false, false] rfl rfl (by kernel_rfl) (fun _ _ _ h => h) (Or.inl ⟨by rfl, ?_⟩) hHeld ?_ ?_
      rotate_left
      · rintro w' ⟨s0, s1, s2⟩
        go_simp
        with_reducible rfl
      rotate_left
      · simp only [Act.put, List.setIfInBounds_toArray, List.set_cons_zero, List.set_cons_succ, i64_w, i32_w]
        rfl
      refine join_ (σ := Nat × Nat) 3 #[true, true, true, true, true, true, true, true, true, true, true, true, true, true, false, false, false] (fun s => [(197, .int .i64 (n2 % (k : Int))), (198, .int .i64 (wrap64 (1 + n2 % (k : Int)))), (199, .tuple #[.agg #[.int .i64 e0, .int .i64 e1], .agg #[.int .i64 e2, .int .i64 e3], .int .i64 0]), (191, .tuple #[.agg #[.int .i64 e0, .int .i64 e1], .agg #[.int .i64 e2, .int .i64 e3], .int .i64 0]), (200, .agg #[.int .i64 e0, .int .i64 e1]), (201, .agg #[.int .i64 e2, .int .i64 e3]), (202, .int .i64 0), (22, .pointer (some ⟨s.1, 0, none⟩)), (23, .pointer (some ⟨s.2, 0, none⟩))]) (fun s w' => ((w'.cell? ⟨w.heap.size, 0, none⟩ = some (.int .i64 g)) ∧ (w'.cell? ⟨w.heap.size, 1, none⟩ = some (.slice A l.length c)) ∧ (w'.cell? ⟨w.heap.size + 1, 2, none⟩ = some (.int .i64 n2))) ∧ FkP w23 s.1 s.2 w') ?_ ?_
      rotate_left
      · intro hCont
        refine three_ (i := 5) (j := 12) (k := 13) (Ni := some 197) (Nj := some 22) (Nk := some 23) #[true, true, true, true, true, true, false, false, false, false, false, false, false, false, false, false, false] #[true, true, true, true, true, false, false, false, false, false, false, false, true, false, false, false, false] #[true, true, true, true, true, false, false, false, false, false, false, false, false, true, false, false, false] rfl rfl rfl rfl rfl rfl (by kernel_rfl) (by decide) (by decide) (by decide) (fun K hK => ?_) (fun K hK => ?_) (fun K hK => ?_)
        · skip
          refine goes_ Tryd.func40 (by kernel_rfl) rfl #[.int .i64 n2, .int .i64 (k : Int)] (by rfl) rfl rfl (by simp only [List.map_toArray, List.map_cons, List.map_nil]; rfl) ?_
          with_reducible refine (HTM.out _).mono ?_
          rintro e w3_0 ⟨rfl, hf0⟩
          refine ⟨_, rfl, ?_⟩
          have H1 := Lib.hid (Fr0.trans H0.out hf0)
          refine hK.out _ _ ⟨(H1.out.cell0 v0), (H1.out.cell0 v1), (H1.out.cell0 v2)⟩ (fun hHeld => ?_)
          clear hK K
          refine norm_ (a' := ?_) ?_ ?_
          rotate_left
          · show Act.put _ (some 197) _ = _
            simp only [Act.put, List.setIfInBounds_toArray, List.set_cons_zero, List.set_cons_succ, i64_w, i32_w]
            rfl
          refine pure_ (i := 6) (N := some 198) (v := ?_) (a' := ?_) #[true, true, true, true, true, true, true, false, false, false, false, false, false, false, false, false, false] rfl rfl (by kernel_rfl) (fun _ _ _ h => h) (Or.inl ⟨by rfl, ?_⟩) ?_ ?_
          rotate_left
          · intro w'
            go_simp
            with_reducible rfl
          rotate_left
          · simp only [Act.put, List.setIfInBounds_toArray, List.set_cons_zero, List.set_cons_succ, i64_w, i32_w]
            rfl
          refine three_ (i := 7) (j := 12) (k := 13) (Ni := some 199) (Nj := some 22) (Nk := some 23) #[true, true, true, true, true, true, true, true, false, false, false, false, false, false, false, false, false] #[true, true, true, true, true, true, true, false, false, false, false, false, true, false, false, false, false] #[true, true, true, true, true, true, true, false, false, false, false, false, false, true, false, false, false] rfl rfl rfl rfl rfl rfl (by kernel_rfl) (by decide) (by decide) (by decide) (fun K hK => ?_) (fun K hK => ?_) (fun K hK => ?_)
          · skip
            refine goes_ Tryd.func35 (by kernel_rfl) rfl #[.agg #[.int .i64 g, .slice A l.length c], .int .i64 lost, .int .i64 (wrap64 (1 + n2 % (k : Int)))] (by rfl) rfl rfl (by simp only [List.map_toArray, List.map_cons, List.map_nil]; rfl) ?_
            with_reducible refine (HCF.out _ (Fr0.trans HFX.out H1.out)).mono ?_
            rintro e w3_1 ⟨rfl, hf1⟩
            refine ⟨_, rfl, ?_⟩
            have H2 := Lib.hid (Fr0.trans H1.out hf1)
            refine hK.out _ _ ⟨(H2.out.cell0 v0), (H2.out.cell0 v1), (H2.out.cell0 v2)⟩ (fun hHeld => ?_)
            clear hK K
            refine norm_ (a' := ?_) ?_ ?_
            rotate_left
            · show Act.put _ (some 199) _ = _
              simp only [Act.put, List.setIfInBounds_toArray, List.set_cons_zero, List.set_cons_succ, i64_w, i32_w]
              rfl
            refine pure_ (i := 8) (N := some 191) (v := ?_) (a' := ?_) #[true, true, true, true, true, true, true, true, true, false, false, false, false, false, false, false, false] rfl rfl (by kernel_rfl) (fun _ _ _ h => h) (Or.inl ⟨by rfl, ?_⟩) ?_ ?_
            rotate_left
            · intro w'
              go_simp
              with_reducible rfl
            rotate_left
            · simp only [Act.put, List.setIfInBounds_toArray, List.set_cons_zero, List.set_cons_succ, i64_w, i32_w]
              rfl
            refine pure_ (i := 9) (N := some 200) (v := ?_) (a' := ?_) #[true, true, true, true, true, true, true, true, true, true, false, false, false, false, false, false, false] rfl rfl (by kernel_rfl) (fun _ _ _ h => h) (Or.inl ⟨by rfl, ?_⟩) ?_ ?_
            rotate_left
            · intro w'
              go_simp
              with_reducible rfl
            rotate_left
            · simp only [Act.put, List.setIfInBounds_toArray, List.set_cons_zero, List.set_cons_succ, i64_w, i32_w]
              rfl
            refine pure_ (i := 10) (N := some 201) (v := ?_) (a' := ?_) #[true, true, true, true, true, true, true, true, true, true, true, false, false, false, false, false, false] rfl rfl (by kernel_rfl) (fun _ _ _ h => h) (Or.inl ⟨by rfl, ?_⟩) ?_ ?_
            rotate_left
            · intro w'
              go_simp
              with_reducible rfl
            rotate_left
            · simp only [Act.put, List.setIfInBounds_toArray, List.set_cons_zero, List.set_cons_succ, i64_w, i32_w]
              rfl
            refine pure_ (i := 11) (N := some 202) (v := ?_) (a' := ?_) #[true, true, true, true, true, true, true, true, true, true, true, true, false, false, false, false, false] rfl rfl (by kernel_rfl) (fun _ _ _ h => h) (Or.inl ⟨by rfl, ?_⟩) ?_ ?_
            rotate_left
            · intro w'
              go_simp
              with_reducible rfl
            rotate_left
            · simp only [Act.put, List.setIfInBounds_toArray, List.set_cons_zero, List.set_cons_succ, i64_w, i32_w]
              rfl
            refine two_ (i := 12) (j := 13) (Ni := some 22) (Nj := some 23) #[true, true, true, true, true, true, true, true, true, true, true, true, true, false, false, false, false] #[true, true, true, true, true, true, true, true, true, true, true, true, false, true, false, false, false] rfl rfl rfl rfl (by kernel_rfl) (by decide) (by decide) (fun K hK => ?_) (fun K hK => ?_)
            · skip
              refine value_ (w1 := ?_) (v := ?_) (by rfl) rfl ?_ ?_
              rotate_left 2
              · go_simp
                constructor
                · rfl
                · rfl
              have hx_ := Bx.new_at H2.out 38 #[.int .i64 0, .int .i64 0]
              have HX12 := Lib.hid hx_
              have hl_ := H2.out.size
              have HL12 := Lib.hid hl_
              clear hx_ hl_
              have H3 := Lib.hid (Fr0.trans H2.out (Fr.alloc (Fr.refl _ _) (.cells #[.int .i64 0, .int .i64 0] 38)))
              refine hK.out _ _ ⟨(H3.out.cell0 v0), (H3.out.cell0 v1), (H3.out.cell0 v2)⟩ (fun hHeld => ?_)
              clear hK K
              refine norm_ (a' := ?_) ?_ ?_
              rotate_left
              · show Act.put _ (some 22) _ = _
                simp only [Act.put, List.setIfInBounds_toArray, List.set_cons_zero, List.set_cons_succ, i64_w, i32_w]
                rfl
              refine one_ (i := 13) (N := some 23) #[true, true, true, true, true, true, true, true, true, true, true, true, true, true, false, false, false] rfl rfl (by kernel_rfl) (by decide) (fun K hK => ?_)
              refine value_ (w1 := ?_) (v := ?_) (by rfl) rfl ?_ ?_
              rotate_left 2
              · go_simp
                constructor
                · rfl
                · rfl
              have hx_ := Bx.new_at H3.out 38 #[.int .i64 0, .int .i64 0]
              rw [size_al] at hx_
              have HX13 := Lib.hid hx_
              have hl_ := H3.out.size
              rw [size_al] at hl_
              have HL13 := Lib.hid hl_
              have hn_ := HX12.out.lt
              rw [size_al] at hn_
              have HNE := Lib.hid (Nat.ne_of_lt hn_)
              have HX12 := Lib.hid (HX12.out.alloc (.cells #[.int .i64 0, .int .i64 0] 38))
              clear hn_
              clear hx_ hl_
              have H4 := Lib.hid (Fr0.trans H3.out (Fr.alloc (Fr.refl _ _) (.cells #[.int .i64 0, .int .i64 0] 38)))
              refine hK.out _ _ ⟨(H4.out.cell0 v0), (H4.out.cell0 v1), (H4.out.cell0 v2)⟩ (fun hHeld => ?_)
              clear hK K
              refine norm_ (a' := ?_) ?_ ?_
              rotate_left
              · show Act.put _ (some 23) _ = _
                simp only [Act.put, List.setIfInBounds_toArray, List.set_cons_zero, List.set_cons_succ, i64_w, i32_w]
                rfl
              exact norm_ (by (simp only [putAll, Act.put, List.setIfInBounds_toArray, List.set_cons_zero, List.set_cons_succ]) <;> rfl) (hCont (⟨_, _⟩ : Nat × Nat) _ ⟨⟨H4.out.cell0 v0, H4.out.cell0 v1, H4.out.cell0 v2⟩, ⟨H4.out, HX12.out, HX13.out, HL12.out, HL13.out, HNE.out⟩⟩)
            · skip
              refine value_ (w1 := ?_) (v := ?_) (by rfl) rfl ?_ ?_
              rotate_left 2
              · go_simp
                constructor
                · rfl
                · rfl
              have hx_ := Bx.new_at H2.out 38 #[.int .i64 0, .int .i64 0]
              have HX13 := Lib.hid hx_
              have hl_ := H2.out.size
              have HL13 := Lib.hid hl_
              clear hx_ hl_
              have H3 := Lib.hid (Fr0.trans H2.out (Fr.alloc (Fr.refl _ _) (.cells #[.int .i64 0, .int .i64 0] 38)))
              refine hK.out _ _ ⟨(H3.out.cell0 v0), (H3.out.cell0 v1), (H3.out.cell0 v2)⟩ (fun hHeld => ?_)
              clear hK K
              refine norm_ (a' := ?_) ?_ ?_
              rotate_left
              · show Act.put _ (some 23) _ = _
                simp only [Act.put, List.setIfInBounds_toArray, List.set_cons_zero, List.set_cons_succ, i64_w, i32_w]
                rfl
              refine one_ (i := 12) (N := some 22) #[true, true, true, true, true, true, true, true, true, true, true, true, true, true, false, false, false] rfl rfl (by kernel_rfl) (by decide) (fun K hK => ?_)
              refine value_ (w1 := ?_) (v := ?_) (by rfl) rfl ?_ ?_
              rotate_left 2
              · go_simp
                constructor
                · rfl
                · rfl
              have hx_ := Bx.new_at H3.out 38 #[.int .i64 0, .int .i64 0]
              rw [size_al] at hx_
              have HX12 := Lib.hid hx_
              have hl_ := H3.out.size
              rw [size_al] at hl_
              have HL12 := Lib.hid hl_
              have hn_ := HX13.out.lt
              rw [size_al] at hn_
              have HNE := Lib.hid (Nat.ne_of_gt hn_)
              have HX13 := Lib.hid (HX13.out.alloc (.cells #[.int .i64 0, .int .i64 0] 38))
              clear hn_
              clear hx_ hl_
              have H4 := Lib.hid (Fr0.trans H3.out (Fr.alloc (Fr.refl _ _) (.cells #[.int .i64 0, .int .i64 0] 38)))
              refine hK.out _ _ ⟨(H4.out.cell0 v0), (H4.out.cell0 v1), (H4.out.cell0 v2)⟩ (fun hHeld => ?_)
              clear hK K
              refine norm_ (a' := ?_) ?_ ?_
              rotate_left
              · show Act.put _ (some 22) _ = _
                simp only [Act.put, List.setIfInBounds_toArray, List.set_cons_zero, List.set_cons_succ, i64_w, i32_w]
                rfl
              exact norm_ (by (simp only [putAll, Act.put, List.setIfInBounds_toArray, List.set_cons_zero, List.set_cons_succ]) <;> rfl) (hCont (⟨_, _⟩ : Nat × Nat) _ ⟨⟨H4.out.cell0 v0, H4.out.cell0 v1, H4.out.cell0 v2⟩, ⟨H4.out, HX12.out, HX13.out, HL12.out, HL13.out, HNE.out⟩⟩)
          · skip
            refine value_ (w1 := ?_) (v := ?_) (by rfl) rfl ?_ ?_
            rotate_left 2
            · go_simp
              constructor
              · rfl
              · rfl
            have hx_ := Bx.new_at H1.out 38 #[.int .i64 0, .int .i64 0]
            have HX12 := Lib.hid hx_
            have hl_ := H1.out.size
            have HL12 := Lib.hid hl_
            clear hx_ hl_
            have H2 := Lib.hid (Fr0.trans H1.out (Fr.alloc (Fr.refl _ _) (.cells #[.int .i64 0, .int .i64 0] 38)))
            refine hK.out _ _ ⟨(H2.out.cell0 v0), (H2.out.cell0 v1), (H2.out.cell0 v2)⟩ (fun hHeld => ?_)
            clear hK K
            refine norm_ (a' := ?_) ?_ ?_
            rotate_left
            · show Act.put _ (some 22) _ = _
              simp only [Act.put, List.setIfInBounds_toArray, List.set_cons_zero, List.set_cons_succ, i64_w, i32_w]
              rfl
            refine two_ (i := 7) (j := 13) (Ni := some 199) (Nj := some 23) #[true, true, true, true, true, true, true, true, false, false, false, false, true, false, false, false, false] #[true, true, true, true, true, true, true, false, false, false, false, false, true, true, false, false, false] rfl rfl rfl rfl (by kernel_rfl) (by decide) (by decide) (fun K hK => ?_) (fun K hK => ?_)
            · skip
              refine goes_ Tryd.func35 (by kernel_rfl) rfl #[.agg #[.int .i64 g, .slice A l.length c], .int .i64 lost, .int .i64 (wrap64 (1 + n2 % (k : Int)))] (by rfl) rfl rfl (by simp only [List.map_toArray, List.map_cons, List.map_nil]; rfl) ?_
              with_reducible refine (HCF.out _ (Fr0.trans HFX.out H2.out)).mono ?_
              rintro e w3_2 ⟨rfl, hf2⟩
              refine ⟨_, rfl, ?_⟩
              have H3 := Lib.hid (Fr0.trans H2.out hf2)
              have HX12 := Lib.hid (HX12.out.fr0 hf2)
              refine hK.out _ _ ⟨(H3.out.cell0 v0), (H3.out.cell0 v1), (H3.out.cell0 v2)⟩ (fun hHeld => ?_)
              clear hK K
              refine norm_ (a' := ?_) ?_ ?_
              rotate_left
              · show Act.put _ (some 199) _ = _
                simp only [Act.put, List.setIfInBounds_toArray, List.set_cons_zero, List.set_cons_succ, i64_w, i32_w]
                rfl
              refine pure_ (i := 8) (N := some 191) (v := ?_) (a' := ?_) #[true, true, true, true, true, true, true, true, true, false, false, false, true, false, false, false, false] rfl rfl (by kernel_rfl) (fun _ _ _ h => h) (Or.inl ⟨by rfl, ?_⟩) ?_ ?_
              rotate_left
              · intro w'
                go_simp
                with_reducible rfl
              rotate_left
              · simp only [Act.put, List.setIfInBounds_toArray, List.set_cons_zero, List.set_cons_succ, i64_w, i32_w]
                rfl
              refine pure_ (i := 9) (N := some 200) (v := ?_) (a' := ?_) #[true, true, true, true, true, true, true, true, true, true, false, false, true, false, false, false, false] rfl rfl (by kernel_rfl) (fun _ _ _ h => h) (Or.inl ⟨by rfl, ?_⟩) ?_ ?_
              rotate_left
              · intro w'
                go_simp
                with_reducible rfl
              rotate_left
              · simp only [Act.put, List.setIfInBounds_toArray, List.set_cons_zero, List.set_cons_succ, i64_w, i32_w]
                rfl
              refine pure_ (i := 10) (N := some 201) (v := ?_) (a' := ?_) #[true, true, true, true, true, true, true, true, true, true, true, false, true, false, false, false, false] rfl rfl (by kernel_rfl) (fun _ _ _ h => h) (Or.inl ⟨by rfl, ?_⟩) ?_ ?_
              rotate_left
              · intro w'
                go_simp
                with_reducible rfl
              rotate_left
              · simp only [Act.put, List.setIfInBounds_toArray, List.set_cons_zero, List.set_cons_succ, i64_w, i32_w]
                rfl
              refine pure_ (i := 11) (N := some 202) (v := ?_) (a' := ?_) #[true, true, true, true, true, true, true, true, true, true, true, true, true, false, false, false, false] rfl rfl (by kernel_rfl) (fun _ _ _ h => h) (Or.inl ⟨by rfl, ?_⟩) ?_ ?_
              rotate_left
              · intro w'
                go_simp
                with_reducible rfl
              rotate_left
              · simp only [Act.put, List.setIfInBounds_toArray, List.set_cons_zero, List.set_cons_succ, i64_w, i32_w]
                rfl
              refine one_ (i := 13) (N := some 23) #[true, true, true, true, true, true, true, true, true, true, true, true, true, true, false, false, false] rfl rfl (by kernel_rfl) (by decide) (fun K hK => ?_)
              refine value_ (w1 := ?_) (v := ?_) (by rfl) rfl ?_ ?_
              rotate_left 2
              · go_simp
                constructor
                · rfl
                · rfl
              have hx_ := Bx.new_at H3.out 38 #[.int .i64 0, .int .i64 0]
              have HX13 := Lib.hid hx_
              have hl_ := H3.out.size
              have HL13 := Lib.hid hl_
              have hn_ := HX12.out.lt
              have HNE := Lib.hid (Nat.ne_of_lt hn_)
              have HX12 := Lib.hid (HX12.out.alloc (.cells #[.int .i64 0, .int .i64 0] 38))
              clear hn_
              clear hx_ hl_
              have H4 := Lib.hid (Fr0.trans H3.out (Fr.alloc (Fr.refl _ _) (.cells #[.int .i64 0, .int .i64 0] 38)))
              refine hK.out _ _ ⟨(H4.out.cell0 v0), (H4.out.cell0 v1), (H4.out.cell0 v2)⟩ (fun hHeld => ?_)
              clear hK K
              refine norm_ (a' := ?_) ?_ ?_
              rotate_left
              · show Act.put _ (some 23) _ = _
                simp only [Act.put, List.setIfInBounds_toArray, List.set_cons_zero, List.set_cons_succ, i64_w, i32_w]
                rfl
              exact norm_ (by (simp only [putAll, Act.put, List.setIfInBounds_toArray, List.set_cons_zero, List.set_cons_succ]) <;> rfl) (hCont (⟨_, _⟩ : Nat × Nat) _ ⟨⟨H4.out.cell0 v0, H4.out.cell0 v1, H4.out.cell0 v2⟩, ⟨H4.out, HX12.out, HX13.out, HL12.out, HL13.out, HNE.out⟩⟩)
            · skip
              refine value_ (w1 := ?_) (v := ?_) (by rfl) rfl ?_ ?_
              rotate_left 2
              · go_simp
                constructor
                · rfl
                · rfl
              have hx_ := Bx.new_at H2.out 38 #[.int .i64 0, .int .i64 0]
              rw [size_al] at hx_
              have HX13 := Lib.hid hx_
              have hl_ := H2.out.size
              rw [size_al] at hl_
              have HL13 := Lib.hid hl_
              have hn_ := HX12.out.lt
              rw [size_al] at hn_
              have HNE := Lib.hid (Nat.ne_of_lt hn_)
              have HX12 := Lib.hid (HX12.out.alloc (.cells #[.int .i64 0, .int .i64 0] 38))
              clear hn_
              clear hx_ hl_
              have H3 := Lib.hid (Fr0.trans H2.out (Fr.alloc (Fr.refl _ _) (.cells #[.int .i64 0, .int .i64 0] 38)))
              refine hK.out _ _ ⟨(H3.out.cell0 v0), (H3.out.cell0 v1), (H3.out.cell0 v2)⟩ (fun hHeld => ?_)
              clear hK K
              refine norm_ (a' := ?_) ?_ ?_
              rotate_left
              · show Act.put _ (some 23) _ = _
                simp only [Act.put, List.setIfInBounds_toArray, List.set_cons_zero, List.set_cons_succ, i64_w, i32_w]
                rfl
              refine one_ (i := 7) (N := some 199) #[true, true, true, true, true, true, true, true, false, false, false, false, true, true, false, false, false] rfl rfl (by kernel_rfl) (by decide) (fun K hK => ?_)
              refine goes_ Tryd.func35 (by kernel_rfl) rfl #[.agg #[.int .i64 g, .slice A l.length c], .int .i64 lost, .int .i64 (wrap64 (1 + n2 % (k : Int)))] (by rfl) rfl rfl (by simp only [List.map_toArray, List.map_cons, List.map_nil]; rfl) ?_
              with_reducible refine (HCF.out _ (Fr0.trans HFX.out H3.out)).mono ?_
              rintro e w3_3 ⟨rfl, hf3⟩
              refine ⟨_, rfl, ?_⟩
              have H4 := Lib.hid (Fr0.trans H3.out hf3)
              have HX12 := Lib.hid (HX12.out.fr0 hf3)
              have HX13 := Lib.hid (HX13.out.fr0 hf3)
              refine hK.out _ _ ⟨(H4.out.cell0 v0), (H4.out.cell0 v1), (H4.out.cell0 v2)⟩ (fun hHeld => ?_)
              clear hK K
              refine norm_ (a' := ?_) ?_ ?_
              rotate_left
              · show Act.put _ (some 199) _ = _
                simp only [Act.put, List.setIfInBounds_toArray, List.set_cons_zero, List.set_cons_succ, i64_w, i32_w]
                rfl
              refine pure_ (i := 8) (N := some 191) (v := ?_) (a' := ?_) #[true, true, true, true, true, true, true, true, true, false, false, false, true, true, false, false, false] rfl rfl (by kernel_rfl) (fun _ _ _ h => h) (Or.inl ⟨by rfl, ?_⟩) ?_ ?_
              rotate_left
              · intro w'
                go_simp
                with_reducible rfl
              rotate_left
              · simp only [Act.put, List.setIfInBounds_toArray, List.set_cons_zero, List.set_cons_succ, i64_w, i32_w]
                rfl
              refine pure_ (i := 9) (N := some 200) (v := ?_) (a' := ?_) #[true, true, true, true, true, true, true, true, true, true, false, false, true, true, false, false, false] rfl rfl (by kernel_rfl) (fun _ _ _ h => h) (Or.inl ⟨by rfl, ?_⟩) ?_ ?_
              rotate_left
              · intro w'
                go_simp
                with_reducible rfl
              rotate_left
              · simp only [Act.put, List.setIfInBounds_toArray, List.set_cons_zero, List.set_cons_succ, i64_w, i32_w]
                rfl
              refine pure_ (i := 10) (N := some 201) (v := ?_) (a' := ?_) #[true, true, true, true, true, true, true, true, true, true, true, false, true, true, false, false, false] rfl rfl (by kernel_rfl) (fun _ _ _ h => h) (Or.inl ⟨by rfl, ?_⟩) ?_ ?_
              rotate_left
              · intro w'
                go_simp
                with_reducible rfl
              rotate_left
              · simp only [Act.put, List.setIfInBounds_toArray, List.set_cons_zero, List.set_cons_succ, i64_w, i32_w]
                rfl
              refine pure_ (i := 11) (N := some 202) (v := ?_) (a' := ?_) #[true, true, true, true, true, true, true, true, true, true, true, true, true, true, false, false, false] rfl rfl (by kernel_rfl) (fun _ _ _ h => h) (Or.inl ⟨by rfl, ?_⟩) ?_ ?_
              rotate_left
              · intro w'
                go_simp
                with_reducible rfl
              rotate_left
              · simp only [Act.put, List.setIfInBounds_toArray, List.set_cons_zero, List.set_cons_succ, i64_w, i32_w]
                rfl
              exact norm_ (by (simp only [putAll, Act.put, List.setIfInBounds_toArray, List.set_cons_zero, List.set_cons_succ]) <;> rfl) (hCont (⟨_, _⟩ : Nat × Nat) _ ⟨⟨H4.out.cell0 v0, H4.out.cell0 v1, H4.out.cell0 v2⟩, ⟨H4.out, HX12.out, HX13.out, HL12.out, HL13.out, HNE.out⟩⟩)
          · skip
            refine value_ (w1 := ?_) (v := ?_) (by rfl) rfl ?_ ?_
            rotate_left 2
            · go_simp
              constructor
              · rfl
              · rfl
            have hx_ := Bx.new_at H1.out 38 #[.int .i64 0, .int .i64 0]
            have HX13 := Lib.hid hx_
            have hl_ := H1.out.size
            have HL13 := Lib.hid hl_
            clear hx_ hl_
            have H2 := Lib.hid (Fr0.trans H1.out (Fr.alloc (Fr.refl _ _) (.cells #[.int .i64 0, .int .i64 0] 38)))
            refine hK.out _ _ ⟨(H2.out.cell0 v0), (H2.out.cell0 v1), (H2.out.cell0 v2)⟩ (fun hHeld => ?_)
            clear hK K
            refine norm_ (a' := ?_) ?_ ?_
            rotate_left
            · show Act.put _ (some 23) _ = _
              simp only [Act.put, List.setIfInBounds_toArray, List.set_cons_zero, List.set_cons_succ, i64_w, i32_w]
              rfl
            refine two_ (i := 7) (j := 12) (Ni := some 199) (Nj := some 22) #[true, true, true, true, true, true, true, true, false, false, false, false, false, true, false, false, false] #[true, true, true, true, true, true, true, false, false, false, false, false, true, true, false, false, false] rfl rfl rfl rfl (by kernel_rfl) (by decide) (by decide) (fun K hK => ?_) (fun K hK => ?_)
            · skip
              refine goes_ Tryd.func35 (by kernel_rfl) rfl #[.agg #[.int .i64 g, .slice A l.length c], .int .i64 lost, .int .i64 (wrap64 (1 + n2 % (k : Int)))] (by rfl) rfl rfl (by simp only [List.map_toArray, List.map_cons, List.map_nil]; rfl) ?_
              with_reducible refine (HCF.out _ (Fr0.trans HFX.out H2.out)).mono ?_
              rintro e w3_2 ⟨rfl, hf2⟩
              refine ⟨_, rfl, ?_⟩
              have H3 := Lib.hid (Fr0.trans H2.out hf2)
              have HX13 := Lib.hid (HX13.out.fr0 hf2)
              refine hK.out _ _ ⟨(H3.out.cell0 v0), (H3.out.cell0 v1), (H3.out.cell0 v2)⟩ (fun hHeld => ?_)
              clear hK K
              refine norm_ (a' := ?_) ?_ ?_
              rotate_left
              · show Act.put _ (some 199) _ = _
                simp only [Act.put, List.setIfInBounds_toArray, List.set_cons_zero, List.set_cons_succ, i64_w, i32_w]
                rfl
              refine pure_ (i := 8) (N := some 191) (v := ?_) (a' := ?_) #[true, true, true, true, true, true, true, true, true, false, false, false, false, true, false, false, false] rfl rfl (by kernel_rfl) (fun _ _ _ h => h) (Or.inl ⟨by rfl, ?_⟩) ?_ ?_
              rotate_left
              · intro w'
                go_simp
                with_reducible rfl
              rotate_left
              · simp only [Act.put, List.setIfInBounds_toArray, List.set_cons_zero, List.set_cons_succ, i64_w, i32_w]
                rfl
              refine pure_ (i := 9) (N := some 200) (v := ?_) (a' := ?_) #[true, true, true, true, true, true, true, true, true, true, false, false, false, true, false, false, false] rfl rfl (by kernel_rfl) (fun _ _ _ h => h) (Or.inl ⟨by rfl, ?_⟩) ?_ ?_
              rotate_left
              · intro w'
                go_simp
                with_reducible rfl
              rotate_left
              · simp only [Act.put, List.setIfInBounds_toArray, List.set_cons_zero, List.set_cons_succ, i64_w, i32_w]
                rfl
              refine pure_ (i := 10) (N := some 201) (v := ?_) (a' := ?_) #[true, true, true, true, true, true, true, true, true, true, true, false, false, true, false, false, false] rfl rfl (by kernel_rfl) (fun _ _ _ h => h) (Or.inl ⟨by rfl, ?_⟩) ?_ ?_
              rotate_left
              · intro w'
                go_simp
                with_reducible rfl
              rotate_left
              · simp only [Act.put, List.setIfInBounds_toArray, List.set_cons_zero, List.set_cons_succ, i64_w, i32_w]
                rfl
              refine pure_ (i := 11) (N := some 202) (v := ?_) (a' := ?_) #[true, true, true, true, true, true, true, true, true, true, true, true, false, true, false, false, false] rfl rfl (by kernel_rfl) (fun _ _ _ h => h) (Or.inl ⟨by rfl, ?_⟩) ?_ ?_
              rotate_left
              · intro w'
                go_simp
                with_reducible rfl
              rotate_left
              · simp only [Act.put, List.setIfInBounds_toArray, List.set_cons_zero, List.set_cons_succ, i64_w, i32_w]
                rfl
              refine one_ (i := 12) (N := some 22) #[true, true, true, true, true, true, true, true, true, true, true, true, true, true, false, false, false] rfl rfl (by kernel_rfl) (by decide) (fun K hK => ?_)
              refine value_ (w1 := ?_) (v := ?_) (by rfl) rfl ?_ ?_
              rotate_left 2
              · go_simp
                constructor
                · rfl
                · rfl
              have hx_ := Bx.new_at H3.out 38 #[.int .i64 0, .int .i64 0]
              have HX12 := Lib.hid hx_
              have hl_ := H3.out.size
              have HL12 := Lib.hid hl_
              have hn_ := HX13.out.lt
              have HNE := Lib.hid (Nat.ne_of_gt hn_)
              have HX13 := Lib.hid (HX13.out.alloc (.cells #[.int .i64 0, .int .i64 0] 38))
              clear hn_
              clear hx_ hl_
              have H4 := Lib.hid (Fr0.trans H3.out (Fr.alloc (Fr.refl _ _) (.cells #[.int .i64 0, .int .i64 0] 38)))
              refine hK.out _ _ ⟨(H4.out.cell0 v0), (H4.out.cell0 v1), (H4.out.cell0 v2)⟩ (fun hHeld => ?_)
              clear hK K
              refine norm_ (a' := ?_) ?_ ?_
              rotate_left
              · show Act.put _ (some 22) _ = _
                simp only [Act.put, List.setIfInBounds_toArray, List.set_cons_zero, List.set_cons_succ, i64_w, i32_w]
                rfl
              exact norm_ (by (simp only [putAll, Act.put, List.setIfInBounds_toArray, List.set_cons_zero, List.set_cons_succ]) <;> rfl) (hCont (⟨_, _⟩ : Nat × Nat) _ ⟨⟨H4.out.cell0 v0, H4.out.cell0 v1, H4.out.cell0 v2⟩, ⟨H4.out, HX12.out, HX13.out, HL12.out, HL13.out, HNE.out⟩⟩)
            · skip
              refine value_ (w1 := ?_) (v := ?_) (by rfl) rfl ?_ ?_
              rotate_left 2
              · go_simp
                constructor
                · rfl
                · rfl
              have hx_ := Bx.new_at H2.out 38 #[.int .i64 0, .int .i64 0]
              rw [size_al] at hx_
              have HX12 := Lib.hid hx_
              have hl_ := H2.out.size
              rw [size_al] at hl_
              have HL12 := Lib.hid hl_
              have hn_ := HX13.out.lt
              rw [size_al] at hn_
              have HNE := Lib.hid (Nat.ne_of_gt hn_)
              have HX13 := Lib.hid (HX13.out.alloc (.cells #[.int .i64 0, .int .i64 0] 38))
              clear hn_
              clear hx_ hl_
              have H3 := Lib.hid (Fr0.trans H2.out (Fr.alloc (Fr.refl _ _) (.cells #[.int .i64 0, .int .i64 0] 38)))
              refine hK.out _ _ ⟨(H3.out.cell0 v0), (H3.out.cell0 v1), (H3.out.cell0 v2)⟩ (fun hHeld => ?_)
              clear hK K
              refine norm_ (a' := ?_) ?_ ?_
              rotate_left
              · show Act.put _ (some 22) _ = _
                simp only [Act.put, List.setIfInBounds_toArray, List.set_cons_zero, List.set_cons_succ, i64_w, i32_w]
                rfl
              refine one_ (i := 7) (N := some 199) #[true, true, true, true, true, true, true, true, false, false, false, false, true, true, false, false, false] rfl rfl (by kernel_rfl) (by decide) (fun K hK => ?_)
              refine goes_ Tryd.func35 (by kernel_rfl) rfl #[.agg #[.int .i64 g, .slice A l.length c], .int .i64 lost, .int .i64 (wrap64 (1 + n2 % (k : Int)))] (by rfl) rfl rfl (by simp only [List.map_toArray, List.map_cons, List.map_nil]; rfl) ?_
              with_reducible refine (HCF.out _ (Fr0.trans HFX.out H3.out)).mono ?_
              rintro e w3_3 ⟨rfl, hf3⟩
              refine ⟨_, rfl, ?_⟩
              have H4 := Lib.hid (Fr0.trans H3.out hf3)
              have HX12 := Lib.hid (HX12.out.fr0 hf3)
              have HX13 := Lib.hid (HX13.out.fr0 hf3)
              refine hK.out _ _ ⟨(H4.out.cell0 v0), (H4.out.cell0 v1), (H4.out.cell0 v2)⟩ (fun hHeld => ?_)
              clear hK K
              refine norm_ (a' := ?_) ?_ ?_
              rotate_left
              · show Act.put _ (some 199) _ = _
                simp only [Act.put, List.setIfInBounds_toArray, List.set_cons_zero, List.set_cons_succ, i64_w, i32_w]
                rfl
              refine pure_ (i := 8) (N := some 191) (v := ?_) (a' := ?_) #[true, true, true, true, true, true, true, true, true, false, false, false, true, true, false, false, false] rfl rfl (by kernel_rfl) (fun _ _ _ h => h) (Or.inl ⟨by rfl, ?_⟩) ?_ ?_
              rotate_left
              · intro w'
                go_simp
                with_reducible rfl
              rotate_left
              · simp only [Act.put, List.setIfInBounds_toArray, List.set_cons_zero, List.set_cons_succ, i64_w, i32_w]
                rfl
              refine pure_ (i := 9) (N := some 200) (v := ?_) (a' := ?_) #[true, true, true, true, true, true, true, true, true, true, false, false, true, true, false, false, false] rfl rfl (by kernel_rfl) (fun _ _ _ h => h) (Or.inl ⟨by rfl, ?_⟩) ?_ ?_
              rotate_left
              · intro w'
                go_simp
                with_reducible rfl
              rotate_left
              · simp only [Act.put, List.setIfInBounds_toArray, List.set_cons_zero, List.set_cons_succ, i64_w, i32_w]
                rfl
              refine pure_ (i := 10) (N := some 201) (v := ?_) (a' := ?_) #[true, true, true, true, true, true, true, true, true, true, true, false, true, true, false, false, false] rfl rfl (by kernel_rfl) (fun _ _ _ h => h) (Or.inl ⟨by rfl, ?_⟩) ?_ ?_
              rotate_left
              · intro w'
                go_simp
                with_reducible rfl
              rotate_left
              · simp only [Act.put, List.setIfInBounds_toArray, List.set_cons_zero, List.set_cons_succ, i64_w, i32_w]
                rfl
              refine pure_ (i := 11) (N := some 202) (v := ?_) (a' := ?_) #[true, true, true, true, true, true, true, true, true, true, true, true, true, true, false, false, false] rfl rfl (by kernel_rfl) (fun _ _ _ h => h) (Or.inl ⟨by rfl, ?_⟩) ?_ ?_
              rotate_left
              · intro w'
                go_simp
                with_reducible rfl
              rotate_left
              · simp only [Act.put, List.setIfInBounds_toArray, List.set_cons_zero, List.set_cons_succ, i64_w, i32_w]
                rfl
              exact norm_ (by (simp only [putAll, Act.put, List.setIfInBounds_toArray, List.set_cons_zero, List.set_cons_succ]) <;> rfl) (hCont (⟨_, _⟩ : Nat × Nat) _ ⟨⟨H4.out.cell0 v0, H4.out.cell0 v1, H4.out.cell0 v2⟩, ⟨H4.out, HX12.out, HX13.out, HL12.out, HL13.out, HNE.out⟩⟩)
        · skip
          refine value_ (w1 := ?_) (v := ?_) (by rfl) rfl ?_ ?_
          rotate_left 2
          · go_simp
            constructor
            · rfl
            · rfl
          have hx_ := Bx.new_at H0.out 38 #[.int .i64 0, .int .i64 0]
          have HX12 := Lib.hid hx_
          have hl_ := H0.out.size
          have HL12 := Lib.hid hl_
          clear hx_ hl_
          have H1 := Lib.hid (Fr0.trans H0.out (Fr.alloc (Fr.refl _ _) (.cells #[.int .i64 0, .int .i64 0] 38)))
          refine hK.out _ _ ⟨(H1.out.cell0 v0), (H1.out.cell0 v1), (H1.out.cell0 v2)⟩ (fun hHeld => ?_)
          clear hK K
          refine norm_ (a' := ?_) ?_ ?_
          rotate_left
          · show Act.put _ (some 22) _ = _
            simp only [Act.put, List.setIfInBounds_toArray, List.set_cons_zero, List.set_cons_succ, i64_w, i32_w]
            rfl
          refine two_ (i := 5) (j := 13) (Ni := some 197) (Nj := some 23) #[true, true, true, true, true, true, false, false, false, false, false, false, true, false, false, false, false] #[true, true, true, true, true, false, false, false, false, false, false, false, true, true, false, false, false] rfl rfl rfl rfl (by kernel_rfl) (by decide) (by decide) (fun K hK => ?_) (fun K hK => ?_)
          · skip
            refine goes_ Tryd.func40 (by kernel_rfl) rfl #[.int .i64 n2, .int .i64 (k : Int)] (by rfl) rfl rfl (by simp only [List.map_toArray, List.map_cons, List.map_nil]; rfl) ?_
            with_reducible refine (HTM.out _).mono ?_
            rintro e w3_1 ⟨rfl, hf1⟩
            refine ⟨_, rfl, ?_⟩
            have H2 := Lib.hid (Fr0.trans H1.out hf1)
            have HX12 := Lib.hid (HX12.out.fr0 hf1)
            refine hK.out _ _ ⟨(H2.out.cell0 v0), (H2.out.cell0 v1), (H2.out.cell0 v2)⟩ (fun hHeld => ?_)
            clear hK K
            refine norm_ (a' := ?_) ?_ ?_
            rotate_left
            · show Act.put _ (some 197) _ = _
              simp only [Act.put, List.setIfInBounds_toArray, List.set_cons_zero, List.set_cons_succ, i64_w, i32_w]
              rfl
            refine pure_ (i := 6) (N := some 198) (v := ?_) (a' := ?_) #[true, true, true, true, true, true, true, false, false, false, false, false, true, false, false, false, false] rfl rfl (by kernel_rfl) (fun _ _ _ h => h) (Or.inl ⟨by rfl, ?_⟩) ?_ ?_
            rotate_left
            · intro w'
              go_simp
              with_reducible rfl
            rotate_left
            · simp only [Act.put, List.setIfInBounds_toArray, List.set_cons_zero, List.set_cons_succ, i64_w, i32_w]
              rfl
            refine two_ (i := 7) (j := 13) (Ni := some 199) (Nj := some 23) #[true, true, true, true, true, true, true, true, false, false, false, false, true, false, false, false, false] #[true, true, true, true, true, true, true, false, false, false, false, false, true, true, false, false, false] rfl rfl rfl rfl (by kernel_rfl) (by decide) (by decide) (fun K hK => ?_) (fun K hK => ?_)
            · skip
              refine goes_ Tryd.func35 (by kernel_rfl) rfl #[.agg #[.int .i64 g, .slice A l.length c], .int .i64 lost, .int .i64 (wrap64 (1 + n2 % (k : Int)))] (by rfl) rfl rfl (by simp only [List.map_toArray, List.map_cons, List.map_nil]; rfl) ?_
              with_reducible refine (HCF.out _ (Fr0.trans HFX.out H2.out)).mono ?_
              rintro e w3_2 ⟨rfl, hf2⟩
              refine ⟨_, rfl, ?_⟩
              have H3 := Lib.hid (Fr0.trans H2.out hf2)
              have HX12 := Lib.hid (HX12.out.fr0 hf2)
              refine hK.out _ _ ⟨(H3.out.cell0 v0), (H3.out.cell0 v1), (H3.out.cell0 v2)⟩ (fun hHeld => ?_)
              clear hK K
              refine norm_ (a' := ?_) ?_ ?_
              rotate_left
              · show Act.put _ (some 199) _ = _
                simp only [Act.put, List.setIfInBounds_toArray, List.set_cons_zero, List.set_cons_succ, i64_w, i32_w]
                rfl
              refine pure_ (i := 8) (N := some 191) (v := ?_) (a' := ?_) #[true, true, true, true, true, true, true, true, true, false, false, false, true, false, false, false, false] rfl rfl (by kernel_rfl) (fun _ _ _ h => h) (Or.inl ⟨by rfl, ?_⟩) ?_ ?_
              rotate_left
              · intro w'
                go_simp
                with_reducible rfl
              rotate_left
              · simp only [Act.put, List.setIfInBounds_toArray, List.set_cons_zero, List.set_cons_succ, i64_w, i32_w]
                rfl
              refine pure_ (i := 9) (N := some 200) (v := ?_) (a' := ?_) #[true, true, true, true, true, true, true, true, true, true, false, false, true, false, false, false, false] rfl rfl (by kernel_rfl) (fun _ _ _ h => h) (Or.inl ⟨by rfl, ?_⟩) ?_ ?_
              rotate_left
              · intro w'
                go_simp
                with_reducible rfl
              rotate_left
              · simp only [Act.put, List.setIfInBounds_toArray, List.set_cons_zero, List.set_cons_succ, i64_w, i32_w]
                rfl
              refine pure_ (i := 10) (N := some 201) (v := ?_) (a' := ?_) #[true, true, true, true, true, true, true, true, true, true, true, false, true, false, false, false, false] rfl rfl (by kernel_rfl) (fun _ _ _ h => h) (Or.inl ⟨by rfl, ?_⟩) ?_ ?_
              rotate_left
              · intro w'
                go_simp
                with_reducible rfl
              rotate_left
              · simp only [Act.put, List.setIfInBounds_toArray, List.set_cons_zero, List.set_cons_succ, i64_w, i32_w]
                rfl
              refine pure_ (i := 11) (N := some 202) (v := ?_) (a' := ?_) #[true, true, true, true, true, true, true, true, true, true, true, true, true, false, false, false, false] rfl rfl (by kernel_rfl) (fun _ _ _ h => h) (Or.inl ⟨by rfl, ?_⟩) ?_ ?_
              rotate_left
              · intro w'
                go_simp
                with_reducible rfl
              rotate_left
              · simp only [Act.put, List.setIfInBounds_toArray, List.set_cons_zero, List.set_cons_succ, i64_w, i32_w]
                rfl
              refine one_ (i := 13) (N := some 23) #[true, true, true, true, true, true, true, true, true, true, true, true, true, true, false, false, false] rfl rfl (by kernel_rfl) (by decide) (fun K hK => ?_)
              refine value_ (w1 := ?_) (v := ?_) (by rfl) rfl ?_ ?_
              rotate_left 2
              · go_simp
                constructor
                · rfl
                · rfl
              have hx_ := Bx.new_at H3.out 38 #[.int .i64 0, .int .i64 0]
              have HX13 := Lib.hid hx_
              have hl_ := H3.out.size
              have HL13 := Lib.hid hl_
              have hn_ := HX12.out.lt
              have HNE := Lib.hid (Nat.ne_of_lt hn_)
              have HX12 := Lib.hid (HX12.out.alloc (.cells #[.int .i64 0, .int .i64 0] 38))
              clear hn_
              clear hx_ hl_
              have H4 := Lib.hid (Fr0.trans H3.out (Fr.alloc (Fr.refl _ _) (.cells #[.int .i64 0, .int .i64 0] 38)))
              refine hK.out _ _ ⟨(H4.out.cell0 v0), (H4.out.cell0 v1), (H4.out.cell0 v2)⟩ (fun hHeld => ?_)
              clear hK K
              refine norm_ (a' := ?_) ?_ ?_
              rotate_left
              · show Act.put _ (some 23) _ = _
                simp only [Act.put, List.setIfInBounds_toArray, List.set_cons_zero, List.set_cons_succ, i64_w, i32_w]
                rfl
              exact norm_ (by (simp only [putAll, Act.put, List.setIfInBounds_toArray, List.set_cons_zero, List.set_cons_succ]) <;> rfl) (hCont (⟨_, _⟩ : Nat × Nat) _ ⟨⟨H4.out.cell0 v0, H4.out.cell0 v1, H4.out.cell0 v2⟩, ⟨H4.out, HX12.out, HX13.out, HL12.out, HL13.out, HNE.out⟩⟩)
            · skip
              refine value_ (w1 := ?_) (v := ?_) (by rfl) rfl ?_ ?_
              rotate_left 2
              · go_simp
                constructor
                · rfl
                · rfl
              have hx_ := Bx.new_at H2.out 38 #[.int .i64 0, .int .i64 0]
              have HX13 := Lib.hid hx_
              have hl_ := H2.out.size
              have HL13 := Lib.hid hl_
              have hn_ := HX12.out.lt
              have HNE := Lib.hid (Nat.ne_of_lt hn_)
              have HX12 := Lib.hid (HX12.out.alloc (.cells #[.int .i64 0, .int .i64 0] 38))
              clear hn_
              clear hx_ hl_
              have H3 := Lib.hid (Fr0.trans H2.out (Fr.alloc (Fr.refl _ _) (.cells #[.int .i64 0, .int .i64 0] 38)))
              refine hK.out _ _ ⟨(H3.out.cell0 v0), (H3.out.cell0 v1), (H3.out.cell0 v2)⟩ (fun hHeld => ?_)
              clear hK K
              refine norm_ (a' := ?_) ?_ ?_
              rotate_left
              · show Act.put _ (some 23) _ = _
                simp only [Act.put, List.setIfInBounds_toArray, List.set_cons_zero, List.set_cons_succ, i64_w, i32_w]
                rfl
              refine one_ (i := 7) (N := some 199) #[true, true, true, true, true, true, true, true, false, false, false, false, true, true, false, false, false] rfl rfl (by kernel_rfl) (by decide) (fun K hK => ?_)
              refine goes_ Tryd.func35 (by kernel_rfl) rfl #[.agg #[.int .i64 g, .slice A l.length c], .int .i64 lost, .int .i64 (wrap64 (1 + n2 % (k : Int)))] (by rfl) rfl rfl (by simp only [List.map_toArray, List.map_cons, List.map_nil]; rfl) ?_
              with_reducible refine (HCF.out _ (Fr0.trans HFX.out H3.out)).mono ?_
              rintro e w3_3 ⟨rfl, hf3⟩
              refine ⟨_, rfl, ?_⟩
              have H4 := Lib.hid (Fr0.trans H3.out hf3)
              have HX12 := Lib.hid (HX12.out.fr0 hf3)
              have HX13 := Lib.hid (HX13.out.fr0 hf3)
              refine hK.out _ _ ⟨(H4.out.cell0 v0), (H4.out.cell0 v1), (H4.out.cell0 v2)⟩ (fun hHeld => ?_)
              clear hK K
              refine norm_ (a' := ?_) ?_ ?_
              rotate_left
              · show Act.put _ (some 199) _ = _
                simp only [Act.put, List.setIfInBounds_toArray, List.set_cons_zero, List.set_cons_succ, i64_w, i32_w]
                rfl
              refine pure_ (i := 8) (N := some 191) (v := ?_) (a' := ?_) #[true, true, true, true, true, true, true, true, true, false, false, false, true, true, false, false, false] rfl rfl (by kernel_rfl) (fun _ _ _ h => h) (Or.inl ⟨by rfl, ?_⟩) ?_ ?_
              rotate_left
              · intro w'
                go_simp
                with_reducible rfl
              rotate_left
              · simp only [Act.put, List.setIfInBounds_toArray, List.set_cons_zero, List.set_cons_succ, i64_w, i32_w]
                rfl
              refine pure_ (i := 9) (N := some 200) (v := ?_) (a' := ?_) #[true, true, true, true, true, true, true, true, true, true, false, false, true, true, false, false, false] rfl rfl (by kernel_rfl) (fun _ _ _ h => h) (Or.inl ⟨by rfl, ?_⟩) ?_ ?_
              rotate_left
              · intro w'
                go_simp
                with_reducible rfl
              rotate_left
              · simp only [Act.put, List.setIfInBounds_toArray, List.set_cons_zero, List.set_cons_succ, i64_w, i32_w]
                rfl
              refine pure_ (i := 10) (N := some 201) (v := ?_) (a' := ?_) #[true, true, true, true, true, true, true, true, true, true, true, false, true, true, false, false, false] rfl rfl (by kernel_rfl) (fun _ _ _ h => h) (Or.inl ⟨by rfl, ?_⟩) ?_ ?_
              rotate_left
              · intro w'
                go_simp
                with_reducible rfl
              rotate_left
              · simp only [Act.put, List.setIfInBounds_toArray, List.set_cons_zero, List.set_cons_succ, i64_w, i32_w]
                rfl
              refine pure_ (i := 11) (N := some 202) (v := ?_) (a' := ?_) #[true, true, true, true, true, true, true, true, true, true, true, true, true, true, false, false, false] rfl rfl (by kernel_rfl) (fun _ _ _ h => h) (Or.inl ⟨by rfl, ?_⟩) ?_ ?_
              rotate_left
              · intro w'
                go_simp
                with_reducible rfl
              rotate_left
              · simp only [Act.put, List.setIfInBounds_toArray, List.set_cons_zero, List.set_cons_succ, i64_w, i32_w]
                rfl
              exact norm_ (by (simp only [putAll, Act.put, List.setIfInBounds_toArray, List.set_cons_zero, List.set_cons_succ]) <;> rfl) (hCont (⟨_, _⟩ : Nat × Nat) _ ⟨⟨H4.out.cell0 v0, H4.out.cell0 v1, H4.out.cell0 v2⟩, ⟨H4.out, HX12.out, HX13.out, HL12.out, HL13.out, HNE.out⟩⟩)
          · skip
            refine value_ (w1 := ?_) (v := ?_) (by rfl) rfl ?_ ?_
            rotate_left 2
            · go_simp
              constructor
              · rfl
              · rfl
            have hx_ := Bx.new_at H1.out 38 #[.int .i64 0, .int .i64 0]
            rw [size_al] at hx_
            have HX13 := Lib.hid hx_
            have hl_ := H1.out.size
            rw [size_al] at hl_
            have HL13 := Lib.hid hl_
            have hn_ := HX12.out.lt
            rw [size_al] at hn_
            have HNE := Lib.hid (Nat.ne_of_lt hn_)
            have HX12 := Lib.hid (HX12.out.alloc (.cells #[.int .i64 0, .int .i64 0] 38))
            clear hn_
            clear hx_ hl_
            have H2 := Lib.hid (Fr0.trans H1.out (Fr.alloc (Fr.refl _ _) (.cells #[.int .i64 0, .int .i64 0] 38)))
            refine hK.out _ _ ⟨(H2.out.cell0 v0), (H2.out.cell0 v1), (H2.out.cell0 v2)⟩ (fun hHeld => ?_)
            clear hK K
            refine norm_ (a' := ?_) ?_ ?_
            rotate_left
            · show Act.put _ (some 23) _ = _
              simp only [Act.put, List.setIfInBounds_toArray, List.set_cons_zero, List.set_cons_succ, i64_w, i32_w]
              rfl
            refine one_ (i := 5) (N := some 197) #[true, true, true, true, true, true, false, false, false, false, false, false, true, true, false, false, false] rfl rfl (by kernel_rfl) (by decide) (fun K hK => ?_)
            refine goes_ Tryd.func40 (by kernel_rfl) rfl #[.int .i64 n2, .int .i64 (k : Int)] (by rfl) rfl rfl (by simp only [List.map_toArray, List.map_cons, List.map_nil]; rfl) ?_
            with_reducible refine (HTM.out _).mono ?_
            rintro e w3_2 ⟨rfl, hf2⟩
            refine ⟨_, rfl, ?_⟩
            have H3 := Lib.hid (Fr0.trans H2.out hf2)
            have HX12 := Lib.hid (HX12.out.fr0 hf2)
            have HX13 := Lib.hid (HX13.out.fr0 hf2)
            refine hK.out _ _ ⟨(H3.out.cell0 v0), (H3.out.cell0 v1), (H3.out.cell0 v2)⟩ (fun hHeld => ?_)
            clear hK K
            refine norm_ (a' := ?_) ?_ ?_
            rotate_left
            · show Act.put _ (some 197) _ = _
              simp only [Act.put, List.setIfInBounds_toArray, List.set_cons_zero, List.set_cons_succ, i64_w, i32_w]
              rfl
            refine pure_ (i := 6) (N := some 198) (v := ?_) (a' := ?_) #[true, true, true, true, true, true, true, false, false, false, false, false, true, true, false, false, false] rfl rfl (by kernel_rfl) (fun _ _ _ h => h) (Or.inl ⟨by rfl, ?_⟩) ?_ ?_
            rotate_left
            · intro w'
              go_simp
              with_reducible rfl
            rotate_left
            · simp only [Act.put, List.setIfInBounds_toArray, List.set_cons_zero, List.set_cons_succ, i64_w, i32_w]
              rfl
            refine one_ (i := 7) (N := some 199) #[true, true, true, true, true, true, true, true, false, false, false, false, true, true, false, false, false] rfl rfl (by kernel_rfl) (by decide) (fun K hK => ?_)
            refine goes_ Tryd.func35 (by kernel_rfl) rfl #[.agg #[.int .i64 g, .slice A l.length c], .int .i64 lost, .int .i64 (wrap64 (1 + n2 % (k : Int)))] (by rfl) rfl rfl (by simp only [List.map_toArray, List.map_cons, List.map_nil]; rfl) ?_
            with_reducible refine (HCF.out _ (Fr0.trans HFX.out H3.out)).mono ?_
            rintro e w3_3 ⟨rfl, hf3⟩
            refine ⟨_, rfl, ?_⟩
            have H4 := Lib.hid (Fr0.trans H3.out hf3)
            have HX12 := Lib.hid (HX12.out.fr0 hf3)
            have HX13 := Lib.hid (HX13.out.fr0 hf3)
            refine hK.out _ _ ⟨(H4.out.cell0 v0), (H4.out.cell0 v1), (H4.out.cell0 v2)⟩ (fun hHeld => ?_)
            clear hK K
            refine norm_ (a' := ?_) ?_ ?_
            rotate_left
            · show Act.put _ (some 199) _ = _
              simp only [Act.put, List.setIfInBounds_toArray, List.set_cons_zero, List.set_cons_succ, i64_w, i32_w]
              rfl
            refine pure_ (i := 8) (N := some 191) (v := ?_) (a' := ?_) #[true, true, true, true, true, true, true, true, true, false, false, false, true, true, false, false, false] rfl rfl (by kernel_rfl) (fun _ _ _ h => h) (Or.inl ⟨by rfl, ?_⟩) ?_ ?_
            rotate_left
            · intro w'
              go_simp
              with_reducible rfl
            rotate_left
            · simp only [Act.put, List.setIfInBounds_toArray, List.set_cons_zero, List.set_cons_succ, i64_w, i32_w]
              rfl
            refine pure_ (i := 9) (N := some 200) (v := ?_) (a' := ?_) #[true, true, true, true, true, true, true, true, true, true, false, false, true, true, false, false, false] rfl rfl (by kernel_rfl) (fun _ _ _ h => h) (Or.inl ⟨by rfl, ?_⟩) ?_ ?_
            rotate_left
            · intro w'
              go_simp
              with_reducible rfl
            rotate_left
            · simp only [Act.put, List.setIfInBounds_toArray, List.set_cons_zero, List.set_cons_succ, i64_w, i32_w]
              rfl
            refine pure_ (i := 10) (N := some 201) (v := ?_) (a' := ?_) #[true, true, true, true, true, true, true, true, true, true, true, false, true, true, false, false, false] rfl rfl (by kernel_rfl) (fun _ _ _ h => h) (Or.inl ⟨by rfl, ?_⟩) ?_ ?_
            rotate_left
            · intro w'
              go_simp
              with_reducible rfl
            rotate_left
            · simp only [Act.put, List.setIfInBounds_toArray, List.set_cons_zero, List.set_cons_succ, i64_w, i32_w]
              rfl
            refine pure_ (i := 11) (N := some 202) (v := ?_) (a' := ?_) #[true, true, true, true, true, true, true, true, true, true, true, true, true, true, false, false, false] rfl rfl (by kernel_rfl) (fun _ _ _ h => h) (Or.inl ⟨by rfl, ?_⟩) ?_ ?_
            rotate_left
            · intro w'
              go_simp
              with_reducible rfl
            rotate_left
            · simp only [Act.put, List.setIfInBounds_toArray, List.set_cons_zero, List.set_cons_succ, i64_w, i32_w]
              rfl
            exact norm_ (by (simp only [putAll, Act.put, List.setIfInBounds_toArray, List.set_cons_zero, List.set_cons_succ]) <;> rfl) (hCont (⟨_, _⟩ : Nat × Nat) _ ⟨⟨H4.out.cell0 v0, H4.out.cell0 v1, H4.out.cell0 v2⟩, ⟨H4.out, HX12.out, HX13.out, HL12.out, HL13.out, HNE.out⟩⟩)
        · skip
          refine value_ (w1 := ?_) (v := ?_) (by rfl) rfl ?_ ?_
          rotate_left 2
          · go_simp
            constructor
            · rfl
            · rfl
          have hx_ := Bx.new_at H0.out 38 #[.int .i64 0, .int .i64 0]
          have HX13 := Lib.hid hx_
          have hl_ := H0.out.size
          have HL13 := Lib.hid hl_
          clear hx_ hl_
          have H1 := Lib.hid (Fr0.trans H0.out (Fr.alloc (Fr.refl _ _) (.cells #[.int .i64 0, .int .i64 0] 38)))
          refine hK.out _ _ ⟨(H1.out.cell0 v0), (H1.out.cell0 v1), (H1.out.cell0 v2)⟩ (fun hHeld => ?_)
          clear hK K
          refine norm_ (a' := ?_) ?_ ?_
          rotate_left
          · show Act.put _ (some 23) _ = _
            simp only [Act.put, List.setIfInBounds_toArray, List.set_cons_zero, List.set_cons_succ, i64_w, i32_w]
            rfl
          refine two_ (i := 5) (j := 12) (Ni := some 197) (Nj := some 22) #[true, true, true, true, true, true, false, false, false, false, false, false, false, true, false, false, false] #[true, true, true, true, true, false, false, false, false, false, false, false, true, true, false, false, false] rfl rfl rfl rfl (by kernel_rfl) (by decide) (by decide) (fun K hK => ?_) (fun K hK => ?_)
          · skip
            refine goes_ Tryd.func40 (by kernel_rfl) rfl #[.int .i64 n2, .int .i64 (k : Int)] (by rfl) rfl rfl (by simp only [List.map_toArray, List.map_cons, List.map_nil]; rfl) ?_
            with_reducible refine (HTM.out _).mono ?_
            rintro e w3_1 ⟨rfl, hf1⟩
            refine ⟨_, rfl, ?_⟩
            have H2 := Lib.hid (Fr0.trans H1.out hf1)
            have HX13 := Lib.hid (HX13.out.fr0 hf1)
            refine hK.out _ _ ⟨(H2.out.cell0 v0), (H2.out.cell0 v1), (H2.out.cell0 v2)⟩ (fun hHeld => ?_)
            clear hK K
            refine norm_ (a' := ?_) ?_ ?_
            rotate_left
            · show Act.put _ (some 197) _ = _
              simp only [Act.put, List.setIfInBounds_toArray, List.set_cons_zero, List.set_cons_succ, i64_w, i32_w]
              rfl
            refine pure_ (i := 6) (N := some 198) (v := ?_) (a' := ?_) #[true, true, true, true, true, true, true, false, false, false, false, false, false, true, false, false, false] rfl rfl (by kernel_rfl) (fun _ _ _ h => h) (Or.inl ⟨by rfl, ?_⟩) ?_ ?_
            rotate_left
            · intro w'
              go_simp
              with_reducible rfl
            rotate_left
            · simp only [Act.put, List.setIfInBounds_toArray, List.set_cons_zero, List.set_cons_succ, i64_w, i32_w]
              rfl
            refine two_ (i := 7) (j := 12) (Ni := some 199) (Nj := some 22) #[true, true, true, true, true, true, true, true, false, false, false, false, false, true, false, false, false] #[true, true, true, true, true, true, true, false, false, false, false, false, true, true, false, false, false] rfl rfl rfl rfl (by kernel_rfl) (by decide) (by decide) (fun K hK => ?_) (fun K hK => ?_)
            · skip
              refine goes_ Tryd.func35 (by kernel_rfl) rfl #[.agg #[.int .i64 g, .slice A l.length c], .int .i64 lost, .int .i64 (wrap64 (1 + n2 % (k : Int)))] (by rfl) rfl rfl (by simp only [List.map_toArray, List.map_cons, List.map_nil]; rfl) ?_
              with_reducible refine (HCF.out _ (Fr0.trans HFX.out H2.out)).mono ?_
              rintro e w3_2 ⟨rfl, hf2⟩
              refine ⟨_, rfl, ?_⟩
              have H3 := Lib.hid (Fr0.trans H2.out hf2)
              have HX13 := Lib.hid (HX13.out.fr0 hf2)
              refine hK.out _ _ ⟨(H3.out.cell0 v0), (H3.out.cell0 v1), (H3.out.cell0 v2)⟩ (fun hHeld => ?_)
              clear hK K
              refine norm_ (a' := ?_) ?_ ?_
              rotate_left
              · show Act.put _ (some 199) _ = _
                simp only [Act.put, List.setIfInBounds_toArray, List.set_cons_zero, List.set_cons_succ, i64_w, i32_w]
                rfl
              refine pure_ (i := 8) (N := some 191) (v := ?_) (a' := ?_) #[true, true, true, true, true, true, true, true, true, false, false, false, false, true, false, false, false] rfl rfl (by kernel_rfl) (fun _ _ _ h => h) (Or.inl ⟨by rfl, ?_⟩) ?_ ?_
              rotate_left
              · intro w'
                go_simp
                with_reducible rfl
              rotate_left
              · simp only [Act.put, List.setIfInBounds_toArray, List.set_cons_zero, List.set_cons_succ, i64_w, i32_w]
                rfl
              refine pure_ (i := 9) (N := some 200) (v := ?_) (a' := ?_) #[true, true, true, true, true, true, true, true, true, true, false, false, false, true, false, false, false] rfl rfl (by kernel_rfl) (fun _ _ _ h => h) (Or.inl ⟨by rfl, ?_⟩) ?_ ?_
              rotate_left
              · intro w'
                go_simp
                with_reducible rfl
              rotate_left
              · simp only [Act.put, List.setIfInBounds_toArray, List.set_cons_zero, List.set_cons_succ, i64_w, i32_w]
                rfl
              refine pure_ (i := 10) (N := some 201) (v := ?_) (a' := ?_) #[true, true, true, true, true, true, true, true, true, true, true, false, false, true, false, false, false] rfl rfl (by kernel_rfl) (fun _ _ _ h => h) (Or.inl ⟨by rfl, ?_⟩) ?_ ?_
              rotate_left
              · intro w'
                go_simp
                with_reducible rfl
              rotate_left
              · simp only [Act.put, List.setIfInBounds_toArray, List.set_cons_zero, List.set_cons_succ, i64_w, i32_w]
                rfl
              refine pure_ (i := 11) (N := some 202) (v := ?_) (a' := ?_) #[true, true, true, true, true, true, true, true, true, true, true, true, false, true, false, false, false] rfl rfl (by kernel_rfl) (fun _ _ _ h => h) (Or.inl ⟨by rfl, ?_⟩) ?_ ?_
              rotate_left
              · intro w'
                go_simp
                with_reducible rfl
              rotate_left
              · simp only [Act.put, List.setIfInBounds_toArray, List.set_cons_zero, List.set_cons_succ, i64_w, i32_w]
                rfl
              refine one_ (i := 12) (N := some 22) #[true, true, true, true, true, true, true, true, true, true, true, true, true, true, false, false, false] rfl rfl (by kernel_rfl) (by decide) (fun K hK => ?_)
              refine value_ (w1 := ?_) (v := ?_) (by rfl) rfl ?_ ?_
              rotate_left 2
              · go_simp
                constructor
                · rfl
                · rfl
              have hx_ := Bx.new_at H3.out 38 #[.int .i64 0, .int .i64 0]
              have HX12 := Lib.hid hx_
              have hl_ := H3.out.size
              have HL12 := Lib.hid hl_
              have hn_ := HX13.out.lt
              have HNE := Lib.hid (Nat.ne_of_gt hn_)
              have HX13 := Lib.hid (HX13.out.alloc (.cells #[.int .i64 0, .int .i64 0] 38))
              clear hn_
              clear hx_ hl_
              have H4 := Lib.hid (Fr0.trans H3.out (Fr.alloc (Fr.refl _ _) (.cells #[.int .i64 0, .int .i64 0] 38)))
              refine hK.out _ _ ⟨(H4.out.cell0 v0), (H4.out.cell0 v1), (H4.out.cell0 v2)⟩ (fun hHeld => ?_)
              clear hK K
              refine norm_ (a' := ?_) ?_ ?_
              rotate_left
              · show Act.put _ (some 22) _ = _
                simp only [Act.put, List.setIfInBounds_toArray, List.set_cons_zero, List.set_cons_succ, i64_w, i32_w]
                rfl
              exact norm_ (by (simp only [putAll, Act.put, List.setIfInBounds_toArray, List.set_cons_zero, List.set_cons_succ]) <;> rfl) (hCont (⟨_, _⟩ : Nat × Nat) _ ⟨⟨H4.out.cell0 v0, H4.out.cell0 v1, H4.out.cell0 v2⟩, ⟨H4.out, HX12.out, HX13.out, HL12.out, HL13.out, HNE.out⟩⟩)
            · skip
              refine value_ (w1 := ?_) (v := ?_) (by rfl) rfl ?_ ?_
              rotate_left 2
              · go_simp
                constructor
                · rfl
                · rfl
              have hx_ := Bx.new_at H2.out 38 #[.int .i64 0, .int .i64 0]
              have HX12 := Lib.hid hx_
              have hl_ := H2.out.size
              have HL12 := Lib.hid hl_
              have hn_ := HX13.out.lt
              have HNE := Lib.hid (Nat.ne_of_gt hn_)
              have HX13 := Lib.hid (HX13.out.alloc (.cells #[.int .i64 0, .int .i64 0] 38))
              clear hn_
              clear hx_ hl_
              have H3 := Lib.hid (Fr0.trans H2.out (Fr.alloc (Fr.refl _ _) (.cells #[.int .i64 0, .int .i64 0] 38)))
              refine hK.out _ _ ⟨(H3.out.cell0 v0), (H3.out.cell0 v1), (H3.out.cell0 v2)⟩ (fun hHeld => ?_)
              clear hK K
              refine norm_ (a' := ?_) ?_ ?_
              rotate_left
              · show Act.put _ (some 22) _ = _
                simp only [Act.put, List.setIfInBounds_toArray, List.set_cons_zero, List.set_cons_succ, i64_w, i32_w]
                rfl
              refine one_ (i := 7) (N := some 199) #[true, true, true, true, true, true, true, true, false, false, false, false, true, true, false, false, false] rfl rfl (by kernel_rfl) (by decide) (fun K hK => ?_)
              refine goes_ Tryd.func35 (by kernel_rfl) rfl #[.agg #[.int .i64 g, .slice A l.length c], .int .i64 lost, .int .i64 (wrap64 (1 + n2 % (k : Int)))] (by rfl) rfl rfl (by simp only [List.map_toArray, List.map_cons, List.map_nil]; rfl) ?_
              with_reducible refine (HCF.out _ (Fr0.trans HFX.out H3.out)).mono ?_
              rintro e w3_3 ⟨rfl, hf3⟩
              refine ⟨_, rfl, ?_⟩
              have H4 := Lib.hid (Fr0.trans H3.out hf3)
              have HX12 := Lib.hid (HX12.out.fr0 hf3)
              have HX13 := Lib.hid (HX13.out.fr0 hf3)
              refine hK.out _ _ ⟨(H4.out.cell0 v0), (H4.out.cell0 v1), (H4.out.cell0 v2)⟩ (fun hHeld => ?_)
              clear hK K
              refine norm_ (a' := ?_) ?_ ?_
              rotate_left
              · show Act.put _ (some 199) _ = _
                simp only [Act.put, List.setIfInBounds_toArray, List.set_cons_zero, List.set_cons_succ, i64_w, i32_w]
                rfl
              refine pure_ (i := 8) (N := some 191) (v := ?_) (a' := ?_) #[true, true, true, true, true, true, true, true, true, false, false, false, true, true, false, false, false] rfl rfl (by kernel_rfl) (fun _ _ _ h => h) (Or.inl ⟨by rfl, ?_⟩) ?_ ?_
              rotate_left
              · intro w'
                go_simp
                with_reducible rfl
              rotate_left
              · simp only [Act.put, List.setIfInBounds_toArray, List.set_cons_zero, List.set_cons_succ, i64_w, i32_w]
                rfl
              refine pure_ (i := 9) (N := some 200) (v := ?_) (a' := ?_) #[true, true, true, true, true, true, true, true, true, true, false, false, true, true, false, false, false] rfl rfl (by kernel_rfl) (fun _ _ _ h => h) (Or.inl ⟨by rfl, ?_⟩) ?_ ?_
              rotate_left
              · intro w'
                go_simp
                with_reducible rfl
              rotate_left
              · simp only [Act.put, List.setIfInBounds_toArray, List.set_cons_zero, List.set_cons_succ, i64_w, i32_w]
                rfl
              refine pure_ (i := 10) (N := some 201) (v := ?_) (a' := ?_) #[true, true, true, true, true, true, true, true, true, true, true, false, true, true, false, false, false] rfl rfl (by kernel_rfl) (fun _ _ _ h => h) (Or.inl ⟨by rfl, ?_⟩) ?_ ?_
              rotate_left
              · intro w'
                go_simp
                with_reducible rfl
              rotate_left
              · simp only [Act.put, List.setIfInBounds_toArray, List.set_cons_zero, List.set_cons_succ, i64_w, i32_w]
                rfl
              refine pure_ (i := 11) (N := some 202) (v := ?_) (a' := ?_) #[true, true, true, true, true, true, true, true, true, true, true, true, true, true, false, false, false] rfl rfl (by kernel_rfl) (fun _ _ _ h => h) (Or.inl ⟨by rfl, ?_⟩) ?_ ?_
              rotate_left
              · intro w'
                go_simp
                with_reducible rfl
              rotate_left
              · simp only [Act.put, List.setIfInBounds_toArray, List.set_cons_zero, List.set_cons_succ, i64_w, i32_w]
                rfl
              exact norm_ (by (simp only [putAll, Act.put, List.setIfInBounds_toArray, List.set_cons_zero, List.set_cons_succ]) <;> rfl) (hCont (⟨_, _⟩ : Nat × Nat) _ ⟨⟨H4.out.cell0 v0, H4.out.cell0 v1, H4.out.cell0 v2⟩, ⟨H4.out, HX12.out, HX13.out, HL12.out, HL13.out, HNE.out⟩⟩)
          · skip
            refine value_ (w1 := ?_) (v := ?_) (by rfl) rfl ?_ ?_
            rotate_left 2
            · go_simp
              constructor
              · rfl
              · rfl
            have hx_ := Bx.new_at H1.out 38 #[.int .i64 0, .int .i64 0]
            rw [size_al] at hx_
            have HX12 := Lib.hid hx_
            have hl_ := H1.out.size
            rw [size_al] at hl_
            have HL12 := Lib.hid hl_
            have hn_ := HX13.out.lt
            rw [size_al] at hn_
            have HNE := Lib.hid (Nat.ne_of_gt hn_)
            have HX13 := Lib.hid (HX13.out.alloc (.cells #[.int .i64 0, .int .i64 0] 38))
            clear hn_
            clear hx_ hl_
            have H2 := Lib.hid (Fr0.trans H1.out (Fr.alloc (Fr.refl _ _) (.cells #[.int .i64 0, .int .i64 0] 38)))
            refine hK.out _ _ ⟨(H2.out.cell0 v0), (H2.out.cell0 v1), (H2.out.cell0 v2)⟩ (fun hHeld => ?_)
            clear hK K
            refine norm_ (a' := ?_) ?_ ?_
            rotate_left
            · show Act.put _ (some 22) _ = _
              simp only [Act.put, List.setIfInBounds_toArray, List.set_cons_zero, List.set_cons_succ, i64_w, i32_w]
              rfl
            refine one_ (i := 5) (N := some 197) #[true, true, true, true, true, true, false, false, false, false, false, false, true, true, false, false, false] rfl rfl (by kernel_rfl) (by decide) (fun K hK => ?_)
            refine goes_ Tryd.func40 (by kernel_rfl) rfl #[.int .i64 n2, .int .i64 (k : Int)] (by rfl) rfl rfl (by simp only [List.map_toArray, List.map_cons, List.map_nil]; rfl) ?_
            with_reducible refine (HTM.out _).mono ?_
            rintro e w3_2 ⟨rfl, hf2⟩
            refine ⟨_, rfl, ?_⟩
            have H3 := Lib.hid (Fr0.trans H2.out hf2)
            have HX12 := Lib.hid (HX12.out.fr0 hf2)
            have HX13 := Lib.hid (HX13.out.fr0 hf2)
            refine hK.out _ _ ⟨(H3.out.cell0 v0), (H3.out.cell0 v1), (H3.out.cell0 v2)⟩ (fun hHeld => ?_)
            clear hK K
            refine norm_ (a' := ?_) ?_ ?_
            rotate_left
            · show Act.put _ (some 197) _ = _
              simp only [Act.put, List.setIfInBounds_toArray, List.set_cons_zero, List.set_cons_succ, i64_w, i32_w]
              rfl
            refine pure_ (i := 6) (N := some 198) (v := ?_) (a' := ?_) #[true, true, true, true, true, true, true, false, false, false, false, false, true, true, false, false, false] rfl rfl (by kernel_rfl) (fun _ _ _ h => h) (Or.inl ⟨by rfl, ?_⟩) ?_ ?_
            rotate_left
            · intro w'
              go_simp
              with_reducible rfl
            rotate_left
            · simp only [Act.put, List.setIfInBounds_toArray, List.set_cons_zero, List.set_cons_succ, i64_w, i32_w]
              rfl
            refine one_ (i := 7) (N := some 199) #[true, true, true, true, true, true, true, true, false, false, false, false, true, true, false, false, false] rfl rfl (by kernel_rfl) (by decide) (fun K hK => ?_)
            refine goes_ Tryd.func35 (by kernel_rfl) rfl #[.agg #[.int .i64 g, .slice A l.length c], .int .i64 lost, .int .i64 (wrap64 (1 + n2 % (k : Int)))] (by rfl) rfl rfl (by simp only [List.map_toArray, List.map_cons, List.map_nil]; rfl) ?_
            with_reducible refine (HCF.out _ (Fr0.trans HFX.out H3.out)).mono ?_
            rintro e w3_3 ⟨rfl, hf3⟩
            refine ⟨_, rfl, ?_⟩
            have H4 := Lib.hid (Fr0.trans H3.out hf3)
            have HX12 := Lib.hid (HX12.out.fr0 hf3)
            have HX13 := Lib.hid (HX13.out.fr0 hf3)
            refine hK.out _ _ ⟨(H4.out.cell0 v0), (H4.out.cell0 v1), (H4.out.cell0 v2)⟩ (fun hHeld => ?_)
            clear hK K
            refine norm_ (a' := ?_) ?_ ?_
            rotate_left
            · show Act.put _ (some 199) _ = _
              simp only [Act.put, List.setIfInBounds_toArray, List.set_cons_zero, List.set_cons_succ, i64_w, i32_w]
              rfl
            refine pure_ (i := 8) (N := some 191) (v := ?_) (a' := ?_) #[true, true, true, true, true, true, true, true, true, false, false, false, true, true, false, false, false] rfl rfl (by kernel_rfl) (fun _ _ _ h => h) (Or.inl ⟨by rfl, ?_⟩) ?_ ?_
            rotate_left
            · intro w'
              go_simp
              with_reducible rfl
            rotate_left
            · simp only [Act.put, List.setIfInBounds_toArray, List.set_cons_zero, List.set_cons_succ, i64_w, i32_w]
              rfl
            refine pure_ (i := 9) (N := some 200) (v := ?_) (a' := ?_) #[true, true, true, true, true, true, true, true, true, true, false, false, true, true, false, false, false] rfl rfl (by kernel_rfl) (fun _ _ _ h => h) (Or.inl ⟨by rfl, ?_⟩) ?_ ?_
            rotate_left
            · intro w'
              go_simp
              with_reducible rfl
            rotate_left
            · simp only [Act.put, List.setIfInBounds_toArray, List.set_cons_zero, List.set_cons_succ, i64_w, i32_w]
              rfl
            refine pure_ (i := 10) (N := some 201) (v := ?_) (a' := ?_) #[true, true, true, true, true, true, true, true, true, true, true, false, true, true, false, false, false] rfl rfl (by kernel_rfl) (fun _ _ _ h => h) (Or.inl ⟨by rfl, ?_⟩) ?_ ?_
            rotate_left
            · intro w'
              go_simp
              with_reducible rfl
            rotate_left
            · simp only [Act.put, List.setIfInBounds_toArray, List.set_cons_zero, List.set_cons_succ, i64_w, i32_w]
              rfl
            refine pure_ (i := 11) (N := some 202) (v := ?_) (a' := ?_) #[true, true, true, true, true, true, true, true, true, true, true, true, true, true, false, false, false] rfl rfl (by kernel_rfl) (fun _ _ _ h => h) (Or.inl ⟨by rfl, ?_⟩) ?_ ?_
            rotate_left
            · intro w'
              go_simp
              with_reducible rfl
            rotate_left
            · simp only [Act.put, List.setIfInBounds_toArray, List.set_cons_zero, List.set_cons_succ, i64_w, i32_w]
              rfl
            exact norm_ (by (simp only [putAll, Act.put, List.setIfInBounds_toArray, List.set_cons_zero, List.set_cons_succ]) <;> rfl) (hCont (⟨_, _⟩ : Nat × Nat) _ ⟨⟨H4.out.cell0 v0, H4.out.cell0 v1, H4.out.cell0 v2⟩, ⟨H4.out, HX12.out, HX13.out, HL12.out, HL13.out, HNE.out⟩⟩)
      rintro ⟨g9, h9⟩ w5 ⟨⟨s0, s1, s2⟩, HP⟩
      have hHeld : (w5.cell? ⟨w.heap.size, 0, none⟩ = some (.int .i64 g)) ∧ (w5.cell? ⟨w.heap.size, 1, none⟩ = some (.slice A l.length c)) ∧ (w5.cell? ⟨w.heap.size + 1, 2, none⟩ = some (.int .i64 n2)) := ⟨s0, s1, s2⟩
      dsimp only at HP
      have z9 := HP.x.at_ 0 (v := .int .i64 0) rfl
      have z9' := HP.x.at_ 1 (v := .int .i64 0) rfl
      have f9 := HP.x.frz 0
      have f9' := HP.x.frz 1
      have y9 := HP.y.at_ 0 (v := .int .i64 0) rfl
      have y9' := HP.y.at_ 1 (v := .int .i64 0) rfl
      have k9 := HP.y.frz 0
      have k9' := HP.y.frz 1
      have ne9 := HP.ne
      have ne9' := Ne.symm HP.ne
      refine norm_ (a' := ?_) ?_ ?_
      rotate_left
      · simp only [putAll, Act.put, List.setIfInBounds_toArray, List.set_cons_zero, List.set_cons_succ]
        rfl
      refine one_ (i := 14) (N := none) #[true, true, true, true, true, true, true, true, true, true, true, true, true, true, true, false, false] rfl rfl (by kernel_rfl) (by decide) (fun K hK => ?_)
      refine skip_ (w1 := ?_) (by rfl) rfl ?_ ?_
      rotate_left
      · go_simp
        rfl
      have KA2 := Lib.hid (Bx.far (Bx.far (HV2.out.fr0 HP.fr) (p := ⟨g9, 0, none⟩) (by have := HV2.out.lt; have := HP.gx; dsimp only; omega) (.int .i64 e0)) (p := ⟨g9, 1, none⟩) (by have := HV2.out.lt; have := HP.gx; dsimp only; omega) (.int .i64 e1))
      have KA3 := Lib.hid (Bx.far (Bx.far (HV3.out.fr0 HP.fr) (p := ⟨g9, 0, none⟩) (by have := HV3.out.lt; have := HP.gx; dsimp only; omega) (.int .i64 e0)) (p := ⟨g9, 1, none⟩) (by have := HV3.out.lt; have := HP.gx; dsimp only; omega) (.int .i64 e1))
      refine hK.out _ _ ⟨(KA2.out.at_ 0 rfl), (KA2.out.at_ 1 rfl), (KA3.out.at_ 2 rfl)⟩ (fun hHeld => ?_)
      clear hK K
      refine last_ (i := 15) (N := none) #[true, true, true, true, true, true, true, true, true, true, true, true, true, true, true, true, false] rfl rfl (by kernel_rfl) (by decide) (fun K hK => ?_)
      refine skip_ (w1 := ?_) (by rfl) rfl ?_ ?_
      rotate_left
      · go_simp
        rfl
      refine hK.out _ _ ?_
      clear hK K
      refine pure_ (i := 16) (N := some 24) (v := ?_) (a' := ?_) #[true, true, true, true, true, true, true, true, true, true, true, true, true, true, true, true, true] rfl rfl (by kernel_rfl) (fun _ _ _ h => h) (Or.inl ⟨by rfl, ?_⟩) ?_ ?_
      rotate_left
      · intro w'
        go_simp
        with_reducible rfl
      rotate_left
      · simp only [Act.put, List.setIfInBounds_toArray, List.set_cons_zero, List.set_cons_succ, i64_w, i32_w]
        rfl
      refine done_ (by kernel_rfl) ?_
      have hfE := (((HP.fr.setCell (p := ⟨g9, 0, none⟩) (.inr (by dsimp only; exact HP.gx)) (.int .i64 e0)).setCell (p := ⟨g9, 1, none⟩) (.inr (by dsimp only; exact HP.gx)) (.int .i64 e1)).setCell (p := ⟨h9, 0, none⟩) (.inr (by dsimp only; exact HP.hy)) (.int .i64 e2)).setCell (p := ⟨h9, 1, none⟩) (.inr (by dsimp only; exact HP.hy)) (.int .i64 e3)
      generalize hWE : World.setCell _ _ _ = WE at hfE ⊢
      clear hWE hHeld s0 s1 s2 z9 z9' f9 f9' y9 y9' k9 k9' ne9 ne9' v0 v1 v2
      have HFE := Lib.hid hfE
      have HG7 := HV7.out.fr0 hfE
      have HG8 := HV8.out.fr0 hfE
      have q0 := HG7.at_ 0 (v := .int .i64 sp0) rfl
      have q1 := HG7.at_ 1 (v := .int .i64 sp1) rfl
      have q2 := HG8.at_ 0 (v := .int .i64 sp0) rfl
      have q3 := HG8.at_ 1 (v := .int .i64 tp1) rfl
      have HCE := Lib.hid (C_fr HCL.out hfE)
      have HI0 := Lib.hid hin0
      have HI1 := Lib.hid hin1
      clear hfE HG7 HG8 hin0 hin1 HP
      go_wp2_with (first
        | (go_at_call 47; refine (within47 (two_new WE sp0 sp1 sp0 tp1) (C_fr HCE.out ((Fr.refl _ _).alloc _)) hcL HI0.out HI1.out).mono ?_; rintro e w26 ⟨rfl, hf26⟩; (have HF26 := Lib.hid hf26); clear hf26)
        | (go_at_call 23; refine (marked23 (HB.out.glob.fr (Fr0.trans HFX.out (Fr0.trans (HFE.out.alloc _) HF26.out)))).mono ?_; rintro e w27 ⟨rfl, hf27⟩; (have HF27 := Lib.hid hf27); clear hf27))
      refine bodyPost_ret (v := .bool true) (by simp [results, Tryd.results12, go_sem]) rfl ⟨rfl, ?_⟩
      exact Fr0.trans HFX.out (Fr0.trans (Fr0.trans (HFE.out.alloc _) HF26.out) HF27.out)

end Go.Proofs.YtephecfapclgfaaDoor.R
