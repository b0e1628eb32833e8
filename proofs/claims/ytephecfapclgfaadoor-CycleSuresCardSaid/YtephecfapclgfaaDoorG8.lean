import Derived.Test.YtephecfapclgfaaDoorG7
import Derived.Test.YtephecfapclgfaaDoorQC
set_option linter.unusedVariables false
set_option linter.unusedSimpArgs false
namespace Go.Proofs.YtephecfapclgfaaDoor.R
open Go.RowKit Go.Shelf Go.Proofs.YtephecfapclgfaaDoorW.PrintWords Go.Proofs.YtephecfapclgfaaDoorW.PrintLast Go.Proofs.YtephecfapclgfaaDoorW.PrintMore Go.Proofs.YtephecfapclgfaaDoor.PRaspKeys Go.Proofs.YtephecfapclgfaaDoor.X Go.Proofs.YtephecfapclgfaaDoor.Q
attribute [local go_sem] Oper.semAt_some

theorem small_of {w : World} {A : Option Addr} {c : Nat} {l : List S63} (hB : Book w A c l) : Small l := ⟨C_len hB.r, C63_len hB.r⟩
theorem sits43 (n lo hi : Int) (w : World) : Calls Tryd.prog 43 #[.int .i64 n, .int .i64 lo, .int .i64 hi] w fun e w' => e = .returned (.bool (isIn n lo hi)) ∧ Fr0 w w' :=
  (saronref00_Sits.calls n lo hi _ w (sits_f n lo hi)).mono fun e w' h => ⟨h.1, mk_dr h.2⟩
theorem asked58 {w : World} {g : Int} {A : Option Addr} {c : Nat} {l : List S63} (hB : Book w A c l) (ok : Bool) : Calls Tryd.prog 58 #[.agg #[.int .i64 g, .slice A l.length c], .bool ok] w fun e w' => e = .returned (.int .i64 (openE g l ok)) ∧ Fr0 w w' := by
  obtain ⟨K, hK⟩ := asked_f g l (small_of hB) ok
  exact (saronref05_asked.calls K g A c l ok _ w hB.r hB.c (hK K (Nat.le_refl _))).mono fun e w' h => ⟨h.1, Go.Proofs.YtephecfapclgfaaDoor.X.Fr.of_below h.2⟩
theorem conf87 {w : World} {g : Int} {A : Option Addr} {c : Nat} {l : List S63} (hB : Book w A c l) (hb : bookOk g l = true) (lost : Int) (many : Nat) (h1 : 1 ≤ many) (h64 : many ≤ 64) {r1 r2 r3 r4 : Int} {r5 : Bool} (hr : confT ((pairsL (spotsN l l.length)).find? (confP l lost many)) = (r1, r2, r3, r4, r5)) :
    Calls Tryd.prog 87 #[.agg #[.int .i64 g, .slice A l.length c], .int .i64 lost, .int .i64 (many : Int)] w fun e w' => e = .returned (.tuple #[.agg #[.int .i64 r1, .int .i64 r2], .agg #[.int .i64 r3, .int .i64 r4], .bool r5]) ∧ Fr0 w w' := by
  obtain ⟨K, hK⟩ := confused_f (small_of hB) hb lost many h1 h64
  have h := hK K (Nat.le_refl _)
  rw [hr] at h
  exact (saronref05_confused.calls K g A c l lost (many : Int) r1 r2 r3 r4 r5 w hB.r hB.c h).mono fun e w' h => ⟨h.1, Go.Proofs.YtephecfapclgfaaDoor.X.Fr.of_below h.2⟩
theorem res36 {w : World} {g6 g7 : Nat} {a b c d e : Value} {tmps : Array Value} (h6 : tmps[6]?.getD undef = .pointer (some ⟨g6, 0, none⟩)) (h7 : tmps[7]?.getD undef = .pointer (some ⟨g7, 0, none⟩)) (h8 : tmps[8]?.getD undef = e) (h : Bx w g6 38 #[a, b]) (h' : Bx w g7 38 #[c, d]) :
    (results Tryd.f36 tmps).run Tryd.prog w = .ok (.tuple #[.agg #[a, b], .agg #[c, d], e]) w := by
  have e0 := h.at_ 0 rfl
  have e1 := h.at_ 1 rfl
  have e2 := h'.at_ 0 rfl
  have e3 := h'.at_ 1 rfl
  simp only [results, Tryd.results36]
  simp [h6, h7, h8, go_sem, e0, e1, e2, e3]

set_option maxHeartbeats 4000000 in
set_option maxRecDepth 100000 in
theorem confused_no (g : Int) (A : Option Addr) (c : Nat) (l : List S63) (lost many : Int) (w : World) (hB : Book w A c l) (E : Int) (hE : openE g l false = E) (hz : ¬ E = 0) (hl0 : isIn lost 0 6 = false) : Calls Tryd.prog 36 #[.agg #[.int .i64 g, .slice A l.length c], .int .i64 lost, .int .i64 many] w fun e w' => e = .returned (.tuple #[.agg #[.int .i64 0, .int .i64 0], .agg #[.int .i64 0, .int .i64 0], .int .i64 E]) ∧ Fr0 w w' := by
  have HB := Lib.hid hB
  have hf0 : Fr0 w (((w.alloc (.cells #[.int .i64 g, .slice A l.length c] 24)).alloc (.cells #[.int .i64 0, .int .i64 0] 38)).alloc (.cells #[.int .i64 0, .int .i64 0] 38)) := (((Fr.refl _ _).alloc _).alloc _).alloc _
  have c3 : Bx (((w.alloc (.cells #[.int .i64 g, .slice A l.length c] 24)).alloc (.cells #[.int .i64 0, .int .i64 0] 38)).alloc (.cells #[.int .i64 0, .int .i64 0] 38)) w.heap.size 24 #[.int .i64 g, .slice A l.length c] := ((Bx.of_new rfl).alloc _).alloc _
  have c6 : Bx (((w.alloc (.cells #[.int .i64 g, .slice A l.length c] 24)).alloc (.cells #[.int .i64 0, .int .i64 0] 38)).alloc (.cells #[.int .i64 0, .int .i64 0] 38)) (w.heap.size + 1) 38 #[.int .i64 0, .int .i64 0] := (Bx.of_new (by simp)).alloc _
  have c7 : Bx (((w.alloc (.cells #[.int .i64 g, .slice A l.length c] 24)).alloc (.cells #[.int .i64 0, .int .i64 0] 38)).alloc (.cells #[.int .i64 0, .int .i64 0] 38)) (w.heap.size + 1 + 1) 38 #[.int .i64 0, .int .i64 0] := Bx.of_new (by simp)
  clear hB
  go_enter Tryd.func36, Tryd.ntmps36
  go_wp2
  generalize hW : (((w.alloc (.cells #[.int .i64 g, .slice A l.length c] 24)).alloc (.cells #[.int .i64 0, .int .i64 0] 38)).alloc (.cells #[.int .i64 0, .int .i64 0] 38)) = W at hf0 c3 c6 c7 ⊢
  clear hW
  have HF0 := Lib.hid hf0
  have HC3 := Lib.hid c3
  have HC6 := Lib.hid c6
  have HC7 := Lib.hid c7
  have u0 := c3.at_ 0 (v := .int .i64 g) rfl
  have u1 := c3.at_ 1 (v := .slice A l.length c) rfl
  clear hf0 c3 c6 c7
  refine start_ (n := 9) (S := fun w' => w'.cell? ⟨w.heap.size, 0, none⟩ = some (.int .i64 g) ∧ w'.cell? ⟨w.heap.size, 1, none⟩ = some (.slice A l.length c)) (ds := []) #[false, false, false, false, false, false, false, false, false] (by kernel_rfl) rfl rfl ⟨u0, u1⟩ (fun hHeld => ?_)
  refine pure_ (i := 1) (N := some 14) (v := ?_) (a' := ?_) #[false, true, false, false, false, false, false, false, false] rfl rfl (by kernel_rfl) (fun _ _ _ h => h) (Or.inl ⟨by rfl, ?_⟩) ?_ ?_
  rotate_left
  · intro w'
    go_simp
    with_reducible rfl
  rotate_left
  · simp only [Act.put, List.setIfInBounds_toArray, List.set_cons_zero, List.set_cons_succ, i64_w, i32_w]
    rfl
  refine take_ (i := 0) (N := some 13) (v := ?_) (a' := ?_) #[true, true, false, false, false, false, false, false, false] rfl rfl (by kernel_rfl) (fun _ _ _ h => h) (Or.inl ⟨by rfl, ?_⟩) hHeld ?_ ?_
  rotate_left
  · rintro w' ⟨s0, s1⟩
    go_simp
    with_reducible rfl
  rotate_left
  · simp only [Act.put, List.setIfInBounds_toArray, List.set_cons_zero, List.set_cons_succ, i64_w, i32_w]
    rfl
  refine one_ (i := 2) (N := some 15) #[true, true, true, false, false, false, false, false, false] rfl rfl (by kernel_rfl) (by decide) (fun K hK => ?_)
  refine goes_ Tryd.func43 (by kernel_rfl) rfl #[.int .i64 lost, .int .i64 0, .int .i64 6] (by rfl) rfl rfl (by simp only [List.map_toArray, List.map_cons, List.map_nil]; rfl) ?_
  refine (sits43 lost 0 6 _).mono ?_
  rw [hl0]
  rintro e w3 ⟨rfl, hf3⟩
  refine ⟨_, rfl, ?_⟩
  have H3 := Lib.hid (Fr0.trans (Fr.drew (Fr.refl _ W)) hf3)
  refine hK.out _ _ ⟨(H3.out.cell0 u0), (H3.out.cell0 u1)⟩ (fun hHeld => ?_)
  clear hK K
  refine norm_ (a' := ?_) ?_ ?_
  rotate_left
  · show Act.put _ (some 15) _ = _
    simp only [Act.put, List.setIfInBounds_toArray, List.set_cons_zero, List.set_cons_succ, i64_w, i32_w]
    rfl
  refine pure_ (i := 3) (N := some 16) (v := ?_) (a' := ?_) #[true, true, true, true, false, false, false, false, false] rfl rfl (by kernel_rfl) (fun _ _ _ h => h) (Or.inl ⟨by rfl, ?_⟩) ?_ ?_
  rotate_left
  · intro w'
    go_simp
    with_reducible rfl
  rotate_left
  · simp only [Act.put, List.setIfInBounds_toArray, List.set_cons_zero, List.set_cons_succ, i64_w, i32_w]
    rfl
  refine pure_ (i := 4) (N := some 17) (v := undef) (a' := ?_) #[true, true, true, true, true, false, false, false, false] rfl rfl (by kernel_rfl) (fun _ _ _ h => h) (Or.inr ⟨by rfl, rfl⟩) ?_ ?_
  rotate_left
  · simp only [Act.put, List.setIfInBounds_toArray, List.set_cons_zero, List.set_cons_succ, i64_w, i32_w]
    rfl
  refine pure_ (i := 5) (N := some 18) (v := undef) (a' := ?_) #[true, true, true, true, true, true, false, false, false] rfl rfl (by kernel_rfl) (fun _ _ _ h => h) (Or.inr ⟨by rfl, rfl⟩) ?_ ?_
  rotate_left
  · simp only [Act.put, List.setIfInBounds_toArray, List.set_cons_zero, List.set_cons_succ, i64_w, i32_w]
    rfl
  refine pure_ (i := 6) (N := some 19) (v := ?_) (a' := ?_) #[true, true, true, true, true, true, true, false, false] rfl rfl (by kernel_rfl) (fun _ _ _ h => h) (Or.inl ⟨by rfl, ?_⟩) ?_ ?_
  rotate_left
  · intro w'
    go_simp
    with_reducible rfl
  rotate_left
  · simp only [Act.put, List.setIfInBounds_toArray, List.set_cons_zero, List.set_cons_succ, i64_w, i32_w]
    rfl
  refine one_ (i := 7) (N := some 20) #[true, true, true, true, true, true, true, true, false] rfl rfl (by kernel_rfl) (by decide) (fun K hK => ?_)
  refine goes_ Tryd.func58 (by kernel_rfl) rfl #[.agg #[.int .i64 g, .slice A l.length c], .bool false] (by rfl) rfl rfl (by simp only [List.map_toArray, List.map_cons, List.map_nil]; rfl) ?_
  refine (asked58 (HB.out.fr (Fr0.trans HF0.out H3.out)) _).mono ?_
  rw [hE]
  rintro e w5 ⟨rfl, hf5⟩
  refine ⟨_, rfl, ?_⟩
  have H5 := Lib.hid (Fr0.trans H3.out hf5)
  refine hK.out _ _ ⟨(H5.out.cell0 u0), (H5.out.cell0 u1)⟩ (fun hHeld => ?_)
  clear hK K
  refine norm_ (a' := ?_) ?_ ?_
  rotate_left
  · show Act.put _ (some 20) _ = _
    simp only [Act.put, List.setIfInBounds_toArray, List.set_cons_zero, List.set_cons_succ, i64_w, i32_w]
    rfl
  refine pure_ (i := 8) (N := some 9) (v := ?_) (a' := ?_) #[true, true, true, true, true, true, true, true, true] rfl rfl (by kernel_rfl) (fun _ _ _ h => h) (Or.inl ⟨by rfl, ?_⟩) ?_ ?_
  rotate_left
  · intro w'
    go_simp
    with_reducible rfl
  rotate_left
  · simp only [Act.put, List.setIfInBounds_toArray, List.set_cons_zero, List.set_cons_succ, i64_w, i32_w]
    rfl
  refine done_ (by kernel_rfl) ?_
  have hz5 := H5.out.size
  have hlt7 := HC7.out.lt
  have D6 := HC6.out.fr0 H5.out
  have D7 := HC7.out.fr0 H5.out
  have d60 := D6.at_ 0 (v := .int .i64 0) rfl
  have d61 := D6.at_ 1 (v := .int .i64 0) rfl
  have z60 := D6.frz 0
  have z61 := D6.frz 1
  have d70 := D7.at_ 0 (v := .int .i64 0) rfl
  have d71 := D7.at_ 1 (v := .int .i64 0) rfl
  have z70 := D7.frz 0
  have z71 := D7.frz 1
  have HD6 := Lib.hid D6
  have HD7 := Lib.hid D7
  have v0 := H5.out.cell0 u0
  have v1 := H5.out.cell0 u1
  clear D6 D7 u0 u1
  go_wp2
  have HFZ := Lib.hid (Fr0.trans HF0.out H5.out)
  have N6 := Bx.far (Bx.far (two_set HD6.out (.int .i64 0) (.int .i64 0)) (p := ⟨w.heap.size + 1 + 1, 0, none⟩) (by dsimp only; omega) (.int .i64 0)) (p := ⟨w.heap.size + 1 + 1, 1, none⟩) (by dsimp only; omega) (.int .i64 0)
  have N7 := two_set (Bx.far (Bx.far HD7.out (p := ⟨w.heap.size + 1, 0, none⟩) (by dsimp only; omega) (.int .i64 0)) (p := ⟨w.heap.size + 1, 1, none⟩) (by dsimp only; omega) (.int .i64 0)) (.int .i64 0) (.int .i64 0)
  refine bodyPost_ret (res36 rfl rfl rfl N6 N7) rfl ⟨rfl, ?_⟩
  exact ((((HFZ.out.setCell (.inr (by dsimp only; omega)) _).setCell (.inr (by dsimp only; omega)) _).setCell (.inr (by dsimp only; omega)) _).setCell (.inr (by dsimp only; omega)) _)

set_option maxHeartbeats 4000000 in
set_option maxRecDepth 100000 in
theorem confused_no2 (g : Int) (A : Option Addr) (c : Nat) (l : List S63) (lost many : Int) (w : World) (hB : Book w A c l) (E : Int) (hE : openE g l (isIn many 1 64) = E) (hz : ¬ E = 0) (hl1 : isIn lost 0 6 = true) : Calls Tryd.prog 36 #[.agg #[.int .i64 g, .slice A l.length c], .int .i64 lost, .int .i64 many] w fun e w' => e = .returned (.tuple #[.agg #[.int .i64 0, .int .i64 0], .agg #[.int .i64 0, .int .i64 0], .int .i64 E]) ∧ Fr0 w w' := by
  have HB := Lib.hid hB
  have hf0 : Fr0 w (((w.alloc (.cells #[.int .i64 g, .slice A l.length c] 24)).alloc (.cells #[.int .i64 0, .int .i64 0] 38)).alloc (.cells #[.int .i64 0, .int .i64 0] 38)) := (((Fr.refl _ _).alloc _).alloc _).alloc _
  have c3 : Bx (((w.alloc (.cells #[.int .i64 g, .slice A l.length c] 24)).alloc (.cells #[.int .i64 0, .int .i64 0] 38)).alloc (.cells #[.int .i64 0, .int .i64 0] 38)) w.heap.size 24 #[.int .i64 g, .slice A l.length c] := ((Bx.of_new rfl).alloc _).alloc _
  have c6 : Bx (((w.alloc (.cells #[.int .i64 g, .slice A l.length c] 24)).alloc (.cells #[.int .i64 0, .int .i64 0] 38)).alloc (.cells #[.int .i64 0, .int .i64 0] 38)) (w.heap.size + 1) 38 #[.int .i64 0, .int .i64 0] := (Bx.of_new (by simp)).alloc _
  have c7 : Bx (((w.alloc (.cells #[.int .i64 g, .slice A l.length c] 24)).alloc (.cells #[.int .i64 0, .int .i64 0] 38)).alloc (.cells #[.int .i64 0, .int .i64 0] 38)) (w.heap.size + 1 + 1) 38 #[.int .i64 0, .int .i64 0] := Bx.of_new (by simp)
  clear hB
  go_enter Tryd.func36, Tryd.ntmps36
  go_wp2
  generalize hW : (((w.alloc (.cells #[.int .i64 g, .slice A l.length c] 24)).alloc (.cells #[.int .i64 0, .int .i64 0] 38)).alloc (.cells #[.int .i64 0, .int .i64 0] 38)) = W at hf0 c3 c6 c7 ⊢
  clear hW
  have HF0 := Lib.hid hf0
  have HC3 := Lib.hid c3
  have HC6 := Lib.hid c6
  have HC7 := Lib.hid c7
  have u0 := c3.at_ 0 (v := .int .i64 g) rfl
  have u1 := c3.at_ 1 (v := .slice A l.length c) rfl
  clear hf0 c3 c6 c7
  refine start_ (n := 9) (S := fun w' => w'.cell? ⟨w.heap.size, 0, none⟩ = some (.int .i64 g) ∧ w'.cell? ⟨w.heap.size, 1, none⟩ = some (.slice A l.length c)) (ds := []) #[false, false, false, false, false, false, false, false, false] (by kernel_rfl) rfl rfl ⟨u0, u1⟩ (fun hHeld => ?_)
  refine pure_ (i := 1) (N := some 14) (v := ?_) (a' := ?_) #[false, true, false, false, false, false, false, false, false] rfl rfl (by kernel_rfl) (fun _ _ _ h => h) (Or.inl ⟨by rfl, ?_⟩) ?_ ?_
  rotate_left
  · intro w'
    go_simp
    with_reducible rfl
  rotate_left
  · simp only [Act.put, List.setIfInBounds_toArray, List.set_cons_zero, List.set_cons_succ, i64_w, i32_w]
    rfl
  refine take_ (i := 0) (N := some 13) (v := ?_) (a' := ?_) #[true, true, false, false, false, false, false, false, false] rfl rfl (by kernel_rfl) (fun _ _ _ h => h) (Or.inl ⟨by rfl, ?_⟩) hHeld ?_ ?_
  rotate_left
  · rintro w' ⟨s0, s1⟩
    go_simp
    with_reducible rfl
  rotate_left
  · simp only [Act.put, List.setIfInBounds_toArray, List.set_cons_zero, List.set_cons_succ, i64_w, i32_w]
    rfl
  refine one_ (i := 2) (N := some 15) #[true, true, true, false, false, false, false, false, false] rfl rfl (by kernel_rfl) (by decide) (fun K hK => ?_)
  refine goes_ Tryd.func43 (by kernel_rfl) rfl #[.int .i64 lost, .int .i64 0, .int .i64 6] (by rfl) rfl rfl (by simp only [List.map_toArray, List.map_cons, List.map_nil]; rfl) ?_
  refine (sits43 lost 0 6 _).mono ?_
  rw [hl1]
  rintro e w3 ⟨rfl, hf3⟩
  refine ⟨_, rfl, ?_⟩
  have H3 := Lib.hid (Fr0.trans (Fr.drew (Fr.refl _ W)) hf3)
  refine hK.out _ _ ⟨(H3.out.cell0 u0), (H3.out.cell0 u1)⟩ (fun hHeld => ?_)
  clear hK K
  refine norm_ (a' := ?_) ?_ ?_
  rotate_left
  · show Act.put _ (some 15) _ = _
    simp only [Act.put, List.setIfInBounds_toArray, List.set_cons_zero, List.set_cons_succ, i64_w, i32_w]
    rfl
  refine pure_ (i := 3) (N := some 16) (v := ?_) (a' := ?_) #[true, true, true, true, false, false, false, false, false] rfl rfl (by kernel_rfl) (fun _ _ _ h => h) (Or.inl ⟨by rfl, ?_⟩) ?_ ?_
  rotate_left
  · intro w'
    go_simp
    with_reducible rfl
  rotate_left
  · simp only [Act.put, List.setIfInBounds_toArray, List.set_cons_zero, List.set_cons_succ, i64_w, i32_w]
    rfl
  refine pure_ (i := 4) (N := some 17) (v := ?_) (a' := ?_) #[true, true, true, true, true, false, false, false, false] rfl rfl (by kernel_rfl) (fun _ _ _ h => h) (Or.inl ⟨by rfl, ?_⟩) ?_ ?_
  rotate_left
  · intro w'
    go_simp
    with_reducible rfl
  rotate_left
  · simp only [Act.put, List.setIfInBounds_toArray, List.set_cons_zero, List.set_cons_succ, i64_w, i32_w]
    rfl
  refine one_ (i := 5) (N := some 18) #[true, true, true, true, true, true, false, false, false] rfl rfl (by kernel_rfl) (by decide) (fun K hK => ?_)
  refine goes_ Tryd.func43 (by kernel_rfl) rfl #[.int .i64 many, .int .i64 1, .int .i64 64] (by rfl) rfl rfl (by simp only [List.map_toArray, List.map_cons, List.map_nil]; rfl) ?_
  with_reducible refine (sits43 many 1 64 _).mono ?_
  rintro e w4 ⟨rfl, hf4⟩
  refine ⟨_, rfl, ?_⟩
  have H4 := Lib.hid (Fr0.trans H3.out hf4)
  refine hK.out _ _ ⟨(H4.out.cell0 u0), (H4.out.cell0 u1)⟩ (fun hHeld => ?_)
  clear hK K
  refine norm_ (a' := ?_) ?_ ?_
  rotate_left
  · show Act.put _ (some 18) _ = _
    simp only [Act.put, List.setIfInBounds_toArray, List.set_cons_zero, List.set_cons_succ, i64_w, i32_w]
    rfl
  refine pure_ (i := 6) (N := some 19) (v := ?_) (a' := ?_) #[true, true, true, true, true, true, true, false, false] rfl rfl (by kernel_rfl) (fun _ _ _ h => h) (Or.inl ⟨by rfl, ?_⟩) ?_ ?_
  rotate_left
  · intro w'
    go_simp
    with_reducible rfl
  rotate_left
  · simp only [Act.put, List.setIfInBounds_toArray, List.set_cons_zero, List.set_cons_succ, i64_w, i32_w]
    rfl
  refine one_ (i := 7) (N := some 20) #[true, true, true, true, true, true, true, true, false] rfl rfl (by kernel_rfl) (by decide) (fun K hK => ?_)
  refine goes_ Tryd.func58 (by kernel_rfl) rfl #[.agg #[.int .i64 g, .slice A l.length c], .bool (isIn many 1 64)] (by rfl) rfl rfl (by simp only [List.map_toArray, List.map_cons, List.map_nil]; rfl) ?_
  refine (asked58 (HB.out.fr (Fr0.trans HF0.out H4.out)) _).mono ?_
  rw [hE]
  rintro e w5 ⟨rfl, hf5⟩
  refine ⟨_, rfl, ?_⟩
  have H5 := Lib.hid (Fr0.trans H4.out hf5)
  refine hK.out _ _ ⟨(H5.out.cell0 u0), (H5.out.cell0 u1)⟩ (fun hHeld => ?_)
  clear hK K
  refine norm_ (a' := ?_) ?_ ?_
  rotate_left
  · show Act.put _ (some 20) _ = _
    simp only [Act.put, List.setIfInBounds_toArray, List.set_cons_zero, List.set_cons_succ, i64_w, i32_w]
    rfl
  refine pure_ (i := 8) (N := some 9) (v := ?_) (a' := ?_) #[true, true, true, true, true, true, true, true, true] rfl rfl (by kernel_rfl) (fun _ _ _ h => h) (Or.inl ⟨by rfl, ?_⟩) ?_ ?_
  rotate_left
  · intro w'
    go_simp
    with_reducible rfl
  rotate_left
  · simp only [Act.put, List.setIfInBounds_toArray, List.set_cons_zero, List.set_cons_succ, i64_w, i32_w]
    rfl
  refine done_ (by kernel_rfl) ?_
  have hz5 := H5.out.size
  have hlt7 := HC7.out.lt
  have D6 := HC6.out.fr0 H5.out
  have D7 := HC7.out.fr0 H5.out
  have d60 := D6.at_ 0 (v := .int .i64 0) rfl
  have d61 := D6.at_ 1 (v := .int .i64 0) rfl
  have z60 := D6.frz 0
  have z61 := D6.frz 1
  have d70 := D7.at_ 0 (v := .int .i64 0) rfl
  have d71 := D7.at_ 1 (v := .int .i64 0) rfl
  have z70 := D7.frz 0
  have z71 := D7.frz 1
  have HD6 := Lib.hid D6
  have HD7 := Lib.hid D7
  have v0 := H5.out.cell0 u0
  have v1 := H5.out.cell0 u1
  clear D6 D7 u0 u1
  go_wp2
  have HFZ := Lib.hid (Fr0.trans HF0.out H5.out)
  have N6 := Bx.far (Bx.far (two_set HD6.out (.int .i64 0) (.int .i64 0)) (p := ⟨w.heap.size + 1 + 1, 0, none⟩) (by dsimp only; omega) (.int .i64 0)) (p := ⟨w.heap.size + 1 + 1, 1, none⟩) (by dsimp only; omega) (.int .i64 0)
  have N7 := two_set (Bx.far (Bx.far HD7.out (p := ⟨w.heap.size + 1, 0, none⟩) (by dsimp only; omega) (.int .i64 0)) (p := ⟨w.heap.size + 1, 1, none⟩) (by dsimp only; omega) (.int .i64 0)) (.int .i64 0) (.int .i64 0)
  refine bodyPost_ret (res36 rfl rfl rfl N6 N7) rfl ⟨rfl, ?_⟩
  exact ((((HFZ.out.setCell (.inr (by dsimp only; omega)) _).setCell (.inr (by dsimp only; omega)) _).setCell (.inr (by dsimp only; omega)) _).setCell (.inr (by dsimp only; omega)) _)

set_option maxHeartbeats 4000000 in
set_option maxRecDepth 100000 in
theorem confused_none (g : Int) (A : Option Addr) (c : Nat) (l : List S63) (lost : Int) (w : World) (hB : Book w A c l) (m : Nat) (h1 : 1 ≤ m) (h64 : m ≤ 64) (hb : bookOk g l = true) (hE : openE g l (isIn (m : Int) 1 64) = 0) (hl1 : isIn lost 0 6 = true) (hr : confT ((pairsL (spotsN l l.length)).find? (confP l lost (m : Int))) = (0, 0, 0, 0, false)) : Calls Tryd.prog 36 #[.agg #[.int .i64 g, .slice A l.length c], .int .i64 lost, .int .i64 (m : Int)] w fun e w' => e = .returned (.tuple #[.agg #[.int .i64 0, .int .i64 0], .agg #[.int .i64 0, .int .i64 0], .int .i64 4]) ∧ Fr0 w w' := by
  have HB := Lib.hid hB
  have hf0 : Fr0 w (((w.alloc (.cells #[.int .i64 g, .slice A l.length c] 24)).alloc (.cells #[.int .i64 0, .int .i64 0] 38)).alloc (.cells #[.int .i64 0, .int .i64 0] 38)) := (((Fr.refl _ _).alloc _).alloc _).alloc _
  have c3 : Bx (((w.alloc (.cells #[.int .i64 g, .slice A l.length c] 24)).alloc (.cells #[.int .i64 0, .int .i64 0] 38)).alloc (.cells #[.int .i64 0, .int .i64 0] 38)) w.heap.size 24 #[.int .i64 g, .slice A l.length c] := ((Bx.of_new rfl).alloc _).alloc _
  have c6 : Bx (((w.alloc (.cells #[.int .i64 g, .slice A l.length c] 24)).alloc (.cells #[.int .i64 0, .int .i64 0] 38)).alloc (.cells #[.int .i64 0, .int .i64 0] 38)) (w.heap.size + 1) 38 #[.int .i64 0, .int .i64 0] := (Bx.of_new (by simp)).alloc _
  have c7 : Bx (((w.alloc (.cells #[.int .i64 g, .slice A l.length c] 24)).alloc (.cells #[.int .i64 0, .int .i64 0] 38)).alloc (.cells #[.int .i64 0, .int .i64 0] 38)) (w.heap.size + 1 + 1) 38 #[.int .i64 0, .int .i64 0] := Bx.of_new (by simp)
  clear hB
  go_enter Tryd.func36, Tryd.ntmps36
  go_wp2
  generalize hW : (((w.alloc (.cells #[.int .i64 g, .slice A l.length c] 24)).alloc (.cells #[.int .i64 0, .int .i64 0] 38)).alloc (.cells #[.int .i64 0, .int .i64 0] 38)) = W at hf0 c3 c6 c7 ⊢
  clear hW
  have HF0 := Lib.hid hf0
  have HC3 := Lib.hid c3
  have HC6 := Lib.hid c6
  have HC7 := Lib.hid c7
  have u0 := c3.at_ 0 (v := .int .i64 g) rfl
  have u1 := c3.at_ 1 (v := .slice A l.length c) rfl
  clear hf0 c3 c6 c7
  refine start_ (n := 9) (S := fun w' => w'.cell? ⟨w.heap.size, 0, none⟩ = some (.int .i64 g) ∧ w'.cell? ⟨w.heap.size, 1, none⟩ = some (.slice A l.length c)) (ds := []) #[false, false, false, false, false, false, false, false, false] (by kernel_rfl) rfl rfl ⟨u0, u1⟩ (fun hHeld => ?_)
  refine pure_ (i := 1) (N := some 14) (v := ?_) (a' := ?_) #[false, true, false, false, false, false, false, false, false] rfl rfl (by kernel_rfl) (fun _ _ _ h => h) (Or.inl ⟨by rfl, ?_⟩) ?_ ?_
  rotate_left
  · intro w'
    go_simp
    with_reducible rfl
  rotate_left
  · simp only [Act.put, List.setIfInBounds_toArray, List.set_cons_zero, List.set_cons_succ, i64_w, i32_w]
    rfl
  refine take_ (i := 0) (N := some 13) (v := ?_) (a' := ?_) #[true, true, false, false, false, false, false, false, false] rfl rfl (by kernel_rfl) (fun _ _ _ h => h) (Or.inl ⟨by rfl, ?_⟩) hHeld ?_ ?_
  rotate_left
  · rintro w' ⟨s0, s1⟩
    go_simp
    with_reducible rfl
  rotate_left
  · simp only [Act.put, List.setIfInBounds_toArray, List.set_cons_zero, List.set_cons_succ, i64_w, i32_w]
    rfl
  refine one_ (i := 2) (N := some 15) #[true, true, true, false, false, false, false, false, false] rfl rfl (by kernel_rfl) (by decide) (fun K hK => ?_)
  refine goes_ Tryd.func43 (by kernel_rfl) rfl #[.int .i64 lost, .int .i64 0, .int .i64 6] (by rfl) rfl rfl (by simp only [List.map_toArray, List.map_cons, List.map_nil]; rfl) ?_
  refine (sits43 lost 0 6 _).mono ?_
  rw [hl1]
  rintro e w3 ⟨rfl, hf3⟩
  refine ⟨_, rfl, ?_⟩
  have H3 := Lib.hid (Fr0.trans (Fr.drew (Fr.refl _ W)) hf3)
  refine hK.out _ _ ⟨(H3.out.cell0 u0), (H3.out.cell0 u1)⟩ (fun hHeld => ?_)
  clear hK K
  refine norm_ (a' := ?_) ?_ ?_
  rotate_left
  · show Act.put _ (some 15) _ = _
    simp only [Act.put, List.setIfInBounds_toArray, List.set_cons_zero, List.set_cons_succ, i64_w, i32_w]
    rfl
  refine pure_ (i := 3) (N := some 16) (v := ?_) (a' := ?_) #[true, true, true, true, false, false, false, false, false] rfl rfl (by kernel_rfl) (fun _ _ _ h => h) (Or.inl ⟨by rfl, ?_⟩) ?_ ?_
  rotate_left
  · intro w'
    go_simp
    with_reducible rfl
  rotate_left
  · simp only [Act.put, List.setIfInBounds_toArray, List.set_cons_zero, List.set_cons_succ, i64_w, i32_w]
    rfl
  refine pure_ (i := 4) (N := some 17) (v := ?_) (a' := ?_) #[true, true, true, true, true, false, false, false, false] rfl rfl (by kernel_rfl) (fun _ _ _ h => h) (Or.inl ⟨by rfl, ?_⟩) ?_ ?_
  rotate_left
  · intro w'
    go_simp
    with_reducible rfl
  rotate_left
  · simp only [Act.put, List.setIfInBounds_toArray, List.set_cons_zero, List.set_cons_succ, i64_w, i32_w]
    rfl
  refine one_ (i := 5) (N := some 18) #[true, true, true, true, true, true, false, false, false] rfl rfl (by kernel_rfl) (by decide) (fun K hK => ?_)
  refine goes_ Tryd.func43 (by kernel_rfl) rfl #[.int .i64 (m : Int), .int .i64 1, .int .i64 64] (by rfl) rfl rfl (by simp only [List.map_toArray, List.map_cons, List.map_nil]; rfl) ?_
  with_reducible refine (sits43 (m : Int) 1 64 _).mono ?_
  rintro e w4 ⟨rfl, hf4⟩
  refine ⟨_, rfl, ?_⟩
  have H4 := Lib.hid (Fr0.trans H3.out hf4)
  refine hK.out _ _ ⟨(H4.out.cell0 u0), (H4.out.cell0 u1)⟩ (fun hHeld => ?_)
  clear hK K
  refine norm_ (a' := ?_) ?_ ?_
  rotate_left
  · show Act.put _ (some 18) _ = _
    simp only [Act.put, List.setIfInBounds_toArray, List.set_cons_zero, List.set_cons_succ, i64_w, i32_w]
    rfl
  refine pure_ (i := 6) (N := some 19) (v := ?_) (a' := ?_) #[true, true, true, true, true, true, true, false, false] rfl rfl (by kernel_rfl) (fun _ _ _ h => h) (Or.inl ⟨by rfl, ?_⟩) ?_ ?_
  rotate_left
  · intro w'
    go_simp
    with_reducible rfl
  rotate_left
  · simp only [Act.put, List.setIfInBounds_toArray, List.set_cons_zero, List.set_cons_succ, i64_w, i32_w]
    rfl
  refine one_ (i := 7) (N := some 20) #[true, true, true, true, true, true, true, true, false] rfl rfl (by kernel_rfl) (by decide) (fun K hK => ?_)
  refine goes_ Tryd.func58 (by kernel_rfl) rfl #[.agg #[.int .i64 g, .slice A l.length c], .bool (isIn (m : Int) 1 64)] (by rfl) rfl rfl (by simp only [List.map_toArray, List.map_cons, List.map_nil]; rfl) ?_
  refine (asked58 (HB.out.fr (Fr0.trans HF0.out H4.out)) _).mono ?_
  rw [hE]
  rintro e w5 ⟨rfl, hf5⟩
  refine ⟨_, rfl, ?_⟩
  have H5 := Lib.hid (Fr0.trans H4.out hf5)
  refine hK.out _ _ ⟨(H5.out.cell0 u0), (H5.out.cell0 u1)⟩ (fun hHeld => ?_)
  clear hK K
  refine norm_ (a' := ?_) ?_ ?_
  rotate_left
  · show Act.put _ (some 20) _ = _
    simp only [Act.put, List.setIfInBounds_toArray, List.set_cons_zero, List.set_cons_succ, i64_w, i32_w]
    rfl
  refine pure_ (i := 8) (N := some 9) (v := ?_) (a' := ?_) #[true, true, true, true, true, true, true, true, true] rfl rfl (by kernel_rfl) (fun _ _ _ h => h) (Or.inl ⟨by rfl, ?_⟩) ?_ ?_
  rotate_left
  · intro w'
    go_simp
    with_reducible rfl
  rotate_left
  · simp only [Act.put, List.setIfInBounds_toArray, List.set_cons_zero, List.set_cons_succ, i64_w, i32_w]
    rfl
  refine done_ (by kernel_rfl) ?_
  have hz5 := H5.out.size
  have hlt7 := HC7.out.lt
  have D6 := HC6.out.fr0 H5.out
  have D7 := HC7.out.fr0 H5.out
  have d60 := D6.at_ 0 (v := .int .i64 0) rfl
  have d61 := D6.at_ 1 (v := .int .i64 0) rfl
  have z60 := D6.frz 0
  have z61 := D6.frz 1
  have d70 := D7.at_ 0 (v := .int .i64 0) rfl
  have d71 := D7.at_ 1 (v := .int .i64 0) rfl
  have z70 := D7.frz 0
  have z71 := D7.frz 1
  have HD6 := Lib.hid D6
  have HD7 := Lib.hid D7
  have v0 := H5.out.cell0 u0
  have v1 := H5.out.cell0 u1
  clear D6 D7 u0 u1
  go_upto_region 5 with (first
    | (go_at_call 87; refine (conf87 (HB.out.fr (Fr0.trans HF0.out H5.out)) hb lost m h1 h64 hr).mono ?_; rintro e w6 ⟨rfl, hf6⟩; (have HF6 := Lib.hid (Fr0.trans (Fr0.trans HF0.out H5.out) hf6)); (have HE6 := Lib.hid (HD6.out.fr0 hf6)); (have HE7 := Lib.hid (HD7.out.fr0 hf6)); clear hf6))
  have hfz : Fr0 w ((w6.alloc (.cells #[.int .i64 0, .int .i64 0] 38)).alloc (.cells #[.int .i64 0, .int .i64 0] 38)) := (HF6.out.alloc _).alloc _
  have b6 := Bx.alloc (Bx.alloc HE6.out (.cells #[.int .i64 0, .int .i64 0] 38)) (.cells #[.int .i64 0, .int .i64 0] 38)
  have b7 := Bx.alloc (Bx.alloc HE7.out (.cells #[.int .i64 0, .int .i64 0] 38)) (.cells #[.int .i64 0, .int .i64 0] 38)
  have b10 : Bx ((w6.alloc (.cells #[.int .i64 0, .int .i64 0] 38)).alloc (.cells #[.int .i64 0, .int .i64 0] 38)) w6.heap.size 38 #[.int .i64 0, .int .i64 0] := (Bx.of_new rfl).alloc _
  have b11 : Bx ((w6.alloc (.cells #[.int .i64 0, .int .i64 0] 38)).alloc (.cells #[.int .i64 0, .int .i64 0] 38)) (w6.heap.size + 1) 38 #[.int .i64 0, .int .i64 0] := Bx.of_new (by simp)
  have hz6 := HE7.out.lt
  generalize ((w6.alloc (.cells #[.int .i64 0, .int .i64 0] 38)).alloc (.cells #[.int .i64 0, .int .i64 0] 38)) = W7 at hfz b6 b7 b10 b11 ⊢
  have HFZ := Lib.hid hfz
  have HD6 := Lib.hid b6
  have HD7 := Lib.hid b7
  have HB10 := Lib.hid b10
  have HB11 := Lib.hid b11
  have e60 := b6.at_ 0 (v := .int .i64 0) rfl
  have e61 := b6.at_ 1 (v := .int .i64 0) rfl
  have y60 := b6.frz 0
  have y61 := b6.frz 1
  have e70 := b7.at_ 0 (v := .int .i64 0) rfl
  have e71 := b7.at_ 1 (v := .int .i64 0) rfl
  have y70 := b7.frz 0
  have y71 := b7.frz 1
  have x0 := b10.at_ 0 (v := .int .i64 0) rfl
  have x1 := b10.at_ 1 (v := .int .i64 0) rfl
  have x2 := b11.at_ 0 (v := .int .i64 0) rfl
  have x3 := b11.at_ 1 (v := .int .i64 0) rfl
  clear hfz b6 b7 b10 b11
  clear d60 d61 z60 z61 d70 d71 z70 z71 v0 v1
  go_wp2
  have N6 := Bx.far (Bx.far (two_set HD6.out (.int .i64 0) (.int .i64 0)) (p := ⟨w.heap.size + 1 + 1, 0, none⟩) (by dsimp only; omega) (.int .i64 0)) (p := ⟨w.heap.size + 1 + 1, 1, none⟩) (by dsimp only; omega) (.int .i64 0)
  have N7 := two_set (Bx.far (Bx.far HD7.out (p := ⟨w.heap.size + 1, 0, none⟩) (by dsimp only; omega) (.int .i64 0)) (p := ⟨w.heap.size + 1, 1, none⟩) (by dsimp only; omega) (.int .i64 0)) (.int .i64 0) (.int .i64 0)
  refine bodyPost_ret (res36 rfl rfl rfl N6 N7) rfl ⟨rfl, ?_⟩
  exact ((((HFZ.out.setCell (.inr (by dsimp only; omega)) _).setCell (.inr (by dsimp only; omega)) _).setCell (.inr (by dsimp only; omega)) _).setCell (.inr (by dsimp only; omega)) _)

set_option maxHeartbeats 4000000 in
set_option maxRecDepth 100000 in
theorem confused_some (g : Int) (A : Option Addr) (c : Nat) (l : List S63) (lost : Int) (w : World) (hB : Book w A c l) (m : Nat) (h1 : 1 ≤ m) (h64 : m ≤ 64) (hb : bookOk g l = true) (hE : openE g l (isIn (m : Int) 1 64) = 0) (hl1 : isIn lost 0 6 = true) (r1 r2 r3 r4 : Int) (hr : confT ((pairsL (spotsN l l.length)).find? (confP l lost (m : Int))) = (r1, r2, r3, r4, true)) : Calls Tryd.prog 36 #[.agg #[.int .i64 g, .slice A l.length c], .int .i64 lost, .int .i64 (m : Int)] w fun e w' => e = .returned (.tuple #[.agg #[.int .i64 r1, .int .i64 r2], .agg #[.int .i64 r3, .int .i64 r4], .int .i64 0]) ∧ Fr0 w w' := by
  have HB := Lib.hid hB
  have hf0 : Fr0 w (((w.alloc (.cells #[.int .i64 g, .slice A l.length c] 24)).alloc (.cells #[.int .i64 0, .int .i64 0] 38)).alloc (.cells #[.int .i64 0, .int .i64 0] 38)) := (((Fr.refl _ _).alloc _).alloc _).alloc _
  have c3 : Bx (((w.alloc (.cells #[.int .i64 g, .slice A l.length c] 24)).alloc (.cells #[.int .i64 0, .int .i64 0] 38)).alloc (.cells #[.int .i64 0, .int .i64 0] 38)) w.heap.size 24 #[.int .i64 g, .slice A l.length c] := ((Bx.of_new rfl).alloc _).alloc _
  have c6 : Bx (((w.alloc (.cells #[.int .i64 g, .slice A l.length c] 24)).alloc (.cells #[.int .i64 0, .int .i64 0] 38)).alloc (.cells #[.int .i64 0, .int .i64 0] 38)) (w.heap.size + 1) 38 #[.int .i64 0, .int .i64 0] := (Bx.of_new (by simp)).alloc _
  have c7 : Bx (((w.alloc (.cells #[.int .i64 g, .slice A l.length c] 24)).alloc (.cells #[.int .i64 0, .int .i64 0] 38)).alloc (.cells #[.int .i64 0, .int .i64 0] 38)) (w.heap.size + 1 + 1) 38 #[.int .i64 0, .int .i64 0] := Bx.of_new (by simp)
  clear hB
  go_enter Tryd.func36, Tryd.ntmps36
  go_wp2
  generalize hW : (((w.alloc (.cells #[.int .i64 g, .slice A l.length c] 24)).alloc (.cells #[.int .i64 0, .int .i64 0] 38)).alloc (.cells #[.int .i64 0, .int .i64 0] 38)) = W at hf0 c3 c6 c7 ⊢
  clear hW
  have HF0 := Lib.hid hf0
  have HC3 := Lib.hid c3
  have HC6 := Lib.hid c6
  have HC7 := Lib.hid c7
  have u0 := c3.at_ 0 (v := .int .i64 g) rfl
  have u1 := c3.at_ 1 (v := .slice A l.length c) rfl
  clear hf0 c3 c6 c7
  refine start_ (n := 9) (S := fun w' => w'.cell? ⟨w.heap.size, 0, none⟩ = some (.int .i64 g) ∧ w'.cell? ⟨w.heap.size, 1, none⟩ = some (.slice A l.length c)) (ds := []) #[false, false, false, false, false, false, false, false, false] (by kernel_rfl) rfl rfl ⟨u0, u1⟩ (fun hHeld => ?_)
  refine pure_ (i := 1) (N := some 14) (v := ?_) (a' := ?_) #[false, true, false, false, false, false, false, false, false] rfl rfl (by kernel_rfl) (fun _ _ _ h => h) (Or.inl ⟨by rfl, ?_⟩) ?_ ?_
  rotate_left
  · intro w'
    go_simp
    with_reducible rfl
  rotate_left
  · simp only [Act.put, List.setIfInBounds_toArray, List.set_cons_zero, List.set_cons_succ, i64_w, i32_w]
    rfl
  refine take_ (i := 0) (N := some 13) (v := ?_) (a' := ?_) #[true, true, false, false, false, false, false, false, false] rfl rfl (by kernel_rfl) (fun _ _ _ h => h) (Or.inl ⟨by rfl, ?_⟩) hHeld ?_ ?_
  rotate_left
  · rintro w' ⟨s0, s1⟩
    go_simp
    with_reducible rfl
  rotate_left
  · simp only [Act.put, List.setIfInBounds_toArray, List.set_cons_zero, List.set_cons_succ, i64_w, i32_w]
    rfl
  refine one_ (i := 2) (N := some 15) #[true, true, true, false, false, false, false, false, false] rfl rfl (by kernel_rfl) (by decide) (fun K hK => ?_)
  refine goes_ Tryd.func43 (by kernel_rfl) rfl #[.int .i64 lost, .int .i64 0, .int .i64 6] (by rfl) rfl rfl (by simp only [List.map_toArray, List.map_cons, List.map_nil]; rfl) ?_
  refine (sits43 lost 0 6 _).mono ?_
  rw [hl1]
  rintro e w3 ⟨rfl, hf3⟩
  refine ⟨_, rfl, ?_⟩
  have H3 := Lib.hid (Fr0.trans (Fr.drew (Fr.refl _ W)) hf3)
  refine hK.out _ _ ⟨(H3.out.cell0 u0), (H3.out.cell0 u1)⟩ (fun hHeld => ?_)
  clear hK K
  refine norm_ (a' := ?_) ?_ ?_
  rotate_left
  · show Act.put _ (some 15) _ = _
    simp only [Act.put, List.setIfInBounds_toArray, List.set_cons_zero, List.set_cons_succ, i64_w, i32_w]
    rfl
  refine pure_ (i := 3) (N := some 16) (v := ?_) (a' := ?_) #[true, true, true, true, false, false, false, false, false] rfl rfl (by kernel_rfl) (fun _ _ _ h => h) (Or.inl ⟨by rfl, ?_⟩) ?_ ?_
  rotate_left
  · intro w'
    go_simp
    with_reducible rfl
  rotate_left
  · simp only [Act.put, List.setIfInBounds_toArray, List.set_cons_zero, List.set_cons_succ, i64_w, i32_w]
    rfl
  refine pure_ (i := 4) (N := some 17) (v := ?_) (a' := ?_) #[true, true, true, true, true, false, false, false, false] rfl rfl (by kernel_rfl) (fun _ _ _ h => h) (Or.inl ⟨by rfl, ?_⟩) ?_ ?_
  rotate_left
  · intro w'
    go_simp
    with_reducible rfl
  rotate_left
  · simp only [Act.put, List.setIfInBounds_toArray, List.set_cons_zero, List.set_cons_succ, i64_w, i32_w]
    rfl
  refine one_ (i := 5) (N := some 18) #[true, true, true, true, true, true, false, false, false] rfl rfl (by kernel_rfl) (by decide) (fun K hK => ?_)
  refine goes_ Tryd.func43 (by kernel_rfl) rfl #[.int .i64 (m : Int), .int .i64 1, .int .i64 64] (by rfl) rfl rfl (by simp only [List.map_toArray, List.map_cons, List.map_nil]; rfl) ?_
  with_reducible refine (sits43 (m : Int) 1 64 _).mono ?_
  rintro e w4 ⟨rfl, hf4⟩
  refine ⟨_, rfl, ?_⟩
  have H4 := Lib.hid (Fr0.trans H3.out hf4)
  refine hK.out _ _ ⟨(H4.out.cell0 u0), (H4.out.cell0 u1)⟩ (fun hHeld => ?_)
  clear hK K
  refine norm_ (a' := ?_) ?_ ?_
  rotate_left
  · show Act.put _ (some 18) _ = _
    simp only [Act.put, List.setIfInBounds_toArray, List.set_cons_zero, List.set_cons_succ, i64_w, i32_w]
    rfl
  refine pure_ (i := 6) (N := some 19) (v := ?_) (a' := ?_) #[true, true, true, true, true, true, true, false, false] rfl rfl (by kernel_rfl) (fun _ _ _ h => h) (Or.inl ⟨by rfl, ?_⟩) ?_ ?_
  rotate_left
  · intro w'
    go_simp
    with_reducible rfl
  rotate_left
  · simp only [Act.put, List.setIfInBounds_toArray, List.set_cons_zero, List.set_cons_succ, i64_w, i32_w]
    rfl
  refine one_ (i := 7) (N := some 20) #[true, true, true, true, true, true, true, true, false] rfl rfl (by kernel_rfl) (by decide) (fun K hK => ?_)
  refine goes_ Tryd.func58 (by kernel_rfl) rfl #[.agg #[.int .i64 g, .slice A l.length c], .bool (isIn (m : Int) 1 64)] (by rfl) rfl rfl (by simp only [List.map_toArray, List.map_cons, List.map_nil]; rfl) ?_
  refine (asked58 (HB.out.fr (Fr0.trans HF0.out H4.out)) _).mono ?_
  rw [hE]
  rintro e w5 ⟨rfl, hf5⟩
  refine ⟨_, rfl, ?_⟩
  have H5 := Lib.hid (Fr0.trans H4.out hf5)
  refine hK.out _ _ ⟨(H5.out.cell0 u0), (H5.out.cell0 u1)⟩ (fun hHeld => ?_)
  clear hK K
  refine norm_ (a' := ?_) ?_ ?_
  rotate_left
  · show Act.put _ (some 20) _ = _
    simp only [Act.put, List.setIfInBounds_toArray, List.set_cons_zero, List.set_cons_succ, i64_w, i32_w]
    rfl
  refine pure_ (i := 8) (N := some 9) (v := ?_) (a' := ?_) #[true, true, true, true, true, true, true, true, true] rfl rfl (by kernel_rfl) (fun _ _ _ h => h) (Or.inl ⟨by rfl, ?_⟩) ?_ ?_
  rotate_left
  · intro w'
    go_simp
    with_reducible rfl
  rotate_left
  · simp only [Act.put, List.setIfInBounds_toArray, List.set_cons_zero, List.set_cons_succ, i64_w, i32_w]
    rfl
  refine done_ (by kernel_rfl) ?_
  have hz5 := H5.out.size
  have hlt7 := HC7.out.lt
  have D6 := HC6.out.fr0 H5.out
  have D7 := HC7.out.fr0 H5.out
  have d60 := D6.at_ 0 (v := .int .i64 0) rfl
  have d61 := D6.at_ 1 (v := .int .i64 0) rfl
  have z60 := D6.frz 0
  have z61 := D6.frz 1
  have d70 := D7.at_ 0 (v := .int .i64 0) rfl
  have d71 := D7.at_ 1 (v := .int .i64 0) rfl
  have z70 := D7.frz 0
  have z71 := D7.frz 1
  have HD6 := Lib.hid D6
  have HD7 := Lib.hid D7
  have v0 := H5.out.cell0 u0
  have v1 := H5.out.cell0 u1
  clear D6 D7 u0 u1
  go_upto_region 5 with (first
    | (go_at_call 87; refine (conf87 (HB.out.fr (Fr0.trans HF0.out H5.out)) hb lost m h1 h64 hr).mono ?_; rintro e w6 ⟨rfl, hf6⟩; (have HF6 := Lib.hid (Fr0.trans (Fr0.trans HF0.out H5.out) hf6)); (have HE6 := Lib.hid (HD6.out.fr0 hf6)); (have HE7 := Lib.hid (HD7.out.fr0 hf6)); clear hf6))
  have hfz : Fr0 w ((w6.alloc (.cells #[.int .i64 r1, .int .i64 r2] 38)).alloc (.cells #[.int .i64 r3, .int .i64 r4] 38)) := (HF6.out.alloc _).alloc _
  have b6 := Bx.alloc (Bx.alloc HE6.out (.cells #[.int .i64 r1, .int .i64 r2] 38)) (.cells #[.int .i64 r3, .int .i64 r4] 38)
  have b7 := Bx.alloc (Bx.alloc HE7.out (.cells #[.int .i64 r1, .int .i64 r2] 38)) (.cells #[.int .i64 r3, .int .i64 r4] 38)
  have b10 : Bx ((w6.alloc (.cells #[.int .i64 r1, .int .i64 r2] 38)).alloc (.cells #[.int .i64 r3, .int .i64 r4] 38)) w6.heap.size 38 #[.int .i64 r1, .int .i64 r2] := (Bx.of_new rfl).alloc _
  have b11 : Bx ((w6.alloc (.cells #[.int .i64 r1, .int .i64 r2] 38)).alloc (.cells #[.int .i64 r3, .int .i64 r4] 38)) (w6.heap.size + 1) 38 #[.int .i64 r3, .int .i64 r4] := Bx.of_new (by simp)
  have hz6 := HE7.out.lt
  generalize ((w6.alloc (.cells #[.int .i64 r1, .int .i64 r2] 38)).alloc (.cells #[.int .i64 r3, .int .i64 r4] 38)) = W7 at hfz b6 b7 b10 b11 ⊢
  have HFZ := Lib.hid hfz
  have HD6 := Lib.hid b6
  have HD7 := Lib.hid b7
  have HB10 := Lib.hid b10
  have HB11 := Lib.hid b11
  have e60 := b6.at_ 0 (v := .int .i64 0) rfl
  have e61 := b6.at_ 1 (v := .int .i64 0) rfl
  have y60 := b6.frz 0
  have y61 := b6.frz 1
  have e70 := b7.at_ 0 (v := .int .i64 0) rfl
  have e71 := b7.at_ 1 (v := .int .i64 0) rfl
  have y70 := b7.frz 0
  have y71 := b7.frz 1
  have x0 := b10.at_ 0 (v := .int .i64 r1) rfl
  have x1 := b10.at_ 1 (v := .int .i64 r2) rfl
  have x2 := b11.at_ 0 (v := .int .i64 r3) rfl
  have x3 := b11.at_ 1 (v := .int .i64 r4) rfl
  clear hfz b6 b7 b10 b11
  clear d60 d61 z60 z61 d70 d71 z70 z71 v0 v1
  have hne67 : ¬ (w6.heap.size = w.heap.size + 1) := by omega
  have hne68 : ¬ (w6.heap.size = w.heap.size + 1 + 1) := by omega
  go_upto_region 7 with fail
  refine start_ (n := 5) (S := fun w' => w'.cell? ⟨w6.heap.size, 0, none⟩ = some (.int .i64 r1) ∧ w'.cell? ⟨w6.heap.size, 1, none⟩ = some (.int .i64 r2) ∧ w'.cell? ⟨w6.heap.size + 1, 0, none⟩ = some (.int .i64 r3) ∧ w'.cell? ⟨w6.heap.size + 1, 1, none⟩ = some (.int .i64 r4)) (ds := [3]) #[false, false, false, false, false] (by kernel_rfl) rfl rfl ⟨x0, x1, x2, x3⟩ (fun hHeld => ?_)
  refine take_ (i := 0) (N := some 38) (v := ?_) (a' := ?_) #[true, false, false, false, false] rfl rfl (by kernel_rfl) (fun _ _ _ h => h) (Or.inl ⟨by rfl, ?_⟩) hHeld ?_ ?_
  rotate_left
  · rintro w' ⟨s0, s1, s2, s3⟩
    go_simp
    with_reducible rfl
  rotate_left
  · simp only [Act.put, List.setIfInBounds_toArray, List.set_cons_zero, List.set_cons_succ, i64_w, i32_w]
    rfl
  refine take_ (i := 1) (N := some 39) (v := ?_) (a' := ?_) #[true, true, false, false, false] rfl rfl (by kernel_rfl) (fun _ _ _ h => h) (Or.inl ⟨by rfl, ?_⟩) hHeld ?_ ?_
  rotate_left
  · rintro w' ⟨s0, s1, s2, s3⟩
    go_simp
    with_reducible rfl
  rotate_left
  · simp only [Act.put, List.setIfInBounds_toArray, List.set_cons_zero, List.set_cons_succ, i64_w, i32_w]
    rfl
  refine one_ (i := 2) (N := none) #[true, true, true, false, false] rfl rfl (by kernel_rfl) (by decide) (fun K hK => ?_)
  refine skip_ (w1 := ?_) (by rfl) rfl ?_ ?_
  rotate_left
  · go_simp
    rfl
  have KA10 := Lib.hid (Bx.drew (Bx.far (Bx.far HB10.out (p := ⟨w.heap.size + 1, 0, none⟩) (by dsimp only; omega) (.int .i64 r1)) (p := ⟨w.heap.size + 1, 1, none⟩) (by dsimp only; omega) (.int .i64 r2)))
  have KA11 := Lib.hid (Bx.drew (Bx.far (Bx.far HB11.out (p := ⟨w.heap.size + 1, 0, none⟩) (by dsimp only; omega) (.int .i64 r1)) (p := ⟨w.heap.size + 1, 1, none⟩) (by dsimp only; omega) (.int .i64 r2)))
  refine hK.out _ _ ⟨(KA10.out.at_ 0 rfl), (KA10.out.at_ 1 rfl), (KA11.out.at_ 0 rfl), (KA11.out.at_ 1 rfl)⟩ (fun hHeld => ?_)
  clear hK K
  refine last_ (i := 3) (N := none) #[true, true, true, true, false] rfl rfl (by kernel_rfl) (by decide) (fun K hK => ?_)
  refine skip_ (w1 := ?_) (by rfl) rfl ?_ ?_
  rotate_left
  · go_simp
    rfl
  refine hK.out _ _ ?_
  clear hK K
  refine pure_ (i := 4) (N := some 8) (v := ?_) (a' := ?_) #[true, true, true, true, true] rfl rfl (by kernel_rfl) (fun _ _ _ h => h) (Or.inl ⟨by rfl, ?_⟩) ?_ ?_
  rotate_left
  · intro w'
    go_simp
    with_reducible rfl
  rotate_left
  · simp only [Act.put, List.setIfInBounds_toArray, List.set_cons_zero, List.set_cons_succ, i64_w, i32_w]
    rfl
  refine done_ (by kernel_rfl) ?_
  have N6 := Bx.drew (Bx.far (Bx.far (two_set HD6.out (.int .i64 r1) (.int .i64 r2)) (p := ⟨w.heap.size + 1 + 1, 0, none⟩) (by dsimp only; omega) (.int .i64 r3)) (p := ⟨w.heap.size + 1 + 1, 1, none⟩) (by dsimp only; omega) (.int .i64 r4))
  have N7 := Bx.drew (two_set (Bx.far (Bx.far HD7.out (p := ⟨w.heap.size + 1, 0, none⟩) (by dsimp only; omega) (.int .i64 r1)) (p := ⟨w.heap.size + 1, 1, none⟩) (by dsimp only; omega) (.int .i64 r2)) (.int .i64 r3) (.int .i64 r4))
  go_wp2
  refine bodyPost_ret (res36 rfl rfl rfl N6 N7) rfl ⟨rfl, ?_⟩
  exact Fr.drew ((((HFZ.out.setCell (.inr (by dsimp only; omega)) _).setCell (.inr (by dsimp only; omega)) _).setCell (.inr (by dsimp only; omega)) _).setCell (.inr (by dsimp only; omega)) _)

theorem confused_refs (g : Int) (A : Option Addr) (c : Nat) (l : List S63) (lost many : Int) (w : World) (hB : Book w A c l) :
    Calls Tryd.prog 36 #[.agg #[.int .i64 g, .slice A l.length c], .int .i64 lost, .int .i64 many] w fun e w' => e = .returned (.tuple #[.agg #[.int .i64 (confF g l lost many).1.1.f0, .int .i64 (confF g l lost many).1.1.f1], .agg #[.int .i64 (confF g l lost many).1.2.f0, .int .i64 (confF g l lost many).1.2.f1], .int .i64 (confF g l lost many).2]) ∧ Fr0 w w' := by
  unfold confF okConfused
  by_cases hl : isIn lost 0 6 = true
  · rw [hl, Bool.true_and]
    by_cases hz : openE g l (isIn many 1 64) = 0
    · obtain ⟨hb, hm⟩ := openE_ok hz
      rw [isIn_iff] at hm
      obtain ⟨m, rfl⟩ : ∃ m : Nat, many = m := ⟨many.toNat, by omega⟩
      rw [if_pos hz]
      cases hf : (pairsL (spotsN l l.length)).find? (confP l lost (m : Int)) with
      | none => exact confused_none g A c l lost w hB m (by omega) (by omega) hb hz hl (by rw [hf]; rfl)
      | some st => exact confused_some g A c l lost w hB m (by omega) (by omega) hb hz hl st.1.f0 st.1.f1 st.2.f0 st.2.f1 (by rw [hf]; rfl)
    · rw [if_neg hz]
      exact confused_no2 g A c l lost many w hB _ rfl hz hl
  · rw [Bool.not_eq_true] at hl
    rw [hl, Bool.false_and]
    have hz : ¬ openE g l false = 0 := fun h => by have := (openE_ok h).2; cases this
    rw [if_neg hz]
    exact confused_no g A c l lost many w hB _ rfl hz hl
/-! ### Sure -/
theorem le_fold (l : List S63) (lost : Int) : ∀ (ps : List (S38 × S38)) (acc : Int), acc ≤ ps.foldl (sureS l lost) acc
  | [], acc => Int.le_refl _
  | p :: ps, acc => by
    have := le_fold l lost ps (sureS l lost acc p)
    have h1 : acc ≤ sureS l lost acc p := by unfold sureS mx; split <;> omega
    rw [List.foldl_cons]
    omega
theorem find_fold (l : List S63) (lost m : Int) : ∀ (ps : List (S38 × S38)) (acc : Int), acc < m →
    (ps.find? (confP l lost m) = none ∧ ps.foldl (sureS l lost) acc < m) ∨ ∃ st, ps.find? (confP l lost m) = some st ∧ m ≤ ps.foldl (sureS l lost) acc
  | [], acc, h => .inl ⟨rfl, h⟩
  | p :: ps, acc, h => by
    rw [List.foldl_cons]
    by_cases c : untilF l p.1.f0 p.1.f1 p.2.f0 p.2.f1 lost ≥ m
    · right
      have := le_fold l lost ps (sureS l lost acc p)
      have h1 : m ≤ sureS l lost acc p := by unfold sureS mx; split <;> omega
      exact ⟨p, List.find?_cons_of_pos (by unfold confP; exact decide_eq_true c), by omega⟩
    · rw [List.find?_cons_of_neg (by unfold confP; rw [decide_eq_true_eq]; exact c)]
      exact find_fold l lost m ps _ (by unfold sureS mx; split <;> omega)
theorem conf_at (l : List S63) (lost m : Int) (hm : 1 ≤ m) : ∃ r1 r2 r3 r4 : Int, confT ((pairsL (spotsN l l.length)).find? (confP l lost m)) = (r1, r2, r3, r4, decide (m ≤ sureM l lost)) := by
  rcases find_fold l lost m (pairsL (spotsN l l.length)) 0 (by omega) with ⟨h1, h2⟩ | ⟨st, h1, h2⟩
  · rw [h1, decide_eq_false (show ¬ m ≤ sureM l lost by unfold sureM; omega)]
    exact ⟨0, 0, 0, 0, rfl⟩
  · rw [h1, decide_eq_true (show m ≤ sureM l lost from h2)]
    exact ⟨_, _, _, _, rfl⟩
set_option maxHeartbeats 4000000 in
set_option maxRecDepth 100000 in
theorem sure_refs (g : Int) (A : Option Addr) (c : Nat) (l : List S63) (lost : Int) (w : World) (hB : Book w A c l) :
    Calls Tryd.prog 38 #[.agg #[.int .i64 g, .slice A l.length c], .int .i64 lost] w fun e w' => e = .returned (.tuple #[.int .i64 (sureF g l lost).1, .int .i64 (sureF g l lost).2]) ∧ Fr0 w w' := by
  have HB := Lib.hid hB
  have HSF := Lib.hid (show sureF g l lost = if openE g l (isIn lost 0 6) = 0 then (if sureM l lost = 64 then (0, 4) else (sureM l lost + 1, 0)) else (0, openE g l (isIn lost 0 6)) from rfl)
  have HOK := Lib.hid (fun (h : openE g l (isIn lost 0 6) = 0) => (openE_ok h).1)
  have hE : openE g l (isIn lost 0 6) = openE g l (isIn lost 0 6) := rfl
  have HSM := Lib.hid (sureS_bnd l lost (pairsL (spotsN l l.length)) 0 (by omega))
  generalize sureF g l lost = SF at *
  generalize hE0 : openE g l (isIn lost 0 6) = E at *
  have hf0 : Fr0 w (w.alloc (.cells #[.int .i64 g, .slice A l.length c] 24)) := (Fr.refl _ _).alloc _
  have c3 : Bx (w.alloc (.cells #[.int .i64 g, .slice A l.length c] 24)) w.heap.size 24 #[.int .i64 g, .slice A l.length c] := Bx.of_new rfl
  clear hB
  go_enter Tryd.func38, Tryd.ntmps38
  go_wp2
  generalize hW : (w.alloc (.cells #[.int .i64 g, .slice A l.length c] 24)) = W at hf0 c3 ⊢
  clear hW
  have HF0 := Lib.hid hf0
  have HC3 := Lib.hid c3
  have u0 := c3.at_ 0 (v := .int .i64 g) rfl
  have u1 := c3.at_ 1 (v := .slice A l.length c) rfl
  clear hf0 c3
  refine start_ (n := 5) (S := fun w' => w'.cell? ⟨w.heap.size, 0, none⟩ = some (.int .i64 g) ∧ w'.cell? ⟨w.heap.size, 1, none⟩ = some (.slice A l.length c)) (ds := []) #[false, false, false, false, false] (by kernel_rfl) rfl rfl ⟨u0, u1⟩ (fun hHeld => ?_)
  refine pure_ (i := 1) (N := some 12) (v := ?_) (a' := ?_) #[false, true, false, false, false] rfl rfl (by kernel_rfl) (fun _ _ _ h => h) (Or.inl ⟨by rfl, ?_⟩) ?_ ?_
  rotate_left
  · intro w'
    go_simp
    with_reducible rfl
  rotate_left
  · simp only [Act.put, List.setIfInBounds_toArray, List.set_cons_zero, List.set_cons_succ, i64_w, i32_w]
    rfl
  refine take_ (i := 0) (N := some 11) (v := ?_) (a' := ?_) #[true, true, false, false, false] rfl rfl (by kernel_rfl) (fun _ _ _ h => h) (Or.inl ⟨by rfl, ?_⟩) hHeld ?_ ?_
  rotate_left
  · rintro w' ⟨s0, s1⟩
    go_simp
    with_reducible rfl
  rotate_left
  · simp only [Act.put, List.setIfInBounds_toArray, List.set_cons_zero, List.set_cons_succ, i64_w, i32_w]
    rfl
  refine one_ (i := 2) (N := some 13) #[true, true, true, false, false] rfl rfl (by kernel_rfl) (by decide) (fun K hK => ?_)
  refine goes_ Tryd.func43 (by kernel_rfl) rfl #[.int .i64 lost, .int .i64 0, .int .i64 6] (by rfl) rfl rfl (by simp only [List.map_toArray, List.map_cons, List.map_nil]; rfl) ?_
  with_reducible refine (sits43 lost 0 6 _).mono ?_
  rintro e w3 ⟨rfl, hf3⟩
  refine ⟨_, rfl, ?_⟩
  have H3 := Lib.hid (Fr0.trans (Fr.drew (Fr.refl _ W)) hf3)
  refine hK.out _ _ ⟨(H3.out.cell0 u0), (H3.out.cell0 u1)⟩ (fun hHeld => ?_)
  clear hK K
  refine norm_ (a' := ?_) ?_ ?_
  rotate_left
  · show Act.put _ (some 13) _ = _
    simp only [Act.put, List.setIfInBounds_toArray, List.set_cons_zero, List.set_cons_succ, i64_w, i32_w]
    rfl
  refine one_ (i := 3) (N := some 14) #[true, true, true, true, false] rfl rfl (by kernel_rfl) (by decide) (fun K hK => ?_)
  refine goes_ Tryd.func58 (by kernel_rfl) rfl #[.agg #[.int .i64 g, .slice A l.length c], .bool (isIn lost 0 6)] (by rfl) rfl rfl (by simp only [List.map_toArray, List.map_cons, List.map_nil]; rfl) ?_
  refine (asked58 (HB.out.fr (Fr0.trans HF0.out H3.out)) _).mono ?_
  rw [hE0]
  rintro e w5 ⟨rfl, hf5⟩
  refine ⟨_, rfl, ?_⟩
  have H5 := Lib.hid (Fr0.trans H3.out hf5)
  refine hK.out _ _ ⟨(H5.out.cell0 u0), (H5.out.cell0 u1)⟩ (fun hHeld => ?_)
  clear hK K
  refine norm_ (a' := ?_) ?_ ?_
  rotate_left
  · show Act.put _ (some 14) _ = _
    simp only [Act.put, List.setIfInBounds_toArray, List.set_cons_zero, List.set_cons_succ, i64_w, i32_w]
    rfl
  refine pure_ (i := 4) (N := some 6) (v := ?_) (a' := ?_) #[true, true, true, true, true] rfl rfl (by kernel_rfl) (fun _ _ _ h => h) (Or.inl ⟨by rfl, ?_⟩) ?_ ?_
  rotate_left
  · intro w'
    go_simp
    with_reducible rfl
  rotate_left
  · simp only [Act.put, List.setIfInBounds_toArray, List.set_cons_zero, List.set_cons_succ, i64_w, i32_w]
    rfl
  refine done_ (by kernel_rfl) ?_
  have v0 := H5.out.cell0 u0
  have v1 := H5.out.cell0 u1
  have HF5 := Lib.hid (Fr0.trans HF0.out H5.out)
  clear u0 u1 hE
  by_cases hz : E = 0
  · subst hz
    have hb := HOK.out rfl
    have HS2 := Lib.hid (show SF = if sureM l lost = 64 then (0, 4) else (sureM l lost + 1, 0) from HSF.out.trans (if_pos rfl))
    clear HSF HOK
    have HSB := Lib.hid (show 0 ≤ sureM l lost ∧ sureM l lost ≤ 64 from HSM.out)
    clear HSM
    generalize hSM : sureM l lost = SM at *
    have HCA := Lib.hid (fun (m : Int) hm => conf_at l lost m hm)
    rw [hSM] at HCA
    clear hSM
    go_wp2
    go_loopw [7] (fun v wr => ∃ m : Nat, 1 ≤ m ∧ m ≤ 65 ∧ (m : Int) - 1 ≤ SM ∧ v = .int .i64 m ∧ Fr0 w5 wr) (fun v _ => (65 - intOf v).toNat)
    case atStart => exact ⟨1, by omega, by omega, by have := HSB.out; omega, by rfl, Fr.refl _ _⟩
    case round =>
      obtain ⟨m, h1, h65, hM, rfl, hfr⟩ := hrel
      have hv0 := hfr.cell0 v0
      have hv1 := hfr.cell0 v1
      have HFR := Lib.hid hfr
      clear hfr
      have hsb := HSB.out
      by_cases hlt : m ≤ 64
      · have hle : (m : Int) ≤ 64 := by omega
        obtain ⟨r1, r2, r3, r4, hr⟩ := HCA.out (m : Int) (by omega)
        by_cases hs : (m : Int) ≤ SM
        · rw [decide_eq_true hs] at hr
          have HR := Lib.hid hr
          have HSS := Lib.hid hs
          clear hr hs
          go_wp2_with (first | (go_at_call 87; refine (conf87 (HB.out.fr (Fr0.trans HF5.out HFR.out)) hb lost m h1 hlt HR.out).mono ?_; rintro e w6 ⟨rfl, hf6⟩; (have HF6 := Lib.hid hf6); clear hf6))
          go_roundw
          case rel => exact ⟨m + 1, by omega, by omega, by have := HSS.out; omega, by go_num, ((Fr0.trans HFR.out HF6.out).alloc _).alloc _⟩
          case measure => simp [intOf]; omega
        · rw [decide_eq_false hs] at hr
          have HR := Lib.hid hr
          have hSF : SF = ((m : Int), 0) := by
            rw [HS2.out, if_neg (by omega)]
            have e : SM + 1 = m := by omega
            rw [e]
          clear hr hs
          go_wp2_with (first | (go_at_call 87; refine (conf87 (HB.out.fr (Fr0.trans HF5.out HFR.out)) hb lost m h1 hlt HR.out).mono ?_; rintro e w6 ⟨rfl, hf6⟩; (have HF6 := Lib.hid hf6); clear hf6))
          refine bodyPost_ret (v := .tuple #[.int .i64 (m : Int), .int .i64 0]) (by simp [results, Tryd.results38, go_sem]) rfl ⟨by rw [hSF], ?_⟩
          exact Fr0.trans HF5.out (((Fr0.trans HFR.out HF6.out).alloc _).alloc _)
      · have hm : m = 65 := by omega
        have hSM64 : SM = 64 := by omega
        subst hm
        have hSF : SF = ((0 : Int), 4) := by rw [HS2.out, if_pos hSM64]
        go_wp2
        refine bodyPost_ret (v := .tuple #[.int .i64 0, .int .i64 4]) (by simp [results, Tryd.results38, go_sem]) rfl ⟨by rw [hSF], ?_⟩
        exact Fr0.trans HF5.out HFR.out
  · have hSF : SF = (0, E) := HSF.out.trans (if_neg hz)
    clear HSF HOK HSM
    go_wp2
    refine bodyPost_ret (v := .tuple #[.int .i64 0, .int .i64 E]) (by simp [results, Tryd.results38, go_sem]) rfl ⟨by rw [hSF], ?_⟩
    exact HF5.out
end Go.Proofs.YtephecfapclgfaaDoor.R
namespace Go.Proofs.YtephecfapclgfaaDoor.PRaspKeys
open Go.RowKit Go.Proofs.YtephecfapclgfaaDoorW.PrintWords Go.Proofs.YtephecfapclgfaaDoorW.PrintLast Go.Proofs.YtephecfapclgfaaDoor.R
def saronref05_Confused.f (a0_0 : Int) (l0_1 : List S63) (a1 : Int) (a2 : Int) : Option (Int × Int × Int × Int × Int) := some ((confF a0_0 l0_1 a1 a2).1.1.f0, (confF a0_0 l0_1 a1 a2).1.1.f1, (confF a0_0 l0_1 a1 a2).1.2.f0, (confF a0_0 l0_1 a1 a2).1.2.f1, (confF a0_0 l0_1 a1 a2).2)
theorem saronref05_Confused.calls (a0_0 : Int) (A0_1 : Option Addr) (c0_1 : Nat) (l0_1 : List S63) (a1 : Int) (a2 : Int) (r1_0 r1_1 r2_0 r2_1 r3 : Int) (w : World) (hr0_1 : Kd.C k63 w A0_1 l0_1.length l0_1) (hc0_1 : l0_1.length ≤ c0_1) (hG : Glob w) (h : saronref05_Confused.f a0_0 l0_1 a1 a2 = some (r1_0, r1_1, r2_0, r2_1, r3)) :
    Calls Tryd.prog 36 #[.agg #[.int .i64 a0_0, .slice A0_1 l0_1.length c0_1], .int .i64 a1, .int .i64 a2] w fun e w' => e = .returned (.tuple #[.agg #[.int .i64 r1_0, .int .i64 r1_1], .agg #[.int .i64 r2_0, .int .i64 r2_1], .int .i64 r3]) ∧ Below w.heap.size w w' := by
  have h := Option.some.inj h
  simp only [Prod.mk.injEq] at h
  obtain ⟨h1, h2, h3, h4, h5⟩ := h
  have hc := confused_refs a0_0 A0_1 c0_1 l0_1 a1 a2 w ⟨hr0_1, hc0_1, hG⟩
  rw [h1, h2, h3, h4, h5] at hc
  exact hc.mono fun e w' h => ⟨h.1, fr_below h.2⟩
def saronref05_Sure.f (a0_0 : Int) (l0_1 : List S63) (a1 : Int) : Option (Int × Int) := some (sureF a0_0 l0_1 a1)
theorem saronref05_Sure.calls (a0_0 : Int) (A0_1 : Option Addr) (c0_1 : Nat) (l0_1 : List S63) (a1 : Int) (r1 : Int) (r2 : Int) (w : World) (hr0_1 : Kd.C k63 w A0_1 l0_1.length l0_1) (hc0_1 : l0_1.length ≤ c0_1) (hG : Glob w) (h : saronref05_Sure.f a0_0 l0_1 a1 = some (r1, r2)) :
    Calls Tryd.prog 38 #[.agg #[.int .i64 a0_0, .slice A0_1 l0_1.length c0_1], .int .i64 a1] w fun e w' => e = .returned (.tuple #[.int .i64 r1, .int .i64 r2]) ∧ Below w.heap.size w w' := by
  have h : sureF a0_0 l0_1 a1 = (r1, r2) := Option.some.inj h
  have hc := sure_refs a0_0 A0_1 c0_1 l0_1 a1 w ⟨hr0_1, hc0_1, hG⟩
  rw [h] at hc
  exact hc.mono fun e w' h => ⟨h.1, fr_below h.2⟩
end Go.Proofs.YtephecfapclgfaaDoor.PRaspKeys
