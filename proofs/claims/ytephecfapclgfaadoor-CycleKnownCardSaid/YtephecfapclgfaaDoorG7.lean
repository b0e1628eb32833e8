import Derived.Test.YtephecfapclgfaaDoorG6
set_option linter.unusedVariables false
set_option linter.unusedSimpArgs false
namespace Go.Proofs.YtephecfapclgfaaDoor.R
open Go.RowKit Go.Shelf Go.Proofs.YtephecfapclgfaaDoorW.PrintWords Go.Proofs.YtephecfapclgfaaDoorW.PrintLast Go.Proofs.YtephecfapclgfaaDoorW.PrintMore Go.Proofs.YtephecfapclgfaaDoor.PRaspKeys Go.Proofs.YtephecfapclgfaaDoor.X
attribute [local go_sem] Oper.semAt_some
attribute [local go_sem high] eqA38 eqA97

theorem ints_new (w : World) (b : Nat) (t : TypeId) (xs : List Int) (cells : Array Value) (hc : cells = (xs.map (Value.int .i64)).toArray) (hl : xs.length ≤ 9223372036854775807) (hb : b = w.heap.size := by simp) : Kd.C (Kd.int .i64) (w.alloc (.cells cells t)) (some ⟨b, 0, none⟩) xs.length xs :=
  C_ints xs (Bx.of_new hb) hc hl
set_option maxHeartbeats 8000000 in
set_option maxRecDepth 100000 in
theorem at46 (a b : Int) (w : World) : Calls Tryd.prog 46 #[.int .i64 a, .int .i64 b] w fun e w' => e = .returned (.agg #[.int .i64 a, .int .i64 b]) ∧ Fr0 w w' := by
  go_enter Tryd.func46, Tryd.ntmps46
  go_wp2
  refine bodyPost_ret (results_cell_row rfl _ _ w.heap.size 38 #[.int .i64 a, .int .i64 b] (0, 0) _ rfl (World.alloc_heap_new w _) Tryd.underlying38 rfl (by kernel_rfl)) rfl ⟨rfl, (Fr.refl _ _).alloc _⟩
theorem at_add (b j : Nat) : (⟨b, 0, none⟩ : Addr).add j = ⟨b, j, none⟩ := by
  unfold Addr.add
  by_cases h0 : j = 0 <;> simp [h0]
theorem rows_mk {W : World} {b : Nat} {t : TypeId} (rows : List (List Int)) (vs : List Value) (h : Bx W b t vs.toArray) (hle : rows.length ≤ 9223372036854775807)
    (hv : ∀ (j : Nat) (p : List Int), rows[j]? = some p → ∃ (A : Option Addr) (c : Nat), vs[j]? = some (Value.slice A p.length c) ∧ p.length ≤ c ∧ Kd.C (Kd.int .i64) W A p.length p) : Kd.C (Kd.slice 3 (Kd.int .i64)) W (some ⟨b, 0, none⟩) rows.length rows := by
  refine ⟨rfl, hle, fun _ => ⟨_, rfl, fun j p hp => ?_⟩⟩
  obtain ⟨A, c, hj, hc, hC⟩ := hv j p hp
  refine ⟨[Value.slice A p.length c], rfl, ⟨A, c, rfl, hc, hC⟩, ?_⟩
  rintro (_ | i) u hu
  · obtain rfl := Option.some.inj hu
    have := h.at_ j (v := Value.slice A p.length c) (by simpa using hj)
    rw [show j * (Kd.slice 3 (Kd.int .i64)).sz + 0 = j by show j * 1 + 0 = j; omega, at_add]
    exact this
  · simp at hu
theorem no_row (W : World) (A : Option Addr) : Kd.C (Kd.int .i64) W A ([] : List Int).length [] := ⟨rfl, by simp, fun h => absurd h (by simp)⟩
theorem rows_pass (W : World) : Kd.C (Kd.slice 3 (Kd.int .i64)) (((((W.alloc (.cells #[] 3)).alloc (.cells #[.int .i64 2] 3)).alloc (.cells #[.int .i64 0, .int .i64 1] 3)).alloc (.cells #[.int .i64 2] 3)).alloc (.cells #[.slice (some ⟨W.heap.size, 0, none⟩) 0 0, .slice (some ⟨W.heap.size + 1, 0, none⟩) 1 1, .slice (some ⟨W.heap.size + 1 + 1, 0, none⟩) 2 2, .slice (some ⟨W.heap.size + 1 + 1 + 1, 0, none⟩) 1 1] 26)) (some ⟨W.heap.size + 1 + 1 + 1 + 1, 0, none⟩) ([[], [2], [0, 1], [2]] : List (List Int)).length [[], [2], [0, 1], [2]] := by
  refine rows_mk _ [.slice (some ⟨W.heap.size, 0, none⟩) 0 0, .slice (some ⟨W.heap.size + 1, 0, none⟩) 1 1, .slice (some ⟨W.heap.size + 1 + 1, 0, none⟩) 2 2, .slice (some ⟨W.heap.size + 1 + 1 + 1, 0, none⟩) 1 1] (t := 26) (Bx.of_new (by simp)) (by simp) ?_
  rintro (_ | _ | _ | _ | j) p hp
  · obtain rfl := Option.some.inj hp; exact ⟨_, _, rfl, by simp, no_row _ _⟩
  · obtain rfl := Option.some.inj hp; exact ⟨_, _, rfl, by simp, C_ints (t := 3) (cells := #[.int .i64 2]) [2] (((Bx.of_new (by simp)).alloc _).alloc _ |>.alloc _) rfl (by simp)⟩
  · obtain rfl := Option.some.inj hp; exact ⟨_, _, rfl, by simp, C_ints (t := 3) (cells := #[.int .i64 0, .int .i64 1]) [0, 1] (((Bx.of_new (by simp)).alloc _).alloc _) rfl (by simp)⟩
  · obtain rfl := Option.some.inj hp; exact ⟨_, _, rfl, by simp, C_ints (t := 3) (cells := #[.int .i64 2]) [2] ((Bx.of_new (by simp)).alloc _) rfl (by simp)⟩
  · simp at hp
theorem spots_new (W : World) : Kd.C k38 (W.alloc (.cells #[.int .i64 0, .int .i64 0, .int .i64 0, .int .i64 2, .int .i64 0, .int .i64 4, .int .i64 1, .int .i64 0, .int .i64 1, .int .i64 2] 38)) (some ⟨W.heap.size, 0, none⟩) 5 [⟨0, 0⟩, ⟨0, 2⟩, ⟨0, 4⟩, ⟨1, 0⟩, ⟨1, 2⟩] :=
  C_mk k38 _ (fun x => [.int .i64 x.f0, .int .i64 x.f1]) (fun x _ => ⟨[.int .i64 x.f0], [.int .i64 x.f1], rfl, rfl, rfl⟩) (fun _ => rfl) rfl (by simp) (Bx.of_new (t := 38) rfl)
theorem strokes_new (W : World) : Kd.C k97 (W.alloc (.cells #[.int .i64 1, .int .i64 0, .int .i64 1, .int .i64 1] 97)) (some ⟨W.heap.size, 0, none⟩) 2 [⟨1, 0⟩, ⟨1, 1⟩] :=
  C_mk k97 _ (fun x => [.int .i64 x.f0, .int .i64 x.f1]) (fun x _ => ⟨[.int .i64 x.f0], [.int .i64 x.f1], rfl, rfl, rfl⟩) (fun _ => rfl) rfl (by simp) (Bx.of_new (t := 97) rfl)
theorem spots5 {w : World} {A B : Option Addr} {c : Nat} (hA : Kd.C k38 w A 5 ([⟨0, 0⟩, ⟨0, 2⟩, ⟨0, 4⟩, ⟨1, 0⟩, ⟨1, 2⟩] : List S38)) (hc : 5 ≤ c) (hB : Kd.C k38 w B 5 ([⟨0, 0⟩, ⟨0, 2⟩, ⟨0, 4⟩, ⟨1, 0⟩, ⟨1, 2⟩] : List S38)) : Calls Tryd.prog 29 #[.slice A 5 c, .slice B 5 5] w fun e w' => e = .returned (.bool true) ∧ Fr0 w w' := mk_spots hA hc hB (Nat.le_refl 5)
theorem strokes2 {w : World} {A B : Option Addr} {c : Nat} (hA : Kd.C k97 w A 2 ([⟨1, 0⟩, ⟨1, 1⟩] : List S97)) (hc : 2 ≤ c) (hB : Kd.C k97 w B 2 ([⟨1, 0⟩, ⟨1, 1⟩] : List S97)) : Calls Tryd.prog 34 #[.slice A 2 c, .slice B 2 2] w fun e w' => e = .returned (.bool true) ∧ Fr0 w w' := mk_strokes hA hc hB (Nat.le_refl 2)
theorem rows_least (W : World) : Kd.C (Kd.slice 3 (Kd.int .i64)) ((((((W.alloc (.cells #[.int .i64 1] 3)).alloc (.cells #[.int .i64 2] 3)).alloc (.cells #[] 3)).alloc (.cells #[.int .i64 2] 3)).alloc (.cells #[.int .i64 1] 3)).alloc (.cells #[.slice (some ⟨W.heap.size, 0, none⟩) 1 1, .slice (some ⟨W.heap.size + 1, 0, none⟩) 1 1, .slice (some ⟨W.heap.size + 1 + 1, 0, none⟩) 0 0, .slice (some ⟨W.heap.size + 1 + 1 + 1, 0, none⟩) 1 1, .slice (some ⟨W.heap.size + 1 + 1 + 1 + 1, 0, none⟩) 1 1] 26)) (some ⟨W.heap.size + 1 + 1 + 1 + 1 + 1, 0, none⟩) ([[1], [2], [], [2], [1]] : List (List Int)).length [[1], [2], [], [2], [1]] := by
  refine rows_mk _ [.slice (some ⟨W.heap.size, 0, none⟩) 1 1, .slice (some ⟨W.heap.size + 1, 0, none⟩) 1 1, .slice (some ⟨W.heap.size + 1 + 1, 0, none⟩) 0 0, .slice (some ⟨W.heap.size + 1 + 1 + 1, 0, none⟩) 1 1, .slice (some ⟨W.heap.size + 1 + 1 + 1 + 1, 0, none⟩) 1 1] (t := 26) (Bx.of_new (by simp)) (by simp) ?_
  rintro (_ | _ | _ | _ | _ | j) p hp
  · obtain rfl := Option.some.inj hp; exact ⟨_, _, rfl, by simp, C_ints (t := 3) (cells := #[.int .i64 1]) [1] (((((Bx.of_new (by simp)).alloc _).alloc _).alloc _).alloc _ |>.alloc _) rfl (by simp)⟩
  · obtain rfl := Option.some.inj hp; exact ⟨_, _, rfl, by simp, C_ints (t := 3) (cells := #[.int .i64 2]) [2] ((((Bx.of_new (by simp)).alloc _).alloc _).alloc _ |>.alloc _) rfl (by simp)⟩
  · obtain rfl := Option.some.inj hp; exact ⟨_, _, rfl, by simp, no_row _ _⟩
  · obtain rfl := Option.some.inj hp; exact ⟨_, _, rfl, by simp, C_ints (t := 3) (cells := #[.int .i64 2]) [2] (((Bx.of_new (by simp)).alloc _).alloc _) rfl (by simp)⟩
  · obtain rfl := Option.some.inj hp; exact ⟨_, _, rfl, by simp, C_ints (t := 3) (cells := #[.int .i64 1]) [1] ((Bx.of_new (by simp)).alloc _) rfl (by simp)⟩
  · simp at hp
set_option maxHeartbeats 8000000 in
set_option maxRecDepth 100000 in
theorem marked_any (w : World) (hG : Glob w) : Calls Tryd.prog 23 #[] w fun e w' => e = .returned (.bool true) ∧ Below w.heap.size w w' := by
  have HG := Lib.hid hG
  have HF := Lib.hid (Fr.refl (fun _ => False) w)
  clear hG
  refine calls_of_marks Tryd.func23 rfl ?_
  simp only [Tryd.ntmps23, List.size_toArray, List.length_cons, List.length_nil, Nat.reduceAdd, Nat.reduceSub, Array.replicate_succ, Array.replicate_zero, List.push_toArray, List.append_toArray, List.nil_append, List.cons_append]
  go_upto_region 10 with (first
      | (go_at_call 50; refine (mk_book _ ?hg).mono ?_; (case hg => exact HG.out.fr (by repeat (first | exact Fr.refl _ _ | apply Fr.drew | apply Fr.alloc))); rintro e W ⟨A0, c0, rfl, hBk, hf⟩; (have HF := Lib.hid (Fr0.trans (Fr0.trans HF.out (by repeat (first | exact Fr.refl _ _ | apply Fr.drew | apply Fr.alloc))) hf)); (have HG := Lib.hid (HG.out.fr (Fr0.trans (by repeat (first | exact Fr.refl _ _ | apply Fr.drew | apply Fr.alloc)) hf))); (try have HL := Lib.hid (C_fr HL.out (Fr0.trans (by repeat (first | exact Fr.refl _ _ | apply Fr.drew | apply Fr.alloc)) hf))); (try have HP := Lib.hid (C_fr HP.out (Fr0.trans (by repeat (first | exact Fr.refl _ _ | apply Fr.drew | apply Fr.alloc)) hf))); (try have HS := Lib.hid (C_fr HS.out (Fr0.trans (by repeat (first | exact Fr.refl _ _ | apply Fr.drew | apply Fr.alloc)) hf))); (try have HM := Lib.hid (C_fr HM.out (Fr0.trans (by repeat (first | exact Fr.refl _ _ | apply Fr.drew | apply Fr.alloc)) hf))); (try have HX1 := Lib.hid (Bx.fr0 (HX1.out) (Fr0.trans (by repeat (first | exact Fr.refl _ _ | apply Fr.drew | apply Fr.alloc)) hf))); (try have HX2 := Lib.hid (Bx.fr0 (HX2.out) (Fr0.trans (by repeat (first | exact Fr.refl _ _ | apply Fr.drew | apply Fr.alloc)) hf))); (have HBK := Lib.hid hBk); clear hBk; clear hf)
      | (go_at_call 51; refine (mk_some _).mono ?_; rintro e W ⟨As, cs, rfl, hSo, hcs, hf⟩; (have HF := Lib.hid (Fr0.trans (Fr0.trans HF.out (by repeat (first | exact Fr.refl _ _ | apply Fr.drew | apply Fr.alloc))) hf)); (have HG := Lib.hid (HG.out.fr (Fr0.trans (by repeat (first | exact Fr.refl _ _ | apply Fr.drew | apply Fr.alloc)) hf))); (try have HL := Lib.hid (C_fr HL.out (Fr0.trans (by repeat (first | exact Fr.refl _ _ | apply Fr.drew | apply Fr.alloc)) hf))); (try have HP := Lib.hid (C_fr HP.out (Fr0.trans (by repeat (first | exact Fr.refl _ _ | apply Fr.drew | apply Fr.alloc)) hf))); (try have HS := Lib.hid (C_fr HS.out (Fr0.trans (by repeat (first | exact Fr.refl _ _ | apply Fr.drew | apply Fr.alloc)) hf))); (try have HM := Lib.hid (C_fr HM.out (Fr0.trans (by repeat (first | exact Fr.refl _ _ | apply Fr.drew | apply Fr.alloc)) hf))); (try have HX1 := Lib.hid (Bx.fr0 (HX1.out) (Fr0.trans (by repeat (first | exact Fr.refl _ _ | apply Fr.drew | apply Fr.alloc)) hf))); (try have HX2 := Lib.hid (Bx.fr0 (HX2.out) (Fr0.trans (by repeat (first | exact Fr.refl _ _ | apply Fr.drew | apply Fr.alloc)) hf))); (have HBK := Lib.hid (HBK.out.fr (Fr0.trans (by repeat (first | exact Fr.refl _ _ | apply Fr.drew | apply Fr.alloc)) hf))); (have HSO := Lib.hid hSo); clear hSo; clear hf)
      | (go_at_call 46; refine (at46 _ _ _).mono ?_; rintro e W ⟨rfl, hf⟩; (have HF := Lib.hid (Fr0.trans (Fr0.trans HF.out (by repeat (first | exact Fr.refl _ _ | apply Fr.drew | apply Fr.alloc))) hf)); (have HG := Lib.hid (HG.out.fr (Fr0.trans (by repeat (first | exact Fr.refl _ _ | apply Fr.drew | apply Fr.alloc)) hf))); (try have HL := Lib.hid (C_fr HL.out (Fr0.trans (by repeat (first | exact Fr.refl _ _ | apply Fr.drew | apply Fr.alloc)) hf))); (try have HP := Lib.hid (C_fr HP.out (Fr0.trans (by repeat (first | exact Fr.refl _ _ | apply Fr.drew | apply Fr.alloc)) hf))); (try have HS := Lib.hid (C_fr HS.out (Fr0.trans (by repeat (first | exact Fr.refl _ _ | apply Fr.drew | apply Fr.alloc)) hf))); (try have HM := Lib.hid (C_fr HM.out (Fr0.trans (by repeat (first | exact Fr.refl _ _ | apply Fr.drew | apply Fr.alloc)) hf))); (try have HX1 := Lib.hid (Bx.fr0 (HX1.out) (Fr0.trans (by repeat (first | exact Fr.refl _ _ | apply Fr.drew | apply Fr.alloc)) hf))); (try have HX2 := Lib.hid (Bx.fr0 (HX2.out) (Fr0.trans (by repeat (first | exact Fr.refl _ _ | apply Fr.drew | apply Fr.alloc)) hf))); (have HBK := Lib.hid (HBK.out.fr (Fr0.trans (by repeat (first | exact Fr.refl _ _ | apply Fr.drew | apply Fr.alloc)) hf))); clear hf)
      | (go_at_call 14; refine (mk_struck ?hb).mono ?_; (case hb => exact HBK.out.fr (by repeat (first | exact Fr.refl _ _ | apply Fr.drew | apply Fr.alloc))); rintro e W ⟨A1, c1, rfl, hL, hc1, hf⟩; (have HF := Lib.hid (Fr0.trans (Fr0.trans HF.out (by repeat (first | exact Fr.refl _ _ | apply Fr.drew | apply Fr.alloc))) hf)); (have HG := Lib.hid (HG.out.fr (Fr0.trans (by repeat (first | exact Fr.refl _ _ | apply Fr.drew | apply Fr.alloc)) hf))); (try have HL := Lib.hid (C_fr HL.out (Fr0.trans (by repeat (first | exact Fr.refl _ _ | apply Fr.drew | apply Fr.alloc)) hf))); (try have HP := Lib.hid (C_fr HP.out (Fr0.trans (by repeat (first | exact Fr.refl _ _ | apply Fr.drew | apply Fr.alloc)) hf))); (try have HS := Lib.hid (C_fr HS.out (Fr0.trans (by repeat (first | exact Fr.refl _ _ | apply Fr.drew | apply Fr.alloc)) hf))); (try have HM := Lib.hid (C_fr HM.out (Fr0.trans (by repeat (first | exact Fr.refl _ _ | apply Fr.drew | apply Fr.alloc)) hf))); (try have HX1 := Lib.hid (Bx.fr0 (HX1.out) (Fr0.trans (by repeat (first | exact Fr.refl _ _ | apply Fr.drew | apply Fr.alloc)) hf))); (try have HX2 := Lib.hid (Bx.fr0 (HX2.out) (Fr0.trans (by repeat (first | exact Fr.refl _ _ | apply Fr.drew | apply Fr.alloc)) hf))); (have HL := Lib.hid hL); clear hL; clear hf)
      | (go_at_call 19; refine (mk_next ?hb).mono ?_; (case hb => exact HBK.out.fr (by repeat (first | exact Fr.refl _ _ | apply Fr.drew | apply Fr.alloc))); rintro e W ⟨rfl, hf⟩; (have HF := Lib.hid (Fr0.trans (Fr0.trans HF.out (by repeat (first | exact Fr.refl _ _ | apply Fr.drew | apply Fr.alloc))) hf)); (have HG := Lib.hid (HG.out.fr (Fr0.trans (by repeat (first | exact Fr.refl _ _ | apply Fr.drew | apply Fr.alloc)) hf))); (try have HL := Lib.hid (C_fr HL.out (Fr0.trans (by repeat (first | exact Fr.refl _ _ | apply Fr.drew | apply Fr.alloc)) hf))); (try have HP := Lib.hid (C_fr HP.out (Fr0.trans (by repeat (first | exact Fr.refl _ _ | apply Fr.drew | apply Fr.alloc)) hf))); (try have HS := Lib.hid (C_fr HS.out (Fr0.trans (by repeat (first | exact Fr.refl _ _ | apply Fr.drew | apply Fr.alloc)) hf))); (try have HM := Lib.hid (C_fr HM.out (Fr0.trans (by repeat (first | exact Fr.refl _ _ | apply Fr.drew | apply Fr.alloc)) hf))); (try have HX1 := Lib.hid (Bx.fr0 (HX1.out) (Fr0.trans (by repeat (first | exact Fr.refl _ _ | apply Fr.drew | apply Fr.alloc)) hf))); (try have HX2 := Lib.hid (Bx.fr0 (HX2.out) (Fr0.trans (by repeat (first | exact Fr.refl _ _ | apply Fr.drew | apply Fr.alloc)) hf))); clear hf)
      | (go_at_call 21; refine (mk_even ?hb).mono ?_; (case hb => exact HBK.out.fr (by repeat (first | exact Fr.refl _ _ | apply Fr.drew | apply Fr.alloc))); rintro e W ⟨rfl, hf⟩; (have HF := Lib.hid (Fr0.trans (Fr0.trans HF.out (by repeat (first | exact Fr.refl _ _ | apply Fr.drew | apply Fr.alloc))) hf)); (have HG := Lib.hid (HG.out.fr (Fr0.trans (by repeat (first | exact Fr.refl _ _ | apply Fr.drew | apply Fr.alloc)) hf))); (try have HL := Lib.hid (C_fr HL.out (Fr0.trans (by repeat (first | exact Fr.refl _ _ | apply Fr.drew | apply Fr.alloc)) hf))); (try have HP := Lib.hid (C_fr HP.out (Fr0.trans (by repeat (first | exact Fr.refl _ _ | apply Fr.drew | apply Fr.alloc)) hf))); (try have HS := Lib.hid (C_fr HS.out (Fr0.trans (by repeat (first | exact Fr.refl _ _ | apply Fr.drew | apply Fr.alloc)) hf))); (try have HM := Lib.hid (C_fr HM.out (Fr0.trans (by repeat (first | exact Fr.refl _ _ | apply Fr.drew | apply Fr.alloc)) hf))); (try have HX1 := Lib.hid (Bx.fr0 (HX1.out) (Fr0.trans (by repeat (first | exact Fr.refl _ _ | apply Fr.drew | apply Fr.alloc)) hf))); (try have HX2 := Lib.hid (Bx.fr0 (HX2.out) (Fr0.trans (by repeat (first | exact Fr.refl _ _ | apply Fr.drew | apply Fr.alloc)) hf))); clear hf)
      | (go_at_call 24; refine (mk_passage ?hb).mono ?_; (case hb => exact HBK.out.fr (by repeat (first | exact Fr.refl _ _ | apply Fr.drew | apply Fr.alloc))); rintro e W ⟨A2, c2, rfl, hP, hc2, hf⟩; (have HF := Lib.hid (Fr0.trans (Fr0.trans HF.out (by repeat (first | exact Fr.refl _ _ | apply Fr.drew | apply Fr.alloc))) hf)); (have HG := Lib.hid (HG.out.fr (Fr0.trans (by repeat (first | exact Fr.refl _ _ | apply Fr.drew | apply Fr.alloc)) hf))); (try have HL := Lib.hid (C_fr HL.out (Fr0.trans (by repeat (first | exact Fr.refl _ _ | apply Fr.drew | apply Fr.alloc)) hf))); (try have HP := Lib.hid (C_fr HP.out (Fr0.trans (by repeat (first | exact Fr.refl _ _ | apply Fr.drew | apply Fr.alloc)) hf))); (try have HS := Lib.hid (C_fr HS.out (Fr0.trans (by repeat (first | exact Fr.refl _ _ | apply Fr.drew | apply Fr.alloc)) hf))); (try have HM := Lib.hid (C_fr HM.out (Fr0.trans (by repeat (first | exact Fr.refl _ _ | apply Fr.drew | apply Fr.alloc)) hf))); (try have HX1 := Lib.hid (Bx.fr0 (HX1.out) (Fr0.trans (by repeat (first | exact Fr.refl _ _ | apply Fr.drew | apply Fr.alloc)) hf))); (try have HX2 := Lib.hid (Bx.fr0 (HX2.out) (Fr0.trans (by repeat (first | exact Fr.refl _ _ | apply Fr.drew | apply Fr.alloc)) hf))); (have HP := Lib.hid hP); clear hP; clear hf)
      | (go_at_call 27; refine (mk_places ?hb ?hr hcs).mono ?_; (case hb => exact HBK.out.fr (by repeat (first | exact Fr.refl _ _ | apply Fr.drew | apply Fr.alloc))); (case hr => exact HSO.out); rintro e W ⟨A3, c3, rfl, hS, hc3, hf⟩; (have HF := Lib.hid (Fr0.trans (Fr0.trans HF.out (by repeat (first | exact Fr.refl _ _ | apply Fr.drew | apply Fr.alloc))) hf)); (have HG := Lib.hid (HG.out.fr (Fr0.trans (by repeat (first | exact Fr.refl _ _ | apply Fr.drew | apply Fr.alloc)) hf))); (try have HL := Lib.hid (C_fr HL.out (Fr0.trans (by repeat (first | exact Fr.refl _ _ | apply Fr.drew | apply Fr.alloc)) hf))); (try have HP := Lib.hid (C_fr HP.out (Fr0.trans (by repeat (first | exact Fr.refl _ _ | apply Fr.drew | apply Fr.alloc)) hf))); (try have HS := Lib.hid (C_fr HS.out (Fr0.trans (by repeat (first | exact Fr.refl _ _ | apply Fr.drew | apply Fr.alloc)) hf))); (try have HM := Lib.hid (C_fr HM.out (Fr0.trans (by repeat (first | exact Fr.refl _ _ | apply Fr.drew | apply Fr.alloc)) hf))); (try have HX1 := Lib.hid (Bx.fr0 (HX1.out) (Fr0.trans (by repeat (first | exact Fr.refl _ _ | apply Fr.drew | apply Fr.alloc)) hf))); (try have HX2 := Lib.hid (Bx.fr0 (HX2.out) (Fr0.trans (by repeat (first | exact Fr.refl _ _ | apply Fr.drew | apply Fr.alloc)) hf))); (have HS := Lib.hid hS); clear hS; clear hf)
      | (go_at_call 32; refine (mk_missing ?hb ?hr hcs).mono ?_; (case hb => exact HBK.out.fr (by repeat (first | exact Fr.refl _ _ | apply Fr.drew | apply Fr.alloc))); (case hr => exact HSO.out); rintro e W ⟨A4, c4, rfl, hM, hc4, hf⟩; (have HF := Lib.hid (Fr0.trans (Fr0.trans HF.out (by repeat (first | exact Fr.refl _ _ | apply Fr.drew | apply Fr.alloc))) hf)); (have HG := Lib.hid (HG.out.fr (Fr0.trans (by repeat (first | exact Fr.refl _ _ | apply Fr.drew | apply Fr.alloc)) hf))); (try have HL := Lib.hid (C_fr HL.out (Fr0.trans (by repeat (first | exact Fr.refl _ _ | apply Fr.drew | apply Fr.alloc)) hf))); (try have HP := Lib.hid (C_fr HP.out (Fr0.trans (by repeat (first | exact Fr.refl _ _ | apply Fr.drew | apply Fr.alloc)) hf))); (try have HS := Lib.hid (C_fr HS.out (Fr0.trans (by repeat (first | exact Fr.refl _ _ | apply Fr.drew | apply Fr.alloc)) hf))); (try have HM := Lib.hid (C_fr HM.out (Fr0.trans (by repeat (first | exact Fr.refl _ _ | apply Fr.drew | apply Fr.alloc)) hf))); (try have HX1 := Lib.hid (Bx.fr0 (HX1.out) (Fr0.trans (by repeat (first | exact Fr.refl _ _ | apply Fr.drew | apply Fr.alloc)) hf))); (try have HX2 := Lib.hid (Bx.fr0 (HX2.out) (Fr0.trans (by repeat (first | exact Fr.refl _ _ | apply Fr.drew | apply Fr.alloc)) hf))); (have HM := Lib.hid hM); clear hM; clear hf)
      | (go_at_call 35; refine (mk_confused ?hb).mono ?_; (case hb => exact HBK.out.fr (by repeat (first | exact Fr.refl _ _ | apply Fr.drew | apply Fr.alloc))); rintro e W ⟨rfl, hf⟩; (have HF := Lib.hid (Fr0.trans (Fr0.trans HF.out (by repeat (first | exact Fr.refl _ _ | apply Fr.drew | apply Fr.alloc))) hf)); (have HG := Lib.hid (HG.out.fr (Fr0.trans (by repeat (first | exact Fr.refl _ _ | apply Fr.drew | apply Fr.alloc)) hf))); (try have HL := Lib.hid (C_fr HL.out (Fr0.trans (by repeat (first | exact Fr.refl _ _ | apply Fr.drew | apply Fr.alloc)) hf))); (try have HP := Lib.hid (C_fr HP.out (Fr0.trans (by repeat (first | exact Fr.refl _ _ | apply Fr.drew | apply Fr.alloc)) hf))); (try have HS := Lib.hid (C_fr HS.out (Fr0.trans (by repeat (first | exact Fr.refl _ _ | apply Fr.drew | apply Fr.alloc)) hf))); (try have HM := Lib.hid (C_fr HM.out (Fr0.trans (by repeat (first | exact Fr.refl _ _ | apply Fr.drew | apply Fr.alloc)) hf))); (try have HX1 := Lib.hid (Bx.fr0 (HX1.out) (Fr0.trans (by repeat (first | exact Fr.refl _ _ | apply Fr.drew | apply Fr.alloc)) hf))); (try have HX2 := Lib.hid (Bx.fr0 (HX2.out) (Fr0.trans (by repeat (first | exact Fr.refl _ _ | apply Fr.drew | apply Fr.alloc)) hf))); clear hf)
      | (go_at_call 37; refine (mk_sure ?hb).mono ?_; (case hb => exact HBK.out.fr (by repeat (first | exact Fr.refl _ _ | apply Fr.drew | apply Fr.alloc))); rintro e W ⟨rfl, hf⟩; (have HF := Lib.hid (Fr0.trans (Fr0.trans HF.out (by repeat (first | exact Fr.refl _ _ | apply Fr.drew | apply Fr.alloc))) hf)); (have HG := Lib.hid (HG.out.fr (Fr0.trans (by repeat (first | exact Fr.refl _ _ | apply Fr.drew | apply Fr.alloc)) hf))); (try have HL := Lib.hid (C_fr HL.out (Fr0.trans (by repeat (first | exact Fr.refl _ _ | apply Fr.drew | apply Fr.alloc)) hf))); (try have HP := Lib.hid (C_fr HP.out (Fr0.trans (by repeat (first | exact Fr.refl _ _ | apply Fr.drew | apply Fr.alloc)) hf))); (try have HS := Lib.hid (C_fr HS.out (Fr0.trans (by repeat (first | exact Fr.refl _ _ | apply Fr.drew | apply Fr.alloc)) hf))); (try have HM := Lib.hid (C_fr HM.out (Fr0.trans (by repeat (first | exact Fr.refl _ _ | apply Fr.drew | apply Fr.alloc)) hf))); (try have HX1 := Lib.hid (Bx.fr0 (HX1.out) (Fr0.trans (by repeat (first | exact Fr.refl _ _ | apply Fr.drew | apply Fr.alloc)) hf))); (try have HX2 := Lib.hid (Bx.fr0 (HX2.out) (Fr0.trans (by repeat (first | exact Fr.refl _ _ | apply Fr.drew | apply Fr.alloc)) hf))); clear hf)
      | (go_at_call 30; refine (mk_least ?hb ?hr (by simp)).mono ?_; (case hb => exact HBK.out.fr (by repeat (first | exact Fr.refl _ _ | apply Fr.drew | apply Fr.alloc))); (case hr => exact rows_least _); rintro e W ⟨rfl, hf⟩; (have HF := Lib.hid (Fr0.trans (Fr0.trans HF.out (by repeat (first | exact Fr.refl _ _ | apply Fr.drew | apply Fr.alloc))) hf)); (have HG := Lib.hid (HG.out.fr (Fr0.trans (by repeat (first | exact Fr.refl _ _ | apply Fr.drew | apply Fr.alloc)) hf))); (try have HL := Lib.hid (C_fr HL.out (Fr0.trans (by repeat (first | exact Fr.refl _ _ | apply Fr.drew | apply Fr.alloc)) hf))); (try have HP := Lib.hid (C_fr HP.out (Fr0.trans (by repeat (first | exact Fr.refl _ _ | apply Fr.drew | apply Fr.alloc)) hf))); (try have HS := Lib.hid (C_fr HS.out (Fr0.trans (by repeat (first | exact Fr.refl _ _ | apply Fr.drew | apply Fr.alloc)) hf))); (try have HM := Lib.hid (C_fr HM.out (Fr0.trans (by repeat (first | exact Fr.refl _ _ | apply Fr.drew | apply Fr.alloc)) hf))); (try have HX1 := Lib.hid (Bx.fr0 (HX1.out) (Fr0.trans (by repeat (first | exact Fr.refl _ _ | apply Fr.drew | apply Fr.alloc)) hf))); (try have HX2 := Lib.hid (Bx.fr0 (HX2.out) (Fr0.trans (by repeat (first | exact Fr.refl _ _ | apply Fr.drew | apply Fr.alloc)) hf))); clear hf)
      | (go_at_call 16; refine (mk_equal ?ha hc1 ?hb (by simp)).mono ?_; (case ha => exact C_fr HL.out (by repeat (first | exact Fr.refl _ _ | apply Fr.drew | apply Fr.alloc))); (case hb => exact ints_new _ _ 3 [0, 1] _ rfl (by simp)); rintro e W ⟨rfl, hf⟩; (have HF := Lib.hid (Fr0.trans (Fr0.trans HF.out (by repeat (first | exact Fr.refl _ _ | apply Fr.drew | apply Fr.alloc))) hf)); (have HG := Lib.hid (HG.out.fr (Fr0.trans (by repeat (first | exact Fr.refl _ _ | apply Fr.drew | apply Fr.alloc)) hf))); (try have HL := Lib.hid (C_fr HL.out (Fr0.trans (by repeat (first | exact Fr.refl _ _ | apply Fr.drew | apply Fr.alloc)) hf))); (try have HP := Lib.hid (C_fr HP.out (Fr0.trans (by repeat (first | exact Fr.refl _ _ | apply Fr.drew | apply Fr.alloc)) hf))); (try have HS := Lib.hid (C_fr HS.out (Fr0.trans (by repeat (first | exact Fr.refl _ _ | apply Fr.drew | apply Fr.alloc)) hf))); (try have HM := Lib.hid (C_fr HM.out (Fr0.trans (by repeat (first | exact Fr.refl _ _ | apply Fr.drew | apply Fr.alloc)) hf))); (try have HX1 := Lib.hid (Bx.fr0 (HX1.out) (Fr0.trans (by repeat (first | exact Fr.refl _ _ | apply Fr.drew | apply Fr.alloc)) hf))); (try have HX2 := Lib.hid (Bx.fr0 (HX2.out) (Fr0.trans (by repeat (first | exact Fr.refl _ _ | apply Fr.drew | apply Fr.alloc)) hf))); clear hf)
      | (go_at_call 26; refine (mk_rows ?ha hc2 ?hb (by simp)).mono ?_; (case ha => exact C_fr HP.out (by repeat (first | exact Fr.refl _ _ | apply Fr.drew | apply Fr.alloc))); (case hb => exact rows_pass _); rintro e W ⟨rfl, hf⟩; (have HF := Lib.hid (Fr0.trans (Fr0.trans HF.out (by repeat (first | exact Fr.refl _ _ | apply Fr.drew | apply Fr.alloc))) hf)); (have HG := Lib.hid (HG.out.fr (Fr0.trans (by repeat (first | exact Fr.refl _ _ | apply Fr.drew | apply Fr.alloc)) hf))); (try have HL := Lib.hid (C_fr HL.out (Fr0.trans (by repeat (first | exact Fr.refl _ _ | apply Fr.drew | apply Fr.alloc)) hf))); (try have HP := Lib.hid (C_fr HP.out (Fr0.trans (by repeat (first | exact Fr.refl _ _ | apply Fr.drew | apply Fr.alloc)) hf))); (try have HS := Lib.hid (C_fr HS.out (Fr0.trans (by repeat (first | exact Fr.refl _ _ | apply Fr.drew | apply Fr.alloc)) hf))); (try have HM := Lib.hid (C_fr HM.out (Fr0.trans (by repeat (first | exact Fr.refl _ _ | apply Fr.drew | apply Fr.alloc)) hf))); (try have HX1 := Lib.hid (Bx.fr0 (HX1.out) (Fr0.trans (by repeat (first | exact Fr.refl _ _ | apply Fr.drew | apply Fr.alloc)) hf))); (try have HX2 := Lib.hid (Bx.fr0 (HX2.out) (Fr0.trans (by repeat (first | exact Fr.refl _ _ | apply Fr.drew | apply Fr.alloc)) hf))); clear hf))
  have hx1 : Bx ((W.alloc (.cells #[.int .i64 0, .int .i64 0] 38)).alloc (.cells #[.int .i64 0, .int .i64 4] 38)) W.heap.size 38 #[.int .i64 0, .int .i64 0] := (Bx.of_new rfl).alloc _
  have hx2 : Bx ((W.alloc (.cells #[.int .i64 0, .int .i64 0] 38)).alloc (.cells #[.int .i64 0, .int .i64 4] 38)) (W.heap.size + 1) 38 #[.int .i64 0, .int .i64 4] := Bx.of_new (by simp)
  generalize W.heap.size = g at hx1 hx2 ⊢
  have HX1 := Lib.hid hx1
  have HX2 := Lib.hid hx2
  clear hx1 hx2
  go_upto_region 12 with (first
      | (go_at_call 50; refine (mk_book _ ?hg).mono ?_; (case hg => exact HG.out.fr (by repeat (first | exact Fr.refl _ _ | apply Fr.drew | apply Fr.alloc))); rintro e W ⟨A0, c0, rfl, hBk, hf⟩; (have HF := Lib.hid (Fr0.trans (Fr0.trans HF.out (by repeat (first | exact Fr.refl _ _ | apply Fr.drew | apply Fr.alloc))) hf)); (have HG := Lib.hid (HG.out.fr (Fr0.trans (by repeat (first | exact Fr.refl _ _ | apply Fr.drew | apply Fr.alloc)) hf))); (try have HL := Lib.hid (C_fr HL.out (Fr0.trans (by repeat (first | exact Fr.refl _ _ | apply Fr.drew | apply Fr.alloc)) hf))); (try have HP := Lib.hid (C_fr HP.out (Fr0.trans (by repeat (first | exact Fr.refl _ _ | apply Fr.drew | apply Fr.alloc)) hf))); (try have HS := Lib.hid (C_fr HS.out (Fr0.trans (by repeat (first | exact Fr.refl _ _ | apply Fr.drew | apply Fr.alloc)) hf))); (try have HM := Lib.hid (C_fr HM.out (Fr0.trans (by repeat (first | exact Fr.refl _ _ | apply Fr.drew | apply Fr.alloc)) hf))); (try have HX1 := Lib.hid (Bx.fr0 (HX1.out) (Fr0.trans (by repeat (first | exact Fr.refl _ _ | apply Fr.drew | apply Fr.alloc)) hf))); (try have HX2 := Lib.hid (Bx.fr0 (HX2.out) (Fr0.trans (by repeat (first | exact Fr.refl _ _ | apply Fr.drew | apply Fr.alloc)) hf))); (have HBK := Lib.hid hBk); clear hBk; clear hf)
      | (go_at_call 51; refine (mk_some _).mono ?_; rintro e W ⟨As, cs, rfl, hSo, hcs, hf⟩; (have HF := Lib.hid (Fr0.trans (Fr0.trans HF.out (by repeat (first | exact Fr.refl _ _ | apply Fr.drew | apply Fr.alloc))) hf)); (have HG := Lib.hid (HG.out.fr (Fr0.trans (by repeat (first | exact Fr.refl _ _ | apply Fr.drew | apply Fr.alloc)) hf))); (try have HL := Lib.hid (C_fr HL.out (Fr0.trans (by repeat (first | exact Fr.refl _ _ | apply Fr.drew | apply Fr.alloc)) hf))); (try have HP := Lib.hid (C_fr HP.out (Fr0.trans (by repeat (first | exact Fr.refl _ _ | apply Fr.drew | apply Fr.alloc)) hf))); (try have HS := Lib.hid (C_fr HS.out (Fr0.trans (by repeat (first | exact Fr.refl _ _ | apply Fr.drew | apply Fr.alloc)) hf))); (try have HM := Lib.hid (C_fr HM.out (Fr0.trans (by repeat (first | exact Fr.refl _ _ | apply Fr.drew | apply Fr.alloc)) hf))); (try have HX1 := Lib.hid (Bx.fr0 (HX1.out) (Fr0.trans (by repeat (first | exact Fr.refl _ _ | apply Fr.drew | apply Fr.alloc)) hf))); (try have HX2 := Lib.hid (Bx.fr0 (HX2.out) (Fr0.trans (by repeat (first | exact Fr.refl _ _ | apply Fr.drew | apply Fr.alloc)) hf))); (have HBK := Lib.hid (HBK.out.fr (Fr0.trans (by repeat (first | exact Fr.refl _ _ | apply Fr.drew | apply Fr.alloc)) hf))); (have HSO := Lib.hid hSo); clear hSo; clear hf)
      | (go_at_call 46; refine (at46 _ _ _).mono ?_; rintro e W ⟨rfl, hf⟩; (have HF := Lib.hid (Fr0.trans (Fr0.trans HF.out (by repeat (first | exact Fr.refl _ _ | apply Fr.drew | apply Fr.alloc))) hf)); (have HG := Lib.hid (HG.out.fr (Fr0.trans (by repeat (first | exact Fr.refl _ _ | apply Fr.drew | apply Fr.alloc)) hf))); (try have HL := Lib.hid (C_fr HL.out (Fr0.trans (by repeat (first | exact Fr.refl _ _ | apply Fr.drew | apply Fr.alloc)) hf))); (try have HP := Lib.hid (C_fr HP.out (Fr0.trans (by repeat (first | exact Fr.refl _ _ | apply Fr.drew | apply Fr.alloc)) hf))); (try have HS := Lib.hid (C_fr HS.out (Fr0.trans (by repeat (first | exact Fr.refl _ _ | apply Fr.drew | apply Fr.alloc)) hf))); (try have HM := Lib.hid (C_fr HM.out (Fr0.trans (by repeat (first | exact Fr.refl _ _ | apply Fr.drew | apply Fr.alloc)) hf))); (try have HX1 := Lib.hid (Bx.fr0 (HX1.out) (Fr0.trans (by repeat (first | exact Fr.refl _ _ | apply Fr.drew | apply Fr.alloc)) hf))); (try have HX2 := Lib.hid (Bx.fr0 (HX2.out) (Fr0.trans (by repeat (first | exact Fr.refl _ _ | apply Fr.drew | apply Fr.alloc)) hf))); (have HBK := Lib.hid (HBK.out.fr (Fr0.trans (by repeat (first | exact Fr.refl _ _ | apply Fr.drew | apply Fr.alloc)) hf))); clear hf)
      | (go_at_call 14; refine (mk_struck ?hb).mono ?_; (case hb => exact HBK.out.fr (by repeat (first | exact Fr.refl _ _ | apply Fr.drew | apply Fr.alloc))); rintro e W ⟨A1, c1, rfl, hL, hc1, hf⟩; (have HF := Lib.hid (Fr0.trans (Fr0.trans HF.out (by repeat (first | exact Fr.refl _ _ | apply Fr.drew | apply Fr.alloc))) hf)); (have HG := Lib.hid (HG.out.fr (Fr0.trans (by repeat (first | exact Fr.refl _ _ | apply Fr.drew | apply Fr.alloc)) hf))); (try have HL := Lib.hid (C_fr HL.out (Fr0.trans (by repeat (first | exact Fr.refl _ _ | apply Fr.drew | apply Fr.alloc)) hf))); (try have HP := Lib.hid (C_fr HP.out (Fr0.trans (by repeat (first | exact Fr.refl _ _ | apply Fr.drew | apply Fr.alloc)) hf))); (try have HS := Lib.hid (C_fr HS.out (Fr0.trans (by repeat (first | exact Fr.refl _ _ | apply Fr.drew | apply Fr.alloc)) hf))); (try have HM := Lib.hid (C_fr HM.out (Fr0.trans (by repeat (first | exact Fr.refl _ _ | apply Fr.drew | apply Fr.alloc)) hf))); (try have HX1 := Lib.hid (Bx.fr0 (HX1.out) (Fr0.trans (by repeat (first | exact Fr.refl _ _ | apply Fr.drew | apply Fr.alloc)) hf))); (try have HX2 := Lib.hid (Bx.fr0 (HX2.out) (Fr0.trans (by repeat (first | exact Fr.refl _ _ | apply Fr.drew | apply Fr.alloc)) hf))); (have HL := Lib.hid hL); clear hL; clear hf)
      | (go_at_call 19; refine (mk_next ?hb).mono ?_; (case hb => exact HBK.out.fr (by repeat (first | exact Fr.refl _ _ | apply Fr.drew | apply Fr.alloc))); rintro e W ⟨rfl, hf⟩; (have HF := Lib.hid (Fr0.trans (Fr0.trans HF.out (by repeat (first | exact Fr.refl _ _ | apply Fr.drew | apply Fr.alloc))) hf)); (have HG := Lib.hid (HG.out.fr (Fr0.trans (by repeat (first | exact Fr.refl _ _ | apply Fr.drew | apply Fr.alloc)) hf))); (try have HL := Lib.hid (C_fr HL.out (Fr0.trans (by repeat (first | exact Fr.refl _ _ | apply Fr.drew | apply Fr.alloc)) hf))); (try have HP := Lib.hid (C_fr HP.out (Fr0.trans (by repeat (first | exact Fr.refl _ _ | apply Fr.drew | apply Fr.alloc)) hf))); (try have HS := Lib.hid (C_fr HS.out (Fr0.trans (by repeat (first | exact Fr.refl _ _ | apply Fr.drew | apply Fr.alloc)) hf))); (try have HM := Lib.hid (C_fr HM.out (Fr0.trans (by repeat (first | exact Fr.refl _ _ | apply Fr.drew | apply Fr.alloc)) hf))); (try have HX1 := Lib.hid (Bx.fr0 (HX1.out) (Fr0.trans (by repeat (first | exact Fr.refl _ _ | apply Fr.drew | apply Fr.alloc)) hf))); (try have HX2 := Lib.hid (Bx.fr0 (HX2.out) (Fr0.trans (by repeat (first | exact Fr.refl _ _ | apply Fr.drew | apply Fr.alloc)) hf))); clear hf)
      | (go_at_call 21; refine (mk_even ?hb).mono ?_; (case hb => exact HBK.out.fr (by repeat (first | exact Fr.refl _ _ | apply Fr.drew | apply Fr.alloc))); rintro e W ⟨rfl, hf⟩; (have HF := Lib.hid (Fr0.trans (Fr0.trans HF.out (by repeat (first | exact Fr.refl _ _ | apply Fr.drew | apply Fr.alloc))) hf)); (have HG := Lib.hid (HG.out.fr (Fr0.trans (by repeat (first | exact Fr.refl _ _ | apply Fr.drew | apply Fr.alloc)) hf))); (try have HL := Lib.hid (C_fr HL.out (Fr0.trans (by repeat (first | exact Fr.refl _ _ | apply Fr.drew | apply Fr.alloc)) hf))); (try have HP := Lib.hid (C_fr HP.out (Fr0.trans (by repeat (first | exact Fr.refl _ _ | apply Fr.drew | apply Fr.alloc)) hf))); (try have HS := Lib.hid (C_fr HS.out (Fr0.trans (by repeat (first | exact Fr.refl _ _ | apply Fr.drew | apply Fr.alloc)) hf))); (try have HM := Lib.hid (C_fr HM.out (Fr0.trans (by repeat (first | exact Fr.refl _ _ | apply Fr.drew | apply Fr.alloc)) hf))); (try have HX1 := Lib.hid (Bx.fr0 (HX1.out) (Fr0.trans (by repeat (first | exact Fr.refl _ _ | apply Fr.drew | apply Fr.alloc)) hf))); (try have HX2 := Lib.hid (Bx.fr0 (HX2.out) (Fr0.trans (by repeat (first | exact Fr.refl _ _ | apply Fr.drew | apply Fr.alloc)) hf))); clear hf)
      | (go_at_call 24; refine (mk_passage ?hb).mono ?_; (case hb => exact HBK.out.fr (by repeat (first | exact Fr.refl _ _ | apply Fr.drew | apply Fr.alloc))); rintro e W ⟨A2, c2, rfl, hP, hc2, hf⟩; (have HF := Lib.hid (Fr0.trans (Fr0.trans HF.out (by repeat (first | exact Fr.refl _ _ | apply Fr.drew | apply Fr.alloc))) hf)); (have HG := Lib.hid (HG.out.fr (Fr0.trans (by repeat (first | exact Fr.refl _ _ | apply Fr.drew | apply Fr.alloc)) hf))); (try have HL := Lib.hid (C_fr HL.out (Fr0.trans (by repeat (first | exact Fr.refl _ _ | apply Fr.drew | apply Fr.alloc)) hf))); (try have HP := Lib.hid (C_fr HP.out (Fr0.trans (by repeat (first | exact Fr.refl _ _ | apply Fr.drew | apply Fr.alloc)) hf))); (try have HS := Lib.hid (C_fr HS.out (Fr0.trans (by repeat (first | exact Fr.refl _ _ | apply Fr.drew | apply Fr.alloc)) hf))); (try have HM := Lib.hid (C_fr HM.out (Fr0.trans (by repeat (first | exact Fr.refl _ _ | apply Fr.drew | apply Fr.alloc)) hf))); (try have HX1 := Lib.hid (Bx.fr0 (HX1.out) (Fr0.trans (by repeat (first | exact Fr.refl _ _ | apply Fr.drew | apply Fr.alloc)) hf))); (try have HX2 := Lib.hid (Bx.fr0 (HX2.out) (Fr0.trans (by repeat (first | exact Fr.refl _ _ | apply Fr.drew | apply Fr.alloc)) hf))); (have HP := Lib.hid hP); clear hP; clear hf)
      | (go_at_call 27; refine (mk_places ?hb ?hr hcs).mono ?_; (case hb => exact HBK.out.fr (by repeat (first | exact Fr.refl _ _ | apply Fr.drew | apply Fr.alloc))); (case hr => exact HSO.out); rintro e W ⟨A3, c3, rfl, hS, hc3, hf⟩; (have HF := Lib.hid (Fr0.trans (Fr0.trans HF.out (by repeat (first | exact Fr.refl _ _ | apply Fr.drew | apply Fr.alloc))) hf)); (have HG := Lib.hid (HG.out.fr (Fr0.trans (by repeat (first | exact Fr.refl _ _ | apply Fr.drew | apply Fr.alloc)) hf))); (try have HL := Lib.hid (C_fr HL.out (Fr0.trans (by repeat (first | exact Fr.refl _ _ | apply Fr.drew | apply Fr.alloc)) hf))); (try have HP := Lib.hid (C_fr HP.out (Fr0.trans (by repeat (first | exact Fr.refl _ _ | apply Fr.drew | apply Fr.alloc)) hf))); (try have HS := Lib.hid (C_fr HS.out (Fr0.trans (by repeat (first | exact Fr.refl _ _ | apply Fr.drew | apply Fr.alloc)) hf))); (try have HM := Lib.hid (C_fr HM.out (Fr0.trans (by repeat (first | exact Fr.refl _ _ | apply Fr.drew | apply Fr.alloc)) hf))); (try have HX1 := Lib.hid (Bx.fr0 (HX1.out) (Fr0.trans (by repeat (first | exact Fr.refl _ _ | apply Fr.drew | apply Fr.alloc)) hf))); (try have HX2 := Lib.hid (Bx.fr0 (HX2.out) (Fr0.trans (by repeat (first | exact Fr.refl _ _ | apply Fr.drew | apply Fr.alloc)) hf))); (have HS := Lib.hid hS); clear hS; clear hf)
      | (go_at_call 32; refine (mk_missing ?hb ?hr hcs).mono ?_; (case hb => exact HBK.out.fr (by repeat (first | exact Fr.refl _ _ | apply Fr.drew | apply Fr.alloc))); (case hr => exact HSO.out); rintro e W ⟨A4, c4, rfl, hM, hc4, hf⟩; (have HF := Lib.hid (Fr0.trans (Fr0.trans HF.out (by repeat (first | exact Fr.refl _ _ | apply Fr.drew | apply Fr.alloc))) hf)); (have HG := Lib.hid (HG.out.fr (Fr0.trans (by repeat (first | exact Fr.refl _ _ | apply Fr.drew | apply Fr.alloc)) hf))); (try have HL := Lib.hid (C_fr HL.out (Fr0.trans (by repeat (first | exact Fr.refl _ _ | apply Fr.drew | apply Fr.alloc)) hf))); (try have HP := Lib.hid (C_fr HP.out (Fr0.trans (by repeat (first | exact Fr.refl _ _ | apply Fr.drew | apply Fr.alloc)) hf))); (try have HS := Lib.hid (C_fr HS.out (Fr0.trans (by repeat (first | exact Fr.refl _ _ | apply Fr.drew | apply Fr.alloc)) hf))); (try have HM := Lib.hid (C_fr HM.out (Fr0.trans (by repeat (first | exact Fr.refl _ _ | apply Fr.drew | apply Fr.alloc)) hf))); (try have HX1 := Lib.hid (Bx.fr0 (HX1.out) (Fr0.trans (by repeat (first | exact Fr.refl _ _ | apply Fr.drew | apply Fr.alloc)) hf))); (try have HX2 := Lib.hid (Bx.fr0 (HX2.out) (Fr0.trans (by repeat (first | exact Fr.refl _ _ | apply Fr.drew | apply Fr.alloc)) hf))); (have HM := Lib.hid hM); clear hM; clear hf)
      | (go_at_call 35; refine (mk_confused ?hb).mono ?_; (case hb => exact HBK.out.fr (by repeat (first | exact Fr.refl _ _ | apply Fr.drew | apply Fr.alloc))); rintro e W ⟨rfl, hf⟩; (have HF := Lib.hid (Fr0.trans (Fr0.trans HF.out (by repeat (first | exact Fr.refl _ _ | apply Fr.drew | apply Fr.alloc))) hf)); (have HG := Lib.hid (HG.out.fr (Fr0.trans (by repeat (first | exact Fr.refl _ _ | apply Fr.drew | apply Fr.alloc)) hf))); (try have HL := Lib.hid (C_fr HL.out (Fr0.trans (by repeat (first | exact Fr.refl _ _ | apply Fr.drew | apply Fr.alloc)) hf))); (try have HP := Lib.hid (C_fr HP.out (Fr0.trans (by repeat (first | exact Fr.refl _ _ | apply Fr.drew | apply Fr.alloc)) hf))); (try have HS := Lib.hid (C_fr HS.out (Fr0.trans (by repeat (first | exact Fr.refl _ _ | apply Fr.drew | apply Fr.alloc)) hf))); (try have HM := Lib.hid (C_fr HM.out (Fr0.trans (by repeat (first | exact Fr.refl _ _ | apply Fr.drew | apply Fr.alloc)) hf))); (try have HX1 := Lib.hid (Bx.fr0 (HX1.out) (Fr0.trans (by repeat (first | exact Fr.refl _ _ | apply Fr.drew | apply Fr.alloc)) hf))); (try have HX2 := Lib.hid (Bx.fr0 (HX2.out) (Fr0.trans (by repeat (first | exact Fr.refl _ _ | apply Fr.drew | apply Fr.alloc)) hf))); clear hf)
      | (go_at_call 37; refine (mk_sure ?hb).mono ?_; (case hb => exact HBK.out.fr (by repeat (first | exact Fr.refl _ _ | apply Fr.drew | apply Fr.alloc))); rintro e W ⟨rfl, hf⟩; (have HF := Lib.hid (Fr0.trans (Fr0.trans HF.out (by repeat (first | exact Fr.refl _ _ | apply Fr.drew | apply Fr.alloc))) hf)); (have HG := Lib.hid (HG.out.fr (Fr0.trans (by repeat (first | exact Fr.refl _ _ | apply Fr.drew | apply Fr.alloc)) hf))); (try have HL := Lib.hid (C_fr HL.out (Fr0.trans (by repeat (first | exact Fr.refl _ _ | apply Fr.drew | apply Fr.alloc)) hf))); (try have HP := Lib.hid (C_fr HP.out (Fr0.trans (by repeat (first | exact Fr.refl _ _ | apply Fr.drew | apply Fr.alloc)) hf))); (try have HS := Lib.hid (C_fr HS.out (Fr0.trans (by repeat (first | exact Fr.refl _ _ | apply Fr.drew | apply Fr.alloc)) hf))); (try have HM := Lib.hid (C_fr HM.out (Fr0.trans (by repeat (first | exact Fr.refl _ _ | apply Fr.drew | apply Fr.alloc)) hf))); (try have HX1 := Lib.hid (Bx.fr0 (HX1.out) (Fr0.trans (by repeat (first | exact Fr.refl _ _ | apply Fr.drew | apply Fr.alloc)) hf))); (try have HX2 := Lib.hid (Bx.fr0 (HX2.out) (Fr0.trans (by repeat (first | exact Fr.refl _ _ | apply Fr.drew | apply Fr.alloc)) hf))); clear hf)
      | (go_at_call 30; refine (mk_least ?hb ?hr (by simp)).mono ?_; (case hb => exact HBK.out.fr (by repeat (first | exact Fr.refl _ _ | apply Fr.drew | apply Fr.alloc))); (case hr => exact rows_least _); rintro e W ⟨rfl, hf⟩; (have HF := Lib.hid (Fr0.trans (Fr0.trans HF.out (by repeat (first | exact Fr.refl _ _ | apply Fr.drew | apply Fr.alloc))) hf)); (have HG := Lib.hid (HG.out.fr (Fr0.trans (by repeat (first | exact Fr.refl _ _ | apply Fr.drew | apply Fr.alloc)) hf))); (try have HL := Lib.hid (C_fr HL.out (Fr0.trans (by repeat (first | exact Fr.refl _ _ | apply Fr.drew | apply Fr.alloc)) hf))); (try have HP := Lib.hid (C_fr HP.out (Fr0.trans (by repeat (first | exact Fr.refl _ _ | apply Fr.drew | apply Fr.alloc)) hf))); (try have HS := Lib.hid (C_fr HS.out (Fr0.trans (by repeat (first | exact Fr.refl _ _ | apply Fr.drew | apply Fr.alloc)) hf))); (try have HM := Lib.hid (C_fr HM.out (Fr0.trans (by repeat (first | exact Fr.refl _ _ | apply Fr.drew | apply Fr.alloc)) hf))); (try have HX1 := Lib.hid (Bx.fr0 (HX1.out) (Fr0.trans (by repeat (first | exact Fr.refl _ _ | apply Fr.drew | apply Fr.alloc)) hf))); (try have HX2 := Lib.hid (Bx.fr0 (HX2.out) (Fr0.trans (by repeat (first | exact Fr.refl _ _ | apply Fr.drew | apply Fr.alloc)) hf))); clear hf)
      | (go_at_call 16; refine (mk_equal ?ha hc1 ?hb (by simp)).mono ?_; (case ha => exact C_fr HL.out (by repeat (first | exact Fr.refl _ _ | apply Fr.drew | apply Fr.alloc))); (case hb => exact ints_new _ _ 3 [0, 1] _ rfl (by simp)); rintro e W ⟨rfl, hf⟩; (have HF := Lib.hid (Fr0.trans (Fr0.trans HF.out (by repeat (first | exact Fr.refl _ _ | apply Fr.drew | apply Fr.alloc))) hf)); (have HG := Lib.hid (HG.out.fr (Fr0.trans (by repeat (first | exact Fr.refl _ _ | apply Fr.drew | apply Fr.alloc)) hf))); (try have HL := Lib.hid (C_fr HL.out (Fr0.trans (by repeat (first | exact Fr.refl _ _ | apply Fr.drew | apply Fr.alloc)) hf))); (try have HP := Lib.hid (C_fr HP.out (Fr0.trans (by repeat (first | exact Fr.refl _ _ | apply Fr.drew | apply Fr.alloc)) hf))); (try have HS := Lib.hid (C_fr HS.out (Fr0.trans (by repeat (first | exact Fr.refl _ _ | apply Fr.drew | apply Fr.alloc)) hf))); (try have HM := Lib.hid (C_fr HM.out (Fr0.trans (by repeat (first | exact Fr.refl _ _ | apply Fr.drew | apply Fr.alloc)) hf))); (try have HX1 := Lib.hid (Bx.fr0 (HX1.out) (Fr0.trans (by repeat (first | exact Fr.refl _ _ | apply Fr.drew | apply Fr.alloc)) hf))); (try have HX2 := Lib.hid (Bx.fr0 (HX2.out) (Fr0.trans (by repeat (first | exact Fr.refl _ _ | apply Fr.drew | apply Fr.alloc)) hf))); clear hf)
      | (go_at_call 26; refine (mk_rows ?ha hc2 ?hb (by simp)).mono ?_; (case ha => exact C_fr HP.out (by repeat (first | exact Fr.refl _ _ | apply Fr.drew | apply Fr.alloc))); (case hb => exact rows_pass _); rintro e W ⟨rfl, hf⟩; (have HF := Lib.hid (Fr0.trans (Fr0.trans HF.out (by repeat (first | exact Fr.refl _ _ | apply Fr.drew | apply Fr.alloc))) hf)); (have HG := Lib.hid (HG.out.fr (Fr0.trans (by repeat (first | exact Fr.refl _ _ | apply Fr.drew | apply Fr.alloc)) hf))); (try have HL := Lib.hid (C_fr HL.out (Fr0.trans (by repeat (first | exact Fr.refl _ _ | apply Fr.drew | apply Fr.alloc)) hf))); (try have HP := Lib.hid (C_fr HP.out (Fr0.trans (by repeat (first | exact Fr.refl _ _ | apply Fr.drew | apply Fr.alloc)) hf))); (try have HS := Lib.hid (C_fr HS.out (Fr0.trans (by repeat (first | exact Fr.refl _ _ | apply Fr.drew | apply Fr.alloc)) hf))); (try have HM := Lib.hid (C_fr HM.out (Fr0.trans (by repeat (first | exact Fr.refl _ _ | apply Fr.drew | apply Fr.alloc)) hf))); (try have HX1 := Lib.hid (Bx.fr0 (HX1.out) (Fr0.trans (by repeat (first | exact Fr.refl _ _ | apply Fr.drew | apply Fr.alloc)) hf))); (try have HX2 := Lib.hid (Bx.fr0 (HX2.out) (Fr0.trans (by repeat (first | exact Fr.refl _ _ | apply Fr.drew | apply Fr.alloc)) hf))); clear hf))
  have q0 := HX1.out.at_ 0 (v := .int .i64 0) rfl
  have q1 := HX1.out.at_ 1 (v := .int .i64 0) rfl
  have q2 := HX2.out.at_ 0 (v := .int .i64 0) rfl
  have q3 := HX2.out.at_ 1 (v := .int .i64 4) rfl
  have HS5 := Lib.hid (show Kd.C k38 _ A3 5 ([⟨0, 0⟩, ⟨0, 2⟩, ⟨0, 4⟩, ⟨1, 0⟩, ⟨1, 2⟩] : List S38) from HS.out)
  have HM2 := Lib.hid (show Kd.C k97 _ A4 2 ([⟨1, 0⟩, ⟨1, 1⟩] : List S97) from HM.out)
  clear HG HBK HX1 HX2
  refine start_ (n := 54) (S := fun w' => w'.cell? ⟨g, 0, none⟩ = some (.int .i64 0) ∧ w'.cell? ⟨g, 1, none⟩ = some (.int .i64 0) ∧ w'.cell? ⟨g + 1, 0, none⟩ = some (.int .i64 0) ∧ w'.cell? ⟨g + 1, 1, none⟩ = some (.int .i64 4)) (ds := []) #[false, false, false, false, false, false, false, false, false, false, false, false, false, false, false, false, false, false, false, false, false, false, false, false, false, false, false, false, false, false, false, false, false, false, false, false, false, false, false, false, false, false, false, false, false, false, false, false, false, false, false, false, false, false] (by kernel_rfl) rfl rfl ⟨q0, q1, q2, q3⟩ (fun hHeld => ?_)
  refine pure_ (i := 0) (N := some 110) (v := ?_) (a' := ?_) #[true, false, false, false, false, false, false, false, false, false, false, false, false, false, false, false, false, false, false, false, false, false, false, false, false, false, false, false, false, false, false, false, false, false, false, false, false, false, false, false, false, false, false, false, false, false, false, false, false, false, false, false, false, false] rfl rfl (by kernel_rfl) (fun _ _ _ h => h) (Or.inl ⟨by rfl, ?_⟩) ?_ ?_
  rotate_left
  · intro w'
    go_simp
    with_reducible rfl
  rotate_left
  · simp only [Act.put, List.setIfInBounds_toArray, List.set_cons_zero, List.set_cons_succ, i64_w, i32_w]
    rfl
  refine pure_ (i := 1) (N := some 111) (v := ?_) (a' := ?_) #[true, true, false, false, false, false, false, false, false, false, false, false, false, false, false, false, false, false, false, false, false, false, false, false, false, false, false, false, false, false, false, false, false, false, false, false, false, false, false, false, false, false, false, false, false, false, false, false, false, false, false, false, false, false] rfl rfl (by kernel_rfl) (fun _ _ _ h => h) (Or.inl ⟨by rfl, ?_⟩) ?_ ?_
  rotate_left
  · intro w'
    go_simp
    with_reducible rfl
  rotate_left
  · simp only [Act.put, List.setIfInBounds_toArray, List.set_cons_zero, List.set_cons_succ, i64_w, i32_w]
    rfl
  refine pure_ (i := 2) (N := some 112) (v := ?_) (a' := ?_) #[true, true, true, false, false, false, false, false, false, false, false, false, false, false, false, false, false, false, false, false, false, false, false, false, false, false, false, false, false, false, false, false, false, false, false, false, false, false, false, false, false, false, false, false, false, false, false, false, false, false, false, false, false, false] rfl rfl (by kernel_rfl) (fun _ _ _ h => h) (Or.inl ⟨by rfl, ?_⟩) ?_ ?_
  rotate_left
  · intro w'
    go_simp
    with_reducible rfl
  rotate_left
  · simp only [Act.put, List.setIfInBounds_toArray, List.set_cons_zero, List.set_cons_succ, i64_w, i32_w]
    rfl
  refine pure_ (i := 3) (N := some 113) (v := ?_) (a' := ?_) #[true, true, true, true, false, false, false, false, false, false, false, false, false, false, false, false, false, false, false, false, false, false, false, false, false, false, false, false, false, false, false, false, false, false, false, false, false, false, false, false, false, false, false, false, false, false, false, false, false, false, false, false, false, false] rfl rfl (by kernel_rfl) (fun _ _ _ h => h) (Or.inl ⟨by rfl, ?_⟩) ?_ ?_
  rotate_left
  · intro w'
    go_simp
    with_reducible rfl
  rotate_left
  · simp only [Act.put, List.setIfInBounds_toArray, List.set_cons_zero, List.set_cons_succ, i64_w, i32_w]
    rfl
  refine pure_ (i := 4) (N := some 114) (v := ?_) (a' := ?_) #[true, true, true, true, true, false, false, false, false, false, false, false, false, false, false, false, false, false, false, false, false, false, false, false, false, false, false, false, false, false, false, false, false, false, false, false, false, false, false, false, false, false, false, false, false, false, false, false, false, false, false, false, false, false] rfl rfl (by kernel_rfl) (fun _ _ _ h => h) (Or.inl ⟨by rfl, ?_⟩) ?_ ?_
  rotate_left
  · intro w'
    go_simp
    with_reducible rfl
  rotate_left
  · simp only [Act.put, List.setIfInBounds_toArray, List.set_cons_zero, List.set_cons_succ, i64_w, i32_w]
    rfl
  refine pure_ (i := 5) (N := some 115) (v := ?_) (a' := ?_) #[true, true, true, true, true, true, false, false, false, false, false, false, false, false, false, false, false, false, false, false, false, false, false, false, false, false, false, false, false, false, false, false, false, false, false, false, false, false, false, false, false, false, false, false, false, false, false, false, false, false, false, false, false, false] rfl rfl (by kernel_rfl) (fun _ _ _ h => h) (Or.inl ⟨by rfl, ?_⟩) ?_ ?_
  rotate_left
  · intro w'
    go_simp
    with_reducible rfl
  rotate_left
  · simp only [Act.put, List.setIfInBounds_toArray, List.set_cons_zero, List.set_cons_succ, i64_w, i32_w]
    rfl
  refine pure_ (i := 6) (N := some 116) (v := ?_) (a' := ?_) #[true, true, true, true, true, true, true, false, false, false, false, false, false, false, false, false, false, false, false, false, false, false, false, false, false, false, false, false, false, false, false, false, false, false, false, false, false, false, false, false, false, false, false, false, false, false, false, false, false, false, false, false, false, false] rfl rfl (by kernel_rfl) (fun _ _ _ h => h) (Or.inl ⟨by rfl, ?_⟩) ?_ ?_
  rotate_left
  · intro w'
    go_simp
    with_reducible rfl
  rotate_left
  · simp only [Act.put, List.setIfInBounds_toArray, List.set_cons_zero, List.set_cons_succ, i64_w, i32_w]
    rfl
  refine pure_ (i := 7) (N := some 117) (v := ?_) (a' := ?_) #[true, true, true, true, true, true, true, true, false, false, false, false, false, false, false, false, false, false, false, false, false, false, false, false, false, false, false, false, false, false, false, false, false, false, false, false, false, false, false, false, false, false, false, false, false, false, false, false, false, false, false, false, false, false] rfl rfl (by kernel_rfl) (fun _ _ _ h => h) (Or.inl ⟨by rfl, ?_⟩) ?_ ?_
  rotate_left
  · intro w'
    go_simp
    with_reducible rfl
  rotate_left
  · simp only [Act.put, List.setIfInBounds_toArray, List.set_cons_zero, List.set_cons_succ, i64_w, i32_w]
    rfl
  refine pure_ (i := 8) (N := some 118) (v := ?_) (a' := ?_) #[true, true, true, true, true, true, true, true, true, false, false, false, false, false, false, false, false, false, false, false, false, false, false, false, false, false, false, false, false, false, false, false, false, false, false, false, false, false, false, false, false, false, false, false, false, false, false, false, false, false, false, false, false, false] rfl rfl (by kernel_rfl) (fun _ _ _ h => h) (Or.inl ⟨by rfl, ?_⟩) ?_ ?_
  rotate_left
  · intro w'
    go_simp
    with_reducible rfl
  rotate_left
  · simp only [Act.put, List.setIfInBounds_toArray, List.set_cons_zero, List.set_cons_succ, i64_w, i32_w]
    rfl
  refine pure_ (i := 9) (N := some 119) (v := ?_) (a' := ?_) #[true, true, true, true, true, true, true, true, true, true, false, false, false, false, false, false, false, false, false, false, false, false, false, false, false, false, false, false, false, false, false, false, false, false, false, false, false, false, false, false, false, false, false, false, false, false, false, false, false, false, false, false, false, false] rfl rfl (by kernel_rfl) (fun _ _ _ h => h) (Or.inl ⟨by rfl, ?_⟩) ?_ ?_
  rotate_left
  · intro w'
    go_simp
    with_reducible rfl
  rotate_left
  · simp only [Act.put, List.setIfInBounds_toArray, List.set_cons_zero, List.set_cons_succ, i64_w, i32_w]
    rfl
  refine pure_ (i := 10) (N := some 120) (v := ?_) (a' := ?_) #[true, true, true, true, true, true, true, true, true, true, true, false, false, false, false, false, false, false, false, false, false, false, false, false, false, false, false, false, false, false, false, false, false, false, false, false, false, false, false, false, false, false, false, false, false, false, false, false, false, false, false, false, false, false] rfl rfl (by kernel_rfl) (fun _ _ _ h => h) (Or.inl ⟨by rfl, ?_⟩) ?_ ?_
  rotate_left
  · intro w'
    go_simp
    with_reducible rfl
  rotate_left
  · simp only [Act.put, List.setIfInBounds_toArray, List.set_cons_zero, List.set_cons_succ, i64_w, i32_w]
    rfl
  refine pure_ (i := 11) (N := some 121) (v := ?_) (a' := ?_) #[true, true, true, true, true, true, true, true, true, true, true, true, false, false, false, false, false, false, false, false, false, false, false, false, false, false, false, false, false, false, false, false, false, false, false, false, false, false, false, false, false, false, false, false, false, false, false, false, false, false, false, false, false, false] rfl rfl (by kernel_rfl) (fun _ _ _ h => h) (Or.inl ⟨by rfl, ?_⟩) ?_ ?_
  rotate_left
  · intro w'
    go_simp
    with_reducible rfl
  rotate_left
  · simp only [Act.put, List.setIfInBounds_toArray, List.set_cons_zero, List.set_cons_succ, i64_w, i32_w]
    rfl
  refine pure_ (i := 12) (N := some 122) (v := ?_) (a' := ?_) #[true, true, true, true, true, true, true, true, true, true, true, true, true, false, false, false, false, false, false, false, false, false, false, false, false, false, false, false, false, false, false, false, false, false, false, false, false, false, false, false, false, false, false, false, false, false, false, false, false, false, false, false, false, false] rfl rfl (by kernel_rfl) (fun _ _ _ h => h) (Or.inl ⟨by rfl, ?_⟩) ?_ ?_
  rotate_left
  · intro w'
    go_simp
    with_reducible rfl
  rotate_left
  · simp only [Act.put, List.setIfInBounds_toArray, List.set_cons_zero, List.set_cons_succ, i64_w, i32_w]
    rfl
  refine pure_ (i := 13) (N := some 123) (v := ?_) (a' := ?_) #[true, true, true, true, true, true, true, true, true, true, true, true, true, true, false, false, false, false, false, false, false, false, false, false, false, false, false, false, false, false, false, false, false, false, false, false, false, false, false, false, false, false, false, false, false, false, false, false, false, false, false, false, false, false] rfl rfl (by kernel_rfl) (fun _ _ _ h => h) (Or.inl ⟨by rfl, ?_⟩) ?_ ?_
  rotate_left
  · intro w'
    go_simp
    with_reducible rfl
  rotate_left
  · simp only [Act.put, List.setIfInBounds_toArray, List.set_cons_zero, List.set_cons_succ, i64_w, i32_w]
    rfl
  refine pure_ (i := 14) (N := some 124) (v := ?_) (a' := ?_) #[true, true, true, true, true, true, true, true, true, true, true, true, true, true, true, false, false, false, false, false, false, false, false, false, false, false, false, false, false, false, false, false, false, false, false, false, false, false, false, false, false, false, false, false, false, false, false, false, false, false, false, false, false, false] rfl rfl (by kernel_rfl) (fun _ _ _ h => h) (Or.inl ⟨by rfl, ?_⟩) ?_ ?_
  rotate_left
  · intro w'
    go_simp
    with_reducible rfl
  rotate_left
  · simp only [Act.put, List.setIfInBounds_toArray, List.set_cons_zero, List.set_cons_succ, i64_w, i32_w]
    rfl
  refine pure_ (i := 15) (N := some 125) (v := ?_) (a' := ?_) #[true, true, true, true, true, true, true, true, true, true, true, true, true, true, true, true, false, false, false, false, false, false, false, false, false, false, false, false, false, false, false, false, false, false, false, false, false, false, false, false, false, false, false, false, false, false, false, false, false, false, false, false, false, false] rfl rfl (by kernel_rfl) (fun _ _ _ h => h) (Or.inl ⟨by rfl, ?_⟩) ?_ ?_
  rotate_left
  · intro w'
    go_simp
    with_reducible rfl
  rotate_left
  · simp only [Act.put, List.setIfInBounds_toArray, List.set_cons_zero, List.set_cons_succ, i64_w, i32_w]
    rfl
  refine pure_ (i := 16) (N := some 126) (v := ?_) (a' := ?_) #[true, true, true, true, true, true, true, true, true, true, true, true, true, true, true, true, true, false, false, false, false, false, false, false, false, false, false, false, false, false, false, false, false, false, false, false, false, false, false, false, false, false, false, false, false, false, false, false, false, false, false, false, false, false] rfl rfl (by kernel_rfl) (fun _ _ _ h => h) (Or.inl ⟨by rfl, ?_⟩) ?_ ?_
  rotate_left
  · intro w'
    go_simp
    with_reducible rfl
  rotate_left
  · simp only [Act.put, List.setIfInBounds_toArray, List.set_cons_zero, List.set_cons_succ, i64_w, i32_w]
    rfl
  refine pure_ (i := 17) (N := some 127) (v := ?_) (a' := ?_) #[true, true, true, true, true, true, true, true, true, true, true, true, true, true, true, true, true, true, false, false, false, false, false, false, false, false, false, false, false, false, false, false, false, false, false, false, false, false, false, false, false, false, false, false, false, false, false, false, false, false, false, false, false, false] rfl rfl (by kernel_rfl) (fun _ _ _ h => h) (Or.inl ⟨by rfl, ?_⟩) ?_ ?_
  rotate_left
  · intro w'
    go_simp
    with_reducible rfl
  rotate_left
  · simp only [Act.put, List.setIfInBounds_toArray, List.set_cons_zero, List.set_cons_succ, i64_w, i32_w]
    rfl
  refine pure_ (i := 18) (N := some 128) (v := ?_) (a' := ?_) #[true, true, true, true, true, true, true, true, true, true, true, true, true, true, true, true, true, true, true, false, false, false, false, false, false, false, false, false, false, false, false, false, false, false, false, false, false, false, false, false, false, false, false, false, false, false, false, false, false, false, false, false, false, false] rfl rfl (by kernel_rfl) (fun _ _ _ h => h) (Or.inl ⟨by rfl, ?_⟩) ?_ ?_
  rotate_left
  · intro w'
    go_simp
    with_reducible rfl
  rotate_left
  · simp only [Act.put, List.setIfInBounds_toArray, List.set_cons_zero, List.set_cons_succ, i64_w, i32_w]
    rfl
  refine pure_ (i := 19) (N := some 129) (v := ?_) (a' := ?_) #[true, true, true, true, true, true, true, true, true, true, true, true, true, true, true, true, true, true, true, true, false, false, false, false, false, false, false, false, false, false, false, false, false, false, false, false, false, false, false, false, false, false, false, false, false, false, false, false, false, false, false, false, false, false] rfl rfl (by kernel_rfl) (fun _ _ _ h => h) (Or.inl ⟨by rfl, ?_⟩) ?_ ?_
  rotate_left
  · intro w'
    go_simp
    with_reducible rfl
  rotate_left
  · simp only [Act.put, List.setIfInBounds_toArray, List.set_cons_zero, List.set_cons_succ, i64_w, i32_w]
    rfl
  refine one_ (i := 20) (N := some 130) #[true, true, true, true, true, true, true, true, true, true, true, true, true, true, true, true, true, true, true, true, true, false, false, false, false, false, false, false, false, false, false, false, false, false, false, false, false, false, false, false, false, false, false, false, false, false, false, false, false, false, false, false, false, false] rfl rfl (by kernel_rfl) (by decide) (fun K hK => ?_)
  refine goes_ Tryd.func46 (by kernel_rfl) rfl #[.int .i64 0, .int .i64 0] (by rfl) rfl rfl (by simp only [List.map_toArray, List.map_cons, List.map_nil]; rfl) ?_
  with_reducible refine (at46 0 0 _).mono ?_
  rintro e w20 ⟨rfl, hf20⟩
  refine ⟨_, rfl, ?_⟩
  have H20 := Lib.hid (Fr0.trans (Fr.drew (Fr.refl _ W)) hf20)
  refine hK.out _ _ ⟨(H20.out.cell0 q0), (H20.out.cell0 q1), (H20.out.cell0 q2), (H20.out.cell0 q3)⟩ (fun hHeld => ?_)
  clear hK K
  refine norm_ (a' := ?_) ?_ ?_
  rotate_left
  · show Act.put _ (some 130) _ = _
    simp only [Act.put, List.setIfInBounds_toArray, List.set_cons_zero, List.set_cons_succ, i64_w, i32_w]
    rfl
  refine one_ (i := 21) (N := some 131) #[true, true, true, true, true, true, true, true, true, true, true, true, true, true, true, true, true, true, true, true, true, true, false, false, false, false, false, false, false, false, false, false, false, false, false, false, false, false, false, false, false, false, false, false, false, false, false, false, false, false, false, false, false, false] rfl rfl (by kernel_rfl) (by decide) (fun K hK => ?_)
  refine goes_ Tryd.func46 (by kernel_rfl) rfl #[.int .i64 0, .int .i64 2] (by rfl) rfl rfl (by simp only [List.map_toArray, List.map_cons, List.map_nil]; rfl) ?_
  with_reducible refine (at46 0 2 _).mono ?_
  rintro e w21 ⟨rfl, hf21⟩
  refine ⟨_, rfl, ?_⟩
  have H21 := Lib.hid (Fr0.trans H20.out hf21)
  refine hK.out _ _ ⟨(H21.out.cell0 q0), (H21.out.cell0 q1), (H21.out.cell0 q2), (H21.out.cell0 q3)⟩ (fun hHeld => ?_)
  clear hK K
  refine norm_ (a' := ?_) ?_ ?_
  rotate_left
  · show Act.put _ (some 131) _ = _
    simp only [Act.put, List.setIfInBounds_toArray, List.set_cons_zero, List.set_cons_succ, i64_w, i32_w]
    rfl
  refine one_ (i := 22) (N := some 132) #[true, true, true, true, true, true, true, true, true, true, true, true, true, true, true, true, true, true, true, true, true, true, true, false, false, false, false, false, false, false, false, false, false, false, false, false, false, false, false, false, false, false, false, false, false, false, false, false, false, false, false, false, false, false] rfl rfl (by kernel_rfl) (by decide) (fun K hK => ?_)
  refine goes_ Tryd.func46 (by kernel_rfl) rfl #[.int .i64 0, .int .i64 4] (by rfl) rfl rfl (by simp only [List.map_toArray, List.map_cons, List.map_nil]; rfl) ?_
  with_reducible refine (at46 0 4 _).mono ?_
  rintro e w22 ⟨rfl, hf22⟩
  refine ⟨_, rfl, ?_⟩
  have H22 := Lib.hid (Fr0.trans H21.out hf22)
  refine hK.out _ _ ⟨(H22.out.cell0 q0), (H22.out.cell0 q1), (H22.out.cell0 q2), (H22.out.cell0 q3)⟩ (fun hHeld => ?_)
  clear hK K
  refine norm_ (a' := ?_) ?_ ?_
  rotate_left
  · show Act.put _ (some 132) _ = _
    simp only [Act.put, List.setIfInBounds_toArray, List.set_cons_zero, List.set_cons_succ, i64_w, i32_w]
    rfl
  refine one_ (i := 23) (N := some 133) #[true, true, true, true, true, true, true, true, true, true, true, true, true, true, true, true, true, true, true, true, true, true, true, true, false, false, false, false, false, false, false, false, false, false, false, false, false, false, false, false, false, false, false, false, false, false, false, false, false, false, false, false, false, false] rfl rfl (by kernel_rfl) (by decide) (fun K hK => ?_)
  refine goes_ Tryd.func46 (by kernel_rfl) rfl #[.int .i64 1, .int .i64 0] (by rfl) rfl rfl (by simp only [List.map_toArray, List.map_cons, List.map_nil]; rfl) ?_
  with_reducible refine (at46 1 0 _).mono ?_
  rintro e w23 ⟨rfl, hf23⟩
  refine ⟨_, rfl, ?_⟩
  have H23 := Lib.hid (Fr0.trans H22.out hf23)
  refine hK.out _ _ ⟨(H23.out.cell0 q0), (H23.out.cell0 q1), (H23.out.cell0 q2), (H23.out.cell0 q3)⟩ (fun hHeld => ?_)
  clear hK K
  refine norm_ (a' := ?_) ?_ ?_
  rotate_left
  · show Act.put _ (some 133) _ = _
    simp only [Act.put, List.setIfInBounds_toArray, List.set_cons_zero, List.set_cons_succ, i64_w, i32_w]
    rfl
  refine one_ (i := 24) (N := some 134) #[true, true, true, true, true, true, true, true, true, true, true, true, true, true, true, true, true, true, true, true, true, true, true, true, true, false, false, false, false, false, false, false, false, false, false, false, false, false, false, false, false, false, false, false, false, false, false, false, false, false, false, false, false, false] rfl rfl (by kernel_rfl) (by decide) (fun K hK => ?_)
  refine goes_ Tryd.func46 (by kernel_rfl) rfl #[.int .i64 1, .int .i64 2] (by rfl) rfl rfl (by simp only [List.map_toArray, List.map_cons, List.map_nil]; rfl) ?_
  with_reducible refine (at46 1 2 _).mono ?_
  rintro e w24 ⟨rfl, hf24⟩
  refine ⟨_, rfl, ?_⟩
  have H24 := Lib.hid (Fr0.trans H23.out hf24)
  refine hK.out _ _ ⟨(H24.out.cell0 q0), (H24.out.cell0 q1), (H24.out.cell0 q2), (H24.out.cell0 q3)⟩ (fun hHeld => ?_)
  clear hK K
  refine norm_ (a' := ?_) ?_ ?_
  rotate_left
  · show Act.put _ (some 134) _ = _
    simp only [Act.put, List.setIfInBounds_toArray, List.set_cons_zero, List.set_cons_succ, i64_w, i32_w]
    rfl
  refine one_ (i := 25) (N := some 135) #[true, true, true, true, true, true, true, true, true, true, true, true, true, true, true, true, true, true, true, true, true, true, true, true, true, true, false, false, false, false, false, false, false, false, false, false, false, false, false, false, false, false, false, false, false, false, false, false, false, false, false, false, false, false] rfl rfl (by kernel_rfl) (by decide) (fun K hK => ?_)
  refine value_ (w1 := ?_) (v := ?_) (by rfl) rfl ?_ ?_
  rotate_left 2
  · go_simp
    constructor
    · rfl
    · rfl
  refine hK.out _ _ ⟨((H24.out.alloc _).cell0 q0), ((H24.out.alloc _).cell0 q1), ((H24.out.alloc _).cell0 q2), ((H24.out.alloc _).cell0 q3)⟩ (fun hHeld => ?_)
  clear hK K
  refine norm_ (a' := ?_) ?_ ?_
  rotate_left
  · show Act.put _ (some 135) _ = _
    simp only [Act.put, List.setIfInBounds_toArray, List.set_cons_zero, List.set_cons_succ, i64_w, i32_w]
    rfl
  refine one_ (i := 26) (N := some 136) #[true, true, true, true, true, true, true, true, true, true, true, true, true, true, true, true, true, true, true, true, true, true, true, true, true, true, true, false, false, false, false, false, false, false, false, false, false, false, false, false, false, false, false, false, false, false, false, false, false, false, false, false, false, false] rfl rfl (by kernel_rfl) (by decide) (fun K hK => ?_)
  refine goes_ Tryd.func29 (by kernel_rfl) rfl #[.slice A3 5 c3, .slice (some ⟨w24.heap.size, 0, none⟩) 5 5] (by rfl) rfl rfl (by simp only [List.map_toArray, List.map_cons, List.map_nil]; rfl) ?_
  with_reducible refine (spots5 (C_fr HS5.out (H24.out.alloc _)) hc3 (spots_new w24)).mono ?_
  rintro e w26 ⟨rfl, hf26⟩
  refine ⟨_, rfl, ?_⟩
  have H26 := Lib.hid (Fr0.trans (H24.out.alloc _) hf26)
  refine hK.out _ _ ⟨(H26.out.cell0 q0), (H26.out.cell0 q1), (H26.out.cell0 q2), (H26.out.cell0 q3)⟩ (fun hHeld => ?_)
  clear hK K
  refine norm_ (a' := ?_) ?_ ?_
  rotate_left
  · show Act.put _ (some 136) _ = _
    simp only [Act.put, List.setIfInBounds_toArray, List.set_cons_zero, List.set_cons_succ, i64_w, i32_w]
    rfl
  refine pure_ (i := 27) (N := some 137) (v := ?_) (a' := ?_) #[true, true, true, true, true, true, true, true, true, true, true, true, true, true, true, true, true, true, true, true, true, true, true, true, true, true, true, true, false, false, false, false, false, false, false, false, false, false, false, false, false, false, false, false, false, false, false, false, false, false, false, false, false, false] rfl rfl (by kernel_rfl) (fun _ _ _ h => h) (Or.inl ⟨by rfl, ?_⟩) ?_ ?_
  rotate_left
  · intro w'
    go_simp
    with_reducible rfl
  rotate_left
  · simp only [Act.put, List.setIfInBounds_toArray, List.set_cons_zero, List.set_cons_succ, i64_w, i32_w]
    rfl
  refine pure_ (i := 28) (N := some 138) (v := ?_) (a' := ?_) #[true, true, true, true, true, true, true, true, true, true, true, true, true, true, true, true, true, true, true, true, true, true, true, true, true, true, true, true, true, false, false, false, false, false, false, false, false, false, false, false, false, false, false, false, false, false, false, false, false, false, false, false, false, false] rfl rfl (by kernel_rfl) (fun _ _ _ h => h) (Or.inl ⟨by rfl, ?_⟩) ?_ ?_
  rotate_left
  · intro w'
    go_simp
    with_reducible rfl
  rotate_left
  · simp only [Act.put, List.setIfInBounds_toArray, List.set_cons_zero, List.set_cons_succ, i64_w, i32_w]
    rfl
  refine pure_ (i := 29) (N := some 139) (v := ?_) (a' := ?_) #[true, true, true, true, true, true, true, true, true, true, true, true, true, true, true, true, true, true, true, true, true, true, true, true, true, true, true, true, true, true, false, false, false, false, false, false, false, false, false, false, false, false, false, false, false, false, false, false, false, false, false, false, false, false] rfl rfl (by kernel_rfl) (fun _ _ _ h => h) (Or.inl ⟨by rfl, ?_⟩) ?_ ?_
  rotate_left
  · intro w'
    go_simp
    with_reducible rfl
  rotate_left
  · simp only [Act.put, List.setIfInBounds_toArray, List.set_cons_zero, List.set_cons_succ, i64_w, i32_w]
    rfl
  refine pure_ (i := 30) (N := some 140) (v := ?_) (a' := ?_) #[true, true, true, true, true, true, true, true, true, true, true, true, true, true, true, true, true, true, true, true, true, true, true, true, true, true, true, true, true, true, true, false, false, false, false, false, false, false, false, false, false, false, false, false, false, false, false, false, false, false, false, false, false, false] rfl rfl (by kernel_rfl) (fun _ _ _ h => h) (Or.inl ⟨by rfl, ?_⟩) ?_ ?_
  rotate_left
  · intro w'
    go_simp
    with_reducible rfl
  rotate_left
  · simp only [Act.put, List.setIfInBounds_toArray, List.set_cons_zero, List.set_cons_succ, i64_w, i32_w]
    rfl
  refine pure_ (i := 31) (N := some 141) (v := ?_) (a' := ?_) #[true, true, true, true, true, true, true, true, true, true, true, true, true, true, true, true, true, true, true, true, true, true, true, true, true, true, true, true, true, true, true, true, false, false, false, false, false, false, false, false, false, false, false, false, false, false, false, false, false, false, false, false, false, false] rfl rfl (by kernel_rfl) (fun _ _ _ h => h) (Or.inl ⟨by rfl, ?_⟩) ?_ ?_
  rotate_left
  · intro w'
    go_simp
    with_reducible rfl
  rotate_left
  · simp only [Act.put, List.setIfInBounds_toArray, List.set_cons_zero, List.set_cons_succ, i64_w, i32_w]
    rfl
  refine one_ (i := 32) (N := some 142) #[true, true, true, true, true, true, true, true, true, true, true, true, true, true, true, true, true, true, true, true, true, true, true, true, true, true, true, true, true, true, true, true, true, false, false, false, false, false, false, false, false, false, false, false, false, false, false, false, false, false, false, false, false, false] rfl rfl (by kernel_rfl) (by decide) (fun K hK => ?_)
  refine value_ (w1 := ?_) (v := ?_) (by rfl) rfl ?_ ?_
  rotate_left 2
  · go_simp
    constructor
    · rfl
    · rfl
  refine hK.out _ _ ⟨((H26.out.alloc _).cell0 q0), ((H26.out.alloc _).cell0 q1), ((H26.out.alloc _).cell0 q2), ((H26.out.alloc _).cell0 q3)⟩ (fun hHeld => ?_)
  clear hK K
  refine norm_ (a' := ?_) ?_ ?_
  rotate_left
  · show Act.put _ (some 142) _ = _
    simp only [Act.put, List.setIfInBounds_toArray, List.set_cons_zero, List.set_cons_succ, i64_w, i32_w]
    rfl
  refine one_ (i := 33) (N := some 143) #[true, true, true, true, true, true, true, true, true, true, true, true, true, true, true, true, true, true, true, true, true, true, true, true, true, true, true, true, true, true, true, true, true, true, false, false, false, false, false, false, false, false, false, false, false, false, false, false, false, false, false, false, false, false] rfl rfl (by kernel_rfl) (by decide) (fun K hK => ?_)
  refine goes_ Tryd.func34 (by kernel_rfl) rfl #[.slice A4 2 c4, .slice (some ⟨w26.heap.size, 0, none⟩) 2 2] (by rfl) rfl rfl (by simp only [List.map_toArray, List.map_cons, List.map_nil]; rfl) ?_
  with_reducible refine (strokes2 (C_fr HM2.out (H26.out.alloc _)) hc4 (strokes_new w26)).mono ?_
  rintro e w33 ⟨rfl, hf33⟩
  refine ⟨_, rfl, ?_⟩
  have H33 := Lib.hid (Fr0.trans (H26.out.alloc _) hf33)
  refine hK.out _ _ ⟨(H33.out.cell0 q0), (H33.out.cell0 q1), (H33.out.cell0 q2), (H33.out.cell0 q3)⟩ (fun hHeld => ?_)
  clear hK K
  refine norm_ (a' := ?_) ?_ ?_
  rotate_left
  · show Act.put _ (some 143) _ = _
    simp only [Act.put, List.setIfInBounds_toArray, List.set_cons_zero, List.set_cons_succ, i64_w, i32_w]
    rfl
  refine pure_ (i := 34) (N := some 144) (v := ?_) (a' := ?_) #[true, true, true, true, true, true, true, true, true, true, true, true, true, true, true, true, true, true, true, true, true, true, true, true, true, true, true, true, true, true, true, true, true, true, true, false, false, false, false, false, false, false, false, false, false, false, false, false, false, false, false, false, false, false] rfl rfl (by kernel_rfl) (fun _ _ _ h => h) (Or.inl ⟨by rfl, ?_⟩) ?_ ?_
  rotate_left
  · intro w'
    go_simp
    with_reducible rfl
  rotate_left
  · simp only [Act.put, List.setIfInBounds_toArray, List.set_cons_zero, List.set_cons_succ, i64_w, i32_w]
    rfl
  refine pure_ (i := 35) (N := some 145) (v := ?_) (a' := ?_) #[true, true, true, true, true, true, true, true, true, true, true, true, true, true, true, true, true, true, true, true, true, true, true, true, true, true, true, true, true, true, true, true, true, true, true, true, false, false, false, false, false, false, false, false, false, false, false, false, false, false, false, false, false, false] rfl rfl (by kernel_rfl) (fun _ _ _ h => h) (Or.inl ⟨by rfl, ?_⟩) ?_ ?_
  rotate_left
  · intro w'
    go_simp
    with_reducible rfl
  rotate_left
  · simp only [Act.put, List.setIfInBounds_toArray, List.set_cons_zero, List.set_cons_succ, i64_w, i32_w]
    rfl
  refine take_ (i := 36) (N := some 146) (v := ?_) (a' := ?_) #[true, true, true, true, true, true, true, true, true, true, true, true, true, true, true, true, true, true, true, true, true, true, true, true, true, true, true, true, true, true, true, true, true, true, true, true, true, false, false, false, false, false, false, false, false, false, false, false, false, false, false, false, false, false] rfl rfl (by kernel_rfl) (fun _ _ _ h => h) (Or.inl ⟨by rfl, ?_⟩) hHeld ?_ ?_
  rotate_left
  · rintro w' ⟨s0, s1, s2, s3⟩
    go_simp
    with_reducible rfl
  rotate_left
  · simp only [Act.put, List.setIfInBounds_toArray, List.set_cons_zero, List.set_cons_succ, i64_w, i32_w]
    rfl
  refine one_ (i := 37) (N := some 147) #[true, true, true, true, true, true, true, true, true, true, true, true, true, true, true, true, true, true, true, true, true, true, true, true, true, true, true, true, true, true, true, true, true, true, true, true, true, true, false, false, false, false, false, false, false, false, false, false, false, false, false, false, false, false] rfl rfl (by kernel_rfl) (by decide) (fun K hK => ?_)
  refine goes_ Tryd.func46 (by kernel_rfl) rfl #[.int .i64 0, .int .i64 0] (by rfl) rfl rfl (by simp only [List.map_toArray, List.map_cons, List.map_nil]; rfl) ?_
  with_reducible refine (at46 0 0 _).mono ?_
  rintro e w37 ⟨rfl, hf37⟩
  refine ⟨_, rfl, ?_⟩
  have H37 := Lib.hid (Fr0.trans H33.out hf37)
  refine hK.out _ _ ⟨(H37.out.cell0 q0), (H37.out.cell0 q1), (H37.out.cell0 q2), (H37.out.cell0 q3)⟩ (fun hHeld => ?_)
  clear hK K
  refine norm_ (a' := ?_) ?_ ?_
  rotate_left
  · show Act.put _ (some 147) _ = _
    simp only [Act.put, List.setIfInBounds_toArray, List.set_cons_zero, List.set_cons_succ, i64_w, i32_w]
    rfl
  refine pure_ (i := 38) (N := some 148) (v := ?_) (a' := ?_) #[true, true, true, true, true, true, true, true, true, true, true, true, true, true, true, true, true, true, true, true, true, true, true, true, true, true, true, true, true, true, true, true, true, true, true, true, true, true, true, false, false, false, false, false, false, false, false, false, false, false, false, false, false, false] rfl rfl (by kernel_rfl) (fun _ _ _ h => h) (Or.inl ⟨by rfl, ?_⟩) ?_ ?_
  rotate_left
  · intro w'
    go_simp
    with_reducible rfl
  rotate_left
  · simp only [Act.put, List.setIfInBounds_toArray, List.set_cons_zero, List.set_cons_succ, i64_w, i32_w]
    rfl
  refine pure_ (i := 39) (N := some 149) (v := ?_) (a' := ?_) #[true, true, true, true, true, true, true, true, true, true, true, true, true, true, true, true, true, true, true, true, true, true, true, true, true, true, true, true, true, true, true, true, true, true, true, true, true, true, true, true, false, false, false, false, false, false, false, false, false, false, false, false, false, false] rfl rfl (by kernel_rfl) (fun _ _ _ h => h) (Or.inl ⟨by rfl, ?_⟩) ?_ ?_
  rotate_left
  · intro w'
    go_simp
    with_reducible rfl
  rotate_left
  · simp only [Act.put, List.setIfInBounds_toArray, List.set_cons_zero, List.set_cons_succ, i64_w, i32_w]
    rfl
  refine pure_ (i := 40) (N := some 150) (v := ?_) (a' := ?_) #[true, true, true, true, true, true, true, true, true, true, true, true, true, true, true, true, true, true, true, true, true, true, true, true, true, true, true, true, true, true, true, true, true, true, true, true, true, true, true, true, true, false, false, false, false, false, false, false, false, false, false, false, false, false] rfl rfl (by kernel_rfl) (fun _ _ _ h => h) (Or.inl ⟨by rfl, ?_⟩) ?_ ?_
  rotate_left
  · intro w'
    go_simp
    with_reducible rfl
  rotate_left
  · simp only [Act.put, List.setIfInBounds_toArray, List.set_cons_zero, List.set_cons_succ, i64_w, i32_w]
    rfl
  refine take_ (i := 41) (N := some 151) (v := ?_) (a' := ?_) #[true, true, true, true, true, true, true, true, true, true, true, true, true, true, true, true, true, true, true, true, true, true, true, true, true, true, true, true, true, true, true, true, true, true, true, true, true, true, true, true, true, true, false, false, false, false, false, false, false, false, false, false, false, false] rfl rfl (by kernel_rfl) (fun _ _ _ h => h) (Or.inl ⟨by rfl, ?_⟩) hHeld ?_ ?_
  rotate_left
  · rintro w' ⟨s0, s1, s2, s3⟩
    go_simp
    with_reducible rfl
  rotate_left
  · simp only [Act.put, List.setIfInBounds_toArray, List.set_cons_zero, List.set_cons_succ, i64_w, i32_w]
    rfl
  refine one_ (i := 42) (N := some 152) #[true, true, true, true, true, true, true, true, true, true, true, true, true, true, true, true, true, true, true, true, true, true, true, true, true, true, true, true, true, true, true, true, true, true, true, true, true, true, true, true, true, true, true, false, false, false, false, false, false, false, false, false, false, false] rfl rfl (by kernel_rfl) (by decide) (fun K hK => ?_)
  refine goes_ Tryd.func46 (by kernel_rfl) rfl #[.int .i64 0, .int .i64 4] (by rfl) rfl rfl (by simp only [List.map_toArray, List.map_cons, List.map_nil]; rfl) ?_
  with_reducible refine (at46 0 4 _).mono ?_
  rintro e w42 ⟨rfl, hf42⟩
  refine ⟨_, rfl, ?_⟩
  have H42 := Lib.hid (Fr0.trans H37.out hf42)
  refine hK.out _ _ ⟨(H42.out.cell0 q0), (H42.out.cell0 q1), (H42.out.cell0 q2), (H42.out.cell0 q3)⟩ (fun hHeld => ?_)
  clear hK K
  refine norm_ (a' := ?_) ?_ ?_
  rotate_left
  · show Act.put _ (some 152) _ = _
    simp only [Act.put, List.setIfInBounds_toArray, List.set_cons_zero, List.set_cons_succ, i64_w, i32_w]
    rfl
  refine pure_ (i := 43) (N := some 153) (v := ?_) (a' := ?_) #[true, true, true, true, true, true, true, true, true, true, true, true, true, true, true, true, true, true, true, true, true, true, true, true, true, true, true, true, true, true, true, true, true, true, true, true, true, true, true, true, true, true, true, true, false, false, false, false, false, false, false, false, false, false] rfl rfl (by kernel_rfl) (fun _ _ _ h => h) (Or.inl ⟨by rfl, ?_⟩) ?_ ?_
  rotate_left
  · intro w'
    go_simp
    with_reducible rfl
  rotate_left
  · simp only [Act.put, List.setIfInBounds_toArray, List.set_cons_zero, List.set_cons_succ, i64_w, i32_w]
    rfl
  refine pure_ (i := 44) (N := some 154) (v := ?_) (a' := ?_) #[true, true, true, true, true, true, true, true, true, true, true, true, true, true, true, true, true, true, true, true, true, true, true, true, true, true, true, true, true, true, true, true, true, true, true, true, true, true, true, true, true, true, true, true, true, false, false, false, false, false, false, false, false, false] rfl rfl (by kernel_rfl) (fun _ _ _ h => h) (Or.inl ⟨by rfl, ?_⟩) ?_ ?_
  rotate_left
  · intro w'
    go_simp
    with_reducible rfl
  rotate_left
  · simp only [Act.put, List.setIfInBounds_toArray, List.set_cons_zero, List.set_cons_succ, i64_w, i32_w]
    rfl
  refine pure_ (i := 45) (N := some 155) (v := ?_) (a' := ?_) #[true, true, true, true, true, true, true, true, true, true, true, true, true, true, true, true, true, true, true, true, true, true, true, true, true, true, true, true, true, true, true, true, true, true, true, true, true, true, true, true, true, true, true, true, true, true, false, false, false, false, false, false, false, false] rfl rfl (by kernel_rfl) (fun _ _ _ h => h) (Or.inl ⟨by rfl, ?_⟩) ?_ ?_
  rotate_left
  · intro w'
    go_simp
    with_reducible rfl
  rotate_left
  · simp only [Act.put, List.setIfInBounds_toArray, List.set_cons_zero, List.set_cons_succ, i64_w, i32_w]
    rfl
  refine pure_ (i := 46) (N := some 156) (v := ?_) (a' := ?_) #[true, true, true, true, true, true, true, true, true, true, true, true, true, true, true, true, true, true, true, true, true, true, true, true, true, true, true, true, true, true, true, true, true, true, true, true, true, true, true, true, true, true, true, true, true, true, true, false, false, false, false, false, false, false] rfl rfl (by kernel_rfl) (fun _ _ _ h => h) (Or.inl ⟨by rfl, ?_⟩) ?_ ?_
  rotate_left
  · intro w'
    go_simp
    with_reducible rfl
  rotate_left
  · simp only [Act.put, List.setIfInBounds_toArray, List.set_cons_zero, List.set_cons_succ, i64_w, i32_w]
    rfl
  refine pure_ (i := 47) (N := some 157) (v := ?_) (a' := ?_) #[true, true, true, true, true, true, true, true, true, true, true, true, true, true, true, true, true, true, true, true, true, true, true, true, true, true, true, true, true, true, true, true, true, true, true, true, true, true, true, true, true, true, true, true, true, true, true, true, false, false, false, false, false, false] rfl rfl (by kernel_rfl) (fun _ _ _ h => h) (Or.inl ⟨by rfl, ?_⟩) ?_ ?_
  rotate_left
  · intro w'
    go_simp
    with_reducible rfl
  rotate_left
  · simp only [Act.put, List.setIfInBounds_toArray, List.set_cons_zero, List.set_cons_succ, i64_w, i32_w]
    rfl
  refine pure_ (i := 48) (N := some 158) (v := ?_) (a' := ?_) #[true, true, true, true, true, true, true, true, true, true, true, true, true, true, true, true, true, true, true, true, true, true, true, true, true, true, true, true, true, true, true, true, true, true, true, true, true, true, true, true, true, true, true, true, true, true, true, true, true, false, false, false, false, false] rfl rfl (by kernel_rfl) (fun _ _ _ h => h) (Or.inl ⟨by rfl, ?_⟩) ?_ ?_
  rotate_left
  · intro w'
    go_simp
    with_reducible rfl
  rotate_left
  · simp only [Act.put, List.setIfInBounds_toArray, List.set_cons_zero, List.set_cons_succ, i64_w, i32_w]
    rfl
  refine pure_ (i := 49) (N := some 159) (v := ?_) (a' := ?_) #[true, true, true, true, true, true, true, true, true, true, true, true, true, true, true, true, true, true, true, true, true, true, true, true, true, true, true, true, true, true, true, true, true, true, true, true, true, true, true, true, true, true, true, true, true, true, true, true, true, true, false, false, false, false] rfl rfl (by kernel_rfl) (fun _ _ _ h => h) (Or.inl ⟨by rfl, ?_⟩) ?_ ?_
  rotate_left
  · intro w'
    go_simp
    with_reducible rfl
  rotate_left
  · simp only [Act.put, List.setIfInBounds_toArray, List.set_cons_zero, List.set_cons_succ, i64_w, i32_w]
    rfl
  refine pure_ (i := 50) (N := some 160) (v := ?_) (a' := ?_) #[true, true, true, true, true, true, true, true, true, true, true, true, true, true, true, true, true, true, true, true, true, true, true, true, true, true, true, true, true, true, true, true, true, true, true, true, true, true, true, true, true, true, true, true, true, true, true, true, true, true, true, false, false, false] rfl rfl (by kernel_rfl) (fun _ _ _ h => h) (Or.inl ⟨by rfl, ?_⟩) ?_ ?_
  rotate_left
  · intro w'
    go_simp
    with_reducible rfl
  rotate_left
  · simp only [Act.put, List.setIfInBounds_toArray, List.set_cons_zero, List.set_cons_succ, i64_w, i32_w]
    rfl
  refine pure_ (i := 51) (N := some 161) (v := ?_) (a' := ?_) #[true, true, true, true, true, true, true, true, true, true, true, true, true, true, true, true, true, true, true, true, true, true, true, true, true, true, true, true, true, true, true, true, true, true, true, true, true, true, true, true, true, true, true, true, true, true, true, true, true, true, true, true, false, false] rfl rfl (by kernel_rfl) (fun _ _ _ h => h) (Or.inl ⟨by rfl, ?_⟩) ?_ ?_
  rotate_left
  · intro w'
    go_simp
    with_reducible rfl
  rotate_left
  · simp only [Act.put, List.setIfInBounds_toArray, List.set_cons_zero, List.set_cons_succ, i64_w, i32_w]
    rfl
  refine pure_ (i := 52) (N := some 162) (v := ?_) (a' := ?_) #[true, true, true, true, true, true, true, true, true, true, true, true, true, true, true, true, true, true, true, true, true, true, true, true, true, true, true, true, true, true, true, true, true, true, true, true, true, true, true, true, true, true, true, true, true, true, true, true, true, true, true, true, true, false] rfl rfl (by kernel_rfl) (fun _ _ _ h => h) (Or.inl ⟨by rfl, ?_⟩) ?_ ?_
  rotate_left
  · intro w'
    go_simp
    with_reducible rfl
  rotate_left
  · simp only [Act.put, List.setIfInBounds_toArray, List.set_cons_zero, List.set_cons_succ, i64_w, i32_w]
    rfl
  refine pure_ (i := 53) (N := some 0) (v := ?_) (a' := ?_) #[true, true, true, true, true, true, true, true, true, true, true, true, true, true, true, true, true, true, true, true, true, true, true, true, true, true, true, true, true, true, true, true, true, true, true, true, true, true, true, true, true, true, true, true, true, true, true, true, true, true, true, true, true, true] rfl rfl (by kernel_rfl) (fun _ _ _ h => h) (Or.inl ⟨by rfl, ?_⟩) ?_ ?_
  rotate_left
  · intro w'
    go_simp
    with_reducible rfl
  rotate_left
  · simp only [Act.put, List.setIfInBounds_toArray, List.set_cons_zero, List.set_cons_succ, i64_w, i32_w]
    rfl
  refine done_ (by kernel_rfl) ?_
  go_wp2
  refine ret_marks (.bool true) [] (marks_nil _) List.nodup_nil (by simp [results, Tryd.results23, go_sem]) ⟨rfl, ?_⟩
  exact fr_below (Fr0.trans HF.out H42.out)
end Go.Proofs.YtephecfapclgfaaDoor.R
namespace Go.Proofs.YtephecfapclgfaaDoor.PRaspKeys
open Go.RowKit Go.Proofs.YtephecfapclgfaaDoorW.PrintWords Go.Proofs.YtephecfapclgfaaDoorW.PrintLast
def saronlaw05_marked.f : Option (Bool) := some true
theorem saronlaw05_marked.calls (r : Bool) (w : World) (hG : Glob w) (h : saronlaw05_marked.f = some r) :
    Calls Tryd.prog 23 #[] w fun e w' => e = .returned (.bool r) ∧ Below w.heap.size w w' := by
  cases Option.some.inj h
  exact Go.Proofs.YtephecfapclgfaaDoor.R.marked_any w hG
end Go.Proofs.YtephecfapclgfaaDoor.PRaspKeys
