import Derived.Test.YtephecfapclgfaaDoorG3
import Derived.Test.YtephecfapclgfaaDoorVNEv
set_option linter.unusedVariables false
set_option linter.unusedSimpArgs false
namespace Go.Proofs.YtephecfapclgfaaDoor.R
open Go.RowKit Go.Shelf Go.Proofs.YtephecfapclgfaaDoorW.PrintWords Go.Proofs.YtephecfapclgfaaDoorW.PrintLast Go.Proofs.YtephecfapclgfaaDoor.PRaspKeys Go.Proofs.YtephecfapclgfaaDoor.X
attribute [local go_sem] Oper.semAt_some

/-! ### next -/
def nxtD (p : Int → Bool) : Nat → Int → Nat
  | 0, _ => 0
  | n + 1, b => if p b = true then 0 else nxtD p n (b + 1) + 1
theorem nxtD_spec (p : Int → Bool) : ∀ (n : Nat) (b : Int) (j : Nat), j < n → p (b + j) = true → nxtD p n b < n ∧ p (b + nxtD p n b) = true ∧ ∀ i : Nat, i < nxtD p n b → p (b + i) = false
  | 0, b, j, h, _ => by omega
  | n + 1, b, j, h, hp => by
    unfold nxtD
    by_cases c : p b = true
    · rw [if_pos c]
      exact ⟨by omega, by simpa using c, fun i hi => by omega⟩
    · rw [if_neg c]
      have hj : j ≠ 0 := by rintro rfl; exact c (by simpa using hp)
      obtain ⟨h1, h2, h3⟩ := nxtD_spec p n (b + 1) (j - 1) (by omega) (by rw [show b + 1 + ((j - 1 : Nat) : Int) = b + j by omega]; exact hp)
      refine ⟨by omega, by rw [show b + ((nxtD p n (b + 1) + 1 : Nat) : Int) = b + 1 + (nxtD p n (b + 1) : Int) by omega]; exact h2, fun i hi => ?_⟩
      rcases i with _ | i
      · simpa using c
      · rw [show b + ((i + 1 : Nat) : Int) = b + 1 + (i : Int) by omega]
        exact h3 i (by omega)
def hitB (l : List S63) (form : Int) (gn : Nat) (b : Int) : Bool := hits l form (b % (rd_T63 l form).f0) gn
def nextB (l : List S63) (form : Int) (gn : Nat) (b : Int) : Int := b + nxtD (hitB l form gn) 33 b
/-- What the closure reads. -/
structure NEnv (g : Int) (A : Option Addr) (c : Nat) (l : List S63) (mb : Nat) (form gong : Int) (bS bF bG bR : Nat) (W : World) : Prop where
  st : St g A c l mb W
  s0 : W.cell? ⟨bS, 0, none⟩ = some (.int .i64 g)
  s1 : W.cell? ⟨bS, 1, none⟩ = some (.slice A l.length c)
  s2 : W.cell? ⟨bS, 2, none⟩ = some (.map (some mb))
  cf : W.cell? ⟨bF, 0, none⟩ = some (.int .i64 form)
  cg : W.cell? ⟨bG, 0, none⟩ = some (.int .i64 gong)
  cr : W.cell? ⟨bR, 0, none⟩ = some (.func (.func 91) #[] #[.pointer (some ⟨bS, 0, none⟩), .pointer (some ⟨bF, 0, none⟩), .pointer (some ⟨bG, 0, none⟩), .pointer (some ⟨bR, 0, none⟩)])
theorem NEnv.fr {g : Int} {A : Option Addr} {c : Nat} {l : List S63} {mb : Nat} {form gong : Int} {bS bF bG bR : Nat} {W W' : World} (h : NEnv g A c l mb form gong bS bF bG bR W) (hf : Fr0 W W') : NEnv g A c l mb form gong bS bF bG bR W' :=
  ⟨h.st.fr hf, hf.cell0 h.s0, hf.cell0 h.s1, hf.cell0 h.s2, hf.cell0 h.cf, hf.cell0 h.cg, hf.cell0 h.cr⟩
theorem idx89 (H : Nat → Bool) (n : Nat) (hn : n < 5) (w' : World) : (Instr.index 89 (.agg #[.bool (H 0), .bool (H 1), .bool (H 2), .bool (H 3), .bool (H 4)]) (.int .i64 n)).run Tryd.prog w' = .ok (.bool (H n)) w' := by
  rcases (show n = 0 ∨ n = 1 ∨ n = 2 ∨ n = 3 ∨ n = 4 by omega) with rfl | rfl | rfl | rfl | rfl <;> kernel_rfl
set_option maxHeartbeats 2000000 in
set_option maxRecDepth 100000 in
theorem from_any (g : Int) (A : Option Addr) (c : Nat) (l : List S63) (mb : Nat) (hl : Beats l) (form : Int) (gn : Nat) (hf0 : 0 ≤ form) (hf1 : form < l.length) (hg : gn < 5) (bS bF bG bR : Nat) : ∀ (d : Nat) (b : Int) (W : World), 0 ≤ b → b + d ≤ 1000000 → hitB l form gn (b + d) = true → (∀ j : Nat, j < d → hitB l form gn (b + j) = false) → NEnv g A c l mb form gn bS bF bG bR W →
    Calls Tryd.prog 91 #[.int .i64 b, .pointer (some ⟨bS, 0, none⟩), .pointer (some ⟨bF, 0, none⟩), .pointer (some ⟨bG, 0, none⟩), .pointer (some ⟨bR, 0, none⟩)] W fun e w' => e = .returned (.int .i64 (b + d)) ∧ Fr0 W w' := by
  intro d
  induction d with
  | zero =>
    intro b W hb0 hbm hh hno hE
    have HAT := Lib.hid (fun W' (hW : Fr0 W W') => at_any g A c l mb hl form b W' (hE.st.fr hW) hf0 hf1 hb0 (by omega))
    have hix := idx89 (hits l form (b % (rd_T63 l form).f0)) gn hg
    have hh' : hits l form (b % (rd_T63 l form).f0) gn = true := by simpa [hitB] using hh
    rw [hh'] at hix
    have HE := Lib.hid hE
    clear hE hno hh hh' hl
    generalize hits l form (b % (rd_T63 l form).f0) = H at *
    unfold gv at HAT
    go_enter Tryd.func91, Tryd.ntmps91
    go_wp2
    refine start_ (n := 6) (S := fun w' => w'.cell? ⟨bS, 0, none⟩ = some (.int .i64 g) ∧ w'.cell? ⟨bS, 1, none⟩ = some (.slice A l.length c) ∧ w'.cell? ⟨bS, 2, none⟩ = some (.map (some mb)) ∧ w'.cell? ⟨bF, 0, none⟩ = some (.int .i64 form) ∧ w'.cell? ⟨bG, 0, none⟩ = some (.int .i64 gn)) (ds := []) #[false, false, false, false, false, false] (by kernel_rfl) rfl rfl ⟨HE.out.s0, HE.out.s1, HE.out.s2, HE.out.cf, HE.out.cg⟩ (fun hHeld => ?_)
    refine pure_ (i := 2) (N := some 9) (v := ?_) (a' := ?_) #[false, false, true, false, false, false] rfl rfl (by kernel_rfl) (fun _ _ _ h => h) (Or.inl ⟨by rfl, ?_⟩) ?_ ?_
    rotate_left
    · intro w'
      go_simp
      with_reducible rfl
    rotate_left
    · simp only [Act.put, List.setIfInBounds_toArray, List.set_cons_zero, List.set_cons_succ, i64_w, i32_w]
      rfl
    refine take_ (i := 0) (N := some 7) (v := ?_) (a' := ?_) #[true, false, true, false, false, false] rfl rfl (by kernel_rfl) (fun _ _ _ h => h) (Or.inl ⟨by rfl, ?_⟩) hHeld ?_ ?_
    rotate_left
    · rintro w' ⟨s0, s1, s2, s3, s4⟩
      go_simp
      with_reducible rfl
    rotate_left
    · simp only [Act.put, List.setIfInBounds_toArray, List.set_cons_zero, List.set_cons_succ, i64_w, i32_w]
      rfl
    refine take_ (i := 1) (N := some 8) (v := ?_) (a' := ?_) #[true, true, true, false, false, false] rfl rfl (by kernel_rfl) (fun _ _ _ h => h) (Or.inl ⟨by rfl, ?_⟩) hHeld ?_ ?_
    rotate_left
    · rintro w' ⟨s0, s1, s2, s3, s4⟩
      go_simp
      with_reducible rfl
    rotate_left
    · simp only [Act.put, List.setIfInBounds_toArray, List.set_cons_zero, List.set_cons_succ, i64_w, i32_w]
      rfl
    refine take_ (i := 4) (N := some 11) (v := ?_) (a' := ?_) #[true, true, true, false, true, false] rfl rfl (by kernel_rfl) (fun _ _ _ h => h) (Or.inl ⟨by rfl, ?_⟩) hHeld ?_ ?_
    rotate_left
    · rintro w' ⟨s0, s1, s2, s3, s4⟩
      go_simp
      with_reducible rfl
    rotate_left
    · simp only [Act.put, List.setIfInBounds_toArray, List.set_cons_zero, List.set_cons_succ, i64_w, i32_w]
      rfl
    refine one_ (i := 3) (N := some 10) #[true, true, true, true, true, false] rfl rfl (by kernel_rfl) (by decide) (fun K hK => ?_)
    refine goes_ Tryd.func56 (by kernel_rfl) rfl #[bookV g A l.length c (some mb), .int .i64 form, .int .i64 b] (by rfl) rfl rfl (by simp only [List.map_toArray, List.map_cons, List.map_nil]; rfl) ?_
    with_reducible refine (HAT.out _ (Fr.drew (Fr.refl _ _))).mono ?_
    rintro e w3 ⟨rfl, hf3⟩
    refine ⟨_, rfl, ?_⟩
    have HE3 := Lib.hid (HE.out.fr (Fr0.trans (Fr.drew (Fr.refl _ _)) hf3))
    have HF3 := Lib.hid (Fr0.trans (Fr.drew (Fr.refl _ _)) hf3)
    refine hK.out _ _ ⟨HE3.out.s0, HE3.out.s1, HE3.out.s2, HE3.out.cf, HE3.out.cg⟩ (fun hHeld => ?_)
    clear hK K
    refine norm_ (a' := ?_) ?_ ?_
    rotate_left
    · show Act.put _ (some 10) _ = _
      simp only [Act.put, List.setIfInBounds_toArray, List.set_cons_zero, List.set_cons_succ, i64_w, i32_w]
      rfl
    refine take_ (i := 5) (N := some 12) (v := ?_) (a' := ?_) #[true, true, true, true, true, true] rfl rfl (by kernel_rfl) (fun _ _ _ h => h) (Or.inl ⟨by rfl, ?_⟩) hHeld ?_ ?_
    rotate_left
    · rintro w' ⟨s0, s1, s2, s3, s4⟩
      go_simp
      with_reducible rfl
    rotate_left
    · simp only [Act.put, List.setIfInBounds_toArray, List.set_cons_zero, List.set_cons_succ, i64_w, i32_w]
      rfl
    refine done_ (by kernel_rfl) ?_
    go_wp2
    go_ret
    exact ⟨by simp, HF3.out⟩
  | succ d ih =>
    intro b W hb0 hbm hh hno hE
    have HAT := Lib.hid (fun W' (hW : Fr0 W W') => at_any g A c l mb hl form b W' (hE.st.fr hW) hf0 hf1 hb0 (by omega))
    have hix := idx89 (hits l form (b % (rd_T63 l form).f0)) gn hg
    have hh' : hits l form (b % (rd_T63 l form).f0) gn = false := by simpa [hitB] using hno 0 (by omega)
    rw [hh'] at hix
    have HIH := Lib.hid (fun W' (hW : Fr0 W W') => ih (b + 1) W' (by omega) (by omega) (by rw [show b + 1 + (d : Int) = b + ((d + 1 : Nat) : Int) by omega]; exact hh) (fun j hj => by rw [show b + 1 + (j : Int) = b + ((j + 1 : Nat) : Int) by omega]; exact hno (j + 1) (by omega)) (hE.fr hW))
    have HE := Lib.hid hE
    clear hE hno hh hh' hl ih
    generalize hits l form (b % (rd_T63 l form).f0) = H at *
    unfold gv at HAT
    go_enter Tryd.func91, Tryd.ntmps91
    go_wp2
    refine start_ (n := 6) (S := fun w' => w'.cell? ⟨bS, 0, none⟩ = some (.int .i64 g) ∧ w'.cell? ⟨bS, 1, none⟩ = some (.slice A l.length c) ∧ w'.cell? ⟨bS, 2, none⟩ = some (.map (some mb)) ∧ w'.cell? ⟨bF, 0, none⟩ = some (.int .i64 form) ∧ w'.cell? ⟨bG, 0, none⟩ = some (.int .i64 gn)) (ds := []) #[false, false, false, false, false, false] (by kernel_rfl) rfl rfl ⟨HE.out.s0, HE.out.s1, HE.out.s2, HE.out.cf, HE.out.cg⟩ (fun hHeld => ?_)
    refine pure_ (i := 2) (N := some 9) (v := ?_) (a' := ?_) #[false, false, true, false, false, false] rfl rfl (by kernel_rfl) (fun _ _ _ h => h) (Or.inl ⟨by rfl, ?_⟩) ?_ ?_
    rotate_left
    · intro w'
      go_simp
      with_reducible rfl
    rotate_left
    · simp only [Act.put, List.setIfInBounds_toArray, List.set_cons_zero, List.set_cons_succ, i64_w, i32_w]
      rfl
    refine take_ (i := 0) (N := some 7) (v := ?_) (a' := ?_) #[true, false, true, false, false, false] rfl rfl (by kernel_rfl) (fun _ _ _ h => h) (Or.inl ⟨by rfl, ?_⟩) hHeld ?_ ?_
    rotate_left
    · rintro w' ⟨s0, s1, s2, s3, s4⟩
      go_simp
      with_reducible rfl
    rotate_left
    · simp only [Act.put, List.setIfInBounds_toArray, List.set_cons_zero, List.set_cons_succ, i64_w, i32_w]
      rfl
    refine take_ (i := 1) (N := some 8) (v := ?_) (a' := ?_) #[true, true, true, false, false, false] rfl rfl (by kernel_rfl) (fun _ _ _ h => h) (Or.inl ⟨by rfl, ?_⟩) hHeld ?_ ?_
    rotate_left
    · rintro w' ⟨s0, s1, s2, s3, s4⟩
      go_simp
      with_reducible rfl
    rotate_left
    · simp only [Act.put, List.setIfInBounds_toArray, List.set_cons_zero, List.set_cons_succ, i64_w, i32_w]
      rfl
    refine take_ (i := 4) (N := some 11) (v := ?_) (a' := ?_) #[true, true, true, false, true, false] rfl rfl (by kernel_rfl) (fun _ _ _ h => h) (Or.inl ⟨by rfl, ?_⟩) hHeld ?_ ?_
    rotate_left
    · rintro w' ⟨s0, s1, s2, s3, s4⟩
      go_simp
      with_reducible rfl
    rotate_left
    · simp only [Act.put, List.setIfInBounds_toArray, List.set_cons_zero, List.set_cons_succ, i64_w, i32_w]
      rfl
    refine one_ (i := 3) (N := some 10) #[true, true, true, true, true, false] rfl rfl (by kernel_rfl) (by decide) (fun K hK => ?_)
    refine goes_ Tryd.func56 (by kernel_rfl) rfl #[bookV g A l.length c (some mb), .int .i64 form, .int .i64 b] (by rfl) rfl rfl (by simp only [List.map_toArray, List.map_cons, List.map_nil]; rfl) ?_
    with_reducible refine (HAT.out _ (Fr.drew (Fr.refl _ _))).mono ?_
    rintro e w3 ⟨rfl, hf3⟩
    refine ⟨_, rfl, ?_⟩
    have HE3 := Lib.hid (HE.out.fr (Fr0.trans (Fr.drew (Fr.refl _ _)) hf3))
    have HF3 := Lib.hid (Fr0.trans (Fr.drew (Fr.refl _ _)) hf3)
    refine hK.out _ _ ⟨HE3.out.s0, HE3.out.s1, HE3.out.s2, HE3.out.cf, HE3.out.cg⟩ (fun hHeld => ?_)
    clear hK K
    refine norm_ (a' := ?_) ?_ ?_
    rotate_left
    · show Act.put _ (some 10) _ = _
      simp only [Act.put, List.setIfInBounds_toArray, List.set_cons_zero, List.set_cons_succ, i64_w, i32_w]
      rfl
    refine take_ (i := 5) (N := some 12) (v := ?_) (a' := ?_) #[true, true, true, true, true, true] rfl rfl (by kernel_rfl) (fun _ _ _ h => h) (Or.inl ⟨by rfl, ?_⟩) hHeld ?_ ?_
    rotate_left
    · rintro w' ⟨s0, s1, s2, s3, s4⟩
      go_simp
      with_reducible rfl
    rotate_left
    · simp only [Act.put, List.setIfInBounds_toArray, List.set_cons_zero, List.set_cons_succ, i64_w, i32_w]
      rfl
    refine done_ (by kernel_rfl) ?_
    have cr := HE3.out.cr
    go_wp2_with (go_at_call 91; (with_reducible refine (HIH.out _ ?hw).mono ?_); (case hw => exact HF3.out); rintro e W4 ⟨rfl, hf4⟩)
    go_ret
    exact ⟨by rw [show b + 1 + (d : Int) = b + ((d + 1 : Nat) : Int) by omega]; rfl, Fr0.trans HF3.out hf4⟩
set_option maxHeartbeats 2000000 in
set_option maxRecDepth 100000 in
theorem next_any (g : Int) (A : Option Addr) (c : Nat) (l : List S63) (mb : Nat) (hl : Beats l) (form : Int) (gn : Nat) (hf0 : 0 ≤ form) (hf1 : form < l.length) (hg : gn < 5) (beat : Int) (hb0 : 0 ≤ beat) (hb1 : beat ≤ 900000) (hex : ∃ j : Nat, j < 33 ∧ hitB l form gn (beat + j) = true) (w : World) (h : St g A c l mb w) :
    Calls Tryd.prog 66 #[bookV g A l.length c (some mb), .int .i64 form, .int .i64 gn, .int .i64 beat] w fun e w' => e = .returned (.int .i64 (nextB l form gn beat)) ∧ Fr0 w w' := by
  obtain ⟨j, hj, hp⟩ := hex
  obtain ⟨h1, h2, h3⟩ := nxtD_spec (hitB l form gn) 33 beat j hj hp
  have HFR := Lib.hid (fun (bS bF bG bR : Nat) W (hE : NEnv g A c l mb form gn bS bF bG bR W) => from_any g A c l mb hl form gn hf0 hf1 hg bS bF bG bR _ beat W hb0 (by omega) h2 h3 hE)
  have HS := Lib.hid h
  have HN := Lib.hid (show nextB l form gn beat = beat + (nxtD (hitB l form gn) 33 beat : Int) from rfl)
  generalize nxtD (hitB l form gn) 33 beat = D at *
  clear h h2 h3 hp hl
  generalize nextB l form gn beat = NB at *
  obtain rfl := HN.out
  clear HN
  go_enter Tryd.func66, Tryd.ntmps66
  go_wp2_with fail
  generalize hW : World.alloc _ _ = W
  have hfw : Fr0 w W := by rw [← hW]; exact (((Fr.refl _ _).alloc _).alloc _).alloc _ |>.alloc _
  have b0 : Bx W w.heap.size 83 (bookC g A l.length c (some mb)) := by rw [← hW]; exact (((Bx.new _ _ _).alloc _).alloc _).alloc _
  have b1 : Bx W (w.heap.size + 1) 3 #[.int .i64 form] := by rw [← hW]; exact ((Bx.of_new (by simp)).alloc _).alloc _
  have b2 : Bx W (w.heap.size + 1 + 1) 3 #[.int .i64 gn] := by rw [← hW]; exact (Bx.of_new (by simp)).alloc _
  have b3 : Bx W (w.heap.size + 1 + 1 + 1) 122 #[.func (.func 91) #[] #[.pointer (some ⟨w.heap.size, 0, none⟩), .pointer (some ⟨w.heap.size + 1, 0, none⟩), .pointer (some ⟨w.heap.size + 1 + 1, 0, none⟩), .pointer (some ⟨w.heap.size + 1 + 1 + 1, 0, none⟩)]] := by rw [← hW]; exact Bx.of_new (by simp)
  have hE : NEnv g A c l mb form gn w.heap.size (w.heap.size + 1) (w.heap.size + 1 + 1) (w.heap.size + 1 + 1 + 1) W := ⟨HS.out.fr hfw, b0.at_ 0 rfl, b0.at_ 1 rfl, b0.at_ 2 rfl, b1.at_ 0 rfl, b2.at_ 0 rfl, b3.at_ 0 rfl⟩
  have HC := Lib.hid (HFR.out _ _ _ _ W hE)
  clear hE hW b0 b1 b2 b3
  refine Calls.mono HC.out ?_
  rintro e W2 ⟨rfl, hf2⟩
  go_wp2
  go_ret
  exact ⟨rfl, Fr0.trans hfw hf2⟩
end Go.Proofs.YtephecfapclgfaaDoor.R
namespace Go.Proofs.YtephecfapclgfaaDoor.R
open Go.RowKit Go.Shelf Go.Proofs.YtephecfapclgfaaDoorW.PrintWords Go.Proofs.YtephecfapclgfaaDoorW.PrintLast Go.Proofs.YtephecfapclgfaaDoor.PRaspKeys Go.Proofs.YtephecfapclgfaaDoor.X
attribute [local go_sem] Oper.semAt_some

/-! ### What a book's rows are -/
theorem row_in {g : Int} {l : List S63} (h : bookOk g l = true) {form : Int} (h0 : 0 ≤ form) (h1 : form < l.length) (gn : Nat) : ∀ x ∈ row l form gn, 0 ≤ x ∧ x < (rd_T63 l form).f0 := by
  intro x hx
  have hn : form.toNat < l.length := by omega
  unfold bookOk at h
  simp only [Bool.and_eq_true, isIn_iff, List.all_eq_true] at h
  have := h.2 _ (List.getElem_mem hn)
  have e : rd_T63 l form = l[form.toNat] := by simp [rd_T63, hn]
  unfold row at hx
  rw [e] at hx ⊢
  unfold formOk rowsOk at this
  simp only [Bool.and_eq_true, isIn_iff, beq_iff_eq, List.all_eq_true] at this
  by_cases hg : gn < l[form.toNat].f1.length
  · rw [List.getD_eq_getElem?_getD, List.getElem?_eq_getElem hg, Option.getD_some] at hx
    have := gr_in _ _ (this.2.2.1 _ (List.getElem_mem hg)) x hx
    omega
  · rw [List.getD_eq_getElem?_getD, List.getElem?_eq_none (by omega)] at hx
    cases hx
theorem form_len {g : Int} {l : List S63} (h : bookOk g l = true) {form : Int} (h0 : 0 ≤ form) (h1 : form < l.length) : ((rd_T63 l form).f1.length : Int) = g := by
  have hn : form.toNat < l.length := by omega
  unfold bookOk at h
  simp only [Bool.and_eq_true, isIn_iff, List.all_eq_true] at h
  have := h.2 _ (List.getElem_mem hn)
  rw [show rd_T63 l form = l[form.toNat] by simp [rd_T63, hn]]
  unfold formOk at this
  simp only [Bool.and_eq_true, isIn_iff, beq_iff_eq] at this
  exact this.2.1
theorem hit_ex {g : Int} {l : List S63} (h : bookOk g l = true) {form : Int} (h0 : 0 ≤ form) (h1 : form < l.length) (gn : Nat) (hr : row l form gn ≠ []) (beat : Int) (hb : 0 ≤ beat) : ∃ j : Nat, j < 33 ∧ hitB l form gn (beat + j) = true := by
  obtain ⟨x, xs, hx⟩ := List.exists_cons_of_ne_nil hr
  have hi := row_in h h0 h1 gn x (by rw [hx]; exact List.mem_cons_self)
  have h2 := (beats_of h).two form h0 h1
  have hp := Int.emod_nonneg (x - beat) (show (rd_T63 l form).f0 ≠ 0 by omega)
  have hlt := Int.emod_lt_of_pos (x - beat) (show 0 < (rd_T63 l form).f0 by omega)
  refine ⟨((x - beat) % (rd_T63 l form).f0).toNat, by omega, ?_⟩
  unfold hitB hits
  rw [Int.toNat_of_nonneg hp, Int.add_emod_emod, show beat + (x - beat) = x by omega, Int.emod_eq_of_lt hi.1 hi.2, hx]
  simp
/-- The cells that lead to a gong's strokes. -/
theorem row_cells {w : World} {A : Option Addr} {l : List S63} (hr : Kd.C k63 w A l.length l) {form : Int} (h0 : 0 ≤ form) (h1 : form < l.length) (gn : Nat) (hg : gn < (rd_T63 l form).f1.length) :
    ∃ ad ad1 A2 c1 c2, A = some ad ∧ w.cell? (ad.add (form.toNat * 2)) = some (.int .i64 (rd_T63 l form).f0) ∧ w.cell? ⟨(ad.add (form.toNat * 2)).block, (ad.add (form.toNat * 2)).off + 1, none⟩ = some (.slice (some ad1) (rd_T63 l form).f1.length c1) ∧ (rd_T63 l form).f1.length ≤ c1 ∧
      w.cell? (ad1.add gn) = some (.slice A2 (row l form gn).length c2) ∧ (row l form gn).length ≤ c2 ∧ Kd.C (Kd.int .i64) w A2 (row l form gn).length (row l form gn) := by
  obtain ⟨ad, A1, c1, e, x0, x1, hc1, hC1⟩ := at_T63 hr form h0 h1
  obtain ⟨ad1, A2, c2, e2, y, hc2, hC2⟩ := at_L1 hC1 (gn : Int) (by omega) (by omega)
  subst e e2
  have hrr : rd_L1 (rd_T63 l form).f1 (gn : Int) = row l form gn := rfl
  rw [hrr] at y hc2 hC2
  exact ⟨ad, ad1, A2, c1, c2, rfl, x0, x1, hc1, y, hc2, hC2⟩
/-! ### Next -/
theorem open_next (g : Int) (A : Option Addr) (c : Nat) (l : List S63) (form gong beat : Int) (b1 b2 b3 : Nat) (W : World) (hB : Book W A c l) (h1 : W.cell? ⟨b1, 0, none⟩ = some (.int .i64 form)) (h2 : W.cell? ⟨b2, 0, none⟩ = some (.int .i64 gong)) (h3 : W.cell? ⟨b3, 0, none⟩ = some (.int .i64 beat)) :
    Calls Tryd.prog 52 #[.agg #[.int .i64 g, .slice A l.length c], .func (.func 64) #[] #[.pointer (some ⟨b1, 0, none⟩), .pointer (some ⟨b2, 0, none⟩), .pointer (some ⟨b3, 0, none⟩)]] W (Opens g A c l (openE g l (okNext g l form gong beat)) W) :=
  opened_any 64 _ (fun _ _ => by kernel_rfl) g A c l _ W hB.r hB.c hB.glob (fun hb mb W' hf hS => right64 g A c l mb b1 form b2 gong b3 beat W' hb hS (hf.cell0 h1) (hf.cell0 h2) (hf.cell0 h3))
def nextF (g : Int) (l : List S63) (form gong beat : Int) : Int × Int :=
  if openE g l (okNext g l form gong beat) = 0 then (if row l form gong.toNat = [] then (0, 4) else (nextB l form gong.toNat beat, 0)) else (0, openE g l (okNext g l form gong beat))
set_option maxHeartbeats 2000000 in
set_option maxRecDepth 100000 in
theorem nexts_any (g : Int) (A : Option Addr) (c : Nat) (l : List S63) (form gong beat : Int) (w : World) (hB : Book w A c l) :
    Calls Tryd.prog 19 #[.agg #[.int .i64 g, .slice A l.length c], .int .i64 form, .int .i64 gong, .int .i64 beat] w fun e w' =>
      e = .returned (.tuple #[.int .i64 (nextF g l form gong beat).1, .int .i64 (nextF g l form gong beat).2]) ∧ Below w.heap.size w w' := by
  have HOP := Lib.hid (fun (b1 b2 b3 : Nat) W (hf : Fr0 w W) h1 h2 h3 => open_next g A c l form gong beat b1 b2 b3 W (hB.fr hf) h1 h2 h3)
  have hfw : Fr0 w ((((w.alloc (.cells #[.int .i64 g, .slice A l.length c] 24)).alloc (.cells #[.int .i64 form] 3)).alloc (.cells #[.int .i64 gong] 3)).alloc (.cells #[.int .i64 beat] 3)) := ((((Fr.refl _ _).alloc _).alloc _).alloc _).alloc _
  have c1 : Bx ((((w.alloc (.cells #[.int .i64 g, .slice A l.length c] 24)).alloc (.cells #[.int .i64 form] 3)).alloc (.cells #[.int .i64 gong] 3)).alloc (.cells #[.int .i64 beat] 3)) (w.heap.size + 1) 3 #[.int .i64 form] := ((Bx.of_new (by simp)).alloc _).alloc _
  have c2 : Bx ((((w.alloc (.cells #[.int .i64 g, .slice A l.length c] 24)).alloc (.cells #[.int .i64 form] 3)).alloc (.cells #[.int .i64 gong] 3)).alloc (.cells #[.int .i64 beat] 3)) (w.heap.size + 1 + 1) 3 #[.int .i64 gong] := (Bx.of_new (by simp)).alloc _
  have c3 : Bx ((((w.alloc (.cells #[.int .i64 g, .slice A l.length c] 24)).alloc (.cells #[.int .i64 form] 3)).alloc (.cells #[.int .i64 gong] 3)).alloc (.cells #[.int .i64 beat] 3)) (w.heap.size + 1 + 1 + 1) 3 #[.int .i64 beat] := Bx.of_new (by simp)
  have HFW := Lib.hid hfw
  have HC1 := Lib.hid c1
  have HC2 := Lib.hid c2
  have HC3 := Lib.hid c3
  clear hfw c1 c2 c3
  by_cases hz : openE g l (okNext g l form gong beat) = 0
  · have hN : nextF g l form gong beat = if row l form gong.toNat = [] then (0, 4) else (nextB l form gong.toNat beat, 0) := by unfold nextF; rw [if_pos hz]
    obtain ⟨hbk, hok⟩ := openE_ok hz
    have hgg := gong_of hbk
    unfold okNext at hok
    simp only [Bool.and_eq_true, isIn_iff] at hok
    obtain ⟨gn, hgn⟩ : ∃ gn : Nat, gong = gn := ⟨gong.toNat, by omega⟩
    subst hgn
    have hlen := form_len hbk (form := form) (by omega) (by omega)
    obtain ⟨ad, ad1, A2, d1, d2, rfl, x0, x1, hd1, y, hd2, -⟩ := row_cells hB.r (form := form) (by omega) (by omega) gn (by omega)
    have HX1 := Lib.hid x1
    have HY := Lib.hid y
    have HNX := Lib.hid (fun mb W hS hr => next_any g (some ad) c l mb (beats_of hbk) form gn (by omega) (by omega) (by omega) beat (by omega) (by omega) (hit_ex hbk (by omega) (by omega) gn hr beat (by omega)) W hS)
    rw [hN]
    rw [hz] at HOP
    have hgl : (gn : Int) < (rd_T63 l form).f1.length := by omega
    clear hz hN x0 x1 y hbk hB hlen
    rw [Int.toNat_natCast]
    have hfl : form < l.length := by omega
    have hf0 : 0 ≤ form := by omega
    generalize (rd_T63 l form).f1 = rows at *
    generalize hrow : row l form gn = r at *
    go_enter Tryd.func19, Tryd.ntmps19
    go_wp2_with (first
      | (go_at_call 52; (with_reducible refine (HOP.out _ _ _ _ ?hw ?h1 ?h2 ?h3).mono ?_); (case hw => exact HFW.out); (case h1 => exact HC1.out.at_ 0 rfl); (case h2 => exact HC2.out.at_ 0 rfl); (case h3 => exact HC3.out.at_ 0 rfl); rintro e W5 ⟨g', A', n', c', o', rfl, hf5, hop⟩; obtain ⟨mb, rfl, rfl, rfl, rfl, rfl, hS5⟩ := hop rfl; (have HS5 := Lib.hid hS5); clear hop hS5))
    have B10 := Bx.new W5 83 #[.int .i64 g', .slice (some ad) l.length c', .map (some mb)]
    have hf6 : Fr0 w (W5.alloc (.cells #[.int .i64 g', .slice (some ad) l.length c', .map (some mb)] 83)) := Fr.alloc (Fr0.trans HFW.out hf5) _
    have hf56 : Fr0 W5 (W5.alloc (.cells #[.int .i64 g', .slice (some ad) l.length c', .map (some mb)] 83)) := Fr.alloc (Fr.refl _ _) _
    have hS6 := HS5.out.fr hf56
    have hD1 := HC1.out.fr0 (Fr0.trans hf5 hf56)
    have hD2 := HC2.out.fr0 (Fr0.trans hf5 hf56)
    have hD3 := HC3.out.fr0 (Fr0.trans hf5 hf56)
    clear hf56
    generalize hg10 : W5.heap.size = g10 at *
    obtain ⟨W6, hW6⟩ : ∃ W6, W5.alloc (.cells #[.int .i64 g', .slice (some ad) l.length c', .map (some mb)] 83) = W6 := ⟨_, rfl⟩
    rw [hW6] at hS6 hD1 hD2 hD3 B10 hf6 ⊢
    have HF6 := Lib.hid hf6
    have HB10 := Lib.hid B10
    have HS6 := Lib.hid hS6
    have HD1 := Lib.hid hD1
    have HD2 := Lib.hid hD2
    have HD3 := Lib.hid hD3
    clear hW6 hf6 B10 hS6 hD1 hD2 hD3 hf5
    refine start_ (n := 12) (S := fun w' => w'.cell? ⟨g10, 1, none⟩ = some (.slice (some ad) l.length c') ∧ w'.cell? ⟨w.heap.size + 1, 0, none⟩ = some (.int .i64 form) ∧ w'.cell? ⟨w.heap.size + 1 + 1, 0, none⟩ = some (.int .i64 gn) ∧ w'.cell? ⟨(ad.add (form.toNat * 2)).block, (ad.add (form.toNat * 2)).off + 1, none⟩ = some (.slice (some ad1) rows.length d1) ∧ w'.cell? (ad1.add gn) = some (.slice A2 r.length d2)) (ds := []) #[false, false, false, false, false, false, false, false, false, false, false, false] (by kernel_rfl) rfl rfl ⟨(HB10.out.at_ 1 rfl), (HD1.out.at_ 0 rfl), (HD2.out.at_ 0 rfl), (HF6.out.cell0 HX1.out), (HF6.out.cell0 HY.out)⟩ (fun hHeld => ?_)
    refine pure_ (i := 0) (N := some 21) (v := ?_) (a' := ?_) #[true, false, false, false, false, false, false, false, false, false, false, false] rfl rfl (by kernel_rfl) (fun _ _ _ h => h) (Or.inl ⟨by rfl, ?_⟩) ?_ ?_
    rotate_left
    · intro w'
      go_simp
      with_reducible rfl
    rotate_left
    · simp only [Act.put, List.setIfInBounds_toArray, List.set_cons_zero, List.set_cons_succ, i64_w, i32_w]
      rfl
    refine pure_ (i := 1) (N := some 22) (v := ?_) (a' := ?_) #[true, true, false, false, false, false, false, false, false, false, false, false] rfl rfl (by kernel_rfl) (fun _ _ _ h => h) (Or.inl ⟨by rfl, ?_⟩) ?_ ?_
    rotate_left
    · intro w'
      go_simp
      with_reducible rfl
    rotate_left
    · simp only [Act.put, List.setIfInBounds_toArray, List.set_cons_zero, List.set_cons_succ, i64_w, i32_w]
      rfl
    refine take_ (i := 2) (N := some 23) (v := ?_) (a' := ?_) #[true, true, true, false, false, false, false, false, false, false, false, false] rfl rfl (by kernel_rfl) (fun _ _ _ h => h) (Or.inl ⟨by rfl, ?_⟩) hHeld ?_ ?_
    rotate_left
    · rintro w' ⟨s0, s1, s2, s3, s4⟩
      go_simp
      with_reducible rfl
    rotate_left
    · simp only [Act.put, List.setIfInBounds_toArray, List.set_cons_zero, List.set_cons_succ, i64_w, i32_w]
      rfl
    refine take_ (i := 3) (N := some 24) (v := ?_) (a' := ?_) #[true, true, true, true, false, false, false, false, false, false, false, false] rfl rfl (by kernel_rfl) (fun _ _ _ h => h) (Or.inl ⟨by rfl, ?_⟩) hHeld ?_ ?_
    rotate_left
    · rintro w' ⟨s0, s1, s2, s3, s4⟩
      go_simp
      with_reducible rfl
    rotate_left
    · simp only [Act.put, List.setIfInBounds_toArray, List.set_cons_zero, List.set_cons_succ, i64_w, i32_w]
      rfl
    refine pure_ (i := 4) (N := some 25) (v := ?_) (a' := ?_) #[true, true, true, true, true, false, false, false, false, false, false, false] rfl rfl (by kernel_rfl) (fun _ _ _ h => h) (Or.inl ⟨by rfl, ?_⟩) ?_ ?_
    rotate_left
    · intro w'
      go_simp
      with_reducible rfl
    rotate_left
    · simp only [Act.put, List.setIfInBounds_toArray, List.set_cons_zero, List.set_cons_succ, i64_w, i32_w]
      rfl
    refine pure_ (i := 5) (N := some 26) (v := ?_) (a' := ?_) #[true, true, true, true, true, true, false, false, false, false, false, false] rfl rfl (by kernel_rfl) (fun _ _ _ h => h) (Or.inl ⟨by rfl, ?_⟩) ?_ ?_
    rotate_left
    · intro w'
      go_simp
      with_reducible rfl
    rotate_left
    · simp only [Act.put, List.setIfInBounds_toArray, List.set_cons_zero, List.set_cons_succ, i64_w, i32_w]
      rfl
    refine take_ (i := 6) (N := some 27) (v := ?_) (a' := ?_) #[true, true, true, true, true, true, true, false, false, false, false, false] rfl rfl (by kernel_rfl) (fun _ _ _ h => h) (Or.inl ⟨by rfl, ?_⟩) hHeld ?_ ?_
    rotate_left
    · rintro w' ⟨s0, s1, s2, s3, s4⟩
      go_simp
      with_reducible rfl
    rotate_left
    · simp only [Act.put, List.setIfInBounds_toArray, List.set_cons_zero, List.set_cons_succ, i64_w, i32_w]
      rfl
    refine take_ (i := 7) (N := some 28) (v := ?_) (a' := ?_) #[true, true, true, true, true, true, true, true, false, false, false, false] rfl rfl (by kernel_rfl) (fun _ _ _ h => h) (Or.inl ⟨by rfl, ?_⟩) hHeld ?_ ?_
    rotate_left
    · rintro w' ⟨s0, s1, s2, s3, s4⟩
      go_simp
      with_reducible rfl
    rotate_left
    · simp only [Act.put, List.setIfInBounds_toArray, List.set_cons_zero, List.set_cons_succ, i64_w, i32_w]
      rfl
    refine pure_ (i := 8) (N := some 29) (v := ?_) (a' := ?_) #[true, true, true, true, true, true, true, true, true, false, false, false] rfl rfl (by kernel_rfl) (fun _ _ _ h => h) (Or.inl ⟨by rfl, ?_⟩) ?_ ?_
    rotate_left
    · intro w'
      go_simp
      with_reducible rfl
    rotate_left
    · simp only [Act.put, List.setIfInBounds_toArray, List.set_cons_zero, List.set_cons_succ, i64_w, i32_w]
      rfl
    refine take_ (i := 9) (N := some 30) (v := ?_) (a' := ?_) #[true, true, true, true, true, true, true, true, true, true, false, false] rfl rfl (by kernel_rfl) (fun _ _ _ h => h) (Or.inl ⟨by rfl, ?_⟩) hHeld ?_ ?_
    rotate_left
    · rintro w' ⟨s0, s1, s2, s3, s4⟩
      go_simp
      with_reducible rfl
    rotate_left
    · simp only [Act.put, List.setIfInBounds_toArray, List.set_cons_zero, List.set_cons_succ, i64_w, i32_w]
      rfl
    refine pure_ (i := 10) (N := some 31) (v := ?_) (a' := ?_) #[true, true, true, true, true, true, true, true, true, true, true, false] rfl rfl (by kernel_rfl) (fun _ _ _ h => h) (Or.inl ⟨by rfl, ?_⟩) ?_ ?_
    rotate_left
    · intro w'
      go_simp
      with_reducible rfl
    rotate_left
    · simp only [Act.put, List.setIfInBounds_toArray, List.set_cons_zero, List.set_cons_succ, i64_w, i32_w]
      rfl
    refine pure_ (i := 11) (N := some 32) (v := ?_) (a' := ?_) #[true, true, true, true, true, true, true, true, true, true, true, true] rfl rfl (by kernel_rfl) (fun _ _ _ h => h) (Or.inl ⟨by rfl, ?_⟩) ?_ ?_
    rotate_left
    · intro w'
      go_simp
      with_reducible rfl
    rotate_left
    · simp only [Act.put, List.setIfInBounds_toArray, List.set_cons_zero, List.set_cons_succ, i64_w, i32_w]
      rfl
    refine done_ (by kernel_rfl) ?_
    by_cases hnil : r = []
    · have HNIL := Lib.hid hnil
      have hl0 : r.length = 0 := by rw [hnil]; rfl
      have hb0 : ((r.length : Int) == 0) = true := by rw [hl0]; rfl
      clear hnil hl0
      go_wp2
      refine bodyPost_ret (v := .tuple #[.int .i64 0, .int .i64 4]) (by simp [results, Tryd.results19, go_sem]) rfl ⟨by first | rfl | rw [if_pos HNIL.out], ?_⟩
      exact fr_below (Fr.drew HF6.out)
    · have HNIL := Lib.hid hnil
      have hl0 : ¬ r.length = 0 := fun h => hnil (List.eq_nil_of_length_eq_zero h)
      have hb0 : ((r.length : Int) == 0) = false := by simpa using hl0
      have q0 := HB10.out.at_ 0 (v := .int .i64 g') rfl
      have q1 := HB10.out.at_ 1 (v := .slice (some ad) l.length c') rfl
      have q2 := HB10.out.at_ 2 (v := .map (some mb)) rfl
      have p1 := HD1.out.at_ 0 (v := .int .i64 form) rfl
      have p2 := HD2.out.at_ 0 (v := .int .i64 gn) rfl
      have p3 := HD3.out.at_ 0 (v := .int .i64 beat) rfl
      have HCL := Lib.hid (fun W (hW : Fr0 W6 W) => HNX.out mb W (HS6.out.fr hW) hnil)
      clear hnil hl0
      go_wp2_with (go_at_call 66; (with_reducible refine (HCL.out _ ?hw).mono ?_); (case hw => exact Fr.drew (Fr.refl _ _)); rintro e W7 ⟨rfl, hf7⟩)
      refine bodyPost_ret (v := .tuple #[.int .i64 (nextB l form gn beat), .int .i64 0]) (by simp [results, Tryd.results19, go_sem]) rfl ⟨by first | rfl | rw [if_neg HNIL.out], ?_⟩
      exact fr_below (Fr0.trans (Fr.drew HF6.out) hf7)
  · have hN : nextF g l form gong beat = (0, openE g l (okNext g l form gong beat)) := by unfold nextF; rw [if_neg hz]
    rw [hN]
    clear hN
    generalize openE g l (okNext g l form gong beat) = E at *
    go_enter Tryd.func19, Tryd.ntmps19
    go_wp2_with (first
      | (go_at_call 52; (with_reducible refine (HOP.out _ _ _ _ ?hw ?h1 ?h2 ?h3).mono ?_); (case hw => exact HFW.out); (case h1 => exact HC1.out.at_ 0 rfl); (case h2 => exact HC2.out.at_ 0 rfl); (case h3 => exact HC3.out.at_ 0 rfl); rintro e W5 ⟨g', A', n', c', o', rfl, hf5, hop⟩))
    refine bodyPost_ret (v := .tuple #[.int .i64 0, .int .i64 E]) (by simp [results, Tryd.results19, go_sem]) rfl ⟨rfl, ?_⟩
    exact fr_below (Fr.alloc (Fr0.trans HFW.out hf5) _)
end Go.Proofs.YtephecfapclgfaaDoor.R
namespace Go.Proofs.YtephecfapclgfaaDoor.R
open Go.RowKit Go.Shelf Go.Proofs.YtephecfapclgfaaDoorW.PrintWords Go.Proofs.YtephecfapclgfaaDoorW.PrintLast Go.Proofs.YtephecfapclgfaaDoor.PRaspKeys Go.Proofs.YtephecfapclgfaaDoor.X
attribute [local go_sem] Oper.semAt_some

/-! ### Even -/
theorem open_even (g : Int) (A : Option Addr) (c : Nat) (l : List S63) (form gong : Int) (b1 b2 : Nat) (W : World) (hB : Book W A c l) (h1 : W.cell? ⟨b1, 0, none⟩ = some (.int .i64 form)) (h2 : W.cell? ⟨b2, 0, none⟩ = some (.int .i64 gong)) :
    Calls Tryd.prog 52 #[.agg #[.int .i64 g, .slice A l.length c], .func (.func 68) #[] #[.pointer (some ⟨b1, 0, none⟩), .pointer (some ⟨b2, 0, none⟩)]] W (Opens g A c l (openE g l (okEven g l form gong)) W) :=
  opened_any 68 _ (fun _ _ => by kernel_rfl) g A c l _ W hB.r hB.c hB.glob (fun hb mb W' hf hS => right68 g A c l mb b1 form b2 gong W' hb hS (hf.cell0 h1) (hf.cell0 h2))
/-- How far a stroke is from the next one. -/
def gapB (l : List S63) (form : Int) (gn : Nat) (x : Int) : Int := nextB l form gn (x + 1) - x
def evenR (l : List S63) (form : Int) (gn : Nat) : List Int → Int × Int
  | [] => (0, 4)
  | x :: xs => if (x :: xs).all (fun y => gapB l form gn y == gapB l form gn x) = true then (gapB l form gn x, 0) else (0, 4)
def evenF (g : Int) (l : List S63) (form gong : Int) : Int × Int :=
  if openE g l (okEven g l form gong) = 0 then evenR l form gong.toNat (row l form gong.toNat) else (0, openE g l (okEven g l form gong))
theorem nextB_bnd {g : Int} {l : List S63} (h : bookOk g l = true) {form : Int} (h0 : 0 ≤ form) (h1 : form < l.length) (gn : Nat) (hr : row l form gn ≠ []) (beat : Int) (hb : 0 ≤ beat) : beat ≤ nextB l form gn beat ∧ nextB l form gn beat ≤ beat + 33 := by
  obtain ⟨j, hj, hp⟩ := hit_ex h h0 h1 gn hr beat hb
  obtain ⟨e1, _, _⟩ := nxtD_spec (hitB l form gn) 33 beat j hj hp
  unfold nextB
  omega
set_option maxHeartbeats 4000000 in
set_option maxRecDepth 100000 in
theorem even_any (g : Int) (A : Option Addr) (c : Nat) (l : List S63) (form gong : Int) (w : World) (hB : Book w A c l) :
    Calls Tryd.prog 21 #[.agg #[.int .i64 g, .slice A l.length c], .int .i64 form, .int .i64 gong] w fun e w' =>
      e = .returned (.tuple #[.int .i64 (evenF g l form gong).1, .int .i64 (evenF g l form gong).2]) ∧ Below w.heap.size w w' := by
  have HOP := Lib.hid (fun (b1 b2 : Nat) W (hf : Fr0 w W) h1 h2 => open_even g A c l form gong b1 b2 W (hB.fr hf) h1 h2)
  have hfw : Fr0 w (((w.alloc (.cells #[.int .i64 g, .slice A l.length c] 24)).alloc (.cells #[.int .i64 form] 3)).alloc (.cells #[.int .i64 gong] 3)) := (((Fr.refl _ _).alloc _).alloc _).alloc _
  have c1 : Bx (((w.alloc (.cells #[.int .i64 g, .slice A l.length c] 24)).alloc (.cells #[.int .i64 form] 3)).alloc (.cells #[.int .i64 gong] 3)) (w.heap.size + 1) 3 #[.int .i64 form] := (Bx.of_new (by simp)).alloc _
  have c2 : Bx (((w.alloc (.cells #[.int .i64 g, .slice A l.length c] 24)).alloc (.cells #[.int .i64 form] 3)).alloc (.cells #[.int .i64 gong] 3)) (w.heap.size + 1 + 1) 3 #[.int .i64 gong] := Bx.of_new (by simp)
  have HFW := Lib.hid hfw
  have HC1 := Lib.hid c1
  have HC2 := Lib.hid c2
  clear hfw c1 c2
  by_cases hz : openE g l (okEven g l form gong) = 0
  · obtain ⟨hbk, hok⟩ := openE_ok hz
    have hgg := gong_of hbk
    unfold okEven at hok
    simp only [Bool.and_eq_true, isIn_iff] at hok
    obtain ⟨gn, hgn⟩ : ∃ gn : Nat, gong = gn := ⟨gong.toNat, by omega⟩
    subst hgn
    have hN : evenF g l form gn = evenR l form gn (row l form gn) := by unfold evenF; rw [if_pos hz, Int.toNat_natCast]
    have hlen := form_len hbk (form := form) (by omega) (by omega)
    obtain ⟨ad, ad1, A2, d1, d2, rfl, x0, x1, hd1, y, hd2, hCr⟩ := row_cells hB.r (form := form) (by omega) (by omega) gn (by omega)
    have HX1 := Lib.hid x1
    have HY := Lib.hid y
    have HCR := Lib.hid hCr
    have HIN := Lib.hid (row_in hbk (form := form) (by omega) (by omega) gn)
    have HT2 := (beats_of hbk).two form (by omega) (by omega)
    have HNX := Lib.hid (fun mb b (hb0 : 0 ≤ b) (hb1 : b ≤ 1000) W hS hr => next_any g (some ad) c l mb (beats_of hbk) form gn (by omega) (by omega) (by omega) b hb0 (by omega) (hit_ex hbk (by omega) (by omega) gn hr b hb0) W hS)
    have HNB := Lib.hid (fun b (hb0 : 0 ≤ b) hr => nextB_bnd hbk (form := form) (by omega) (by omega) gn hr b hb0)
    rw [hN]
    rw [hz] at HOP
    have hgl : (gn : Int) < (rd_T63 l form).f1.length := by omega
    have hB32 : (rd_T63 l form).f0 ≤ 32 := HT2.2
    clear hz hN x0 x1 y hCr hbk hB hlen HT2
    have hfl : form < l.length := by omega
    have hf0 : 0 ≤ form := by omega
    generalize (rd_T63 l form).f1 = rows at *
    generalize (rd_T63 l form).f0 = BB at *
    generalize row l form gn = r at *
    have hrl : (r.length : Int) ≤ 9223372036854775807 := by have := C_len HCR.out; omega
    go_enter Tryd.func21, Tryd.ntmps21
    go_wp2_with (first
      | (go_at_call 52; (with_reducible refine (HOP.out _ _ _ ?hw ?h1 ?h2).mono ?_); (case hw => exact HFW.out); (case h1 => exact HC1.out.at_ 0 rfl); (case h2 => exact HC2.out.at_ 0 rfl); rintro e W5 ⟨g', A', n', c', o', rfl, hf5, hop⟩; obtain ⟨mb, rfl, rfl, rfl, rfl, rfl, hS5⟩ := hop rfl; (have HS5 := Lib.hid hS5); clear hop hS5))
    have B10 := Bx.new W5 83 #[.int .i64 g', .slice (some ad) l.length c', .map (some mb)]
    have hf6 : Fr0 w (W5.alloc (.cells #[.int .i64 g', .slice (some ad) l.length c', .map (some mb)] 83)) := Fr.alloc (Fr0.trans HFW.out hf5) _
    have hf56 : Fr0 W5 (W5.alloc (.cells #[.int .i64 g', .slice (some ad) l.length c', .map (some mb)] 83)) := Fr.alloc (Fr.refl _ _) _
    have hS6 := HS5.out.fr hf56
    have hD1 := HC1.out.fr0 (Fr0.trans hf5 hf56)
    have hD2 := HC2.out.fr0 (Fr0.trans hf5 hf56)
    clear hf56
    generalize hg10 : W5.heap.size = g10 at *
    obtain ⟨W6, hW6⟩ : ∃ W6, W5.alloc (.cells #[.int .i64 g', .slice (some ad) l.length c', .map (some mb)] 83) = W6 := ⟨_, rfl⟩
    rw [hW6] at hS6 hD1 hD2 B10 hf6 ⊢
    have HF6 := Lib.hid hf6
    have HB10 := Lib.hid B10
    have HS6 := Lib.hid hS6
    have HD1 := Lib.hid hD1
    have HD2 := Lib.hid hD2
    clear hW6 hf6 B10 hS6 hD1 hD2 hf5
    refine start_ (n := 11) (S := fun w' => w'.cell? ⟨g10, 1, none⟩ = some (.slice (some ad) l.length c') ∧ w'.cell? ⟨w.heap.size + 1, 0, none⟩ = some (.int .i64 form) ∧ w'.cell? ⟨w.heap.size + 1 + 1, 0, none⟩ = some (.int .i64 gn) ∧ w'.cell? ⟨(ad.add (form.toNat * 2)).block, (ad.add (form.toNat * 2)).off + 1, none⟩ = some (.slice (some ad1) rows.length d1) ∧ w'.cell? (ad1.add gn) = some (.slice A2 r.length d2)) (ds := []) #[false, false, false, false, false, false, false, false, false, false, false] (by kernel_rfl) rfl rfl ⟨(HB10.out.at_ 1 rfl), (HD1.out.at_ 0 rfl), (HD2.out.at_ 0 rfl), (HF6.out.cell0 HX1.out), (HF6.out.cell0 HY.out)⟩ (fun hHeld => ?_)
    refine pure_ (i := 0) (N := some 23) (v := ?_) (a' := ?_) #[true, false, false, false, false, false, false, false, false, false, false] rfl rfl (by kernel_rfl) (fun _ _ _ h => h) (Or.inl ⟨by rfl, ?_⟩) ?_ ?_
    rotate_left
    · intro w'
      go_simp
      with_reducible rfl
    rotate_left
    · simp only [Act.put, List.setIfInBounds_toArray, List.set_cons_zero, List.set_cons_succ, i64_w, i32_w]
      rfl
    refine pure_ (i := 1) (N := some 24) (v := ?_) (a' := ?_) #[true, true, false, false, false, false, false, false, false, false, false] rfl rfl (by kernel_rfl) (fun _ _ _ h => h) (Or.inl ⟨by rfl, ?_⟩) ?_ ?_
    rotate_left
    · intro w'
      go_simp
      with_reducible rfl
    rotate_left
    · simp only [Act.put, List.setIfInBounds_toArray, List.set_cons_zero, List.set_cons_succ, i64_w, i32_w]
      rfl
    refine take_ (i := 2) (N := some 25) (v := ?_) (a' := ?_) #[true, true, true, false, false, false, false, false, false, false, false] rfl rfl (by kernel_rfl) (fun _ _ _ h => h) (Or.inl ⟨by rfl, ?_⟩) hHeld ?_ ?_
    rotate_left
    · rintro w' ⟨s0, s1, s2, s3, s4⟩
      go_simp
      with_reducible rfl
    rotate_left
    · simp only [Act.put, List.setIfInBounds_toArray, List.set_cons_zero, List.set_cons_succ, i64_w, i32_w]
      rfl
    refine take_ (i := 3) (N := some 26) (v := ?_) (a' := ?_) #[true, true, true, true, false, false, false, false, false, false, false] rfl rfl (by kernel_rfl) (fun _ _ _ h => h) (Or.inl ⟨by rfl, ?_⟩) hHeld ?_ ?_
    rotate_left
    · rintro w' ⟨s0, s1, s2, s3, s4⟩
      go_simp
      with_reducible rfl
    rotate_left
    · simp only [Act.put, List.setIfInBounds_toArray, List.set_cons_zero, List.set_cons_succ, i64_w, i32_w]
      rfl
    refine pure_ (i := 4) (N := some 27) (v := ?_) (a' := ?_) #[true, true, true, true, true, false, false, false, false, false, false] rfl rfl (by kernel_rfl) (fun _ _ _ h => h) (Or.inl ⟨by rfl, ?_⟩) ?_ ?_
    rotate_left
    · intro w'
      go_simp
      with_reducible rfl
    rotate_left
    · simp only [Act.put, List.setIfInBounds_toArray, List.set_cons_zero, List.set_cons_succ, i64_w, i32_w]
      rfl
    refine pure_ (i := 5) (N := some 28) (v := ?_) (a' := ?_) #[true, true, true, true, true, true, false, false, false, false, false] rfl rfl (by kernel_rfl) (fun _ _ _ h => h) (Or.inl ⟨by rfl, ?_⟩) ?_ ?_
    rotate_left
    · intro w'
      go_simp
      with_reducible rfl
    rotate_left
    · simp only [Act.put, List.setIfInBounds_toArray, List.set_cons_zero, List.set_cons_succ, i64_w, i32_w]
      rfl
    refine take_ (i := 6) (N := some 29) (v := ?_) (a' := ?_) #[true, true, true, true, true, true, true, false, false, false, false] rfl rfl (by kernel_rfl) (fun _ _ _ h => h) (Or.inl ⟨by rfl, ?_⟩) hHeld ?_ ?_
    rotate_left
    · rintro w' ⟨s0, s1, s2, s3, s4⟩
      go_simp
      with_reducible rfl
    rotate_left
    · simp only [Act.put, List.setIfInBounds_toArray, List.set_cons_zero, List.set_cons_succ, i64_w, i32_w]
      rfl
    refine take_ (i := 7) (N := some 30) (v := ?_) (a' := ?_) #[true, true, true, true, true, true, true, true, false, false, false] rfl rfl (by kernel_rfl) (fun _ _ _ h => h) (Or.inl ⟨by rfl, ?_⟩) hHeld ?_ ?_
    rotate_left
    · rintro w' ⟨s0, s1, s2, s3, s4⟩
      go_simp
      with_reducible rfl
    rotate_left
    · simp only [Act.put, List.setIfInBounds_toArray, List.set_cons_zero, List.set_cons_succ, i64_w, i32_w]
      rfl
    refine pure_ (i := 8) (N := some 31) (v := ?_) (a' := ?_) #[true, true, true, true, true, true, true, true, true, false, false] rfl rfl (by kernel_rfl) (fun _ _ _ h => h) (Or.inl ⟨by rfl, ?_⟩) ?_ ?_
    rotate_left
    · intro w'
      go_simp
      with_reducible rfl
    rotate_left
    · simp only [Act.put, List.setIfInBounds_toArray, List.set_cons_zero, List.set_cons_succ, i64_w, i32_w]
      rfl
    refine take_ (i := 9) (N := some 32) (v := ?_) (a' := ?_) #[true, true, true, true, true, true, true, true, true, true, false] rfl rfl (by kernel_rfl) (fun _ _ _ h => h) (Or.inl ⟨by rfl, ?_⟩) hHeld ?_ ?_
    rotate_left
    · rintro w' ⟨s0, s1, s2, s3, s4⟩
      go_simp
      with_reducible rfl
    rotate_left
    · simp only [Act.put, List.setIfInBounds_toArray, List.set_cons_zero, List.set_cons_succ, i64_w, i32_w]
      rfl
    refine pure_ (i := 10) (N := some 10) (v := ?_) (a' := ?_) #[true, true, true, true, true, true, true, true, true, true, true] rfl rfl (by kernel_rfl) (fun _ _ _ h => h) (Or.inl ⟨by rfl, ?_⟩) ?_ ?_
    rotate_left
    · intro w'
      go_simp
      with_reducible rfl
    rotate_left
    · simp only [Act.put, List.setIfInBounds_toArray, List.set_cons_zero, List.set_cons_succ, i64_w, i32_w]
      rfl
    refine done_ (by kernel_rfl) ?_
    by_cases hnil : r = []
    · have HNIL := Lib.hid hnil
      have hl0 : r.length = 0 := by rw [hnil]; rfl
      have hb0 : ((r.length : Int) == 0) = true := by rw [hl0]; rfl
      clear hnil hl0
      go_wp2
      refine bodyPost_ret (v := .tuple #[.int .i64 0, .int .i64 4]) (by simp [results, Tryd.results21, go_sem]) rfl ⟨by rw [HNIL.out]; rfl, ?_⟩
      exact fr_below (Fr.drew HF6.out)
    · have HNIL := Lib.hid hnil
      obtain ⟨x0, xs, hxs⟩ := List.exists_cons_of_ne_nil hnil
      have hl0 : ¬ r.length = 0 := fun h => hnil (List.eq_nil_of_length_eq_zero h)
      have hb0 : ((r.length : Int) == 0) = false := by simpa using hl0
      have hlt0 : (0 : Int) < r.length := by omega
      obtain ⟨ad2, e2, hx0⟩ := Kd.at_int HCR.out 0 (by omega) hlt0
      subst e2
      have hx0' : w.cell? ad2 = some (.int .i64 (r.getD 0 0)) := by have : w.cell? (ad2.add 0) = some (.int .i64 (r.getD 0 0)) := hx0; simpa [Addr.add] using this
      have hln : 0 < r.length := by omega
      have hr0 : r.getD 0 0 = x0 := by rw [hxs]; rfl
      rw [hr0] at hx0'
      have HX0 := Lib.hid hx0'
      have hi0 := HIN.out x0 (by rw [hxs]; exact List.mem_cons_self)
      have HRX := Lib.hid hxs
      have hnb := HNB.out (x0 + 1) (by omega) hnil
      have HGP := Lib.hid (show gapB l form gn x0 = nextB l form gn (x0 + 1) - x0 from rfl)
      have HCL := Lib.hid (fun b (h0 : 0 ≤ b) (h1 : b ≤ 1000) W (hW : Fr0 W6 W) => HNX.out mb b h0 h1 W (HS6.out.fr hW) hnil)
      clear hnil hl0 hx0 hx0' hr0 hxs
      go_wp2
      have HCW := Lib.hid (show ∀ W, Fr0 W6 W → Calls Tryd.prog 66 #[bookV g' (some ad) l.length c' (some mb), .int .i64 form, .int .i64 gn, .int .i64 (wrap64 (x0 + 1))] W fun e w' => e = .returned (.int .i64 (nextB l form gn (x0 + 1))) ∧ Fr0 W w' from fun W hW => by rw [w64 (by omega) (by omega)]; exact HCL.out (x0 + 1) (by omega) (by omega) W hW)
      have HGW := Lib.hid (show wrap64 (nextB l form gn (x0 + 1) - x0) = gapB l form gn x0 by rw [w64 (by omega) (by omega)]; rfl)
      generalize nextB l form gn (x0 + 1) = N0 at *
      have q0 := HB10.out.at_ 0 (v := .int .i64 g') rfl
      have q1 := HB10.out.at_ 1 (v := .slice (some ad) l.length c') rfl
      have q2 := HB10.out.at_ 2 (v := .map (some mb)) rfl
      have p1 := HD1.out.at_ 0 (v := .int .i64 form) rfl
      have p2 := HD2.out.at_ 0 (v := .int .i64 gn) rfl
      have px := HF6.out.cell0 HX0.out
      refine start_ (n := 13) (S := fun w' => w'.cell? ⟨g10, 0, none⟩ = some (.int .i64 g') ∧ w'.cell? ⟨g10, 1, none⟩ = some (.slice (some ad) l.length c') ∧ w'.cell? ⟨g10, 2, none⟩ = some (.map (some mb)) ∧ w'.cell? ⟨w.heap.size + 1, 0, none⟩ = some (.int .i64 form) ∧ w'.cell? ⟨w.heap.size + 1 + 1, 0, none⟩ = some (.int .i64 gn) ∧ w'.cell? ad2 = some (.int .i64 x0)) (ds := []) #[false, false, false, false, false, false, false, false, false, false, false, false, false] (by kernel_rfl) rfl rfl ⟨q0, q1, q2, p1, p2, px⟩ (fun hHeld => ?_)
      refine pure_ (i := 3) (N := some 39) (v := ?_) (a' := ?_) #[false, false, false, true, false, false, false, false, false, false, false, false, false] rfl rfl (by kernel_rfl) (fun _ _ _ h => h) (Or.inl ⟨by rfl, ?_⟩) ?_ ?_
      rotate_left
      · intro w'
        go_simp
        with_reducible rfl
      rotate_left
      · simp only [Act.put, List.setIfInBounds_toArray, List.set_cons_zero, List.set_cons_succ, i64_w, i32_w]
        rfl
      refine pure_ (i := 4) (N := some 40) (v := ?_) (a' := ?_) #[false, false, false, true, true, false, false, false, false, false, false, false, false] rfl rfl (by kernel_rfl) (fun _ _ _ h => h) (Or.inl ⟨by rfl, ?_⟩) ?_ ?_
      rotate_left
      · intro w'
        go_simp
        with_reducible rfl
      rotate_left
      · simp only [Act.put, List.setIfInBounds_toArray, List.set_cons_zero, List.set_cons_succ, i64_w, i32_w]
        rfl
      refine pure_ (i := 8) (N := some 44) (v := ?_) (a' := ?_) #[false, false, false, true, true, false, false, false, true, false, false, false, false] rfl rfl (by kernel_rfl) (fun _ _ _ h => h) (Or.inl ⟨by rfl, ?_⟩) ?_ ?_
      rotate_left
      · intro w'
        go_simp
        with_reducible rfl
      rotate_left
      · simp only [Act.put, List.setIfInBounds_toArray, List.set_cons_zero, List.set_cons_succ, i64_w, i32_w]
        rfl
      refine pure_ (i := 9) (N := some 45) (v := ?_) (a' := ?_) #[false, false, false, true, true, false, false, false, true, true, false, false, false] rfl rfl (by kernel_rfl) (fun _ _ _ h => h) (Or.inl ⟨by rfl, ?_⟩) ?_ ?_
      rotate_left
      · intro w'
        go_simp
        with_reducible rfl
      rotate_left
      · simp only [Act.put, List.setIfInBounds_toArray, List.set_cons_zero, List.set_cons_succ, i64_w, i32_w]
        rfl
      refine take_ (i := 0) (N := some 36) (v := ?_) (a' := ?_) #[true, false, false, true, true, false, false, false, true, true, false, false, false] rfl rfl (by kernel_rfl) (fun _ _ _ h => h) (Or.inl ⟨by rfl, ?_⟩) hHeld ?_ ?_
      rotate_left
      · rintro w' ⟨s0, s1, s2, s3, s4, s5⟩
        go_simp
        with_reducible rfl
      rotate_left
      · simp only [Act.put, List.setIfInBounds_toArray, List.set_cons_zero, List.set_cons_succ, i64_w, i32_w]
        rfl
      refine take_ (i := 1) (N := some 37) (v := ?_) (a' := ?_) #[true, true, false, true, true, false, false, false, true, true, false, false, false] rfl rfl (by kernel_rfl) (fun _ _ _ h => h) (Or.inl ⟨by rfl, ?_⟩) hHeld ?_ ?_
      rotate_left
      · rintro w' ⟨s0, s1, s2, s3, s4, s5⟩
        go_simp
        with_reducible rfl
      rotate_left
      · simp only [Act.put, List.setIfInBounds_toArray, List.set_cons_zero, List.set_cons_succ, i64_w, i32_w]
        rfl
      refine take_ (i := 2) (N := some 38) (v := ?_) (a' := ?_) #[true, true, true, true, true, false, false, false, true, true, false, false, false] rfl rfl (by kernel_rfl) (fun _ _ _ h => h) (Or.inl ⟨by rfl, ?_⟩) hHeld ?_ ?_
      rotate_left
      · rintro w' ⟨s0, s1, s2, s3, s4, s5⟩
        go_simp
        with_reducible rfl
      rotate_left
      · simp only [Act.put, List.setIfInBounds_toArray, List.set_cons_zero, List.set_cons_succ, i64_w, i32_w]
        rfl
      refine take_ (i := 5) (N := some 41) (v := ?_) (a' := ?_) #[true, true, true, true, true, true, false, false, true, true, false, false, false] rfl rfl (by kernel_rfl) (fun _ _ _ h => h) (Or.inl ⟨by rfl, ?_⟩) hHeld ?_ ?_
      rotate_left
      · rintro w' ⟨s0, s1, s2, s3, s4, s5⟩
        go_simp
        with_reducible rfl
      rotate_left
      · simp only [Act.put, List.setIfInBounds_toArray, List.set_cons_zero, List.set_cons_succ, i64_w, i32_w]
        rfl
      refine pure_ (i := 6) (N := some 42) (v := ?_) (a' := ?_) #[true, true, true, true, true, true, true, false, true, true, false, false, false] rfl rfl (by kernel_rfl) (fun _ _ _ h => h) (Or.inl ⟨by rfl, ?_⟩) ?_ ?_
      rotate_left
      · intro w'
        go_simp
        with_reducible rfl
      rotate_left
      · simp only [Act.put, List.setIfInBounds_toArray, List.set_cons_zero, List.set_cons_succ, i64_w, i32_w]
        rfl
      refine take_ (i := 10) (N := some 46) (v := ?_) (a' := ?_) #[true, true, true, true, true, true, true, false, true, true, true, false, false] rfl rfl (by kernel_rfl) (fun _ _ _ h => h) (Or.inl ⟨by rfl, ?_⟩) hHeld ?_ ?_
      rotate_left
      · rintro w' ⟨s0, s1, s2, s3, s4, s5⟩
        go_simp
        with_reducible rfl
      rotate_left
      · simp only [Act.put, List.setIfInBounds_toArray, List.set_cons_zero, List.set_cons_succ, i64_w, i32_w]
        rfl
      refine one_ (i := 7) (N := some 43) #[true, true, true, true, true, true, true, true, true, true, true, false, false] rfl rfl (by kernel_rfl) (by decide) (fun K hK => ?_)
      refine goes_ Tryd.func66 (by kernel_rfl) rfl #[bookV g' (some ad) l.length c' (some mb), .int .i64 form, .int .i64 gn, .int .i64 (wrap64 (x0 + 1))] (by rfl) rfl rfl (by simp only [List.map_toArray, List.map_cons, List.map_nil]; rfl) ?_
      with_reducible refine (HCW.out _ (Fr.drew (Fr.drew (Fr.refl _ _)))).mono ?_
      rintro e w3 ⟨rfl, hf3⟩
      refine ⟨_, rfl, ?_⟩
      have HF3 := Lib.hid (Fr0.trans (Fr.drew (Fr.drew (Fr.refl _ W6))) hf3)
      refine hK.out _ _ ⟨(HF3.out.cell0 q0), (HF3.out.cell0 q1), (HF3.out.cell0 q2), (HF3.out.cell0 p1), (HF3.out.cell0 p2), (HF3.out.cell0 px)⟩ (fun hHeld => ?_)
      clear hK K
      refine norm_ (a' := ?_) ?_ ?_
      rotate_left
      · show Act.put _ (some 43) _ = _
        simp only [Act.put, List.setIfInBounds_toArray, List.set_cons_zero, List.set_cons_succ, i64_w, i32_w]
        rfl
      refine pure_ (i := 11) (N := some 47) (v := ?_) (a' := ?_) #[true, true, true, true, true, true, true, true, true, true, true, true, false] rfl rfl (by kernel_rfl) (fun _ _ _ h => h) (Or.inl ⟨by rfl, ?_⟩) ?_ ?_
      rotate_left
      · intro w'
        go_simp
        with_reducible rfl
      rotate_left
      · simp only [Act.put, List.setIfInBounds_toArray, List.set_cons_zero, List.set_cons_succ, i64_w, i32_w]
        rfl
      refine pure_ (i := 12) (N := some 11) (v := ?_) (a' := ?_) #[true, true, true, true, true, true, true, true, true, true, true, true, true] rfl rfl (by kernel_rfl) (fun _ _ _ h => h) (Or.inl ⟨by rfl, ?_⟩) ?_ ?_
      rotate_left
      · intro w'
        go_simp
        with_reducible rfl
      rotate_left
      · simp only [Act.put, List.setIfInBounds_toArray, List.set_cons_zero, List.set_cons_succ, i64_w, i32_w]
        rfl
      refine done_ (by kernel_rfl) ?_
      rw [HGW.out]
      have HEV := Lib.hid (show evenR l form gn r = if r.all (fun y => gapB l form gn y == gapB l form gn x0) = true then (gapB l form gn x0, 0) else (0, 4) by rw [HRX.out]; rfl)
      have HGB := Lib.hid (fun y => show gapB l form gn y = nextB l form gn (y + 1) - y from rfl)
      have hD1 := HD1.out.fr0 HF3.out
      have hD2 := HD2.out.fr0 HF3.out
      have hB10 := HB10.out.fr0 HF3.out
      have HE1 := Lib.hid hD1
      have HE2 := Lib.hid hD2
      have HE10 := Lib.hid hB10
      clear q0 q1 q2 p1 p2 px hD1 hD2 hB10 hnb HGP HGW HCW hlt0 hln hb0
      generalize gapB l form gn x0 = G0 at *
      go_wp2
      go_loopw [50] (fun v50 wr => ∃ n : Nat, n ≤ r.length ∧ v50 = .int .i64 n ∧ Hop ((r.take n).all (fun y => gapB l form gn y == G0) = true) ∧ Fr0 w3 wr) (fun v50 _ => (r.length - intOf v50).toNat)
      case atStart => exact ⟨0, by omega, by rfl, ⟨by simp⟩, Fr.refl _ _⟩
      case round =>
        obtain ⟨n, hn, rfl, HAL, hfr⟩ := hrel
        have HFR := Lib.hid hfr
        clear hfr
        by_cases hlt : n < r.length
        · have hle : (n : Int) < r.length := by omega
          obtain ⟨ad3, e3, hx⟩ := Kd.at_int HCR.out (n : Int) (by omega) hle
          cases e3
          have hx' : wr.cell? (ad2.add n) = some (.int .i64 (r.getD n 0)) := HFR.out.cell0 (HF3.out.cell0 (HF6.out.cell0 hx))
          have hmem : r.getD n 0 ∈ r := by rw [List.getD_eq_getElem?_getD, List.getElem?_eq_getElem hlt]; exact List.getElem_mem hlt
          have hi := HIN.out _ hmem
          have HTK := Lib.hid (show (r.take (n + 1)).all (fun y => gapB l form gn y == G0) = ((r.take n).all (fun y => gapB l form gn y == G0) && (gapB l form gn (r.getD n 0) == G0)) by
            rw [List.take_succ_eq_append_getElem hlt, List.all_append, List.getD_eq_getElem?_getD, List.getElem?_eq_getElem hlt]; simp)
          have HALL := Lib.hid (show (r.all (fun y => gapB l form gn y == G0) = true → (gapB l form gn (r.getD n 0) == G0) = true) from fun h => List.all_eq_true.1 h _ hmem)
          have hnb := HNB.out (r.getD n 0 + 1) (by omega) HNIL.out
          have HGY := Lib.hid (HGB.out (r.getD n 0))
          clear hx hmem
          generalize r.getD n 0 = y at *
          have q0 := (HE10.out.fr0 HFR.out).at_ 0 (v := .int .i64 g') rfl
          have q1 := (HE10.out.fr0 HFR.out).at_ 1 (v := .slice (some ad) l.length c') rfl
          have q2 := (HE10.out.fr0 HFR.out).at_ 2 (v := .map (some mb)) rfl
          have p1 := (HE1.out.fr0 HFR.out).at_ 0 (v := .int .i64 form) rfl
          have p2 := (HE2.out.fr0 HFR.out).at_ 0 (v := .int .i64 gn) rfl
          have HCY := Lib.hid (HCL.out (y + 1) (by omega) (by omega) wr (Fr0.trans HF3.out HFR.out))
          generalize nextB l form gn (y + 1) = NY at *
          rw [HGY.out] at HTK HALL
          by_cases hgap : NY - y = G0
          · have hbg : (NY - y != G0) = false := by simpa using hgap
            go_wp2_with (go_at_call 66; (with_reducible refine HCY.out.mono ?_); rintro e W7 ⟨rfl, hf7⟩)
            refine ⟨⟨n + 1, by omega, by go_num, ⟨by rw [HTK.out, HAL.out]; simpa using hgap⟩, Fr0.trans HFR.out hf7⟩, by simp [intOf]; omega⟩
          · have hbg : (NY - y != G0) = true := by simpa using hgap
            go_wp2_with (go_at_call 66; (with_reducible refine HCY.out.mono ?_); rintro e W7 ⟨rfl, hf7⟩)
            refine bodyPost_ret (v := .tuple #[.int .i64 0, .int .i64 4]) (by simp [results, Tryd.results21, go_sem]) rfl ⟨by rw [HEV.out, if_neg (fun h => hgap (by simpa using HALL.out h))], ?_⟩
            exact fr_below (Fr0.trans (Fr0.trans (Fr0.trans HF6.out HF3.out) HFR.out) hf7)
        · obtain rfl : n = r.length := by omega
          have hle : ¬ ((r.length : Int) < r.length) := by omega
          have hall := HAL.out
          rw [List.take_length] at hall
          have HALL := Lib.hid hall
          clear hall HAL
          go_wp2
          refine bodyPost_ret (v := .tuple #[.int .i64 G0, .int .i64 0]) (by simp [results, Tryd.results21, go_sem]) rfl ⟨by rw [HEV.out, if_pos HALL.out], ?_⟩
          exact fr_below (Fr0.trans (Fr0.trans HF6.out HF3.out) HFR.out)
  · have hN : evenF g l form gong = (0, openE g l (okEven g l form gong)) := by unfold evenF; rw [if_neg hz]
    rw [hN]
    clear hN
    generalize openE g l (okEven g l form gong) = E at *
    go_enter Tryd.func21, Tryd.ntmps21
    go_wp2_with (first
      | (go_at_call 52; (with_reducible refine (HOP.out _ _ _ ?hw ?h1 ?h2).mono ?_); (case hw => exact HFW.out); (case h1 => exact HC1.out.at_ 0 rfl); (case h2 => exact HC2.out.at_ 0 rfl); rintro e W5 ⟨g', A', n', c', o', rfl, hf5, hop⟩))
    refine bodyPost_ret (v := .tuple #[.int .i64 0, .int .i64 E]) (by simp [results, Tryd.results21, go_sem]) rfl ⟨rfl, ?_⟩
    exact fr_below (Fr.alloc (Fr0.trans HFW.out hf5) _)
end Go.Proofs.YtephecfapclgfaaDoor.R
namespace Go.Proofs.YtephecfapclgfaaDoor.PRaspKeys
open Go.RowKit Go.Proofs.YtephecfapclgfaaDoorW.PrintWords Go.Proofs.YtephecfapclgfaaDoorW.PrintLast Go.Proofs.YtephecfapclgfaaDoor.R
def cycle_Struck.f (a0_0 : Int) (l0_1 : List S63) (a1 : Int) (a2 : Int) : Option (List Int × Int) := some (struckF a0_0 l0_1 a1 a2)
theorem cycle_Struck.calls (a0_0 : Int) (A0_1 : Option Addr) (c0_1 : Nat) (l0_1 : List S63) (a1 : Int) (a2 : Int) (r1 : List Int) (r2 : Int) (w : World) (hr0_1 : Kd.C k63 w A0_1 l0_1.length l0_1) (hc0_1 : l0_1.length ≤ c0_1) (hG : Glob w) (h : cycle_Struck.f a0_0 l0_1 a1 a2 = some (r1, r2)) :
    Calls Tryd.prog 14 #[.agg #[.int .i64 a0_0, .slice A0_1 l0_1.length c0_1], .int .i64 a1, .int .i64 a2] w fun e w' => ∃ v0_ : Value, e = .returned (.tuple #[v0_, .int .i64 r2]) ∧ Kd.V (Kd.int .i64) 3 w' w.heap.size (fun k_ => (w.heap.size ≤ k_)) v0_ r1 ∧ Below w.heap.size w w' := by
  have h : struckF a0_0 l0_1 a1 a2 = (r1, r2) := Option.some.inj h
  have hc := struck_any a0_0 A0_1 c0_1 l0_1 a1 a2 w ⟨hr0_1, hc0_1, hG⟩
  rw [h] at hc
  exact hc
def cycle_Next.f (a0_0 : Int) (l0_1 : List S63) (a1 : Int) (a2 : Int) (a3 : Int) : Option (Int × Int) := some (nextF a0_0 l0_1 a1 a2 a3)
theorem cycle_Next.calls (a0_0 : Int) (A0_1 : Option Addr) (c0_1 : Nat) (l0_1 : List S63) (a1 : Int) (a2 : Int) (a3 : Int) (r1 : Int) (r2 : Int) (w : World) (hr0_1 : Kd.C k63 w A0_1 l0_1.length l0_1) (hc0_1 : l0_1.length ≤ c0_1) (hG : Glob w) (h : cycle_Next.f a0_0 l0_1 a1 a2 a3 = some (r1, r2)) :
    Calls Tryd.prog 19 #[.agg #[.int .i64 a0_0, .slice A0_1 l0_1.length c0_1], .int .i64 a1, .int .i64 a2, .int .i64 a3] w fun e w' => e = .returned (.tuple #[.int .i64 r1, .int .i64 r2]) ∧ Below w.heap.size w w' := by
  have h : nextF a0_0 l0_1 a1 a2 a3 = (r1, r2) := Option.some.inj h
  have hc := nexts_any a0_0 A0_1 c0_1 l0_1 a1 a2 a3 w ⟨hr0_1, hc0_1, hG⟩
  rw [h] at hc
  exact hc
def cycle_Even.f (a0_0 : Int) (l0_1 : List S63) (a1 : Int) (a2 : Int) : Option (Int × Int) := some (evenF a0_0 l0_1 a1 a2)
theorem cycle_Even.calls (a0_0 : Int) (A0_1 : Option Addr) (c0_1 : Nat) (l0_1 : List S63) (a1 : Int) (a2 : Int) (r1 : Int) (r2 : Int) (w : World) (hr0_1 : Kd.C k63 w A0_1 l0_1.length l0_1) (hc0_1 : l0_1.length ≤ c0_1) (hG : Glob w) (h : cycle_Even.f a0_0 l0_1 a1 a2 = some (r1, r2)) :
    Calls Tryd.prog 21 #[.agg #[.int .i64 a0_0, .slice A0_1 l0_1.length c0_1], .int .i64 a1, .int .i64 a2] w fun e w' => e = .returned (.tuple #[.int .i64 r1, .int .i64 r2]) ∧ Below w.heap.size w w' := by
  have h : evenF a0_0 l0_1 a1 a2 = (r1, r2) := Option.some.inj h
  have hc := even_any a0_0 A0_1 c0_1 l0_1 a1 a2 w ⟨hr0_1, hc0_1, hG⟩
  rw [h] at hc
  exact hc
end Go.Proofs.YtephecfapclgfaaDoor.PRaspKeys
namespace Go.Proofs.YtephecfapclgfaaDoor.X
open Go.RowKit
/-- As Iter; the rounds may write what is new, too. -/
def IterG {α : Type} (P : Program) (g : FuncId) (lb : Array Value) (encs : α → Array Value) (xs : List α) (N : World → (Nat → Prop) → Prop) : Prop :=
  ∀ (l : Nat) (S : Nat → Prop) (J Jx : List α → World → Prop) (W : World), N W S →
    (∀ pre A B, J pre A → Fr0 A B → J pre B) → (∀ pre A B, Jx pre A → Fr0 A B → Jx pre B) →
    (∀ pre x rest W1, xs = pre ++ x :: rest → J pre W1 → YieldAt Fence.wide 0 P l (encs x) W1 fun e W' =>
      (e = .returned (.bool true) ∧ J (pre ++ [x]) W' ∧ Fr S W1 W') ∨ (e = .returned (.bool false) ∧ Jx (pre ++ [x]) W' ∧ Fr S W1 W')) →
    J [] W →
    CallsIn Fence.wide 0 P g (#[.func (.yield l) #[] #[]] ++ lb) W fun e W' => (∃ v, e = .returned v) ∧ (J xs W' ∨ ∃ pre, Jx pre W')
section
variable {P : Program}
/-- A RANGE OVER AN ITERATOR, outside every round. -/
theorem range_topG {α : Type} {g : Operand} {ps : Array Tmp} {assign body : Code} {Q : Exit → Act → World → Prop} {a : Act} {w : World}
    {gf : FuncId} {lb : Array Value} (hg : a.eval g = .func (.func gf) #[] lb) (eg : ∀ args w, (callFunc gf args).run P w = .ok (.enter gf args) w)
    {encs : α → Array Value} {xs : List α} {N : World → (Nat → Prop) → Prop} (hit : IterG P gf lb encs xs N) (hps : ∀ x, (encs x).size = ps.size)
    (S : Nat → Prop) (hS0 : ¬ S w.heap.size) (hS1 : ¬ S (w.heap.size + 1)) (hN : ∀ W (S' : Nat → Prop), Fr0 w W → (∀ k, S' k → S k ∨ k = w.heap.size + 1) → N W S')
    (J : List α → World → Prop) (Jx : Code → List α → World → Prop)
    (hJ : ∀ pre A B, J pre A → Fr (· = w.heap.size + 1) A B → J pre B) (hJx : ∀ c pre A B, Jx c pre A → Fr (· = w.heap.size + 1) A B → Jx c pre B)
    (h0 : ∀ W, Fr0 w W → J [] W)
    (hround : ∀ pre x rest W, xs = pre ++ x :: rest → J pre W → (∃ r, W.heap[w.heap.size + 1]? = some (.loop r)) →
      assign.wpIn (Fence.wide.inRound (w.heap.size + 1)) 0 P (Exit.then (fun a1 W1 => Fr0 W W1 ∧ ∀ W2, Fr (· = w.heap.size + 1) W1 W2 → (∃ r, W2.heap[w.heap.size + 1]? = some (.loop r)) → body.wpIn (Fence.wide.inRound (w.heap.size + 1)) 0 P (roundEnd S J Jx (pre ++ [x]) W2) a1 W2) (fun _ _ _ => False))
        { tmps := (ps.zip (encs x)).foldl (fun t (p, v) => t.setIfInBounds p v) a.tmps, defers := [] } W)
    (hdone : ∀ W', J xs W' → W'.heap[w.heap.size]? = some (.deferred (some [])) → Q .normal { a with defers := dmark w.heap.size :: a.defers } W')
    (hstop : ∀ c pre W', Jx c pre W' → W'.heap[w.heap.size]? = some (.deferred (some [])) → c.wpIn Fence.wide 0 P Q { a with defers := dmark w.heap.size :: a.defers } W') :
    (Code.rangeFunc g ps assign body).wpIn Fence.wide 0 P Q a w := by
  refine wpIn_rangeFunc ?_
  intro fn _
  show ∃ l dmark w₁ d w₁' f args w₂, (Instr.enterLoop fn a.tmps ps assign body none).run P w = _ ∧ _
  obtain ⟨rec, hrec⟩ : ∃ rec : LoopState → Option Code → Loop, rec = fun st pe => { state := st, pending := pe, fn, tmps := a.tmps, params := ps, assign, body, defers := w.heap.size } := ⟨_, rfl⟩
  obtain ⟨W1, hW1⟩ : ∃ W1, (w.alloc (.deferred (some []))).alloc (.loop (rec .ready none)) = W1 := ⟨_, rfl⟩
  have h01 : Fr0 w W1 := by rw [← hW1]; exact ((Fr.refl _ _).alloc _).alloc _
  have hsz : W1.heap.size = w.heap.size + 2 := by rw [← hW1]; simp
  have hL1 : W1.heap[w.heap.size + 1]? = some (.loop (rec .ready none)) := by
    rw [← hW1]; have := World.alloc_heap_new (w.alloc (.deferred (some []))) (.loop (rec .ready none)); rwa [World.size_alloc] at this
  have hK1 : W1.heap[w.heap.size]? = some (.deferred (some [])) := by
    rw [← hW1]; exact (Below.heap_alloc _ _ _ (by simp)).trans (World.alloc_heap_new w _)
  refine ⟨w.heap.size + 1, [{ target := .collected w.heap.size, args := #[] }], W1, { target := .fn (.func gf) lb, args := #[.func (.yield (w.heap.size + 1)) #[] #[]] }, W1, gf,
    #[.func (.yield (w.heap.size + 1)) #[] #[]] ++ lb, W1, ?_, ?_, ?_, ?_, fun h => by simp [Fence.wide] at h, ?_⟩
  · rw [← hW1, hrec]; exact run_enterLoop_outer _ _ _ _ _
  · simp only [resolve, hg]
    simp [go_sem]
  · intro f' _; exact trivial
  · simp [invoke, go_sem, eg]
  · have hfr : ∀ {A B : World}, Fr0 A B → Fr (· = w.heap.size + 1) A B := fun h => Fr.of0 h
    refine (hit (w.heap.size + 1) (fun k => S k ∨ k = w.heap.size + 1)
      (fun pre W => (J pre W ∧ W.heap[w.heap.size + 1]? = some (.loop (rec .ready none))) ∧ W.heap[w.heap.size]? = some (.deferred (some [])))
      (fun pre W => (∃ c, Jx c pre W ∧ W.heap[w.heap.size + 1]? = some (.loop (rec .done (some c)))) ∧ W.heap[w.heap.size]? = some (.deferred (some [])))
      W1 (hN _ _ h01 (fun k hk => hk))
      (fun pre A B ⟨⟨h1, h2⟩, h3⟩ h => ⟨⟨hJ _ _ _ h1 (hfr h), h.heap h2 (fun hf => hf)⟩, h.heap h3 (fun hf => hf)⟩)
      (fun pre A B ⟨⟨c, h1, h2⟩, h3⟩ h => ⟨⟨c, hJx _ _ _ _ h1 (hfr h), h.heap h2 (fun hf => hf)⟩, h.heap h3 (fun hf => hf)⟩)
      ?_ ⟨⟨h0 _ h01, hL1⟩, hK1⟩).mono ?_
    · rintro pre x rest W hx ⟨⟨hj, hl⟩, hk⟩
      obtain ⟨fn', tmps', as', bd', hy, hR⟩ := rounds_of (P := P) (encs := encs) (xs := xs) (rec := rec) (l := w.heap.size + 1) (ps := ps) (assign := assign) (body := body) (tmps := a.tmps) (fn := fn) (S := S) J Jx
        (fun st pe => by subst hrec; exact ⟨rfl, rfl, rfl, rfl, rfl, rfl, rfl, fun _ _ => rfl⟩) hps hS1 hJ hJx
        (fun pre x rest W hx hj hl => wpIn_mono (hround pre x rest W hx hj ⟨_, hl⟩) (fun e a1 W1 hq => by
          cases e with
          | normal => exact ⟨hq.1, fun W2 h12 hl2 => hq.2 W2 h12 ⟨_, hl2⟩⟩
          | _ => exact hq)) pre x rest W hx hj hl
      refine ⟨fn', tmps', as', bd', hy, hR.mono ?_⟩
      have hkeep : ∀ {W' : World}, Fr (fun k => S k ∨ k = w.heap.size + 1) W W' → W'.heap[w.heap.size]? = some (.deferred (some [])) := fun h => h.heap hk (fun h' => by
        rcases h' with h' | h'
        · exact hS0 h'
        · omega)
      rintro e W' (⟨rfl, h1, h2⟩ | ⟨rfl, h1, h2⟩)
      · exact .inl ⟨rfl, ⟨h1, hkeep h2⟩, h2⟩
      · exact .inr ⟨rfl, ⟨h1, hkeep h2⟩, h2⟩
    · rintro e W2 ⟨⟨v, rfl⟩, (⟨⟨hj, hl⟩, hk⟩ | ⟨pre, ⟨c, hj, hl⟩, hk⟩)⟩
      · have he := run_endLoop (P := P) hl (by rw [hrec]; simp)
        refine ⟨none, W2.putObj (w.heap.size + 1) (.loop { rec .ready none with state := .exhausted }), by rw [he, hrec], hdone _ (hJ _ _ _ hj (Fr.put1 _ _ _)) ((World.putObj_heap_other (by omega)).trans hk)⟩
      · have he := run_endLoop (P := P) hl (by rw [hrec]; simp)
        refine ⟨some c, W2.putObj (w.heap.size + 1) (.loop { rec .done (some c) with state := .exhausted }), by rw [he, hrec], hstop _ pre _ (hJx _ _ _ _ hj (Fr.put1 _ _ _)) ((World.putObj_heap_other (by omega)).trans hk)⟩
end

end Go.Proofs.YtephecfapclgfaaDoor.X
namespace Go.Proofs.YtephecfapclgfaaDoor.R
open Go.RowKit Go.Shelf Go.Proofs.YtephecfapclgfaaDoorW.PrintWords Go.Proofs.YtephecfapclgfaaDoorW.PrintLast Go.Proofs.YtephecfapclgfaaDoor.PRaspKeys Go.Proofs.YtephecfapclgfaaDoor.X
attribute [local go_sem] Oper.semAt_some

/-! ### passage -/
theorem passage_any (g : Int) (A : Option Addr) (n c : Nat) (m : Option Nat) (sf sb many : Int) (w : World) :
    Calls Tryd.prog 71 #[bookV g A n c m, spotV sf sb, .int .i64 many] w fun e w' =>
      e = .returned (.func (.func 92) #[] #[.pointer (some ⟨w.heap.size + 1 + 1, 0, none⟩), .pointer (some ⟨w.heap.size, 0, none⟩), .pointer (some ⟨w.heap.size + 1, 0, none⟩)]) ∧
      w' = ((w.alloc (.cells (bookC g A n c m) 83)).alloc (.cells #[.int .i64 sf, .int .i64 sb] 38)).alloc (.cells #[.int .i64 many] 3) := by
  go_enter Tryd.func71, Tryd.ntmps71
  go_wp2_with fail
  go_ret
  exact ⟨rfl, rfl⟩
structure PassAt (w0 : World) (g : Int) (A : Option Addr) (c : Nat) (l : List S63) (mb : Nat) (sf sb : Int) (many : Nat) (bM bB bS : Nat) (W : World) (S : Nat → Prop) : Prop where
  base : Below w0.heap.size w0 W
  r : Kd.C k63 w0 A l.length l
  hc : l.length ≤ c
  glob : Glob w0
  m : ∃ f, MapFn W mb f ∧ ∀ a b : Int, 0 ≤ a → a < l.length → (f a b).getD (gv fun _ => false) = gv (hits l a b)
  cm : W.cell? ⟨bM, 0, none⟩ = some (.int .i64 many)
  b0 : W.cell? ⟨bB, 0, none⟩ = some (.int .i64 g)
  b1 : W.cell? ⟨bB, 1, none⟩ = some (.slice A l.length c)
  b2 : W.cell? ⟨bB, 2, none⟩ = some (.map (some mb))
  s0 : W.cell? ⟨bS, 0, none⟩ = some (.int .i64 sf)
  s1 : W.cell? ⟨bS, 1, none⟩ = some (.int .i64 sb)
  n0 : ∀ k, S k → w0.heap.size ≤ k ∧ k ≠ mb ∧ k ≠ bM ∧ k ≠ bB ∧ k ≠ bS
theorem Glob.lt {w : World} (h : Glob w) : 0 < w.heap.size := World.block_lt_of_cell? _ _ h.g0
theorem PassAt.st {w0 : World} {g : Int} {A : Option Addr} {c : Nat} {l : List S63} {mb : Nat} {sf sb : Int} {many : Nat} {bM bB bS : Nat} {W : World} {S : Nat → Prop} (h : PassAt w0 g A c l mb sf sb many bM bB bS W S) : St g A c l mb W :=
  ⟨Kd.C_below h.r h.base, h.hc, h.m, ⟨(h.base.cell h.glob.lt).trans h.glob.g0, (h.base.cell h.glob.lt).trans h.glob.g1⟩⟩
theorem PassAt.fr {w0 : World} {g : Int} {A : Option Addr} {c : Nat} {l : List S63} {mb : Nat} {sf sb : Int} {many : Nat} {bM bB bS : Nat} {W W' : World} {S : Nat → Prop} (h : PassAt w0 g A c l mb sf sb many bM bB bS W S) (hf : Fr S W W') : PassAt w0 g A c l mb sf sb many bM bB bS W' S := by
  obtain ⟨f, hm, hv⟩ := h.m
  exact ⟨h.base.trans (hf.below h.base.size (fun k hk hS => by have := (h.n0 k hS).1; omega)), h.r, h.hc, h.glob, ⟨f, hm.same (hf.block _ hm.lt (fun hS => (h.n0 _ hS).2.1 rfl)), hv⟩,
    hf.cell h.cm (fun hS => (h.n0 _ hS).2.2.1 rfl), hf.cell h.b0 (fun hS => (h.n0 _ hS).2.2.2.1 rfl), hf.cell h.b1 (fun hS => (h.n0 _ hS).2.2.2.1 rfl), hf.cell h.b2 (fun hS => (h.n0 _ hS).2.2.2.1 rfl), hf.cell h.s0 (fun hS => (h.n0 _ hS).2.2.2.2 rfl), hf.cell h.s1 (fun hS => (h.n0 _ hS).2.2.2.2 rfl), h.n0⟩
theorem range_split (n k : Nat) (hk : k < n) : ∃ rest, List.range n = List.range k ++ k :: rest := by
  refine ⟨(List.range n).drop (k + 1), ?_⟩
  have h1 : (List.range n).take k = List.range k := by rw [List.take_range]; congr 1; omega
  have h2 : (List.range n).drop k = k :: (List.range n).drop (k + 1) := by
    rw [List.drop_eq_getElem_cons (by simpa using hk)]; simp
  rw [← h1, ← h2, List.take_append_drop]
/-- What is struck at the k-th beat of a passage. -/
def passH (l : List S63) (sf sb : Int) (k : Nat) : Nat → Bool := hits l sf ((sb + k) % (rd_T63 l sf).f0)
set_option maxHeartbeats 2000000 in
theorem passage_iter (w0 : World) (g : Int) (A : Option Addr) (c : Nat) (l : List S63) (mb : Nat) (hl : Beats l) (sf sb : Int) (many : Nat) (h1 : 0 ≤ sf) (h1' : sf < l.length) (h3 : 0 ≤ sb ∧ sb ≤ 1000) (hmany : many ≤ 1000) (bM bB bS : Nat) :
    IterG Tryd.prog 92 #[.pointer (some ⟨bM, 0, none⟩), .pointer (some ⟨bB, 0, none⟩), .pointer (some ⟨bS, 0, none⟩)] (fun k : Nat => #[.int .i64 k, gv (passH l sf sb k)]) (List.range many)
      (PassAt w0 g A c l mb sf sb many bM bB bS) := by
  intro lY S J Jx W hN hJ hJx hY h0
  have HN := Lib.hid hN
  have cm := hN.cm
  have hm' : (many : Int) ≤ 1000 := by omega
  have HAT := Lib.hid (fun (k : Nat) (hk : k < many) W' (hS : St g A c l mb W') => at_any g A c l mb hl sf (sb + k) W' hS h1 h1' (by omega) (by omega))
  clear hN
  unfold gv at hY HAT
  unfold passH at hY
  refine callsIn_of_wp Tryd.func92 rfl trivial ?_ rfl
  simp only [Tryd.ntmps92, List.size_toArray, List.length_cons, List.length_nil, Nat.reduceAdd, Nat.reduceSub, Array.replicate_succ, Array.replicate_zero, List.push_toArray, List.append_toArray, List.nil_append, List.cons_append]
  gi_wp2
  gi_loopw [7] (fun v wr => ∃ k : Nat, k ≤ many ∧ v = .int .i64 k ∧ J (List.range k) wr ∧ Fr S W wr) (fun v _ => (many - intOf v).toNat)
  case atStart => exact ⟨0, by omega, by rfl, h0, Fr.refl _ _⟩
  case round =>
    obtain ⟨k, hk, rfl, hj, hf⟩ := hrel
    have hNr := HN.out.fr hf
    by_cases hlt : k < many
    · have hle : (k : Int) < many := by omega
      obtain ⟨rest, hsp⟩ := range_split many k hlt
      have HNr := Lib.hid hNr
      have q0 := hNr.b0
      have q1 := hNr.b1
      have q2 := hNr.b2
      have q3 := hNr.s0
      have q4 := hNr.s1
      have HSP := Lib.hid hsp
      have HJ := Lib.hid hj
      have HF := Lib.hid hf
      clear hNr hsp hj hf cm
      gi_wp2
      refine ⟨trivial, rfl, CallsIn.mono (callsIn_wide.2 (HAT.out k hlt _ HNr.out.st)) ?_⟩
      rintro e W1 ⟨rfl, hf1⟩
      obtain ⟨fn, tmps, assign, body, hy, hR⟩ := hY _ _ rest W1 HSP.out (hJ _ _ _ HJ.out hf1)
      have HFF := Lib.hid (Fr.step0 HF.out hf1)
      clear hY q0 q1 q2 q3 q4 HAT hf1
      gi_wp2
      refine ⟨rfl, hR.mono ?_⟩
      clear hR hy
      rintro e W' (⟨rfl, hj', hk'⟩ | ⟨rfl, hj', hk'⟩)
      · gi_wp2
        go_roundw
        case rel => exact ⟨k + 1, by omega, by go_num, by rw [List.range_succ]; exact hj', HFF.out.trans hk'⟩
        case measure => simp [intOf]; omega
      · gi_wp2
        refine bodyPost_ret (results_none rfl _ _ _) rfl ?_
        exact ⟨⟨_, rfl⟩, .inr ⟨_, hj'⟩⟩
    · obtain rfl : k = many := by omega
      have hle : ¬ ((k : Int) < k) := by omega
      clear hY
      gi_wp2
      go_end0
      exact ⟨⟨_, rfl⟩, .inl hj⟩
end Go.Proofs.YtephecfapclgfaaDoor.R
namespace Go.Proofs.YtephecfapclgfaaDoor.R
open Go.RowKit Go.Shelf Go.Proofs.YtephecfapclgfaaDoorW.PrintWords Go.Proofs.YtephecfapclgfaaDoorW.PrintLast Go.Proofs.YtephecfapclgfaaDoorW.PrintMore Go.Proofs.YtephecfapclgfaaDoor.PRaspKeys Go.Proofs.YtephecfapclgfaaDoor.X
attribute [local go_sem] Oper.semAt_some

theorem start_round {P : Program} {ops : Array Oper} {Q : Exit → Act → World → Prop} {S : World → Prop} {ds : List Nat} {lp id n : Nat} {a : Act} {w : World} (l : Array Bool) (hd : noDefer ops = true) (hm : P.follows .mixedOrders = true) (hn : ops.size = n) (hl : Array.replicate n false = l) (hS : S w.drew)
    (h : S w.drew → wpAnyLast P .any ops (noOut Q) S ds n l a w.drew) : (Code.region id ops true).wpIn (Fence.wide.inRound lp) 0 P Q a w := by
  subst hn
  subst hl
  exact region_round hd hm (wpAny_of_last _ _ _ _ (h hS))
/-! ### Passage -/
theorem fr_from {B : Nat} {a b : World} (h : Below B a b) : Fr (fun k => B ≤ k) a b := ⟨h.os, h.tape, h.output, h.size, fun i hi hn => h.block i (by omega)⟩
theorem N_fr {α : Type} {d : Kd α} {e base : Nat} {ok S : Nat → Prop} {a b : World} {v : Value} {xs : List α} (h : Kd.N d e a base ok v xs) (hf : Fr S a b) (hn : ∀ k, ok k → ¬ S k) : Kd.N d e b base ok v xs := Kd.N_step h (fun k hk hlt => hf.block k hlt (hn k hk))
theorem inf39 : (Tryd.prog.info? 39).map (fun i => (i.zero, i.size, i.bytes)) = some (some (.slice none 0 0), 1, 24) := by kernel_rfl
theorem cut39 (A : Option Addr) (n c : Nat) (hc : n ≤ c) : ∀ W : World, (Instr.slice 39 (.slice A n c) none (some (.int .i64 n)) (some (.int .i64 n))).run Tryd.prog W = .ok (.slice A n n) W := by
  cases h : Tryd.prog.info? 26 with
  | none => have := info26; rw [h] at this; cases this
  | some i => exact cut_max 39 26 Tryd.underlying39 h A n c hc
def passR (l : List S63) (sf sb : Int) (n : Nat) : List (List Int) := (List.range n).map fun k => lst (passH l sf sb k) 5
def passF (g : Int) (l : List S63) (sf sb many : Int) : List (List Int) × Int :=
  if openE g l (okPassage g l sf sb many) = 0 then (passR l sf sb many.toNat, 0) else ([], openE g l (okPassage g l sf sb many))
theorem open_passage (g : Int) (A : Option Addr) (c : Nat) (l : List S63) (sf sb many : Int) (b1 b2 : Nat) (W : World) (hB : Book W A c l) (h1 : W.cell? ⟨b1, 0, none⟩ = some (.int .i64 sf)) (h1' : W.cell? ⟨b1, 1, none⟩ = some (.int .i64 sb)) (h2 : W.cell? ⟨b2, 0, none⟩ = some (.int .i64 many)) :
    Calls Tryd.prog 52 #[.agg #[.int .i64 g, .slice A l.length c], .func (.func 69) #[] #[.pointer (some ⟨b1, 0, none⟩), .pointer (some ⟨b2, 0, none⟩)]] W (Opens g A c l (openE g l (okPassage g l sf sb many)) W) :=
  opened_any 69 _ (fun _ _ => by kernel_rfl) g A c l _ W hB.r hB.c hB.glob (fun hb mb W' hf hS => right69 g A c l mb b1 sf sb b2 many W' hb hS (hf.cell0 h1) (hf.cell0 h1') (hf.cell0 h2))
structure PJ (W8 : World) (b10 : Nat) (xs : List (List Int)) (W : World) : Prop where
  v : ∃ v, Bx W b10 39 #[v] ∧ Kd.N (Kd.slice 3 (Kd.int .i64)) 26 W (W8.heap.size + 2) (fun k => W8.heap.size + 2 ≤ k) v xs
  fr : Fr (fun k => k = b10) W8 W
theorem PJ.keep {W8 : World} {b10 : Nat} {xs : List (List Int)} {A B : World} (h : PJ W8 b10 xs A) (hb : b10 < W8.heap.size) (hf : Fr (· = W8.heap.size + 1) A B) : PJ W8 b10 xs B := by
  obtain ⟨v, h1, h2⟩ := h.v
  exact ⟨⟨v, h1.fr hf (by omega), N_fr h2 hf (fun k hk => by omega)⟩, h.fr.step hf (fun k hk e => by omega)⟩
theorem PJ.keep0 {W8 : World} {b10 : Nat} {xs : List (List Int)} {A B : World} (h : PJ W8 b10 xs A) (hf : Fr0 A B) : PJ W8 b10 xs B := by
  obtain ⟨v, h1, h2⟩ := h.v
  exact ⟨⟨v, h1.fr0 hf, N_fr h2 hf (fun k hk h => h)⟩, h.fr.step0 hf⟩
set_option maxHeartbeats 4000000 in
set_option maxRecDepth 100000 in
theorem passages_any (g : Int) (A : Option Addr) (c : Nat) (l : List S63) (sf sb many : Int) (w : World) (hB : Book w A c l) :
    Calls Tryd.prog 24 #[.agg #[.int .i64 g, .slice A l.length c], .agg #[.int .i64 sf, .int .i64 sb], .int .i64 many] w fun e w' =>
      ∃ v0_ : Value, e = .returned (.tuple #[v0_, .int .i64 (passF g l sf sb many).2]) ∧ Kd.V (Kd.slice 3 (Kd.int .i64)) 26 w' w.heap.size (fun k_ => (w.heap.size ≤ k_)) v0_ (passF g l sf sb many).1 ∧ Below w.heap.size w w' := by
  have HOP := Lib.hid (fun (b1 b2 : Nat) W (hf : Fr0 w W) h1 h1' h2 => open_passage g A c l sf sb many b1 b2 W (hB.fr hf) h1 h1' h2)
  have hfw : Fr0 w (((w.alloc (.cells #[.int .i64 g, .slice A l.length c] 24)).alloc (.cells #[.int .i64 sf, .int .i64 sb] 38)).alloc (.cells #[.int .i64 many] 3)) := (((Fr.refl _ _).alloc _).alloc _).alloc _
  have c1 : Bx (((w.alloc (.cells #[.int .i64 g, .slice A l.length c] 24)).alloc (.cells #[.int .i64 sf, .int .i64 sb] 38)).alloc (.cells #[.int .i64 many] 3)) (w.heap.size + 1) 38 #[.int .i64 sf, .int .i64 sb] := (Bx.of_new (by simp)).alloc _
  have c2 : Bx (((w.alloc (.cells #[.int .i64 g, .slice A l.length c] 24)).alloc (.cells #[.int .i64 sf, .int .i64 sb] 38)).alloc (.cells #[.int .i64 many] 3)) (w.heap.size + 1 + 1) 3 #[.int .i64 many] := Bx.of_new (by simp)
  have HFW := Lib.hid hfw
  have HC1 := Lib.hid c1
  have HC2 := Lib.hid c2
  clear hfw c1 c2
  by_cases hz : openE g l (okPassage g l sf sb many) = 0
  · have hN : passF g l sf sb many = (passR l sf sb many.toNat, 0) := by unfold passF; rw [if_pos hz]
    obtain ⟨hbk, hok⟩ := openE_ok hz
    unfold okPassage isSpotB at hok
    simp only [Bool.and_eq_true, isIn_iff] at hok
    have h2 := (beats_of hbk).two sf (by omega) (by omega)
    obtain ⟨m, hm⟩ : ∃ m : Nat, many = m := ⟨many.toNat, by omega⟩
    subst hm
    have hB0 := hB
    have HPI := Lib.hid (fun mb bM bB bS => passage_iter w g A c l mb (beats_of hbk) sf sb m (by omega) (by omega) (by omega) (by omega) bM bB bS)
    rw [hN]
    rw [hz] at HOP
    have hm64 : m ≤ 64 := by omega
    have HB := Lib.hid hB
    clear hz hN hok hbk hB hB0 h2
    rw [Int.toNat_natCast]
    refine calls_of_marks Tryd.func24 rfl ?_
    simp only [Tryd.ntmps24, List.size_toArray, List.length_cons, List.length_nil, Nat.reduceAdd, Nat.reduceSub, Array.replicate_succ, Array.replicate_zero, List.push_toArray, List.append_toArray, List.nil_append, List.cons_append]
    go_wp2_with (first
      | (go_at_call 52; (with_reducible refine (HOP.out _ _ _ ?hw ?h1 ?h1' ?h2).mono ?_); (case hw => exact HFW.out); (case h1 => exact HC1.out.at_ 0 rfl); (case h1' => exact HC1.out.at_ 1 rfl); (case h2 => exact HC2.out.at_ 0 rfl); rintro e W5 ⟨g', A', n', c', o', rfl, hf5, hop⟩; obtain ⟨mb, rfl, rfl, rfl, rfl, rfl, hS5⟩ := hop rfl; (have HS5 := Lib.hid hS5); (have p1 := (HC1.out.fr0 hf5).at_ 0 (v := .int .i64 sf) rfl); (have p1' := (HC1.out.fr0 hf5).at_ 1 (v := .int .i64 sb) rfl); (have p2 := (HC2.out.fr0 hf5).at_ 0 (v := .int .i64 m) rfl); (have l1 := (HC1.out.fr0 hf5).lt); (have l2 := (HC2.out.fr0 hf5).lt); (have l1' := Nat.lt_succ_of_lt l1); (have l2' := Nat.lt_succ_of_lt l2); clear hop hS5)
      | (go_at_call 71; refine (passage_any _ _ _ _ _ _ _ _ _).mono ?_; rintro e W8 ⟨rfl, hW8⟩))
    have hf58 : Fr0 W5 W8 := by rw [hW8]; exact (((((Fr.refl _ _).alloc _).alloc _).alloc _).alloc _).alloc _
    have hz8 : W8.heap.size = W5.heap.size + 5 := by rw [hW8]; simp
    have B10 : Bx W8 (W5.heap.size + 1) 39 #[.slice none 0 0] := by rw [hW8]; exact (((Bx.of_new (by simp)).alloc _).alloc _).alloc _
    have BB : Bx W8 (W5.heap.size + 1 + 1) 83 (bookC g' A' l.length c' (some mb)) := by rw [hW8]; exact ((Bx.of_new (by simp)).alloc _).alloc _
    have BS : Bx W8 (W5.heap.size + 1 + 1 + 1) 38 #[.int .i64 sf, .int .i64 sb] := by rw [hW8]; exact (Bx.of_new (by simp)).alloc _
    have BM : Bx W8 (W5.heap.size + 1 + 1 + 1 + 1) 3 #[.int .i64 m] := by rw [hW8]; exact Bx.of_new (by simp)
    rw [← hW8]
    clear hW8
    have hw5 : w.heap.size ≤ W5.heap.size := by omega
    have hf8 : Fr0 w W8 := Fr0.trans HFW.out (Fr0.trans hf5 hf58)
    have hmb : mb < W5.heap.size := by obtain ⟨f, hm, _⟩ := HS5.out.m; exact hm.lt
    have hS8 := HS5.out.fr hf58
    have hS0 : 0 < w.heap.size := HB.out.glob.lt
    refine wpIn_wide.1 (range_topG (g := .tmp 26) (by rfl) (fun args w => by kernel_rfl) (HPI.out mb (W5.heap.size + 1 + 1 + 1 + 1) (W5.heap.size + 1 + 1) (W5.heap.size + 1 + 1 + 1)) (fun _ => rfl) (fun k => k = W5.heap.size + 1 ∨ W8.heap.size + 2 ≤ k) ?hS0 ?hS1 ?hN
      (fun pre W' => PJ W8 (W5.heap.size + 1) (pre.map fun k => lst (passH l sf sb k) 5) W') (fun _ _ _ => False) ?hJ (fun _ _ _ _ h _ => h) ?h0 ?hround ?hdone (fun _ _ _ h => h.elim))
    case hS0 => omega
    case hS1 => omega
    case hN =>
      intro W6 S' h86 hS'
      have hS6 := hS8.fr h86
      refine ⟨fr_below (Fr0.trans hf8 h86), HB.out.r, HB.out.c, HB.out.glob, hS6.m, (BM.fr0 h86).at_ 0 rfl, (BB.fr0 h86).at_ 0 rfl, (BB.fr0 h86).at_ 1 rfl, (BB.fr0 h86).at_ 2 rfl, (BS.fr0 h86).at_ 0 rfl, (BS.fr0 h86).at_ 1 rfl, ?_⟩
      intro k hk
      rcases hS' k hk with (rfl | h) | h <;> omega
    case hJ => exact fun pre A B h hf => h.keep (by omega) hf
    case h0 =>
      intro W6 h86
      exact ⟨⟨_, B10.fr0 h86, Kd.N_nil _ _ _ _ _⟩, Fr.of0 h86⟩
    case hdone =>
      intro W6 hj hD
      have HR := Lib.hid (show passR l sf sb m = List.map (fun k => lst (passH l sf sb k) 5) (List.range m) from rfl)
      generalize List.map (fun k : Nat => lst (passH l sf sb k) 5) (List.range m) = rows at *
      obtain ⟨⟨v, hbv, hN⟩, hf86⟩ := hj
      obtain ⟨A1, c1, rfl⟩ := Kd.N_slice hN
      have hcl := (Kd.N_reads' hN).2.1
      have hcut := cut39 A1 _ c1 hcl
      have HN6 := Lib.hid hN
      have HF86 := Lib.hid hf86
      have HF8 := Lib.hid hf8
      have HD6 := Lib.hid hD
      have q0 := hbv.at_ 0 (v := .slice A1 rows.length c1) rfl
      clear hN hf86 hD hbv hcl hf8 hf58 B10 BB BS BM hS8 hf5 HS5
      have hsz : W8.heap.size ≤ W6.heap.size := HF86.out.size
      go_wp2
      refine ret_marks (.tuple #[.slice A1 rows.length rows.length, .int .i64 0]) [W8.heap.size] (fun D hD => by rw [List.mem_singleton.1 hD]; exact HD6.out) (by simp) (by simp [results, Tryd.results24, go_sem, shut]) ⟨_, rfl, ?_, ?_⟩
      · rw [HR.out]
        exact Kd.V_mono (V_cut' (Kd.N_V (base' := w.heap.size) (N_fr HN6.out (Fr.put1 _ _ _) (fun k hk => by omega)))) (fun k hk => by omega)
      · exact ((HF8.out.of0 (S := fun k => k = W5.heap.size + 1)).trans HF86.out |>.step (Fr.put1 _ _ _) (fun k hk e => by omega)).below (Nat.le_refl _) (fun k hk => by omega)
    case hround =>
      rintro pre x rest W6 hx hj ⟨r, hl⟩
      have hlb : W8.heap.size + 1 < W6.heap.size := (Array.getElem?_eq_some_iff.1 hl).1
      have hxm : pre.length < m := by have := congrArg List.length hx; simp at this; omega
      simp only [List.zip_toArray, List.zip_cons_cons, List.zip_nil_right, List.foldl_toArray', List.foldl_cons, List.foldl_nil, List.setIfInBounds_toArray, List.set_cons_zero, List.set_cons_succ]
      have HXS := Lib.hid (show List.map (fun k : Nat => lst (passH l sf sb k) 5) (pre ++ [x]) = List.map (fun k : Nat => lst (passH l sf sb k) 5) pre ++ [lst (passH l sf sb x) 5] by rw [List.map_append, List.map_singleton])
      have hxl : (List.map (fun k => lst (passH l sf sb k) 5) pre).length ≤ 64 := by rw [List.length_map]; omega
      generalize List.map (fun k : Nat => lst (passH l sf sb k) 5) pre = xs at *
      generalize passH l sf sb x = H at *
      have hj0 := hj.keep0 (B := W6.alloc (.cells (gc H) 89)) ((Fr.refl _ _).alloc _)
      have h12 : Bx (W6.alloc (.cells (gc H) 89)) W6.heap.size 89 (gc H) := Bx.new _ _ _
      unfold gc at h12 hj0
      have HJ0 := Lib.hid hj0
      have H12 := Lib.hid h12
      have HF8 := Lib.hid hf8
      clear hl hx hj hj0 h12 hf8 hf58 B10 BB BS BM hS8 hf5 HS5 HC1 HC2 HOP HFW p1 p1' p2
      unfold gv
      gi_wp2
      refine ⟨(Fr.refl _ _).alloc _, fun W7 h67 hl7 => ?_⟩
      clear hl7
      have HJ7 := Lib.hid (HJ0.out.keep (by omega) h67)
      have B12 := H12.out.fr h67 (by omega)
      have hs7 : W6.heap.size + 1 ≤ W7.heap.size := by have := h67.size; simp at this; omega
      have y0 := B12.at_ 0 (v := .bool (H 0)) rfl
      have y1 := B12.at_ 1 (v := .bool (H 1)) rfl
      have y2 := B12.at_ 2 (v := .bool (H 2)) rfl
      have y3 := B12.at_ 3 (v := .bool (H 3)) rfl
      have y4 := B12.at_ 4 (v := .bool (H 4)) rfl
      have HLI := Lib.hid (show Calls Tryd.prog 57 #[.agg #[.bool (H 0), .bool (H 1), .bool (H 2), .bool (H 3), .bool (H 4)]] W7 fun e w' => ∃ v, e = .returned v ∧ Kd.R (Kd.int .i64) 3 w' W7.heap.size (fun k => W7.heap.size ≤ k) v (lst H 5) ∧ Fr0 W7 w' from list_any H W7)
      have HLL := Lib.hid (lst_len H 5)
      generalize lst H 5 = ys at *
      clear h67 B12
      gi_wp2
      refine ⟨trivial, rfl, CallsIn.mono (CallsIn.inRound _ (callsIn_wide.2 HLI.out)) ?_⟩
      rintro e W9 ⟨v9, rfl, hR9, hf79⟩
      obtain ⟨A2, c2, rfl, hcl, -⟩ := Kd.R_reads hR9
      have hcut := cut26 A2 _ c2 hcl
      have HJ9 := Lib.hid (HJ7.out.keep0 hf79)
      have hFK := Kd.FK_slice_mk (e := 3) (Nat.le_refl ys.length) (Kd.R_F hR9)
      have HFK := Lib.hid hFK
      have hv7 := HJ7.out.v
      have hv9 : ∃ v, Bx W9 (W5.heap.size + 1) 39 #[v] ∧ Kd.N (Kd.slice 3 (Kd.int .i64)) 26 W9 (W8.heap.size + 2) (fun k => W8.heap.size + 2 ≤ k) v xs ∧ ∀ k, v.ownBlock = some k → k < W7.heap.size := by
        obtain ⟨v, h1, h2⟩ := hv7
        exact ⟨v, h1.fr0 hf79, N_fr h2 hf79 (fun _ _ h => h), Kd.N_lt h2⟩
      obtain ⟨v, hbv, hN, hown⟩ := hv9
      have HBV := Lib.hid hbv
      have HN9 := Lib.hid hN
      have HOW := Lib.hid hown
      have HF79 := Lib.hid hf79
      have hv0 := hbv.at_ 0 (v := v) rfl
      have hs9 : W7.heap.size ≤ W9.heap.size := hf79.size
      clear hbv hN hown hv7 hf79 hR9 hcl hFK y0 y1 y2 y3 y4
      gi_wp2
      refine start_round (n := 10) (S := fun w' => w'.cell? ⟨W5.heap.size + 1, 0, none⟩ = some v) (ds := [9]) #[false, false, false, false, false, false, false, false, false, false] (by kernel_rfl) (by kernel_rfl) rfl rfl (hv0) (fun hHeld => ?_)
      refine pure_ (i := 1) (N := some 32) (v := ?_) (a' := ?_) #[false, true, false, false, false, false, false, false, false, false] rfl rfl (by kernel_rfl) (fun _ _ _ h => h) (Or.inl ⟨by rfl, ?_⟩) ?_ ?_
      rotate_left
      · intro w'
        go_simp
        with_reducible rfl
      rotate_left
      · simp only [Act.put, List.setIfInBounds_toArray, List.set_cons_zero, List.set_cons_succ, i64_w, i32_w]
        rfl
      refine pure_ (i := 2) (N := some 33) (v := ?_) (a' := ?_) #[false, true, true, false, false, false, false, false, false, false] rfl rfl (by kernel_rfl) (fun _ _ _ h => h) (Or.inl ⟨by rfl, ?_⟩) ?_ ?_
      rotate_left
      · intro w'
        go_simp
        with_reducible rfl
      rotate_left
      · simp only [Act.put, List.setIfInBounds_toArray, List.set_cons_zero, List.set_cons_succ, i64_w, i32_w]
        rfl
      refine pure_ (i := 3) (N := some 34) (v := ?_) (a' := ?_) #[false, true, true, true, false, false, false, false, false, false] rfl rfl (by kernel_rfl) (fun _ _ _ h => h) (Or.inl ⟨by rfl, ?_⟩) ?_ ?_
      rotate_left
      · intro w'
        go_simp
        with_reducible rfl
      rotate_left
      · simp only [Act.put, List.setIfInBounds_toArray, List.set_cons_zero, List.set_cons_succ, i64_w, i32_w]
        rfl
      refine pure_ (i := 4) (N := some 35) (v := ?_) (a' := ?_) #[false, true, true, true, true, false, false, false, false, false] rfl rfl (by kernel_rfl) (fun _ _ _ h => h) (Or.inl ⟨by rfl, ?_⟩) ?_ ?_
      rotate_left
      · intro w'
        go_simp
        with_reducible rfl
      rotate_left
      · simp only [Act.put, List.setIfInBounds_toArray, List.set_cons_zero, List.set_cons_succ, i64_w, i32_w]
        rfl
      refine pure_ (i := 5) (N := some 36) (v := ?_) (a' := ?_) #[false, true, true, true, true, true, false, false, false, false] rfl rfl (by kernel_rfl) (fun _ _ _ h => h) (Or.inl ⟨by rfl, ?_⟩) ?_ ?_
      rotate_left
      · intro w'
        go_simp
        with_reducible rfl
      rotate_left
      · simp only [Act.put, List.setIfInBounds_toArray, List.set_cons_zero, List.set_cons_succ, i64_w, i32_w]
        rfl
      refine pure_ (i := 6) (N := some 37) (v := ?_) (a' := ?_) #[false, true, true, true, true, true, true, false, false, false] rfl rfl (by kernel_rfl) (fun _ _ _ h => h) (Or.inl ⟨by rfl, ?_⟩) ?_ ?_
      rotate_left
      · intro w'
        go_simp
        with_reducible rfl
      rotate_left
      · simp only [Act.put, List.setIfInBounds_toArray, List.set_cons_zero, List.set_cons_succ, i64_w, i32_w]
        rfl
      refine take_ (i := 0) (N := some 31) (v := ?_) (a' := ?_) #[true, true, true, true, true, true, true, false, false, false] rfl rfl (by kernel_rfl) (fun _ _ _ h => h) (Or.inl ⟨by rfl, ?_⟩) hHeld ?_ ?_
      rotate_left
      · intro w' s0
        go_simp
        with_reducible rfl
      rotate_left
      · simp only [Act.put, List.setIfInBounds_toArray, List.set_cons_zero, List.set_cons_succ, i64_w, i32_w]
        rfl
      refine one_ (i := 7) (N := some 38) #[true, true, true, true, true, true, true, true, false, false] rfl rfl (by kernel_rfl) (by decide) (fun K hK => ?_)
      refine value_ (w1 := ?_) (v := ?_) (by rfl) rfl ?_ ?_
      rotate_left 2
      · go_simp
        constructor
        · rfl
        · rfl
      refine hK.out _ _ ((((HBV.out.drew).alloc _).at_ 0 rfl)) (fun hHeld => ?_)
      clear hK K
      refine norm_ (a' := ?_) ?_ ?_
      rotate_left
      · show Act.put _ (some 38) _ = _
        simp only [Act.put, List.setIfInBounds_toArray, List.set_cons_zero, List.set_cons_succ, i64_w, i32_w]
        rfl
      refine one_ (i := 8) (N := some 39) #[true, true, true, true, true, true, true, true, true, false] rfl rfl (by kernel_rfl) (by decide) (fun K hK => ?_)
      refine Kd.N_append_step (Kd.slice 3 (Kd.int .i64)) (w0 := W7) (W := W9.drew) (W8.heap.size + 2) ?hw (.tmp 31) (.tmp 38) 39 26 (.slice none 0 0) 24 rfl Tryd.underlying39 info26 rfl (by decide) (by omega) v xs ys [.slice A2 ys.length ys.length] (fun k => W8.heap.size + 2 ≤ k) (fun k => W7.heap.size ≤ k) rfl rfl ?aP ?aK ?aF ?aO ?aB ?aS ?aL ?_
      (case hw => rfl)
      (case aP => exact HFK.out)
      (case aK => exact fun k hk => ⟨by omega, fun h => by have := HOW.out k h.symm; omega⟩)
      (case aF => exact fun k hk => by have : W9.heap.size ≤ k := hk; omega)
      (case aO => exact HN9.out)
      (case aB => exact (HF79.out.drew).below (by omega) (fun _ _ h => h))
      (case aS => show W8.heap.size + 2 ≤ W9.heap.size; omega)
      (case aL => omega)
      intro v1 w1 ho hb hg hat
      obtain ⟨A3, c3, rfl⟩ := Kd.N_slice ho
      have HO1 := Lib.hid ho
      have HB1 := Lib.hid hb
      have HBV1 := Lib.hid (show Bx w1 (W5.heap.size + 1) 39 #[v] from blk_grown (HBV.out.drew) hg (fun h => by have := (HN9.out.1 _ h.symm); omega))
      have hz1 := HBV1.out.frz 0
      have hlt1 := HBV1.out.lt
      clear ho hb hg hat
      refine hK.out _ _ ((HBV1.out.at_ 0 rfl)) (fun hHeld => ?_)
      clear hK K
      refine norm_ (a' := ?_) ?_ ?_
      rotate_left
      · show Act.put _ (some 39) _ = _
        simp only [Act.put, List.setIfInBounds_toArray, List.set_cons_zero, List.set_cons_succ, i64_w, i32_w]
        rfl
      refine last_ (i := 9) (N := none) #[true, true, true, true, true, true, true, true, true, true] rfl rfl (by kernel_rfl) (by decide) (fun K hK => ?_)
      refine skip_ (w1 := ?_) (by rfl) rfl ?_ ?_
      rotate_left
      · go_simp
        rfl
      refine hK.out _ _ ?_
      clear hK K
      refine done_ (by kernel_rfl) ?_
      gi_wp2
      have hln : (xs ++ [ys]).length = xs.length + 1 := by simp
      have HO2 := HO1.out
      rw [hln] at HO2
      refine ⟨((fr_from HB1.out).wide (fun k _ h => .inr h)).setCell (.inl (.inl rfl)) _, ?_⟩
      show PJ W8 _ (List.map _ (pre ++ [x])) _
      rw [HXS.out]
      exact ⟨⟨_, by simpa using HBV1.out.set_ 0 (.slice A3 (xs.length + 1) c3), N_fr HO2 ((Fr.refl (fun k => k = W5.heap.size + 1) w1).setCell (.inl rfl) _) (fun k hk => by omega)⟩, (HJ7.out.fr.step (fr_from HB1.out) (fun k hk e => by omega)).setCell (.inl rfl) _⟩
  · have hN : passF g l sf sb many = ([], openE g l (okPassage g l sf sb many)) := by unfold passF; rw [if_neg hz]
    rw [hN]
    clear hN
    generalize openE g l (okPassage g l sf sb many) = E at *
    go_enter Tryd.func24, Tryd.ntmps24
    go_wp2_with (first
      | (go_at_call 52; (with_reducible refine (HOP.out _ _ _ ?hw ?h1 ?h1' ?h2).mono ?_); (case hw => exact HFW.out); (case h1 => exact HC1.out.at_ 0 rfl); (case h1' => exact HC1.out.at_ 1 rfl); (case h2 => exact HC2.out.at_ 0 rfl); rintro e W5 ⟨g', A', n', c', o', rfl, hf5, hop⟩))
    refine bodyPost_ret (v := .tuple #[.slice none 0 0, .int .i64 E]) (by simp [results, Tryd.results24, go_sem]) rfl ⟨_, rfl, Kd.V_nil _ _ _ _ _, ?_⟩
    exact fr_below (Fr.alloc (Fr0.trans HFW.out hf5) _)
end Go.Proofs.YtephecfapclgfaaDoor.R
