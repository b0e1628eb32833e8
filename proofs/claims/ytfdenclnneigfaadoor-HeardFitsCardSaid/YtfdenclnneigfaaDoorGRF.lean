import Derived.Test.YtfdenclnneigfaaDoorGR
import Derived.Test.YtfdenclnneigfaaDoorM0
set_option linter.unusedVariables false
set_option linter.unusedSimpArgs false
namespace Go.Proofs.YtfdenclnneigfaaDoor.R
open Go.RowKit Go.Shelf Go.Proofs.YtfdenclnneigfaaDoorW.PrintWords Go.Proofs.YtfdenclnneigfaaDoorW.PrintLast Go.Proofs.YtfdenclnneigfaaDoorW.PrintMore Go.Proofs.YtfdenclnneigfaaDoor.PRaspKeys Go.Proofs.YtfdenclnneigfaaDoor.X Go.Proofs.YtfdenclnneigfaaDoor.Q Go.Proofs.YtfdenclnneigfaaDoor.M
attribute [local go_sem] Oper.semAt_some
namespace RF
/-! ### The reference, walked: Fits, Begins, Least -/
section
variable {g : Int} {A : Option Addr} {c : Nat} {l : List S114} {Ap : Option Addr} {cp : Nat} {ps : List S62} {piece : Int} {At : Option Addr} {ct : Nat} {t : List Int} {Ag : Option Addr} {cg : Nat} {gs : List Int} {lost wrong : Int} {w : World}
theorem tf_of (hk : hbookOk g l ps = true) {piece : Int} (h0 : 0 ≤ piece) (h1 : piece < ps.length) {t gs : List Int} {lost wrong : Int} (hn : noteB t gs lost wrong = true) (hg : gs.length ≤ 9223372036854775807) : TF g l ps piece t gs ∧ 1 ≤ t.length ∧ (0 ≤ lost ∧ lost ≤ 6) ∧ 0 ≤ wrong ∧ wrong ≤ 6 := by
 unfold noteB at hn
 rw [Bool.and_eq_true, Bool.and_eq_true, Bool.and_eq_true, isIn_iff, isIn_iff, tonesB_iff] at hn
 exact ⟨⟨hk, h0, h1, by omega, hn.2.1.1.2, hg⟩, by omega, hn.2.1.2, hn.2.2⟩
theorem len62 {W : World} {A : Option Addr} {l : List S62} (h : Kd.C k62 W A l.length l) : ∀ f ∈ l, f.f1.length ≤ 9223372036854775807 := by
 intro r hr
 obtain ⟨j, hj, rfl⟩ := List.getElem_of_mem hr
 obtain ⟨ad2, A2, c2, _, _, _, _, hC2⟩ := at_T62 h (j : Int) (by omega) (by omega)
 rw [rdT62 l j hj] at hC2
 have := hC2.2.1
 omega
theorem isPiece55 (hB : HBook w A c l Ap cp ps) (a : Int) : Calls Tryd.prog 55 #[.agg #[.int .i64 g, .slice A l.length c, .slice Ap ps.length cp], .int .i64 a] w fun e w' => e = .returned (.bool (isIn a 0 ((ps.length : Int) - 1))) ∧ Fr0 w w' := by
 have h6 := C_len hB.r
 refine (saronref09_isPiece.calls g A c l Ap cp ps a _ w hB.bk.r hB.bk.c hB.r hB.c (by unfold saronref09_isPiece.f; rw [w64 (by omega) (by omega), sits_f]; rfl)).mono fun e w' h => ⟨h.1, mk_fr h.2⟩
theorem isNote56 (hN : Note w At ct t Ag cg gs) : Calls Tryd.prog 56 #[.agg #[.slice At t.length ct, .slice Ag gs.length cg, .int .i64 lost, .int .i64 wrong]] w fun e w' => e = .returned (.bool (noteB t gs lost wrong)) ∧ Fr0 w w' := by
 obtain ⟨K, hK⟩ := rnote_f t gs lost wrong (C_len hN.rt) (C_len hN.rg)
 exact (rN.calls K At ct t Ag cg gs lost wrong _ w hN.rt hN.ct hN.rg hN.cg (hK K (Nat.le_refl _))).mono fun e w' h => ⟨h.1, mk_fr h.2⟩
theorem asked54 (hB : HBook w A c l Ap cp ps) (ok : Bool) : Calls Tryd.prog 54 #[.agg #[.int .i64 g, .slice A l.length c, .slice Ap ps.length cp], .bool ok] w fun e w' => e = .returned (.int .i64 (askE g l ps ok)) ∧ Fr0 w w' := by
 obtain ⟨K, hK⟩ := hasked_f (g := g) (l := l) (ps := ps) (small_of hB) (C_len hB.r) (len62 hB.r) ok
 exact (saronref09_asked.calls K g A c l Ap cp ps ok _ w hB.bk.r hB.bk.c hB.r hB.c (hK K (Nat.le_refl _))).mono fun e w' h => ⟨h.1, mk_fr h.2⟩
set_option maxHeartbeats 16000000 in
set_option maxRecDepth 100000 in
theorem rfits15 (hB : HBook w A c l Ap cp ps) (hN : Note w At ct t Ag cg gs) :
  Calls Tryd.prog 15 #[.agg #[.int .i64 g, .slice A l.length c, .slice Ap ps.length cp], .int .i64 piece, .agg #[.slice At t.length ct, .slice Ag gs.length cg, .int .i64 lost, .int .i64 wrong]] w fun e w' => e = .returned (.tuple #[.bool (fitF g l ps piece t gs lost wrong).1, .int .i64 (fitF g l ps piece t gs lost wrong).2]) ∧ Fr0 w w' := by
 have HIP := Lib.hid (fun W (hf : Fr0 w W) => isPiece55 (g := g) (hB.fr hf) piece)
 have HIN := Lib.hid (fun W (hf : Fr0 w W) => isNote56 (lost := lost) (wrong := wrong) (hN.fr hf))
 have hok : okAsk ps piece t gs lost wrong = (isIn piece 0 ((ps.length : Int) - 1) && noteB t gs lost wrong) := rfl
 obtain ⟨E, hE⟩ : ∃ E, E = askE g l ps (okAsk ps piece t gs lost wrong) := ⟨_, rfl⟩
 have HAS0 := Lib.hid (fun W (hf : Fr0 w W) => asked54 (g := g) (hB.fr hf) (okAsk ps piece t gs lost wrong))
 rw [← hE] at HAS0
 have HR := Lib.hid (fun E (h : E = askE g l ps (okAsk ps piece t gs lost wrong)) (h0 : E ≠ 0) => show fitF g l ps piece t gs lost wrong = (false, E) by unfold fitF; rw [← h, if_neg h0])
 have hall : askE g l ps (okAsk ps piece t gs lost wrong) = 0 → TF g l ps piece t gs ∧ 1 ≤ t.length ∧ (0 ≤ lost ∧ lost ≤ 6) ∧ 0 ≤ wrong ∧ wrong ≤ 6 := fun h => by
  have h2 := askE_ok h
  have h3 := h2.2
  unfold okAsk at h3
  rw [Bool.and_eq_true, isIn_iff] at h3
  exact tf_of h2.1 h3.1.1 (by omega) h3.2 (C_len hN.rg)
 have HY := Lib.hid (fun (h : askE g l ps (okAsk ps piece t gs lost wrong) = 0) W (hf : Fr0 w W) => begins57 (lost := lost) (wrong := wrong) (hall h).1 (hall h).2.1 (hB.fr hf) (hN.fr hf) lost)
 have HR0 := Lib.hid (fun (h : askE g l ps (okAsk ps piece t gs lost wrong) = 0) => show fitF g l ps piece t gs lost wrong = (decide (0 < (lst (begR (cF l ps piece t gs) t.length (rd_T62 ps piece).f1.length wrong lost) (rd_T62 ps piece).f1.length).length), 0) by
  have h2 := hall h
  unfold fitF
  rw [if_pos h, fits_eq (g := g) (L := lost) h2.2.1 h2.2.2.1.1 (by omega)]
  rfl)
 clear hall
 have HB := Lib.hid hB
 have HN := Lib.hid hN
 have HEE := Lib.hid hE
 have hf0 : Fr0 w ((w.alloc (.cells #[.int .i64 g, .slice A l.length c, .slice Ap ps.length cp] 27)).alloc (.cells #[.slice At t.length ct, .slice Ag gs.length cg, .int .i64 lost, .int .i64 wrong] 30)) := ((Fr.refl _ _).alloc _).alloc _
 have c0 : Bx ((w.alloc (.cells #[.int .i64 g, .slice A l.length c, .slice Ap ps.length cp] 27)).alloc (.cells #[.slice At t.length ct, .slice Ag gs.length cg, .int .i64 lost, .int .i64 wrong] 30)) w.heap.size 27 #[.int .i64 g, .slice A l.length c, .slice Ap ps.length cp] := (Bx.of_new rfl).alloc _
 have d0 : Bx ((w.alloc (.cells #[.int .i64 g, .slice A l.length c, .slice Ap ps.length cp] 27)).alloc (.cells #[.slice At t.length ct, .slice Ag gs.length cg, .int .i64 lost, .int .i64 wrong] 30)) (w.heap.size + 1) 30 #[.slice At t.length ct, .slice Ag gs.length cg, .int .i64 lost, .int .i64 wrong] := Bx.of_new (by simp)
 clear hB hN hE
 go_enter Tryd.func15, Tryd.ntmps15
 go_upto_region 1 with fail
 generalize ((w.alloc (.cells #[.int .i64 g, .slice A l.length c, .slice Ap ps.length cp] 27)).alloc (.cells #[.slice At t.length ct, .slice Ag gs.length cg, .int .i64 lost, .int .i64 wrong] 30)) = W at hf0 c0 d0 ⊢
 generalize hbb : w.heap.size = b at c0 d0
 clear hbb
 have v0 := c0.at_ 0 (v := .int .i64 g) rfl
 have v1 := c0.at_ 1 (v := .slice A l.length c) rfl
 have v2 := c0.at_ 2 (v := .slice Ap ps.length cp) rfl
 have y0 := d0.at_ 0 (v := .slice At t.length ct) rfl
 have y1 := d0.at_ 1 (v := .slice Ag gs.length cg) rfl
 have y2 := d0.at_ 2 (v := .int .i64 lost) rfl
 have y3 := d0.at_ 3 (v := .int .i64 wrong) rfl
 have HF := Lib.hid hf0
 have HC0 := Lib.hid c0
 have HD0 := Lib.hid d0
 clear c0 d0
 have HIP := Lib.hid (fun W' (hf : Fr0 W W') => HIP.out W' (Fr0.trans HF.out hf))
 have HIN := Lib.hid (fun W' (hf : Fr0 W W') => HIN.out W' (Fr0.trans HF.out hf))
 have HAS := Lib.hid (fun W' (hf : Fr0 W W') => HAS0.out W' (Fr0.trans HF.out hf))
 clear hf0 HAS0
 have hcut : ∀ (K : Prop), K → K := fun _ h => h
 cases hP : isIn piece 0 ((ps.length : Int) - 1)
 ·rw [hP] at HIP hok
  rw [Bool.false_and] at hok
  rw [hok] at HAS
  clear hP hok HIN hcut
  refine start_ (n := 10) (S := fun w' => w'.cell? ⟨b, 0, none⟩ = some (.int .i64 g) ∧ w'.cell? ⟨b, 1, none⟩ = some (.slice A l.length c) ∧ w'.cell? ⟨b, 2, none⟩ = some (.slice Ap ps.length cp) ∧ w'.cell? ⟨b + 1, 0, none⟩ = some (.slice At t.length ct) ∧ w'.cell? ⟨b + 1, 1, none⟩ = some (.slice Ag gs.length cg) ∧ w'.cell? ⟨b + 1, 2, none⟩ = some (.int .i64 lost) ∧ w'.cell? ⟨b + 1, 3, none⟩ = some (.int .i64 wrong)) (ds := []) (.replicate 10 false) (by kernel_rfl) rfl rfl ⟨v0, v1, v2, y0, y1, y2, y3⟩ (fun hHeld => ?_)
  refine pu 2 11 (bt 10 4) (k := ?_)
  refine tk7 0 9 (bt 10 5) hHeld (k := ?_)
  refine tk7 1 10 (bt 10 7) hHeld (k := ?_)
  refine oN 3 12 (bt 10 15) (h := fun K hK => ?_)
  refine goes_ Tryd.func55 (by kernel_rfl) rfl #[.agg #[.int .i64 g, .slice A l.length c, .slice Ap ps.length cp], .int .i64 piece] (by rfl) rfl rfl TN ?_
  with_reducible refine (HIP.out _ (Fr.drew (Fr.refl _ W))).mono ?_
  rintro e W3 ⟨rfl, hf3⟩
  refine ⟨_, rfl, ?_⟩
  have H3 := Lib.hid (Fr0.trans (Fr.drew (Fr.refl _ W)) hf3)
  refine hK.out _ _ ⟨(H3.out.cell0 v0), (H3.out.cell0 v1), (H3.out.cell0 v2), (H3.out.cell0 y0), (H3.out.cell0 y1), (H3.out.cell0 y2), (H3.out.cell0 y3)⟩ (fun hHeld => ?_)
  clear hK K
  refine norm_ (a' := ?_) ?_ ?_
  rotate_left
  ·show Act.put _ (some 12) _ = _
   simp only [Act.put, lA, lZ, lS, i64_w, i32_w]
   rfl
  refine pu 4 13 (bt 10 31) (k := ?_)
  refine pv 5 14 (bt 10 63) (k := ?_)
  refine pv 6 15 (bt 10 127) (k := ?_)
  refine pu 7 16 (bt 10 255) (k := ?_)
  refine oN 8 17 (bt 10 511) (h := fun K hK => ?_)
  refine goes_ Tryd.func54 (by kernel_rfl) rfl #[.agg #[.int .i64 g, .slice A l.length c, .slice Ap ps.length cp], .bool false] (by rfl) rfl rfl TN ?_
  with_reducible refine (HAS.out _ H3.out).mono ?_
  rintro e W5 ⟨rfl, hf5⟩
  refine ⟨_, rfl, ?_⟩
  have H5 := Lib.hid (Fr0.trans H3.out hf5)
  refine hK.out _ _ ⟨(H5.out.cell0 v0), (H5.out.cell0 v1), (H5.out.cell0 v2), (H5.out.cell0 y0), (H5.out.cell0 y1), (H5.out.cell0 y2), (H5.out.cell0 y3)⟩ (fun hHeld => ?_)
  clear hK K
  refine norm_ (a' := ?_) ?_ ?_
  rotate_left
  ·show Act.put _ (some 17) _ = _
   simp only [Act.put, lA, lZ, lS, i64_w, i32_w]
   rfl
  refine pu 9 8 (bt 10 1023) (k := ?_)
  refine done_ (by kernel_rfl) ?_
  have HFW := Lib.hid (Fr0.trans HF.out H5.out)
  clear H3
  clear hHeld v0 v1 v2 y0 y1 y2 y3
  have v0 := (HC0.out.fr0 H5.out).at_ 0 (v := .int .i64 g) rfl
  have v1 := (HC0.out.fr0 H5.out).at_ 1 (v := .slice A l.length c) rfl
  have v2 := (HC0.out.fr0 H5.out).at_ 2 (v := .slice Ap ps.length cp) rfl
  have y0 := (HD0.out.fr0 H5.out).at_ 0 (v := .slice At t.length ct) rfl
  have y1 := (HD0.out.fr0 H5.out).at_ 1 (v := .slice Ag gs.length cg) rfl
  have y2 := (HD0.out.fr0 H5.out).at_ 2 (v := .int .i64 lost) rfl
  have y3 := (HD0.out.fr0 H5.out).at_ 3 (v := .int .i64 wrong) rfl
  by_cases hE0 : E = 0
  ·subst hE0
   have HBE := Lib.hid (HY.out HEE.out.symm _ HFW.out)
   have HRR := Lib.hid (HR0.out HEE.out.symm)
   generalize lst (begR (cF l ps piece t gs) t.length (rd_T62 ps piece).f1.length wrong lost) (rd_T62 ps piece).f1.length = L at *
   go_wp2_with (go_at_call 57; refine HBE.out.mono ?_; rintro e W6 ⟨v6, rfl, hR6, hf6⟩; obtain ⟨A6, c6, rfl, _, _⟩ := Kd.R_reads hR6; clear hR6; generalize L.length = k at *; rcases k with _ | k)
   ·refine bodyPost_ret (v := .tuple #[.bool false, .int .i64 0]) (by simp [results, Tryd.results15, go_sem]) rfl ⟨by rw [HRR.out]; rfl, Fr0.trans HFW.out hf6⟩
   ·refine bodyPost_ret (v := .tuple #[.bool true, .int .i64 0]) (by simp [results, Tryd.results15, go_sem]) rfl ⟨by rw [HRR.out]; simp, Fr0.trans HFW.out hf6⟩
  ·have hE2 : (E != 0) = true := by simpa using hE0
   clear hE0
   go_wp2
   refine bodyPost_ret (v := .tuple #[.bool false, .int .i64 E]) (by simp [results, Tryd.results15, go_sem]) rfl ⟨by rw [HR.out E HEE.out (by simpa using hE2)], HFW.out⟩
 ·rw [hP] at HIP hok
  rw [Bool.true_and] at hok
  rw [hok] at HAS
  generalize noteB t gs lost wrong = nb at *
  clear hP hcut hok
  refine start_ (n := 10) (S := fun w' => w'.cell? ⟨b, 0, none⟩ = some (.int .i64 g) ∧ w'.cell? ⟨b, 1, none⟩ = some (.slice A l.length c) ∧ w'.cell? ⟨b, 2, none⟩ = some (.slice Ap ps.length cp) ∧ w'.cell? ⟨b + 1, 0, none⟩ = some (.slice At t.length ct) ∧ w'.cell? ⟨b + 1, 1, none⟩ = some (.slice Ag gs.length cg) ∧ w'.cell? ⟨b + 1, 2, none⟩ = some (.int .i64 lost) ∧ w'.cell? ⟨b + 1, 3, none⟩ = some (.int .i64 wrong)) (ds := []) (.replicate 10 false) (by kernel_rfl) rfl rfl ⟨v0, v1, v2, y0, y1, y2, y3⟩ (fun hHeld => ?_)
  refine pu 2 11 (bt 10 4) (k := ?_)
  refine tk7 0 9 (bt 10 5) hHeld (k := ?_)
  refine tk7 1 10 (bt 10 7) hHeld (k := ?_)
  refine oN 3 12 (bt 10 15) (h := fun K hK => ?_)
  refine goes_ Tryd.func55 (by kernel_rfl) rfl #[.agg #[.int .i64 g, .slice A l.length c, .slice Ap ps.length cp], .int .i64 piece] (by rfl) rfl rfl TN ?_
  with_reducible refine (HIP.out _ (Fr.drew (Fr.refl _ W))).mono ?_
  rintro e W3 ⟨rfl, hf3⟩
  refine ⟨_, rfl, ?_⟩
  have H3 := Lib.hid (Fr0.trans (Fr.drew (Fr.refl _ W)) hf3)
  refine hK.out _ _ ⟨(H3.out.cell0 v0), (H3.out.cell0 v1), (H3.out.cell0 v2), (H3.out.cell0 y0), (H3.out.cell0 y1), (H3.out.cell0 y2), (H3.out.cell0 y3)⟩ (fun hHeld => ?_)
  clear hK K
  refine norm_ (a' := ?_) ?_ ?_
  rotate_left
  ·show Act.put _ (some 12) _ = _
   simp only [Act.put, lA, lZ, lS, i64_w, i32_w]
   rfl
  refine pu 4 13 (bt 10 31) (k := ?_)
  refine tk7 5 14 (bt 10 63) hHeld (k := ?_)
  refine oN 6 15 (bt 10 127) (h := fun K hK => ?_)
  refine goes_ Tryd.func56 (by kernel_rfl) rfl #[.agg #[.slice At t.length ct, .slice Ag gs.length cg, .int .i64 lost, .int .i64 wrong]] (by rfl) rfl rfl TN ?_
  with_reducible refine (HIN.out _ H3.out).mono ?_
  rintro e W4 ⟨rfl, hf4⟩
  refine ⟨_, rfl, ?_⟩
  have H4 := Lib.hid (Fr0.trans H3.out hf4)
  refine hK.out _ _ ⟨(H4.out.cell0 v0), (H4.out.cell0 v1), (H4.out.cell0 v2), (H4.out.cell0 y0), (H4.out.cell0 y1), (H4.out.cell0 y2), (H4.out.cell0 y3)⟩ (fun hHeld => ?_)
  clear hK K
  refine norm_ (a' := ?_) ?_ ?_
  rotate_left
  ·show Act.put _ (some 15) _ = _
   simp only [Act.put, lA, lZ, lS, i64_w, i32_w]
   rfl
  refine pu 7 16 (bt 10 255) (k := ?_)
  refine oN 8 17 (bt 10 511) (h := fun K hK => ?_)
  refine goes_ Tryd.func54 (by kernel_rfl) rfl #[.agg #[.int .i64 g, .slice A l.length c, .slice Ap ps.length cp], .bool nb] (by rfl) rfl rfl TN ?_
  with_reducible refine (HAS.out _ H4.out).mono ?_
  rintro e W5 ⟨rfl, hf5⟩
  refine ⟨_, rfl, ?_⟩
  have H5 := Lib.hid (Fr0.trans H4.out hf5)
  refine hK.out _ _ ⟨(H5.out.cell0 v0), (H5.out.cell0 v1), (H5.out.cell0 v2), (H5.out.cell0 y0), (H5.out.cell0 y1), (H5.out.cell0 y2), (H5.out.cell0 y3)⟩ (fun hHeld => ?_)
  clear hK K
  refine norm_ (a' := ?_) ?_ ?_
  rotate_left
  ·show Act.put _ (some 17) _ = _
   simp only [Act.put, lA, lZ, lS, i64_w, i32_w]
   rfl
  refine pu 9 8 (bt 10 1023) (k := ?_)
  refine done_ (by kernel_rfl) ?_
  have HFW := Lib.hid (Fr0.trans HF.out H5.out)
  clear H3 H4
  clear hHeld v0 v1 v2 y0 y1 y2 y3
  have v0 := (HC0.out.fr0 H5.out).at_ 0 (v := .int .i64 g) rfl
  have v1 := (HC0.out.fr0 H5.out).at_ 1 (v := .slice A l.length c) rfl
  have v2 := (HC0.out.fr0 H5.out).at_ 2 (v := .slice Ap ps.length cp) rfl
  have y0 := (HD0.out.fr0 H5.out).at_ 0 (v := .slice At t.length ct) rfl
  have y1 := (HD0.out.fr0 H5.out).at_ 1 (v := .slice Ag gs.length cg) rfl
  have y2 := (HD0.out.fr0 H5.out).at_ 2 (v := .int .i64 lost) rfl
  have y3 := (HD0.out.fr0 H5.out).at_ 3 (v := .int .i64 wrong) rfl
  by_cases hE0 : E = 0
  ·subst hE0
   have HBE := Lib.hid (HY.out HEE.out.symm _ HFW.out)
   have HRR := Lib.hid (HR0.out HEE.out.symm)
   generalize lst (begR (cF l ps piece t gs) t.length (rd_T62 ps piece).f1.length wrong lost) (rd_T62 ps piece).f1.length = L at *
   go_wp2_with (go_at_call 57; refine HBE.out.mono ?_; rintro e W6 ⟨v6, rfl, hR6, hf6⟩; obtain ⟨A6, c6, rfl, _, _⟩ := Kd.R_reads hR6; clear hR6; generalize L.length = k at *; rcases k with _ | k)
   ·refine bodyPost_ret (v := .tuple #[.bool false, .int .i64 0]) (by simp [results, Tryd.results15, go_sem]) rfl ⟨by rw [HRR.out]; rfl, Fr0.trans HFW.out hf6⟩
   ·refine bodyPost_ret (v := .tuple #[.bool true, .int .i64 0]) (by simp [results, Tryd.results15, go_sem]) rfl ⟨by rw [HRR.out]; simp, Fr0.trans HFW.out hf6⟩
  ·have hE2 : (E != 0) = true := by simpa using hE0
   clear hE0
   go_wp2
   refine bodyPost_ret (v := .tuple #[.bool false, .int .i64 E]) (by simp [results, Tryd.results15, go_sem]) rfl ⟨by rw [HR.out E HEE.out (by simpa using hE2)], HFW.out⟩
set_option maxHeartbeats 16000000 in
set_option maxRecDepth 100000 in
theorem rbegins22 (hB : HBook w A c l Ap cp ps) (hN : Note w At ct t Ag cg gs) :
  Calls Tryd.prog 22 #[.agg #[.int .i64 g, .slice A l.length c, .slice Ap ps.length cp], .int .i64 piece, .agg #[.slice At t.length ct, .slice Ag gs.length cg, .int .i64 lost, .int .i64 wrong]] w fun e w' => ∃ v, e = .returned (.tuple #[v, .int .i64 (stroF g l ps piece t gs lost wrong 0).2]) ∧ Kd.R (Kd.int .i64) 3 w' w.heap.size (fun _ => True) v (stroF g l ps piece t gs lost wrong 0).1 ∧ Fr0 w w' := by
 have HIP := Lib.hid (fun W (hf : Fr0 w W) => isPiece55 (g := g) (hB.fr hf) piece)
 have HIN := Lib.hid (fun W (hf : Fr0 w W) => isNote56 (lost := lost) (wrong := wrong) (hN.fr hf))
 have hok : okAsk ps piece t gs lost wrong = (isIn piece 0 ((ps.length : Int) - 1) && noteB t gs lost wrong) := rfl
 obtain ⟨E, hE⟩ : ∃ E, E = askE g l ps (okAsk ps piece t gs lost wrong) := ⟨_, rfl⟩
 have HAS0 := Lib.hid (fun W (hf : Fr0 w W) => asked54 (g := g) (hB.fr hf) (okAsk ps piece t gs lost wrong))
 rw [← hE] at HAS0
 have HR := Lib.hid (fun E (h : E = askE g l ps (okAsk ps piece t gs lost wrong)) (h0 : E ≠ 0) => show stroF g l ps piece t gs lost wrong 0 = ([], E) by unfold stroF; rw [← h, if_neg h0])
 have hall : askE g l ps (okAsk ps piece t gs lost wrong) = 0 → TF g l ps piece t gs ∧ 1 ≤ t.length ∧ (0 ≤ lost ∧ lost ≤ 6) ∧ 0 ≤ wrong ∧ wrong ≤ 6 := fun h => by
  have h2 := askE_ok h
  have h3 := h2.2
  unfold okAsk at h3
  rw [Bool.and_eq_true, isIn_iff] at h3
  exact tf_of h2.1 h3.1.1 (by omega) h3.2 (C_len hN.rg)
 have HY := Lib.hid (fun (h : askE g l ps (okAsk ps piece t gs lost wrong) = 0) W (hf : Fr0 w W) => begins57 (lost := lost) (wrong := wrong) (hall h).1 (hall h).2.1 (hB.fr hf) (hN.fr hf) lost)
 have HR0 := Lib.hid (fun (h : askE g l ps (okAsk ps piece t gs lost wrong) = 0) => show stroF g l ps piece t gs lost wrong 0 = (lst (begR (cF l ps piece t gs) t.length (rd_T62 ps piece).f1.length wrong lost) (rd_T62 ps piece).f1.length, 0) by
  have h2 := hall h
  have pp := ppiece_f h2.1.ok h2.1.p0 h2.1.p1
  unfold stroF
  rw [if_pos h, if_pos (isIn_iff.2 (by omega)), str0_eq (g := g) h2.2.1 h2.2.2.1.1 (by omega) (by omega)]
  rfl)
 clear hall
 have HB := Lib.hid hB
 have HN := Lib.hid hN
 have HEE := Lib.hid hE
 have hf0 : Fr0 w ((w.alloc (.cells #[.int .i64 g, .slice A l.length c, .slice Ap ps.length cp] 27)).alloc (.cells #[.slice At t.length ct, .slice Ag gs.length cg, .int .i64 lost, .int .i64 wrong] 30)) := ((Fr.refl _ _).alloc _).alloc _
 have c0 : Bx ((w.alloc (.cells #[.int .i64 g, .slice A l.length c, .slice Ap ps.length cp] 27)).alloc (.cells #[.slice At t.length ct, .slice Ag gs.length cg, .int .i64 lost, .int .i64 wrong] 30)) w.heap.size 27 #[.int .i64 g, .slice A l.length c, .slice Ap ps.length cp] := (Bx.of_new rfl).alloc _
 have d0 : Bx ((w.alloc (.cells #[.int .i64 g, .slice A l.length c, .slice Ap ps.length cp] 27)).alloc (.cells #[.slice At t.length ct, .slice Ag gs.length cg, .int .i64 lost, .int .i64 wrong] 30)) (w.heap.size + 1) 30 #[.slice At t.length ct, .slice Ag gs.length cg, .int .i64 lost, .int .i64 wrong] := Bx.of_new (by simp)
 clear hB hN hE
 go_enter Tryd.func22, Tryd.ntmps22
 go_upto_region 1 with fail
 generalize ((w.alloc (.cells #[.int .i64 g, .slice A l.length c, .slice Ap ps.length cp] 27)).alloc (.cells #[.slice At t.length ct, .slice Ag gs.length cg, .int .i64 lost, .int .i64 wrong] 30)) = W at hf0 c0 d0 ⊢
 generalize hbb : w.heap.size = b at c0 d0
 clear hbb
 have v0 := c0.at_ 0 (v := .int .i64 g) rfl
 have v1 := c0.at_ 1 (v := .slice A l.length c) rfl
 have v2 := c0.at_ 2 (v := .slice Ap ps.length cp) rfl
 have y0 := d0.at_ 0 (v := .slice At t.length ct) rfl
 have y1 := d0.at_ 1 (v := .slice Ag gs.length cg) rfl
 have y2 := d0.at_ 2 (v := .int .i64 lost) rfl
 have y3 := d0.at_ 3 (v := .int .i64 wrong) rfl
 have HF := Lib.hid hf0
 have HC0 := Lib.hid c0
 have HD0 := Lib.hid d0
 clear c0 d0
 have HIP := Lib.hid (fun W' (hf : Fr0 W W') => HIP.out W' (Fr0.trans HF.out hf))
 have HIN := Lib.hid (fun W' (hf : Fr0 W W') => HIN.out W' (Fr0.trans HF.out hf))
 have HAS := Lib.hid (fun W' (hf : Fr0 W W') => HAS0.out W' (Fr0.trans HF.out hf))
 clear hf0 HAS0
 have hcut : ∀ (K : Prop), K → K := fun _ h => h
 cases hP : isIn piece 0 ((ps.length : Int) - 1)
 ·rw [hP] at HIP hok
  rw [Bool.false_and] at hok
  rw [hok] at HAS
  clear hP hok HIN hcut
  refine start_ (n := 10) (S := fun w' => w'.cell? ⟨b, 0, none⟩ = some (.int .i64 g) ∧ w'.cell? ⟨b, 1, none⟩ = some (.slice A l.length c) ∧ w'.cell? ⟨b, 2, none⟩ = some (.slice Ap ps.length cp) ∧ w'.cell? ⟨b + 1, 0, none⟩ = some (.slice At t.length ct) ∧ w'.cell? ⟨b + 1, 1, none⟩ = some (.slice Ag gs.length cg) ∧ w'.cell? ⟨b + 1, 2, none⟩ = some (.int .i64 lost) ∧ w'.cell? ⟨b + 1, 3, none⟩ = some (.int .i64 wrong)) (ds := []) (.replicate 10 false) (by kernel_rfl) rfl rfl ⟨v0, v1, v2, y0, y1, y2, y3⟩ (fun hHeld => ?_)
  refine pu 2 11 (bt 10 4) (k := ?_)
  refine tk7 0 9 (bt 10 5) hHeld (k := ?_)
  refine tk7 1 10 (bt 10 7) hHeld (k := ?_)
  refine oN 3 12 (bt 10 15) (h := fun K hK => ?_)
  refine goes_ Tryd.func55 (by kernel_rfl) rfl #[.agg #[.int .i64 g, .slice A l.length c, .slice Ap ps.length cp], .int .i64 piece] (by rfl) rfl rfl TN ?_
  with_reducible refine (HIP.out _ (Fr.drew (Fr.refl _ W))).mono ?_
  rintro e W3 ⟨rfl, hf3⟩
  refine ⟨_, rfl, ?_⟩
  have H3 := Lib.hid (Fr0.trans (Fr.drew (Fr.refl _ W)) hf3)
  refine hK.out _ _ ⟨(H3.out.cell0 v0), (H3.out.cell0 v1), (H3.out.cell0 v2), (H3.out.cell0 y0), (H3.out.cell0 y1), (H3.out.cell0 y2), (H3.out.cell0 y3)⟩ (fun hHeld => ?_)
  clear hK K
  refine norm_ (a' := ?_) ?_ ?_
  rotate_left
  ·show Act.put _ (some 12) _ = _
   simp only [Act.put, lA, lZ, lS, i64_w, i32_w]
   rfl
  refine pu 4 13 (bt 10 31) (k := ?_)
  refine pv 5 14 (bt 10 63) (k := ?_)
  refine pv 6 15 (bt 10 127) (k := ?_)
  refine pu 7 16 (bt 10 255) (k := ?_)
  refine oN 8 17 (bt 10 511) (h := fun K hK => ?_)
  refine goes_ Tryd.func54 (by kernel_rfl) rfl #[.agg #[.int .i64 g, .slice A l.length c, .slice Ap ps.length cp], .bool false] (by rfl) rfl rfl TN ?_
  with_reducible refine (HAS.out _ H3.out).mono ?_
  rintro e W5 ⟨rfl, hf5⟩
  refine ⟨_, rfl, ?_⟩
  have H5 := Lib.hid (Fr0.trans H3.out hf5)
  refine hK.out _ _ ⟨(H5.out.cell0 v0), (H5.out.cell0 v1), (H5.out.cell0 v2), (H5.out.cell0 y0), (H5.out.cell0 y1), (H5.out.cell0 y2), (H5.out.cell0 y3)⟩ (fun hHeld => ?_)
  clear hK K
  refine norm_ (a' := ?_) ?_ ?_
  rotate_left
  ·show Act.put _ (some 17) _ = _
   simp only [Act.put, lA, lZ, lS, i64_w, i32_w]
   rfl
  refine pu 9 8 (bt 10 1023) (k := ?_)
  refine done_ (by kernel_rfl) ?_
  have HFW := Lib.hid (Fr0.trans HF.out H5.out)
  clear H3
  clear hHeld v0 v1 v2 y0 y1 y2 y3
  have v0 := (HC0.out.fr0 H5.out).at_ 0 (v := .int .i64 g) rfl
  have v1 := (HC0.out.fr0 H5.out).at_ 1 (v := .slice A l.length c) rfl
  have v2 := (HC0.out.fr0 H5.out).at_ 2 (v := .slice Ap ps.length cp) rfl
  have y0 := (HD0.out.fr0 H5.out).at_ 0 (v := .slice At t.length ct) rfl
  have y1 := (HD0.out.fr0 H5.out).at_ 1 (v := .slice Ag gs.length cg) rfl
  have y2 := (HD0.out.fr0 H5.out).at_ 2 (v := .int .i64 lost) rfl
  have y3 := (HD0.out.fr0 H5.out).at_ 3 (v := .int .i64 wrong) rfl
  by_cases hE0 : E = 0
  ·subst hE0
   have HBE := Lib.hid (HY.out HEE.out.symm _ HFW.out)
   have HRR := Lib.hid (HR0.out HEE.out.symm)
   generalize lst (begR (cF l ps piece t gs) t.length (rd_T62 ps piece).f1.length wrong lost) (rd_T62 ps piece).f1.length = L at *
   go_wp2_with (go_at_call 57; refine HBE.out.mono ?_; rintro e W6 ⟨v6, rfl, hR6, hf6⟩; (have HR6 := Lib.hid hR6); clear hR6)
   refine bodyPost_ret (v := .tuple #[v6, .int .i64 0]) (by simp [results, Tryd.results22, go_sem]) rfl ⟨_, by rw [HRR.out], by rw [HRR.out]; exact Kd.R_lower HR6.out HFW.out.size, Fr0.trans HFW.out hf6⟩
  ·have hE2 : (E != 0) = true := by simpa using hE0
   clear hE0
   go_wp2
   refine bodyPost_ret (v := .tuple #[.slice none 0 0, .int .i64 E]) (by simp [results, Tryd.results22, go_sem]) rfl ⟨_, by rw [HR.out E HEE.out (by simpa using hE2)], by rw [HR.out E HEE.out (by simpa using hE2)]; exact Kd.R_nil _ _ _ _ _, HFW.out⟩
 ·rw [hP] at HIP hok
  rw [Bool.true_and] at hok
  rw [hok] at HAS
  generalize noteB t gs lost wrong = nb at *
  clear hP hcut hok
  refine start_ (n := 10) (S := fun w' => w'.cell? ⟨b, 0, none⟩ = some (.int .i64 g) ∧ w'.cell? ⟨b, 1, none⟩ = some (.slice A l.length c) ∧ w'.cell? ⟨b, 2, none⟩ = some (.slice Ap ps.length cp) ∧ w'.cell? ⟨b + 1, 0, none⟩ = some (.slice At t.length ct) ∧ w'.cell? ⟨b + 1, 1, none⟩ = some (.slice Ag gs.length cg) ∧ w'.cell? ⟨b + 1, 2, none⟩ = some (.int .i64 lost) ∧ w'.cell? ⟨b + 1, 3, none⟩ = some (.int .i64 wrong)) (ds := []) (.replicate 10 false) (by kernel_rfl) rfl rfl ⟨v0, v1, v2, y0, y1, y2, y3⟩ (fun hHeld => ?_)
  refine pu 2 11 (bt 10 4) (k := ?_)
  refine tk7 0 9 (bt 10 5) hHeld (k := ?_)
  refine tk7 1 10 (bt 10 7) hHeld (k := ?_)
  refine oN 3 12 (bt 10 15) (h := fun K hK => ?_)
  refine goes_ Tryd.func55 (by kernel_rfl) rfl #[.agg #[.int .i64 g, .slice A l.length c, .slice Ap ps.length cp], .int .i64 piece] (by rfl) rfl rfl TN ?_
  with_reducible refine (HIP.out _ (Fr.drew (Fr.refl _ W))).mono ?_
  rintro e W3 ⟨rfl, hf3⟩
  refine ⟨_, rfl, ?_⟩
  have H3 := Lib.hid (Fr0.trans (Fr.drew (Fr.refl _ W)) hf3)
  refine hK.out _ _ ⟨(H3.out.cell0 v0), (H3.out.cell0 v1), (H3.out.cell0 v2), (H3.out.cell0 y0), (H3.out.cell0 y1), (H3.out.cell0 y2), (H3.out.cell0 y3)⟩ (fun hHeld => ?_)
  clear hK K
  refine norm_ (a' := ?_) ?_ ?_
  rotate_left
  ·show Act.put _ (some 12) _ = _
   simp only [Act.put, lA, lZ, lS, i64_w, i32_w]
   rfl
  refine pu 4 13 (bt 10 31) (k := ?_)
  refine tk7 5 14 (bt 10 63) hHeld (k := ?_)
  refine oN 6 15 (bt 10 127) (h := fun K hK => ?_)
  refine goes_ Tryd.func56 (by kernel_rfl) rfl #[.agg #[.slice At t.length ct, .slice Ag gs.length cg, .int .i64 lost, .int .i64 wrong]] (by rfl) rfl rfl TN ?_
  with_reducible refine (HIN.out _ H3.out).mono ?_
  rintro e W4 ⟨rfl, hf4⟩
  refine ⟨_, rfl, ?_⟩
  have H4 := Lib.hid (Fr0.trans H3.out hf4)
  refine hK.out _ _ ⟨(H4.out.cell0 v0), (H4.out.cell0 v1), (H4.out.cell0 v2), (H4.out.cell0 y0), (H4.out.cell0 y1), (H4.out.cell0 y2), (H4.out.cell0 y3)⟩ (fun hHeld => ?_)
  clear hK K
  refine norm_ (a' := ?_) ?_ ?_
  rotate_left
  ·show Act.put _ (some 15) _ = _
   simp only [Act.put, lA, lZ, lS, i64_w, i32_w]
   rfl
  refine pu 7 16 (bt 10 255) (k := ?_)
  refine oN 8 17 (bt 10 511) (h := fun K hK => ?_)
  refine goes_ Tryd.func54 (by kernel_rfl) rfl #[.agg #[.int .i64 g, .slice A l.length c, .slice Ap ps.length cp], .bool nb] (by rfl) rfl rfl TN ?_
  with_reducible refine (HAS.out _ H4.out).mono ?_
  rintro e W5 ⟨rfl, hf5⟩
  refine ⟨_, rfl, ?_⟩
  have H5 := Lib.hid (Fr0.trans H4.out hf5)
  refine hK.out _ _ ⟨(H5.out.cell0 v0), (H5.out.cell0 v1), (H5.out.cell0 v2), (H5.out.cell0 y0), (H5.out.cell0 y1), (H5.out.cell0 y2), (H5.out.cell0 y3)⟩ (fun hHeld => ?_)
  clear hK K
  refine norm_ (a' := ?_) ?_ ?_
  rotate_left
  ·show Act.put _ (some 17) _ = _
   simp only [Act.put, lA, lZ, lS, i64_w, i32_w]
   rfl
  refine pu 9 8 (bt 10 1023) (k := ?_)
  refine done_ (by kernel_rfl) ?_
  have HFW := Lib.hid (Fr0.trans HF.out H5.out)
  clear H3 H4
  clear hHeld v0 v1 v2 y0 y1 y2 y3
  have v0 := (HC0.out.fr0 H5.out).at_ 0 (v := .int .i64 g) rfl
  have v1 := (HC0.out.fr0 H5.out).at_ 1 (v := .slice A l.length c) rfl
  have v2 := (HC0.out.fr0 H5.out).at_ 2 (v := .slice Ap ps.length cp) rfl
  have y0 := (HD0.out.fr0 H5.out).at_ 0 (v := .slice At t.length ct) rfl
  have y1 := (HD0.out.fr0 H5.out).at_ 1 (v := .slice Ag gs.length cg) rfl
  have y2 := (HD0.out.fr0 H5.out).at_ 2 (v := .int .i64 lost) rfl
  have y3 := (HD0.out.fr0 H5.out).at_ 3 (v := .int .i64 wrong) rfl
  by_cases hE0 : E = 0
  ·subst hE0
   have HBE := Lib.hid (HY.out HEE.out.symm _ HFW.out)
   have HRR := Lib.hid (HR0.out HEE.out.symm)
   generalize lst (begR (cF l ps piece t gs) t.length (rd_T62 ps piece).f1.length wrong lost) (rd_T62 ps piece).f1.length = L at *
   go_wp2_with (go_at_call 57; refine HBE.out.mono ?_; rintro e W6 ⟨v6, rfl, hR6, hf6⟩; (have HR6 := Lib.hid hR6); clear hR6)
   refine bodyPost_ret (v := .tuple #[v6, .int .i64 0]) (by simp [results, Tryd.results22, go_sem]) rfl ⟨_, by rw [HRR.out], by rw [HRR.out]; exact Kd.R_lower HR6.out HFW.out.size, Fr0.trans HFW.out hf6⟩
  ·have hE2 : (E != 0) = true := by simpa using hE0
   clear hE0
   go_wp2
   refine bodyPost_ret (v := .tuple #[.slice none 0 0, .int .i64 E]) (by simp [results, Tryd.results22, go_sem]) rfl ⟨_, by rw [HR.out E HEE.out (by simpa using hE2)], by rw [HR.out E HEE.out (by simpa using hE2)]; exact Kd.R_nil _ _ _ _ _, HFW.out⟩
theorem fits24 (h : TF g l ps piece t gs) (ht : 1 ≤ t.length) (hw : wrong < 1000) (h2 : (hcx g l ps piece t gs lost wrong).fitsB 24 = true) : (hcx g l ps piece t gs lost wrong).fitsB 23 = true := by
 have pp := ppiece_f h.ok h.p0 h.p1
 obtain ⟨f, e, h1, h3, h4, h5⟩ := (fitsB_iff (x := hcx g l ps piece t gs lost wrong) ht (by omega) hw).1 h2
 have ep : (hcx g l ps piece t gs lost wrong).p.length = (rd_T62 ps piece).f1.length := rfl
 have et : (hcx g l ps piece t gs lost wrong).t.length = t.length := rfl
 exact (fitsB_iff (x := hcx g l ps piece t gs lost wrong) ht (by omega) hw).2 ⟨f, e, h1, h3, by omega, h5⟩
set_option maxHeartbeats 16000000 in
set_option maxRecDepth 100000 in
theorem rleast24 (hB : HBook w A c l Ap cp ps) (hN : Note w At ct t Ag cg gs) :
  Calls Tryd.prog 24 #[.agg #[.int .i64 g, .slice A l.length c, .slice Ap ps.length cp], .int .i64 piece, .agg #[.slice At t.length ct, .slice Ag gs.length cg, .int .i64 lost, .int .i64 wrong]] w fun e w' => e = .returned (.tuple #[.int .i64 (leaF g l ps piece t gs lost wrong).1, .int .i64 (leaF g l ps piece t gs lost wrong).2]) ∧ Fr0 w w' := by
 have HIP := Lib.hid (fun W (hf : Fr0 w W) => isPiece55 (g := g) (hB.fr hf) piece)
 have HIN := Lib.hid (fun W (hf : Fr0 w W) => isNote56 (lost := lost) (wrong := wrong) (hN.fr hf))
 have hok : okAsk ps piece t gs lost wrong = (isIn piece 0 ((ps.length : Int) - 1) && noteB t gs lost wrong) := rfl
 obtain ⟨E, hE⟩ : ∃ E, E = askE g l ps (okAsk ps piece t gs lost wrong) := ⟨_, rfl⟩
 have HAS0 := Lib.hid (fun W (hf : Fr0 w W) => asked54 (g := g) (hB.fr hf) (okAsk ps piece t gs lost wrong))
 rw [← hE] at HAS0
 have HR := Lib.hid (fun E (h : E = askE g l ps (okAsk ps piece t gs lost wrong)) (h0 : E ≠ 0) => show leaF g l ps piece t gs lost wrong = (0, E) by unfold leaF; rw [← h, if_neg h0])
 have hall : askE g l ps (okAsk ps piece t gs lost wrong) = 0 → TF g l ps piece t gs ∧ 1 ≤ t.length ∧ (0 ≤ lost ∧ lost ≤ 6) ∧ 0 ≤ wrong ∧ wrong ≤ 6 := fun h => by
  have h2 := askE_ok h
  have h3 := h2.2
  unfold okAsk at h3
  rw [Bool.and_eq_true, isIn_iff] at h3
  exact tf_of h2.1 h3.1.1 (by omega) h3.2 (C_len hN.rg)
 have HY := Lib.hid (fun (h : askE g l ps (okAsk ps piece t gs lost wrong) = 0) W (hf : Fr0 w W) (k : Nat) => begins57 (lost := lost) (wrong := wrong) (hall h).1 (hall h).2.1 (hB.fr hf) (hN.fr hf) (k : Int))
 have HR0 := Lib.hid (fun (h : askE g l ps (okAsk ps piece t gs lost wrong) = 0) => show leaF g l ps piece t gs lost wrong = leaG (hcx g l ps piece t gs lost wrong) by unfold leaF; rw [if_pos h]; rfl)
 have HFQ := Lib.hid (fun (h : askE g l ps (okAsk ps piece t gs lost wrong) = 0) (k : Nat) => fits_eq (g := g) (l := l) (ps := ps) (piece := piece) (gs := gs) (L := lost) (lost := (k : Int)) (hall h).2.1 (by omega) (show wrong < 100 by have := (hall h).2.2; omega))
 have HF24 := Lib.hid (fun (h : askE g l ps (okAsk ps piece t gs lost wrong) = 0) => fits24 (g := g) (lost := lost) (hall h).1 (hall h).2.1 (show wrong < 1000 by have := (hall h).2.2; omega))
 clear hall
 have HB := Lib.hid hB
 have HN := Lib.hid hN
 have HEE := Lib.hid hE
 have hf0 : Fr0 w ((w.alloc (.cells #[.int .i64 g, .slice A l.length c, .slice Ap ps.length cp] 27)).alloc (.cells #[.slice At t.length ct, .slice Ag gs.length cg, .int .i64 lost, .int .i64 wrong] 30)) := ((Fr.refl _ _).alloc _).alloc _
 have c0 : Bx ((w.alloc (.cells #[.int .i64 g, .slice A l.length c, .slice Ap ps.length cp] 27)).alloc (.cells #[.slice At t.length ct, .slice Ag gs.length cg, .int .i64 lost, .int .i64 wrong] 30)) w.heap.size 27 #[.int .i64 g, .slice A l.length c, .slice Ap ps.length cp] := (Bx.of_new rfl).alloc _
 have d0 : Bx ((w.alloc (.cells #[.int .i64 g, .slice A l.length c, .slice Ap ps.length cp] 27)).alloc (.cells #[.slice At t.length ct, .slice Ag gs.length cg, .int .i64 lost, .int .i64 wrong] 30)) (w.heap.size + 1) 30 #[.slice At t.length ct, .slice Ag gs.length cg, .int .i64 lost, .int .i64 wrong] := Bx.of_new (by simp)
 clear hB hN hE
 go_enter Tryd.func24, Tryd.ntmps24
 go_upto_region 1 with fail
 generalize ((w.alloc (.cells #[.int .i64 g, .slice A l.length c, .slice Ap ps.length cp] 27)).alloc (.cells #[.slice At t.length ct, .slice Ag gs.length cg, .int .i64 lost, .int .i64 wrong] 30)) = W at hf0 c0 d0 ⊢
 generalize hbb : w.heap.size = b at c0 d0
 clear hbb
 have v0 := c0.at_ 0 (v := .int .i64 g) rfl
 have v1 := c0.at_ 1 (v := .slice A l.length c) rfl
 have v2 := c0.at_ 2 (v := .slice Ap ps.length cp) rfl
 have y0 := d0.at_ 0 (v := .slice At t.length ct) rfl
 have y1 := d0.at_ 1 (v := .slice Ag gs.length cg) rfl
 have y2 := d0.at_ 2 (v := .int .i64 lost) rfl
 have y3 := d0.at_ 3 (v := .int .i64 wrong) rfl
 have HF := Lib.hid hf0
 have HC0 := Lib.hid c0
 have HD0 := Lib.hid d0
 clear c0 d0
 have HIP := Lib.hid (fun W' (hf : Fr0 W W') => HIP.out W' (Fr0.trans HF.out hf))
 have HIN := Lib.hid (fun W' (hf : Fr0 W W') => HIN.out W' (Fr0.trans HF.out hf))
 have HAS := Lib.hid (fun W' (hf : Fr0 W W') => HAS0.out W' (Fr0.trans HF.out hf))
 clear hf0 HAS0
 have hcut : ∀ (K : Prop), K → K := fun _ h => h
 cases hP : isIn piece 0 ((ps.length : Int) - 1)
 ·rw [hP] at HIP hok
  rw [Bool.false_and] at hok
  rw [hok] at HAS
  clear hP hok HIN hcut
  refine start_ (n := 10) (S := fun w' => w'.cell? ⟨b, 0, none⟩ = some (.int .i64 g) ∧ w'.cell? ⟨b, 1, none⟩ = some (.slice A l.length c) ∧ w'.cell? ⟨b, 2, none⟩ = some (.slice Ap ps.length cp) ∧ w'.cell? ⟨b + 1, 0, none⟩ = some (.slice At t.length ct) ∧ w'.cell? ⟨b + 1, 1, none⟩ = some (.slice Ag gs.length cg) ∧ w'.cell? ⟨b + 1, 2, none⟩ = some (.int .i64 lost) ∧ w'.cell? ⟨b + 1, 3, none⟩ = some (.int .i64 wrong)) (ds := []) (.replicate 10 false) (by kernel_rfl) rfl rfl ⟨v0, v1, v2, y0, y1, y2, y3⟩ (fun hHeld => ?_)
  refine pu 2 12 (bt 10 4) (k := ?_)
  refine tk7 0 10 (bt 10 5) hHeld (k := ?_)
  refine tk7 1 11 (bt 10 7) hHeld (k := ?_)
  refine oN 3 13 (bt 10 15) (h := fun K hK => ?_)
  refine goes_ Tryd.func55 (by kernel_rfl) rfl #[.agg #[.int .i64 g, .slice A l.length c, .slice Ap ps.length cp], .int .i64 piece] (by rfl) rfl rfl TN ?_
  with_reducible refine (HIP.out _ (Fr.drew (Fr.refl _ W))).mono ?_
  rintro e W3 ⟨rfl, hf3⟩
  refine ⟨_, rfl, ?_⟩
  have H3 := Lib.hid (Fr0.trans (Fr.drew (Fr.refl _ W)) hf3)
  refine hK.out _ _ ⟨(H3.out.cell0 v0), (H3.out.cell0 v1), (H3.out.cell0 v2), (H3.out.cell0 y0), (H3.out.cell0 y1), (H3.out.cell0 y2), (H3.out.cell0 y3)⟩ (fun hHeld => ?_)
  clear hK K
  refine norm_ (a' := ?_) ?_ ?_
  rotate_left
  ·show Act.put _ (some 13) _ = _
   simp only [Act.put, lA, lZ, lS, i64_w, i32_w]
   rfl
  refine pu 4 14 (bt 10 31) (k := ?_)
  refine pv 5 15 (bt 10 63) (k := ?_)
  refine pv 6 16 (bt 10 127) (k := ?_)
  refine pu 7 17 (bt 10 255) (k := ?_)
  refine oN 8 18 (bt 10 511) (h := fun K hK => ?_)
  refine goes_ Tryd.func54 (by kernel_rfl) rfl #[.agg #[.int .i64 g, .slice A l.length c, .slice Ap ps.length cp], .bool false] (by rfl) rfl rfl TN ?_
  with_reducible refine (HAS.out _ H3.out).mono ?_
  rintro e W5 ⟨rfl, hf5⟩
  refine ⟨_, rfl, ?_⟩
  have H5 := Lib.hid (Fr0.trans H3.out hf5)
  refine hK.out _ _ ⟨(H5.out.cell0 v0), (H5.out.cell0 v1), (H5.out.cell0 v2), (H5.out.cell0 y0), (H5.out.cell0 y1), (H5.out.cell0 y2), (H5.out.cell0 y3)⟩ (fun hHeld => ?_)
  clear hK K
  refine norm_ (a' := ?_) ?_ ?_
  rotate_left
  ·show Act.put _ (some 18) _ = _
   simp only [Act.put, lA, lZ, lS, i64_w, i32_w]
   rfl
  refine pu 9 8 (bt 10 1023) (k := ?_)
  refine done_ (by kernel_rfl) ?_
  have HFW := Lib.hid (Fr0.trans HF.out H5.out)
  clear H3
  clear hHeld v0 v1 v2 y0 y1 y2 y3
  have v0 := (HC0.out.fr0 H5.out).at_ 0 (v := .int .i64 g) rfl
  have v1 := (HC0.out.fr0 H5.out).at_ 1 (v := .slice A l.length c) rfl
  have v2 := (HC0.out.fr0 H5.out).at_ 2 (v := .slice Ap ps.length cp) rfl
  have y0 := (HD0.out.fr0 H5.out).at_ 0 (v := .slice At t.length ct) rfl
  have y1 := (HD0.out.fr0 H5.out).at_ 1 (v := .slice Ag gs.length cg) rfl
  have y2 := (HD0.out.fr0 H5.out).at_ 2 (v := .int .i64 lost) rfl
  have y3 := (HD0.out.fr0 H5.out).at_ 3 (v := .int .i64 wrong) rfl
  by_cases hE0 : E = 0
  ·subst hE0
   have HRR := Lib.hid (HR0.out HEE.out.symm)
   have HY2 := Lib.hid (HY.out HEE.out.symm)
   have HFE := Lib.hid (HFQ.out HEE.out.symm)
   have H24 := Lib.hid (HF24.out HEE.out.symm)
   have HLG := Lib.hid (leaG_at (hcx g l ps piece t gs lost wrong))
   generalize leaG (hcx g l ps piece t gs lost wrong) = LG at *
   generalize (hcx g l ps piece t gs lost wrong).fitsB = FB at *
   go_wp2
   clear v0 v1 v2 y0 y1 y2 y3
   go_loopw [9] (fun v9 wr => ∃ k : Nat, k ≤ 25 ∧ v9 = .int .i64 k ∧ (∀ j : Nat, j < k → FB (j : Int) = false) ∧ Fr0 W5 wr) (fun v9 _ => (25 - intOf v9).toNat)
   case atStart => exact ⟨0, by omega, by rfl, fun j hj => absurd hj (Nat.not_lt_zero _), Fr.refl _ _⟩
   case round =>
    obtain ⟨k, hk, rfl, hj, hf⟩ := hrel
    have HFr := Lib.hid hf
    have HJ := Lib.hid hj
    clear hf hj
    by_cases hlt : k ≤ 24
    ·have hle : (k : Int) ≤ 24 := by omega
     have HBE := Lib.hid (HY2.out _ (Fr0.trans HFW.out HFr.out) k)
     have HFk := Lib.hid (HFE.out k)
     have HLT := Lib.hid hlt
     have HCw := Lib.hid (HC0.out.fr0 (Fr0.trans H5.out HFr.out))
     have HDw := Lib.hid (HD0.out.fr0 (Fr0.trans H5.out HFr.out))
     have v0 := HCw.out.at_ 0 (v := .int .i64 g) rfl
     have v1 := HCw.out.at_ 1 (v := .slice A l.length c) rfl
     have v2 := HCw.out.at_ 2 (v := .slice Ap ps.length cp) rfl
     have y0 := HDw.out.at_ 0 (v := .slice At t.length ct) rfl
     have y1 := HDw.out.at_ 1 (v := .slice Ag gs.length cg) rfl
     have y2 := HDw.out.at_ 2 (v := .int .i64 lost) rfl
     have y3 := HDw.out.at_ 3 (v := .int .i64 wrong) rfl
     clear hlt hk
     generalize lst (begR (cF l ps piece t gs) t.length (rd_T62 ps piece).f1.length wrong (k : Int)) (rd_T62 ps piece).f1.length = L at *
     go_wp2_with (go_at_call 57; refine HBE.out.mono ?_; rintro e W6 ⟨v6, rfl, hR6, hf6⟩; obtain ⟨A6, c6, rfl, _, _⟩ := Kd.R_reads hR6; clear hR6; generalize L.length = q at *; rcases q with _ | q)
     ·refine ⟨⟨k + 1, by have := HLT.out; omega, by go_num, fun j hj => by
       by_cases e : j = k
       ·subst e; rw [← HFk.out]; rfl
       ·exact HJ.out j (by omega), Fr0.trans HFr.out hf6⟩, by simp [intOf]; omega⟩
     ·have hFk : FB (k : Int) = true := by rw [← HFk.out]; simp
      have hLG : LG = ((k : Int), 0) := by
       by_cases h24 : k = 24
       ·have h1 : FB (23 : Int) = true := H24.out (by rw [h24] at hFk; exact hFk)
        have h2 := HJ.out 23 (by omega)
        rw [show ((23 : Nat) : Int) = 23 from rfl] at h2
        rw [h2] at h1
        cases h1
       ·exact HLG.out.1 k (by have := HLT.out; omega) HJ.out hFk
      refine bodyPost_ret (v := .tuple #[.int .i64 (k : Int), .int .i64 0]) (by simp [results, Tryd.results24, go_sem]) rfl ⟨by rw [HRR.out, hLG], Fr0.trans HFW.out (Fr0.trans HFr.out hf6)⟩
    ·obtain rfl : k = 25 := by omega
     have hLG : LG = (0, 4) := HLG.out.2 (fun j hj => HJ.out j (by omega))
     go_wp2
     refine bodyPost_ret (v := .tuple #[.int .i64 0, .int .i64 4]) (by simp [results, Tryd.results24, go_sem]) rfl ⟨by rw [HRR.out, hLG], Fr0.trans HFW.out HFr.out⟩
  ·have hE2 : (E != 0) = true := by simpa using hE0
   clear hE0
   go_wp2
   refine bodyPost_ret (v := .tuple #[.int .i64 0, .int .i64 E]) (by simp [results, Tryd.results24, go_sem]) rfl ⟨by rw [HR.out E HEE.out (by simpa using hE2)], HFW.out⟩
 ·rw [hP] at HIP hok
  rw [Bool.true_and] at hok
  rw [hok] at HAS
  generalize noteB t gs lost wrong = nb at *
  clear hP hcut hok
  refine start_ (n := 10) (S := fun w' => w'.cell? ⟨b, 0, none⟩ = some (.int .i64 g) ∧ w'.cell? ⟨b, 1, none⟩ = some (.slice A l.length c) ∧ w'.cell? ⟨b, 2, none⟩ = some (.slice Ap ps.length cp) ∧ w'.cell? ⟨b + 1, 0, none⟩ = some (.slice At t.length ct) ∧ w'.cell? ⟨b + 1, 1, none⟩ = some (.slice Ag gs.length cg) ∧ w'.cell? ⟨b + 1, 2, none⟩ = some (.int .i64 lost) ∧ w'.cell? ⟨b + 1, 3, none⟩ = some (.int .i64 wrong)) (ds := []) (.replicate 10 false) (by kernel_rfl) rfl rfl ⟨v0, v1, v2, y0, y1, y2, y3⟩ (fun hHeld => ?_)
  refine pu 2 12 (bt 10 4) (k := ?_)
  refine tk7 0 10 (bt 10 5) hHeld (k := ?_)
  refine tk7 1 11 (bt 10 7) hHeld (k := ?_)
  refine oN 3 13 (bt 10 15) (h := fun K hK => ?_)
  refine goes_ Tryd.func55 (by kernel_rfl) rfl #[.agg #[.int .i64 g, .slice A l.length c, .slice Ap ps.length cp], .int .i64 piece] (by rfl) rfl rfl TN ?_
  with_reducible refine (HIP.out _ (Fr.drew (Fr.refl _ W))).mono ?_
  rintro e W3 ⟨rfl, hf3⟩
  refine ⟨_, rfl, ?_⟩
  have H3 := Lib.hid (Fr0.trans (Fr.drew (Fr.refl _ W)) hf3)
  refine hK.out _ _ ⟨(H3.out.cell0 v0), (H3.out.cell0 v1), (H3.out.cell0 v2), (H3.out.cell0 y0), (H3.out.cell0 y1), (H3.out.cell0 y2), (H3.out.cell0 y3)⟩ (fun hHeld => ?_)
  clear hK K
  refine norm_ (a' := ?_) ?_ ?_
  rotate_left
  ·show Act.put _ (some 13) _ = _
   simp only [Act.put, lA, lZ, lS, i64_w, i32_w]
   rfl
  refine pu 4 14 (bt 10 31) (k := ?_)
  refine tk7 5 15 (bt 10 63) hHeld (k := ?_)
  refine oN 6 16 (bt 10 127) (h := fun K hK => ?_)
  refine goes_ Tryd.func56 (by kernel_rfl) rfl #[.agg #[.slice At t.length ct, .slice Ag gs.length cg, .int .i64 lost, .int .i64 wrong]] (by rfl) rfl rfl TN ?_
  with_reducible refine (HIN.out _ H3.out).mono ?_
  rintro e W4 ⟨rfl, hf4⟩
  refine ⟨_, rfl, ?_⟩
  have H4 := Lib.hid (Fr0.trans H3.out hf4)
  refine hK.out _ _ ⟨(H4.out.cell0 v0), (H4.out.cell0 v1), (H4.out.cell0 v2), (H4.out.cell0 y0), (H4.out.cell0 y1), (H4.out.cell0 y2), (H4.out.cell0 y3)⟩ (fun hHeld => ?_)
  clear hK K
  refine norm_ (a' := ?_) ?_ ?_
  rotate_left
  ·show Act.put _ (some 16) _ = _
   simp only [Act.put, lA, lZ, lS, i64_w, i32_w]
   rfl
  refine pu 7 17 (bt 10 255) (k := ?_)
  refine oN 8 18 (bt 10 511) (h := fun K hK => ?_)
  refine goes_ Tryd.func54 (by kernel_rfl) rfl #[.agg #[.int .i64 g, .slice A l.length c, .slice Ap ps.length cp], .bool nb] (by rfl) rfl rfl TN ?_
  with_reducible refine (HAS.out _ H4.out).mono ?_
  rintro e W5 ⟨rfl, hf5⟩
  refine ⟨_, rfl, ?_⟩
  have H5 := Lib.hid (Fr0.trans H4.out hf5)
  refine hK.out _ _ ⟨(H5.out.cell0 v0), (H5.out.cell0 v1), (H5.out.cell0 v2), (H5.out.cell0 y0), (H5.out.cell0 y1), (H5.out.cell0 y2), (H5.out.cell0 y3)⟩ (fun hHeld => ?_)
  clear hK K
  refine norm_ (a' := ?_) ?_ ?_
  rotate_left
  ·show Act.put _ (some 18) _ = _
   simp only [Act.put, lA, lZ, lS, i64_w, i32_w]
   rfl
  refine pu 9 8 (bt 10 1023) (k := ?_)
  refine done_ (by kernel_rfl) ?_
  have HFW := Lib.hid (Fr0.trans HF.out H5.out)
  clear H3 H4
  clear hHeld v0 v1 v2 y0 y1 y2 y3
  have v0 := (HC0.out.fr0 H5.out).at_ 0 (v := .int .i64 g) rfl
  have v1 := (HC0.out.fr0 H5.out).at_ 1 (v := .slice A l.length c) rfl
  have v2 := (HC0.out.fr0 H5.out).at_ 2 (v := .slice Ap ps.length cp) rfl
  have y0 := (HD0.out.fr0 H5.out).at_ 0 (v := .slice At t.length ct) rfl
  have y1 := (HD0.out.fr0 H5.out).at_ 1 (v := .slice Ag gs.length cg) rfl
  have y2 := (HD0.out.fr0 H5.out).at_ 2 (v := .int .i64 lost) rfl
  have y3 := (HD0.out.fr0 H5.out).at_ 3 (v := .int .i64 wrong) rfl
  by_cases hE0 : E = 0
  ·subst hE0
   have HRR := Lib.hid (HR0.out HEE.out.symm)
   have HY2 := Lib.hid (HY.out HEE.out.symm)
   have HFE := Lib.hid (HFQ.out HEE.out.symm)
   have H24 := Lib.hid (HF24.out HEE.out.symm)
   have HLG := Lib.hid (leaG_at (hcx g l ps piece t gs lost wrong))
   generalize leaG (hcx g l ps piece t gs lost wrong) = LG at *
   generalize (hcx g l ps piece t gs lost wrong).fitsB = FB at *
   go_wp2
   clear v0 v1 v2 y0 y1 y2 y3
   go_loopw [9] (fun v9 wr => ∃ k : Nat, k ≤ 25 ∧ v9 = .int .i64 k ∧ (∀ j : Nat, j < k → FB (j : Int) = false) ∧ Fr0 W5 wr) (fun v9 _ => (25 - intOf v9).toNat)
   case atStart => exact ⟨0, by omega, by rfl, fun j hj => absurd hj (Nat.not_lt_zero _), Fr.refl _ _⟩
   case round =>
    obtain ⟨k, hk, rfl, hj, hf⟩ := hrel
    have HFr := Lib.hid hf
    have HJ := Lib.hid hj
    clear hf hj
    by_cases hlt : k ≤ 24
    ·have hle : (k : Int) ≤ 24 := by omega
     have HBE := Lib.hid (HY2.out _ (Fr0.trans HFW.out HFr.out) k)
     have HFk := Lib.hid (HFE.out k)
     have HLT := Lib.hid hlt
     have HCw := Lib.hid (HC0.out.fr0 (Fr0.trans H5.out HFr.out))
     have HDw := Lib.hid (HD0.out.fr0 (Fr0.trans H5.out HFr.out))
     have v0 := HCw.out.at_ 0 (v := .int .i64 g) rfl
     have v1 := HCw.out.at_ 1 (v := .slice A l.length c) rfl
     have v2 := HCw.out.at_ 2 (v := .slice Ap ps.length cp) rfl
     have y0 := HDw.out.at_ 0 (v := .slice At t.length ct) rfl
     have y1 := HDw.out.at_ 1 (v := .slice Ag gs.length cg) rfl
     have y2 := HDw.out.at_ 2 (v := .int .i64 lost) rfl
     have y3 := HDw.out.at_ 3 (v := .int .i64 wrong) rfl
     clear hlt hk
     generalize lst (begR (cF l ps piece t gs) t.length (rd_T62 ps piece).f1.length wrong (k : Int)) (rd_T62 ps piece).f1.length = L at *
     go_wp2_with (go_at_call 57; refine HBE.out.mono ?_; rintro e W6 ⟨v6, rfl, hR6, hf6⟩; obtain ⟨A6, c6, rfl, _, _⟩ := Kd.R_reads hR6; clear hR6; generalize L.length = q at *; rcases q with _ | q)
     ·refine ⟨⟨k + 1, by have := HLT.out; omega, by go_num, fun j hj => by
       by_cases e : j = k
       ·subst e; rw [← HFk.out]; rfl
       ·exact HJ.out j (by omega), Fr0.trans HFr.out hf6⟩, by simp [intOf]; omega⟩
     ·have hFk : FB (k : Int) = true := by rw [← HFk.out]; simp
      have hLG : LG = ((k : Int), 0) := by
       by_cases h24 : k = 24
       ·have h1 : FB (23 : Int) = true := H24.out (by rw [h24] at hFk; exact hFk)
        have h2 := HJ.out 23 (by omega)
        rw [show ((23 : Nat) : Int) = 23 from rfl] at h2
        rw [h2] at h1
        cases h1
       ·exact HLG.out.1 k (by have := HLT.out; omega) HJ.out hFk
      refine bodyPost_ret (v := .tuple #[.int .i64 (k : Int), .int .i64 0]) (by simp [results, Tryd.results24, go_sem]) rfl ⟨by rw [HRR.out, hLG], Fr0.trans HFW.out (Fr0.trans HFr.out hf6)⟩
    ·obtain rfl : k = 25 := by omega
     have hLG : LG = (0, 4) := HLG.out.2 (fun j hj => HJ.out j (by omega))
     go_wp2
     refine bodyPost_ret (v := .tuple #[.int .i64 0, .int .i64 4]) (by simp [results, Tryd.results24, go_sem]) rfl ⟨by rw [HRR.out, hLG], Fr0.trans HFW.out HFr.out⟩
  ·have hE2 : (E != 0) = true := by simpa using hE0
   clear hE0
   go_wp2
   refine bodyPost_ret (v := .tuple #[.int .i64 0, .int .i64 E]) (by simp [results, Tryd.results24, go_sem]) rfl ⟨by rw [HR.out E HEE.out (by simpa using hE2)], HFW.out⟩
end
end RF
end Go.Proofs.YtfdenclnneigfaaDoor.R
