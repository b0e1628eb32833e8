import Derived.Test.YtfdenclnneigfaaDoorGF
import Derived.Test.YtfdenclnneigfaaDoorQX
import Derived.Test.YtfdenclnneigfaaDoorVXR
import Derived.Test.YtfdenclnneigfaaDoorM0
set_option linter.unusedVariables false
set_option linter.unusedSimpArgs false
namespace Go.Proofs.YtfdenclnneigfaaDoor.R
open Go.RowKit Go.Shelf Go.Proofs.YtfdenclnneigfaaDoorW.PrintWords Go.Proofs.YtfdenclnneigfaaDoorW.PrintLast Go.Proofs.YtfdenclnneigfaaDoorW.PrintMore Go.Proofs.YtfdenclnneigfaaDoor.PRaspKeys Go.Proofs.YtfdenclnneigfaaDoor.X Go.Proofs.YtfdenclnneigfaaDoor.Q Go.Proofs.YtfdenclnneigfaaDoor.M
attribute [local go_sem] Oper.semAt_some
namespace RF
/-! ### The reference, walked: could -/
theorem mk_fr {w w' : World} (h : Below w.heap.size w w') : Fr0 w w' := Go.Proofs.YtfdenclnneigfaaDoor.X.Fr.of_below h
section
variable {g : Int} {A : Option Addr} {c : Nat} {l : List S114} {Ap : Option Addr} {cp : Nat} {ps : List S62} {piece : Int} {At : Option Addr} {ct : Nat} {t : List Int} {Ag : Option Addr} {cg : Nat} {gs : List Int} {lost wrong : Int} {w : World}
theorem small_of (hB : HBook w A c l Ap cp ps) : Small l := ⟨C_len hB.bk.r, C63_len hB.bk.r⟩
theorem gong101 (hB : HBook w A c l Ap cp ps) (hk : hbookOk g l ps = true) (h0 : 0 ≤ piece) (h1 : piece < ps.length) (s : Nat) (hs : s ≤ 24) : Calls Tryd.prog 101 #[.agg #[.int .i64 g, .slice A l.length c, .slice Ap ps.length cp], .int .i64 piece, .int .i64 (s : Int)] w fun e w' => e = .returned (.bool (gongF l ps piece (s : Int))) ∧ Fr0 w w' := by
 obtain ⟨K, hK⟩ := rgong_f hk (small_of hB) h0 h1 hs
 exact (rG.calls K g A c l Ap cp ps piece (s : Int) _ w hB.bk.r hB.bk.c hB.r hB.c (hK K (Nat.le_refl _))).mono fun e w' h => ⟨h.1, mk_fr h.2⟩
theorem where39 {A : Option Addr} {c : Nat} {r : List Int} (hr : Kd.C (Kd.int .i64) w A r.length r) (hc : r.length ≤ c) (x : Int) : Calls Tryd.prog 39 #[.slice A r.length c, .int .i64 x] w fun e w' => e = .returned (.int .i64 (wh x 0 r)) ∧ Fr0 w w' := by
 obtain ⟨K, hK⟩ := where_f r x (C_len hr)
 exact (saronref00_Where.calls K A c r x _ w hr hc (hK K (Nat.le_refl _))).mono fun e w' h => ⟨h.1, mk_dr h.2⟩
set_option maxHeartbeats 8000000 in
set_option maxRecDepth 100000 in
theorem could92 (h : TF g l ps piece t gs) (hB : HBook w A c l Ap cp ps) (hN : Note w At ct t Ag cg gs) (k s : Nat) (hk : k < t.length) (hsp : s < (rd_T62 ps piece).f1.length) (r1 : Bool) (r2 : Int) (hr : couldV (cF l ps piece t gs k s) = (r1, r2)) :
  Calls Tryd.prog 92 #[.agg #[.int .i64 g, .slice A l.length c, .slice Ap ps.length cp], .int .i64 piece, .agg #[.slice At t.length ct, .slice Ag gs.length cg, .int .i64 lost, .int .i64 wrong], .int .i64 (k : Int), .int .i64 (s : Int)] w fun e w' => e = .returned (.tuple #[.bool r1, .int .i64 r2]) ∧ Fr0 w w' := by
 have pp := ppiece_f h.ok h.p0 h.p1
 obtain ⟨o, o0, o6, hpl, hcase⟩ := could_val h k s hk hsp
 rw [hr] at hcase
 have HGO := Lib.hid (fun W (hf : Fr0 w W) => gong101 (hB.fr hf) h.ok h.p0 h.p1 s (by omega))
 have HWH := Lib.hid (fun W (hf : Fr0 w W) => where39 (hN.fr hf).rg hN.cg (k : Int))
 have hwh := wh_iff (k : Int) gs 0 (by omega)
 obtain ⟨p0, p1⟩ : 0 ≤ piece ∧ piece < ps.length := ⟨h.p0, h.p1⟩
 obtain ⟨pn, rfl⟩ := Int.eq_ofNat_of_zero_le p0
 obtain ⟨adp, A1, c1, eap, z0, z1, hl1, hC1⟩ := at_T62 hB.r (pn : Int) p0 p1
 have hp24 := pp.2.1
 have hlp : s < (rd_T62 ps (pn : Int)).f1.length := hsp
 obtain ⟨adt, eat, zt⟩ := Kd.at_int hN.rt (k : Int) (by omega) (by omega)
 obtain ⟨adq, eaq, zq⟩ := Kd.at_int hC1 (s : Int) (by omega) (by omega)
 cases eap
 cases eat
 cases eaq
 rw [Int.toNat_natCast] at z0 z1 zt zq
 rw [rd_nat] at zt zq
 have hk64 : (k : Int) < t.length := by omega
 have hs64 : (s : Int) < (rd_T62 ps (pn : Int)).f1.length := by omega
 have ht24 : (t.length : Int) ≤ 24 := by have := h.t2; omega
 have hp64 : ((rd_T62 ps (pn : Int)).f1.length : Int) ≤ 24 := hp24.2
 generalize (rd_T62 ps (pn : Int)).f1 = p at *
 have HPL := Lib.hid (fun W => (saronref00_Plain.calls (wrap64 (t.getD k 0 - p.getD s 0)) o W hpl).mono fun e w' h => (⟨h.1, mk_dr h.2⟩ : e = .returned (.int .i64 o) ∧ Fr0 W w'))
 generalize t.getD k 0 = x at *
 generalize p.getD s 0 = y at *
 obtain ⟨z, hz⟩ : ∃ z, z = wh (k : Int) 0 gs := ⟨_, rfl⟩
 rw [← hz] at HWH hwh
 have hps6 : (ps.length : Int) ≤ 6 := (pbook_iff.1 h.ok).2.1.2
 have hcase2 : (1 < o ∧ r1 = false ∧ r2 = 0) ∨ (o ≤ 1 ∧ z < 0 ∧ r1 = true ∧ r2 = o) ∨ (o ≤ 1 ∧ 0 ≤ z ∧ gongF l ps (pn : Int) (s : Int) = true ∧ r1 = true ∧ r2 = o) ∨ (o ≤ 1 ∧ 0 ≤ z ∧ gongF l ps (pn : Int) (s : Int) = false ∧ r1 = false ∧ r2 = 0) := by
  rcases hcase with ⟨a, e⟩ | ⟨a, b, e⟩ | ⟨a, b, d, e⟩ | ⟨a, b, d, e⟩ <;> injection e with e1 e2
  ·exact .inl ⟨a, e1, e2⟩
  ·exact .inr (.inl ⟨a, by rw [b] at hwh; simp at hwh; omega, e1, e2⟩)
  ·exact .inr (.inr (.inl ⟨a, hwh.2 b, d, e1, e2⟩))
  ·exact .inr (.inr (.inr ⟨a, hwh.2 b, d, e1, e2⟩))
 generalize gongF l ps (pn : Int) (s : Int) = G at *
 have hf0 : Fr0 w ((w.alloc (.cells #[.int .i64 g, .slice A l.length c, .slice (some adp) ps.length cp] 27)).alloc (.cells #[.slice (some adt) t.length ct, .slice Ag gs.length cg, .int .i64 lost, .int .i64 wrong] 30)) := ((Fr.refl _ _).alloc _).alloc _
 have c0 : Bx ((w.alloc (.cells #[.int .i64 g, .slice A l.length c, .slice (some adp) ps.length cp] 27)).alloc (.cells #[.slice (some adt) t.length ct, .slice Ag gs.length cg, .int .i64 lost, .int .i64 wrong] 30)) w.heap.size 27 #[.int .i64 g, .slice A l.length c, .slice (some adp) ps.length cp] := (Bx.of_new rfl).alloc _
 have d0 : Bx ((w.alloc (.cells #[.int .i64 g, .slice A l.length c, .slice (some adp) ps.length cp] 27)).alloc (.cells #[.slice (some adt) t.length ct, .slice Ag gs.length cg, .int .i64 lost, .int .i64 wrong] 30)) (w.heap.size + 1) 30 #[.slice (some adt) t.length ct, .slice Ag gs.length cg, .int .i64 lost, .int .i64 wrong] := Bx.of_new (by simp)
 clear hpl hcase hwh hC1 hB hN h pp hr hz hsp hlp hp24 hk
 go_enter Tryd.func92, Tryd.ntmps92
 go_upto_region 1 with fail
 generalize ((w.alloc (.cells #[.int .i64 g, .slice A l.length c, .slice (some adp) ps.length cp] 27)).alloc (.cells #[.slice (some adt) t.length ct, .slice Ag gs.length cg, .int .i64 lost, .int .i64 wrong] 30)) = W at hf0 c0 d0 ⊢
 replace z0 := hf0.cell0 z0
 replace z1 := hf0.cell0 z1
 replace zt := hf0.cell0 zt
 replace zq := hf0.cell0 zq
 generalize w.heap.size = b at c0 d0
 have v2 := c0.at_ 2 (v := .slice (some adp) ps.length cp) rfl
 have y0 := d0.at_ 0 (v := .slice (some adt) t.length ct) rfl
 have HF := Lib.hid hf0
 have HC0 := Lib.hid c0
 have HD0 := Lib.hid d0
 clear c0 d0 hf0 z0
 refine start_ (n := 17) (S := fun w' => w'.cell? ⟨b + 1, 0, none⟩ = some (.slice (some adt) t.length ct) ∧ w'.cell? (adt.add k) = some (.int .i64 x) ∧ w'.cell? ⟨b, 2, none⟩ = some (.slice (some adp) ps.length cp) ∧ w'.cell? ⟨(adp.add (pn * 2)).block, (adp.add (pn * 2)).off + 1, none⟩ = some (.slice (some adq) p.length c1) ∧ w'.cell? (adq.add s) = some (.int .i64 y)) (ds := []) (.replicate 17 false) (by kernel_rfl) rfl rfl ⟨y0, zt, v2, z1, zq⟩ (fun hHeld => ?_)
 refine pu 0 13 (bt 17 1) (k := ?_)
 refine pu 2 15 (bt 17 5) (k := ?_)
 refine pu 5 18 (bt 17 37) (k := ?_)
 refine pu 7 20 (bt 17 165) (k := ?_)
 refine pu 11 24 (bt 17 2213) (k := ?_)
 refine tk5 1 14 (bt 17 2215) hHeld (k := ?_)
 refine pu 3 16 (bt 17 2223) (k := ?_)
 refine tk5 4 17 (bt 17 2239) hHeld (k := ?_)
 refine tk5 6 19 (bt 17 2303) hHeld (k := ?_)
 refine pu 8 21 (bt 17 2559) (k := ?_)
 refine pu 9 22 (bt 17 3071) (k := ?_)
 refine tk5 10 23 (bt 17 4095) hHeld (k := ?_)
 refine pu 12 25 (bt 17 8191) (k := ?_)
 refine tk5 13 26 (bt 17 16383) hHeld (k := ?_)
 refine pu 14 27 (bt 17 32767) (k := ?_)
 refine oN 15 28 (bt 17 65535) (h := fun K hK => ?_)
 refine goes_ Tryd.func44 (by kernel_rfl) rfl #[.int .i64 (wrap64 (x - y))] (by rfl) rfl rfl TN ?_
 with_reducible refine (HPL.out _).mono ?_
 rintro e W3 ⟨rfl, hf3⟩
 refine ⟨_, rfl, ?_⟩
 have H3 := Lib.hid (Fr0.trans (Fr.drew (Fr.refl _ W)) hf3)
 refine hK.out _ _ ⟨(H3.out.cell0 y0), (H3.out.cell0 zt), (H3.out.cell0 v2), (H3.out.cell0 z1), (H3.out.cell0 zq)⟩ (fun hHeld => ?_)
 clear hK K
 refine norm_ (a' := ?_) ?_ ?_
 rotate_left
 ·show Act.put _ (some 28) _ = _
  simp only [Act.put, lA, lZ, lS, i64_w, i32_w]
  rfl
 refine pu 16 12 (bt 17 131071) (k := ?_)
 refine done_ (by kernel_rfl) ?_
 clear hHeld y0 zt v2 z1 zq
 have HF3 := Lib.hid (Fr0.trans HF.out H3.out)
 have y1 := (HD0.out.fr0 H3.out).at_ 1 (v := .slice Ag gs.length cg) rfl
 have v0 := (HC0.out.fr0 H3.out).at_ 0 (v := .int .i64 g) rfl
 have v1 := (HC0.out.fr0 H3.out).at_ 1 (v := .slice A l.length c) rfl
 have v2 := (HC0.out.fr0 H3.out).at_ 2 (v := .slice (some adp) ps.length cp) rfl
 rcases hcase2 with ⟨q1, rfl, rfl⟩ | ⟨q1, q2, rfl, rfl⟩ | ⟨q1, q2, rfl, rfl, rfl⟩ | ⟨q1, q2, rfl, rfl, rfl⟩
 ·go_wp2
  refine bodyPost_ret (v := .tuple #[.bool false, .int .i64 0]) (by simp [results, Tryd.results92, go_sem]) rfl ⟨rfl, HF3.out⟩
 ·go_wp2_with (go_at_call 39; refine (HWH.out _ HF3.out).mono ?_; rintro e W4 ⟨rfl, hf4⟩)
  refine bodyPost_ret (v := .tuple #[.bool true, .int .i64 r2]) (by simp [results, Tryd.results92, go_sem]) rfl ⟨rfl, Fr0.trans HF3.out hf4⟩
 ·go_wp2_with (first
   | (go_at_call 39; refine (HWH.out _ HF3.out).mono ?_; rintro e W4 ⟨rfl, hf4⟩; (have HF4 := Lib.hid (Fr0.trans HF3.out hf4)); (replace v0 := hf4.cell0 v0); (replace v1 := hf4.cell0 v1); (replace v2 := hf4.cell0 v2); clear hf4)
   | (go_at_call 101; refine (HGO.out _ HF4.out).mono ?_; rintro e W5 ⟨rfl, hf5⟩))
  refine bodyPost_ret (v := .tuple #[.bool true, .int .i64 r2]) (by simp [results, Tryd.results92, go_sem]) rfl ⟨rfl, Fr0.trans HF4.out hf5⟩
 ·go_wp2_with (first
   | (go_at_call 39; refine (HWH.out _ HF3.out).mono ?_; rintro e W4 ⟨rfl, hf4⟩; (have HF4 := Lib.hid (Fr0.trans HF3.out hf4)); (replace v0 := hf4.cell0 v0); (replace v1 := hf4.cell0 v1); (replace v2 := hf4.cell0 v2); clear hf4)
   | (go_at_call 101; refine (HGO.out _ HF4.out).mono ?_; rintro e W5 ⟨rfl, hf5⟩))
  refine bodyPost_ret (v := .tuple #[.bool false, .int .i64 0]) (by simp [results, Tryd.results92, go_sem]) rfl ⟨rfl, Fr0.trans HF4.out hf5⟩
/-! ### .. table -/
theorem inf_3 : (Tryd.prog.info? 3).map (fun i => (i.zero, i.size, i.bytes)) = some (some (.int .i64 0), 1, 8) := by kernel_rfl
theorem inf_28 : (Tryd.prog.info? 28).map (fun i => (i.zero, i.size, i.bytes)) = some (some (.slice none 0 0), 1, 24) := by kernel_rfl
theorem tbN_no {C : Nat → Nat → Int} {b m s : Nat} (hc : ¬ C m s < 1000) : H.tbN C b m s = 100 := by
 match m with
 | 0 => unfold H.tbN; rw [if_neg (fun h => by omega)]
 | m + 1 => unfold H.tbN; rw [if_neg (by omega)]
theorem tbN_zero {C : Nat → Nat → Int} {b s : Nat} (hc : C 0 s = 0 ∨ C 0 s = 1) : H.tbN C b 0 s = if s = b then C 0 s else 100 := by
 unfold H.tbN
 by_cases e : s = b
 ·rw [if_pos e, if_pos ⟨by omega, e⟩]
 ·rw [if_neg e, if_neg (fun h => e h.2)]
theorem tbN_succ {C : Nat → Nat → Int} {b m s : Nat} (hc : C (m + 1) s = 0 ∨ C (m + 1) s = 1) : H.tbN C b (m + 1) s = min 100 (H.minT (fun j => H.tbN C b m j) 0 s + C (m + 1) s) := by
 conv => lhs; unfold H.tbN
 rw [if_pos (by omega)]
theorem minT_step (f : Nat → Int) (j : Nat) : H.minT f 0 (j + 1) = min (H.minT f 0 j) (f j) := by
 conv => lhs; unfold H.minT
 rw [Nat.zero_add]
set_option maxHeartbeats 16000000 in
set_option maxRecDepth 100000 in
theorem table91 (h : TF g l ps piece t gs) (hB : HBook w A c l Ap cp ps) (hN : Note w At ct t Ag cg gs) (b0 : Nat) :
  Calls Tryd.prog 91 #[.agg #[.int .i64 g, .slice A l.length c, .slice Ap ps.length cp], .int .i64 piece, .agg #[.slice At t.length ct, .slice Ag gs.length cg, .int .i64 lost, .int .i64 wrong], .int .i64 (b0 : Int)] w fun e w' =>
   ∃ A2 c2, e = .returned (.slice A2 t.length c2) ∧ Kd.C (Kd.slice 3 (Kd.int .i64)) w' A2 t.length (tbT (cF l ps piece t gs) b0 (rd_T62 ps piece).f1.length t.length) ∧ t.length ≤ c2 ∧ Fr0 w w' := by
 have pp := ppiece_f h.ok h.p0 h.p1
 obtain ⟨p0, p1⟩ : 0 ≤ piece ∧ piece < ps.length := ⟨h.p0, h.p1⟩
 obtain ⟨pn, rfl⟩ := Int.eq_ofNat_of_zero_le p0
 obtain ⟨adp, A1, c1, eap, z0, z1, hl1, hC1⟩ := at_T62 hB.r (pn : Int) p0 p1
 cases eap
 rw [Int.toNat_natCast] at z1
 have hp64 : ((rd_T62 ps (pn : Int)).f1.length : Int) ≤ 24 := pp.2.1.2
 have ht64 : (t.length : Int) ≤ 24 := by have := h.t2; omega
 have hps6 : (ps.length : Int) ≤ 6 := (pbook_iff.1 h.ok).2.1.2
 have HCD := Lib.hid (fun (k s : Nat) (hk : k < t.length) (hs : s < (rd_T62 ps (pn : Int)).f1.length) W (hf : Fr0 w W) r1 r2 hr => could92 (lost := lost) (wrong := wrong) h (hB.fr hf) (hN.fr hf) k s hk hs r1 r2 hr)
 have HCS := Lib.hid (cF_cases (l := l) (ps := ps) (pn : Int) t gs)
 generalize cF l ps (pn : Int) t gs = C at *
 generalize hnn : (rd_T62 ps (pn : Int)).f1.length = n at *
 have HBN := Lib.hid (fun m j => tb_bnd (b := b0) (fun k s => (show 0 ≤ C k s by have := HCS.out k s; omega)) m j)
 have hf0 : Fr0 w ((w.alloc (.cells #[.int .i64 g, .slice A l.length c, .slice (some adp) ps.length cp] 27)).alloc (.cells #[.slice At t.length ct, .slice Ag gs.length cg, .int .i64 lost, .int .i64 wrong] 30)) := ((Fr.refl _ _).alloc _).alloc _
 have c0 : Bx ((w.alloc (.cells #[.int .i64 g, .slice A l.length c, .slice (some adp) ps.length cp] 27)).alloc (.cells #[.slice At t.length ct, .slice Ag gs.length cg, .int .i64 lost, .int .i64 wrong] 30)) w.heap.size 27 #[.int .i64 g, .slice A l.length c, .slice (some adp) ps.length cp] := (Bx.of_new rfl).alloc _
 have d0 : Bx ((w.alloc (.cells #[.int .i64 g, .slice A l.length c, .slice (some adp) ps.length cp] 27)).alloc (.cells #[.slice At t.length ct, .slice Ag gs.length cg, .int .i64 lost, .int .i64 wrong] 30)) (w.heap.size + 1) 30 #[.slice At t.length ct, .slice Ag gs.length cg, .int .i64 lost, .int .i64 wrong] := Bx.of_new (by simp)
 clear hnn hl1 hC1 pp z0 h hB hN
 go_enter Tryd.func91, Tryd.ntmps91
 go_upto_region 1 with fail
 generalize ((w.alloc (.cells #[.int .i64 g, .slice A l.length c, .slice (some adp) ps.length cp] 27)).alloc (.cells #[.slice At t.length ct, .slice Ag gs.length cg, .int .i64 lost, .int .i64 wrong] 30)) = W at hf0 c0 d0 ⊢
 replace z1 := hf0.cell0 z1
 generalize w.heap.size = b at c0 d0
 have v2 := c0.at_ 2 (v := .slice (some adp) ps.length cp) rfl
 have HF := Lib.hid hf0
 have HC0 := Lib.hid c0
 have HD0 := Lib.hid d0
 have HZ1 := Lib.hid z1
 clear c0 d0 hf0
 go_wp2
 clear v2 z1
 go_loopw [10, 11] (fun v10 v11 wr => ∃ m : Nat, m ≤ t.length ∧ v11 = .int .i64 m ∧ Kd.N (Kd.slice 3 (Kd.int .i64)) 28 wr W.heap.size (fun k => W.heap.size ≤ k) v10 (tbT C b0 n m) ∧ Below W.heap.size W wr) (fun _ v11 _ => (t.length - intOf v11).toNat)
 case atStart => exact ⟨0, by omega, by rfl, Kd.N_nil _ _ _ _ _, Below.refl _ _⟩
 case round =>
  obtain ⟨m, hm, rfl, hNr, hbw⟩ := hrel
  have HFo := Lib.hid (show Fr0 W wr from mk_fr hbw)
  have y0 := (HD0.out.fr0 HFo.out).at_ 0 (v := .slice At t.length ct) rfl
  by_cases hlt : m < t.length
  ·have hle : (m : Int) < t.length := by omega
   obtain ⟨Ab, cb, rfl⟩ := Kd.N_slice hNr
   have hrd := Kd.N_reads' hNr
   have HRD := Lib.hid hrd.2.2
   have HNR := Lib.hid hNr
   have HBW := Lib.hid hbw
   have HLT := Lib.hid hlt
   have HTS := Lib.hid (tbT_succ C b0 n m)
   have HTL := Lib.hid (tbT_len C b0 n m)
   obtain ⟨wo, hwo⟩ : ∃ wo, wo = wr := ⟨wr, rfl⟩
   have HOWN := Lib.hid (Kd.N_lt hNr)
   clear hrd hNr hbw hlt hm
   rw [tbT_len] at *
   go_wp2
   clear y0
   rw [← hwo]
   rw [← hwo] at HFo HRD HNR HBW HOWN
   clear hwo
   go_loopw [12, 13] (fun v12 v13 wr => ∃ s : Nat, s ≤ n ∧ v13 = .int .i64 s ∧ Kd.R (Kd.int .i64) 3 wr wo.heap.size (fun k => wo.heap.size ≤ k) v12 (tbR C b0 m s) ∧ Below wo.heap.size wo wr) (fun _ v13 _ => (n - intOf v13).toNat)
   case atStart => exact ⟨0, by omega, by rfl, Kd.R_nil _ _ _ _ _, Below.refl _ _⟩
   case round =>
    obtain ⟨s, hs, rfl, hR, hb⟩ := hrel
    have HFw := Lib.hid (Fr0.trans HFo.out (mk_fr hb))
    by_cases hlts : s < n
    ·have hles : (s : Int) < n := by omega
     obtain ⟨r1, r2, hrr⟩ : ∃ r1 r2, couldV (C m s) = (r1, r2) := ⟨_, _, rfl⟩
     have HCDs := Lib.hid (HCD.out m s HLT.out hlts wr (Fr0.trans HF.out HFw.out) r1 r2 hrr)
     have HR := Lib.hid hR
     have HBs := Lib.hid hb
     have HLTS := Lib.hid hlts
     have HRS := Lib.hid (tbR_succ C b0 m s)
     have HYL := Lib.hid (show (tbR C b0 m s).length ≤ 24 by rw [tbR_len]; omega)
     have hcc := HCS.out m s
     clear hR hb hlts hs
     generalize tbR C b0 m s = ys at *
     have v0 := (HC0.out.fr0 HFw.out).at_ 0 (v := .int .i64 g) rfl
     have v1 := (HC0.out.fr0 HFw.out).at_ 1 (v := .slice A l.length c) rfl
     have v2 := (HC0.out.fr0 HFw.out).at_ 2 (v := .slice (some adp) ps.length cp) rfl
     have y0 := (HD0.out.fr0 HFw.out).at_ 0 (v := .slice At t.length ct) rfl
     have y1 := (HD0.out.fr0 HFw.out).at_ 1 (v := .slice Ag gs.length cg) rfl
     have y2 := (HD0.out.fr0 HFw.out).at_ 2 (v := .int .i64 lost) rfl
     have y3 := (HD0.out.fr0 HFw.out).at_ 3 (v := .int .i64 wrong) rfl
     by_cases hc : C m s < 1000
     ·have hr12 : r1 = true ∧ r2 = C m s := by
       unfold couldV at hrr
       rw [if_pos hc] at hrr
       injection hrr with e1 e2
       exact ⟨e1.symm, e2.symm⟩
      obtain ⟨rfl, rfl⟩ := hr12
      clear hrr
      have hcx : C m s = 0 ∨ C m s = 1 := by omega
      by_cases hm0 : m = 0
      ·have q0 : ((m : Int) == 0) = true := by simp [hm0]
       have q2 : ¬ ((m : Int) > 0) := by omega
       have HTB0 : H.tbN C b0 m s = if s = b0 then C m s else 100 := by
        subst hm0
        exact tbN_zero hcx
       clear hm0
       by_cases hsb : s = b0
       ·have q1 : ((s : Int) == (b0 : Int)) = true := by simp [hsb]
        rw [if_pos hsb] at HTB0
        have HTB := Lib.hid HTB0
        clear hsb HTB0 hcc hc hcx
        generalize C m s = X at *
        go_wp2_with (first
         | (go_at_call 92; refine HCDs.out.mono ?_; rintro e W5 ⟨rfl, hf5⟩; (have HB5 := Lib.hid (HBs.out.trans (fr_belowN hf5 HBs.out.size))); (have HR5 := Lib.hid (Kd.R_below HR.out (fr_below hf5))); clear hf5)
         | ((with_reducible refine gate_builtin (b := .append) (xs := #[.tmp 78, .tmp 80]) rfl ?_); at_builtin; refine Kd.R_append (Kd.int .i64) (w0 := wo) wo.heap.size rfl (.tmp 78) (.tmp 80) 28 3 (.int .i64 0) 8 rfl Tryd.underlying28 inf_3 rfl (by decide) (by omega) _ ys X [.int .i64 X] (fun k => wo.heap.size ≤ k) (fun _ => False) rfl rfl ?aP (fun _ hk => hk.elim) ?aF ?aO ?aB ?aS ?aL ?_; (case aP => exact rfl); (case aB => exact HB5.out); (case aF => exact (fun k hk => Nat.le_trans HB5.out.size hk)); (case aO => exact HR5.out); (case aS => exact HB5.out.size); (case aL => have := HYL.out; omega); intro v104 w6 ho hb hg hat))
        refine ⟨⟨s + 1, by have := HLTS.out; omega, by go_num, by rw [HRS.out, HTB.out]; exact ho, hb⟩, by have := HLTS.out; simp [intOf]; omega⟩
       ·have q1 : ((s : Int) == (b0 : Int)) = false := by rw [beq_eq_false_iff_ne]; omega
        rw [if_neg hsb] at HTB0
        have HTB := Lib.hid HTB0
        clear hsb HTB0 hcc hc hcx
        generalize C m s = X at *
        go_wp2_with (first
         | (go_at_call 92; refine HCDs.out.mono ?_; rintro e W5 ⟨rfl, hf5⟩; (have HB5 := Lib.hid (HBs.out.trans (fr_belowN hf5 HBs.out.size))); (have HR5 := Lib.hid (Kd.R_below HR.out (fr_below hf5))); clear hf5)
         | ((with_reducible refine gate_builtin (b := .append) (xs := #[.tmp 78, .tmp 80]) rfl ?_); at_builtin; refine Kd.R_append (Kd.int .i64) (w0 := wo) wo.heap.size rfl (.tmp 78) (.tmp 80) 28 3 (.int .i64 0) 8 rfl Tryd.underlying28 inf_3 rfl (by decide) (by omega) _ ys 100 [.int .i64 100] (fun k => wo.heap.size ≤ k) (fun _ => False) rfl rfl ?aP (fun _ hk => hk.elim) ?aF ?aO ?aB ?aS ?aL ?_; (case aP => exact rfl); (case aB => exact HB5.out); (case aF => exact (fun k hk => Nat.le_trans HB5.out.size hk)); (case aO => exact HR5.out); (case aS => exact HB5.out.size); (case aL => have := HYL.out; omega); intro v104 w6 ho hb hg hat))
        refine ⟨⟨s + 1, by have := HLTS.out; omega, by go_num, by rw [HRS.out, HTB.out]; exact ho, hb⟩, by have := HLTS.out; simp [intOf]; omega⟩
      ·obtain ⟨m', hm'⟩ : ∃ m', m = m' + 1 := ⟨m - 1, by omega⟩
       have q0 : ((m : Int) == 0) = false := by rw [beq_eq_false_iff_ne]; omega
       have q2 : (m : Int) > 0 := by omega
       have HTB := Lib.hid (show H.tbN C b0 m s = min 100 (H.minT (fun j => H.tbN C b0 m' j) 0 s + C m s) by
        subst hm'
        exact tbN_succ hcx)
       have HM := Lib.hid hm'
       have HRW := Lib.hid (show rd_L1 (tbT C b0 n m) (m' : Int) = tbR C b0 m' n from tbT_at _ _ _ _ _ (by omega))
       have HB0 := Lib.hid (HBN.out m')
       have HAT := Lib.hid (tbR_at C b0 m' n)
       have HTN := Lib.hid (tbR_len C b0 m' n)
       have hm1 : (m : Int) - 1 = (m' : Int) := by omega
       have hm64 : (m : Int) ≤ 24 := by omega
       clear hm' hm0 hcc hc
       obtain ⟨X, hX⟩ : ∃ X, X = C m s := ⟨_, rfl⟩
       rw [← hX] at HCDs HTB hcx
       clear hX
       obtain ⟨f, hf⟩ : ∃ f : Nat → Int, f = fun j => H.tbN C b0 m' j := ⟨_, rfl⟩
       have HFJ := Lib.hid (fun j => show f j = H.tbN C b0 m' j by rw [hf])
       rw [← hf] at HTB
       clear hf
       have HMT := Lib.hid (minT_step f)
       have hM0 := Lib.hid (show H.minT f 0 0 = 1000 from rfl)
       obtain ⟨M, hM⟩ : ∃ M : Nat → Int, M = H.minT f 0 := ⟨_, rfl⟩
       rw [← hM] at HTB HMT hM0
       clear hM
       go_wp2_with (go_at_call 92; refine HCDs.out.mono ?_; rintro e W5 ⟨rfl, hf5⟩; (have HB5 := Lib.hid (HBs.out.trans (fr_belowN hf5 HBs.out.size))); (have HR5 := Lib.hid (Kd.R_below HR.out (fr_below hf5))); clear hf5)
       go_loopw [16, 17] (fun v16 v17 wr => ∃ j : Nat, j ≤ s ∧ v17 = .int .i64 j ∧ v16 = .int .i64 (min 100 (M j + X)) ∧ Fr0 W5 wr) (fun _ v17 _ => (s - intOf v17).toNat)
       case atStart => exact ⟨0, by omega, by rfl, by rw [hM0.out, show min 100 (1000 + X) = 100 by omega], Fr.refl _ _⟩
       case round =>
        obtain ⟨j, hj, rfl, rfl, hfj⟩ := hrel
        have HFJ5 := Lib.hid hfj
        by_cases hltj : j < s
        ·have hlej : (j : Int) < s := by omega
         obtain ⟨adr, A2, c2, ear, x0, hlr, hCr⟩ := at_L1 (C_fr HRD.out (Fr0.trans (mk_fr HB5.out) HFJ5.out)) (m' : Int) (by omega) (by omega)
         rw [Int.toNat_natCast, HRW.out, HTN.out] at x0
         rw [HRW.out, HTN.out] at hCr
         cases ear
         obtain ⟨ads, eas, x1⟩ := Kd.at_int hCr (j : Int) (by omega) (by omega)
         rw [Int.toNat_natCast, HAT.out j (by have := HLTS.out; omega), ← HFJ.out j] at x1
         cases eas
         have hfb : 0 ≤ f j ∧ f j ≤ 100 := by rw [HFJ.out j]; exact HB0.out j
         have HHJ := Lib.hid (show j + 1 ≤ s from hltj)
         have hm'0 : (0 : Int) ≤ m' := by omega
         have hm'1 : (m' : Int) < m := by omega
         have hs64 : (s : Int) ≤ 24 := by omega
         have hjn : (j : Int) < n := by omega
         have HMJ := Lib.hid (HMT.out j)
         clear hCr hlr hj hltj hfj
         generalize f j = u at *
         go_wp2
         go_roundw
         case rel => exact ⟨j + 1, HHJ.out, by go_num, congrArg (Value.int .i64) (by have := HMJ.out; first | omega | (split <;> omega)), HFJ5.out⟩
         case measure => simp [intOf]; omega
        ·obtain rfl : j = s := by omega
         obtain ⟨Y, hY⟩ : ∃ Y, Y = min 100 (M j + X) := ⟨_, rfl⟩
         rw [← hY] at HTB ⊢
         have HB6 := Lib.hid (HB5.out.trans (fr_belowN HFJ5.out HB5.out.size))
         have HR6 := Lib.hid (Kd.R_below HR5.out (fr_below HFJ5.out))
         clear hY hj hltj hfj
         go_wp2_with ((with_reducible refine gate_builtin (b := .append) (xs := #[.tmp 78, .tmp 80]) rfl ?_); at_builtin; refine Kd.R_append (Kd.int .i64) (w0 := wo) wo.heap.size rfl (.tmp 78) (.tmp 80) 28 3 (.int .i64 0) 8 rfl Tryd.underlying28 inf_3 rfl (by decide) (by omega) _ ys Y [.int .i64 Y] (fun k => wo.heap.size ≤ k) (fun _ => False) rfl rfl ?aP (fun _ hk => hk.elim) ?aF ?aO ?aB ?aS ?aL ?_; (case aP => exact rfl); (case aB => exact HB6.out); (case aF => exact (fun k hk => Nat.le_trans HB6.out.size hk)); (case aO => exact HR6.out); (case aS => exact HB6.out.size); (case aL => have := HYL.out; omega); intro v104 w6 ho hb hg hat)
         refine ⟨⟨j + 1, by have := HLTS.out; omega, by go_num, by rw [HRS.out, HTB.out]; exact ho, hb⟩, by have := HLTS.out; simp [intOf]; omega⟩
     ·have hr12 : r1 = false ∧ r2 = 0 := by
       unfold couldV at hrr
       rw [if_neg hc] at hrr
       injection hrr with e1 e2
       exact ⟨e1.symm, e2.symm⟩
      obtain ⟨rfl, rfl⟩ := hr12
      have HTB := Lib.hid (tbN_no (b := b0) hc)
      clear hrr hcc hc
      go_wp2_with (first
       | (go_at_call 92; refine HCDs.out.mono ?_; rintro e W5 ⟨rfl, hf5⟩; (have HB5 := Lib.hid (HBs.out.trans (fr_belowN hf5 HBs.out.size))); (have HR5 := Lib.hid (Kd.R_below HR.out (fr_below hf5))); clear hf5)
       | ((with_reducible refine gate_builtin (b := .append) (xs := #[.tmp 78, .tmp 80]) rfl ?_); at_builtin; refine Kd.R_append (Kd.int .i64) (w0 := wo) wo.heap.size rfl (.tmp 78) (.tmp 80) 28 3 (.int .i64 0) 8 rfl Tryd.underlying28 inf_3 rfl (by decide) (by omega) _ ys 100 [.int .i64 100] (fun k => wo.heap.size ≤ k) (fun _ => False) rfl rfl ?aP (fun _ hk => hk.elim) ?aF ?aO ?aB ?aS ?aL ?_; (case aP => exact rfl); (case aB => exact HB5.out); (case aF => exact (fun k hk => Nat.le_trans HB5.out.size hk)); (case aO => exact HR5.out); (case aS => exact HB5.out.size); (case aL => have := HYL.out; omega); intro v104 w6 ho hb hg hat))
      refine ⟨⟨s + 1, by have := HLTS.out; omega, by go_num, by rw [HRS.out, HTB.out]; exact ho, hb⟩, by have := HLTS.out; simp [intOf]; omega⟩
    ·obtain rfl : s = n := by omega
     have HFw2 := Lib.hid hb
     obtain ⟨A18, c18, e18, hcl, -⟩ := Kd.R_reads hR
     subst e18
     have HFK := Lib.hid (Kd.FK_slice_mk (e := 3) hcl (Kd.R_F hR))
     have HN2 := Lib.hid (Kd.N_below HNR.out hb)
     have HB2 := Lib.hid (HBW.out.trans (hb.mono HBW.out.size))
     rw [tbR_len] at HFK hcl ⊢
     have HXL := Lib.hid (tbT_len C b0 s m)
     have HMM := Lib.hid (show m + 1 ≤ t.length from HLT.out)
     have hm64 : (m : Int) ≤ 24 := by omega
     clear hR hb hs hlts hcl
     generalize tbR C b0 m s = ys at *
     generalize tbT C b0 s m = xs at *
     go_wp2_with ((with_reducible refine gate_builtin (b := .append) (xs := #[.tmp 82, .tmp 84]) rfl ?_); at_builtin; refine Kd.N_append (Kd.slice 3 (Kd.int .i64)) (w0 := W) W.heap.size rfl (.tmp 82) (.tmp 84) 112 28 (.slice none 0 0) 24 rfl Tryd.underlying112 inf_28 rfl (by decide) (by omega) _ xs ys [.slice A18 s c18] (fun k => W.heap.size ≤ k) (fun k => wo.heap.size ≤ k) rfl rfl ?aP ?aK ?aF ?aO ?aB ?aS ?aL ?_; (case aP => exact HFK.out); (case aK => exact fun k hk => ⟨Nat.le_trans HBW.out.size hk, fun h => by have := HOWN.out k h.symm; omega⟩); (case aF => exact fun k hk => Nat.le_trans HB2.out.size hk); (case aO => exact HN2.out); (case aB => exact HB2.out); (case aS => exact HB2.out.size); (case aL => have := HXL.out; omega); intro v105 w7 ho hb hg hat)
     refine ⟨⟨m + 1, HMM.out, by go_num, by rw [HTS.out]; exact ho, hb⟩, by have := HMM.out; simp [intOf]; omega⟩
  ·obtain rfl : m = t.length := by omega
   obtain ⟨Ab, cb, rfl⟩ := Kd.N_slice hNr
   have hrd := Kd.N_reads' hNr
   rw [tbT_len] at *
   have HRC := Lib.hid hrd.2.2
   have hcb := hrd.2.1
   have HCB := Lib.hid hcb
   clear hNr hrd hbw hcb
   go_wp2
   refine bodyPost_ret (v := .slice Ab t.length cb) (by simp [results, Tryd.results91, go_sem]) rfl ⟨Ab, cb, rfl, HRC.out, HCB.out, Fr0.trans HF.out HFo.out⟩
/-! ### .. ends -/
set_option maxHeartbeats 16000000 in
set_option maxRecDepth 100000 in
theorem ends67 (h : TF g l ps piece t gs) (ht : 1 ≤ t.length) (hB : HBook w A c l Ap cp ps) (hN : Note w At ct t Ag cg gs) (b0 : Nat) (hb0 : b0 ≤ (rd_T62 ps piece).f1.length) (lo : Int) :
  Calls Tryd.prog 67 #[.agg #[.int .i64 g, .slice A l.length c, .slice Ap ps.length cp], .int .i64 piece, .agg #[.slice At t.length ct, .slice Ag gs.length cg, .int .i64 lost, .int .i64 wrong], .int .i64 (b0 : Int), .int .i64 lo] w fun e w' =>
   ∃ v, e = .returned v ∧ Kd.R (Kd.int .i64) 3 w' w.heap.size (fun _ => True) v (lst (endB (cF l ps piece t gs) b0 t.length wrong lo) (rd_T62 ps piece).f1.length) ∧ Fr0 w w' := by
 have pp := ppiece_f h.ok h.p0 h.p1
 have hp64 : ((rd_T62 ps piece).f1.length : Int) ≤ 24 := pp.2.1.2
 have ht64 : (t.length : Int) ≤ 24 := by have := h.t2; omega
 have HTA := Lib.hid (fun W (hf : Fr0 w W) => table91 (lost := lost) (wrong := wrong) h (hB.fr hf) (hN.fr hf) b0)
 generalize cF l ps piece t gs = C at *
 generalize (rd_T62 ps piece).f1.length = n at *
 obtain ⟨m, hm⟩ : ∃ m, t.length = m + 1 := ⟨t.length - 1, by omega⟩
 have hm1 : (t.length : Int) - 1 = (m : Int) := by omega
 have hm2 : (m : Int) < t.length := by omega
 have HRW := Lib.hid (show rd_L1 (tbT C b0 n t.length) (m : Int) = tbR C b0 m n from tbT_at _ _ _ _ _ (by omega))
 have HAT := Lib.hid (tbR_at C b0 m n)
 have HTN := Lib.hid (tbR_len C b0 m n)
 have HMT := Lib.hid hm
 have HE := Lib.hid (fun s => show endB C b0 t.length wrong lo s = (decide (b0 ≤ s) && (decide (H.tbN C b0 m s ≤ wrong) && decide ((s : Int) - b0 + 1 - t.length ≤ lo))) by unfold endB; rw [show t.length - 1 = m by omega])
 have HL0 := Lib.hid (lst_nil' (endB C b0 t.length wrong lo) b0 (fun i hi => by unfold endB; rw [decide_eq_false (by omega), Bool.false_and]))
 obtain ⟨E, hE⟩ : ∃ E, E = endB C b0 t.length wrong lo := ⟨_, rfl⟩
 rw [← hE] at HE HL0 ⊢
 have HST := Lib.hid (lst_step E)
 have HLN := Lib.hid (lst_len E)
 have hf0 : Fr0 w ((w.alloc (.cells #[.int .i64 g, .slice A l.length c, .slice Ap ps.length cp] 27)).alloc (.cells #[.slice At t.length ct, .slice Ag gs.length cg, .int .i64 lost, .int .i64 wrong] 30)) := ((Fr.refl _ _).alloc _).alloc _
 have c0 : Bx ((w.alloc (.cells #[.int .i64 g, .slice A l.length c, .slice Ap ps.length cp] 27)).alloc (.cells #[.slice At t.length ct, .slice Ag gs.length cg, .int .i64 lost, .int .i64 wrong] 30)) w.heap.size 27 #[.int .i64 g, .slice A l.length c, .slice Ap ps.length cp] := (Bx.of_new rfl).alloc _
 have d0 : Bx ((w.alloc (.cells #[.int .i64 g, .slice A l.length c, .slice Ap ps.length cp] 27)).alloc (.cells #[.slice At t.length ct, .slice Ag gs.length cg, .int .i64 lost, .int .i64 wrong] 30)) (w.heap.size + 1) 30 #[.slice At t.length ct, .slice Ag gs.length cg, .int .i64 lost, .int .i64 wrong] := Bx.of_new (by simp)
 clear h hB hN pp hE hm ht
 go_enter Tryd.func67, Tryd.ntmps67
 go_upto_region 1 with fail
 generalize ((w.alloc (.cells #[.int .i64 g, .slice A l.length c, .slice Ap ps.length cp] 27)).alloc (.cells #[.slice At t.length ct, .slice Ag gs.length cg, .int .i64 lost, .int .i64 wrong] 30)) = W at hf0 c0 d0 ⊢
 generalize hbb : w.heap.size = b at c0 d0
 clear hbb
 have v0 := c0.at_ 0 (v := .int .i64 g) rfl
 have v1 := c0.at_ 1 (v := .slice A l.length c) rfl
 have v2 := c0.at_ 2 (v := .slice Ap ps.length cp) rfl
 have y0 := d0.at_ 0 (v := .slice At t.length ct) rfl
 have y1 := d0.at_ 1 (v := .slice Ag gs.length cg) rfl
 have y2 := d0.at_ 2 (v := .int .i64 lost) rfl
 have y3 := d0.at_ 3 (v := .int .i64 wrong) rfl
 have HF := Lib.hid hf0
 have HC0 := Lib.hid c0
 have HD0 := Lib.hid d0
 have hm0 : (0 : Int) ≤ m := by omega
 clear c0 d0 hf0
 go_wp2_with (go_at_call 91; refine (HTA.out _ HF.out).mono ?_; rintro e W5 ⟨A2, c2, rfl, hC, hc2, hf⟩; obtain ⟨adr, A3, c3, ear, x0, hlr, hCr⟩ := at_L1 hC (m : Int) hm0 hm2; cases ear; rw [Int.toNat_natCast, HRW.out, HTN.out] at x0; rw [HRW.out, HTN.out] at hCr; (have HCR := Lib.hid hCr); (have HF5 := Lib.hid (Fr0.trans HF.out hf)); (have HD5 := Lib.hid (HD0.out.fr0 hf)); clear hC hf hlr hCr hc2)
 try clear v0 v1 v2 y0 y1 y2 y3 x0
 go_loopw [13, 14] (fun v13 v14 wr => ∃ s : Nat, b0 ≤ s ∧ s ≤ n ∧ v14 = .int .i64 s ∧ Kd.R (Kd.int .i64) 3 wr W5.heap.size (fun k => W5.heap.size ≤ k) v13 (lst E s) ∧ Below W5.heap.size W5 wr) (fun _ v14 _ => (n - intOf v14).toNat)
 case atStart => exact ⟨b0, Nat.le_refl _, hb0, by rfl, by rw [HL0.out]; exact Kd.R_nil _ _ _ _ _, Below.refl _ _⟩
 case round =>
  obtain ⟨s, hbs, hs, rfl, hR, hb⟩ := hrel
  have HFs := Lib.hid (show Fr0 W5 wr from mk_fr hb)
  by_cases hlt : s < n
  ·have hle : (s : Int) < n := by omega
   obtain ⟨ads, eas, x1⟩ := Kd.at_int (C_fr HCR.out HFs.out) (s : Int) (by omega) (by omega)
   rw [Int.toNat_natCast, HAT.out s hlt] at x1
   cases eas
   have y0 := (HD5.out.fr0 HFs.out).at_ 0 (v := .slice At t.length ct) rfl
   have y3 := (HD5.out.fr0 HFs.out).at_ 3 (v := .int .i64 wrong) rfl
   have HEs := Lib.hid (show E s = (decide (H.tbN C b0 m s ≤ wrong) && decide ((s : Int) - b0 + 1 - t.length ≤ lo)) by rw [HE.out, decide_eq_true hbs, Bool.true_and])
   have HSs := Lib.hid (HST.out s)
   have HLs := Lib.hid (show (lst E s).length ≤ 24 by have := HLN.out s; omega)
   have HR := Lib.hid hR
   have HBs := Lib.hid hb
   have HLT := Lib.hid hlt
   have HBB := Lib.hid hbs
   have hb64 : (b0 : Int) ≤ 24 := by omega
   clear hR hb hlt hs hbs
   generalize H.tbN C b0 m s = T at *
   generalize lst E s = ys at *
   by_cases q1 : T ≤ wrong
   ·by_cases q2 : (s : Int) - b0 + 1 - t.length ≤ lo
    ·have HX := Lib.hid (show E s = true by rw [HEs.out, decide_eq_true q1, decide_eq_true q2]; rfl)
     go_wp2
     repeat (go_quiet (fail); try go_wp2_with ((with_reducible refine gate_builtin (b := .append) (xs := #[.tmp 52, .tmp 54]) rfl ?_); at_builtin; refine Kd.R_append (Kd.int .i64) (w0 := W5) W5.heap.size rfl (.tmp 52) (.tmp 54) 28 3 (.int .i64 0) 8 rfl Tryd.underlying28 inf_3 rfl (by decide) (by omega) _ ys ((s : Int)) [.int .i64 (s : Int)] (fun k => W5.heap.size ≤ k) (fun _ => False) rfl rfl ?aP (fun _ hk => hk.elim) ?aF ?aO ?aB ?aS ?aL ?_; (case aP => exact rfl); (case aB => repeat (first | exact HBs.out | apply pw_below_drewN | apply below_drew1)); (case aF => exact (fun k hk => Nat.le_trans HBs.out.size hk)); (case aO => repeat (first | exact HR.out | apply Kd.R_drewN | apply Kd.R_drew)); (case aS => exact HBs.out.size); (case aL => have := HLs.out; omega); intro v104 w6 ho hb hg hat))
     refine ⟨⟨s + 1, by have := HBB.out; omega, by have := HLT.out; omega, by go_num, by rw [HSs.out, if_pos HX.out]; exact ho, hb⟩, by have := HLT.out; simp [intOf]; omega⟩
    ·skip
     have HX := Lib.hid (show ¬ E s = true by rw [HEs.out]; simp only [Bool.and_eq_true, decide_eq_true_iff]; omega)
     go_wp2
     repeat (go_quiet (fail); try go_wp2)
     refine ⟨⟨s + 1, by have := HBB.out; omega, by have := HLT.out; omega, by go_num, by rw [HSs.out, if_neg HX.out]; repeat (first | exact HR.out | apply Kd.R_drewN | apply Kd.R_drew), by repeat (first | exact HBs.out | apply pw_below_drewN | apply below_drew1)⟩, by have := HLT.out; simp [intOf]; omega⟩
   ·have q1b : decide (T ≤ wrong) = false := decide_eq_false q1
    have HX := Lib.hid (show ¬ E s = true by rw [HEs.out]; simp only [Bool.and_eq_true, decide_eq_true_iff]; omega)
    go_wp2
    repeat (go_quiet (fail); try go_wp2)
    refine ⟨⟨s + 1, by have := HBB.out; omega, by have := HLT.out; omega, by go_num, by rw [HSs.out, if_neg HX.out]; repeat (first | exact HR.out | apply Kd.R_drewN | apply Kd.R_drew), by repeat (first | exact HBs.out | apply pw_below_drewN | apply below_drew1)⟩, by have := HLT.out; simp [intOf]; omega⟩
  ·obtain rfl : s = n := by omega
   have HRE := Lib.hid (Kd.R_lower (Kd.R_mono hR (fun _ _ => trivial)) HF5.out.size)
   clear hR hb
   go_wp2
   refine bodyPost_ret (v := u13) (by simp [results, Tryd.results67, go_sem]) rfl ⟨_, rfl, HRE.out, Fr0.trans HF5.out HFs.out⟩
/-! ### .. begins -/
set_option maxHeartbeats 16000000 in
set_option maxRecDepth 100000 in
theorem begins57 (h : TF g l ps piece t gs) (ht : 1 ≤ t.length) (hB : HBook w A c l Ap cp ps) (hN : Note w At ct t Ag cg gs) (lo : Int) :
  Calls Tryd.prog 57 #[.agg #[.int .i64 g, .slice A l.length c, .slice Ap ps.length cp], .int .i64 piece, .agg #[.slice At t.length ct, .slice Ag gs.length cg, .int .i64 lost, .int .i64 wrong], .int .i64 lo] w fun e w' =>
   ∃ v, e = .returned v ∧ Kd.R (Kd.int .i64) 3 w' w.heap.size (fun _ => True) v (lst (begR (cF l ps piece t gs) t.length (rd_T62 ps piece).f1.length wrong lo) (rd_T62 ps piece).f1.length) ∧ Fr0 w w' := by
 have pp := ppiece_f h.ok h.p0 h.p1
 obtain ⟨p0, p1⟩ : 0 ≤ piece ∧ piece < ps.length := ⟨h.p0, h.p1⟩
 obtain ⟨pn, rfl⟩ := Int.eq_ofNat_of_zero_le p0
 obtain ⟨adp, A1, c1, eap, z0, z1, hl1, hC1⟩ := at_T62 hB.r (pn : Int) p0 p1
 cases eap
 rw [Int.toNat_natCast] at z1
 have hp64 : ((rd_T62 ps (pn : Int)).f1.length : Int) ≤ 24 := pp.2.1.2
 have ht64 : (t.length : Int) ≤ 24 := by have := h.t2; omega
 have hps6 : (ps.length : Int) ≤ 6 := (pbook_iff.1 h.ok).2.1.2
 have HEN := Lib.hid (fun (s : Nat) (hs : s ≤ (rd_T62 ps (pn : Int)).f1.length) W (hf : Fr0 w W) => ends67 (lost := lost) (wrong := wrong) h ht (hB.fr hf) (hN.fr hf) s hs lo)
 generalize cF l ps (pn : Int) t gs = C at *
 generalize hnn : (rd_T62 ps (pn : Int)).f1.length = n at *
 have HBG := Lib.hid (fun s => show begR C t.length n wrong lo s = decide (0 < (lst (endB C s t.length wrong lo) n).length) from rfl)
 obtain ⟨E, hE⟩ : ∃ E, E = begR C t.length n wrong lo := ⟨_, rfl⟩
 rw [← hE] at HBG ⊢
 have HST := Lib.hid (lst_step E)
 have HLN := Lib.hid (lst_len E)
 have hf0 : Fr0 w ((w.alloc (.cells #[.int .i64 g, .slice A l.length c, .slice (some adp) ps.length cp] 27)).alloc (.cells #[.slice At t.length ct, .slice Ag gs.length cg, .int .i64 lost, .int .i64 wrong] 30)) := ((Fr.refl _ _).alloc _).alloc _
 have c0 : Bx ((w.alloc (.cells #[.int .i64 g, .slice A l.length c, .slice (some adp) ps.length cp] 27)).alloc (.cells #[.slice At t.length ct, .slice Ag gs.length cg, .int .i64 lost, .int .i64 wrong] 30)) w.heap.size 27 #[.int .i64 g, .slice A l.length c, .slice (some adp) ps.length cp] := (Bx.of_new rfl).alloc _
 have d0 : Bx ((w.alloc (.cells #[.int .i64 g, .slice A l.length c, .slice (some adp) ps.length cp] 27)).alloc (.cells #[.slice At t.length ct, .slice Ag gs.length cg, .int .i64 lost, .int .i64 wrong] 30)) (w.heap.size + 1) 30 #[.slice At t.length ct, .slice Ag gs.length cg, .int .i64 lost, .int .i64 wrong] := Bx.of_new (by simp)
 clear h hB hN pp hE ht hnn hl1 hC1 z0
 go_enter Tryd.func57, Tryd.ntmps57
 go_upto_region 1 with fail
 generalize ((w.alloc (.cells #[.int .i64 g, .slice A l.length c, .slice (some adp) ps.length cp] 27)).alloc (.cells #[.slice At t.length ct, .slice Ag gs.length cg, .int .i64 lost, .int .i64 wrong] 30)) = W at hf0 c0 d0 ⊢
 replace z1 := hf0.cell0 z1
 generalize hbb : w.heap.size = b at c0 d0
 clear hbb
 have HF := Lib.hid hf0
 have HC0 := Lib.hid c0
 have HD0 := Lib.hid d0
 have HZ1 := Lib.hid z1
 clear c0 d0 hf0 z1
 go_wp2
 go_loopw [9, 10] (fun v9 v10 wr => ∃ s : Nat, s ≤ n ∧ v10 = .int .i64 s ∧ Kd.R (Kd.int .i64) 3 wr W.heap.size (fun k => W.heap.size ≤ k) v9 (lst E s) ∧ Below W.heap.size W wr) (fun _ v10 _ => (n - intOf v10).toNat)
 case atStart => exact ⟨0, by omega, by rfl, Kd.R_nil _ _ _ _ _, Below.refl _ _⟩
 case round =>
  obtain ⟨s, hs, rfl, hR, hb⟩ := hrel
  have HFs := Lib.hid (show Fr0 W wr from mk_fr hb)
  have z1 := HFs.out.cell0 HZ1.out
  have v2 := (HC0.out.fr0 HFs.out).at_ 2 (v := .slice (some adp) ps.length cp) rfl
  by_cases hlt : s < n
  ·have hle : (s : Int) < n := by omega
   have v0 := (HC0.out.fr0 HFs.out).at_ 0 (v := .int .i64 g) rfl
   have v1 := (HC0.out.fr0 HFs.out).at_ 1 (v := .slice A l.length c) rfl
   have y0 := (HD0.out.fr0 HFs.out).at_ 0 (v := .slice At t.length ct) rfl
   have y1 := (HD0.out.fr0 HFs.out).at_ 1 (v := .slice Ag gs.length cg) rfl
   have y2 := (HD0.out.fr0 HFs.out).at_ 2 (v := .int .i64 lost) rfl
   have y3 := (HD0.out.fr0 HFs.out).at_ 3 (v := .int .i64 wrong) rfl
   have HEs := Lib.hid (HBG.out s)
   have HSs := Lib.hid (HST.out s)
   have HLs := Lib.hid (show (lst E s).length ≤ 24 by have := HLN.out s; omega)
   have HR := Lib.hid hR
   have HBs := Lib.hid hb
   have HLT := Lib.hid hlt
   have HCL := Lib.hid (HEN.out s (by omega) wr (Fr0.trans HF.out HFs.out))
   clear hR hb hlt hs
   generalize lst E s = ys at *
   generalize lst (endB C s t.length wrong lo) n = L at *
   go_upto_region 5 with fail
   go_wp2_with (first
    | (go_at_call 67; refine HCL.out.mono ?_; rintro e W5 ⟨v5, rfl, hR5, hf5⟩; obtain ⟨A5, c5, rfl, _, _⟩ := Kd.R_reads hR5; (have HB5 := Lib.hid (HBs.out.trans (fr_belowN hf5 HBs.out.size))); (have HR5 := Lib.hid (Kd.R_below HR.out (fr_below hf5))); clear hR5 hf5; generalize L.length = k at *; rcases k with _ | k)
    | ((with_reducible refine gate_builtin (b := .append) (xs := #[.tmp 30, .tmp 32]) rfl ?_); at_builtin; refine Kd.R_append (Kd.int .i64) (w0 := W) W.heap.size rfl (.tmp 30) (.tmp 32) 28 3 (.int .i64 0) 8 rfl Tryd.underlying28 inf_3 rfl (by decide) (by omega) _ ys ((s : Int)) [.int .i64 (s : Int)] (fun k => W.heap.size ≤ k) (fun _ => False) rfl rfl ?aP (fun _ hk => hk.elim) ?aF ?aO ?aB ?aS ?aL ?_; (case aP => exact rfl); (case aB => exact HB5.out); (case aF => exact (fun k hk => Nat.le_trans HB5.out.size hk)); (case aO => exact HR5.out); (case aS => exact HB5.out.size); (case aL => have := HLs.out; omega); intro v104 w6 ho hb hg hat))
   ·refine ⟨⟨s + 1, by have := HLT.out; omega, by go_num, by rw [HSs.out, if_neg (by rw [HEs.out]; simp)]; exact HR5.out, HB5.out⟩, by have := HLT.out; simp [intOf]; omega⟩
   ·refine ⟨⟨s + 1, by have := HLT.out; omega, by go_num, by rw [HSs.out, if_pos (by rw [HEs.out]; simp)]; exact ho, hb⟩, by have := HLT.out; simp [intOf]; omega⟩
  ·obtain rfl : s = n := by omega
   have HRE := Lib.hid (Kd.R_lower (Kd.R_mono hR (fun _ _ => trivial)) HF.out.size)
   clear hR hb
   go_wp2
   refine bodyPost_ret (v := u9) (by simp [results, Tryd.results57, go_sem]) rfl ⟨_, rfl, HRE.out, Fr0.trans HF.out HFs.out⟩
end
end RF
end Go.Proofs.YtfdenclnneigfaaDoor.R
