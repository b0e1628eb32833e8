import Derived.Test.YtfdenclnneigfaaDoorGRF
import Derived.Test.YtfdenclnneigfaaDoorM0
set_option linter.unusedVariables false
set_option linter.unusedSimpArgs false
namespace Go.Proofs.YtfdenclnneigfaaDoor.R
open Go.RowKit Go.Shelf Go.Proofs.YtfdenclnneigfaaDoorW.PrintWords Go.Proofs.YtfdenclnneigfaaDoorW.PrintLast Go.Proofs.YtfdenclnneigfaaDoorW.PrintMore Go.Proofs.YtfdenclnneigfaaDoor.PRaspKeys Go.Proofs.YtfdenclnneigfaaDoor.X Go.Proofs.YtfdenclnneigfaaDoor.Q Go.Proofs.YtfdenclnneigfaaDoor.M
attribute [local go_sem] Oper.semAt_some
namespace RF
/-! ### The reference, walked: All, Pieces -/
section
variable {g : Int} {A : Option Addr} {c : Nat} {l : List S114} {Ap : Option Addr} {cp : Nat} {ps : List S62} {w : World}
theorem sits40 (a b d : Int) (w : World) : Calls Tryd.prog 40 #[.int .i64 a, .int .i64 b, .int .i64 d] w fun e w' => e = .returned (.bool (isIn a b d)) ∧ Fr0 w w' :=
 (saronref00_Sits.calls a b d _ w (sits_f a b d)).mono fun e w' h => ⟨h.1, mk_dr h.2⟩
theorem reads_of {W : World} {A : Option Addr} {n : Nat} {xs : List S30} (hC : Kd.C k30 W A n xs) (j : Nat) (hj : j < n) : ∃ ad A0 c0 A1 c1, A = some ad ∧ W.cell? (ad.add (j * 4)) = some (.slice A0 (rd_T30 xs (j : Int)).f0.length c0) ∧ W.cell? ⟨(ad.add (j * 4)).block, (ad.add (j * 4)).off + 1, none⟩ = some (.slice A1 (rd_T30 xs (j : Int)).f1.length c1) ∧ W.cell? ⟨(ad.add (j * 4)).block, (ad.add (j * 4)).off + 2, none⟩ = some (.int .i64 (rd_T30 xs (j : Int)).f2) ∧ W.cell? ⟨(ad.add (j * 4)).block, (ad.add (j * 4)).off + 3, none⟩ = some (.int .i64 (rd_T30 xs (j : Int)).f3) ∧ Note W A0 c0 (rd_T30 xs (j : Int)).f0 A1 c1 (rd_T30 xs (j : Int)).f1 := by
 obtain ⟨ad, A0, c0, A1, c1, e, x0, x1, x2, x3, l0, g0, l1, g1⟩ := at_T30 hC (j : Int) (by omega) (by omega)
 rw [Int.toNat_natCast] at x0 x1 x2 x3
 exact ⟨ad, A0, c0, A1, c1, e, x0, x1, x2, x3, ⟨g0, l0, g1, l1⟩⟩
def finA (g : Int) (l : List S114) (ps : List S62) (ns : List S30) (ok : Bool) : List Int × Int :=
 if askE g l ps ok = 0 then (lst (fun k => ns.all (fitN g l ps k)) ps.length, 0) else ([], askE g l ps ok)
theorem finA_eq (ns : List S30) : finA g l ps ns (isIn (ns.length : Int) 1 6 && ns.all nOk) = allF g l ps ns := by
 unfold finA allF askE hcheckE
 by_cases hk : hbookOk g l ps = true
 ·rw [if_pos hk, if_pos hk, if_pos rfl]
  by_cases ho : (isIn (ns.length : Int) 1 6 && ns.all nOk) = true
  ·rw [if_pos ho, if_pos ho, if_pos rfl]
  ·rw [if_neg ho, if_neg ho, if_neg (by omega)]
 ·rw [if_neg hk, if_neg hk, if_neg (by omega), if_neg (by omega)]
theorem begins57n {piece : Int} {At : Option Addr} {ct : Nat} {t : List Int} {Ag : Option Addr} {cg : Nat} {gs : List Int} {lost wrong : Int} (h : TF g l ps piece t gs) (ht : 1 ≤ t.length) (hB : HBook w A c l Ap cp ps) (hN : Note w At ct t Ag cg gs) (lo : Int) (K : Nat) (hK : (lst (begR (cF l ps piece t gs) t.length (rd_T62 ps piece).f1.length wrong lo) (rd_T62 ps piece).f1.length).length = K) :
  Calls Tryd.prog 57 #[.agg #[.int .i64 g, .slice A l.length c, .slice Ap ps.length cp], .int .i64 piece, .agg #[.slice At t.length ct, .slice Ag gs.length cg, .int .i64 lost, .int .i64 wrong], .int .i64 lo] w fun e w' => ∃ A2 c2, e = .returned (.slice A2 K c2) ∧ Fr0 w w' :=
 (begins57 h ht hB hN lo).mono fun e w' ⟨v, e1, hR, hf⟩ => by
  obtain ⟨A2, c2, rfl, _, _⟩ := Kd.R_reads hR
  exact ⟨A2, c2, by rw [e1, hK], hf⟩
set_option maxHeartbeats 16000000 in
set_option maxRecDepth 100000 in
theorem rall29 {An : Option Addr} {cn : Nat} {ns : List S30} (hB : HBook w A c l Ap cp ps) (hr : Kd.C k30 w An ns.length ns) (hc : ns.length ≤ cn) :
  Calls Tryd.prog 29 #[.agg #[.int .i64 g, .slice A l.length c, .slice Ap ps.length cp], .slice An ns.length cn] w fun e w' => ∃ v, e = .returned (.tuple #[v, .int .i64 (allF g l ps ns).2]) ∧ Kd.R (Kd.int .i64) 3 w' w.heap.size (fun _ => True) v (allF g l ps ns).1 ∧ Fr0 w w' := by
 have hf0 : Fr0 w (w.alloc (.cells #[.int .i64 g, .slice A l.length c, .slice Ap ps.length cp] 27)) := (Fr.refl _ _).alloc _
 have c0 : Bx (w.alloc (.cells #[.int .i64 g, .slice A l.length c, .slice Ap ps.length cp] 27)) w.heap.size 27 #[.int .i64 g, .slice A l.length c, .slice Ap ps.length cp] := Bx.of_new rfl
 have hnl := C_len hr
 have HSI := Lib.hid (fun W => sits40 (ns.length : Int) 1 6 W)
 have HAS := Lib.hid (fun W (hf : Fr0 w W) ok => asked54 (g := g) (hB.fr hf) ok)
 have HFA := Lib.hid (finA_eq (g := g) (l := l) (ps := ps) ns)
 have HQ0 := Lib.hid (fun (h : isIn (ns.length : Int) 1 6 = true) => show (ns.length : Int) ≤ 6 from (isIn_iff.1 h).2)
 have HB := Lib.hid hB
 have HR := Lib.hid hr
 rw [← finA_eq]
 generalize isIn (ns.length : Int) 1 6 = q0 at *
 clear hB hr
 go_enter Tryd.func29, Tryd.ntmps29
 go_upto_region 1 with fail
 generalize w.alloc (.cells #[.int .i64 g, .slice A l.length c, .slice Ap ps.length cp] 27) = W at hf0 c0 ⊢
 generalize hbb : w.heap.size = b at c0
 clear hbb
 have HF := Lib.hid hf0
 have HC0 := Lib.hid c0
 clear c0 hf0
 go_wp2_with (go_at_call 40; refine (HSI.out _).mono ?_; rintro e W1 ⟨rfl, hf⟩; (have HF1 := Lib.hid (Fr0.trans HF.out hf)); (have HC1 := Lib.hid (HC0.out.fr0 hf)); clear hf)
 go_loopw [6, 7] (fun v6 v7 wr => ∃ n : Nat, n ≤ ns.length ∧ v7 = .int .i64 n ∧ v6 = .bool (q0 && (ns.take n).all nOk) ∧ Fr0 W1 wr) (fun _ v7 _ => (ns.length - intOf v7).toNat)
 case atStart => exact ⟨0, by omega, by rfl, by simp, Fr.refl _ _⟩
 case round =>
  obtain ⟨n, hn, rfl, rfl, hf⟩ := hrel
  have HFn := Lib.hid hf
  clear hf
  have HCn := Lib.hid (HC1.out.fr0 HFn.out)
  have HFw := Lib.hid (Fr0.trans HF1.out HFn.out)
  obtain ⟨q, hq⟩ : ∃ q, q = (q0 && (ns.take n).all nOk) := ⟨_, rfl⟩
  rw [← hq]
  cases q
  ·have hfin : (q0 && ns.all nOk) = false := by
    cases h : (q0 && ns.all nOk)
    ·rfl
    ·rw [Bool.and_eq_true] at h
     rw [h.1, Bool.true_and] at hq
     have hq2 := hq.symm
     rw [List.all_eq_false] at hq2
     obtain ⟨x, hx, hx2⟩ := hq2
     exact absurd (List.all_eq_true.1 h.2 x (List.mem_of_mem_take hx)) hx2
   have v0 := HCn.out.at_ 0 (v := .int .i64 g) rfl
   have v1 := HCn.out.at_ 1 (v := .slice A l.length c) rfl
   have v2 := HCn.out.at_ 2 (v := .slice Ap ps.length cp) rfl
   have HAK := Lib.hid (HAS.out wr HFw.out false)
   have hne : (askE g l ps false != 0) = true := by unfold askE; split <;> rfl
   have HFI := Lib.hid (show finA g l ps ns (q0 && ns.all nOk) = ([], askE g l ps false) by rw [hfin]; unfold finA; rw [if_neg (by simpa using hne)])
   clear hq hfin hn
   generalize askE g l ps false = E at *
   go_wp2_with (go_at_call 54; refine HAK.out.mono ?_; rintro e W4 ⟨rfl, hf4⟩)
   refine bodyPost_ret (v := .tuple #[.slice none 0 0, .int .i64 E]) (by simp [results, Tryd.results29, go_sem]) rfl ⟨_, by rw [HFI.out], by rw [HFI.out]; exact Kd.R_nil _ _ _ _ _, Fr0.trans HFw.out hf4⟩
  ·have hq2 := hq.symm
   rw [Bool.and_eq_true] at hq2
   obtain ⟨rfl, htk⟩ := hq2
   have hn6 := HQ0.out rfl
   clear hq
   by_cases hlt : n < ns.length
   ·have hle : (n : Int) < ns.length := by omega
    obtain ⟨ad, A0, c0, A1, c1, ead, x0, x1, x2, x3, hNt⟩ := reads_of (C_fr HR.out HFw.out) n hlt
    cases ead
    have HTK := Lib.hid (show (ns.take (n + 1)).all nOk = nOk (rd_T30 ns (n : Int)) by
     rw [List.take_succ_eq_append_getElem hlt, List.all_append, List.all_cons, List.all_nil, Bool.and_true, show rd_T30 ns (n : Int) = ns[n] by simp [rd_T30, hlt], htk, Bool.true_and])
    generalize rd_T30 ns (n : Int) = x at *
    have HIN := Lib.hid (isNote56 (lost := x.f2) (wrong := x.f3) hNt)
    have HLT := Lib.hid hlt
    clear hNt htk hlt hn
    go_wp2_with (go_at_call 56; refine HIN.out.mono ?_; rintro e W4 ⟨rfl, hf4⟩)
    go_roundw
    case rel => exact ⟨n + 1, by have := HLT.out; omega, by go_num, by rw [HTK.out]; rfl, Fr0.trans HFn.out hf4⟩
    case measure => simp [intOf]; omega
   ·obtain rfl : n = ns.length := by omega
    rw [List.take_length] at htk
    have HNO := Lib.hid (fun i (hi : i < ns.length) => show nOk (rd_T30 ns (i : Int)) = true by
     rw [show rd_T30 ns (i : Int) = ns[i] by simp [rd_T30, hi]]
     exact List.all_eq_true.1 htk _ (List.getElem_mem hi))
    have HTT := Lib.hid (show (true && ns.all nOk) = true by rw [htk]; rfl)
    have v0 := HCn.out.at_ 0 (v := .int .i64 g) rfl
    have v1 := HCn.out.at_ 1 (v := .slice A l.length c) rfl
    have v2 := HCn.out.at_ 2 (v := .slice Ap ps.length cp) rfl
    have HAK := Lib.hid (HAS.out wr HFw.out true)
    clear htk hn
    by_cases hE0 : askE g l ps true = 0
    ·have hk := (askE_ok hE0).1
     have HFI := Lib.hid (show finA g l ps ns (true && ns.all nOk) = (lst (fun k => ns.all (fitN g l ps k)) ps.length, 0) by rw [HTT.out]; unfold finA; rw [if_pos hE0])
     rw [hE0] at HAK
     have hps6 : (ps.length : Int) ≤ 6 := (pbook_iff.1 hk).2.1.2
     have HK := Lib.hid hk
     clear hE0 hk
     obtain ⟨H, hH⟩ : ∃ H : Nat → Bool, H = fun k => ns.all (fitN g l ps k) := ⟨_, rfl⟩
     have HH := Lib.hid (fun p => show H p = ns.all (fitN g l ps p) by rw [hH])
     rw [← hH] at HFI
     have HST := Lib.hid (lst_step H)
     have HLN := Lib.hid (lst_len H)
     clear hH
     go_wp2_with (go_at_call 54; refine HAK.out.mono ?_; rintro e W8 ⟨rfl, hf⟩; (have HF8 := Lib.hid (Fr0.trans HFw.out hf)); (have HC8 := Lib.hid (HCn.out.fr0 hf)); clear hf)
     try clear v0 v1 v2
     go_loopw [9, 10] (fun v9 v10 wr => ∃ p : Nat, p ≤ ps.length ∧ v10 = .int .i64 p ∧ Kd.R (Kd.int .i64) 3 wr W8.heap.size (fun k => W8.heap.size ≤ k) v9 (lst H p) ∧ Below W8.heap.size W8 wr) (fun _ v10 _ => (ps.length - intOf v10).toNat)
     case atStart => exact ⟨0, by omega, by rfl, Kd.R_nil _ _ _ _ _, Below.refl _ _⟩
     case round =>
      obtain ⟨p, hp, rfl, hRp, hbp⟩ := hrel
      have HFp := Lib.hid (show Fr0 W8 wr from mk_fr hbp)
      have v2 := (HC8.out.fr0 HFp.out).at_ 2 (v := .slice Ap ps.length cp) rfl
      by_cases hlt : p < ps.length
      ·have hle : (p : Int) < ps.length := by omega
       have HLT := Lib.hid hlt
       have HRp := Lib.hid hRp
       have HBp := Lib.hid hbp
       have HSp := Lib.hid (HST.out p)
       have HLp := Lib.hid (show (lst H p).length ≤ 6 by have := HLN.out p; omega)
       have HHp := Lib.hid (HH.out p)
       have HF10 := Lib.hid (Fr0.trans HF8.out HFp.out)
       clear hlt hRp hbp hp
       generalize lst H p = ys at *
       generalize wr = w10 at *
       go_wp2
       clear v2
       go_loopw [11, 12] (fun v11 v12 wr => ∃ i : Nat, i ≤ ns.length ∧ v12 = .int .i64 i ∧ v11 = .bool ((ns.take i).all (fitN g l ps p)) ∧ Fr0 w10 wr) (fun _ v12 _ => (ns.length - intOf v12).toNat)
       case atStart => exact ⟨0, by omega, by rfl, by simp, Fr.refl _ _⟩
       case round =>
        obtain ⟨i, hi, rfl, rfl, hf⟩ := hrel
        have HFi := Lib.hid hf
        clear hf
        by_cases hlt2 : i < ns.length
        ·have hle2 : (i : Int) < ns.length := by omega
         have HFr := Lib.hid (Fr0.trans HF10.out HFi.out)
         obtain ⟨ad, A0, c0, A1, c1, ead, x0, x1, x2, x3, hNt⟩ := reads_of (C_fr HR.out HFr.out) i hlt2
         cases ead
         have hok := HNO.out i hlt2
         have HTK := Lib.hid (show (ns.take (i + 1)).all (fitN g l ps p) = ((ns.take i).all (fitN g l ps p) && fitN g l ps p (rd_T30 ns (i : Int))) by
          rw [List.take_succ_eq_append_getElem hlt2, List.all_append, List.all_cons, List.all_nil, Bool.and_true, show rd_T30 ns (i : Int) = ns[i] by simp [rd_T30, hlt2]])
         generalize rd_T30 ns (i : Int) = x at *
         obtain ⟨hT, ht1, hlo, hwr⟩ := tf_of HK.out (show (0 : Int) ≤ (p : Int) by omega) (by have := HLT.out; omega) (show noteB x.f0 x.f1 x.f2 x.f3 = true from hok) (C_len hNt.rg)
         have hfe := fits_eq (g := g) (l := l) (ps := ps) (piece := (p : Int)) (t := x.f0) (gs := x.f1) ht1 (wrong := x.f3) (lost := x.f2) (L := x.f2) hlo.1 (by omega)
         rw [show (hcx g l ps (p : Int) x.f0 x.f1 x.f2 x.f3).fitsB x.f2 = fitN g l ps p x from rfl] at hfe
         obtain ⟨K, hK⟩ : ∃ K, (lst (begR (cF l ps (p : Int) x.f0 x.f1) x.f0.length (rd_T62 ps (p : Int)).f1.length x.f3 x.f2) (rd_T62 ps (p : Int)).f1.length).length = K := ⟨_, rfl⟩
         have HPC := Lib.hid (fun W' (hf : Fr0 wr W') => begins57n (lost := x.f2) hT ht1 ((HB.out.fr HFr.out).fr hf) (hNt.fr hf) x.f2 K hK)
         rw [hK] at hfe
         have HFE := Lib.hid hfe
         have HLT2 := Lib.hid hlt2
         have HCw := Lib.hid (HC8.out.fr0 (Fr0.trans HFp.out HFi.out))
         have v0 := HCw.out.at_ 0 (v := .int .i64 g) rfl
         have v1 := HCw.out.at_ 1 (v := .slice A l.length c) rfl
         have v2 := HCw.out.at_ 2 (v := .slice Ap ps.length cp) rfl
         clear hok hT ht1 hlo hwr hNt hfe hK hlt2 hi
         generalize (ns.take i).all (fitN g l ps p) = q at *
         generalize fitN g l ps p x = fv at *
         go_upto_region 17 with fail
         cases q
         ·clear HPC
          refine start_ (n := 18) (S := fun w' => w'.cell? ⟨b, 0, none⟩ = some (.int .i64 g) ∧ w'.cell? ⟨b, 1, none⟩ = some (.slice A l.length c) ∧ w'.cell? ⟨b, 2, none⟩ = some (.slice Ap ps.length cp) ∧ w'.cell? (ad.add (i * 4)) = some (.slice A0 x.f0.length c0) ∧ w'.cell? ⟨(ad.add (i * 4)).block, (ad.add (i * 4)).off + 1, none⟩ = some (.slice A1 x.f1.length c1) ∧ w'.cell? ⟨(ad.add (i * 4)).block, (ad.add (i * 4)).off + 2, none⟩ = some (.int .i64 x.f2) ∧ w'.cell? ⟨(ad.add (i * 4)).block, (ad.add (i * 4)).off + 3, none⟩ = some (.int .i64 x.f3)) (ds := []) (.replicate 18 false) (by kernel_rfl) rfl rfl ⟨v0, v1, v2, x0, x1, x2, x3⟩ (fun hHeld => ?_)
          refine pu 0 49 (bt 18 1) (k := ?_)
          refine pu 1 50 (bt 18 3) (k := ?_)
          refine pv 2 51 (bt 18 7) (k := ?_)
          refine pv 3 52 (bt 18 15) (k := ?_)
          refine pv 4 53 (bt 18 31) (k := ?_)
          refine pv 5 54 (bt 18 63) (k := ?_)
          refine pv 6 55 (bt 18 127) (k := ?_)
          refine pv 7 56 (bt 18 255) (k := ?_)
          refine pv 8 57 (bt 18 511) (k := ?_)
          refine pv 9 58 (bt 18 1023) (k := ?_)
          refine pv 10 59 (bt 18 2047) (k := ?_)
          refine pv 11 60 (bt 18 4095) (k := ?_)
          refine pv 12 61 (bt 18 8191) (k := ?_)
          refine pv 13 62 (bt 18 16383) (k := ?_)
          refine pv 14 63 (bt 18 32767) (k := ?_)
          refine pv 15 64 (bt 18 65535) (k := ?_)
          refine pu 16 65 (bt 18 131071) (k := ?_)
          refine pu 17 11 (bt 18 262143) (k := ?_)
          refine done_ (by kernel_rfl) ?_
          clear hHeld v0 v1 v2 x0 x1 x2 x3
          go_wp2
          go_roundw
          case rel => exact ⟨i + 1, by have := HLT2.out; omega, by go_num, by rw [HTK.out]; rfl, Fr0.trans HFi.out (Fr.drew (Fr.refl _ _))⟩
          case measure => simp [intOf]; omega
         ·rcases K with _ | K
          ·have hfv : fv = false := by rw [← HFE.out]; rfl
           subst hfv
           refine start_ (n := 18) (S := fun w' => w'.cell? ⟨b, 0, none⟩ = some (.int .i64 g) ∧ w'.cell? ⟨b, 1, none⟩ = some (.slice A l.length c) ∧ w'.cell? ⟨b, 2, none⟩ = some (.slice Ap ps.length cp) ∧ w'.cell? (ad.add (i * 4)) = some (.slice A0 x.f0.length c0) ∧ w'.cell? ⟨(ad.add (i * 4)).block, (ad.add (i * 4)).off + 1, none⟩ = some (.slice A1 x.f1.length c1) ∧ w'.cell? ⟨(ad.add (i * 4)).block, (ad.add (i * 4)).off + 2, none⟩ = some (.int .i64 x.f2) ∧ w'.cell? ⟨(ad.add (i * 4)).block, (ad.add (i * 4)).off + 3, none⟩ = some (.int .i64 x.f3)) (ds := []) (.replicate 18 false) (by kernel_rfl) rfl rfl ⟨v0, v1, v2, x0, x1, x2, x3⟩ (fun hHeld => ?_)
           refine pu 0 49 (bt 18 1) (k := ?_)
           refine pu 1 50 (bt 18 3) (k := ?_)
           refine pu 3 52 (bt 18 11) (k := ?_)
           refine pu 4 53 (bt 18 27) (k := ?_)
           refine pu 5 54 (bt 18 59) (k := ?_)
           refine pu 6 55 (bt 18 123) (k := ?_)
           refine pu 8 57 (bt 18 379) (k := ?_)
           refine pu 9 58 (bt 18 891) (k := ?_)
           refine pu 10 59 (bt 18 1915) (k := ?_)
           refine pu 11 60 (bt 18 3963) (k := ?_)
           refine tk7 2 51 (bt 18 3967) hHeld (k := ?_)
           refine tk7 7 56 (bt 18 4095) hHeld (k := ?_)
           refine tk7 12 61 (bt 18 8191) hHeld (k := ?_)
           refine oN 13 62 (bt 18 16383) (h := fun K hK => ?_)
           refine goes_ Tryd.func57 (by kernel_rfl) rfl #[.agg #[.int .i64 g, .slice A l.length c, .slice Ap ps.length cp], .int .i64 (p : Int), .agg #[.slice A0 x.f0.length c0, .slice A1 x.f1.length c1, .int .i64 x.f2, .int .i64 x.f3], .int .i64 x.f2] (by rfl) rfl rfl TN ?_
           with_reducible refine (HPC.out _ (Fr.drew (Fr.refl _ wr))).mono ?_
           rintro e W11 ⟨A4, c4, rfl, hf11⟩
           refine ⟨_, rfl, ?_⟩
           have H11 := Lib.hid (Fr0.trans (Fr.drew (Fr.refl _ wr)) hf11)
           refine hK.out _ _ ⟨(H11.out.cell0 v0), (H11.out.cell0 v1), (H11.out.cell0 v2), (H11.out.cell0 x0), (H11.out.cell0 x1), (H11.out.cell0 x2), (H11.out.cell0 x3)⟩ (fun hHeld => ?_)
           clear hK K
           refine norm_ (a' := ?_) ?_ ?_
           rotate_left
           ·show Act.put _ (some 62) _ = _
            simp only [Act.put, lA, lZ, lS, i64_w, i32_w]
            rfl
           refine pu 14 63 (bt 18 32767) (k := ?_)
           refine pu 15 64 (bt 18 65535) (k := ?_)
           refine pu 16 65 (bt 18 131071) (k := ?_)
           refine pu 17 11 (bt 18 262143) (k := ?_)
           refine done_ (by kernel_rfl) ?_
           clear hHeld v0 v1 v2 x0 x1 x2 x3
           go_wp2
           go_roundw
           case rel => exact ⟨i + 1, by have := HLT2.out; omega, by go_num, by rw [HTK.out]; rfl, Fr0.trans HFi.out H11.out⟩
           case measure => simp [intOf]; omega
          ·have hfv : fv = true := by rw [← HFE.out]; simp
           subst hfv
           refine start_ (n := 18) (S := fun w' => w'.cell? ⟨b, 0, none⟩ = some (.int .i64 g) ∧ w'.cell? ⟨b, 1, none⟩ = some (.slice A l.length c) ∧ w'.cell? ⟨b, 2, none⟩ = some (.slice Ap ps.length cp) ∧ w'.cell? (ad.add (i * 4)) = some (.slice A0 x.f0.length c0) ∧ w'.cell? ⟨(ad.add (i * 4)).block, (ad.add (i * 4)).off + 1, none⟩ = some (.slice A1 x.f1.length c1) ∧ w'.cell? ⟨(ad.add (i * 4)).block, (ad.add (i * 4)).off + 2, none⟩ = some (.int .i64 x.f2) ∧ w'.cell? ⟨(ad.add (i * 4)).block, (ad.add (i * 4)).off + 3, none⟩ = some (.int .i64 x.f3)) (ds := []) (.replicate 18 false) (by kernel_rfl) rfl rfl ⟨v0, v1, v2, x0, x1, x2, x3⟩ (fun hHeld => ?_)
           refine pu 0 49 (bt 18 1) (k := ?_)
           refine pu 1 50 (bt 18 3) (k := ?_)
           refine pu 3 52 (bt 18 11) (k := ?_)
           refine pu 4 53 (bt 18 27) (k := ?_)
           refine pu 5 54 (bt 18 59) (k := ?_)
           refine pu 6 55 (bt 18 123) (k := ?_)
           refine pu 8 57 (bt 18 379) (k := ?_)
           refine pu 9 58 (bt 18 891) (k := ?_)
           refine pu 10 59 (bt 18 1915) (k := ?_)
           refine pu 11 60 (bt 18 3963) (k := ?_)
           refine tk7 2 51 (bt 18 3967) hHeld (k := ?_)
           refine tk7 7 56 (bt 18 4095) hHeld (k := ?_)
           refine tk7 12 61 (bt 18 8191) hHeld (k := ?_)
           refine oN 13 62 (bt 18 16383) (h := fun K hK => ?_)
           refine goes_ Tryd.func57 (by kernel_rfl) rfl #[.agg #[.int .i64 g, .slice A l.length c, .slice Ap ps.length cp], .int .i64 (p : Int), .agg #[.slice A0 x.f0.length c0, .slice A1 x.f1.length c1, .int .i64 x.f2, .int .i64 x.f3], .int .i64 x.f2] (by rfl) rfl rfl TN ?_
           with_reducible refine (HPC.out _ (Fr.drew (Fr.refl _ wr))).mono ?_
           rintro e W11 ⟨A4, c4, rfl, hf11⟩
           refine ⟨_, rfl, ?_⟩
           have H11 := Lib.hid (Fr0.trans (Fr.drew (Fr.refl _ wr)) hf11)
           refine hK.out _ _ ⟨(H11.out.cell0 v0), (H11.out.cell0 v1), (H11.out.cell0 v2), (H11.out.cell0 x0), (H11.out.cell0 x1), (H11.out.cell0 x2), (H11.out.cell0 x3)⟩ (fun hHeld => ?_)
           clear hK K
           refine norm_ (a' := ?_) ?_ ?_
           rotate_left
           ·show Act.put _ (some 62) _ = _
            simp only [Act.put, lA, lZ, lS, i64_w, i32_w]
            rfl
           refine pu 14 63 (bt 18 32767) (k := ?_)
           refine pu 15 64 (bt 18 65535) (k := ?_)
           refine pu 16 65 (bt 18 131071) (k := ?_)
           refine pu 17 11 (bt 18 262143) (k := ?_)
           refine done_ (by kernel_rfl) ?_
           clear hHeld v0 v1 v2 x0 x1 x2 x3
           go_wp2
           go_roundw
           case rel => exact ⟨i + 1, by have := HLT2.out; omega, by go_num, by rw [HTK.out]; rfl, Fr0.trans HFi.out H11.out⟩
           case measure => simp [intOf]; omega
        ·obtain rfl : i = ns.length := by omega
         rw [List.take_length]
         have HB6 := Lib.hid (HBp.out.trans (fr_belowN HFi.out HBp.out.size))
         have HR6 := Lib.hid (Kd.R_below HRp.out (fr_below HFi.out))
         rw [← HHp.out]
         generalize hv : H p = fv at *
         have HV := Lib.hid hv
         clear hv
         cases fv
         ·go_wp2
          refine ⟨⟨p + 1, by have := HLT.out; omega, by go_num, by rw [HSp.out, if_neg (by simp)]; exact HR6.out, HB6.out⟩, by have := HLT.out; simp [intOf]; omega⟩
         ·go_wp2_with ((with_reducible refine gate_builtin (b := .append) (xs := #[.tmp 67, .tmp 69]) rfl ?_); at_builtin; refine Kd.R_append (Kd.int .i64) (w0 := W8) W8.heap.size rfl (.tmp 67) (.tmp 69) 28 3 (.int .i64 0) 8 rfl Tryd.underlying28 inf_3 rfl (by decide) (by omega) _ ys ((p : Int)) [.int .i64 (p : Int)] (fun k => W8.heap.size ≤ k) (fun _ => False) rfl rfl ?aP (fun _ hk => hk.elim) ?aF ?aO ?aB ?aS ?aL ?_; (case aP => exact rfl); (case aB => exact HB6.out); (case aF => exact (fun k hk => Nat.le_trans HB6.out.size hk)); (case aO => exact HR6.out); (case aS => exact HB6.out.size); (case aL => have := HLp.out; omega); intro v104 w6 ho hb hg hat)
          refine ⟨⟨p + 1, by have := HLT.out; omega, by go_num, by rw [HSp.out, if_pos rfl]; exact ho, hb⟩, by have := HLT.out; simp [intOf]; omega⟩
      ·obtain rfl : p = ps.length := by omega
       have HRE := Lib.hid (Kd.R_lower (Kd.R_mono hRp (fun _ _ => trivial)) HF8.out.size)
       clear hRp hbp
       go_wp2
       refine bodyPost_ret (v := .tuple #[u9, .int .i64 0]) (by simp [results, Tryd.results29, go_sem]) rfl ⟨_, by rw [HFI.out], by rw [HFI.out]; exact HRE.out, Fr0.trans HF8.out HFp.out⟩
    ·have hne : (askE g l ps true != 0) = true := by simpa using hE0
     have HFI := Lib.hid (show finA g l ps ns (true && ns.all nOk) = ([], askE g l ps true) by rw [HTT.out]; unfold finA; rw [if_neg hE0])
     clear hE0
     generalize askE g l ps true = E at *
     go_wp2_with (go_at_call 54; refine HAK.out.mono ?_; rintro e W4 ⟨rfl, hf4⟩)
     refine bodyPost_ret (v := .tuple #[.slice none 0 0, .int .i64 E]) (by simp [results, Tryd.results29, go_sem]) rfl ⟨_, by rw [HFI.out], by rw [HFI.out]; exact Kd.R_nil _ _ _ _ _, Fr0.trans HFw.out hf4⟩
set_option maxHeartbeats 4000000 in
set_option maxRecDepth 100000 in
theorem rpieces19 {At : Option Addr} {ct : Nat} {t : List Int} {Ag : Option Addr} {cg : Nat} {gs : List Int} {lost wrong : Int} (hB : HBook w A c l Ap cp ps) (hN : Note w At ct t Ag cg gs) :
  Calls Tryd.prog 19 #[.agg #[.int .i64 g, .slice A l.length c, .slice Ap ps.length cp], .agg #[.slice At t.length ct, .slice Ag gs.length cg, .int .i64 lost, .int .i64 wrong]] w fun e w' => ∃ v0, e = .returned (.tuple #[v0, .int .i64 (allF g l ps [⟨t, gs, lost, wrong⟩]).2]) ∧ Kd.R (Kd.int .i64) 3 w' w.heap.size (fun _ => True) v0 (allF g l ps [⟨t, gs, lost, wrong⟩]).1 ∧ Fr0 w w' := by
 have hf0 : Fr0 w ((w.alloc (.cells #[.int .i64 g, .slice A l.length c, .slice Ap ps.length cp] 27)).alloc (.cells #[.slice At t.length ct, .slice Ag gs.length cg, .int .i64 lost, .int .i64 wrong] 30)) := ((Fr.refl _ _).alloc _).alloc _
 have c0 : Bx ((w.alloc (.cells #[.int .i64 g, .slice A l.length c, .slice Ap ps.length cp] 27)).alloc (.cells #[.slice At t.length ct, .slice Ag gs.length cg, .int .i64 lost, .int .i64 wrong] 30)) w.heap.size 27 #[.int .i64 g, .slice A l.length c, .slice Ap ps.length cp] := (Bx.of_new rfl).alloc _
 have d0 : Bx ((w.alloc (.cells #[.int .i64 g, .slice A l.length c, .slice Ap ps.length cp] 27)).alloc (.cells #[.slice At t.length ct, .slice Ag gs.length cg, .int .i64 lost, .int .i64 wrong] 30)) (w.heap.size + 1) 30 #[.slice At t.length ct, .slice Ag gs.length cg, .int .i64 lost, .int .i64 wrong] := Bx.of_new (by simp)
 have HAL := Lib.hid (fun W (hf : Fr0 w W) => rall29 (g := g) (cn := 1) (ns := [⟨t, gs, lost, wrong⟩]) ((hB.fr hf).fr ((Fr.refl _ _).alloc (.cells #[.slice At t.length ct, .slice Ag gs.length cg, .int .i64 lost, .int .i64 wrong] 30))) (one_note W _ rfl At ct t Ag cg gs lost wrong (hN.fr hf)) (by simp))
 simp only [List.length_cons, List.length_nil, Nat.zero_add] at HAL
 generalize allF g l ps [⟨t, gs, lost, wrong⟩] = ST at *
 clear hB hN
 go_enter Tryd.func19, Tryd.ntmps19
 go_upto_region 1 with fail
 generalize (w.alloc (.cells #[.int .i64 g, .slice A l.length c, .slice Ap ps.length cp] 27)).alloc (.cells #[.slice At t.length ct, .slice Ag gs.length cg, .int .i64 lost, .int .i64 wrong] 30) = W at hf0 c0 d0 ⊢
 generalize w.heap.size = b at c0 d0
 have v0 := c0.at_ 0 (v := .int .i64 g) rfl
 have v1 := c0.at_ 1 (v := .slice A l.length c) rfl
 have v2 := c0.at_ 2 (v := .slice Ap ps.length cp) rfl
 have y0 := d0.at_ 0 (v := .slice At t.length ct) rfl
 have y1 := d0.at_ 1 (v := .slice Ag gs.length cg) rfl
 have y2 := d0.at_ 2 (v := .int .i64 lost) rfl
 have y3 := d0.at_ 3 (v := .int .i64 wrong) rfl
 have HF := Lib.hid hf0
 clear c0 d0 hf0
 go_wp2_with (go_at_call 29; refine (HAL.out W HF.out).mono ?_; rintro e W1 ⟨z0, rfl, hV1, hb1⟩; (have HV1 := Lib.hid hV1); (have HB1 := Lib.hid hb1); clear hV1 hb1)
 have hsz : w.heap.size ≤ (W.alloc (.cells #[.slice At t.length ct, .slice Ag gs.length cg, .int .i64 lost, .int .i64 wrong] 30)).heap.size := (HF.out.alloc _).size
 refine bodyPost_ret (v := .tuple #[z0, .int .i64 ST.2]) (by simp [results, Tryd.results19, go_sem]) rfl ⟨_, rfl, Kd.R_lower HV1.out hsz, Fr0.trans (HF.out.alloc _) HB1.out⟩
end
end RF
end Go.Proofs.YtfdenclnneigfaaDoor.R
namespace Go.Proofs.YtfdenclnneigfaaDoor.PRaspKeys
open Go.RowKit Go.Proofs.YtfdenclnneigfaaDoorW.PrintWords Go.Proofs.YtfdenclnneigfaaDoorW.PrintLast Go.Proofs.YtfdenclnneigfaaDoor.R Go.Proofs.YtfdenclnneigfaaDoor.M
def saronref09_Fits.f (a0_0 : Int) (l0_1 : List S114) (l0_2 : List S62) (a1 : Int) (l2_0 : List Int) (l2_1 : List Int) (a2_2 : Int) (a2_3 : Int) : Option (Bool × Int) := some (fitF a0_0 l0_1 l0_2 a1 l2_0 l2_1 a2_2 a2_3)
theorem saronref09_Fits.calls (a0_0 : Int) (A0_1 : Option Addr) (c0_1 : Nat) (l0_1 : List S114) (A0_2 : Option Addr) (c0_2 : Nat) (l0_2 : List S62) (a1 : Int) (A2_0 : Option Addr) (c2_0 : Nat) (l2_0 : List Int) (A2_1 : Option Addr) (c2_1 : Nat) (l2_1 : List Int) (a2_2 : Int) (a2_3 : Int) (r1 : Bool) (r2 : Int) (w : World) (hr0_1 : Kd.C k114 w A0_1 l0_1.length l0_1) (hc0_1 : l0_1.length ≤ c0_1) (hr0_2 : Kd.C k62 w A0_2 l0_2.length l0_2) (hc0_2 : l0_2.length ≤ c0_2) (hr2_0 : Kd.C (Kd.int .i64) w A2_0 l2_0.length l2_0) (hc2_0 : l2_0.length ≤ c2_0) (hr2_1 : Kd.C (Kd.int .i64) w A2_1 l2_1.length l2_1) (hc2_1 : l2_1.length ≤ c2_1) (hG : Glob w) (h : saronref09_Fits.f a0_0 l0_1 l0_2 a1 l2_0 l2_1 a2_2 a2_3 = some (r1, r2)) :
  Calls Tryd.prog 15 #[.agg #[.int .i64 a0_0, .slice A0_1 l0_1.length c0_1, .slice A0_2 l0_2.length c0_2], .int .i64 a1, .agg #[.slice A2_0 l2_0.length c2_0, .slice A2_1 l2_1.length c2_1, .int .i64 a2_2, .int .i64 a2_3]] w fun e w' => e = .returned (.tuple #[.bool r1, .int .i64 r2]) ∧ Below w.heap.size w w' := by
 have e := Option.some.inj h
 have := RF.rfits15 (g := a0_0) (c := c0_1) (piece := a1) (lost := a2_2) (wrong := a2_3) ⟨⟨hr0_1, hc0_1, hG⟩, hr0_2, hc0_2⟩ ⟨hr2_0, hc2_0, hr2_1, hc2_1⟩
 rw [e] at this
 exact this.mono fun e w' h => ⟨h.1, fr_below h.2⟩
def saronref09_Least.f (a0_0 : Int) (l0_1 : List S114) (l0_2 : List S62) (a1 : Int) (l2_0 : List Int) (l2_1 : List Int) (a2_2 : Int) (a2_3 : Int) : Option (Int × Int) := some (leaF a0_0 l0_1 l0_2 a1 l2_0 l2_1 a2_2 a2_3)
theorem saronref09_Least.calls (a0_0 : Int) (A0_1 : Option Addr) (c0_1 : Nat) (l0_1 : List S114) (A0_2 : Option Addr) (c0_2 : Nat) (l0_2 : List S62) (a1 : Int) (A2_0 : Option Addr) (c2_0 : Nat) (l2_0 : List Int) (A2_1 : Option Addr) (c2_1 : Nat) (l2_1 : List Int) (a2_2 : Int) (a2_3 : Int) (r1 : Int) (r2 : Int) (w : World) (hr0_1 : Kd.C k114 w A0_1 l0_1.length l0_1) (hc0_1 : l0_1.length ≤ c0_1) (hr0_2 : Kd.C k62 w A0_2 l0_2.length l0_2) (hc0_2 : l0_2.length ≤ c0_2) (hr2_0 : Kd.C (Kd.int .i64) w A2_0 l2_0.length l2_0) (hc2_0 : l2_0.length ≤ c2_0) (hr2_1 : Kd.C (Kd.int .i64) w A2_1 l2_1.length l2_1) (hc2_1 : l2_1.length ≤ c2_1) (hG : Glob w) (h : saronref09_Least.f a0_0 l0_1 l0_2 a1 l2_0 l2_1 a2_2 a2_3 = some (r1, r2)) :
  Calls Tryd.prog 24 #[.agg #[.int .i64 a0_0, .slice A0_1 l0_1.length c0_1, .slice A0_2 l0_2.length c0_2], .int .i64 a1, .agg #[.slice A2_0 l2_0.length c2_0, .slice A2_1 l2_1.length c2_1, .int .i64 a2_2, .int .i64 a2_3]] w fun e w' => e = .returned (.tuple #[.int .i64 r1, .int .i64 r2]) ∧ Below w.heap.size w w' := by
 have e := Option.some.inj h
 have := RF.rleast24 (g := a0_0) (c := c0_1) (piece := a1) (lost := a2_2) (wrong := a2_3) ⟨⟨hr0_1, hc0_1, hG⟩, hr0_2, hc0_2⟩ ⟨hr2_0, hc2_0, hr2_1, hc2_1⟩
 rw [e] at this
 exact this.mono fun e w' h => ⟨h.1, fr_below h.2⟩
def saronref09_Begins.f (a0_0 : Int) (l0_1 : List S114) (l0_2 : List S62) (a1 : Int) (l2_0 : List Int) (l2_1 : List Int) (a2_2 : Int) (a2_3 : Int) : Option (List Int × Int) := some (stroF a0_0 l0_1 l0_2 a1 l2_0 l2_1 a2_2 a2_3 0)
theorem saronref09_Begins.calls (a0_0 : Int) (A0_1 : Option Addr) (c0_1 : Nat) (l0_1 : List S114) (A0_2 : Option Addr) (c0_2 : Nat) (l0_2 : List S62) (a1 : Int) (A2_0 : Option Addr) (c2_0 : Nat) (l2_0 : List Int) (A2_1 : Option Addr) (c2_1 : Nat) (l2_1 : List Int) (a2_2 : Int) (a2_3 : Int) (r1 : List Int) (r2 : Int) (w : World) (hr0_1 : Kd.C k114 w A0_1 l0_1.length l0_1) (hc0_1 : l0_1.length ≤ c0_1) (hr0_2 : Kd.C k62 w A0_2 l0_2.length l0_2) (hc0_2 : l0_2.length ≤ c0_2) (hr2_0 : Kd.C (Kd.int .i64) w A2_0 l2_0.length l2_0) (hc2_0 : l2_0.length ≤ c2_0) (hr2_1 : Kd.C (Kd.int .i64) w A2_1 l2_1.length l2_1) (hc2_1 : l2_1.length ≤ c2_1) (hG : Glob w) (h : saronref09_Begins.f a0_0 l0_1 l0_2 a1 l2_0 l2_1 a2_2 a2_3 = some (r1, r2)) :
  Calls Tryd.prog 22 #[.agg #[.int .i64 a0_0, .slice A0_1 l0_1.length c0_1, .slice A0_2 l0_2.length c0_2], .int .i64 a1, .agg #[.slice A2_0 l2_0.length c2_0, .slice A2_1 l2_1.length c2_1, .int .i64 a2_2, .int .i64 a2_3]] w fun e w' => ∃ v0_ : Value, e = .returned (.tuple #[v0_, .int .i64 r2]) ∧ Kd.R (Kd.int .i64) 3 w' w.heap.size (fun _ => True) v0_ r1 ∧ Below w.heap.size w w' := by
 have e := Option.some.inj h
 have := RF.rbegins22 (g := a0_0) (c := c0_1) (piece := a1) (lost := a2_2) (wrong := a2_3) ⟨⟨hr0_1, hc0_1, hG⟩, hr0_2, hc0_2⟩ ⟨hr2_0, hc2_0, hr2_1, hc2_1⟩
 rw [e] at this
 exact this.mono fun e w' ⟨v, h1, h2, h3⟩ => ⟨v, h1, h2, fr_below h3⟩
def saronref09_Pieces.f (a0_0 : Int) (l0_1 : List S114) (l0_2 : List S62) (l1_0 : List Int) (l1_1 : List Int) (a1_2 : Int) (a1_3 : Int) : Option (List Int × Int) := some (allF a0_0 l0_1 l0_2 [⟨l1_0, l1_1, a1_2, a1_3⟩])
theorem saronref09_Pieces.calls (a0_0 : Int) (A0_1 : Option Addr) (c0_1 : Nat) (l0_1 : List S114) (A0_2 : Option Addr) (c0_2 : Nat) (l0_2 : List S62) (A1_0 : Option Addr) (c1_0 : Nat) (l1_0 : List Int) (A1_1 : Option Addr) (c1_1 : Nat) (l1_1 : List Int) (a1_2 : Int) (a1_3 : Int) (r1 : List Int) (r2 : Int) (w : World) (hr0_1 : Kd.C k114 w A0_1 l0_1.length l0_1) (hc0_1 : l0_1.length ≤ c0_1) (hr0_2 : Kd.C k62 w A0_2 l0_2.length l0_2) (hc0_2 : l0_2.length ≤ c0_2) (hr1_0 : Kd.C (Kd.int .i64) w A1_0 l1_0.length l1_0) (hc1_0 : l1_0.length ≤ c1_0) (hr1_1 : Kd.C (Kd.int .i64) w A1_1 l1_1.length l1_1) (hc1_1 : l1_1.length ≤ c1_1) (hG : Glob w) (h : saronref09_Pieces.f a0_0 l0_1 l0_2 l1_0 l1_1 a1_2 a1_3 = some (r1, r2)) :
  Calls Tryd.prog 19 #[.agg #[.int .i64 a0_0, .slice A0_1 l0_1.length c0_1, .slice A0_2 l0_2.length c0_2], .agg #[.slice A1_0 l1_0.length c1_0, .slice A1_1 l1_1.length c1_1, .int .i64 a1_2, .int .i64 a1_3]] w fun e w' => ∃ v0_ : Value, e = .returned (.tuple #[v0_, .int .i64 r2]) ∧ Kd.R (Kd.int .i64) 3 w' w.heap.size (fun _ => True) v0_ r1 ∧ Below w.heap.size w w' := by
 have e := Option.some.inj h
 have := RF.rpieces19 (g := a0_0) (c := c0_1) (lost := a1_2) (wrong := a1_3) ⟨⟨hr0_1, hc0_1, hG⟩, hr0_2, hc0_2⟩ ⟨hr1_0, hc1_0, hr1_1, hc1_1⟩
 rw [e] at this
 exact this.mono fun e w' ⟨v, h1, h2, h3⟩ => ⟨v, h1, h2, fr_below h3⟩
end Go.Proofs.YtfdenclnneigfaaDoor.PRaspKeys
