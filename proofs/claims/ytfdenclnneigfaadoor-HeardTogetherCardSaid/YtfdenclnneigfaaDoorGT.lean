import Derived.Test.YtfdenclnneigfaaDoorGN
import Derived.Test.YtfdenclnneigfaaDoorQS
import Derived.Test.YtfdenclnneigfaaDoorQFA
import Derived.Test.YtfdenclnneigfaaDoorVXU
import Derived.Test.YtfdenclnneigfaaDoorM0
set_option linter.unusedVariables false
set_option linter.unusedSimpArgs false
namespace Go.Proofs.YtfdenclnneigfaaDoor.R
open Go.RowKit Go.Shelf Go.Proofs.YtfdenclnneigfaaDoorW.PrintWords Go.Proofs.YtfdenclnneigfaaDoorW.PrintLast Go.Proofs.YtfdenclnneigfaaDoorW.PrintMore Go.Proofs.YtfdenclnneigfaaDoor.PRaspKeys Go.Proofs.YtfdenclnneigfaaDoor.X Go.Proofs.YtfdenclnneigfaaDoor.Q Go.Proofs.YtfdenclnneigfaaDoor.M
attribute [local go_sem] Oper.semAt_some
namespace T10
/-! ### What the law HeardTogether calls -/
theorem mk_fr {w w' : World} (h : Below w.heap.size w w') : Fr0 w w' := Go.Proofs.YtfdenclnneigfaaDoor.X.Fr.of_below h
section
variable {g : Int} {A : Option Addr} {c : Nat} {l : List S114} {Ap : Option Addr} {cp : Nat} {ps : List S62} {w : World}
theorem sound36 (hB : HBook w A c l Ap cp ps) : Calls Tryd.prog 36 #[.agg #[.int .i64 g, .slice A l.length c, .slice Ap ps.length cp]] w fun e w' => e = .returned (.bool (hbookOk g l ps)) ∧ Fr0 w w' := by
 obtain ⟨K, hK⟩ := hsound_f (g := g) (l := l) (ps := ps) ⟨C_len hB.bk.r, C63_len hB.bk.r⟩
 exact (saronlaw09_sound.calls K g A c l Ap cp ps _ w hB.bk.r hB.bk.c hB.r hB.c hB.bk.glob (hK K (Nat.le_refl _))).mono fun e w' h => ⟨h.1, mk_fr h.2⟩
theorem sits40 (a b d : Int) (w : World) : Calls Tryd.prog 40 #[.int .i64 a, .int .i64 b, .int .i64 d] w fun e w' => e = .returned (.bool (isIn a b d)) ∧ Fr0 w w' :=
 (saronref00_Sits.calls a b d _ w (sits_f a b d)).mono fun e w' h => ⟨h.1, mk_dr h.2⟩
theorem where39 {A : Option Addr} {c : Nat} {r : List Int} (hr : Kd.C (Kd.int .i64) w A r.length r) (hc : r.length ≤ c) (x : Int) : Calls Tryd.prog 39 #[.slice A r.length c, .int .i64 x] w fun e w' => e = .returned (.int .i64 (wh x 0 r)) ∧ Fr0 w w' := by
 obtain ⟨K, hK⟩ := where_f r x (C_len hr)
 exact (saronref00_Where.calls K A c r x _ w hr hc (hK K (Nat.le_refl _))).mono fun e w' h => ⟨h.1, mk_dr h.2⟩
theorem grows42 {A : Option Addr} {c : Nat} {r : List Int} (hr : Kd.C (Kd.int .i64) w A r.length r) (hc : r.length ≤ c) (b : Int) : Calls Tryd.prog 42 #[.slice A r.length c, .int .i64 b] w fun e w' => e = .returned (.bool (gr b (-1) r)) ∧ Fr0 w w' := by
 obtain ⟨K, hK⟩ := rgrows_f b r (C_len hr)
 exact (saronref00_Grows.calls K A c r b _ w hr hc (hK K (Nat.le_refl _))).mono fun e w' h => ⟨h.1, mk_dr h.2⟩
theorem equal20 {A B : Option Addr} {c d : Nat} {r : List Int} (hr : Kd.C (Kd.int .i64) w A r.length r) (hc : r.length ≤ c) (hs : Kd.C (Kd.int .i64) w B r.length r) (hd : r.length ≤ d) : Calls Tryd.prog 20 #[.slice A r.length c, .slice B r.length d] w fun e w' => e = .returned (.bool true) ∧ Fr0 w w' := by
 obtain ⟨K, hK⟩ := equal_self r (C_len hr)
 exact (saronref00_Equal.calls K A c r B d r _ w hr hc hs hd (hK K (Nat.le_refl _))).mono fun e w' h => ⟨h.1, mk_dr h.2⟩
theorem fair41 {At : Option Addr} {ct : Nat} {t : List Int} {Ag : Option Addr} {cg : Nat} {gs : List Int} (lost wrong : Int) (hN : Note w At ct t Ag cg gs) : Calls Tryd.prog 41 #[.agg #[.slice At t.length ct, .slice Ag gs.length cg, .int .i64 lost, .int .i64 wrong]] w fun e w' => e = .returned (.bool (noteB t gs lost wrong)) ∧ Fr0 w w' := by
 obtain ⟨K, hK⟩ := fair_f t gs lost wrong (C_len hN.rt) (C_len hN.rg)
 exact (saronlaw09_fair.calls K At ct t Ag cg gs lost wrong _ w hN.rt hN.ct hN.rg hN.cg (hK K (Nat.le_refl _))).mono fun e w' h => ⟨h.1, mk_fr h.2⟩
theorem listen25 (hG : Glob w) : Calls Tryd.prog 25 #[] w fun e w' => e = .returned (.bool true) ∧ Fr0 w w' := (listened25 w hG).mono fun e w' h => ⟨h.1, mk_fr h.2⟩
theorem V_out {w' : World} {b : Nat} {ok : Nat → Prop} {v : Value} {L : List Int} (h : Kd.V (Kd.int .i64) 3 w' b ok v L) : ∃ A2 c2, v = .slice A2 L.length c2 ∧ Kd.C (Kd.int .i64) w' A2 L.length L ∧ L.length ≤ c2 := by
 obtain ⟨A2, c2, rfl, hc, hF⟩ := h
 exact ⟨A2, c2, rfl, Kd.F_now hF, hc⟩
theorem all28c {An : Option Addr} {cn : Nat} {ns : List S30} (hB : HBook w A c l Ap cp ps) (hr : Kd.C k30 w An ns.length ns) (hc : ns.length ≤ cn) {L : List Int} {E : Int} (hA : allF g l ps ns = (L, E)) : Calls Tryd.prog 28 #[.agg #[.int .i64 g, .slice A l.length c, .slice Ap ps.length cp], .slice An ns.length cn] w fun e w' =>
  ∃ A2 c2, e = .returned (.tuple #[.slice A2 L.length c2, .int .i64 E]) ∧ Kd.C (Kd.int .i64) w' A2 L.length L ∧ L.length ≤ c2 ∧ Fr0 w w' := by
 have h := all28 g A c l Ap cp ps An cn ns w hB hr hc
 rw [hA] at h
 refine h.mono ?_
 rintro e w' ⟨v, rfl, hV, hb⟩
 obtain ⟨A2, c2, rfl, k1, k2⟩ := V_out hV
 exact ⟨A2, c2, rfl, k1, k2, mk_fr hb⟩
theorem all28n {An : Option Addr} {cn : Nat} {ns : List S30} (hB : HBook w A c l Ap cp ps) (hr : Kd.C k30 w An ns.length ns) (hc : ns.length ≤ cn) {E : Int} (hA : allF g l ps ns = ([], E)) : Calls Tryd.prog 28 #[.agg #[.int .i64 g, .slice A l.length c, .slice Ap ps.length cp], .slice An ns.length cn] w fun e w' =>
  ∃ A2 c2, e = .returned (.tuple #[.slice A2 0 c2, .int .i64 E]) ∧ Fr0 w w' :=
 (all28c hB hr hc hA).mono fun e w' ⟨A2, c2, h1, _, _, h4⟩ => ⟨A2, c2, h1, h4⟩
theorem pieces18c {At : Option Addr} {ct : Nat} {t : List Int} {Ag : Option Addr} {cg : Nat} {gs : List Int} {lost wrong : Int} (hB : HBook w A c l Ap cp ps) (hN : Note w At ct t Ag cg gs) {L : List Int} {E : Int} (hA : allF g l ps [⟨t, gs, lost, wrong⟩] = (L, E)) : Calls Tryd.prog 18 #[.agg #[.int .i64 g, .slice A l.length c, .slice Ap ps.length cp], .agg #[.slice At t.length ct, .slice Ag gs.length cg, .int .i64 lost, .int .i64 wrong]] w fun e w' =>
  ∃ A2 c2, e = .returned (.tuple #[.slice A2 L.length c2, .int .i64 E]) ∧ Kd.C (Kd.int .i64) w' A2 L.length L ∧ L.length ≤ c2 ∧ Fr0 w w' := by
 have h := pieces18 g A c l Ap cp ps At ct t Ag cg gs lost wrong w hB hN
 rw [hA] at h
 refine h.mono ?_
 rintro e w' ⟨v, rfl, hV, hb⟩
 obtain ⟨A2, c2, rfl, k1, k2⟩ := V_out hV
 exact ⟨A2, c2, rfl, k1, k2, mk_fr hb⟩
theorem fits14c {At : Option Addr} {ct : Nat} {t : List Int} {Ag : Option Addr} {cg : Nat} {gs : List Int} {lost wrong piece : Int} (hB : HBook w A c l Ap cp ps) (hN : Note w At ct t Ag cg gs) {b : Bool} {E : Int} (hA : fitF g l ps piece t gs lost wrong = (b, E)) : Calls Tryd.prog 14 #[.agg #[.int .i64 g, .slice A l.length c, .slice Ap ps.length cp], .int .i64 piece, .agg #[.slice At t.length ct, .slice Ag gs.length cg, .int .i64 lost, .int .i64 wrong]] w fun e w' =>
  e = .returned (.tuple #[.bool b, .int .i64 E]) ∧ Fr0 w w' := by
 have h := fits14 g A c l Ap cp ps piece At ct t Ag cg gs lost wrong w hB hN
 rw [hA] at h
 exact h
end
theorem inf_30 : (Tryd.prog.info? 30).map (fun i => (i.zero, i.size, i.bytes)) = some (some (.agg #[.slice none 0 0, .slice none 0 0, .int .i64 0, .int .i64 0]), 4, 64) := by kernel_rfl
theorem gr_lst' (h : Nat → Bool) (n : Nat) : gr (n : Int) (-1) (lst h n) = true := by
 have e : lst h n = lst (fun i => decide (i < n) && h i) n := by
  have aux : ∀ m, m ≤ n → lst h m = lst (fun i => decide (i < n) && h i) m := by
   intro m
   induction m with
   | zero => intro _; rfl
   | succ m ih =>
    intro hm
    unfold lst
    rw [ih (by omega), decide_eq_true (show m < n by omega), Bool.true_and]
  exact aux n (Nat.le_refl _)
 rw [e]
 exact gr_lst _ _ (fun i hi => by rw [Bool.and_eq_true, decide_eq_true_iff] at hi; omega) n
/-! ### The ways -/
set_option maxHeartbeats 4000000 in
set_option maxRecDepth 100000 in
theorem way_bad (g : Int) (A : Option Addr) (c : Nat) (l : List S114) (Ap : Option Addr) (cp : Nat) (ps : List S62) (An : Option Addr) (cn : Nat) (ns : List S30) (w : World) (hB : HBook w A c l Ap cp ps) (hr : Kd.C k30 w An ns.length ns) (hc : ns.length ≤ cn) (b1 b2 : Bool) (E : Int)
  (h1 : hbookOk g l ps = b1) (h2 : isIn (ns.length : Int) 1 6 = b2) (hb : (b1 = false ∧ E = 90) ∨ (b1 = true ∧ b2 = false ∧ E = 91)) (hA : allF g l ps ns = ([], E)) :
  Calls Tryd.prog 10 #[.agg #[.int .i64 g, .slice A l.length c, .slice Ap ps.length cp], .slice An ns.length cn] w fun e w' => e = .returned (.bool true) ∧ Fr0 w w' := by
 have hf0 : Fr0 w (w.alloc (.cells #[.int .i64 g, .slice A l.length c, .slice Ap ps.length cp] 27)) := (Fr.refl _ _).alloc _
 have c0 : Bx (w.alloc (.cells #[.int .i64 g, .slice A l.length c, .slice Ap ps.length cp] 27)) w.heap.size 27 #[.int .i64 g, .slice A l.length c, .slice Ap ps.length cp] := Bx.of_new rfl
 have hnl := C_len hr
 have HAL := Lib.hid (fun W (hf : Fr0 w W) => all28n (hB.fr hf) (C_fr hr hf) hc hA)
 have HSO := Lib.hid (fun W (hf : Fr0 w W) => by have := sound36 (g := g) (hB.fr hf); rw [h1] at this; exact this)
 have HSI := Lib.hid (fun W => by have := sits40 (ns.length : Int) 1 6 W; rw [h2] at this; exact this)
 have HLI := Lib.hid (fun W (hf : Fr0 w W) => listen25 (hB.bk.glob.fr hf))
 clear hB hr hA h1 h2
 rcases hb with ⟨rfl, rfl⟩ | ⟨rfl, rfl, rfl⟩
 all_goals
  go_enter Tryd.func10, Tryd.ntmps10
  go_upto_region 1 with fail
  generalize w.alloc (.cells #[.int .i64 g, .slice A l.length c, .slice Ap ps.length cp] 27) = W at hf0 c0 ⊢
  generalize w.heap.size = b at c0
  have v0 := c0.at_ 0 (v := .int .i64 g) rfl
  have v1 := c0.at_ 1 (v := .slice A l.length c) rfl
  have v2 := c0.at_ 2 (v := .slice Ap ps.length cp) rfl
  have HF := Lib.hid hf0
  clear c0 hf0
  go_wp2_with (first
   | (go_at_call 28; refine (HAL.out _ HF.out).mono ?_; rintro e W1 ⟨A2, c2, rfl, hf⟩; (have HF1 := Lib.hid (Fr0.trans HF.out hf)); (replace v0 := hf.cell0 v0); (replace v1 := hf.cell0 v1); (replace v2 := hf.cell0 v2); clear hf)
   | (go_at_call 36; refine (HSO.out _ HF1.out).mono ?_; rintro e W2 ⟨rfl, hf⟩; (have HF2 := Lib.hid (Fr0.trans HF1.out hf)); (replace v0 := hf.cell0 v0); (replace v1 := hf.cell0 v1); (replace v2 := hf.cell0 v2); clear hf)
   | (go_at_call 40; refine (HSI.out _).mono ?_; rintro e W3 ⟨rfl, hf⟩; (have HF3 := Lib.hid (Fr0.trans HF2.out hf)); clear hf)
   | (go_at_call 25; refine (HLI.out _ (by first | exact HF3.out | exact HF2.out)).mono ?_; rintro e W4 ⟨rfl, hf⟩; (have HF4 := Lib.hid (Fr0.trans (by first | exact HF3.out | exact HF2.out) hf)); clear hf))
  refine bodyPost_ret (v := .bool true) (by simp [results, Tryd.results10, go_sem]) rfl ⟨rfl, HF4.out⟩
theorem reads_of {W : World} {A : Option Addr} {n : Nat} {xs : List S30} (hC : Kd.C k30 W A n xs) (j : Nat) (hj : j < n) : ∃ ad A0 c0 A1 c1, A = some ad ∧ W.cell? (ad.add (j * 4)) = some (.slice A0 (rd_T30 xs (j : Int)).f0.length c0) ∧ W.cell? ⟨(ad.add (j * 4)).block, (ad.add (j * 4)).off + 1, none⟩ = some (.slice A1 (rd_T30 xs (j : Int)).f1.length c1) ∧ W.cell? ⟨(ad.add (j * 4)).block, (ad.add (j * 4)).off + 2, none⟩ = some (.int .i64 (rd_T30 xs (j : Int)).f2) ∧ W.cell? ⟨(ad.add (j * 4)).block, (ad.add (j * 4)).off + 3, none⟩ = some (.int .i64 (rd_T30 xs (j : Int)).f3) ∧ Note W A0 c0 (rd_T30 xs (j : Int)).f0 A1 c1 (rd_T30 xs (j : Int)).f1 := by
 obtain ⟨ad, A0, c0, A1, c1, e, x0, x1, x2, x3, l0, g0, l1, g1⟩ := at_T30 hC (j : Int) (by omega) (by omega)
 rw [Int.toNat_natCast] at x0 x1 x2 x3
 exact ⟨ad, A0, c0, A1, c1, e, x0, x1, x2, x3, ⟨g0, l0, g1, l1⟩⟩
/-- A note's cells, with what they lead to. -/
theorem note_FK {W W1 : World} {A0 A1 : Option Addr} {c0 c1 : Nat} {x : S30} (h : Note W A0 c0 x.f0 A1 c1 x.f1) (hb : Below W.heap.size W W1) : Kd.FK k30 W1 (fun k => k < W.heap.size) x [.slice A0 x.f0.length c0, .slice A1 x.f1.length c1, .int .i64 x.f2, .int .i64 x.f3] :=
 k30_mkF W1 _ x h.ct (Kd.F_below (Kd.C_F (Kd.heap_int _) h.rt) hb) h.cg (Kd.F_below (Kd.C_F (Kd.heap_int _) h.rg) hb)
set_option maxHeartbeats 8000000 in
set_option maxRecDepth 100000 in
theorem way_in (g : Int) (A : Option Addr) (c : Nat) (l : List S114) (Ap : Option Addr) (cp : Nat) (ps : List S62) (An : Option Addr) (cn : Nat) (ns : List S30) (w : World) (hB : HBook w A c l Ap cp ps) (hr : Kd.C k30 w An ns.length ns) (hc : ns.length ≤ cn) (L : List Int) (E : Int)
  (h1 : hbookOk g l ps = true) (h2 : isIn (ns.length : Int) 1 6 = true) (hA : allF g l ps ns = (L, E)) :
  Calls Tryd.prog 10 #[.agg #[.int .i64 g, .slice A l.length c, .slice Ap ps.length cp], .slice An ns.length cn] w fun e w' => e = .returned (.bool true) ∧ Fr0 w w' := by
 have hf0 : Fr0 w (w.alloc (.cells #[.int .i64 g, .slice A l.length c, .slice Ap ps.length cp] 27)) := (Fr.refl _ _).alloc _
 have c0 : Bx (w.alloc (.cells #[.int .i64 g, .slice A l.length c, .slice Ap ps.length cp] 27)) w.heap.size 27 #[.int .i64 g, .slice A l.length c, .slice Ap ps.length cp] := Bx.of_new rfl
 have hn6 := isIn_iff.1 h2
 have hn1 : (1 : Int) ≤ ns.length := hn6.1
 have hn2 : (ns.length : Int) ≤ 6 := hn6.2
 clear hn6
 have HAL := Lib.hid (fun W (hf : Fr0 w W) => all28c (hB.fr hf) (C_fr hr hf) hc hA)
 have HSO := Lib.hid (fun W (hf : Fr0 w W) => by have := sound36 (g := g) (hB.fr hf); rw [h1] at this; exact this)
 have HSI := Lib.hid (fun W => by have := sits40 (ns.length : Int) 1 6 W; rw [h2] at this; exact this)
 have HLI := Lib.hid (fun W (hf : Fr0 w W) => listen25 (hB.bk.glob.fr hf))
 have HB := Lib.hid hB
 have HR := Lib.hid hr
 have HA := Lib.hid hA
 have HC := Lib.hid hc
 have HK := Lib.hid h1
 have HI := Lib.hid h2
 clear hB hr hA h1 h2 hc
 go_enter Tryd.func10, Tryd.ntmps10
 go_upto_region 1 with fail
 generalize w.alloc (.cells #[.int .i64 g, .slice A l.length c, .slice Ap ps.length cp] 27) = W at hf0 c0 ⊢
 generalize w.heap.size = b at c0
 have v0 := c0.at_ 0 (v := .int .i64 g) rfl
 have v1 := c0.at_ 1 (v := .slice A l.length c) rfl
 have v2 := c0.at_ 2 (v := .slice Ap ps.length cp) rfl
 have HF := Lib.hid hf0
 have HC0 := Lib.hid c0
 clear c0 hf0
 go_wp2_with (first
  | (go_at_call 28; refine (HAL.out _ HF.out).mono ?_; rintro e W1 ⟨A2, c2, rfl, hCL, hcL, hf⟩; (have HF1 := Lib.hid (Fr0.trans HF.out hf)); (have HC1 := Lib.hid (HC0.out.fr0 hf)); (have HCL := Lib.hid hCL); (have HcL := Lib.hid hcL); (replace v0 := hf.cell0 v0); (replace v1 := hf.cell0 v1); (replace v2 := hf.cell0 v2); clear hf hCL hcL)
  | (go_at_call 36; refine (HSO.out _ HF1.out).mono ?_; rintro e W2 ⟨rfl, hf⟩; (have HF2 := Lib.hid (Fr0.trans HF1.out hf)); (have HC2 := Lib.hid (HC1.out.fr0 hf)); (have HCL := Lib.hid (C_fr HCL.out hf)); (replace v0 := hf.cell0 v0); (replace v1 := hf.cell0 v1); (replace v2 := hf.cell0 v2); clear hf)
  | (go_at_call 40; refine (HSI.out _).mono ?_; rintro e W3 ⟨rfl, hf⟩; (have HF3 := Lib.hid (Fr0.trans HF2.out hf)); (have HC3 := Lib.hid (HC2.out.fr0 hf)); (have HCL := Lib.hid (C_fr HCL.out hf)); clear hf))
 try clear v0 v1 v2
 go_loopw [7, 8, 9] (fun v7 v8 v9 wr => ∃ m : Nat, m ≤ ns.length ∧ v9 = .int .i64 ((ns.length : Int) - 1 - m) ∧ v7 = .bool ((ns.drop (ns.length - m)).all nOk) ∧ Kd.N k30 30 wr W3.heap.size (fun _ => True) v8 ((ns.drop (ns.length - m)).reverse) ∧ Below W3.heap.size W3 wr) (fun _ _ v9 _ => (intOf v9 + 1).toNat)
 case atStart => exact ⟨0, by omega, by go_num, by simp, by simpa using Kd.N_nil _ _ _ _ _, Below.refl _ _⟩
 case round =>
  obtain ⟨m, hm, rfl, rfl, hN, hbl⟩ := hrel
  have HBL := Lib.hid hbl
  have HN := Lib.hid hN
  clear hN hbl
  by_cases hlt : m < ns.length
  ·obtain ⟨j, hj⟩ : ∃ j : Nat, j + m + 1 = ns.length := ⟨ns.length - 1 - m, by omega⟩
   have hjl : j < ns.length := by omega
   have e9 : (ns.length : Int) - 1 - m = (j : Int) := by omega
   have e8 : ns.length - m = j + 1 := by omega
   rw [e9]
   rw [e8] at HN ⊢
   have HW3r := Lib.hid (show Fr0 W3 wr from mk_fr HBL.out)
   obtain ⟨ad, A0, c0, A1, c1, ead, y0, y1, y2, y3, hNt⟩ := reads_of (C_fr HR.out HF3.out) j hjl
   cases ead
   have x0 := HW3r.out.cell0 y0
   have x1 := HW3r.out.cell0 y1
   have x2 := HW3r.out.cell0 y2
   have x3 := HW3r.out.cell0 y3
   clear y0 y1 y2 y3
   have HDR := Lib.hid (show ns.drop j = rd_T30 ns (j : Int) :: ns.drop (j + 1) by rw [List.drop_eq_getElem_cons hjl, show rd_T30 ns (j : Int) = ns[j] by simp [rd_T30, hjl]])
   have HM := Lib.hid (show ns.length - (m + 1) = j by omega)
   generalize rd_T30 ns (j : Int) = x at *
   have HNT := Lib.hid hNt
   have HXL := Lib.hid (show ((ns.drop (j + 1)).reverse).length ≤ 6 by rw [List.length_reverse, List.length_drop]; omega)
   have HFA := Lib.hid (fun W (hf : Fr0 W3 W) => fair41 x.f2 x.f3 (hNt.fr hf))
   have HFK := Lib.hid (fun W (hb : Below W3.heap.size W3 W) => note_FK (x := x) hNt hb)
   have hj64 : (j : Int) ≤ 6 := by omega
   have hjn : (j : Int) < ns.length := by omega
   have HE9 := Lib.hid e9
   have HHM := Lib.hid hm
   have HHJ := Lib.hid hj
   have HOK := Lib.hid (show (ns.drop j).all nOk = (noteB x.f0 x.f1 x.f2 x.f3 && (ns.drop (j + 1)).all nOk) by rw [HDR.out, List.all_cons]; rfl)
   have HREV := Lib.hid (show (ns.drop j).reverse = (ns.drop (j + 1)).reverse ++ [x] by rw [HDR.out, List.reverse_cons])
   clear hNt e9 e8 hm hj hjl hlt
   generalize (ns.drop (j + 1)).all nOk = q at *
   generalize (ns.drop (j + 1)).reverse = xs at *
   generalize noteB x.f0 x.f1 x.f2 x.f3 = nb at *
   have hj0 : (0 : Int) ≤ (j : Int) := by omega
   cases q
   ·rw [Bool.and_false] at HOK
    go_wp2_with (first
     | ((with_reducible refine gate_builtin (b := .append) (xs := #[.tmp 63, .tmp 68]) rfl ?_); at_builtin; refine Kd.N_append k30 (w0 := W3) W3.heap.size rfl (.tmp 63) (.tmp 68) 46 30 _ 64 rfl Tryd.underlying46 inf_30 rfl (by decide) (by omega) _ xs x [.slice A0 x.f0.length c0, .slice A1 x.f1.length c1, .int .i64 x.f2, .int .i64 x.f3] (fun _ => True) (fun k => k < W3.heap.size) rfl rfl (HFK.out _ (by repeat (first | exact HBL.out | apply below_drew1))) (fun k hk => ⟨trivial, fun e => by have := Kd.N_base HN.out k e.symm; omega⟩) (fun _ _ => trivial) (by first | exact HN.out | exact Kd.N_drew HN.out) (by repeat (first | exact HBL.out | apply below_drew1)) HBL.out.size (by have := HXL.out; omega) ?_; intro v1 w1 ho hb hg hat))
    refine ⟨⟨m + 1, by have := HHJ.out; omega, by have := HE9.out; go_num, by rw [HM.out, HOK.out], by rw [HM.out, HREV.out]; exact ho, hb⟩, ?_⟩
    have e1 := HE9.out
    have e2 := HHJ.out
    simp [intOf]
   ·rw [Bool.and_true] at HOK
    go_wp2_with (first
     | (go_at_call 41; refine (HFA.out _ (by repeat (first | exact HW3r.out | apply Fr.drew))).mono ?_; rintro e W5 ⟨rfl, hf5⟩; (replace x0 := hf5.cell0 x0); (replace x1 := hf5.cell0 x1); (replace x2 := hf5.cell0 x2); (replace x3 := hf5.cell0 x3); (replace HBL := Lib.hid (HBL.out.trans (fr_belowN hf5 HBL.out.size))); (replace HN := Lib.hid (Kd.N_below HN.out (fr_below hf5))); clear hf5)
     | ((with_reducible refine gate_builtin (b := .append) (xs := #[.tmp 63, .tmp 68]) rfl ?_); at_builtin; refine Kd.N_append k30 (w0 := W3) W3.heap.size rfl (.tmp 63) (.tmp 68) 46 30 _ 64 rfl Tryd.underlying46 inf_30 rfl (by decide) (by omega) _ xs x [.slice A0 x.f0.length c0, .slice A1 x.f1.length c1, .int .i64 x.f2, .int .i64 x.f3] (fun _ => True) (fun k => k < W3.heap.size) rfl rfl (HFK.out _ (by repeat (first | exact HBL.out | apply below_drew1))) (fun k hk => ⟨trivial, fun e => by have := Kd.N_base HN.out k e.symm; omega⟩) (fun _ _ => trivial) (by first | exact HN.out | exact Kd.N_drew HN.out) (by repeat (first | exact HBL.out | apply below_drew1)) HBL.out.size (by have := HXL.out; omega) ?_; intro v1 w1 ho hb hg hat))
    refine ⟨⟨m + 1, by have := HHJ.out; omega, by have := HE9.out; go_num, by rw [HM.out, HOK.out], by rw [HM.out, HREV.out]; exact ho, hb⟩, ?_⟩
    have e1 := HE9.out
    have e2 := HHJ.out
    simp [intOf]
  ·obtain rfl : m = ns.length := by omega
   have e9 : (ns.length : Int) - 1 - ns.length = -1 := by omega
   rw [e9]
   rw [Nat.sub_self, List.drop_zero] at HN ⊢
   have HFr := Lib.hid (Fr0.trans HF3.out (mk_fr HBL.out))
   have HCr := Lib.hid (HC3.out.fr0 (mk_fr HBL.out))
   have HCL := Lib.hid (C_fr HCL.out (mk_fr HBL.out))
   clear e9 hm hlt
   obtain ⟨q, hq⟩ : ∃ q, q = ns.all nOk := ⟨_, rfl⟩
   rw [← hq]
   cases q
   ·have hLE : L = [] ∧ E = 91 := by
     have h := HA.out
     unfold allF hcheckE at h
     rw [if_pos HK.out, if_pos rfl, HI.out, ← hq, if_neg (by simp)] at h
     injection h with h1 h2
     exact ⟨h1.symm, h2.symm⟩
    obtain ⟨rfl, rfl⟩ := hLE
    clear hq
    go_wp2_with (go_at_call 25; refine (HLI.out _ HFr.out).mono ?_; rintro e W4 ⟨rfl, hf⟩)
    refine bodyPost_ret (v := .bool true) (by simp [results, Tryd.results10, go_sem]) rfl ⟨rfl, Fr0.trans HFr.out hf⟩
   ·have hLE : L = lst (fun k => ns.all (fitN g l ps k)) ps.length ∧ E = 0 := by
     have h := HA.out
     unfold allF hcheckE at h
     rw [if_pos HK.out, if_pos rfl, HI.out, ← hq, if_pos (by simp)] at h
     injection h with h1 h2
     exact ⟨h1.symm, h2.symm⟩
    obtain ⟨hL, rfl⟩ := hLE
    have hAr : allF g l ps ns.reverse = (L, 0) := by
     rw [← HA.out]
     unfold allF
     rw [List.length_reverse, List.all_reverse]
     have : (fun k => ns.reverse.all (fitN g l ps k)) = fun k => ns.all (fitN g l ps k) := by
      funext k
      rw [List.all_reverse]
     rw [this]
    obtain ⟨Ab, cb, eb, hcb, hCb⟩ := Kd.N_reads HN.out
    subst eb
    have HA2 := Lib.hid (fun W (hf : Fr0 wr W) => all28c ((HB.out.fr HFr.out).fr hf) (C_fr hCb hf) hcb hAr)
    have hps := (hbookOk_iff.1 HK.out).2.1
    have hp6 : (ps.length : Int) ≤ 6 := hps.2
    have HGR := Lib.hid (show gr (ps.length : Int) (-1) L = true by rw [hL]; exact gr_lst' _ _)
    have HLC := Lib.hid (fun p : Nat => show L.contains (p : Int) = (decide (p < ps.length) && ns.all (fitN g l ps p)) by rw [hL, lst_has])
    have HNO := Lib.hid (fun i (hi : i < ns.length) => show nOk (rd_T30 ns (i : Int)) = true by
     rw [show rd_T30 ns (i : Int) = ns[i] by simp [rd_T30, hi]]
     exact List.all_eq_true.1 hq.symm _ (List.getElem_mem hi))
    rw [List.length_reverse] at HA2 hcb hCb ⊢
    clear hL hAr hq hCb hcb hps
    have v0 := HCr.out.at_ 0 (v := .int .i64 g) rfl
    have v1 := HCr.out.at_ 1 (v := .slice A l.length c) rfl
    have v2 := HCr.out.at_ 2 (v := .slice Ap ps.length cp) rfl
    go_wp2_with (first
     | (go_at_call 28; refine (HA2.out _ (Fr.refl _ _)).mono ?_; rintro e W7 ⟨A3, c3, rfl, hCL2, hcL2, hf⟩; (have HF7 := Lib.hid (Fr0.trans HFr.out hf)); (have HC7 := Lib.hid (HCr.out.fr0 hf)); (have HCL7 := Lib.hid (C_fr HCL.out hf)); (have HEQ := Lib.hid (equal20 HCL7.out HcL.out hCL2 hcL2)); (replace v0 := hf.cell0 v0); (replace v1 := hf.cell0 v1); (replace v2 := hf.cell0 v2); clear hf hCL2 hcL2)
     | (go_at_call 20; refine HEQ.out.mono ?_; rintro e W8 ⟨rfl, hf⟩; (have HF8 := Lib.hid (Fr0.trans HF7.out hf)); (have HC8 := Lib.hid (HC7.out.fr0 hf)); (have HCL8 := Lib.hid (C_fr HCL7.out hf)); (replace v0 := hf.cell0 v0); (replace v1 := hf.cell0 v1); (replace v2 := hf.cell0 v2); clear hf)
     | (go_at_call 42; refine (grows42 HCL8.out HcL.out (ps.length : Int)).mono ?_; rw [HGR.out]; rintro e W9 ⟨rfl, hf⟩; (have HF9 := Lib.hid (Fr0.trans HF8.out hf)); (have HC9 := Lib.hid (HC8.out.fr0 hf)); (have HCL9 := Lib.hid (C_fr HCL8.out hf)); clear hf))
    try clear v0 v1 v2
    go_loopw [12] (fun v12 wr => ∃ p : Nat, p ≤ ps.length ∧ v12 = .int .i64 p ∧ Fr0 W9 wr) (fun v12 _ => (ps.length - intOf v12).toNat)
    case atStart => exact ⟨0, by omega, by rfl, Fr.refl _ _⟩
    case round =>
     obtain ⟨p, hp, rfl, hf⟩ := hrel
     have HFp := Lib.hid hf
     clear hf
     have v2 := (HC9.out.fr0 HFp.out).at_ 2 (v := .slice Ap ps.length cp) rfl
     by_cases hlt : p < ps.length
     ·have hle : (p : Int) < ps.length := by omega
      have HLT := Lib.hid hlt
      have hplc := HLC.out p
      rw [decide_eq_true hlt, Bool.true_and] at hplc
      have HWL := Lib.hid (show (0 ≤ wh (p : Int) 0 L ↔ ns.all (fitN g l ps p) = true) by rw [wh_iff (p : Int) L 0 (by omega), hplc])
      clear hlt hplc
      have HFw9 := Lib.hid (Fr0.trans HF9.out HFp.out)
      generalize wr = w10 at *
      go_wp2
      clear v2
      go_loopw [13, 14] (fun v13 v14 wr => ∃ i : Nat, i ≤ ns.length ∧ v14 = .int .i64 i ∧ v13 = .bool ((ns.take i).all (fitN g l ps p)) ∧ Fr0 w10 wr) (fun _ v14 _ => (ns.length - intOf v14).toNat)
      case atStart => exact ⟨0, by omega, by rfl, by simp, Fr.refl _ _⟩
      case round =>
       obtain ⟨i, hi, rfl, rfl, hf⟩ := hrel
       have HFi := Lib.hid hf
       clear hf
       by_cases hlt2 : i < ns.length
       ·have hle2 : (i : Int) < ns.length := by omega
        have HFr10 := Lib.hid (Fr0.trans HFw9.out HFi.out)
        obtain ⟨ad, A0, c0, A1, c1, ead, x0, x1, x2, x3, hNt⟩ := reads_of (C_fr HR.out HFr10.out) i hlt2
        cases ead
        have hBi := HB.out.fr HFr10.out
        have hok := HNO.out i hlt2
        have HTK := Lib.hid (show (ns.take (i + 1)).all (fitN g l ps p) = ((ns.take i).all (fitN g l ps p) && fitN g l ps p (rd_T30 ns (i : Int))) by
         rw [List.take_succ_eq_append_getElem hlt2, List.all_append, List.all_cons, List.all_nil, Bool.and_true, show rd_T30 ns (i : Int) = ns[i] by simp [rd_T30, hlt2]])
        generalize rd_T30 ns (i : Int) = x at *
        have hfit : fitF g l ps (p : Int) x.f0 x.f1 x.f2 x.f3 = (fitN g l ps p x, 0) := by
         unfold fitF
         rw [if_pos]
         ·rfl
         ·unfold askE
          rw [if_pos HK.out, if_pos]
          unfold okAsk
          rw [show noteB x.f0 x.f1 x.f2 x.f3 = true from hok, isIn_iff.2 (by have := HLT.out; omega)]
          rfl
        obtain ⟨P1, hP1⟩ : ∃ P1, P1 = lst (fun k => [(⟨x.f0, x.f1, x.f2, x.f3⟩ : S30)].all (fitN g l ps k)) ps.length := ⟨_, rfl⟩
        have hpie : allF g l ps [⟨x.f0, x.f1, x.f2, x.f3⟩] = (P1, 0) := by
         unfold allF hcheckE
         rw [if_pos HK.out, if_pos rfl, if_pos, hP1]
         rw [show ([(⟨x.f0, x.f1, x.f2, x.f3⟩ : S30)].all nOk) = true by show (noteB x.f0 x.f1 x.f2 x.f3 && true) = true; rw [show noteB x.f0 x.f1 x.f2 x.f3 = true from hok]; rfl]
         rfl
        have hown : (0 ≤ wh (p : Int) 0 P1 ↔ fitN g l ps p x = true) := by
         rw [wh_iff (p : Int) P1 0 (by omega), hP1, lst_has, decide_eq_true HLT.out, Bool.true_and]
         show (fitN g l ps p x && true) = true ↔ _
         rw [Bool.and_true]
        have HPC := Lib.hid (fun W' (hf : Fr0 wr W') => pieces18c (hBi.fr hf) (hNt.fr hf) hpie)
        have HFC := Lib.hid (fun W' (hf : Fr0 wr W') => fits14c (hBi.fr hf) (hNt.fr hf) hfit)
        have HOWN := Lib.hid hown
        have HLT2 := Lib.hid hlt2
        clear hok hBi hNt hfit hpie hown hP1 hlt2
        generalize (ns.take i).all (fitN g l ps p) = q at *
        generalize fitN g l ps p x = fv at *
        obtain ⟨z, hz⟩ : ∃ z, z = wh (p : Int) 0 P1 := ⟨_, rfl⟩
        have HZ := Lib.hid hz
        have HZZ := Lib.hid (show (0 ≤ z ↔ fv = true) by rw [hz]; exact HOWN.out)
        clear hz
        have u0 := (HC9.out.fr0 (Fr0.trans HFp.out HFi.out)).at_ 0 (v := .int .i64 g) rfl
        have u1 := (HC9.out.fr0 (Fr0.trans HFp.out HFi.out)).at_ 1 (v := .slice A l.length c) rfl
        have u2 := (HC9.out.fr0 (Fr0.trans HFp.out HFi.out)).at_ 2 (v := .slice Ap ps.length cp) rfl
        go_upto_region 23 with fail
        refine start_ (n := 11) (S := fun w' => w'.cell? ⟨b, 0, none⟩ = some (.int .i64 g) ∧ w'.cell? ⟨b, 1, none⟩ = some (.slice A l.length c) ∧ w'.cell? ⟨b, 2, none⟩ = some (.slice Ap ps.length cp) ∧ w'.cell? (ad.add (i * 4)) = some (.slice A0 x.f0.length c0) ∧ w'.cell? ⟨(ad.add (i * 4)).block, (ad.add (i * 4)).off + 1, none⟩ = some (.slice A1 x.f1.length c1) ∧ w'.cell? ⟨(ad.add (i * 4)).block, (ad.add (i * 4)).off + 2, none⟩ = some (.int .i64 x.f2) ∧ w'.cell? ⟨(ad.add (i * 4)).block, (ad.add (i * 4)).off + 3, none⟩ = some (.int .i64 x.f3)) (ds := []) (.replicate 11 false) (by kernel_rfl) rfl rfl ⟨u0, u1, u2, x0, x1, x2, x3⟩ (fun hHeld => ?_)
        refine pu 1 123 (bt 11 2) (k := ?_)
        refine pu 2 124 (bt 11 6) (k := ?_)
        refine pu 3 125 (bt 11 14) (k := ?_)
        refine tk7 0 122 (bt 11 15) hHeld (k := ?_)
        refine tk7 4 126 (bt 11 31) hHeld (k := ?_)
        refine oN 5 127 (bt 11 63) (h := fun K hK => ?_)
        refine goes_ Tryd.func18 (by kernel_rfl) rfl #[.agg #[.int .i64 g, .slice A l.length c, .slice Ap ps.length cp], .agg #[.slice A0 x.f0.length c0, .slice A1 x.f1.length c1, .int .i64 x.f2, .int .i64 x.f3]] (by rfl) rfl rfl TN ?_
        with_reducible refine (HPC.out _ (Fr.drew (Fr.refl _ _))).mono ?_
        rintro e W11 ⟨A4, c4, rfl, hC4, hl4, hf11⟩
        refine ⟨_, rfl, ?_⟩
        have H11 := Lib.hid (Fr0.trans (Fr.drew (Fr.refl _ wr)) hf11)
        have HC4 := Lib.hid hC4
        have HL4 := Lib.hid hl4
        refine hK.out _ _ ⟨(H11.out.cell0 u0), (H11.out.cell0 u1), (H11.out.cell0 u2), (H11.out.cell0 x0), (H11.out.cell0 x1), (H11.out.cell0 x2), (H11.out.cell0 x3)⟩ (fun hHeld => ?_)
        clear hK K
        refine norm_ (a' := ?_) ?_ ?_
        rotate_left
        ·show Act.put _ (some 127) _ = _
         simp only [Act.put, lA, lZ, lS, i64_w, i32_w]
         rfl
        refine pu 6 121 (bt 11 127) (k := ?_)
        refine pu 7 128 (bt 11 255) (k := ?_)
        refine pu 8 129 (bt 11 511) (k := ?_)
        refine pu 9 15 (bt 11 1023) (k := ?_)
        refine pu 10 16 (bt 11 2047) (k := ?_)
        refine done_ (by kernel_rfl) ?_
        obtain ⟨w0, w1, w2, y0, y1, y2, y3⟩ := hHeld
        clear u0 u1 u2 x0 x1 x2 x3
        go_upto_region 24 with fail
        refine start_ (n := 12) (S := fun w' => w'.cell? ⟨b, 0, none⟩ = some (.int .i64 g) ∧ w'.cell? ⟨b, 1, none⟩ = some (.slice A l.length c) ∧ w'.cell? ⟨b, 2, none⟩ = some (.slice Ap ps.length cp) ∧ w'.cell? (ad.add (i * 4)) = some (.slice A0 x.f0.length c0) ∧ w'.cell? ⟨(ad.add (i * 4)).block, (ad.add (i * 4)).off + 1, none⟩ = some (.slice A1 x.f1.length c1) ∧ w'.cell? ⟨(ad.add (i * 4)).block, (ad.add (i * 4)).off + 2, none⟩ = some (.int .i64 x.f2) ∧ w'.cell? ⟨(ad.add (i * 4)).block, (ad.add (i * 4)).off + 3, none⟩ = some (.int .i64 x.f3)) (ds := []) (.replicate 12 false) (by kernel_rfl) rfl rfl ⟨w0, w1, w2, y0, y1, y2, y3⟩ (fun hHeld => ?_)
        refine pu 1 132 (bt 12 2) (k := ?_)
        refine pu 2 133 (bt 12 6) (k := ?_)
        refine pu 3 134 (bt 12 14) (k := ?_)
        refine pu 4 135 (bt 12 30) (k := ?_)
        refine tk7 0 131 (bt 12 31) hHeld (k := ?_)
        refine tk7 5 136 (bt 12 63) hHeld (k := ?_)
        refine oN 6 137 (bt 12 127) (h := fun K hK => ?_)
        refine goes_ Tryd.func14 (by kernel_rfl) rfl #[.agg #[.int .i64 g, .slice A l.length c, .slice Ap ps.length cp], .int .i64 (p : Int), .agg #[.slice A0 x.f0.length c0, .slice A1 x.f1.length c1, .int .i64 x.f2, .int .i64 x.f3]] (by rfl) rfl rfl TN ?_
        with_reducible refine (HFC.out _ (Fr.drew H11.out)).mono ?_
        rintro e W12 ⟨rfl, hf12⟩
        refine ⟨_, rfl, ?_⟩
        have H12 := Lib.hid (Fr0.trans (Fr.drew (Fr.refl _ W11)) hf12)
        refine hK.out _ _ ⟨(H12.out.cell0 w0), (H12.out.cell0 w1), (H12.out.cell0 w2), (H12.out.cell0 y0), (H12.out.cell0 y1), (H12.out.cell0 y2), (H12.out.cell0 y3)⟩ (fun hHeld => ?_)
        clear hK K
        refine norm_ (a' := ?_) ?_ ?_
        rotate_left
        ·show Act.put _ (some 137) _ = _
         simp only [Act.put, lA, lZ, lS, i64_w, i32_w]
         rfl
        refine pu 7 130 (bt 12 255) (k := ?_)
        refine pu 8 138 (bt 12 511) (k := ?_)
        refine pu 9 139 (bt 12 1023) (k := ?_)
        refine pu 10 17 (bt 12 2047) (k := ?_)
        refine pu 11 18 (bt 12 4095) (k := ?_)
        refine done_ (by kernel_rfl) ?_
        clear hHeld w0 w1 w2 y0 y1 y2 y3
        have HWP := Lib.hid (where39 (C_fr HC4.out H12.out) HL4.out (p : Int))
        rw [← HZ.out] at HWP
        have HFE := Lib.hid (Fr0.trans HFi.out (Fr0.trans H11.out H12.out))
        have HFV := Lib.hid HZZ.out
        cases fv <;> cases q
        all_goals
         first | (have z0 : z < 0 := by (have h := HFV.out; simp at h; omega)) | (have z0 : 0 ≤ z := HFV.out.2 rfl)
         go_wp2_with (go_at_call 39; refine HWP.out.mono ?_; rintro e W13 ⟨rfl, hf13⟩)
         go_roundw
         case rel => exact ⟨i + 1, by have := HLT2.out; omega, by go_num, by rw [HTK.out]; rfl, Fr0.trans HFE.out hf13⟩
         case measure => simp [intOf]; omega
       ·obtain rfl : i = ns.length := by omega
        have HFo := Lib.hid (Fr0.trans HFp.out HFi.out)
        rw [List.take_length]
        have HWP := Lib.hid (where39 (C_fr HCL9.out HFo.out) HcL.out (p : Int))
        obtain ⟨z, hz⟩ : ∃ z, z = wh (p : Int) 0 L := ⟨_, rfl⟩
        rw [← hz] at HWP HWL
        clear hz
        generalize ns.all (fitN g l ps p) = fv at *
        have u2 := (HC9.out.fr0 HFo.out).at_ 2 (v := .slice Ap ps.length cp) rfl
        cases fv
        all_goals
         first | (have z0 : z < 0 := by (have h := HWL.out; simp at h; omega)) | (have z0 : 0 ≤ z := HWL.out.2 rfl)
         go_wp2_with (go_at_call 39; refine HWP.out.mono ?_; rintro e W13 ⟨rfl, hf13⟩)
         refine ⟨⟨p + 1, by have := HLT.out; omega, by go_num, Fr0.trans HFo.out hf13⟩, by have := HLT.out; simp [intOf]; omega⟩
     ·obtain rfl : p = ps.length := by omega
      go_wp2_with (go_at_call 25; refine (HLI.out _ (Fr0.trans HF9.out HFp.out)).mono ?_; rintro e W4 ⟨rfl, hf⟩)
      refine bodyPost_ret (v := .bool true) (by simp [results, Tryd.results10, go_sem]) rfl ⟨rfl, Fr0.trans (Fr0.trans HF9.out HFp.out) hf⟩
theorem together10 (g : Int) (A : Option Addr) (c : Nat) (l : List S114) (Ap : Option Addr) (cp : Nat) (ps : List S62) (An : Option Addr) (cn : Nat) (ns : List S30) (w : World) (hB : HBook w A c l Ap cp ps) (hr : Kd.C k30 w An ns.length ns) (hc : ns.length ≤ cn) :
  Calls Tryd.prog 10 #[.agg #[.int .i64 g, .slice A l.length c, .slice Ap ps.length cp], .slice An ns.length cn] w fun e w' => e = .returned (.bool true) ∧ Fr0 w w' := by
 cases h1 : hbookOk g l ps
 ·exact way_bad g A c l Ap cp ps An cn ns w hB hr hc false _ 90 h1 rfl (.inl ⟨rfl, rfl⟩) (by unfold allF hcheckE; rw [h1]; rfl)
 ·cases h2 : isIn (ns.length : Int) 1 6
  ·exact way_bad g A c l Ap cp ps An cn ns w hB hr hc true false 91 h1 h2 (.inr ⟨rfl, rfl, rfl⟩) (by unfold allF hcheckE; rw [h1, h2]; rfl)
  ·exact way_in g A c l Ap cp ps An cn ns w hB hr hc _ _ h1 h2 rfl
end T10
end Go.Proofs.YtfdenclnneigfaaDoor.R
namespace Go.Proofs.YtfdenclnneigfaaDoor.PRaspKeys
open Go.RowKit Go.Proofs.YtfdenclnneigfaaDoorW.PrintWords Go.Proofs.YtfdenclnneigfaaDoorW.PrintLast Go.Proofs.YtfdenclnneigfaaDoor.R
def saronlaw09_HeardTogether.f (k : Nat) (a0_0 : Int) (l0_1 : List S114) (l0_2 : List S62) (l1 : List S30) : Option Bool := some true
theorem saronlaw09_HeardTogether.calls (k : Nat) (a0_0 : Int) (A0_1 : Option Addr) (c0_1 : Nat) (l0_1 : List S114) (A0_2 : Option Addr) (c0_2 : Nat) (l0_2 : List S62) (A1 : Option Addr) (c1 : Nat) (l1 : List S30) (r : Bool) (w : World) (hr0_1 : Kd.C k114 w A0_1 l0_1.length l0_1) (hc0_1 : l0_1.length ≤ c0_1) (hr0_2 : Kd.C k62 w A0_2 l0_2.length l0_2) (hc0_2 : l0_2.length ≤ c0_2) (hr1 : Kd.C k30 w A1 l1.length l1) (hc1 : l1.length ≤ c1) (hG : Glob w) (h : saronlaw09_HeardTogether.f k a0_0 l0_1 l0_2 l1 = some r) :
  Calls Tryd.prog 10 #[.agg #[.int .i64 a0_0, .slice A0_1 l0_1.length c0_1, .slice A0_2 l0_2.length c0_2], .slice A1 l1.length c1] w fun e w' => e = .returned (.bool r) ∧ Below w.heap.size w w' := by
 cases Option.some.inj h
 exact (T10.together10 a0_0 A0_1 c0_1 l0_1 A0_2 c0_2 l0_2 A1 c1 l1 w ⟨⟨hr0_1, hc0_1, hG⟩, hr0_2, hc0_2⟩ hr1 hc1).mono fun e w' h => ⟨h.1, fr_below h.2⟩
end Go.Proofs.YtfdenclnneigfaaDoor.PRaspKeys
