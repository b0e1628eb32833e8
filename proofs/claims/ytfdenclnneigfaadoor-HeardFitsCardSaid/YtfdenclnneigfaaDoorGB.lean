import Derived.Test.YtfdenclnneigfaaDoorGA
import Derived.Test.YtfdenclnneigfaaDoorM0
set_option linter.unusedVariables false
set_option linter.unusedSimpArgs false
namespace Go.Proofs.YtfdenclnneigfaaDoor.M
open Go.RowKit Go.Proofs.YtfdenclnneigfaaDoorW.PrintWords Go.Proofs.YtfdenclnneigfaaDoorW.PrintLast
section
variable {P : Program} {md : Region.Mode} {ops : Array Oper} {Q : Exit → Act → World → Prop} {S : World → Prop} {ds : List Nat}
variable (i : Nat) (N : Tmp) {oi : Oper} {v : Value} {fuel : Nat} {l : Array Bool} {a a' : Act} {w : World} (l' : Array Bool)
theorem tk12 (hH : S w) (hi : ops[i]? = some oi := by exact rfl) (hN : oi.dst = some N := by exact rfl) (hc : takeB md ops ds l l' i = true := by kernel_rfl) (hQ : ∀ c a w, Q (.panic c) (a.put oi.dst v) w → Q (.panic c) a w := by exact fun _ _ _ h => h)
  (hy : YieldsIf P ops S oi v a := by (refine Or.inl ⟨by rfl, ?_⟩; rintro w' ⟨s0, s1, s2, s3, s4, s5, s6, s7, s8, s9, s10, s11⟩; go_simp; with_reducible rfl)) (ha : a.put (some N) v = a' := by (simp only [Act.put, lA, lZ, lS, i64_w, i32_w]; rfl)) (k : wpAnyLast P md ops Q S ds fuel l' a' w) : wpAnyLast P md ops Q S ds (fuel + 1) l a w :=
 take_ l' hi hN hc hQ hy hH ha k
end
end Go.Proofs.YtfdenclnneigfaaDoor.M
namespace Go.Proofs.YtfdenclnneigfaaDoor.R
open Go.RowKit Go.Shelf Go.Proofs.YtfdenclnneigfaaDoorW.PrintWords Go.Proofs.YtfdenclnneigfaaDoorW.PrintLast Go.Proofs.YtfdenclnneigfaaDoor.PRaspKeys Go.Proofs.YtfdenclnneigfaaDoor.X Go.Proofs.YtfdenclnneigfaaDoor.M
attribute [local go_sem] Oper.semAt_some
/-! ### Tones -/
/-- A fact that the walk shall not see. -/
structure Hop (p : Prop) : Prop where
 out : p
theorem hlies (n lo hi : Int) (w : World) : Calls Tryd.prog 59 #[.int .i64 n, .int .i64 lo, .int .i64 hi] w fun e w' => e = .returned (.bool (isIn n lo hi)) ∧ Fr0 w w' := by
 unfold isIn
 by_cases h : lo ≤ n
 ·by_cases h2 : n ≤ hi
  ·go_enter Tryd.func59, Tryd.ntmps59
   go_wp2
   refine bodyPost_ret (v := .bool true) (by simp [results, Tryd.results59, go_sem]) rfl ⟨by rw [decide_eq_true h, decide_eq_true h2]; rfl, Fr.refl _ _⟩
  ·go_enter Tryd.func59, Tryd.ntmps59
   go_wp2
   refine bodyPost_ret (v := .bool false) (by simp [results, Tryd.results59, go_sem]) rfl ⟨by first | rfl | (rw [decide_eq_false (show ¬ n ≤ hi by omega)]) | (rw [decide_eq_true h, decide_eq_false (show ¬ n ≤ hi by omega)]; rfl), Fr.refl _ _⟩
 ·go_enter Tryd.func59, Tryd.ntmps59
  go_wp2
  refine bodyPost_ret (v := .bool false) (by simp [results, Tryd.results59, go_sem]) rfl ⟨by rw [decide_eq_false (show ¬ lo ≤ n by omega)]; rfl, Fr.refl _ _⟩
theorem bad_any (x : Int) (w : World) : Calls Tryd.prog 88 #[.int .i64 x] w fun e w' => e = .returned (.bool (!isIn x 0 6)) ∧ Fr0 w w' := by
 go_enter Tryd.func88, Tryd.ntmps88
 go_wp2_with (go_at_call 59; refine (hlies x 0 6 _).mono ?_; rintro e W1 ⟨rfl, hf⟩)
 go_ret
 exact ⟨rfl, hf⟩
/-- The first number that cannot be asked of, from place n on; -1: none. -/
def badFrom (l : List Int) : Nat → Nat → Int
 | 0, _ => -1
 | d + 1, n => if isIn (l.getD n 0) 0 6 = true then badFrom l d (n + 1) else n
theorem badFrom_any (l : List Int) : ∀ (d n : Nat), n + d = l.length → (0 ≤ badFrom l d n ↔ (l.drop n).any (fun x => !isIn x 0 6) = true)
 | 0, n, h => by
  rw [List.drop_of_length_le (by omega)]
  simp [badFrom]
 | d + 1, n, h => by
  have hn : n < l.length := by omega
  rw [List.drop_eq_getElem_cons hn, List.any_cons]
  unfold badFrom
  rw [show l.getD n 0 = l[n] by simp [hn]]
  have ih := badFrom_any l d (n + 1) (by omega)
  cases isIn l[n] 0 6
  ·simp
  ·simpa using ih
set_option maxHeartbeats 2000000 in
set_option maxRecDepth 100000 in
theorem index_any (A : Option Addr) (c : Nat) (l : List Int) (w : World) (hr : Kd.C (Kd.int .i64) w A l.length l) (hc : l.length ≤ c) :
  Calls Tryd.prog 97 #[.slice A l.length c, .func (.func 88) #[] #[]] w fun e w' => e = .returned (.int .i64 (badFrom l l.length 0)) ∧ Fr0 w w' := by
 have HR := Lib.hid hr
 have hlen : (l.length : Int) ≤ 9223372036854775807 := by have := hr.2.1; omega
 clear hr
 go_enter Tryd.func97, Tryd.ntmps97
 go_wp2
 go_loopw [8] (fun v8 wr => ∃ n : Nat, n ≤ l.length ∧ v8 = .int .i64 n ∧ Hop (badFrom l l.length 0 = badFrom l (l.length - n) n) ∧ Fr0 w wr) (fun v8 _ => (l.length - intOf v8).toNat)
 case atStart => exact ⟨0, by omega, by rfl, ⟨rfl⟩, Fr.refl _ _⟩
 case round =>
  obtain ⟨n, hn, rfl, HBF, hf⟩ := hrel
  have HF := Lib.hid hf
  by_cases hlt : n < l.length
  ·have hle : (n : Int) < l.length := by omega
   obtain ⟨ad, ead, hx⟩ := Kd.at_int (Kd.C_below HR.out (hf.below (Nat.le_refl _) (fun _ _ h => h))) (n : Int) (by omega) hle
   cases ead
   obtain ⟨d, hd⟩ : ∃ d, l.length - n = d + 1 := ⟨l.length - n - 1, by omega⟩
   have hx' : wr.cell? (ad.add n) = some (.int .i64 (l.getD n 0)) := hx
   have HST := Lib.hid (show badFrom l (l.length - n) n = if isIn (l.getD n 0) 0 6 = true then badFrom l d (n + 1) else n from by rw [hd]; rfl)
   have HD := Lib.hid hd
   clear hx hf hd
   generalize l.getD n 0 = x at *
   by_cases hask : isIn x 0 6 = true
   ·go_wp2_with (go_at_call 88; refine (bad_any x _).mono ?_; rintro e W1 ⟨rfl, hf1⟩)
    refine ⟨⟨n + 1, by omega, by go_num, ⟨?_⟩, HF.out.trans hf1⟩, by simp [intOf]; omega⟩
    rw [HBF.out, HST.out, if_pos hask]
    congr 1
    have := HD.out
    omega
   ·rw [Bool.not_eq_true] at hask
    go_wp2_with (go_at_call 88; refine (bad_any x _).mono ?_; rintro e W1 ⟨rfl, hf1⟩)
    refine bodyPost_ret (v := .int .i64 n) (by simp [results, Tryd.results97, go_sem]) rfl ⟨by rw [HBF.out, HST.out, if_neg (by simp [hask])], HF.out.trans hf1⟩
  ·obtain rfl : n = l.length := by omega
   have hle : ¬ ((l.length : Int) < l.length) := by omega
   clear hf
   go_wp2
   refine bodyPost_ret (v := .int .i64 (-1)) (by simp [results, Tryd.results97, go_sem]) rfl ⟨by rw [HBF.out, Nat.sub_self]; rfl, HF.out⟩
set_option maxHeartbeats 1000000 in
theorem contains_any (A : Option Addr) (c : Nat) (l : List Int) (w : World) (hr : Kd.C (Kd.int .i64) w A l.length l) (hc : l.length ≤ c) :
  Calls Tryd.prog 87 #[.slice A l.length c, .func (.func 88) #[] #[]] w fun e w' => e = .returned (.bool (l.any (fun x => !isIn x 0 6))) ∧ Fr0 w w' := by
 have hb := badFrom_any l l.length 0 (by omega)
 rw [List.drop_zero] at hb
 have HC := Lib.hid (index_any A c l w hr hc)
 have HB := Lib.hid hb
 clear hb hr
 generalize badFrom l l.length 0 = B at *
 go_enter Tryd.func87, Tryd.ntmps87
 go_wp2_with (go_at_call 97; refine HC.out.mono ?_; rintro e W1 ⟨rfl, hf⟩)
 refine bodyPost_ret (v := .bool (decide (0 ≤ B))) (by simp [results, Tryd.results87, go_sem]) rfl ⟨?_, hf⟩
 congr 2
 have h := HB.out
 cases hq : l.any (fun x => !isIn x 0 6)
 ·rw [hq] at h; simp at h; simpa using h
 ·rw [hq] at h; simpa using h
/-- Are numbers tones, from so many on? -/
def tonesB (l : List Int) (least : Int) : Bool := isIn (l.length : Int) least 24 && l.all (fun x => isIn x 0 6)
theorem all_any (l : List Int) (p : Int → Bool) : (!l.any fun x => !p x) = l.all p := by
 induction l with
 | nil => rfl
 | cons x xs ih => rw [List.any_cons, List.all_cons, ← ih]; cases p x <;> simp
theorem tones_any (A : Option Addr) (c : Nat) (l : List Int) (least : Int) (w : World) (hr : Kd.C (Kd.int .i64) w A l.length l) (hc : l.length ≤ c) :
  Calls Tryd.prog 60 #[.slice A l.length c, .int .i64 least] w fun e w' => e = .returned (.bool (tonesB l least)) ∧ Fr0 w w' := by
 have HC := Lib.hid (fun W (hf : Fr0 w W) => contains_any A c l W (C_fr hr hf) hc)
 have HL := Lib.hid (fun W => hlies (l.length : Int) least 24 W)
 clear hr
 unfold tonesB
 rw [← all_any]
 cases q : isIn (l.length : Int) least 24
 ·rw [q] at HL
  go_enter Tryd.func60, Tryd.ntmps60
  go_wp2_with (go_at_call 59; refine (HL.out _).mono ?_; rintro e W1 ⟨rfl, hf⟩)
  refine bodyPost_ret (v := .bool false) (by simp [results, Tryd.results60, go_sem]) rfl ⟨by simp, hf⟩
 ·rw [q] at HL
  generalize l.any (fun x => !isIn x 0 6) = b at *
  go_enter Tryd.func60, Tryd.ntmps60
  go_wp2_with (first
   | (go_at_call 59; refine (HL.out _).mono ?_; rintro e W1 ⟨rfl, hf⟩)
   | (go_at_call 87; refine (HC.out _ hf).mono ?_; rintro e W2 ⟨rfl, hf2⟩))
  refine bodyPost_ret (v := .bool (!b)) (by simp [results, Tryd.results60, go_sem]) rfl ⟨by simp, Fr0.trans hf hf2⟩
end Go.Proofs.YtfdenclnneigfaaDoor.R
namespace Go.Proofs.YtfdenclnneigfaaDoor.R
open Go.RowKit Go.Shelf Go.Proofs.YtfdenclnneigfaaDoorW.PrintWords Go.Proofs.YtfdenclnneigfaaDoorW.PrintLast Go.Proofs.YtfdenclnneigfaaDoor.PRaspKeys Go.Proofs.YtfdenclnneigfaaDoor.X Go.Proofs.YtfdenclnneigfaaDoor.M
attribute [local go_sem] Oper.semAt_some
/-! ### Notes -/
def noteB (t gs : List Int) (lost wrong : Int) : Bool := gr (t.length : Int) (-1) gs && ((tonesB t 1 && isIn lost 0 6) && isIn wrong 0 6)
theorem gr_cons (b last x : Int) (xs : List Int) : gr b last (x :: xs) = (isIn x (last + 1) (b - 1) && gr b x xs) := rfl
set_option maxHeartbeats 4000000 in
set_option maxRecDepth 100000 in
theorem isNote_any (At : Option Addr) (ct : Nat) (t : List Int) (Ag : Option Addr) (cg : Nat) (gs : List Int) (lost wrong : Int) (w : World) (hrt : Kd.C (Kd.int .i64) w At t.length t) (hct : t.length ≤ ct) (hrg : Kd.C (Kd.int .i64) w Ag gs.length gs) (hcg : gs.length ≤ cg) :
  Calls Tryd.prog 71 #[.agg #[.slice At t.length ct, .slice Ag gs.length cg, .int .i64 lost, .int .i64 wrong]] w fun e w' => e = .returned (.bool (noteB t gs lost wrong)) ∧ Fr0 w w' := by
 have HT := Lib.hid hrt
 have HG := Lib.hid hrg
 have htl := C_len hrt
 have hgl := C_len hrg
 have hf0 : Fr0 w (w.alloc (.cells #[.slice At t.length ct, .slice Ag gs.length cg, .int .i64 lost, .int .i64 wrong] 30)) := (Fr.refl _ _).alloc _
 have c0 : Bx (w.alloc (.cells #[.slice At t.length ct, .slice Ag gs.length cg, .int .i64 lost, .int .i64 wrong] 30)) w.heap.size 30 #[.slice At t.length ct, .slice Ag gs.length cg, .int .i64 lost, .int .i64 wrong] := Bx.of_new rfl
 clear hrt hrg
 go_enter Tryd.func71, Tryd.ntmps71
 go_upto_region 1 with fail
 generalize w.alloc (.cells #[.slice At t.length ct, .slice Ag gs.length cg, .int .i64 lost, .int .i64 wrong] 30) = W at hf0 c0 ⊢
 generalize w.heap.size = b at c0 ⊢
 have HF := Lib.hid hf0
 have HC := Lib.hid c0
 have v1 := c0.at_ 1 (v := .slice Ag gs.length cg) rfl
 clear hf0 c0
 go_wp2
 go_loopw [3, 9] (fun v3 v9 wr => ∃ (last : Int) (n : Nat), n ≤ gs.length ∧ v3 = .int .i64 last ∧ v9 = .int .i64 n ∧ -1 ≤ last ∧ last + 1 ≤ t.length ∧ Hop (gr (t.length : Int) (-1) gs = gr (t.length : Int) last (gs.drop n)) ∧ Fr0 W wr) (fun _ v9 _ => (gs.length - intOf v9).toNat)
 case atStart => exact ⟨-1, 0, by omega, by rfl, by rfl, by omega, by omega, ⟨rfl⟩, Fr.refl _ _⟩
 case round =>
  clear v1
  obtain ⟨last, n, hn, rfl, rfl, hl0, hl1, HGR, hf⟩ := hrel
  have v0 := (HC.out.fr0 hf).at_ 0 (v := .slice At t.length ct) rfl
  have v2 := (HC.out.fr0 hf).at_ 2 (v := .int .i64 lost) rfl
  have v3 := (HC.out.fr0 hf).at_ 3 (v := .int .i64 wrong) rfl
  by_cases hlt : n < gs.length
  ·have hle : (n : Int) < gs.length := by omega
   obtain ⟨ad, ead, hx⟩ := Kd.at_int (C_fr HG.out (Fr0.trans HF.out hf)) (n : Int) (by omega) hle
   cases ead
   have hx' : wr.cell? (ad.add n) = some (.int .i64 (gs.getD n 0)) := hx
   have HD := Lib.hid (show gr (t.length : Int) last (gs.drop n) = (isIn (gs.getD n 0) (last + 1) ((t.length : Int) - 1) && gr (t.length : Int) (gs.getD n 0) (gs.drop (n + 1))) by
    rw [List.drop_eq_getElem_cons hlt, gr_cons, show gs.getD n 0 = gs[n] by simp [hlt]])
   have HW := Lib.hid hf
   clear hx hf
   generalize gs.getD n 0 = x at *
   have HL := Lib.hid (fun W' => hlies x (last + 1) ((t.length : Int) - 1) W')
   cases q : isIn x (last + 1) ((t.length : Int) - 1)
   ·rw [q] at HL HD
    clear q
    go_wp2_with (go_at_call 59; refine (HL.out _).mono ?_; rintro e W1 ⟨rfl, hf1⟩)
    refine bodyPost_ret (v := .bool false) (by simp [results, Tryd.results71, go_sem]) rfl ⟨?_, Fr0.trans HF.out (Fr0.trans HW.out hf1)⟩
    unfold noteB
    rw [HGR.out, HD.out]
    rfl
   ·have hin := isIn_iff.1 q
    rw [q] at HL HD
    clear q
    go_wp2_with (go_at_call 59; refine (HL.out _).mono ?_; rintro e W1 ⟨rfl, hf1⟩)
    go_roundw
    case rel => exact ⟨x, n + 1, by omega, by rfl, by go_num, by omega, by omega, ⟨by rw [HGR.out, HD.out, Bool.true_and]⟩, Fr0.trans HW.out hf1⟩
    case measure => simp [intOf]; omega
  ·have hle : ¬ (n : Int) < gs.length := by omega
   have HN := Lib.hid (show noteB t gs lost wrong = ((tonesB t 1 && isIn lost 0 6) && isIn wrong 0 6) by
    unfold noteB
    rw [HGR.out, List.drop_of_length_le (by omega)]
    rfl)
   have HW := Lib.hid hf
   have HTO := Lib.hid (fun W' (hf : Fr0 wr W') => tones_any At ct t 1 W' (C_fr HT.out (Fr0.trans HF.out (Fr0.trans HW.out hf))) hct)
   clear hf
   have HV := Lib.hid (show noteB t gs lost wrong = ((tonesB t 1 && isIn lost 0 6) && isIn wrong 0 6) from HN.out)
   clear HN
   cases hp : tonesB t 1 <;> cases hq : isIn lost 0 6 <;> cases hr : isIn wrong 0 6
   all_goals
    rw [hp, hq, hr] at HV
    go_wp2_with (first
     | (go_at_call 60; refine (HTO.out _ (Fr.refl _ _)).mono ?_; rintro e W1 ⟨rfl, hf1⟩; (have HFc := Lib.hid (Fr0.trans HW.out hf1)); (have v2 := hf1.cell0 v2); (have v3 := hf1.cell0 v3); clear hf1)
     | (go_at_call 59; refine (hlies _ _ _ _).mono ?_; rintro e W2 ⟨rfl, hf2⟩; (have HFc := Lib.hid (Fr0.trans HFc.out hf2)); (have v3 := hf2.cell0 v3); clear hf2))
    refine bodyPost_ret (by simp [results, Tryd.results71, go_sem]; rfl) rfl ⟨by rw [HV.out]; rfl, Fr0.trans HF.out HFc.out⟩
end Go.Proofs.YtfdenclnneigfaaDoor.R
namespace Go.Proofs.YtfdenclnneigfaaDoor.R
open Go.RowKit Go.Shelf Go.Proofs.YtfdenclnneigfaaDoorW.PrintWords Go.Proofs.YtfdenclnneigfaaDoorW.PrintLast Go.Proofs.YtfdenclnneigfaaDoor.PRaspKeys Go.Proofs.YtfdenclnneigfaaDoor.X Go.Proofs.YtfdenclnneigfaaDoor.M
attribute [local go_sem] Oper.semAt_some
/-! ### Check -/
def pieceOk (n : Nat) (p : S62) : Bool := isIn p.f0 0 ((n : Int) - 1) && tonesB p.f1 1
def hbookOk (g : Int) (l : List S114) (ps : List S62) : Bool := (bookOk g l && isIn (ps.length : Int) 1 6) && ps.all (pieceOk l.length)
def hcheckE (g : Int) (l : List S114) (ps : List S62) : Int := if hbookOk g l ps = true then 0 else 90
/-- A book, its forms and its pieces. -/
structure HBook (w : World) (A : Option Addr) (c : Nat) (l : List S114) (Ap : Option Addr) (cp : Nat) (ps : List S62) : Prop where
 bk : Book w A c l
 r : Kd.C k62 w Ap ps.length ps
 c : ps.length ≤ cp
theorem HBook.fr {w w' : World} {A : Option Addr} {c : Nat} {l : List S114} {Ap : Option Addr} {cp : Nat} {ps : List S62} (h : HBook w A c l Ap cp ps) (hf : Fr0 w w') : HBook w' A c l Ap cp ps := ⟨h.bk.fr hf, C_fr h.r hf, h.c⟩
theorem rdT62 (ps : List S62) (n : Nat) (h : n < ps.length) : rd_T62 ps (n : Int) = ps[n] := by simp [rd_T62, h]
set_option maxHeartbeats 16000000 in
set_option maxRecDepth 100000 in
theorem hcheck_any (g : Int) (A : Option Addr) (c : Nat) (l : List S114) (Ap : Option Addr) (cp : Nat) (ps : List S62) (w : World) (hB : HBook w A c l Ap cp ps) :
  Calls Tryd.prog 16 #[.agg #[.int .i64 g, .slice A l.length c, .slice Ap ps.length cp]] w fun e w' => e = .returned (.int .i64 (hcheckE g l ps)) ∧ Fr0 w w' := by
 have HB := Lib.hid hB
 have hll := C_len hB.bk.r
 have hpl := C_len hB.r
 have hf0 : Fr0 w (w.alloc (.cells #[.int .i64 g, .slice A l.length c, .slice Ap ps.length cp] 27)) := (Fr.refl _ _).alloc _
 have c0 : Bx (w.alloc (.cells #[.int .i64 g, .slice A l.length c, .slice Ap ps.length cp] 27)) w.heap.size 27 #[.int .i64 g, .slice A l.length c, .slice Ap ps.length cp] := Bx.of_new rfl
 clear hB
 go_enter Tryd.func16, Tryd.ntmps16
 go_upto_region 1 with fail
 generalize w.alloc (.cells #[.int .i64 g, .slice A l.length c, .slice Ap ps.length cp] 27) = W at hf0 c0 ⊢
 generalize w.heap.size = b at c0 ⊢
 have HF := Lib.hid hf0
 have HC := Lib.hid c0
 have v0 := c0.at_ 0 (v := .int .i64 g) rfl
 have v1 := c0.at_ 1 (v := .slice A l.length c) rfl
 have v2 := c0.at_ 2 (v := .slice Ap ps.length cp) rfl
 clear hf0 c0
 have HCK := Lib.hid (check_any g A c l W (HB.out.fr HF.out).bk.r (HB.out.fr HF.out).bk.c)
 unfold checkE at HCK
 cases hb : bookOk g l
 ·have HE := Lib.hid (show hcheckE g l ps = 90 by unfold hcheckE hbookOk; rw [hb]; rfl)
  rw [hb] at HCK
  clear hb
  go_upto_region 2 with (first
   | (go_at_call 58; refine HCK.out.mono ?_; rintro e W1 ⟨rfl, hf1⟩; (have HW := Lib.hid hf1); (have v0 := hf1.cell0 v0); (have v1 := hf1.cell0 v1); (have v2 := hf1.cell0 v2); clear hf1)
   | (go_at_call 59; refine (hlies _ _ _ _).mono ?_; rintro e W2 ⟨rfl, hf2⟩; (have HW := Lib.hid (Fr0.trans HW.out hf2)); (have v0 := hf2.cell0 v0); (have v1 := hf2.cell0 v1); (have v2 := hf2.cell0 v2); clear hf2))
  go_wp2
  go_loopw [3, 19] (fun v3 v19 wr => ∃ n : Nat, n ≤ ps.length ∧ v3 = .bool false ∧ v19 = .int .i64 n ∧ Fr0 W wr) (fun _ v19 _ => (ps.length - intOf v19).toNat)
  case atStart => exact ⟨0, by omega, by rfl, by rfl, HW.out⟩
  case round =>
   clear v0 v1 v2
   obtain ⟨n, hn, rfl, rfl, hf⟩ := hrel
   by_cases hlt : n < ps.length
   ·have hle : (n : Int) < ps.length := by omega
    obtain ⟨ad, A1, c1, ead, x0, x1, hl1, hC1⟩ := at_T62 (HB.out.fr (Fr0.trans HF.out hf)).r (n : Int) (by omega) hle
    cases ead
    rw [Int.toNat_natCast] at x0 x1
    have HD := Lib.hid (show (ps.drop n).all (pieceOk l.length) = ((isIn (rd_T62 ps (n : Int)).f0 0 ((l.length : Int) - 1) && tonesB (rd_T62 ps (n : Int)).f1 1) && (ps.drop (n + 1)).all (pieceOk l.length)) by
     rw [List.drop_eq_getElem_cons hlt, List.all_cons, rdT62 ps n hlt]; rfl)
    have HX := Lib.hid hf
    have HC1 := Lib.hid hC1
    clear hf hC1
    generalize rd_T62 ps (n : Int) = p at *
    go_upto_region 5 with fail
    have hfa : Fr0 wr (wr.alloc (.cells #[.int .i64 p.f0, .slice A1 p.f1.length c1] 62)) := (Fr.refl _ _).alloc _
    have y0 : (wr.alloc (.cells #[.int .i64 p.f0, .slice A1 p.f1.length c1] 62)).cell? ⟨wr.heap.size, 0, none⟩ = some (.int .i64 p.f0) := (Bx.of_new (cs := #[.int .i64 p.f0, .slice A1 p.f1.length c1]) rfl).at_ 0 rfl
    have y1 : (wr.alloc (.cells #[.int .i64 p.f0, .slice A1 p.f1.length c1] 62)).cell? ⟨wr.heap.size, 1, none⟩ = some (.slice A1 p.f1.length c1) := (Bx.of_new (cs := #[.int .i64 p.f0, .slice A1 p.f1.length c1]) rfl).at_ 1 rfl
    have v1 := (HC.out.fr0 (Fr0.trans HX.out hfa)).at_ 1 (v := .slice A l.length c) rfl
    have HA := Lib.hid hfa
    clear x0 x1 hfa
    generalize wr.alloc (.cells #[.int .i64 p.f0, .slice A1 p.f1.length c1] 62) = V at HA y0 y1 v1 ⊢
    generalize wr.heap.size = bp at y0 y1 ⊢
    go_wp2
    go_roundw
    case rel => exact ⟨n + 1, by omega, by rfl, by go_num, Fr0.trans HX.out HA.out⟩
    case measure => simp [intOf]; omega
   ·have hle : ¬ (n : Int) < ps.length := by omega
    have HX := Lib.hid hf
    clear hf
    go_wp2
    refine bodyPost_ret (v := .int .i64 90) (by simp [results, Tryd.results16, go_sem]) rfl ⟨by rw [HE.out], Fr0.trans HF.out HX.out⟩
 ·rw [hb] at HCK
  cases hp : isIn (ps.length : Int) 1 6
  ·have HE := Lib.hid (show hcheckE g l ps = 90 by unfold hcheckE hbookOk; rw [hb, hp]; rfl)
   clear hb
   go_upto_region 2 with (first
    | (go_at_call 58; refine HCK.out.mono ?_; rintro e W1 ⟨rfl, hf1⟩; (have HW := Lib.hid hf1); (have v0 := hf1.cell0 v0); (have v1 := hf1.cell0 v1); (have v2 := hf1.cell0 v2); clear hf1)
    | (go_at_call 59; refine (hlies _ _ _ _).mono ?_; rintro e W2 ⟨rfl, hf2⟩; (have HW := Lib.hid (Fr0.trans HW.out hf2)); (have v0 := hf2.cell0 v0); (have v1 := hf2.cell0 v1); (have v2 := hf2.cell0 v2); clear hf2))
   go_wp2
   go_loopw [3, 19] (fun v3 v19 wr => ∃ n : Nat, n ≤ ps.length ∧ v3 = .bool false ∧ v19 = .int .i64 n ∧ Fr0 W wr) (fun _ v19 _ => (ps.length - intOf v19).toNat)
   case atStart => exact ⟨0, by omega, by rfl, by rfl, HW.out⟩
   case round =>
    clear v0 v1 v2
    obtain ⟨n, hn, rfl, rfl, hf⟩ := hrel
    by_cases hlt : n < ps.length
    ·have hle : (n : Int) < ps.length := by omega
     obtain ⟨ad, A1, c1, ead, x0, x1, hl1, hC1⟩ := at_T62 (HB.out.fr (Fr0.trans HF.out hf)).r (n : Int) (by omega) hle
     cases ead
     rw [Int.toNat_natCast] at x0 x1
     have HD := Lib.hid (show (ps.drop n).all (pieceOk l.length) = ((isIn (rd_T62 ps (n : Int)).f0 0 ((l.length : Int) - 1) && tonesB (rd_T62 ps (n : Int)).f1 1) && (ps.drop (n + 1)).all (pieceOk l.length)) by
      rw [List.drop_eq_getElem_cons hlt, List.all_cons, rdT62 ps n hlt]; rfl)
     have HX := Lib.hid hf
     have HC1 := Lib.hid hC1
     clear hf hC1
     generalize rd_T62 ps (n : Int) = p at *
     go_upto_region 5 with fail
     have hfa : Fr0 wr (wr.alloc (.cells #[.int .i64 p.f0, .slice A1 p.f1.length c1] 62)) := (Fr.refl _ _).alloc _
     have y0 : (wr.alloc (.cells #[.int .i64 p.f0, .slice A1 p.f1.length c1] 62)).cell? ⟨wr.heap.size, 0, none⟩ = some (.int .i64 p.f0) := (Bx.of_new (cs := #[.int .i64 p.f0, .slice A1 p.f1.length c1]) rfl).at_ 0 rfl
     have y1 : (wr.alloc (.cells #[.int .i64 p.f0, .slice A1 p.f1.length c1] 62)).cell? ⟨wr.heap.size, 1, none⟩ = some (.slice A1 p.f1.length c1) := (Bx.of_new (cs := #[.int .i64 p.f0, .slice A1 p.f1.length c1]) rfl).at_ 1 rfl
     have v1 := (HC.out.fr0 (Fr0.trans HX.out hfa)).at_ 1 (v := .slice A l.length c) rfl
     have HA := Lib.hid hfa
     clear x0 x1 hfa
     generalize wr.alloc (.cells #[.int .i64 p.f0, .slice A1 p.f1.length c1] 62) = V at HA y0 y1 v1 ⊢
     generalize wr.heap.size = bp at y0 y1 ⊢
     go_wp2
     go_roundw
     case rel => exact ⟨n + 1, by omega, by rfl, by go_num, Fr0.trans HX.out HA.out⟩
     case measure => simp [intOf]; omega
    ·have hle : ¬ (n : Int) < ps.length := by omega
     have HX := Lib.hid hf
     clear hf
     go_wp2
     refine bodyPost_ret (v := .int .i64 90) (by simp [results, Tryd.results16, go_sem]) rfl ⟨by rw [HE.out], Fr0.trans HF.out HX.out⟩
  ·have HE := Lib.hid (show hcheckE g l ps = if (true && (ps.drop 0).all (pieceOk l.length)) = true then 0 else 90 by unfold hcheckE hbookOk; rw [hb, hp]; rfl)
   clear hb
   go_upto_region 2 with (first
    | (go_at_call 58; refine HCK.out.mono ?_; rintro e W1 ⟨rfl, hf1⟩; (have HW := Lib.hid hf1); (have v0 := hf1.cell0 v0); (have v1 := hf1.cell0 v1); (have v2 := hf1.cell0 v2); clear hf1)
    | (go_at_call 59; refine (hlies _ _ _ _).mono ?_; rintro e W2 ⟨rfl, hf2⟩; (have HW := Lib.hid (Fr0.trans HW.out hf2)); (have v0 := hf2.cell0 v0); (have v1 := hf2.cell0 v1); (have v2 := hf2.cell0 v2); clear hf2))
   go_wp2
   go_loopw [3, 19] (fun v3 v19 wr => ∃ (q : Bool) (n : Nat), n ≤ ps.length ∧ v3 = .bool q ∧ v19 = .int .i64 n ∧ Hop (hcheckE g l ps = if (q && (ps.drop n).all (pieceOk l.length)) = true then 0 else 90) ∧ Fr0 W wr) (fun _ v19 _ => (ps.length - intOf v19).toNat)
   case atStart => exact ⟨true, 0, by omega, by rfl, by rfl, ⟨HE.out⟩, HW.out⟩
   case round =>
    clear v0 v1 v2
    obtain ⟨q, n, hn, rfl, rfl, HH, hf⟩ := hrel
    by_cases hlt : n < ps.length
    ·have hle : (n : Int) < ps.length := by omega
     obtain ⟨ad, A1, c1, ead, x0, x1, hl1, hC1⟩ := at_T62 (HB.out.fr (Fr0.trans HF.out hf)).r (n : Int) (by omega) hle
     cases ead
     rw [Int.toNat_natCast] at x0 x1
     have HD := Lib.hid (show (ps.drop n).all (pieceOk l.length) = ((isIn (rd_T62 ps (n : Int)).f0 0 ((l.length : Int) - 1) && tonesB (rd_T62 ps (n : Int)).f1 1) && (ps.drop (n + 1)).all (pieceOk l.length)) by
      rw [List.drop_eq_getElem_cons hlt, List.all_cons, rdT62 ps n hlt]; rfl)
     have HX := Lib.hid hf
     have HC1 := Lib.hid hC1
     clear hf hC1
     generalize rd_T62 ps (n : Int) = p at *
     go_upto_region 5 with fail
     have hfa : Fr0 wr (wr.alloc (.cells #[.int .i64 p.f0, .slice A1 p.f1.length c1] 62)) := (Fr.refl _ _).alloc _
     have y0 : (wr.alloc (.cells #[.int .i64 p.f0, .slice A1 p.f1.length c1] 62)).cell? ⟨wr.heap.size, 0, none⟩ = some (.int .i64 p.f0) := (Bx.of_new (cs := #[.int .i64 p.f0, .slice A1 p.f1.length c1]) rfl).at_ 0 rfl
     have y1 : (wr.alloc (.cells #[.int .i64 p.f0, .slice A1 p.f1.length c1] 62)).cell? ⟨wr.heap.size, 1, none⟩ = some (.slice A1 p.f1.length c1) := (Bx.of_new (cs := #[.int .i64 p.f0, .slice A1 p.f1.length c1]) rfl).at_ 1 rfl
     have v1 := (HC.out.fr0 (Fr0.trans HX.out hfa)).at_ 1 (v := .slice A l.length c) rfl
     have HA := Lib.hid hfa
     clear x0 x1 hfa
     generalize wr.alloc (.cells #[.int .i64 p.f0, .slice A1 p.f1.length c1] 62) = V at HA y0 y1 v1 ⊢
     generalize wr.heap.size = bp at y0 y1 ⊢
     cases q
     ·go_wp2
      go_roundw
      case rel => exact ⟨false, n + 1, by omega, by rfl, by go_num, ⟨by rw [HH.out]; rfl⟩, Fr0.trans HX.out HA.out⟩
      case measure => simp [intOf]; omega
     ·have HTO := Lib.hid (fun W' (hf : Fr0 V W') => tones_any A1 c1 p.f1 1 W' (C_fr HC1.out (Fr0.trans HA.out hf)) hl1)
      cases h1 : isIn p.f0 0 ((l.length : Int) - 1) <;> cases h2 : tonesB p.f1 1
      all_goals
       rw [h1, h2] at HD
       go_wp2_with (first
        | (go_at_call 59; refine (hlies _ _ _ _).mono ?_; rintro e W1 ⟨rfl, hf1⟩; (have HN := Lib.hid hf1); (have y1 := hf1.cell0 y1); clear hf1)
        | (go_at_call 60; refine (HTO.out _ HN.out).mono ?_; rintro e W2 ⟨rfl, hf2⟩; (have HN := Lib.hid (Fr0.trans HN.out hf2)); clear hf2))
       go_roundw
       case rel => exact ⟨_, n + 1, by omega, by rfl, by go_num, ⟨by rw [HH.out, HD.out]; rfl⟩, Fr0.trans HX.out (Fr0.trans HA.out HN.out)⟩
       case measure => simp [intOf]; omega
    ·have hle : ¬ (n : Int) < ps.length := by omega
     have HX := Lib.hid hf
     have HE := Lib.hid (show hcheckE g l ps = if q = true then 0 else 90 by
      rw [HH.out, List.drop_of_length_le (by omega)]; cases q <;> rfl)
     clear hf
     cases q
     ·go_wp2
      refine bodyPost_ret (v := .int .i64 90) (by simp [results, Tryd.results16, go_sem]) rfl ⟨by rw [HE.out]; rfl, Fr0.trans HF.out HX.out⟩
     ·go_wp2
      refine bodyPost_ret (v := .int .i64 0) (by simp [results, Tryd.results16, go_sem]) rfl ⟨by rw [HE.out]; rfl, Fr0.trans HF.out HX.out⟩
end Go.Proofs.YtfdenclnneigfaaDoor.R
namespace Go.Proofs.YtfdenclnneigfaaDoor.R
open Go.RowKit Go.Shelf Go.Proofs.YtfdenclnneigfaaDoorW.PrintWords Go.Proofs.YtfdenclnneigfaaDoorW.PrintLast Go.Proofs.YtfdenclnneigfaaDoor.PRaspKeys Go.Proofs.YtfdenclnneigfaaDoor.X Go.Proofs.YtfdenclnneigfaaDoor.M
attribute [local go_sem] Oper.semAt_some
/-! ### What is asked -/
def hbC (g : Int) (A : Option Addr) (n c : Nat) (Ap : Option Addr) (m cp : Nat) (piece : Int) (At : Option Addr) (k ct : Nat) (Ag : Option Addr) (j cg : Nat) (lost wrong : Int) : Array Value := #[.int .i64 g, .slice A n c, .slice Ap m cp, .int .i64 piece, .slice At k ct, .slice Ag j cg, .int .i64 lost, .int .i64 wrong]
def hbV (g : Int) (A : Option Addr) (n c : Nat) (Ap : Option Addr) (m cp : Nat) (piece : Int) (At : Option Addr) (k ct : Nat) (Ag : Option Addr) (j cg : Nat) (lost wrong : Int) : Value := .agg (hbC g A n c Ap m cp piece At k ct Ag j cg lost wrong)
def askE (g : Int) (l : List S114) (ps : List S62) (ok : Bool) : Int := if hbookOk g l ps = true then (if ok = true then 0 else 91) else 90
def okAsk (ps : List S62) (piece : Int) (t gs : List Int) (lost wrong : Int) : Bool := isIn piece 0 ((ps.length : Int) - 1) && noteB t gs lost wrong
/-- A note's rows. -/
structure Note (w : World) (At : Option Addr) (ct : Nat) (t : List Int) (Ag : Option Addr) (cg : Nat) (gs : List Int) : Prop where
 rt : Kd.C (Kd.int .i64) w At t.length t
 ct : t.length ≤ ct
 rg : Kd.C (Kd.int .i64) w Ag gs.length gs
 cg : gs.length ≤ cg
theorem Note.fr {w w' : World} {At : Option Addr} {ct : Nat} {t : List Int} {Ag : Option Addr} {cg : Nat} {gs : List Int} (h : Note w At ct t Ag cg gs) (hf : Fr0 w w') : Note w' At ct t Ag cg gs := ⟨C_fr h.rt hf, h.ct, C_fr h.rg hf, h.cg⟩
theorem eight_set {W : World} {g : Nat} {a0 a1 a2 a3 a4 a5 a6 a7 : Value} (h : Bx W g 79 #[a0, a1, a2, a3, a4, a5, a6, a7]) (b0 b1 b2 b3 b4 b5 b6 b7 : Value) :
  Bx ((((((((W.setCell ⟨g, 0, none⟩ b0).setCell ⟨g, 1, none⟩ b1).setCell ⟨g, 2, none⟩ b2).setCell ⟨g, 3, none⟩ b3).setCell ⟨g, 4, none⟩ b4).setCell ⟨g, 5, none⟩ b5).setCell ⟨g, 6, none⟩ b6).setCell ⟨g, 7, none⟩ b7) g 79 #[b0, b1, b2, b3, b4, b5, b6, b7] := by
 have h := (((((((h.set_ 0 b0).set_ 1 b1).set_ 2 b2).set_ 3 b3).set_ 4 b4).set_ 5 b5).set_ 6 b6).set_ 7 b7
 simp at h
 exact h
theorem res_ask {w : World} {g : Nat} {b0 b1 b2 b3 b4 b5 b6 b7 E : Value} {tmps : Array Value} (h6 : tmps[6]?.getD undef = .pointer (some ⟨g, 0, none⟩)) (h7 : tmps[7]?.getD undef = E) (h : Bx w g 79 #[b0, b1, b2, b3, b4, b5, b6, b7]) :
  (results Tryd.f52 tmps).run Tryd.prog w = .ok (.tuple #[.agg #[b0, b1, b2, b3, b4, b5, b6, b7], E]) w := by
 have e0 := h.at_ 0 rfl
 have e1 := h.at_ 1 rfl
 have e2 := h.at_ 2 rfl
 have e3 := h.at_ 3 rfl
 have e4 := h.at_ 4 rfl
 have e5 := h.at_ 5 rfl
 have e6 := h.at_ 6 rfl
 have e7 := h.at_ 7 rfl
 simp only [results, Tryd.results52]
 simp [h6, h7, go_sem, e0, e1, e2, e3, e4, e5, e6, e7]
def hb0 : Value := hbV 0 none 0 0 none 0 0 0 none 0 0 none 0 0 0 0
set_option maxHeartbeats 16000000 in
set_option maxRecDepth 100000 in
theorem asked_any (g : Int) (A : Option Addr) (c : Nat) (l : List S114) (Ap : Option Addr) (cp : Nat) (ps : List S62) (piece : Int) (At : Option Addr) (ct : Nat) (t : List Int) (Ag : Option Addr) (cg : Nat) (gs : List Int) (lost wrong : Int) (w : World) (hB : HBook w A c l Ap cp ps) (hN : Note w At ct t Ag cg gs) :
  Calls Tryd.prog 52 #[.agg #[.int .i64 g, .slice A l.length c, .slice Ap ps.length cp], .int .i64 piece, .agg #[.slice At t.length ct, .slice Ag gs.length cg, .int .i64 lost, .int .i64 wrong]] w fun e w' => e = .returned (.tuple #[if askE g l ps (okAsk ps piece t gs lost wrong) = 0 then hbV g A l.length c Ap ps.length cp piece At t.length ct Ag gs.length cg lost wrong else hb0, .int .i64 (askE g l ps (okAsk ps piece t gs lost wrong))]) ∧ Fr0 w w' := by
 obtain ⟨R, hR⟩ : ∃ R, R = if askE g l ps (okAsk ps piece t gs lost wrong) = 0 then hbV g A l.length c Ap ps.length cp piece At t.length ct Ag gs.length cg lost wrong else hb0 := ⟨_, rfl⟩
 obtain ⟨E, hE⟩ : ∃ E, E = askE g l ps (okAsk ps piece t gs lost wrong) := ⟨_, rfl⟩
 rw [← hR, ← hE]
 have HR := Lib.hid hR
 have HEE := Lib.hid hE
 clear hR hE
 have HN := Lib.hid hN
 have hpl := C_len hB.r
 have hf0 : Fr0 w (((w.alloc (.cells #[.int .i64 g, .slice A l.length c, .slice Ap ps.length cp] 27)).alloc (.cells #[.slice At t.length ct, .slice Ag gs.length cg, .int .i64 lost, .int .i64 wrong] 30)).alloc (.cells #[.int .i64 0, .slice none 0 0, .slice none 0 0, .int .i64 0, .slice none 0 0, .slice none 0 0, .int .i64 0, .int .i64 0] 79)) := ((Fr.refl _ _).alloc _).alloc _ |>.alloc _
 have cx : Bx (((w.alloc (.cells #[.int .i64 g, .slice A l.length c, .slice Ap ps.length cp] 27)).alloc (.cells #[.slice At t.length ct, .slice Ag gs.length cg, .int .i64 lost, .int .i64 wrong] 30)).alloc (.cells #[.int .i64 0, .slice none 0 0, .slice none 0 0, .int .i64 0, .slice none 0 0, .slice none 0 0, .int .i64 0, .int .i64 0] 79)) w.heap.size 27 #[.int .i64 g, .slice A l.length c, .slice Ap ps.length cp] := ((Bx.of_new rfl).alloc _).alloc _
 have cy : Bx (((w.alloc (.cells #[.int .i64 g, .slice A l.length c, .slice Ap ps.length cp] 27)).alloc (.cells #[.slice At t.length ct, .slice Ag gs.length cg, .int .i64 lost, .int .i64 wrong] 30)).alloc (.cells #[.int .i64 0, .slice none 0 0, .slice none 0 0, .int .i64 0, .slice none 0 0, .slice none 0 0, .int .i64 0, .int .i64 0] 79)) (w.heap.size + 1) 30 #[.slice At t.length ct, .slice Ag gs.length cg, .int .i64 lost, .int .i64 wrong] := (Bx.of_new (by simp)).alloc _
 have cz : Bx (((w.alloc (.cells #[.int .i64 g, .slice A l.length c, .slice Ap ps.length cp] 27)).alloc (.cells #[.slice At t.length ct, .slice Ag gs.length cg, .int .i64 lost, .int .i64 wrong] 30)).alloc (.cells #[.int .i64 0, .slice none 0 0, .slice none 0 0, .int .i64 0, .slice none 0 0, .slice none 0 0, .int .i64 0, .int .i64 0] 79)) (w.heap.size + 1 + 1) 79 #[.int .i64 0, .slice none 0 0, .slice none 0 0, .int .i64 0, .slice none 0 0, .slice none 0 0, .int .i64 0, .int .i64 0] := Bx.of_new (by simp)
 have HCK := Lib.hid (hcheck_any g A c l Ap cp ps (((w.alloc (.cells #[.int .i64 g, .slice A l.length c, .slice Ap ps.length cp] 27)).alloc (.cells #[.slice At t.length ct, .slice Ag gs.length cg, .int .i64 lost, .int .i64 wrong] 30)).alloc (.cells #[.int .i64 0, .slice none 0 0, .slice none 0 0, .int .i64 0, .slice none 0 0, .slice none 0 0, .int .i64 0, .int .i64 0] 79)) (hB.fr hf0))
 clear hB hN
 go_enter Tryd.func52, Tryd.ntmps52
 go_upto_region 1 with fail
 generalize hW : ((w.alloc (.cells #[.int .i64 g, .slice A l.length c, .slice Ap ps.length cp] 27)).alloc (.cells #[.slice At t.length ct, .slice Ag gs.length cg, .int .i64 lost, .int .i64 wrong] 30)).alloc (.cells #[.int .i64 0, .slice none 0 0, .slice none 0 0, .int .i64 0, .slice none 0 0, .slice none 0 0, .int .i64 0, .int .i64 0] 79) = W at hf0 cx cy cz HCK ⊢
 clear hW
 generalize hbb : w.heap.size = b at cx cy cz ⊢
 have HB2 := Lib.hid (show w.heap.size ≤ b + 1 + 1 by omega)
 clear hbb
 have HF := Lib.hid hf0
 have HX := Lib.hid cx
 have HY := Lib.hid cy
 have HZ := Lib.hid cz
 clear hf0 cx cy cz
 ((have x0 := (HX.out).at_ 0 (v := .int .i64 g) rfl); (have x1 := (HX.out).at_ 1 (v := .slice A l.length c) rfl); (have x2 := (HX.out).at_ 2 (v := .slice Ap ps.length cp) rfl); (have y0 := (HY.out).at_ 0 (v := .slice At t.length ct) rfl); (have y1 := (HY.out).at_ 1 (v := .slice Ag gs.length cg) rfl); (have y2 := (HY.out).at_ 2 (v := .int .i64 lost) rfl); (have y3 := (HY.out).at_ 3 (v := .int .i64 wrong) rfl); (have d0 := (HZ.out).at_ 0 (v := .int .i64 0) rfl); (have d1 := (HZ.out).at_ 1 (v := .slice none 0 0) rfl); (have d2 := (HZ.out).at_ 2 (v := .slice none 0 0) rfl); (have d3 := (HZ.out).at_ 3 (v := .int .i64 0) rfl); (have d4 := (HZ.out).at_ 4 (v := .slice none 0 0) rfl); (have d5 := (HZ.out).at_ 5 (v := .slice none 0 0) rfl); (have d6 := (HZ.out).at_ 6 (v := .int .i64 0) rfl); (have d7 := (HZ.out).at_ 7 (v := .int .i64 0) rfl); (have z0 := (HZ.out).frz 0); (have z1 := (HZ.out).frz 1); (have z2 := (HZ.out).frz 2); (have z3 := (HZ.out).frz 3); (have z4 := (HZ.out).frz 4); (have z5 := (HZ.out).frz 5); (have z6 := (HZ.out).frz 6); (have z7 := (HZ.out).frz 7))
 unfold hcheckE at HCK
 cases hb : hbookOk g l ps
 ·have HE := Lib.hid (show askE g l ps (okAsk ps piece t gs lost wrong) = 90 by unfold askE; rw [hb]; rfl)
  rw [hb] at HCK
  clear hb
  go_wp2_with (first
   | (go_at_call 16; refine (HCK.out).mono ?_; rintro e W1 ⟨rfl, hf1⟩; (have HW := Lib.hid hf1); clear hf1; (have x0 := (HX.out.fr0 HW.out).at_ 0 (v := .int .i64 g) rfl); (have x1 := (HX.out.fr0 HW.out).at_ 1 (v := .slice A l.length c) rfl); (have x2 := (HX.out.fr0 HW.out).at_ 2 (v := .slice Ap ps.length cp) rfl); (have y0 := (HY.out.fr0 HW.out).at_ 0 (v := .slice At t.length ct) rfl); (have y1 := (HY.out.fr0 HW.out).at_ 1 (v := .slice Ag gs.length cg) rfl); (have y2 := (HY.out.fr0 HW.out).at_ 2 (v := .int .i64 lost) rfl); (have y3 := (HY.out.fr0 HW.out).at_ 3 (v := .int .i64 wrong) rfl); (have d0 := (HZ.out.fr0 HW.out).at_ 0 (v := .int .i64 0) rfl); (have d1 := (HZ.out.fr0 HW.out).at_ 1 (v := .slice none 0 0) rfl); (have d2 := (HZ.out.fr0 HW.out).at_ 2 (v := .slice none 0 0) rfl); (have d3 := (HZ.out.fr0 HW.out).at_ 3 (v := .int .i64 0) rfl); (have d4 := (HZ.out.fr0 HW.out).at_ 4 (v := .slice none 0 0) rfl); (have d5 := (HZ.out.fr0 HW.out).at_ 5 (v := .slice none 0 0) rfl); (have d6 := (HZ.out.fr0 HW.out).at_ 6 (v := .int .i64 0) rfl); (have d7 := (HZ.out.fr0 HW.out).at_ 7 (v := .int .i64 0) rfl); (have z0 := (HZ.out.fr0 HW.out).frz 0); (have z1 := (HZ.out.fr0 HW.out).frz 1); (have z2 := (HZ.out.fr0 HW.out).frz 2); (have z3 := (HZ.out.fr0 HW.out).frz 3); (have z4 := (HZ.out.fr0 HW.out).frz 4); (have z5 := (HZ.out.fr0 HW.out).frz 5); (have z6 := (HZ.out.fr0 HW.out).frz 6); (have z7 := (HZ.out.fr0 HW.out).frz 7))
   | (go_at_call 59; refine (hlies _ _ _ _).mono ?_; rintro e W2 ⟨rfl, hf2⟩; (have HW := Lib.hid (Fr0.trans HW.out hf2)); clear hf2; (have x0 := (HX.out.fr0 HW.out).at_ 0 (v := .int .i64 g) rfl); (have x1 := (HX.out.fr0 HW.out).at_ 1 (v := .slice A l.length c) rfl); (have x2 := (HX.out.fr0 HW.out).at_ 2 (v := .slice Ap ps.length cp) rfl); (have y0 := (HY.out.fr0 HW.out).at_ 0 (v := .slice At t.length ct) rfl); (have y1 := (HY.out.fr0 HW.out).at_ 1 (v := .slice Ag gs.length cg) rfl); (have y2 := (HY.out.fr0 HW.out).at_ 2 (v := .int .i64 lost) rfl); (have y3 := (HY.out.fr0 HW.out).at_ 3 (v := .int .i64 wrong) rfl); (have d0 := (HZ.out.fr0 HW.out).at_ 0 (v := .int .i64 0) rfl); (have d1 := (HZ.out.fr0 HW.out).at_ 1 (v := .slice none 0 0) rfl); (have d2 := (HZ.out.fr0 HW.out).at_ 2 (v := .slice none 0 0) rfl); (have d3 := (HZ.out.fr0 HW.out).at_ 3 (v := .int .i64 0) rfl); (have d4 := (HZ.out.fr0 HW.out).at_ 4 (v := .slice none 0 0) rfl); (have d5 := (HZ.out.fr0 HW.out).at_ 5 (v := .slice none 0 0) rfl); (have d6 := (HZ.out.fr0 HW.out).at_ 6 (v := .int .i64 0) rfl); (have d7 := (HZ.out.fr0 HW.out).at_ 7 (v := .int .i64 0) rfl); (have z0 := (HZ.out.fr0 HW.out).frz 0); (have z1 := (HZ.out.fr0 HW.out).frz 1); (have z2 := (HZ.out.fr0 HW.out).frz 2); (have z3 := (HZ.out.fr0 HW.out).frz 3); (have z4 := (HZ.out.fr0 HW.out).frz 4); (have z5 := (HZ.out.fr0 HW.out).frz 5); (have z6 := (HZ.out.fr0 HW.out).frz 6); (have z7 := (HZ.out.fr0 HW.out).frz 7))
   | (go_at_call 71; refine (isNote_any At ct t Ag cg gs lost wrong _ (HN.out.fr (Fr0.trans HF.out HW.out)).rt (HN.out.fr (Fr0.trans HF.out HW.out)).ct (HN.out.fr (Fr0.trans HF.out HW.out)).rg (HN.out.fr (Fr0.trans HF.out HW.out)).cg).mono ?_; rintro e W3 ⟨rfl, hf3⟩; (have HW := Lib.hid (Fr0.trans HW.out hf3)); clear hf3; (have x0 := (HX.out.fr0 HW.out).at_ 0 (v := .int .i64 g) rfl); (have x1 := (HX.out.fr0 HW.out).at_ 1 (v := .slice A l.length c) rfl); (have x2 := (HX.out.fr0 HW.out).at_ 2 (v := .slice Ap ps.length cp) rfl); (have y0 := (HY.out.fr0 HW.out).at_ 0 (v := .slice At t.length ct) rfl); (have y1 := (HY.out.fr0 HW.out).at_ 1 (v := .slice Ag gs.length cg) rfl); (have y2 := (HY.out.fr0 HW.out).at_ 2 (v := .int .i64 lost) rfl); (have y3 := (HY.out.fr0 HW.out).at_ 3 (v := .int .i64 wrong) rfl); (have d0 := (HZ.out.fr0 HW.out).at_ 0 (v := .int .i64 0) rfl); (have d1 := (HZ.out.fr0 HW.out).at_ 1 (v := .slice none 0 0) rfl); (have d2 := (HZ.out.fr0 HW.out).at_ 2 (v := .slice none 0 0) rfl); (have d3 := (HZ.out.fr0 HW.out).at_ 3 (v := .int .i64 0) rfl); (have d4 := (HZ.out.fr0 HW.out).at_ 4 (v := .slice none 0 0) rfl); (have d5 := (HZ.out.fr0 HW.out).at_ 5 (v := .slice none 0 0) rfl); (have d6 := (HZ.out.fr0 HW.out).at_ 6 (v := .int .i64 0) rfl); (have d7 := (HZ.out.fr0 HW.out).at_ 7 (v := .int .i64 0) rfl); (have z0 := (HZ.out.fr0 HW.out).frz 0); (have z1 := (HZ.out.fr0 HW.out).frz 1); (have z2 := (HZ.out.fr0 HW.out).frz 2); (have z3 := (HZ.out.fr0 HW.out).frz 3); (have z4 := (HZ.out.fr0 HW.out).frz 4); (have z5 := (HZ.out.fr0 HW.out).frz 5); (have z6 := (HZ.out.fr0 HW.out).frz 6); (have z7 := (HZ.out.fr0 HW.out).frz 7)))
  refine bodyPost_ret (res_ask rfl rfl (eight_set (HZ.out.fr0 HW.out) _ _ _ _ _ _ _ _)) rfl ⟨by rw [HR.out, HEE.out, HE.out]; rfl, (Fr.setCell (Fr.setCell (Fr.setCell (Fr.setCell (Fr.setCell (Fr.setCell (Fr.setCell (Fr.setCell (Fr0.trans HF.out HW.out) (.inr HB2.out) _) (.inr HB2.out) _) (.inr HB2.out) _) (.inr HB2.out) _) (.inr HB2.out) _) (.inr HB2.out) _) (.inr HB2.out) _) (.inr HB2.out) _)⟩
 ·rw [hb] at HCK
  cases hp : isIn piece 0 ((ps.length : Int) - 1)
  ·have HE := Lib.hid (show askE g l ps (okAsk ps piece t gs lost wrong) = 91 by unfold askE okAsk; rw [hb, hp]; rfl)
   clear hb
   go_wp2_with (first
    | (go_at_call 16; refine (HCK.out).mono ?_; rintro e W1 ⟨rfl, hf1⟩; (have HW := Lib.hid hf1); clear hf1; (have x0 := (HX.out.fr0 HW.out).at_ 0 (v := .int .i64 g) rfl); (have x1 := (HX.out.fr0 HW.out).at_ 1 (v := .slice A l.length c) rfl); (have x2 := (HX.out.fr0 HW.out).at_ 2 (v := .slice Ap ps.length cp) rfl); (have y0 := (HY.out.fr0 HW.out).at_ 0 (v := .slice At t.length ct) rfl); (have y1 := (HY.out.fr0 HW.out).at_ 1 (v := .slice Ag gs.length cg) rfl); (have y2 := (HY.out.fr0 HW.out).at_ 2 (v := .int .i64 lost) rfl); (have y3 := (HY.out.fr0 HW.out).at_ 3 (v := .int .i64 wrong) rfl); (have d0 := (HZ.out.fr0 HW.out).at_ 0 (v := .int .i64 0) rfl); (have d1 := (HZ.out.fr0 HW.out).at_ 1 (v := .slice none 0 0) rfl); (have d2 := (HZ.out.fr0 HW.out).at_ 2 (v := .slice none 0 0) rfl); (have d3 := (HZ.out.fr0 HW.out).at_ 3 (v := .int .i64 0) rfl); (have d4 := (HZ.out.fr0 HW.out).at_ 4 (v := .slice none 0 0) rfl); (have d5 := (HZ.out.fr0 HW.out).at_ 5 (v := .slice none 0 0) rfl); (have d6 := (HZ.out.fr0 HW.out).at_ 6 (v := .int .i64 0) rfl); (have d7 := (HZ.out.fr0 HW.out).at_ 7 (v := .int .i64 0) rfl); (have z0 := (HZ.out.fr0 HW.out).frz 0); (have z1 := (HZ.out.fr0 HW.out).frz 1); (have z2 := (HZ.out.fr0 HW.out).frz 2); (have z3 := (HZ.out.fr0 HW.out).frz 3); (have z4 := (HZ.out.fr0 HW.out).frz 4); (have z5 := (HZ.out.fr0 HW.out).frz 5); (have z6 := (HZ.out.fr0 HW.out).frz 6); (have z7 := (HZ.out.fr0 HW.out).frz 7))
    | (go_at_call 59; refine (hlies _ _ _ _).mono ?_; rintro e W2 ⟨rfl, hf2⟩; (have HW := Lib.hid (Fr0.trans HW.out hf2)); clear hf2; (have x0 := (HX.out.fr0 HW.out).at_ 0 (v := .int .i64 g) rfl); (have x1 := (HX.out.fr0 HW.out).at_ 1 (v := .slice A l.length c) rfl); (have x2 := (HX.out.fr0 HW.out).at_ 2 (v := .slice Ap ps.length cp) rfl); (have y0 := (HY.out.fr0 HW.out).at_ 0 (v := .slice At t.length ct) rfl); (have y1 := (HY.out.fr0 HW.out).at_ 1 (v := .slice Ag gs.length cg) rfl); (have y2 := (HY.out.fr0 HW.out).at_ 2 (v := .int .i64 lost) rfl); (have y3 := (HY.out.fr0 HW.out).at_ 3 (v := .int .i64 wrong) rfl); (have d0 := (HZ.out.fr0 HW.out).at_ 0 (v := .int .i64 0) rfl); (have d1 := (HZ.out.fr0 HW.out).at_ 1 (v := .slice none 0 0) rfl); (have d2 := (HZ.out.fr0 HW.out).at_ 2 (v := .slice none 0 0) rfl); (have d3 := (HZ.out.fr0 HW.out).at_ 3 (v := .int .i64 0) rfl); (have d4 := (HZ.out.fr0 HW.out).at_ 4 (v := .slice none 0 0) rfl); (have d5 := (HZ.out.fr0 HW.out).at_ 5 (v := .slice none 0 0) rfl); (have d6 := (HZ.out.fr0 HW.out).at_ 6 (v := .int .i64 0) rfl); (have d7 := (HZ.out.fr0 HW.out).at_ 7 (v := .int .i64 0) rfl); (have z0 := (HZ.out.fr0 HW.out).frz 0); (have z1 := (HZ.out.fr0 HW.out).frz 1); (have z2 := (HZ.out.fr0 HW.out).frz 2); (have z3 := (HZ.out.fr0 HW.out).frz 3); (have z4 := (HZ.out.fr0 HW.out).frz 4); (have z5 := (HZ.out.fr0 HW.out).frz 5); (have z6 := (HZ.out.fr0 HW.out).frz 6); (have z7 := (HZ.out.fr0 HW.out).frz 7))
    | (go_at_call 71; refine (isNote_any At ct t Ag cg gs lost wrong _ (HN.out.fr (Fr0.trans HF.out HW.out)).rt (HN.out.fr (Fr0.trans HF.out HW.out)).ct (HN.out.fr (Fr0.trans HF.out HW.out)).rg (HN.out.fr (Fr0.trans HF.out HW.out)).cg).mono ?_; rintro e W3 ⟨rfl, hf3⟩; (have HW := Lib.hid (Fr0.trans HW.out hf3)); clear hf3; (have x0 := (HX.out.fr0 HW.out).at_ 0 (v := .int .i64 g) rfl); (have x1 := (HX.out.fr0 HW.out).at_ 1 (v := .slice A l.length c) rfl); (have x2 := (HX.out.fr0 HW.out).at_ 2 (v := .slice Ap ps.length cp) rfl); (have y0 := (HY.out.fr0 HW.out).at_ 0 (v := .slice At t.length ct) rfl); (have y1 := (HY.out.fr0 HW.out).at_ 1 (v := .slice Ag gs.length cg) rfl); (have y2 := (HY.out.fr0 HW.out).at_ 2 (v := .int .i64 lost) rfl); (have y3 := (HY.out.fr0 HW.out).at_ 3 (v := .int .i64 wrong) rfl); (have d0 := (HZ.out.fr0 HW.out).at_ 0 (v := .int .i64 0) rfl); (have d1 := (HZ.out.fr0 HW.out).at_ 1 (v := .slice none 0 0) rfl); (have d2 := (HZ.out.fr0 HW.out).at_ 2 (v := .slice none 0 0) rfl); (have d3 := (HZ.out.fr0 HW.out).at_ 3 (v := .int .i64 0) rfl); (have d4 := (HZ.out.fr0 HW.out).at_ 4 (v := .slice none 0 0) rfl); (have d5 := (HZ.out.fr0 HW.out).at_ 5 (v := .slice none 0 0) rfl); (have d6 := (HZ.out.fr0 HW.out).at_ 6 (v := .int .i64 0) rfl); (have d7 := (HZ.out.fr0 HW.out).at_ 7 (v := .int .i64 0) rfl); (have z0 := (HZ.out.fr0 HW.out).frz 0); (have z1 := (HZ.out.fr0 HW.out).frz 1); (have z2 := (HZ.out.fr0 HW.out).frz 2); (have z3 := (HZ.out.fr0 HW.out).frz 3); (have z4 := (HZ.out.fr0 HW.out).frz 4); (have z5 := (HZ.out.fr0 HW.out).frz 5); (have z6 := (HZ.out.fr0 HW.out).frz 6); (have z7 := (HZ.out.fr0 HW.out).frz 7)))
   refine bodyPost_ret (res_ask rfl rfl (eight_set (HZ.out.fr0 HW.out) _ _ _ _ _ _ _ _)) rfl ⟨by rw [HR.out, HEE.out, HE.out]; rfl, (Fr.setCell (Fr.setCell (Fr.setCell (Fr.setCell (Fr.setCell (Fr.setCell (Fr.setCell (Fr.setCell (Fr0.trans HF.out HW.out) (.inr HB2.out) _) (.inr HB2.out) _) (.inr HB2.out) _) (.inr HB2.out) _) (.inr HB2.out) _) (.inr HB2.out) _) (.inr HB2.out) _) (.inr HB2.out) _)⟩
  ·cases hn : noteB t gs lost wrong
   ·have HE := Lib.hid (show askE g l ps (okAsk ps piece t gs lost wrong) = 91 by unfold askE okAsk; rw [hb, hp, hn]; rfl)
    clear hb
    go_wp2_with (first
     | (go_at_call 16; refine (HCK.out).mono ?_; rintro e W1 ⟨rfl, hf1⟩; (have HW := Lib.hid hf1); clear hf1; (have x0 := (HX.out.fr0 HW.out).at_ 0 (v := .int .i64 g) rfl); (have x1 := (HX.out.fr0 HW.out).at_ 1 (v := .slice A l.length c) rfl); (have x2 := (HX.out.fr0 HW.out).at_ 2 (v := .slice Ap ps.length cp) rfl); (have y0 := (HY.out.fr0 HW.out).at_ 0 (v := .slice At t.length ct) rfl); (have y1 := (HY.out.fr0 HW.out).at_ 1 (v := .slice Ag gs.length cg) rfl); (have y2 := (HY.out.fr0 HW.out).at_ 2 (v := .int .i64 lost) rfl); (have y3 := (HY.out.fr0 HW.out).at_ 3 (v := .int .i64 wrong) rfl); (have d0 := (HZ.out.fr0 HW.out).at_ 0 (v := .int .i64 0) rfl); (have d1 := (HZ.out.fr0 HW.out).at_ 1 (v := .slice none 0 0) rfl); (have d2 := (HZ.out.fr0 HW.out).at_ 2 (v := .slice none 0 0) rfl); (have d3 := (HZ.out.fr0 HW.out).at_ 3 (v := .int .i64 0) rfl); (have d4 := (HZ.out.fr0 HW.out).at_ 4 (v := .slice none 0 0) rfl); (have d5 := (HZ.out.fr0 HW.out).at_ 5 (v := .slice none 0 0) rfl); (have d6 := (HZ.out.fr0 HW.out).at_ 6 (v := .int .i64 0) rfl); (have d7 := (HZ.out.fr0 HW.out).at_ 7 (v := .int .i64 0) rfl); (have z0 := (HZ.out.fr0 HW.out).frz 0); (have z1 := (HZ.out.fr0 HW.out).frz 1); (have z2 := (HZ.out.fr0 HW.out).frz 2); (have z3 := (HZ.out.fr0 HW.out).frz 3); (have z4 := (HZ.out.fr0 HW.out).frz 4); (have z5 := (HZ.out.fr0 HW.out).frz 5); (have z6 := (HZ.out.fr0 HW.out).frz 6); (have z7 := (HZ.out.fr0 HW.out).frz 7))
     | (go_at_call 59; refine (hlies _ _ _ _).mono ?_; rintro e W2 ⟨rfl, hf2⟩; (have HW := Lib.hid (Fr0.trans HW.out hf2)); clear hf2; (have x0 := (HX.out.fr0 HW.out).at_ 0 (v := .int .i64 g) rfl); (have x1 := (HX.out.fr0 HW.out).at_ 1 (v := .slice A l.length c) rfl); (have x2 := (HX.out.fr0 HW.out).at_ 2 (v := .slice Ap ps.length cp) rfl); (have y0 := (HY.out.fr0 HW.out).at_ 0 (v := .slice At t.length ct) rfl); (have y1 := (HY.out.fr0 HW.out).at_ 1 (v := .slice Ag gs.length cg) rfl); (have y2 := (HY.out.fr0 HW.out).at_ 2 (v := .int .i64 lost) rfl); (have y3 := (HY.out.fr0 HW.out).at_ 3 (v := .int .i64 wrong) rfl); (have d0 := (HZ.out.fr0 HW.out).at_ 0 (v := .int .i64 0) rfl); (have d1 := (HZ.out.fr0 HW.out).at_ 1 (v := .slice none 0 0) rfl); (have d2 := (HZ.out.fr0 HW.out).at_ 2 (v := .slice none 0 0) rfl); (have d3 := (HZ.out.fr0 HW.out).at_ 3 (v := .int .i64 0) rfl); (have d4 := (HZ.out.fr0 HW.out).at_ 4 (v := .slice none 0 0) rfl); (have d5 := (HZ.out.fr0 HW.out).at_ 5 (v := .slice none 0 0) rfl); (have d6 := (HZ.out.fr0 HW.out).at_ 6 (v := .int .i64 0) rfl); (have d7 := (HZ.out.fr0 HW.out).at_ 7 (v := .int .i64 0) rfl); (have z0 := (HZ.out.fr0 HW.out).frz 0); (have z1 := (HZ.out.fr0 HW.out).frz 1); (have z2 := (HZ.out.fr0 HW.out).frz 2); (have z3 := (HZ.out.fr0 HW.out).frz 3); (have z4 := (HZ.out.fr0 HW.out).frz 4); (have z5 := (HZ.out.fr0 HW.out).frz 5); (have z6 := (HZ.out.fr0 HW.out).frz 6); (have z7 := (HZ.out.fr0 HW.out).frz 7))
     | (go_at_call 71; refine (isNote_any At ct t Ag cg gs lost wrong _ (HN.out.fr (Fr0.trans HF.out HW.out)).rt (HN.out.fr (Fr0.trans HF.out HW.out)).ct (HN.out.fr (Fr0.trans HF.out HW.out)).rg (HN.out.fr (Fr0.trans HF.out HW.out)).cg).mono ?_; rintro e W3 ⟨rfl, hf3⟩; (have HW := Lib.hid (Fr0.trans HW.out hf3)); clear hf3; (have x0 := (HX.out.fr0 HW.out).at_ 0 (v := .int .i64 g) rfl); (have x1 := (HX.out.fr0 HW.out).at_ 1 (v := .slice A l.length c) rfl); (have x2 := (HX.out.fr0 HW.out).at_ 2 (v := .slice Ap ps.length cp) rfl); (have y0 := (HY.out.fr0 HW.out).at_ 0 (v := .slice At t.length ct) rfl); (have y1 := (HY.out.fr0 HW.out).at_ 1 (v := .slice Ag gs.length cg) rfl); (have y2 := (HY.out.fr0 HW.out).at_ 2 (v := .int .i64 lost) rfl); (have y3 := (HY.out.fr0 HW.out).at_ 3 (v := .int .i64 wrong) rfl); (have d0 := (HZ.out.fr0 HW.out).at_ 0 (v := .int .i64 0) rfl); (have d1 := (HZ.out.fr0 HW.out).at_ 1 (v := .slice none 0 0) rfl); (have d2 := (HZ.out.fr0 HW.out).at_ 2 (v := .slice none 0 0) rfl); (have d3 := (HZ.out.fr0 HW.out).at_ 3 (v := .int .i64 0) rfl); (have d4 := (HZ.out.fr0 HW.out).at_ 4 (v := .slice none 0 0) rfl); (have d5 := (HZ.out.fr0 HW.out).at_ 5 (v := .slice none 0 0) rfl); (have d6 := (HZ.out.fr0 HW.out).at_ 6 (v := .int .i64 0) rfl); (have d7 := (HZ.out.fr0 HW.out).at_ 7 (v := .int .i64 0) rfl); (have z0 := (HZ.out.fr0 HW.out).frz 0); (have z1 := (HZ.out.fr0 HW.out).frz 1); (have z2 := (HZ.out.fr0 HW.out).frz 2); (have z3 := (HZ.out.fr0 HW.out).frz 3); (have z4 := (HZ.out.fr0 HW.out).frz 4); (have z5 := (HZ.out.fr0 HW.out).frz 5); (have z6 := (HZ.out.fr0 HW.out).frz 6); (have z7 := (HZ.out.fr0 HW.out).frz 7)))
    refine bodyPost_ret (res_ask rfl rfl (eight_set (HZ.out.fr0 HW.out) _ _ _ _ _ _ _ _)) rfl ⟨by rw [HR.out, HEE.out, HE.out]; rfl, (Fr.setCell (Fr.setCell (Fr.setCell (Fr.setCell (Fr.setCell (Fr.setCell (Fr.setCell (Fr.setCell (Fr0.trans HF.out HW.out) (.inr HB2.out) _) (.inr HB2.out) _) (.inr HB2.out) _) (.inr HB2.out) _) (.inr HB2.out) _) (.inr HB2.out) _) (.inr HB2.out) _) (.inr HB2.out) _)⟩
   ·have HE := Lib.hid (show askE g l ps (okAsk ps piece t gs lost wrong) = 0 by unfold askE okAsk; rw [hb, hp, hn]; rfl)
    clear hb
    go_wp2_with (first
     | (go_at_call 16; refine (HCK.out).mono ?_; rintro e W1 ⟨rfl, hf1⟩; (have HW := Lib.hid hf1); clear hf1; (have x0 := (HX.out.fr0 HW.out).at_ 0 (v := .int .i64 g) rfl); (have x1 := (HX.out.fr0 HW.out).at_ 1 (v := .slice A l.length c) rfl); (have x2 := (HX.out.fr0 HW.out).at_ 2 (v := .slice Ap ps.length cp) rfl); (have y0 := (HY.out.fr0 HW.out).at_ 0 (v := .slice At t.length ct) rfl); (have y1 := (HY.out.fr0 HW.out).at_ 1 (v := .slice Ag gs.length cg) rfl); (have y2 := (HY.out.fr0 HW.out).at_ 2 (v := .int .i64 lost) rfl); (have y3 := (HY.out.fr0 HW.out).at_ 3 (v := .int .i64 wrong) rfl); (have d0 := (HZ.out.fr0 HW.out).at_ 0 (v := .int .i64 0) rfl); (have d1 := (HZ.out.fr0 HW.out).at_ 1 (v := .slice none 0 0) rfl); (have d2 := (HZ.out.fr0 HW.out).at_ 2 (v := .slice none 0 0) rfl); (have d3 := (HZ.out.fr0 HW.out).at_ 3 (v := .int .i64 0) rfl); (have d4 := (HZ.out.fr0 HW.out).at_ 4 (v := .slice none 0 0) rfl); (have d5 := (HZ.out.fr0 HW.out).at_ 5 (v := .slice none 0 0) rfl); (have d6 := (HZ.out.fr0 HW.out).at_ 6 (v := .int .i64 0) rfl); (have d7 := (HZ.out.fr0 HW.out).at_ 7 (v := .int .i64 0) rfl); (have z0 := (HZ.out.fr0 HW.out).frz 0); (have z1 := (HZ.out.fr0 HW.out).frz 1); (have z2 := (HZ.out.fr0 HW.out).frz 2); (have z3 := (HZ.out.fr0 HW.out).frz 3); (have z4 := (HZ.out.fr0 HW.out).frz 4); (have z5 := (HZ.out.fr0 HW.out).frz 5); (have z6 := (HZ.out.fr0 HW.out).frz 6); (have z7 := (HZ.out.fr0 HW.out).frz 7))
     | (go_at_call 59; refine (hlies _ _ _ _).mono ?_; rintro e W2 ⟨rfl, hf2⟩; (have HW := Lib.hid (Fr0.trans HW.out hf2)); clear hf2; (have x0 := (HX.out.fr0 HW.out).at_ 0 (v := .int .i64 g) rfl); (have x1 := (HX.out.fr0 HW.out).at_ 1 (v := .slice A l.length c) rfl); (have x2 := (HX.out.fr0 HW.out).at_ 2 (v := .slice Ap ps.length cp) rfl); (have y0 := (HY.out.fr0 HW.out).at_ 0 (v := .slice At t.length ct) rfl); (have y1 := (HY.out.fr0 HW.out).at_ 1 (v := .slice Ag gs.length cg) rfl); (have y2 := (HY.out.fr0 HW.out).at_ 2 (v := .int .i64 lost) rfl); (have y3 := (HY.out.fr0 HW.out).at_ 3 (v := .int .i64 wrong) rfl); (have d0 := (HZ.out.fr0 HW.out).at_ 0 (v := .int .i64 0) rfl); (have d1 := (HZ.out.fr0 HW.out).at_ 1 (v := .slice none 0 0) rfl); (have d2 := (HZ.out.fr0 HW.out).at_ 2 (v := .slice none 0 0) rfl); (have d3 := (HZ.out.fr0 HW.out).at_ 3 (v := .int .i64 0) rfl); (have d4 := (HZ.out.fr0 HW.out).at_ 4 (v := .slice none 0 0) rfl); (have d5 := (HZ.out.fr0 HW.out).at_ 5 (v := .slice none 0 0) rfl); (have d6 := (HZ.out.fr0 HW.out).at_ 6 (v := .int .i64 0) rfl); (have d7 := (HZ.out.fr0 HW.out).at_ 7 (v := .int .i64 0) rfl); (have z0 := (HZ.out.fr0 HW.out).frz 0); (have z1 := (HZ.out.fr0 HW.out).frz 1); (have z2 := (HZ.out.fr0 HW.out).frz 2); (have z3 := (HZ.out.fr0 HW.out).frz 3); (have z4 := (HZ.out.fr0 HW.out).frz 4); (have z5 := (HZ.out.fr0 HW.out).frz 5); (have z6 := (HZ.out.fr0 HW.out).frz 6); (have z7 := (HZ.out.fr0 HW.out).frz 7))
     | (go_at_call 71; refine (isNote_any At ct t Ag cg gs lost wrong _ (HN.out.fr (Fr0.trans HF.out HW.out)).rt (HN.out.fr (Fr0.trans HF.out HW.out)).ct (HN.out.fr (Fr0.trans HF.out HW.out)).rg (HN.out.fr (Fr0.trans HF.out HW.out)).cg).mono ?_; rintro e W3 ⟨rfl, hf3⟩; (have HW := Lib.hid (Fr0.trans HW.out hf3)); clear hf3; (have x0 := (HX.out.fr0 HW.out).at_ 0 (v := .int .i64 g) rfl); (have x1 := (HX.out.fr0 HW.out).at_ 1 (v := .slice A l.length c) rfl); (have x2 := (HX.out.fr0 HW.out).at_ 2 (v := .slice Ap ps.length cp) rfl); (have y0 := (HY.out.fr0 HW.out).at_ 0 (v := .slice At t.length ct) rfl); (have y1 := (HY.out.fr0 HW.out).at_ 1 (v := .slice Ag gs.length cg) rfl); (have y2 := (HY.out.fr0 HW.out).at_ 2 (v := .int .i64 lost) rfl); (have y3 := (HY.out.fr0 HW.out).at_ 3 (v := .int .i64 wrong) rfl); (have d0 := (HZ.out.fr0 HW.out).at_ 0 (v := .int .i64 0) rfl); (have d1 := (HZ.out.fr0 HW.out).at_ 1 (v := .slice none 0 0) rfl); (have d2 := (HZ.out.fr0 HW.out).at_ 2 (v := .slice none 0 0) rfl); (have d3 := (HZ.out.fr0 HW.out).at_ 3 (v := .int .i64 0) rfl); (have d4 := (HZ.out.fr0 HW.out).at_ 4 (v := .slice none 0 0) rfl); (have d5 := (HZ.out.fr0 HW.out).at_ 5 (v := .slice none 0 0) rfl); (have d6 := (HZ.out.fr0 HW.out).at_ 6 (v := .int .i64 0) rfl); (have d7 := (HZ.out.fr0 HW.out).at_ 7 (v := .int .i64 0) rfl); (have z0 := (HZ.out.fr0 HW.out).frz 0); (have z1 := (HZ.out.fr0 HW.out).frz 1); (have z2 := (HZ.out.fr0 HW.out).frz 2); (have z3 := (HZ.out.fr0 HW.out).frz 3); (have z4 := (HZ.out.fr0 HW.out).frz 4); (have z5 := (HZ.out.fr0 HW.out).frz 5); (have z6 := (HZ.out.fr0 HW.out).frz 6); (have z7 := (HZ.out.fr0 HW.out).frz 7)))
    refine bodyPost_ret (res_ask rfl rfl (eight_set (HZ.out.fr0 HW.out) _ _ _ _ _ _ _ _)) rfl ⟨by rw [HR.out, HEE.out, HE.out]; rfl, (Fr.setCell (Fr.setCell (Fr.setCell (Fr.setCell (Fr.setCell (Fr.setCell (Fr.setCell (Fr.setCell (Fr0.trans HF.out HW.out) (.inr HB2.out) _) (.inr HB2.out) _) (.inr HB2.out) _) (.inr HB2.out) _) (.inr HB2.out) _) (.inr HB2.out) _) (.inr HB2.out) _) (.inr HB2.out) _)⟩
end Go.Proofs.YtfdenclnneigfaaDoor.R
namespace Go.Proofs.YtfdenclnneigfaaDoor.R
open Go.RowKit Go.Shelf Go.Proofs.YtfdenclnneigfaaDoorW.PrintWords Go.Proofs.YtfdenclnneigfaaDoorW.PrintLast Go.Proofs.YtfdenclnneigfaaDoor.PRaspKeys Go.Proofs.YtfdenclnneigfaaDoor.X Go.Proofs.YtfdenclnneigfaaDoor.M
attribute [local go_sem] Oper.semAt_some
/-! ### A book, a piece of it and a note -/
structure HC where
 g : Int
 A : Option Addr
 c : Nat
 l : List S114
 Ap : Option Addr
 cp : Nat
 ps : List S62
 piece : Int
 At : Option Addr
 ct : Nat
 t : List Int
 Ag : Option Addr
 cg : Nat
 gs : List Int
 lost : Int
 wrong : Int
def HC.val (x : HC) : Value := .agg #[.int .i64 x.g, .slice x.A x.l.length x.c, .slice x.Ap x.ps.length x.cp, .int .i64 x.piece, .slice x.At x.t.length x.ct, .slice x.Ag x.gs.length x.cg, .int .i64 x.lost, .int .i64 x.wrong]
def HC.cells (x : HC) : Array Value := #[.int .i64 x.g, .slice x.A x.l.length x.c, .slice x.Ap x.ps.length x.cp, .int .i64 x.piece, .slice x.At x.t.length x.ct, .slice x.Ag x.gs.length x.cg, .int .i64 x.lost, .int .i64 x.wrong]
theorem hbV_val (x : HC) : hbV x.g x.A x.l.length x.c x.Ap x.ps.length x.cp x.piece x.At x.t.length x.ct x.Ag x.gs.length x.cg x.lost x.wrong = x.val := rfl
/-- The tones of its piece, and the form. -/
def HC.p (x : HC) : List Int := (rd_T62 x.ps x.piece).f1
def HC.form (x : HC) : Int := (rd_T62 x.ps x.piece).f0
structure HC.Ok (x : HC) (w : World) : Prop where
 hb : HBook w x.A x.c x.l x.Ap x.cp x.ps
 n : Note w x.At x.ct x.t x.Ag x.cg x.gs
 ok : hbookOk x.g x.l x.ps = true
 ask : okAsk x.ps x.piece x.t x.gs x.lost x.wrong = true
theorem HC.Ok.fr {x : HC} {w w' : World} (h : x.Ok w) (hf : Fr0 w w') : x.Ok w' := ⟨h.hb.fr hf, h.n.fr hf, h.ok, h.ask⟩
structure HC.Facts (x : HC) : Prop where
 bk : bookOk x.g x.l = true
 p0 : 0 ≤ x.piece
 p1 : x.piece < x.ps.length
 f0 : 0 ≤ x.form
 f1 : x.form < x.l.length
 q1 : 1 ≤ x.p.length
 q2 : x.p.length ≤ 24
 q3 : ∀ y ∈ x.p, 0 ≤ y ∧ y ≤ 6
 t1 : 1 ≤ x.t.length
 t2 : x.t.length ≤ 24
 t3 : ∀ y ∈ x.t, 0 ≤ y ∧ y ≤ 6
 gs : gr (x.t.length : Int) (-1) x.gs = true
 l0 : 0 ≤ x.lost
 l1 : x.lost ≤ 6
 w0 : 0 ≤ x.wrong
 w1 : x.wrong ≤ 6
theorem tonesB_iff {l : List Int} {n : Int} : tonesB l n = true ↔ (n ≤ l.length ∧ (l.length : Int) ≤ 24) ∧ ∀ y ∈ l, 0 ≤ y ∧ y ≤ 6 := by
 unfold tonesB
 rw [Bool.and_eq_true, isIn_iff, List.all_eq_true]
 constructor
 ·rintro ⟨a, b⟩
  exact ⟨a, fun y hy => isIn_iff.1 (b y hy)⟩
 ·rintro ⟨a, b⟩
  exact ⟨a, fun y hy => isIn_iff.2 (b y hy)⟩
theorem HC.facts {x : HC} (hk : hbookOk x.g x.l x.ps = true) (ha : okAsk x.ps x.piece x.t x.gs x.lost x.wrong = true) : x.Facts := by
 unfold hbookOk at hk
 unfold okAsk noteB at ha
 simp only [Bool.and_eq_true, List.all_eq_true] at hk ha
 obtain ⟨⟨k1, k2⟩, k3⟩ := hk
 obtain ⟨a1, a2, ⟨a3, a4⟩, a5⟩ := ha
 rw [isIn_iff] at k2 a1 a4 a5
 rw [tonesB_iff] at a3
 have hp0 := a1.1
 have hp1 : x.piece < x.ps.length := by omega
 have hm : rd_T62 x.ps x.piece ∈ x.ps := by
  obtain ⟨n, hn⟩ := Int.eq_ofNat_of_zero_le hp0
  rw [hn, rdT62 x.ps n (by omega)]
  exact List.getElem_mem _
 have k4 := k3 _ hm
 unfold pieceOk at k4
 rw [Bool.and_eq_true, isIn_iff, tonesB_iff] at k4
 obtain ⟨⟨b1, b2⟩, ⟨b3, b4⟩, b5⟩ := k4
 exact ⟨k1, hp0, hp1, b1, by show (rd_T62 x.ps x.piece).f0 < _; omega, by show 1 ≤ (rd_T62 x.ps x.piece).f1.length; omega, by show (rd_T62 x.ps x.piece).f1.length ≤ 24; omega, b5, by omega, by omega, a3.2, a2, a4.1, a4.2, a5.1, a5.2⟩
theorem HC.Ok.facts {x : HC} {w : World} (h : x.Ok w) : x.Facts := HC.facts h.ok h.ask
set_option maxHeartbeats 2000000 in
set_option maxRecDepth 100000 in
theorem tones63 (x : HC) (w : World) (h : x.Ok w) :
  Calls Tryd.prog 63 #[x.val] w fun e w' => ∃ A1 c1, e = .returned (.slice A1 x.p.length c1) ∧ x.p.length ≤ c1 ∧ Kd.C (Kd.int .i64) w' A1 x.p.length x.p ∧ Fr0 w w' := by
 have hx := h.facts
 have h0 := hx.p0
 have h1 := hx.p1
 have hf0 : Fr0 w (w.alloc (.cells x.cells 79)) := (Fr.refl _ _).alloc _
 obtain ⟨ad, A1, c1, ead, x0, x1, hl1, hC1⟩ := at_T62 (h.hb.fr hf0).r x.piece hx.p0 hx.p1
 have c0 : Bx (w.alloc (.cells x.cells 79)) w.heap.size 79 x.cells := Bx.of_new rfl
 have HC1 := Lib.hid (show x.p.length ≤ c1 ∧ Kd.C (Kd.int .i64) (w.alloc (.cells x.cells 79)) A1 x.p.length x.p from ⟨hl1, hC1⟩)
 change _ = some (Value.slice A1 x.p.length c1) at x1
 have HEA := Lib.hid ead
 clear hx h hl1 hC1 x0 ead
 unfold HC.val
 go_enter Tryd.func63, Tryd.ntmps63
 go_upto_region 1 with fail
 unfold HC.cells at hf0 x1 c0 HC1
 generalize hW : w.alloc (.cells #[.int .i64 x.g, .slice x.A x.l.length x.c, .slice x.Ap x.ps.length x.cp, .int .i64 x.piece, .slice x.At x.t.length x.ct, .slice x.Ag x.gs.length x.cg, .int .i64 x.lost, .int .i64 x.wrong] 79) = W at hf0 x1 c0 HC1 ⊢
 clear hW
 have v2 := c0.at_ 2 (v := .slice x.Ap x.ps.length x.cp) rfl
 have v3 := c0.at_ 3 (v := .int .i64 x.piece) rfl
 have HF := Lib.hid hf0
 clear c0 hf0
 rw [HEA.out] at v2
 go_wp2
 refine bodyPost_ret (v := .slice A1 x.p.length c1) (by simp [results, Tryd.results63, go_sem]) rfl ⟨A1, c1, rfl, HC1.out.1, HC1.out.2, HF.out⟩
end Go.Proofs.YtfdenclnneigfaaDoor.R
namespace Go.Proofs.YtfdenclnneigfaaDoor.R
open Go.RowKit Go.Shelf Go.Proofs.YtfdenclnneigfaaDoorW.PrintWords Go.Proofs.YtfdenclnneigfaaDoorW.PrintLast Go.Proofs.YtfdenclnneigfaaDoor.PRaspKeys Go.Proofs.YtfdenclnneigfaaDoor.X Go.Proofs.YtfdenclnneigfaaDoor.M
attribute [local go_sem] Oper.semAt_some
/-! ### Where a number is first -/
def idxFrom (v : Int) (l : List Int) : Nat → Nat → Int
 | 0, _ => -1
 | d + 1, n => if v = l.getD n 0 then n else idxFrom v l d (n + 1)
theorem idxFrom_iff (v : Int) (l : List Int) : ∀ (d n : Nat), n + d = l.length → (0 ≤ idxFrom v l d n ↔ (l.drop n).contains v = true)
 | 0, n, h => by
  rw [List.drop_of_length_le (by omega)]
  simp [idxFrom]
 | d + 1, n, h => by
  have hn : n < l.length := by omega
  have ih := idxFrom_iff v l d (n + 1) (by omega)
  rw [List.drop_eq_getElem_cons hn, List.contains_cons]
  unfold idxFrom
  rw [show l.getD n 0 = l[n] by simp [hn]]
  by_cases e : v = l[n]
  ·rw [if_pos e]; simp [e]
  ·rw [if_neg e, ih, show (v == l[n]) = false by simpa using e, Bool.false_or]
set_option maxHeartbeats 2000000 in
set_option maxRecDepth 100000 in
theorem index106 (A : Option Addr) (c : Nat) (l : List Int) (v : Int) (w : World) (hr : Kd.C (Kd.int .i64) w A l.length l) (hc : l.length ≤ c) :
  Calls Tryd.prog 106 #[.slice A l.length c, .int .i64 v] w fun e w' => e = .returned (.int .i64 (idxFrom v l l.length 0)) ∧ Fr0 w w' := by
 have HR := Lib.hid hr
 have hlen := C_len hr
 clear hr
 go_enter Tryd.func106, Tryd.ntmps106
 go_wp2
 go_loopw [8] (fun v8 wr => ∃ n : Nat, n ≤ l.length ∧ v8 = .int .i64 n ∧ Hop (idxFrom v l l.length 0 = idxFrom v l (l.length - n) n) ∧ Fr0 w wr) (fun v8 _ => (l.length - intOf v8).toNat)
 case atStart => exact ⟨0, by omega, by rfl, ⟨rfl⟩, Fr.refl _ _⟩
 case round =>
  obtain ⟨n, hn, rfl, HBF, hf⟩ := hrel
  have HF := Lib.hid hf
  by_cases hlt : n < l.length
  ·have hle : (n : Int) < l.length := by omega
   obtain ⟨ad, ead, hx⟩ := Kd.at_int (C_fr HR.out hf) (n : Int) (by omega) hle
   cases ead
   obtain ⟨d, hd⟩ : ∃ d, l.length - n = d + 1 := ⟨l.length - n - 1, by omega⟩
   have hx' : wr.cell? (ad.add n) = some (.int .i64 (l.getD n 0)) := hx
   have HST := Lib.hid (show idxFrom v l (l.length - n) n = if v = l.getD n 0 then (n : Int) else idxFrom v l d (n + 1) from by rw [hd]; rfl)
   have HD := Lib.hid hd
   clear hx hf hd
   generalize l.getD n 0 = y at *
   by_cases hv : v = y
   ·subst hv
    go_wp2
    refine bodyPost_ret (v := .int .i64 n) (by simp [results, Tryd.results106, go_sem]) rfl ⟨by rw [HBF.out, HST.out]; simp, HF.out⟩
   ·have hv' : (v == y) = false := by simpa using hv
    go_wp2
    go_roundw
    case rel => exact ⟨n + 1, by omega, by go_num, ⟨by rw [HBF.out, HST.out, if_neg hv]; congr 1; have := HD.out; omega⟩, HF.out⟩
    case measure => simp [intOf]; omega
  ·obtain rfl : n = l.length := by omega
   have hle : ¬ ((l.length : Int) < l.length) := by omega
   clear hf
   go_wp2
   refine bodyPost_ret (v := .int .i64 (-1)) (by simp [results, Tryd.results106, go_sem]) rfl ⟨by rw [HBF.out, Nat.sub_self]; rfl, HF.out⟩
set_option maxHeartbeats 1000000 in
theorem contains102 (A : Option Addr) (c : Nat) (l : List Int) (v : Int) (w : World) (hr : Kd.C (Kd.int .i64) w A l.length l) (hc : l.length ≤ c) :
  Calls Tryd.prog 102 #[.slice A l.length c, .int .i64 v] w fun e w' => e = .returned (.bool (l.contains v)) ∧ Fr0 w w' := by
 have hb := idxFrom_iff v l l.length 0 (by omega)
 rw [List.drop_zero] at hb
 have HC := Lib.hid (index106 A c l v w hr hc)
 have HB := Lib.hid hb
 clear hb hr
 generalize idxFrom v l l.length 0 = B at *
 generalize hq : l.contains v = q at *
 have HQ := Lib.hid hq
 clear hq
 go_enter Tryd.func102, Tryd.ntmps102
 go_wp2_with (go_at_call 106; refine HC.out.mono ?_; rintro e W1 ⟨rfl, hf⟩)
 refine bodyPost_ret (v := .bool (decide (0 ≤ B))) (by simp [results, Tryd.results102, go_sem]) rfl ⟨?_, hf⟩
 congr 2
 have h := HB.out
 cases q
 ·simp at h; simpa using h
 ·simpa using h
/-! ### The great gong, and the last stroke -/
set_option maxHeartbeats 1000000 in
set_option maxRecDepth 100000 in
theorem last90 (x : HC) (first lost : Int) (w : World) (ht : x.t.length ≤ 24) (h0 : 0 ≤ first) (h1 : first ≤ 100) (h2 : 0 ≤ lost) (h3 : lost ≤ 100) :
  Calls Tryd.prog 90 #[x.val, .int .i64 first, .int .i64 lost] w fun e w' => e = .returned (.int .i64 (first + x.t.length - 1 + lost)) ∧ Fr0 w w' := by
 have hf0 : Fr0 w (w.alloc (.cells #[.int .i64 x.g, .slice x.A x.l.length x.c, .slice x.Ap x.ps.length x.cp, .int .i64 x.piece, .slice x.At x.t.length x.ct, .slice x.Ag x.gs.length x.cg, .int .i64 x.lost, .int .i64 x.wrong] 79)) := (Fr.refl _ _).alloc _
 have c0 : Bx (w.alloc (.cells #[.int .i64 x.g, .slice x.A x.l.length x.c, .slice x.Ap x.ps.length x.cp, .int .i64 x.piece, .slice x.At x.t.length x.ct, .slice x.Ag x.gs.length x.cg, .int .i64 x.lost, .int .i64 x.wrong] 79)) w.heap.size 79 #[.int .i64 x.g, .slice x.A x.l.length x.c, .slice x.Ap x.ps.length x.cp, .int .i64 x.piece, .slice x.At x.t.length x.ct, .slice x.Ag x.gs.length x.cg, .int .i64 x.lost, .int .i64 x.wrong] := Bx.of_new rfl
 unfold HC.val
 go_enter Tryd.func90, Tryd.ntmps90
 go_upto_region 1 with fail
 generalize hW : (w.alloc (.cells #[.int .i64 x.g, .slice x.A x.l.length x.c, .slice x.Ap x.ps.length x.cp, .int .i64 x.piece, .slice x.At x.t.length x.ct, .slice x.Ag x.gs.length x.cg, .int .i64 x.lost, .int .i64 x.wrong] 79)) = W at hf0 c0 ⊢
 clear hW
 have v4 := c0.at_ 4 (v := .slice x.At x.t.length x.ct) rfl
 have HF := Lib.hid hf0
 clear c0 hf0
 go_wp2
 refine bodyPost_ret (v := .int .i64 (first + x.t.length - 1 + lost)) (by simp [results, Tryd.results90, go_sem]) rfl ⟨rfl, HF.out⟩
def HC.gong (x : HC) (s : Int) : Bool := (lst (hits x.l x.form (s % (rd_T114 x.l x.form).f0)) 5).contains 0
theorem struck43 {w : World} {g : Int} {A : Option Addr} {c : Nat} {l : List S114} (hB : Book w A c l) (form beat : Int) (L : List Int) (h : struckF g l form beat = (L, 0)) : Calls Tryd.prog 43 #[.agg #[.int .i64 g, .slice A l.length c], .int .i64 form, .int .i64 beat] w fun e w' => ∃ A2 c2, e = .returned (.tuple #[.slice A2 L.length c2, .int .i64 0]) ∧ Kd.C (Kd.int .i64) w' A2 L.length L ∧ L.length ≤ c2 ∧ Fr0 w w' := by
 have k := struck_any g A c l form beat w hB
 rw [h] at k
 refine k.mono ?_
 rintro e w' ⟨v, rfl, ⟨A2, c2, rfl, hc, hF⟩, hb⟩
 exact ⟨A2, c2, rfl, Kd.F_now hF, hc, Go.Proofs.YtfdenclnneigfaaDoor.X.Fr.of_below hb⟩
set_option maxHeartbeats 4000000 in
set_option maxRecDepth 100000 in
theorem gong103 (x : HC) (s : Int) (w : World) (h : x.Ok w) (h0 : 0 ≤ s) (h1 : s ≤ 1000) :
  Calls Tryd.prog 103 #[x.val, .int .i64 s] w fun e w' => e = .returned (.bool (x.gong s)) ∧ Fr0 w w' := by
 have hx := h.facts
 have p0 := hx.p0
 have p1 := hx.p1
 have hf0 : Fr0 w (w.alloc (.cells #[.int .i64 x.g, .slice x.A x.l.length x.c, .slice x.Ap x.ps.length x.cp, .int .i64 x.piece, .slice x.At x.t.length x.ct, .slice x.Ag x.gs.length x.cg, .int .i64 x.lost, .int .i64 x.wrong] 79)) := (Fr.refl _ _).alloc _
 obtain ⟨ad, A1, c1, ead, x0, x1, hl1, hC1⟩ := at_T62 (h.hb.fr hf0).r x.piece hx.p0 hx.p1
 have c0 : Bx (w.alloc (.cells #[.int .i64 x.g, .slice x.A x.l.length x.c, .slice x.Ap x.ps.length x.cp, .int .i64 x.piece, .slice x.At x.t.length x.ct, .slice x.Ag x.gs.length x.cg, .int .i64 x.lost, .int .i64 x.wrong] 79)) w.heap.size 79 #[.int .i64 x.g, .slice x.A x.l.length x.c, .slice x.Ap x.ps.length x.cp, .int .i64 x.piece, .slice x.At x.t.length x.ct, .slice x.Ag x.gs.length x.cg, .int .i64 x.lost, .int .i64 x.wrong] := Bx.of_new rfl
 have HBK := Lib.hid (h.hb.fr hf0).bk
 have HSF := Lib.hid (show struckF x.g x.l x.form s = (lst (hits x.l x.form (s % (rd_T114 x.l x.form).f0)) 5, 0) by
  unfold struckF openE okStruck
  rw [if_pos hx.bk, isIn_iff.2 ⟨hx.f0, by have := hx.f1; omega⟩, isIn_iff.2 ⟨h0, by omega⟩]
  rfl)
 change _ = some (Value.int .i64 x.form) at x0
 have HEA := Lib.hid ead
 clear hx h hl1 hC1 x1 ead
 unfold HC.val HC.gong
 generalize lst (hits x.l x.form (s % (rd_T114 x.l x.form).f0)) 5 = L at *
 go_enter Tryd.func103, Tryd.ntmps103
 go_upto_region 1 with fail
 generalize hW : (w.alloc (.cells #[.int .i64 x.g, .slice x.A x.l.length x.c, .slice x.Ap x.ps.length x.cp, .int .i64 x.piece, .slice x.At x.t.length x.ct, .slice x.Ag x.gs.length x.cg, .int .i64 x.lost, .int .i64 x.wrong] 79)) = W at hf0 x0 c0 HBK ⊢
 clear hW
 generalize w.heap.size = b at c0 ⊢
 have v0 := c0.at_ 0 (v := .int .i64 x.g) rfl
 have v1 := c0.at_ 1 (v := .slice x.A x.l.length x.c) rfl
 have v2 := c0.at_ 2 (v := .slice x.Ap x.ps.length x.cp) rfl
 have v3 := c0.at_ 3 (v := .int .i64 x.piece) rfl
 rw [HEA.out] at v2
 have HF := Lib.hid hf0
 clear c0 hf0
 refine start_ (n := 18) (S := fun w' => w'.cell? ⟨b, 0, none⟩ = some (.int .i64 x.g) ∧ w'.cell? ⟨b, 1, none⟩ = some (.slice x.A x.l.length x.c) ∧ w'.cell? ⟨b, 2, none⟩ = some (.slice (some ad) x.ps.length x.cp) ∧ w'.cell? ⟨b, 3, none⟩ = some (.int .i64 x.piece) ∧ w'.cell? (ad.add (x.piece.toNat * 2)) = some (.int .i64 x.form)) (ds := []) (.replicate 18 false) (by kernel_rfl) rfl rfl ⟨v0, v1, v2, v3, x0⟩ (fun hHeld => ?_)
 refine pu 0 8 (bt 18 1) (k := ?_)
 refine pu 1 9 (bt 18 3) (k := ?_)
 refine pu 3 11 (bt 18 11) (k := ?_)
 refine pu 4 12 (bt 18 27) (k := ?_)
 refine pu 6 14 (bt 18 91) (k := ?_)
 refine pu 11 19 (bt 18 2139) (k := ?_)
 refine tk5 2 10 (bt 18 2143) hHeld (k := ?_)
 refine tk5 5 13 (bt 18 2175) hHeld (k := ?_)
 refine tk5 7 15 (bt 18 2303) hHeld (k := ?_)
 refine pu 8 16 (bt 18 2559) (k := ?_)
 refine pu 9 17 (bt 18 3071) (k := ?_)
 refine tk5 10 18 (bt 18 4095) hHeld (k := ?_)
 refine oN 12 20 (bt 18 8191) (h := fun K hK => ?_)
 refine goes_ Tryd.func43 (by kernel_rfl) rfl #[.agg #[.int .i64 x.g, .slice x.A x.l.length x.c], .int .i64 x.form, .int .i64 s] (by rfl) rfl rfl TN ?_
 with_reducible refine (struck43 (HBK.out.fr (Fr.drew (Fr.refl _ W))) x.form s L HSF.out).mono ?_
 rintro e w12 ⟨A2, c2, rfl, hCL, hcl, hf12⟩
 refine ⟨_, rfl, ?_⟩
 have H12 := Lib.hid (Fr0.trans (Fr.drew (Fr.refl _ W)) hf12)
 have HCL := Lib.hid hCL
 refine hK.out _ _ ⟨(H12.out.cell0 v0), (H12.out.cell0 v1), (H12.out.cell0 v2), (H12.out.cell0 v3), (H12.out.cell0 x0)⟩ (fun hHeld => ?_)
 clear hK K
 refine norm_ (a' := ?_) ?_ ?_
 rotate_left
 ·show Act.put _ (some 20) _ = _
  simp only [Act.put, lA, lZ, lS, i64_w, i32_w]
  rfl
 refine pu 13 7 (bt 18 16383) (k := ?_)
 refine pu 14 21 (bt 18 32767) (k := ?_)
 refine pu 15 22 (bt 18 65535) (k := ?_)
 refine pu 16 5 (bt 18 131071) (k := ?_)
 refine pu 17 6 (bt 18 262143) (k := ?_)
 refine done_ (by kernel_rfl) ?_
 clear v0 v1 v2 v3 x0 hCL hf12
 go_wp2_with (go_at_call 102; refine (contains102 A2 c2 L 0 _ HCL.out hcl).mono ?_; rintro e W2 ⟨rfl, hf2⟩)
 refine bodyPost_ret (v := .bool (L.contains 0)) (by simp [results, Tryd.results103, go_sem]) rfl ⟨rfl, Fr0.trans HF.out (Fr0.trans H12.out hf2)⟩
end Go.Proofs.YtfdenclnneigfaaDoor.R
namespace Go.Proofs.YtfdenclnneigfaaDoor.R
open Go.RowKit Go.Shelf Go.Proofs.YtfdenclnneigfaaDoorW.PrintWords Go.Proofs.YtfdenclnneigfaaDoorW.PrintLast Go.Proofs.YtfdenclnneigfaaDoor.PRaspKeys Go.Proofs.YtfdenclnneigfaaDoor.X Go.Proofs.YtfdenclnneigfaaDoor.M
attribute [local go_sem] Oper.semAt_some
/-! ### How a note can be -/
/-- Where the tones of the piece lie. -/
def HC.Lies (x : HC) (A1 : Option Addr) (c1 : Nat) (w : World) : Prop := ∃ ad, x.Ap = some ad ∧ w.cell? ⟨(ad.add (x.piece.toNat * 2)).block, (ad.add (x.piece.toNat * 2)).off + 1, none⟩ = some (.slice A1 x.p.length c1)
theorem HC.Lies.fr {x : HC} {A1 : Option Addr} {c1 : Nat} {w w' : World} (h : x.Lies A1 c1 w) (hf : Fr0 w w') : x.Lies A1 c1 w' := by
 obtain ⟨ad, e, h⟩ := h
 exact ⟨ad, e, hf.cell0 h⟩
theorem HC.Ok.lies {x : HC} {w : World} (h : x.Ok w) : ∃ A1 c1, x.Lies A1 c1 w ∧ x.p.length ≤ c1 ∧ Kd.C (Kd.int .i64) w A1 x.p.length x.p := by
 obtain ⟨ad, A1, c1, ead, x0, x1, hl1, hC1⟩ := at_T62 h.hb.r x.piece h.facts.p0 h.facts.p1
 exact ⟨A1, c1, ⟨ad, ead, x1⟩, hl1, hC1⟩
set_option maxHeartbeats 2000000 in
set_option maxRecDepth 100000 in
theorem tones63x (x : HC) (A1 : Option Addr) (c1 : Nat) (w : World) (hp0 : 0 ≤ x.piece) (hp1 : x.piece < x.ps.length) (h : x.Lies A1 c1 w) :
  Calls Tryd.prog 63 #[x.val] w fun e w' => e = .returned (.slice A1 x.p.length c1) ∧ Fr0 w w' := by
 obtain ⟨ad, ead, x1⟩ := h
 have hf0 : Fr0 w (w.alloc (.cells #[.int .i64 x.g, .slice x.A x.l.length x.c, .slice x.Ap x.ps.length x.cp, .int .i64 x.piece, .slice x.At x.t.length x.ct, .slice x.Ag x.gs.length x.cg, .int .i64 x.lost, .int .i64 x.wrong] 79)) := (Fr.refl _ _).alloc _
 have x1 := hf0.cell0 x1
 have c0 : Bx (w.alloc (.cells #[.int .i64 x.g, .slice x.A x.l.length x.c, .slice x.Ap x.ps.length x.cp, .int .i64 x.piece, .slice x.At x.t.length x.ct, .slice x.Ag x.gs.length x.cg, .int .i64 x.lost, .int .i64 x.wrong] 79)) w.heap.size 79 #[.int .i64 x.g, .slice x.A x.l.length x.c, .slice x.Ap x.ps.length x.cp, .int .i64 x.piece, .slice x.At x.t.length x.ct, .slice x.Ag x.gs.length x.cg, .int .i64 x.lost, .int .i64 x.wrong] := Bx.of_new rfl
 have HEA := Lib.hid ead
 clear ead
 unfold HC.val
 go_enter Tryd.func63, Tryd.ntmps63
 go_upto_region 1 with fail
 generalize hW : w.alloc (.cells #[.int .i64 x.g, .slice x.A x.l.length x.c, .slice x.Ap x.ps.length x.cp, .int .i64 x.piece, .slice x.At x.t.length x.ct, .slice x.Ag x.gs.length x.cg, .int .i64 x.lost, .int .i64 x.wrong] 79) = W at hf0 x1 c0 ⊢
 clear hW
 have v2 := c0.at_ 2 (v := .slice x.Ap x.ps.length x.cp) rfl
 have v3 := c0.at_ 3 (v := .int .i64 x.piece) rfl
 have HF := Lib.hid hf0
 clear c0 hf0
 rw [HEA.out] at v2
 go_wp2
 refine bodyPost_ret (v := .slice A1 x.p.length c1) (by simp [results, Tryd.results63, go_sem]) rfl ⟨rfl, HF.out⟩
theorem tones63e (x : HC) (adt : Addr) (hA : x.At = some adt) (A1 : Option Addr) (c1 : Nat) (w : World) (hp0 : 0 ≤ x.piece) (hp1 : x.piece < x.ps.length) (h : x.Lies A1 c1 w) :
  Calls Tryd.prog 63 #[.agg #[.int .i64 x.g, .slice x.A x.l.length x.c, .slice x.Ap x.ps.length x.cp, .int .i64 x.piece, .slice (some adt) x.t.length x.ct, .slice x.Ag x.gs.length x.cg, .int .i64 x.lost, .int .i64 x.wrong]] w fun e w' => e = .returned (.slice A1 x.p.length c1) ∧ Fr0 w w' := by
 have k := tones63x x A1 c1 w hp0 hp1 h
 unfold HC.val at k
 rw [hA] at k
 exact k
set_option maxHeartbeats 4000000 in
set_option maxRecDepth 100000 in
theorem right127 (x : HC) (k s : Nat) (w : World) (h : x.Ok w) (hk : k < x.t.length) (hs : s < x.p.length) :
  Calls Tryd.prog 127 #[x.val, .agg #[.int .i64 (k : Int), .int .i64 (s : Int)]] w fun e w' => e = .returned (.bool (x.t.getD k 0 == x.p.getD s 0)) ∧ Fr0 w w' := by
 have hx := h.facts
 have htk := hx.t3 (x.t.getD k 0) (by rw [show x.t.getD k 0 = x.t[k] by simp [hk]]; exact List.getElem_mem _)
 have hps := hx.q3 (x.p.getD s 0) (by rw [show x.p.getD s 0 = x.p[s] by simp [hs]]; exact List.getElem_mem _)
 have hkl : (k : Int) < x.t.length := by omega
 have hsl : (s : Int) < x.p.length := by omega
 have hf0 : Fr0 w ((w.alloc (.cells #[.int .i64 x.g, .slice x.A x.l.length x.c, .slice x.Ap x.ps.length x.cp, .int .i64 x.piece, .slice x.At x.t.length x.ct, .slice x.Ag x.gs.length x.cg, .int .i64 x.lost, .int .i64 x.wrong] 79)).alloc (.cells #[.int .i64 (k : Int), .int .i64 (s : Int)] 92)) := ((Fr.refl _ _).alloc _).alloc _
 obtain ⟨adt, ead, xt⟩ := Kd.at_int (C_fr h.n.rt hf0) (k : Int) (by omega) hkl
 have c0 : Bx ((w.alloc (.cells #[.int .i64 x.g, .slice x.A x.l.length x.c, .slice x.Ap x.ps.length x.cp, .int .i64 x.piece, .slice x.At x.t.length x.ct, .slice x.Ag x.gs.length x.cg, .int .i64 x.lost, .int .i64 x.wrong] 79)).alloc (.cells #[.int .i64 (k : Int), .int .i64 (s : Int)] 92)) w.heap.size 79 #[.int .i64 x.g, .slice x.A x.l.length x.c, .slice x.Ap x.ps.length x.cp, .int .i64 x.piece, .slice x.At x.t.length x.ct, .slice x.Ag x.gs.length x.cg, .int .i64 x.lost, .int .i64 x.wrong] := (Bx.of_new rfl).alloc _
 have d0 : Bx ((w.alloc (.cells #[.int .i64 x.g, .slice x.A x.l.length x.c, .slice x.Ap x.ps.length x.cp, .int .i64 x.piece, .slice x.At x.t.length x.ct, .slice x.Ag x.gs.length x.cg, .int .i64 x.lost, .int .i64 x.wrong] 79)).alloc (.cells #[.int .i64 (k : Int), .int .i64 (s : Int)] 92)) (w.heap.size + 1) 92 #[.int .i64 (k : Int), .int .i64 (s : Int)] := Bx.of_new (by simp)
 obtain ⟨A1, c1, hlies, hc1, hC1⟩ := (h.fr hf0).lies
 obtain ⟨adp, eap, xp⟩ := Kd.at_int hC1 (s : Int) (by omega) hsl
 cases eap
 rw [Int.toNat_natCast] at xp
 change _ = some (Value.int .i64 (x.p.getD s 0)) at xp
 have HLI := Lib.hid hlies
 have HP01 := Lib.hid (show 0 ≤ x.piece ∧ x.piece < x.ps.length from ⟨hx.p0, hx.p1⟩)
 change _ = some (Value.int .i64 (x.t.getD k 0)) at xt
 rw [Int.toNat_natCast] at xt
 have HEA := Lib.hid ead
 clear hx h ead hlies hC1
 generalize x.t.getD k 0 = tk at *
 generalize x.p.getD s 0 = sp at *
 unfold HC.val
 go_enter Tryd.func127, Tryd.ntmps127
 go_upto_region 1 with fail
 generalize hW : ((w.alloc (.cells #[.int .i64 x.g, .slice x.A x.l.length x.c, .slice x.Ap x.ps.length x.cp, .int .i64 x.piece, .slice x.At x.t.length x.ct, .slice x.Ag x.gs.length x.cg, .int .i64 x.lost, .int .i64 x.wrong] 79)).alloc (.cells #[.int .i64 (k : Int), .int .i64 (s : Int)] 92)) = W at hf0 xt c0 d0 xp HLI ⊢
 clear hW
 generalize w.heap.size = b at c0 d0 ⊢
 have v0 := c0.at_ 0 (v := .int .i64 x.g) rfl
 have v1 := c0.at_ 1 (v := .slice x.A x.l.length x.c) rfl
 have v2 := c0.at_ 2 (v := .slice x.Ap x.ps.length x.cp) rfl
 have v3 := c0.at_ 3 (v := .int .i64 x.piece) rfl
 have v4 := c0.at_ 4 (v := .slice x.At x.t.length x.ct) rfl
 have v5 := c0.at_ 5 (v := .slice x.Ag x.gs.length x.cg) rfl
 have v6 := c0.at_ 6 (v := .int .i64 x.lost) rfl
 have v7 := c0.at_ 7 (v := .int .i64 x.wrong) rfl
 have y0 := d0.at_ 0 (v := .int .i64 (k : Int)) rfl
 have y1 := d0.at_ 1 (v := .int .i64 (s : Int)) rfl
 rw [HEA.out] at v4
 have HF := Lib.hid hf0
 clear c0 d0 hf0
 refine start_ (n := 15) (S := fun w' => w'.cell? ⟨b, 0, none⟩ = some (.int .i64 x.g) ∧ w'.cell? ⟨b, 1, none⟩ = some (.slice x.A x.l.length x.c) ∧ w'.cell? ⟨b, 2, none⟩ = some (.slice x.Ap x.ps.length x.cp) ∧ w'.cell? ⟨b, 3, none⟩ = some (.int .i64 x.piece) ∧ w'.cell? ⟨b, 4, none⟩ = some (.slice (some adt) x.t.length x.ct) ∧ w'.cell? ⟨b, 5, none⟩ = some (.slice x.Ag x.gs.length x.cg) ∧ w'.cell? ⟨b, 6, none⟩ = some (.int .i64 x.lost) ∧ w'.cell? ⟨b, 7, none⟩ = some (.int .i64 x.wrong) ∧ w'.cell? ⟨b + 1, 0, none⟩ = some (.int .i64 (k : Int)) ∧ w'.cell? ⟨b + 1, 1, none⟩ = some (.int .i64 (s : Int)) ∧ w'.cell? (adt.add k) = some (.int .i64 tk) ∧ w'.cell? (adp.add s) = some (.int .i64 sp)) (ds := []) (.replicate 15 false) (by kernel_rfl) rfl rfl ⟨v0, v1, v2, v3, v4, v5, v6, v7, y0, y1, xt, xp⟩ (fun hHeld => ?_)
 refine pu 0 5 (bt 15 1) (k := ?_)
 refine pu 1 6 (bt 15 3) (k := ?_)
 refine pu 3 8 (bt 15 11) (k := ?_)
 refine pu 9 14 (bt 15 523) (k := ?_)
 refine tk12 2 7 (bt 15 527) hHeld (k := ?_)
 refine tk12 4 9 (bt 15 543) hHeld (k := ?_)
 refine pu 5 10 (bt 15 575) (k := ?_)
 refine tk12 6 11 (bt 15 639) hHeld (k := ?_)
 refine tk12 7 12 (bt 15 767) hHeld (k := ?_)
 refine tk12 10 15 (bt 15 1791) hHeld (k := ?_)
 refine oN 8 13 (bt 15 2047) (h := fun K hK => ?_)
 refine goes_ Tryd.func63 (by kernel_rfl) rfl #[.agg #[.int .i64 x.g, .slice x.A x.l.length x.c, .slice x.Ap x.ps.length x.cp, .int .i64 x.piece, .slice (some adt) x.t.length x.ct, .slice x.Ag x.gs.length x.cg, .int .i64 x.lost, .int .i64 x.wrong]] (by rfl) rfl rfl TN ?_
 with_reducible refine (tones63e x adt HEA.out (some adp) c1 _ HP01.out.1 HP01.out.2 (HLI.out.fr (Fr.drew (Fr.refl _ W)))).mono ?_
 rintro e w8 ⟨rfl, hf8⟩
 refine ⟨_, rfl, ?_⟩
 have H8 := Lib.hid (Fr0.trans (Fr.drew (Fr.refl _ W)) hf8)
 refine hK.out _ _ ⟨(H8.out.cell0 v0), (H8.out.cell0 v1), (H8.out.cell0 v2), (H8.out.cell0 v3), (H8.out.cell0 v4), (H8.out.cell0 v5), (H8.out.cell0 v6), (H8.out.cell0 v7), (H8.out.cell0 y0), (H8.out.cell0 y1), (H8.out.cell0 xt), (H8.out.cell0 xp)⟩ (fun hHeld => ?_)
 clear hK K
 refine norm_ (a' := ?_) ?_ ?_
 rotate_left
 ·show Act.put _ (some 13) _ = _
  simp only [Act.put, lA, lZ, lS, i64_w, i32_w]
  rfl
 refine pu 11 16 (bt 15 4095) (k := ?_)
 refine tk12 12 17 (bt 15 8191) hHeld (k := ?_)
 refine pu 13 18 (bt 15 16383) (k := ?_)
 refine pu 14 4 (bt 15 32767) (k := ?_)
 refine done_ (by kernel_rfl) ?_
 clear v0 v1 v2 v3 v4 v5 v6 v7 y0 y1 xt xp
 go_wp2
 refine bodyPost_ret (v := .bool (tk == sp)) (by simp [results, Tryd.results127, go_sem]) rfl ⟨rfl, Fr0.trans HF.out H8.out⟩
set_option maxHeartbeats 4000000 in
set_option maxRecDepth 100000 in
theorem wrong128 (x : HC) (k s : Nat) (w : World) (h : x.Ok w) (hk : k < x.t.length) (hs : s < x.p.length) :
  Calls Tryd.prog 128 #[x.val, .agg #[.int .i64 (k : Int), .int .i64 (s : Int)]] w fun e w' => e = .returned (.bool (decide (x.t.getD k 0 - x.p.getD s 0 = 1) || decide (x.t.getD k 0 - x.p.getD s 0 = -1))) ∧ Fr0 w w' := by
 have hx := h.facts
 have htk := hx.t3 (x.t.getD k 0) (by rw [show x.t.getD k 0 = x.t[k] by simp [hk]]; exact List.getElem_mem _)
 have hps := hx.q3 (x.p.getD s 0) (by rw [show x.p.getD s 0 = x.p[s] by simp [hs]]; exact List.getElem_mem _)
 have hkl : (k : Int) < x.t.length := by omega
 have hsl : (s : Int) < x.p.length := by omega
 have hf0 : Fr0 w ((w.alloc (.cells #[.int .i64 x.g, .slice x.A x.l.length x.c, .slice x.Ap x.ps.length x.cp, .int .i64 x.piece, .slice x.At x.t.length x.ct, .slice x.Ag x.gs.length x.cg, .int .i64 x.lost, .int .i64 x.wrong] 79)).alloc (.cells #[.int .i64 (k : Int), .int .i64 (s : Int)] 92)) := ((Fr.refl _ _).alloc _).alloc _
 obtain ⟨adt, ead, xt⟩ := Kd.at_int (C_fr h.n.rt hf0) (k : Int) (by omega) hkl
 have c0 : Bx ((w.alloc (.cells #[.int .i64 x.g, .slice x.A x.l.length x.c, .slice x.Ap x.ps.length x.cp, .int .i64 x.piece, .slice x.At x.t.length x.ct, .slice x.Ag x.gs.length x.cg, .int .i64 x.lost, .int .i64 x.wrong] 79)).alloc (.cells #[.int .i64 (k : Int), .int .i64 (s : Int)] 92)) w.heap.size 79 #[.int .i64 x.g, .slice x.A x.l.length x.c, .slice x.Ap x.ps.length x.cp, .int .i64 x.piece, .slice x.At x.t.length x.ct, .slice x.Ag x.gs.length x.cg, .int .i64 x.lost, .int .i64 x.wrong] := (Bx.of_new rfl).alloc _
 have d0 : Bx ((w.alloc (.cells #[.int .i64 x.g, .slice x.A x.l.length x.c, .slice x.Ap x.ps.length x.cp, .int .i64 x.piece, .slice x.At x.t.length x.ct, .slice x.Ag x.gs.length x.cg, .int .i64 x.lost, .int .i64 x.wrong] 79)).alloc (.cells #[.int .i64 (k : Int), .int .i64 (s : Int)] 92)) (w.heap.size + 1) 92 #[.int .i64 (k : Int), .int .i64 (s : Int)] := Bx.of_new (by simp)
 obtain ⟨A1, c1, hlies, hc1, hC1⟩ := (h.fr hf0).lies
 obtain ⟨adp, eap, xp⟩ := Kd.at_int hC1 (s : Int) (by omega) hsl
 cases eap
 rw [Int.toNat_natCast] at xp
 change _ = some (Value.int .i64 (x.p.getD s 0)) at xp
 have HLI := Lib.hid hlies
 have HP01 := Lib.hid (show 0 ≤ x.piece ∧ x.piece < x.ps.length from ⟨hx.p0, hx.p1⟩)
 change _ = some (Value.int .i64 (x.t.getD k 0)) at xt
 rw [Int.toNat_natCast] at xt
 have HEA := Lib.hid ead
 clear hx h ead hlies hC1
 obtain ⟨ht0, ht1⟩ := htk
 obtain ⟨hp0, hp1⟩ := hps
 generalize x.t.getD k 0 = tk at *
 generalize x.p.getD s 0 = sp at *
 unfold HC.val
 go_enter Tryd.func128, Tryd.ntmps128
 go_upto_region 1 with fail
 generalize hW : ((w.alloc (.cells #[.int .i64 x.g, .slice x.A x.l.length x.c, .slice x.Ap x.ps.length x.cp, .int .i64 x.piece, .slice x.At x.t.length x.ct, .slice x.Ag x.gs.length x.cg, .int .i64 x.lost, .int .i64 x.wrong] 79)).alloc (.cells #[.int .i64 (k : Int), .int .i64 (s : Int)] 92)) = W at hf0 xt c0 d0 xp HLI ⊢
 clear hW
 generalize w.heap.size = b at c0 d0 ⊢
 have v0 := c0.at_ 0 (v := .int .i64 x.g) rfl
 have v1 := c0.at_ 1 (v := .slice x.A x.l.length x.c) rfl
 have v2 := c0.at_ 2 (v := .slice x.Ap x.ps.length x.cp) rfl
 have v3 := c0.at_ 3 (v := .int .i64 x.piece) rfl
 have v4 := c0.at_ 4 (v := .slice x.At x.t.length x.ct) rfl
 have v5 := c0.at_ 5 (v := .slice x.Ag x.gs.length x.cg) rfl
 have v6 := c0.at_ 6 (v := .int .i64 x.lost) rfl
 have v7 := c0.at_ 7 (v := .int .i64 x.wrong) rfl
 have y0 := d0.at_ 0 (v := .int .i64 (k : Int)) rfl
 have y1 := d0.at_ 1 (v := .int .i64 (s : Int)) rfl
 rw [HEA.out] at v4
 have HF := Lib.hid hf0
 clear c0 d0 hf0
 refine start_ (n := 15) (S := fun w' => w'.cell? ⟨b, 0, none⟩ = some (.int .i64 x.g) ∧ w'.cell? ⟨b, 1, none⟩ = some (.slice x.A x.l.length x.c) ∧ w'.cell? ⟨b, 2, none⟩ = some (.slice x.Ap x.ps.length x.cp) ∧ w'.cell? ⟨b, 3, none⟩ = some (.int .i64 x.piece) ∧ w'.cell? ⟨b, 4, none⟩ = some (.slice (some adt) x.t.length x.ct) ∧ w'.cell? ⟨b, 5, none⟩ = some (.slice x.Ag x.gs.length x.cg) ∧ w'.cell? ⟨b, 6, none⟩ = some (.int .i64 x.lost) ∧ w'.cell? ⟨b, 7, none⟩ = some (.int .i64 x.wrong) ∧ w'.cell? ⟨b + 1, 0, none⟩ = some (.int .i64 (k : Int)) ∧ w'.cell? ⟨b + 1, 1, none⟩ = some (.int .i64 (s : Int)) ∧ w'.cell? (adt.add k) = some (.int .i64 tk) ∧ w'.cell? (adp.add s) = some (.int .i64 sp)) (ds := []) (.replicate 15 false) (by kernel_rfl) rfl rfl ⟨v0, v1, v2, v3, v4, v5, v6, v7, y0, y1, xt, xp⟩ (fun hHeld => ?_)
 refine pu 0 6 (bt 15 1) (k := ?_)
 refine pu 1 7 (bt 15 3) (k := ?_)
 refine pu 3 9 (bt 15 11) (k := ?_)
 refine pu 9 15 (bt 15 523) (k := ?_)
 refine tk12 2 8 (bt 15 527) hHeld (k := ?_)
 refine tk12 4 10 (bt 15 543) hHeld (k := ?_)
 refine pu 5 11 (bt 15 575) (k := ?_)
 refine tk12 6 12 (bt 15 639) hHeld (k := ?_)
 refine tk12 7 13 (bt 15 767) hHeld (k := ?_)
 refine tk12 10 16 (bt 15 1791) hHeld (k := ?_)
 refine oN 8 14 (bt 15 2047) (h := fun K hK => ?_)
 refine goes_ Tryd.func63 (by kernel_rfl) rfl #[.agg #[.int .i64 x.g, .slice x.A x.l.length x.c, .slice x.Ap x.ps.length x.cp, .int .i64 x.piece, .slice (some adt) x.t.length x.ct, .slice x.Ag x.gs.length x.cg, .int .i64 x.lost, .int .i64 x.wrong]] (by rfl) rfl rfl TN ?_
 with_reducible refine (tones63e x adt HEA.out (some adp) c1 _ HP01.out.1 HP01.out.2 (HLI.out.fr (Fr.drew (Fr.refl _ W)))).mono ?_
 rintro e w8 ⟨rfl, hf8⟩
 refine ⟨_, rfl, ?_⟩
 have H8 := Lib.hid (Fr0.trans (Fr.drew (Fr.refl _ W)) hf8)
 refine hK.out _ _ ⟨(H8.out.cell0 v0), (H8.out.cell0 v1), (H8.out.cell0 v2), (H8.out.cell0 v3), (H8.out.cell0 v4), (H8.out.cell0 v5), (H8.out.cell0 v6), (H8.out.cell0 v7), (H8.out.cell0 y0), (H8.out.cell0 y1), (H8.out.cell0 xt), (H8.out.cell0 xp)⟩ (fun hHeld => ?_)
 clear hK K
 refine norm_ (a' := ?_) ?_ ?_
 rotate_left
 ·show Act.put _ (some 14) _ = _
  simp only [Act.put, lA, lZ, lS, i64_w, i32_w]
  rfl
 refine pu 11 17 (bt 15 4095) (k := ?_)
 refine tk12 12 18 (bt 15 8191) hHeld (k := ?_)
 refine pu 13 19 (bt 15 16383) (k := ?_)
 refine pu 14 5 (bt 15 32767) (k := ?_)
 refine done_ (by kernel_rfl) ?_
 clear v0 v1 v2 v3 v4 v5 v6 v7 y0 y1 xt xp
 have HV := Lib.hid (show (wrap64 (tk - sp) == 1 || wrap64 (tk - sp) == -1) = (decide (tk - sp = 1) || decide (tk - sp = -1)) by rw [w64 (by omega) (by omega)]; rfl)
 go_wp2
 all_goals
  refine bodyPost_ret (v := .bool (wrap64 (tk - sp) == 1 || wrap64 (tk - sp) == -1)) (by simp [results, Tryd.results128, go_sem, *]) rfl ⟨by rw [HV.out], Fr0.trans HF.out H8.out⟩
end Go.Proofs.YtfdenclnneigfaaDoor.R
namespace Go.Proofs.YtfdenclnneigfaaDoor.R
open Go.RowKit Go.Shelf Go.Proofs.YtfdenclnneigfaaDoorW.PrintWords Go.Proofs.YtfdenclnneigfaaDoorW.PrintLast Go.Proofs.YtfdenclnneigfaaDoor.PRaspKeys Go.Proofs.YtfdenclnneigfaaDoor.X Go.Proofs.YtfdenclnneigfaaDoor.M
attribute [local go_sem] Oper.semAt_some
/-! ### For how many wrong notes a note counts -/
def HC.cost (x : HC) (k s : Nat) : Int := if (x.gs.contains (k : Int) && !x.gong (s : Int)) = true then 1000 else if x.t.getD k 0 = x.p.getD s 0 then 0 else if x.t.getD k 0 - x.p.getD s 0 = 1 ∨ x.t.getD k 0 - x.p.getD s 0 = -1 then 1 else 1000
theorem HC.val_eq (x : HC) : x.val = .agg #[.int .i64 x.g, .slice x.A x.l.length x.c, .slice x.Ap x.ps.length x.cp, .int .i64 x.piece, .slice x.At x.t.length x.ct, .slice x.Ag x.gs.length x.cg, .int .i64 x.lost, .int .i64 x.wrong] := rfl
set_option maxHeartbeats 8000000 in
set_option maxRecDepth 100000 in
theorem off99 (x : HC) (k s : Nat) (w : World) (h : x.Ok w) (hk : k < x.t.length) (hs : s < x.p.length) :
  Calls Tryd.prog 99 #[x.val, .agg #[.int .i64 (k : Int), .int .i64 (s : Int)]] w fun e w' => e = .returned (.int .i64 (x.cost k s)) ∧ Fr0 w w' := by
 obtain ⟨R, hR⟩ : ∃ R, R = x.cost k s := ⟨_, rfl⟩
 rw [← hR]
 have HR := Lib.hid hR
 clear hR
 have hx := h.facts
 have hs24 : s ≤ 1000 := by have := hx.q2; omega
 have hf0 : Fr0 w ((w.alloc (.cells #[.int .i64 x.g, .slice x.A x.l.length x.c, .slice x.Ap x.ps.length x.cp, .int .i64 x.piece, .slice x.At x.t.length x.ct, .slice x.Ag x.gs.length x.cg, .int .i64 x.lost, .int .i64 x.wrong] 79)).alloc (.cells #[.int .i64 (k : Int), .int .i64 (s : Int)] 92)) := ((Fr.refl _ _).alloc _).alloc _
 have c0 : Bx ((w.alloc (.cells #[.int .i64 x.g, .slice x.A x.l.length x.c, .slice x.Ap x.ps.length x.cp, .int .i64 x.piece, .slice x.At x.t.length x.ct, .slice x.Ag x.gs.length x.cg, .int .i64 x.lost, .int .i64 x.wrong] 79)).alloc (.cells #[.int .i64 (k : Int), .int .i64 (s : Int)] 92)) w.heap.size 79 #[.int .i64 x.g, .slice x.A x.l.length x.c, .slice x.Ap x.ps.length x.cp, .int .i64 x.piece, .slice x.At x.t.length x.ct, .slice x.Ag x.gs.length x.cg, .int .i64 x.lost, .int .i64 x.wrong] := (Bx.of_new rfl).alloc _
 have d0 : Bx ((w.alloc (.cells #[.int .i64 x.g, .slice x.A x.l.length x.c, .slice x.Ap x.ps.length x.cp, .int .i64 x.piece, .slice x.At x.t.length x.ct, .slice x.Ag x.gs.length x.cg, .int .i64 x.lost, .int .i64 x.wrong] 79)).alloc (.cells #[.int .i64 (k : Int), .int .i64 (s : Int)] 92)) (w.heap.size + 1) 92 #[.int .i64 (k : Int), .int .i64 (s : Int)] := Bx.of_new (by simp)
 have HOK := Lib.hid (h.fr hf0)
 have HKS := Lib.hid (And.intro hk hs)
 have HX := Lib.hid hx
 clear hx h hk hs
 unfold HC.val
 go_enter Tryd.func99, Tryd.ntmps99
 go_upto_region 1 with fail
 generalize hW : ((w.alloc (.cells #[.int .i64 x.g, .slice x.A x.l.length x.c, .slice x.Ap x.ps.length x.cp, .int .i64 x.piece, .slice x.At x.t.length x.ct, .slice x.Ag x.gs.length x.cg, .int .i64 x.lost, .int .i64 x.wrong] 79)).alloc (.cells #[.int .i64 (k : Int), .int .i64 (s : Int)] 92)) = W at hf0 c0 d0 HOK ⊢
 clear hW
 generalize w.heap.size = b at c0 d0 ⊢
 have v0 := c0.at_ 0 (v := .int .i64 x.g) rfl
 have v1 := c0.at_ 1 (v := .slice x.A x.l.length x.c) rfl
 have v2 := c0.at_ 2 (v := .slice x.Ap x.ps.length x.cp) rfl
 have v3 := c0.at_ 3 (v := .int .i64 x.piece) rfl
 have v4 := c0.at_ 4 (v := .slice x.At x.t.length x.ct) rfl
 have v5 := c0.at_ 5 (v := .slice x.Ag x.gs.length x.cg) rfl
 have v6 := c0.at_ 6 (v := .int .i64 x.lost) rfl
 have v7 := c0.at_ 7 (v := .int .i64 x.wrong) rfl
 have y0 := d0.at_ 0 (v := .int .i64 (k : Int)) rfl
 have y1 := d0.at_ 1 (v := .int .i64 (s : Int)) rfl
 have HF := Lib.hid hf0
 have HW := Lib.hid (Fr.refl (fun _ => False) W)
 have HC0 := Lib.hid c0
 have HD0 := Lib.hid d0
 clear c0 d0 hf0
 have HCO := Lib.hid (fun W' (hf : Fr0 W W') => contains102 x.Ag x.cg x.gs (k : Int) W' (HOK.out.fr hf).n.rg (HOK.out.fr hf).n.cg)
 have HGO := Lib.hid (fun W' (hf : Fr0 W W') => gong103 x (s : Int) W' (HOK.out.fr hf) (by omega) (by omega))
 have HRT := Lib.hid (fun W' (hf : Fr0 W W') => right127 x k s W' (HOK.out.fr hf) HKS.out.1 HKS.out.2)
 have HWR := Lib.hid (fun W' (hf : Fr0 W W') => wrong128 x k s W' (HOK.out.fr hf) HKS.out.1 HKS.out.2)
 have HGL := Lib.hid (fun W' (hf : Fr0 W W') => (HOK.out.fr hf).hb.bk.glob)
 unfold HC.cost at HR
 by_cases hc : (x.gs.contains (k : Int) && !x.gong (s : Int)) = true
 ·rw [if_pos hc, ] at HR
  rw [Bool.and_eq_true] at hc
  obtain ⟨q1, q2⟩ := hc
  rw [Bool.not_eq_true'] at q2
  rw [q1] at HCO
  rw [q2] at HGO
  clear q1 q2
  go_wp2_with (first
   | (go_at_call 102; refine (HCO.out _ HW.out).mono ?_; rintro e W1 ⟨rfl, hf⟩; (have v0 := hf.cell0 v0); (have v1 := hf.cell0 v1); (have v2 := hf.cell0 v2); (have v3 := hf.cell0 v3); (have v4 := hf.cell0 v4); (have v5 := hf.cell0 v5); (have v6 := hf.cell0 v6); (have v7 := hf.cell0 v7); (have y0 := hf.cell0 y0); (have y1 := hf.cell0 y1); (have HW := Lib.hid (Fr0.trans HW.out hf)); clear hf)
   | (go_at_call 103; refine (HGO.out _ HW.out).mono ?_; rintro e W2 ⟨rfl, hf⟩; (have v0 := hf.cell0 v0); (have v1 := hf.cell0 v1); (have v2 := hf.cell0 v2); (have v3 := hf.cell0 v3); (have v4 := hf.cell0 v4); (have v5 := hf.cell0 v5); (have v6 := hf.cell0 v6); (have v7 := hf.cell0 v7); (have y0 := hf.cell0 y0); (have y1 := hf.cell0 y1); (have HW := Lib.hid (Fr0.trans HW.out hf)); clear hf))
  refine bodyPost_ret (v := .int .i64 1000) (by simp [results, Tryd.results99, go_sem]) rfl ⟨by rw [HR.out], Fr0.trans HF.out HW.out⟩
 ·rw [if_neg hc] at HR
  have hgo : ∃ c1 c2 : Bool, x.gs.contains (k : Int) = c1 ∧ x.gong (s : Int) = c2 ∧ (c1 && !c2) = false := ⟨_, _, rfl, rfl, by simpa using hc⟩
  obtain ⟨q1, q2, e1, e2, e3⟩ := hgo
  rw [e1] at HCO
  rw [e2] at HGO
  clear hc e1 e2
  obtain ⟨r1, er⟩ : ∃ r1, r1 = (x.t.getD k 0 == x.p.getD s 0) := ⟨_, rfl⟩
  obtain ⟨r2, ew⟩ : ∃ r2, r2 = (decide (x.t.getD k 0 - x.p.getD s 0 = 1) || decide (x.t.getD k 0 - x.p.getD s 0 = -1)) := ⟨_, rfl⟩
  have HV : R = if r1 = true then 0 else if r2 = true then 1 else 1000 := by
   rw [HR.out, er, ew]
   simp only [beq_iff_eq, Bool.or_eq_true, decide_eq_true_eq]
  rw [← er] at HRT
  rw [← ew] at HWR
  have HV := Lib.hid HV
  clear er ew HR
  have hix0 : ∀ W : World, (Instr.index 133 (.agg #[.func (.func 127) #[] #[], .func (.func 128) #[] #[]]) (.int .i64 0)).run Tryd.prog W = .ok (.func (.func 127) #[] #[]) W := fun _ => by kernel_rfl
  have hix1 : ∀ W : World, (Instr.index 133 (.agg #[.func (.func 127) #[] #[], .func (.func 128) #[] #[]]) (.int .i64 1)).run Tryd.prog W = .ok (.func (.func 128) #[] #[]) W := fun _ => by kernel_rfl
  have HIX0 := Lib.hid hix0
  have HIX1 := Lib.hid hix1
  clear hix0 hix1
  cases q1 <;> cases q2
  case true.false => cases e3
  all_goals
   clear e3
   go_upto_region 3 with (first
    | (go_at_call 102; refine (HCO.out _ HW.out).mono ?_; rintro e W1 ⟨rfl, hf⟩; (have v0 := hf.cell0 v0); (have v1 := hf.cell0 v1); (have v2 := hf.cell0 v2); (have v3 := hf.cell0 v3); (have v4 := hf.cell0 v4); (have v5 := hf.cell0 v5); (have v6 := hf.cell0 v6); (have v7 := hf.cell0 v7); (have y0 := hf.cell0 y0); (have y1 := hf.cell0 y1); (have HW := Lib.hid (Fr0.trans HW.out hf)); clear hf)
    | (go_at_call 103; refine (HGO.out _ HW.out).mono ?_; rintro e W2 ⟨rfl, hf⟩; (have v0 := hf.cell0 v0); (have v1 := hf.cell0 v1); (have v2 := hf.cell0 v2); (have v3 := hf.cell0 v3); (have v4 := hf.cell0 v4); (have v5 := hf.cell0 v5); (have v6 := hf.cell0 v6); (have v7 := hf.cell0 v7); (have y0 := hf.cell0 y0); (have y1 := hf.cell0 y1); (have HW := Lib.hid (Fr0.trans HW.out hf)); clear hf))
   have g0 := (HGL.out _ HW.out).g0
   have g1 := (HGL.out _ HW.out).g1
   go_wp2
   clear g0 g1
   go_loopw [21] (fun v21 wr => ((v21 = .int .i64 0) ∨ (v21 = .int .i64 1 ∧ r1 = false) ∨ (v21 = .int .i64 2 ∧ r1 = false ∧ r2 = false)) ∧ Fr0 W wr) (fun v _ => (2 - intOf v).toNat)
   case atStart => exact ⟨.inl rfl, HW.out⟩
   case round =>
    clear v0 v1 v2 v3 v4 v5 v6 v7 y0 y1
    obtain ⟨hcase, hf⟩ := hrel
    have v0 := (HC0.out.fr0 hf).at_ 0 (v := .int .i64 x.g) rfl
    have v1 := (HC0.out.fr0 hf).at_ 1 (v := .slice x.A x.l.length x.c) rfl
    have v2 := (HC0.out.fr0 hf).at_ 2 (v := .slice x.Ap x.ps.length x.cp) rfl
    have v3 := (HC0.out.fr0 hf).at_ 3 (v := .int .i64 x.piece) rfl
    have v4 := (HC0.out.fr0 hf).at_ 4 (v := .slice x.At x.t.length x.ct) rfl
    have v5 := (HC0.out.fr0 hf).at_ 5 (v := .slice x.Ag x.gs.length x.cg) rfl
    have v6 := (HC0.out.fr0 hf).at_ 6 (v := .int .i64 x.lost) rfl
    have v7 := (HC0.out.fr0 hf).at_ 7 (v := .int .i64 x.wrong) rfl
    have y0 := (HD0.out.fr0 hf).at_ 0 (v := .int .i64 (k : Int)) rfl
    have y1 := (HD0.out.fr0 hf).at_ 1 (v := .int .i64 (s : Int)) rfl
    have HWr := Lib.hid hf
    clear hf
    rcases hcase with rfl | ⟨rfl, h1⟩ | ⟨rfl, h1, h2⟩
    ·have hix := HIX0.out
     cases r1
     ·go_wp2_with (go_at_call 127; refine (HRT.out _ HWr.out).mono ?_; rintro e W3 ⟨rfl, hf3⟩)
      go_roundw
      case rel => exact ⟨.inr (.inl ⟨by rfl, by first | rfl | trivial⟩), Fr0.trans HWr.out hf3⟩
      case measure => simp [intOf]
     ·go_wp2_with (go_at_call 127; refine (HRT.out _ HWr.out).mono ?_; rintro e W3 ⟨rfl, hf3⟩)
      refine bodyPost_ret (v := .int .i64 0) (by simp [results, Tryd.results99, go_sem]) rfl ⟨by rw [HV.out]; rfl, Fr0.trans HF.out (Fr0.trans HWr.out hf3)⟩
    ·subst h1
     have hix := HIX1.out
     cases r2
     ·go_wp2_with (go_at_call 128; refine (HWR.out _ HWr.out).mono ?_; rintro e W3 ⟨rfl, hf3⟩)
      go_roundw
      case rel => exact ⟨.inr (.inr ⟨by rfl, by first | rfl | trivial, by first | rfl | trivial⟩), Fr0.trans HWr.out hf3⟩
      case measure => simp [intOf]
     ·go_wp2_with (go_at_call 128; refine (HWR.out _ HWr.out).mono ?_; rintro e W3 ⟨rfl, hf3⟩)
      refine bodyPost_ret (v := .int .i64 1) (by simp [results, Tryd.results99, go_sem]) rfl ⟨by rw [HV.out]; rfl, Fr0.trans HF.out (Fr0.trans HWr.out hf3)⟩
    ·subst h1 h2
     go_wp2
     refine bodyPost_ret (v := .int .i64 1000) (by simp [results, Tryd.results99, go_sem]) rfl ⟨by rw [HV.out]; rfl, Fr0.trans HF.out HWr.out⟩
end Go.Proofs.YtfdenclnneigfaaDoor.R
namespace Go.Proofs.YtfdenclnneigfaaDoor.R
open Go.RowKit Go.Shelf Go.Proofs.YtfdenclnneigfaaDoorW.PrintWords Go.Proofs.YtfdenclnneigfaaDoorW.PrintLast Go.Proofs.YtfdenclnneigfaaDoor.PRaspKeys Go.Proofs.YtfdenclnneigfaaDoor.X Go.Proofs.YtfdenclnneigfaaDoor.M
attribute [local go_sem] Oper.semAt_some
/-! ### What two rows share -/
theorem key92 : Key2 Tryd.prog 92 where
 und := ⟨_, Tryd.underlying92⟩
 chk := fun e w a b => by
  show (Instr.checkKey e (9998 + 1 + 1) 92 (k2 a b)).run Tryd.prog w = _
  have h3 : ∀ (v : Value) w, (Instr.checkKey e (9998 + 1) 3 v).run Tryd.prog w = .ok () w := fun v w => by
   unfold Instr.checkKey
   simp only [Sem.run_bind, run_underlying Tryd.underlying3, Result.andThen_ok]
   rfl
  unfold Instr.checkKey
  simp only [Sem.run_bind, run_underlying Tryd.underlying92, Result.andThen_ok, k2]
  simp [h3, go_sem]
 eq := fun w a b x y => by
  show (Op.equalIn 10000 92 (k2 a b) (k2 x y)).run Tryd.prog w = _
  refine eqA_of (d := 9999) Tryd.underlying92 (by kernel_rfl) ?_
  refine eqf_cons (by rfl) (by go_simp; rfl) (by go_simp; rfl) (by go_simp) ?_
  exact eqf_last (by rfl) (by go_simp; rfl) (by go_simp; rfl) (by go_simp)
theorem zero3 (w : World) : (zeroValue 3).run Tryd.prog w = .ok (.int .i64 0) w := by kernel_rfl
structure CmC where
 w0 : World
 a : List Int
 b : List Int
 Aa : Option Addr
 ca : Nat
 Ab : Option Addr
 cb : Nat
 ba : Nat
 bb : Nat
 bm : Nat
 bf : Nat
 mb : Nat
def CmC.lb (c : CmC) : Array Value := #[.pointer (some ⟨c.ba, 0, none⟩), .pointer (some ⟨c.bb, 0, none⟩), .pointer (some ⟨c.bm, 0, none⟩), .pointer (some ⟨c.bf, 0, none⟩)]
def CmC.at (c : CmC) (i j : Nat) : Int := H.lcs (c.a.drop i) (c.b.drop j)
structure CmC.Fix (c : CmC) : Prop where
 ra : Kd.C (Kd.int .i64) c.w0 c.Aa c.a.length c.a
 rb : Kd.C (Kd.int .i64) c.w0 c.Ab c.b.length c.b
 la : c.a.length ≤ 24
 lb : c.b.length ≤ 24
 old : c.w0.heap.size ≤ c.mb
def CmC.Memo (c : CmC) (w : World) : Prop := ∃ f, MapFn w c.mb f ∧ ∀ (i j : Nat) (v : Value), f i j = some v → v = .int .i64 (c.at i j)
structure CmC.Inv (c : CmC) (w : World) : Prop where
 base : Below c.w0.heap.size c.w0 w
 va : w.cell? ⟨c.ba, 0, none⟩ = some (.slice c.Aa c.a.length c.ca)
 vb : w.cell? ⟨c.bb, 0, none⟩ = some (.slice c.Ab c.b.length c.cb)
 vm : w.cell? ⟨c.bm, 0, none⟩ = some (.map (some c.mb))
 vf : w.cell? ⟨c.bf, 0, none⟩ = some (.func (.func 94) #[] #[.pointer (some ⟨c.ba, 0, none⟩), .pointer (some ⟨c.bb, 0, none⟩), .pointer (some ⟨c.bm, 0, none⟩), .pointer (some ⟨c.bf, 0, none⟩)])
 memo : c.Memo w
theorem CmC.Inv.step {c : CmC} (hF : c.Fix) {w w' : World} (h : c.Inv w) (hf : Fr (· = c.mb) w w') (hm : c.Memo w') : c.Inv w' := by
 obtain ⟨f, hmf, _⟩ := h.memo
 obtain ⟨es, k, ho⟩ := hmf.obj
 exact ⟨h.base.trans (hf.below h.base.size (fun k hk e => by have := hF.old; omega)), hf.cellM ho h.va, hf.cellM ho h.vb, hf.cellM ho h.vm, hf.cellM ho h.vf, hm⟩
theorem CmC.Inv.step0 {c : CmC} {w w' : World} (h : c.Inv w) (hf : Fr0 w w') : c.Inv w' := by
 obtain ⟨f, hmf, hv⟩ := h.memo
 exact ⟨h.base.trans (hf.below h.base.size (fun _ _ h => h)), hf.cell0 h.va, hf.cell0 h.vb, hf.cell0 h.vm, hf.cell0 h.vf, ⟨f, hmf.same (hf.block _ hmf.lt (fun h => h)), hv⟩⟩
/-- What the closure tells. -/
def CmC.Says (c : CmC) (i j : Nat) (w : World) : Prop :=
 Calls Tryd.prog 94 #[.agg #[.int .i64 (i : Int), .int .i64 (j : Int)], .pointer (some ⟨c.ba, 0, none⟩), .pointer (some ⟨c.bb, 0, none⟩), .pointer (some ⟨c.bm, 0, none⟩), .pointer (some ⟨c.bf, 0, none⟩)] w fun e w' => e = .returned (.int .i64 (c.at i j)) ∧ c.Memo w' ∧ Fr (· = c.mb) w w'
set_option maxHeartbeats 4000000 in
set_option maxRecDepth 100000 in
theorem common_end (c : CmC) (hF : c.Fix) (i j : Nat) (w : World) (hI : c.Inv w) (hi : i ≤ c.a.length) (hj : j ≤ c.b.length) (he : i = c.a.length ∨ j = c.b.length) : c.Says i j w := by
 have hv : c.at i j = 0 := by
  unfold CmC.at
  rcases he with rfl | rfl
  ·rw [List.drop_length]; rfl
  ·rw [List.drop_length, H.lcs_nil]
 unfold CmC.Says
 rw [hv]
 have hf0 : Fr0 w (w.alloc (.cells #[.int .i64 (i : Int), .int .i64 (j : Int)] 92)) := (Fr.refl _ _).alloc _
 have c0 : Bx (w.alloc (.cells #[.int .i64 (i : Int), .int .i64 (j : Int)] 92)) w.heap.size 92 #[.int .i64 (i : Int), .int .i64 (j : Int)] := Bx.of_new rfl
 have HI := Lib.hid (hI.step0 hf0)
 clear hI hv
 by_cases ha : i = c.a.length
 ·have HA := Lib.hid ha
  have b1 : ((i : Int) == (c.a.length : Int)) = true := by rw [ha]; simp
  clear ha he
  go_enter Tryd.func94, Tryd.ntmps94
  go_upto_region 1 with fail
  generalize hW : w.alloc (.cells #[.int .i64 (i : Int), .int .i64 (j : Int)] 92) = W at hf0 c0 HI ⊢
  clear hW
  have y0 := c0.at_ 0 (v := .int .i64 (i : Int)) rfl
  have va := HI.out.va
  have HFR := Lib.hid hf0
  clear c0 hf0
  go_wp2
  refine bodyPost_ret (v := .int .i64 0) (by simp [results, Tryd.results94, go_sem]) rfl ⟨rfl, HI.out.memo, Fr.of0 HFR.out⟩
 ·have hb : j = c.b.length := by rcases he with h | h; exact absurd h ha; exact h
  have b1 : ((i : Int) == (c.a.length : Int)) = false := by simpa using (show ¬ (i : Int) = c.a.length by omega)
  have b2 : ((j : Int) == (c.b.length : Int)) = true := by rw [hb]; simp
  clear ha he hb
  go_enter Tryd.func94, Tryd.ntmps94
  go_upto_region 1 with fail
  generalize hW : w.alloc (.cells #[.int .i64 (i : Int), .int .i64 (j : Int)] 92) = W at hf0 c0 HI ⊢
  clear hW
  have y0 := c0.at_ 0 (v := .int .i64 (i : Int)) rfl
  have y1 := c0.at_ 1 (v := .int .i64 (j : Int)) rfl
  have va := HI.out.va
  have vb := HI.out.vb
  have HFR := Lib.hid hf0
  clear c0 hf0
  go_wp2
  refine bodyPost_ret (v := .int .i64 0) (by simp [results, Tryd.results94, go_sem]) rfl ⟨rfl, HI.out.memo, Fr.of0 HFR.out⟩
set_option maxHeartbeats 4000000 in
set_option maxRecDepth 100000 in
theorem common_hit (c : CmC) (hF : c.Fix) (i j : Nat) (w : World) (hI : c.Inv w) (hi : i < c.a.length) (hj : j < c.b.length) (f : Int → Int → Option Value) (hmf : MapFn w c.mb f) (hv : f i j = some (.int .i64 (c.at i j))) : c.Says i j w := by
 unfold CmC.Says
 have hf0 : Fr0 w (w.alloc (.cells #[.int .i64 (i : Int), .int .i64 (j : Int)] 92)) := (Fr.refl _ _).alloc _
 have c0 : Bx (w.alloc (.cells #[.int .i64 (i : Int), .int .i64 (j : Int)] 92)) w.heap.size 92 #[.int .i64 (i : Int), .int .i64 (j : Int)] := Bx.of_new rfl
 have HI := Lib.hid (hI.step0 hf0)
 have hlk : (Instr.lookup 122 (.map (some c.mb)) (.agg #[.int .i64 (i : Int), .int .i64 (j : Int)]) true).run Tryd.prog (w.alloc (.cells #[.int .i64 (i : Int), .int .i64 (j : Int)] 92)) = .ok (.tuple #[.int .i64 (c.at i j), .bool true]) (w.alloc (.cells #[.int .i64 (i : Int), .int .i64 (j : Int)] 92)) := by
  have hm2 := hmf.same (hf0.block _ hmf.lt (fun h => h))
  have := lookup_k2 key92 Tryd.underlying122 zero3 hm2 (i : Int) (j : Int)
  rw [hv] at this
  exact this
 have b1 : ((i : Int) == (c.a.length : Int)) = false := by simpa using (show ¬ (i : Int) = c.a.length by omega)
 have b2 : ((j : Int) == (c.b.length : Int)) = false := by simpa using (show ¬ (j : Int) = c.b.length by omega)
 clear hI hv hmf
 generalize c.at i j = R at *
 go_enter Tryd.func94, Tryd.ntmps94
 go_upto_region 1 with fail
 generalize hW : w.alloc (.cells #[.int .i64 (i : Int), .int .i64 (j : Int)] 92) = W at hf0 c0 HI hlk ⊢
 clear hW
 have y0 := c0.at_ 0 (v := .int .i64 (i : Int)) rfl
 have y1 := c0.at_ 1 (v := .int .i64 (j : Int)) rfl
 have va := HI.out.va
 have vb := HI.out.vb
 have vm := HI.out.vm
 have HFR := Lib.hid hf0
 clear c0 hf0
 go_wp2
 refine bodyPost_ret (v := .int .i64 R) (by simp [results, Tryd.results94, go_sem]) rfl ⟨rfl, HI.out.memo, Fr.of0 HFR.out⟩
theorem ef94 (args : Array Value) (w : World) : (callFunc 94 args).run Tryd.prog w = .ok (.enter 94 args) w := by kernel_rfl
theorem one_row (w : World) (b : Int) : Kd.C (Kd.int .i64) (w.alloc (.cells #[.int .i64 b] 3)) (some ⟨w.heap.size, 0, none⟩) [b].length [b] := by
 refine ⟨rfl, by simp, fun _ => ⟨_, rfl, ?_⟩⟩
 rintro (_ | j) p hp
 ·obtain rfl : b = p := by simpa using hp
  refine ⟨[.int .i64 b], rfl, rfl, ?_⟩
  rintro (_ | i) u hu
  ·obtain rfl : (Value.int .i64 b) = u := by simpa using hu
   exact (Bx.new w 3 _).at_ 0 rfl
  ·simp at hu
 ·simp at hp
theorem great75 (a b : Int) (w : World) : Calls Tryd.prog 75 #[.int .i64 a, .slice (some ⟨w.heap.size, 0, none⟩) 1 1] (w.alloc (.cells #[.int .i64 b] 3)) fun e w' => e = .returned (.int .i64 (max a b)) ∧ Fr0 (w.alloc (.cells #[.int .i64 b] 3)) w' := by
 refine (heard_greatest_int.calls 2 a (some ⟨w.heap.size, 0, none⟩) 1 [b] (max a b) _ (one_row w b) (by simp) ?_).mono fun e w' h => ⟨h.1, Go.Proofs.YtfdenclnneigfaaDoor.X.Fr.of_below h.2⟩
 simp [heard_greatest_int.f, heard_greatest_int.l0, wrap64, rd, mx]
 omega
theorem CmC.at_step (c : CmC) (i j : Nat) (hi : i < c.a.length) (hj : j < c.b.length) : c.at i j = if c.a.getD i 0 = c.b.getD j 0 then max (max (c.at (i + 1) j) (c.at i (j + 1))) (1 + c.at (i + 1) (j + 1)) else max (c.at (i + 1) j) (c.at i (j + 1)) := by
 unfold CmC.at
 rw [List.drop_eq_getElem_cons hi, List.drop_eq_getElem_cons hj, H.lcs_cons, show c.a.getD i 0 = c.a[i] by simp [hi], show c.b.getD j 0 = c.b[j] by simp [hj]]
theorem CmC.at_bnd (c : CmC) (hF : c.Fix) (i j : Nat) : 0 ≤ c.at i j ∧ c.at i j ≤ 24 := by
 have h := H.lcs_bnd (c.a.drop i) (c.b.drop j)
 have := hF.la
 rw [List.length_drop] at h
 unfold CmC.at
 omega
set_option maxHeartbeats 8000000 in
set_option maxRecDepth 100000 in
theorem common_miss (c : CmC) (hF : c.Fix) (i j : Nat) (w : World) (hI : c.Inv w) (hi : i < c.a.length) (hj : j < c.b.length) (f : Int → Int → Option Value) (hmf : MapFn w c.mb f) (hv : f i j = none)
  (ih : ∀ i' j' w', i ≤ i' → j ≤ j' → i + j < i' + j' → i' ≤ c.a.length → j' ≤ c.b.length → c.Inv w' → c.Says i' j' w') : c.Says i j w := by
 unfold CmC.Says
 have hla := hF.la
 have hlb := hF.lb
 have hf0 : Fr0 w (w.alloc (.cells #[.int .i64 (i : Int), .int .i64 (j : Int)] 92)) := (Fr.refl _ _).alloc _
 have c0 : Bx (w.alloc (.cells #[.int .i64 (i : Int), .int .i64 (j : Int)] 92)) w.heap.size 92 #[.int .i64 (i : Int), .int .i64 (j : Int)] := Bx.of_new rfl
 have HI := Lib.hid (hI.step0 hf0)
 have hlk : (Instr.lookup 122 (.map (some c.mb)) (.agg #[.int .i64 (i : Int), .int .i64 (j : Int)]) true).run Tryd.prog (w.alloc (.cells #[.int .i64 (i : Int), .int .i64 (j : Int)] 92)) = .ok (.tuple #[.int .i64 0, .bool false]) (w.alloc (.cells #[.int .i64 (i : Int), .int .i64 (j : Int)] 92)) := by
  have hm2 := hmf.same (hf0.block _ hmf.lt (fun h => h))
  have := lookup_k2 key92 Tryd.underlying122 zero3 hm2 (i : Int) (j : Int)
  rw [hv] at this
  exact this
 have b1 : ((i : Int) == (c.a.length : Int)) = false := by simpa using (show ¬ (i : Int) = c.a.length by omega)
 have b2 : ((j : Int) == (c.b.length : Int)) = false := by simpa using (show ¬ (j : Int) = c.b.length by omega)
 have HNE := Lib.hid (show w.heap.size ≠ c.mb by have := hmf.lt; omega)
 have HFX := Lib.hid hF
 have A1 := Lib.hid (fun W' (hW : c.Inv W') => show Calls Tryd.prog 94 #[.agg #[.int .i64 (wrap64 ((i : Int) + 1)), .int .i64 (j : Int)], .pointer (some ⟨c.ba, 0, none⟩), .pointer (some ⟨c.bb, 0, none⟩), .pointer (some ⟨c.bm, 0, none⟩), .pointer (some ⟨c.bf, 0, none⟩)] W' fun e w' => e = .returned (.int .i64 (c.at (i + 1) j)) ∧ c.Memo w' ∧ Fr (· = c.mb) W' w' by
  rw [w64 (by omega) (by omega)]; exact ih (i + 1) j W' (by omega) (by omega) (by omega) (by omega) (by omega) hW)
 have A2 := Lib.hid (fun W' (hW : c.Inv W') => show Calls Tryd.prog 94 #[.agg #[.int .i64 (i : Int), .int .i64 (wrap64 ((j : Int) + 1))], .pointer (some ⟨c.ba, 0, none⟩), .pointer (some ⟨c.bb, 0, none⟩), .pointer (some ⟨c.bm, 0, none⟩), .pointer (some ⟨c.bf, 0, none⟩)] W' fun e w' => e = .returned (.int .i64 (c.at i (j + 1))) ∧ c.Memo w' ∧ Fr (· = c.mb) W' w' by
  rw [w64 (by omega) (by omega)]; exact ih i (j + 1) W' (by omega) (by omega) (by omega) (by omega) (by omega) hW)
 have A3 := Lib.hid (fun W' (hW : c.Inv W') => show Calls Tryd.prog 94 #[.agg #[.int .i64 ((i : Int) + 1), .int .i64 ((j : Int) + 1)], .pointer (some ⟨c.ba, 0, none⟩), .pointer (some ⟨c.bb, 0, none⟩), .pointer (some ⟨c.bm, 0, none⟩), .pointer (some ⟨c.bf, 0, none⟩)] W' fun e w' => e = .returned (.int .i64 (c.at (i + 1) (j + 1))) ∧ c.Memo w' ∧ Fr (· = c.mb) W' w' from
  ih (i + 1) (j + 1) W' (by omega) (by omega) (by omega) (by omega) (by omega) hW)
 have HST := Lib.hid (c.at_step i j hi hj)
 have hb3 := c.at_bnd hF (i + 1) (j + 1)
 clear hI hv hmf ih hF
 generalize hRe : c.at i j = R at *
 have HRE := Lib.hid hRe
 clear hRe
 generalize c.at (i + 1) j = R1 at *
 generalize c.at i (j + 1) = R2 at *
 generalize c.at (i + 1) (j + 1) = R3 at *
 go_enter Tryd.func94, Tryd.ntmps94
 go_upto_region 1 with fail
 generalize hW : w.alloc (.cells #[.int .i64 (i : Int), .int .i64 (j : Int)] 92) = W at hf0 c0 HI hlk ⊢
 clear hW
 generalize w.heap.size = b5 at c0 HNE ⊢
 have y0 := c0.at_ 0 (v := .int .i64 (i : Int)) rfl
 have y1 := c0.at_ 1 (v := .int .i64 (j : Int)) rfl
 have va := HI.out.va
 have vb := HI.out.vb
 have vm := HI.out.vm
 have HFR := Lib.hid hf0
 have HC0 := Lib.hid c0
 clear c0 hf0
 go_upto_region 6 with fail
 have vf := HI.out.vf
 clear va vb vm hlk
 refine start_ (n := 19) (S := fun w' => w'.cell? ⟨c.bf, 0, none⟩ = some (.func (.func 94) #[] #[.pointer (some ⟨c.ba, 0, none⟩), .pointer (some ⟨c.bb, 0, none⟩), .pointer (some ⟨c.bm, 0, none⟩), .pointer (some ⟨c.bf, 0, none⟩)]) ∧ w'.cell? ⟨b5, 0, none⟩ = some (.int .i64 (i : Int)) ∧ w'.cell? ⟨b5, 1, none⟩ = some (.int .i64 (j : Int))) (ds := []) (.replicate 19 false) (by kernel_rfl) rfl rfl ⟨vf, y0, y1⟩ (fun hHeld => ?_)
 refine pu 1 31 (bt 19 2) (k := ?_)
 refine pu 4 34 (bt 19 18) (k := ?_)
 refine pu 9 39 (bt 19 530) (k := ?_)
 refine pu 11 41 (bt 19 2578) (k := ?_)
 refine tk3 0 30 (bt 19 2579) hHeld (k := ?_)
 refine tk3 2 32 (bt 19 2583) hHeld (k := ?_)
 refine pu 3 33 (bt 19 2591) (k := ?_)
 refine tk3 5 35 (bt 19 2623) hHeld (k := ?_)
 refine pu 6 36 (bt 19 2687) (k := ?_)
 refine tk3 8 38 (bt 19 2943) hHeld (k := ?_)
 refine tk3 10 40 (bt 19 3967) hHeld (k := ?_)
 refine tk3 12 42 (bt 19 8063) hHeld (k := ?_)
 refine pu 13 43 (bt 19 16255) (k := ?_)
 refine pu 14 44 (bt 19 32639) (k := ?_)
 refine oN 7 37 (bt 19 32767) (h := fun K hK => ?_)
 refine call_ 94 #[.agg #[.int .i64 (wrap64 ((i : Int) + 1)), .int .i64 (j : Int)], .pointer (some ⟨c.ba, 0, none⟩), .pointer (some ⟨c.bb, 0, none⟩), .pointer (some ⟨c.bm, 0, none⟩), .pointer (some ⟨c.bf, 0, none⟩)] (by rfl) rfl ?_ ?_
 ·unfold execOp
  simp [resolve, Deferred.ofValue, invoke, Act.eval, ef94]
 refine (A1.out _ (HI.out.step0 (Fr.drew (Fr.refl _ W)))).mono ?_
 rintro e w7 ⟨rfl, hm7, hf7⟩
 have HF7 := Lib.hid (Fr.trans (Fr.drew (Fr.refl _ W)) hf7)
 have HI7 := Lib.hid (HI.out.step HFX.out HF7.out hm7)
 refine ⟨_, rfl, ?_⟩
 refine hK.out _ _ ⟨HI7.out.vf, (HF7.out.cell y0 HNE.out), (HF7.out.cell y1 HNE.out)⟩ (fun hHeld => ?_)
 clear hK K
 refine norm_ (a' := ?_) ?_ ?_
 rotate_left
 ·show Act.put _ (some 37) _ = _
  simp only [Act.put, lA, lZ, lS, i64_w, i32_w]
  rfl
 refine oN 15 45 (bt 19 65535) (h := fun K hK => ?_)
 refine call_ 94 #[.agg #[.int .i64 (i : Int), .int .i64 (wrap64 ((j : Int) + 1))], .pointer (some ⟨c.ba, 0, none⟩), .pointer (some ⟨c.bb, 0, none⟩), .pointer (some ⟨c.bm, 0, none⟩), .pointer (some ⟨c.bf, 0, none⟩)] (by rfl) rfl ?_ ?_
 ·unfold execOp
  simp [resolve, Deferred.ofValue, invoke, Act.eval, ef94]
 refine (A2.out _ HI7.out).mono ?_
 rintro e w15 ⟨rfl, hm15, hf15⟩
 have HF15 := Lib.hid (Fr.trans HF7.out hf15)
 have HI15 := Lib.hid (HI7.out.step HFX.out hf15 hm15)
 refine ⟨_, rfl, ?_⟩
 refine hK.out _ _ ⟨HI15.out.vf, (HF15.out.cell y0 HNE.out), (HF15.out.cell y1 HNE.out)⟩ (fun hHeld => ?_)
 clear hK K
 refine norm_ (a' := ?_) ?_ ?_
 rotate_left
 ·show Act.put _ (some 45) _ = _
  simp only [Act.put, lA, lZ, lS, i64_w, i32_w]
  rfl
 refine oN 16 46 (bt 19 131071) (h := fun K hK => ?_)
 refine value_ (w1 := ?_) (v := ?_) (by rfl) rfl ?_ ?_
 rotate_left 2
 ·go_simp
  constructor
  ·rfl
  ·rfl
 refine hK.out _ _ ⟨((HI15.out.step0 ((Fr.refl _ _).alloc _)).vf), (((HF15.out.alloc _).cell y0 HNE.out)), (((HF15.out.alloc _).cell y1 HNE.out))⟩ (fun hHeld => ?_)
 clear hK K
 refine norm_ (a' := ?_) ?_ ?_
 rotate_left
 ·show Act.put _ (some 46) _ = _
  simp only [Act.put, lA, lZ, lS, i64_w, i32_w]
  rfl
 refine oN 17 47 (bt 19 262143) (h := fun K hK => ?_)
 refine goes_ Tryd.func75 (by kernel_rfl) rfl #[.int .i64 R1, .slice (some ⟨w15.heap.size, 0, none⟩) 1 1] (by rfl) rfl rfl TN ?_
 with_reducible refine (great75 R1 R2 w15).mono ?_
 rintro e w17 ⟨rfl, hf17⟩
 refine ⟨_, rfl, ?_⟩
 have HF17 := Lib.hid ((HF15.out.alloc _).step0 hf17)
 have HI17 := Lib.hid (HI15.out.step0 (Fr0.trans ((Fr.refl _ _).alloc _) hf17))
 refine hK.out _ _ ⟨HI17.out.vf, (HF17.out.cell y0 HNE.out), (HF17.out.cell y1 HNE.out)⟩ (fun hHeld => ?_)
 clear hK K
 refine norm_ (a' := ?_) ?_ ?_
 rotate_left
 ·show Act.put _ (some 47) _ = _
  simp only [Act.put, lA, lZ, lS, i64_w, i32_w]
  rfl
 refine pu 18 9 (bt 19 524287) (k := ?_)
 refine done_ (by kernel_rfl) ?_
 have HY0 := Lib.hid y0
 have HY1 := Lib.hid y1
 go_upto_region 7 with fail
 obtain ⟨ada, ea, xa⟩ := Kd.at_int (Kd.C_below HFX.out.ra HI17.out.base) (i : Int) (by omega) (by omega)
 obtain ⟨adb, eb, xb⟩ := Kd.at_int (Kd.C_below HFX.out.rb HI17.out.base) (j : Int) (by omega) (by omega)
 rw [Int.toNat_natCast] at xa xb
 change _ = some (Value.int .i64 (c.a.getD i 0)) at xa
 change _ = some (Value.int .i64 (c.b.getD j 0)) at xb
 have va := HI17.out.va
 have vb := HI17.out.vb
 rw [ea] at va
 rw [eb] at vb
 have z0 := HF17.out.cell y0 HNE.out
 have z1 := HF17.out.cell y1 HNE.out
 have HEA := Lib.hid ea
 have HEB := Lib.hid eb
 clear ea eb y0 y1 vf
 generalize c.a.getD i 0 = p at *
 generalize c.b.getD j 0 = q at *
 have hia : (i : Int) < c.a.length := by omega
 have hjb : (j : Int) < c.b.length := by omega
 refine start_ (n := 11) (S := fun w' => w'.cell? ⟨c.ba, 0, none⟩ = some (.slice (some ada) c.a.length c.ca) ∧ w'.cell? ⟨c.bb, 0, none⟩ = some (.slice (some adb) c.b.length c.cb) ∧ w'.cell? ⟨b5, 0, none⟩ = some (.int .i64 (i : Int)) ∧ w'.cell? ⟨b5, 1, none⟩ = some (.int .i64 (j : Int)) ∧ w'.cell? (ada.add i) = some (.int .i64 p) ∧ w'.cell? (adb.add j) = some (.int .i64 q)) (ds := []) (.replicate 11 false) (by kernel_rfl) rfl rfl ⟨va, vb, z0, z1, xa, xb⟩ (fun hHeld => ?_)
 refine pu 1 49 (bt 11 2) (k := ?_)
 refine pu 6 54 (bt 11 66) (k := ?_)
 refine tk6 0 48 (bt 11 67) hHeld (k := ?_)
 refine tk6 2 50 (bt 11 71) hHeld (k := ?_)
 refine pu 3 51 (bt 11 79) (k := ?_)
 refine tk6 4 52 (bt 11 95) hHeld (k := ?_)
 refine tk6 5 53 (bt 11 127) hHeld (k := ?_)
 refine tk6 7 55 (bt 11 255) hHeld (k := ?_)
 refine pu 8 56 (bt 11 511) (k := ?_)
 refine tk6 9 57 (bt 11 1023) hHeld (k := ?_)
 refine pu 10 58 (bt 11 2047) (k := ?_)
 refine done_ (by kernel_rfl) ?_
 have HFD := Lib.hid (Fr.drew HF17.out)
 have HID := Lib.hid (HI17.out.step0 (Fr.drew (Fr.refl _ w17)))
 clear va vb z0 z1 xa xb
 by_cases hpq : p = q
 ·have b3 : (p == q) = true := by simpa using hpq
  have HVAL := Lib.hid (show R = max R1 (max R2 (1 + R3)) by rw [HST.out, if_pos hpq]; omega)
  clear hpq
  have u0 := HFD.out.cell HY0.out HNE.out
  have u1 := HFD.out.cell HY1.out HNE.out
  have uf := HID.out.vf
  obtain ⟨h30, h31⟩ := hb3
  go_upto_region 9 with (first
   | (go_at_call 94; refine (A3.out _ HID.out).mono ?_; rintro e w18 ⟨rfl, hm18, hf18⟩; (have HF18 := Lib.hid (Fr.trans HFD.out hf18)); (have HI18 := Lib.hid (HID.out.step HFX.out hf18 hm18)); clear hm18 hf18)
   | (go_at_call 75; refine (great75 (max R1 R2) (1 + R3) w18).mono ?_; rintro e w19 ⟨rfl, hf19⟩; (have HF19 := Lib.hid ((HF18.out.alloc _).step0 hf19)); (have HI19 := Lib.hid (HI18.out.step0 (Fr0.trans ((Fr.refl _ _).alloc _) hf19))); clear hf19))
  clear u0 u1 uf
  have v9 := HI19.out.vm
  have y0 := HF19.out.cell HY0.out HNE.out
  have y1 := HF19.out.cell HY1.out HNE.out
  obtain ⟨f', hmf', hfv'⟩ := HI19.out.memo
  obtain ⟨o, hoc, hom, hru, hmfu⟩ := update_k2 key92 Tryd.underlying122 hmf' (i : Int) (j : Int) (.int .i64 (max R1 (max R2 (1 + R3))))
  have HM := Lib.hid (show c.Memo (World.putObj _ c.mb o) from ⟨_, hmfu, fun i' j' v h => by
   by_cases e : (i' : Int) = i ∧ (j' : Int) = j
   ·rw [if_pos e] at h
    obtain ⟨e1, e2⟩ := e
    obtain rfl : i' = i := by omega
    obtain rfl : j' = j := by omega
    cases h
    rw [HRE.out, HVAL.out]
   ·rw [if_neg e] at h
    exact hfv' i' j' v h⟩)
  have HPF := Lib.hid (HF19.out.putObj (.inl rfl) o)
  unfold k2 at hru
  clear hmfu hfv' hmf' hom hoc
  go_wp2
  refine bodyPost_ret (v := .int .i64 (max R1 (max R2 (1 + R3)))) (by simp [results, Tryd.results94, go_sem]) rfl ⟨by rw [HVAL.out], HM.out, (Fr.of0 HFR.out).trans HPF.out⟩
 ·have b3 : (p == q) = false := by simpa using hpq
  have HVAL := Lib.hid (show R = max R1 R2 by rw [HST.out, if_neg hpq])
  clear hpq
  go_upto_region 9 with fail
  have v9 := HID.out.vm
  have y0 := HFD.out.cell HY0.out HNE.out
  have y1 := HFD.out.cell HY1.out HNE.out
  obtain ⟨f', hmf', hfv'⟩ := HID.out.memo
  obtain ⟨o, hoc, hom, hru, hmfu⟩ := update_k2 key92 Tryd.underlying122 hmf' (i : Int) (j : Int) (.int .i64 (max R1 R2))
  have HM := Lib.hid (show c.Memo (World.putObj _ c.mb o) from ⟨_, hmfu, fun i' j' v h => by
   by_cases e : (i' : Int) = i ∧ (j' : Int) = j
   ·rw [if_pos e] at h
    obtain ⟨e1, e2⟩ := e
    obtain rfl : i' = i := by omega
    obtain rfl : j' = j := by omega
    cases h
    rw [HRE.out, HVAL.out]
   ·rw [if_neg e] at h
    exact hfv' i' j' v h⟩)
  have HPF := Lib.hid (HFD.out.putObj (.inl rfl) o)
  unfold k2 at hru
  clear hmfu hfv' hmf' hom hoc
  go_wp2
  refine bodyPost_ret (v := .int .i64 (max R1 R2)) (by simp [results, Tryd.results94, go_sem]) rfl ⟨by rw [HVAL.out], HM.out, (Fr.of0 HFR.out).trans HPF.out⟩
/-- What the closure tells of any two places. -/
theorem common_any (c : CmC) (hF : c.Fix) : ∀ (n i j : Nat) (w : World), c.a.length + c.b.length < n + (i + j) → i ≤ c.a.length → j ≤ c.b.length → c.Inv w → c.Says i j w
 | 0, i, j, w, h, hi, hj, hI => by omega
 | n + 1, i, j, w, h, hi, hj, hI => by
  by_cases he : i = c.a.length ∨ j = c.b.length
  ·exact common_end c hF i j w hI hi hj he
  ·have hi' : i < c.a.length := by omega
   have hj' : j < c.b.length := by omega
   obtain ⟨f, hmf, hv⟩ := hI.memo
   cases hfo : f i j with
   | none => exact common_miss c hF i j w hI hi' hj' f hmf hfo (fun i' j' w' a1 a2 a3 a4 a5 hI' => common_any c hF n i' j' w' (by omega) a4 a5 hI')
   | some v => exact common_hit c hF i j w hI hi' hj' f hmf (by rw [hfo, hv _ _ _ hfo])
end Go.Proofs.YtfdenclnneigfaaDoor.R
namespace Go.Proofs.YtfdenclnneigfaaDoor.R
open Go.RowKit Go.Shelf Go.Proofs.YtfdenclnneigfaaDoorW.PrintWords Go.Proofs.YtfdenclnneigfaaDoorW.PrintLast Go.Proofs.YtfdenclnneigfaaDoor.PRaspKeys Go.Proofs.YtfdenclnneigfaaDoor.X Go.Proofs.YtfdenclnneigfaaDoor.M
attribute [local go_sem] Oper.semAt_some
theorem mk122 (W : World) : (Instr.makeMap 122 none).run Tryd.prog W = .ok (.map (some W.heap.size)) (W.alloc (.map #[] 0)) := by
 unfold Instr.makeMap
 simp only [Sem.run_bind, run_underlying Tryd.underlying122, Result.andThen_ok]
 rfl
set_option maxHeartbeats 4000000 in
set_option maxRecDepth 100000 in
theorem common72 (a b : List Int) (Aa : Option Addr) (ca : Nat) (Ab : Option Addr) (cb : Nat) (w : World) (ra : Kd.C (Kd.int .i64) w Aa a.length a) (rb : Kd.C (Kd.int .i64) w Ab b.length b) (la : a.length ≤ 24) (lb : b.length ≤ 24) :
  Calls Tryd.prog 72 #[.slice Aa a.length ca, .slice Ab b.length cb] w fun e w' => e = .returned (.int .i64 (H.lcs a b)) ∧ Fr0 w w' := by
 have hmk := mk122
 have HR := Lib.hid (And.intro ra rb)
 clear ra rb
 go_enter Tryd.func72, Tryd.ntmps72
 go_upto_region 4 with fail
 have hf0 : Fr0 w (((((w.alloc (.cells #[.slice Aa a.length ca] 28)).alloc (.cells #[.slice Ab b.length cb] 28)).alloc (.map #[] 0)).alloc (.cells #[.map (some (w.heap.size + 1 + 1))] 122)).alloc (.cells #[.func (.func 94) #[] #[.pointer (some ⟨w.heap.size, 0, none⟩), .pointer (some ⟨w.heap.size + 1, 0, none⟩), .pointer (some ⟨w.heap.size + 1 + 1 + 1, 0, none⟩), .pointer (some ⟨w.heap.size + 1 + 1 + 1 + 1, 0, none⟩)]] 123)) := ((((((Fr.refl _ w).alloc _).alloc _).alloc _).alloc _).alloc _)
 have ca_ : Bx (((((w.alloc (.cells #[.slice Aa a.length ca] 28)).alloc (.cells #[.slice Ab b.length cb] 28)).alloc (.map #[] 0)).alloc (.cells #[.map (some (w.heap.size + 1 + 1))] 122)).alloc (.cells #[.func (.func 94) #[] #[.pointer (some ⟨w.heap.size, 0, none⟩), .pointer (some ⟨w.heap.size + 1, 0, none⟩), .pointer (some ⟨w.heap.size + 1 + 1 + 1, 0, none⟩), .pointer (some ⟨w.heap.size + 1 + 1 + 1 + 1, 0, none⟩)]] 123)) w.heap.size 28 #[.slice Aa a.length ca] := (((((Bx.of_new rfl).alloc _).alloc _).alloc _).alloc _)
 have cb_ : Bx (((((w.alloc (.cells #[.slice Aa a.length ca] 28)).alloc (.cells #[.slice Ab b.length cb] 28)).alloc (.map #[] 0)).alloc (.cells #[.map (some (w.heap.size + 1 + 1))] 122)).alloc (.cells #[.func (.func 94) #[] #[.pointer (some ⟨w.heap.size, 0, none⟩), .pointer (some ⟨w.heap.size + 1, 0, none⟩), .pointer (some ⟨w.heap.size + 1 + 1 + 1, 0, none⟩), .pointer (some ⟨w.heap.size + 1 + 1 + 1 + 1, 0, none⟩)]] 123)) (w.heap.size + 1) 28 #[.slice Ab b.length cb] := ((((Bx.of_new (by simp)).alloc _).alloc _).alloc _)
 have cm_ : Bx (((((w.alloc (.cells #[.slice Aa a.length ca] 28)).alloc (.cells #[.slice Ab b.length cb] 28)).alloc (.map #[] 0)).alloc (.cells #[.map (some (w.heap.size + 1 + 1))] 122)).alloc (.cells #[.func (.func 94) #[] #[.pointer (some ⟨w.heap.size, 0, none⟩), .pointer (some ⟨w.heap.size + 1, 0, none⟩), .pointer (some ⟨w.heap.size + 1 + 1 + 1, 0, none⟩), .pointer (some ⟨w.heap.size + 1 + 1 + 1 + 1, 0, none⟩)]] 123)) (w.heap.size + 1 + 1 + 1) 122 #[.map (some (w.heap.size + 1 + 1))] := ((Bx.of_new (by simp)).alloc _)
 have cf_ : Bx (((((w.alloc (.cells #[.slice Aa a.length ca] 28)).alloc (.cells #[.slice Ab b.length cb] 28)).alloc (.map #[] 0)).alloc (.cells #[.map (some (w.heap.size + 1 + 1))] 122)).alloc (.cells #[.func (.func 94) #[] #[.pointer (some ⟨w.heap.size, 0, none⟩), .pointer (some ⟨w.heap.size + 1, 0, none⟩), .pointer (some ⟨w.heap.size + 1 + 1 + 1, 0, none⟩), .pointer (some ⟨w.heap.size + 1 + 1 + 1 + 1, 0, none⟩)]] 123)) (w.heap.size + 1 + 1 + 1 + 1) 123 #[.func (.func 94) #[] #[.pointer (some ⟨w.heap.size, 0, none⟩), .pointer (some ⟨w.heap.size + 1, 0, none⟩), .pointer (some ⟨w.heap.size + 1 + 1 + 1, 0, none⟩), .pointer (some ⟨w.heap.size + 1 + 1 + 1 + 1, 0, none⟩)]] := Bx.of_new (by simp)
 have hm : MapFn (((((w.alloc (.cells #[.slice Aa a.length ca] 28)).alloc (.cells #[.slice Ab b.length cb] 28)).alloc (.map #[] 0)).alloc (.cells #[.map (some (w.heap.size + 1 + 1))] 122)).alloc (.cells #[.func (.func 94) #[] #[.pointer (some ⟨w.heap.size, 0, none⟩), .pointer (some ⟨w.heap.size + 1, 0, none⟩), .pointer (some ⟨w.heap.size + 1 + 1 + 1, 0, none⟩), .pointer (some ⟨w.heap.size + 1 + 1 + 1 + 1, 0, none⟩)]] 123)) (w.heap.size + 1 + 1) (fun _ _ => none) := by
  have h0 := MapFn.new ((w.alloc (.cells #[.slice Aa a.length ca] 28)).alloc (.cells #[.slice Ab b.length cb] 28))
  have e : ((w.alloc (.cells #[.slice Aa a.length ca] 28)).alloc (.cells #[.slice Ab b.length cb] 28)).heap.size = w.heap.size + 1 + 1 := by simp
  rw [e] at h0
  have hf : Fr0 (((w.alloc (.cells #[.slice Aa a.length ca] 28)).alloc (.cells #[.slice Ab b.length cb] 28)).alloc (.map #[] 0)) (((((w.alloc (.cells #[.slice Aa a.length ca] 28)).alloc (.cells #[.slice Ab b.length cb] 28)).alloc (.map #[] 0)).alloc (.cells #[.map (some (w.heap.size + 1 + 1))] 122)).alloc (.cells #[.func (.func 94) #[] #[.pointer (some ⟨w.heap.size, 0, none⟩), .pointer (some ⟨w.heap.size + 1, 0, none⟩), .pointer (some ⟨w.heap.size + 1 + 1 + 1, 0, none⟩), .pointer (some ⟨w.heap.size + 1 + 1 + 1 + 1, 0, none⟩)]] 123)) := (((Fr.refl _ _).alloc _).alloc _)
  exact h0.same (hf.block _ h0.lt (fun h => h))
 obtain ⟨c, hc⟩ : ∃ c : CmC, c = ⟨w, a, b, Aa, ca, Ab, cb, w.heap.size, w.heap.size + 1, w.heap.size + 1 + 1 + 1, w.heap.size + 1 + 1 + 1 + 1, w.heap.size + 1 + 1⟩ := ⟨_, rfl⟩
 have hF : c.Fix := by
  subst hc
  exact ⟨HR.out.1, HR.out.2, la, lb, by show w.heap.size ≤ w.heap.size + 1 + 1; omega⟩
 have hI : c.Inv (((((w.alloc (.cells #[.slice Aa a.length ca] 28)).alloc (.cells #[.slice Ab b.length cb] 28)).alloc (.map #[] 0)).alloc (.cells #[.map (some (w.heap.size + 1 + 1))] 122)).alloc (.cells #[.func (.func 94) #[] #[.pointer (some ⟨w.heap.size, 0, none⟩), .pointer (some ⟨w.heap.size + 1, 0, none⟩), .pointer (some ⟨w.heap.size + 1 + 1 + 1, 0, none⟩), .pointer (some ⟨w.heap.size + 1 + 1 + 1 + 1, 0, none⟩)]] 123)) := by
  subst hc
  exact ⟨hf0.below (Nat.le_refl _) (fun _ _ h => h), ca_.at_ 0 rfl, cb_.at_ 0 rfl, cm_.at_ 0 rfl, cf_.at_ 0 rfl, ⟨_, hm, fun i j v h => by cases h⟩⟩
 have hS := common_any c hF (a.length + b.length + 1) 0 0 _ (by subst hc; show a.length + b.length < _; omega) (by omega) (by omega) hI
 have HS := Lib.hid (show Calls Tryd.prog 94 #[.agg #[.int .i64 0, .int .i64 0], .pointer (some ⟨w.heap.size, 0, none⟩), .pointer (some ⟨w.heap.size + 1, 0, none⟩), .pointer (some ⟨w.heap.size + 1 + 1 + 1, 0, none⟩), .pointer (some ⟨w.heap.size + 1 + 1 + 1 + 1, 0, none⟩)] (((((w.alloc (.cells #[.slice Aa a.length ca] 28)).alloc (.cells #[.slice Ab b.length cb] 28)).alloc (.map #[] 0)).alloc (.cells #[.map (some (w.heap.size + 1 + 1))] 122)).alloc (.cells #[.func (.func 94) #[] #[.pointer (some ⟨w.heap.size, 0, none⟩), .pointer (some ⟨w.heap.size + 1, 0, none⟩), .pointer (some ⟨w.heap.size + 1 + 1 + 1, 0, none⟩), .pointer (some ⟨w.heap.size + 1 + 1 + 1 + 1, 0, none⟩)]] 123)) fun e w' => e = .returned (.int .i64 (H.lcs a b)) ∧ Fr (fun k => k = w.heap.size + 1 + 1) (((((w.alloc (.cells #[.slice Aa a.length ca] 28)).alloc (.cells #[.slice Ab b.length cb] 28)).alloc (.map #[] 0)).alloc (.cells #[.map (some (w.heap.size + 1 + 1))] 122)).alloc (.cells #[.func (.func 94) #[] #[.pointer (some ⟨w.heap.size, 0, none⟩), .pointer (some ⟨w.heap.size + 1, 0, none⟩), .pointer (some ⟨w.heap.size + 1 + 1 + 1, 0, none⟩), .pointer (some ⟨w.heap.size + 1 + 1 + 1 + 1, 0, none⟩)]] 123)) w' by
  subst hc
  exact hS.mono fun e w' h => ⟨h.1, h.2.2⟩)
 have vf := cf_.at_ 0 (v := .func (.func 94) #[] #[.pointer (some ⟨w.heap.size, 0, none⟩), .pointer (some ⟨w.heap.size + 1, 0, none⟩), .pointer (some ⟨w.heap.size + 1 + 1 + 1, 0, none⟩), .pointer (some ⟨w.heap.size + 1 + 1 + 1 + 1, 0, none⟩)]) rfl
 have HF0 := Lib.hid hf0
 clear hf0 ca_ cb_ cm_ cf_ hm hF hI hS hc hmk
 generalize hW : (((((w.alloc (.cells #[.slice Aa a.length ca] 28)).alloc (.cells #[.slice Ab b.length cb] 28)).alloc (.map #[] 0)).alloc (.cells #[.map (some (w.heap.size + 1 + 1))] 122)).alloc (.cells #[.func (.func 94) #[] #[.pointer (some ⟨w.heap.size, 0, none⟩), .pointer (some ⟨w.heap.size + 1, 0, none⟩), .pointer (some ⟨w.heap.size + 1 + 1 + 1, 0, none⟩), .pointer (some ⟨w.heap.size + 1 + 1 + 1 + 1, 0, none⟩)]] 123)) = W at HF0 HS vf ⊢
 clear hW
 go_wp2_with (go_at_call 94; refine HS.out.mono ?_; rintro e W1 ⟨rfl, hf1⟩)
 refine bodyPost_ret (v := .int .i64 (H.lcs a b)) (by simp [results, Tryd.results72, go_sem]) rfl ⟨rfl, HF0.out.step hf1 (fun k hk e => by have e : k = w.heap.size + 1 + 1 := e; omega)⟩
end Go.Proofs.YtfdenclnneigfaaDoor.R
