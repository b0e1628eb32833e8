import Derived.Test.YtfdenclnneigfaaDoorGD
import Derived.Test.YtfdenclnneigfaaDoorS30
import Derived.Test.YtfdenclnneigfaaDoorM0
set_option linter.unusedVariables false
set_option linter.unusedSimpArgs false
namespace Go.Proofs.YtfdenclnneigfaaDoor.R
open Go.RowKit Go.Shelf Go.Proofs.YtfdenclnneigfaaDoorW.PrintWords Go.Proofs.YtfdenclnneigfaaDoorW.PrintLast Go.Proofs.YtfdenclnneigfaaDoor.PRaspKeys Go.Proofs.YtfdenclnneigfaaDoor.X Go.Proofs.YtfdenclnneigfaaDoor.M
attribute [local go_sem] Oper.semAt_some
/-! ### Strokes -/
def mayAt (which : Int) (kk : Nat) (k s : Nat) : Bool := decide ((k : Int) ≠ which) || decide ((s : Int) = kk)
theorem by64 (bw bk : Nat) (which : Int) (kk k s : Nat) (w : World) (h1 : w.cell? ⟨bw, 0, none⟩ = some (.int .i64 which)) (h2 : w.cell? ⟨bk, 0, none⟩ = some (.int .i64 (kk : Int))) :
  Calls Tryd.prog 64 #[.agg #[.int .i64 (k : Int), .int .i64 (s : Int)], .pointer (some ⟨bw, 0, none⟩), .pointer (some ⟨bk, 0, none⟩)] w fun e w' => e = .returned (.bool (mayAt which kk k s)) ∧ Fr0 w w' := by
 have hf0 : Fr0 w (w.alloc (.cells #[.int .i64 (k : Int), .int .i64 (s : Int)] 92)) := (Fr.refl _ _).alloc _
 have c0 : Bx (w.alloc (.cells #[.int .i64 (k : Int), .int .i64 (s : Int)] 92)) w.heap.size 92 #[.int .i64 (k : Int), .int .i64 (s : Int)] := Bx.of_new rfl
 have h1 := hf0.cell0 h1
 have h2 := hf0.cell0 h2
 unfold mayAt
 by_cases hk : (k : Int) = which
 ·have e1 : ((k : Int) != which) = false := by simpa using hk
  have HV := Lib.hid (show (decide ((k : Int) ≠ which) || decide ((s : Int) = kk)) = ((s : Int) == (kk : Int)) by rw [decide_eq_false (fun h => h hk), Bool.false_or]; rfl)
  rw [HV.out]
  clear hk HV
  go_enter Tryd.func64, Tryd.ntmps64
  go_upto_region 1 with fail
  have HF := Lib.hid hf0
  generalize w.alloc (.cells #[.int .i64 (k : Int), .int .i64 (s : Int)] 92) = W at h1 h2 c0 HF ⊢
  have y0 := c0.at_ 0 (v := .int .i64 (k : Int)) rfl
  have y1 := c0.at_ 1 (v := .int .i64 (s : Int)) rfl
  clear c0 hf0
  go_wp2
  refine bodyPost_ret (v := .bool ((s : Int) == (kk : Int))) (by simp [results, Tryd.results64, go_sem]) rfl ⟨rfl, HF.out⟩
 ·have e1 : ((k : Int) != which) = true := by simpa using hk
  have HV := Lib.hid (show (decide ((k : Int) ≠ which) || decide ((s : Int) = kk)) = true by rw [decide_eq_true hk, Bool.true_or])
  rw [HV.out]
  clear hk HV
  go_enter Tryd.func64, Tryd.ntmps64
  go_upto_region 1 with fail
  have HF := Lib.hid hf0
  generalize w.alloc (.cells #[.int .i64 (k : Int), .int .i64 (s : Int)] 92) = W at h1 h2 c0 HF ⊢
  have y0 := c0.at_ 0 (v := .int .i64 (k : Int)) rfl
  have y1 := c0.at_ 1 (v := .int .i64 (s : Int)) rfl
  clear c0 hf0
  go_wp2
  refine bodyPost_ret (v := .bool true) (by simp [results, Tryd.results64, go_sem]) rfl ⟨rfl, HF.out⟩
theorem by64_at {W : World} {bw bk : Nat} {which : Int} {kk : Nat} (h1 : W.cell? ⟨bw, 0, none⟩ = some (.int .i64 which)) (h2 : W.cell? ⟨bk, 0, none⟩ = some (.int .i64 (kk : Int))) : ByAt W 64 #[.pointer (some ⟨bw, 0, none⟩), .pointer (some ⟨bk, 0, none⟩)] (mayAt which kk) :=
 fun W' k s hW => by64 bw bk which kk k s W' ((hW.cell (World.block_lt_of_cell? _ _ h1)).trans h1) ((hW.cell (World.block_lt_of_cell? _ _ h2)).trans h2)
def HC.strB (x : HC) (which : Int) (k : Nat) : Bool := (List.range x.p.length).any (x.begB (mayAt which k) x.lost)
def metH (bg : Nat → Nat → Bool) (pl k f j : Nat) : Bool := if j = k then (List.range f).any (bg k) else decide (j < k) && (List.range pl).any (bg j)
theorem metH_cur (bg : Nat → Nat → Bool) (pl k f : Nat) : metH bg pl k f k = (List.range f).any (bg k) := by unfold metH; rw [if_pos rfl]
theorem metH_step (bg : Nat → Nat → Bool) (pl k f : Nat) : metH bg pl k (f + 1) = fun j => if j = k then (metH bg pl k f k || bg k f) else metH bg pl k f j := by
 funext j
 by_cases h : j = k
 ·subst h
  rw [if_pos rfl, metH_cur, metH_cur, List.range_succ, List.any_append]
  simp
 ·rw [if_neg h]
  unfold metH
  rw [if_neg h, if_neg h]
theorem metH_next (bg : Nat → Nat → Bool) (pl k : Nat) : metH bg pl k pl = metH bg pl (k + 1) 0 := by
 funext j
 unfold metH
 by_cases h : j = k
 ·subst h
  rw [if_pos rfl, if_neg (by omega), decide_eq_true (by omega), Bool.true_and]
 ·by_cases h2 : j = k + 1
  ·subst h2
   rw [if_neg (by omega), if_pos rfl, decide_eq_false (by omega)]
   rfl
  ·rw [if_neg h, if_neg h2]
   by_cases h3 : j < k
   ·rw [decide_eq_true h3, decide_eq_true (by omega)]
   ·rw [decide_eq_false h3, decide_eq_false (by omega)]
theorem metH_0 (bg : Nat → Nat → Bool) (pl : Nat) : metH bg pl 0 0 = fun _ => false := by
 funext j
 unfold metH
 by_cases h : j = 0
 ·rw [if_pos h]; rfl
 ·rw [if_neg h, decide_eq_false (by omega)]; rfl
theorem gw_set (h : Nat → Bool) (k : Nat) (hk : k < 24) (v : Bool) : (gw h).setIfInBounds k (.bool v) = gw (fun j => if j = k then v else h j) := by
 apply Array.ext
 ·simp [gw]
 ·intro i h1 h2
  simp only [gw, List.size_toArray, List.length_map, List.length_range] at h2
  rw [Array.getElem_setIfInBounds]
  ·by_cases e : k = i
   ·subst e; simp [gw]
   ·have e' : ¬ i = k := fun h => e h.symm
    simp [gw, e, e']
  ·simpa [gw] using h2
end Go.Proofs.YtfdenclnneigfaaDoor.R
namespace Go.Proofs.YtfdenclnneigfaaDoor.R
open Go.RowKit Go.Shelf Go.Proofs.YtfdenclnneigfaaDoorW.PrintWords Go.Proofs.YtfdenclnneigfaaDoorW.PrintLast Go.Proofs.YtfdenclnneigfaaDoor.PRaspKeys Go.Proofs.YtfdenclnneigfaaDoor.X Go.Proofs.YtfdenclnneigfaaDoor.M
attribute [local go_sem] Oper.semAt_some
def strL (x : HC) (which : Int) : List Int := lst (metH (fun k => x.begB (mayAt which k) x.lost) x.p.length x.p.length 0) 24
def stroF (g : Int) (l : List S114) (ps : List S62) (piece : Int) (t gs : List Int) (lost wrong which : Int) : List Int × Int :=
 if askE g l ps (okAsk ps piece t gs lost wrong) = 0 then (if isIn which 0 ((t.length : Int) - 1) = true then (strL (HC.mk g none 0 l none 0 ps piece none 0 t none 0 gs lost wrong) which, 0) else ([], 91)) else ([], askE g l ps (okAsk ps piece t gs lost wrong))
set_option maxRecDepth 100000 in
theorem ix_at (bs k : Nat) (hk : (k : Int) < 24) (w : World) : (Instr.indexAt 89 (.pointer (some ⟨bs, 0, none⟩)) (.int .i64 k)).run Tryd.prog w = .ok (.pointer (some ((⟨bs, 0, none⟩ : Addr).add k))) w := by
 have h2 : (asIntOf (.int .i64 (k : Int))).run Tryd.prog w = .ok (.i64, (k : Int)) w := by rfl
 have h3 : (sizeOf 4).run Tryd.prog w = .ok 1 w := by rfl
 unfold Instr.indexAt
 simp only [Sem.run_bind, h2, run_underlying Tryd.underlying89, Result.andThen_ok, Instr.sureAddr, Sem.run_pure]
 rw [if_pos (show (0 : Int) ≤ k ∧ (k : Int) < ((24 : Nat) : Int) by omega)]
 simp only [Sem.run_bind, h3, Result.andThen_ok, Int.toNat_natCast, Nat.mul_one, Sem.run_pure]
theorem add_at (b j : Nat) : (⟨b, 0, none⟩ : Addr).add j = ⟨b, j, none⟩ := by
 unfold Addr.add
 by_cases h0 : j = 0 <;> simp [h0]
theorem frz_fr {w w' : World} {p : Addr} (hf : Fr0 w w') (h : w.frozen? p = false) (hl : p.block < w.heap.size) : w'.frozen? p = false := by
 have := hf.block p.block hl (fun h => h)
 unfold World.frozen? at h ⊢
 rw [this]
 exact h
set_option maxHeartbeats 8000000 in
set_option maxRecDepth 100000 in
theorem strokes26 (g : Int) (A : Option Addr) (c : Nat) (l : List S114) (Ap : Option Addr) (cp : Nat) (ps : List S62) (piece : Int) (At : Option Addr) (ct : Nat) (t : List Int) (Ag : Option Addr) (cg : Nat) (gs : List Int) (lost wrong which : Int) (w : World) (hB : HBook w A c l Ap cp ps) (hN : Note w At ct t Ag cg gs) :
  Calls Tryd.prog 26 #[.agg #[.int .i64 g, .slice A l.length c, .slice Ap ps.length cp], .int .i64 piece, .agg #[.slice At t.length ct, .slice Ag gs.length cg, .int .i64 lost, .int .i64 wrong], .int .i64 which] w fun e w' => ∃ v0, e = .returned (.tuple #[v0, .int .i64 (stroF g l ps piece t gs lost wrong which).2]) ∧ Kd.V (Kd.int .i64) 3 w' w.heap.size (fun k => w.heap.size ≤ k) v0 (stroF g l ps piece t gs lost wrong which).1 ∧ Fr0 w w' := by
 have hf0 : Fr0 w (((w.alloc (.cells #[.int .i64 g, .slice A l.length c, .slice Ap ps.length cp] 27)).alloc (.cells #[.slice At t.length ct, .slice Ag gs.length cg, .int .i64 lost, .int .i64 wrong] 30)).alloc (.cells #[.int .i64 which] 3)) := (((Fr.refl _ _).alloc _).alloc _).alloc _
 have c0 : Bx (((w.alloc (.cells #[.int .i64 g, .slice A l.length c, .slice Ap ps.length cp] 27)).alloc (.cells #[.slice At t.length ct, .slice Ag gs.length cg, .int .i64 lost, .int .i64 wrong] 30)).alloc (.cells #[.int .i64 which] 3)) w.heap.size 27 #[.int .i64 g, .slice A l.length c, .slice Ap ps.length cp] := ((Bx.of_new rfl).alloc _).alloc _
 have d0 : Bx (((w.alloc (.cells #[.int .i64 g, .slice A l.length c, .slice Ap ps.length cp] 27)).alloc (.cells #[.slice At t.length ct, .slice Ag gs.length cg, .int .i64 lost, .int .i64 wrong] 30)).alloc (.cells #[.int .i64 which] 3)) (w.heap.size + 1) 30 #[.slice At t.length ct, .slice Ag gs.length cg, .int .i64 lost, .int .i64 wrong] := (Bx.of_new (by simp)).alloc _
 have e0 : Bx (((w.alloc (.cells #[.int .i64 g, .slice A l.length c, .slice Ap ps.length cp] 27)).alloc (.cells #[.slice At t.length ct, .slice Ag gs.length cg, .int .i64 lost, .int .i64 wrong] 30)).alloc (.cells #[.int .i64 which] 3)) (w.heap.size + 1 + 1) 3 #[.int .i64 which] := Bx.of_new (by simp)
 have HAS := Lib.hid (fun W' (hf : Fr0 w W') => asked_any g A c l Ap cp ps piece At ct t Ag cg gs lost wrong W' (hB.fr hf) (hN.fr hf))
 have htl := C_len hN.rt
 by_cases hE : askE g l ps (okAsk ps piece t gs lost wrong) = 0
 ·obtain ⟨hok, hak⟩ := askE_ok hE
  obtain ⟨x, hx⟩ : ∃ x : HC, x = ⟨g, A, c, l, Ap, cp, ps, piece, At, ct, t, Ag, cg, gs, lost, wrong⟩ := ⟨_, rfl⟩
  have hO : x.Ok w := by subst hx; exact ⟨hB, hN, hok, hak⟩
  have HR := Lib.hid (show stroF g l ps piece t gs lost wrong which = if isIn which 0 ((t.length : Int) - 1) = true then (strL x which, 0) else ([], 91) by unfold stroF; rw [if_pos hE]; subst hx; rfl)
  have hl : 0 ≤ lost ∧ lost ≤ 6 := by have h := hO.facts; subst hx; exact ⟨h.l0, h.l1⟩
  have hpl : x.p.length ≤ 24 := hO.facts.q2
  have ht1 : 1 ≤ t.length := by have h := hO.facts.t1; subst hx; exact h
  have ht2 : t.length ≤ 24 := by have h := hO.facts.t2; subst hx; exact h
  have hxv : x.val = .agg #[.int .i64 g, .slice A l.length c, .slice Ap ps.length cp, .int .i64 piece, .slice At t.length ct, .slice Ag gs.length cg, .int .i64 lost, .int .i64 wrong] := by subst hx; rfl
  have hxl : x.lost = lost := by subst hx; rfl
  have HTO := Lib.hid (fun W' (hW : Below w.heap.size w W') => tones63 x W' (hO.below hW))
  have HBG := Lib.hid (fun W' (hW : Below w.heap.size w W') (bw bk k f : Nat) (hf : f < x.p.length) (h1 : W'.cell? ⟨bw, 0, none⟩ = some (.int .i64 which)) (h2 : W'.cell? ⟨bk, 0, none⟩ = some (.int .i64 (k : Int))) W2 (h12 : Fr0 W' W2) => begins65 x 64 #[.pointer (some ⟨bw, 0, none⟩), .pointer (some ⟨bk, 0, none⟩)] (mayAt which k) lost f W2 ((hO.below hW).fr h12) hf hl.1 (by omega) (fun args w => by kernel_rfl) ((by64_at h1 h2).fr h12))
  rw [hxv] at HTO HBG
  have HSL := Lib.hid (show strL x which = lst (metH (fun k => x.begB (mayAt which k) lost) x.p.length x.p.length 0) 24 by unfold strL; rw [hxl])
  rw [hE, if_pos rfl] at HAS
  unfold hbV hbC at HAS
  generalize strL x which = SL at *
  obtain ⟨bg, hbg⟩ : ∃ bg : Nat → Nat → Bool, bg = fun k => x.begB (mayAt which k) lost := ⟨_, rfl⟩
  have HBG2 := Lib.hid (show ∀ k f, x.begB (mayAt which k) lost f = bg k f from fun k f => by rw [hbg])
  rw [← hbg] at HSL
  obtain ⟨pl, hpe⟩ : ∃ pl, pl = x.p.length := ⟨_, rfl⟩
  rw [← hpe] at HTO HBG HSL hpl
  clear hO hB hN hE hok hak hxv hx hl hxl hbg hpe
  have hIN := hlies which 0 ((t.length : Int) - 1)
  have HIN := Lib.hid hIN
  clear hIN
  generalize isIn which 0 ((t.length : Int) - 1) = IN at *
  generalize hST : stroF g l ps piece t gs lost wrong which = ST at *
  clear hST
  go_enter Tryd.func26, Tryd.ntmps26
  go_upto_region 1 with fail
  generalize hW : (((w.alloc (.cells #[.int .i64 g, .slice A l.length c, .slice Ap ps.length cp] 27)).alloc (.cells #[.slice At t.length ct, .slice Ag gs.length cg, .int .i64 lost, .int .i64 wrong] 30)).alloc (.cells #[.int .i64 which] 3)) = W at hf0 c0 d0 e0 ⊢
  clear hW
  have HWS := Lib.hid (show w.heap.size + 1 + 1 < W.heap.size from e0.lt)
  generalize hbw : w.heap.size = b at c0 d0 e0 HWS ⊢
  have HBW := Lib.hid hbw
  clear hbw
  have v0 := c0.at_ 0 (v := .int .i64 g) rfl
  have v1 := c0.at_ 1 (v := .slice A l.length c) rfl
  have v2 := c0.at_ 2 (v := .slice Ap ps.length cp) rfl
  have y0 := d0.at_ 0 (v := .slice At t.length ct) rfl
  have y1 := d0.at_ 1 (v := .slice Ag gs.length cg) rfl
  have y2 := d0.at_ 2 (v := .int .i64 lost) rfl
  have y3 := d0.at_ 3 (v := .int .i64 wrong) rfl
  have HF := Lib.hid hf0
  have HD := Lib.hid d0
  have HE := Lib.hid e0
  clear c0 d0 e0 hf0
  go_upto_region 4 with (go_at_call 52; refine (HAS.out _ HF.out).mono ?_; rintro e W1 ⟨rfl, hf1⟩; (have HF1 := Lib.hid hf1); clear hf1)
  have hf2 : Fr0 W (W1.alloc (.cells #[.int .i64 g, .slice A l.length c, .slice Ap ps.length cp, .int .i64 piece, .slice At t.length ct, .slice Ag gs.length cg, .int .i64 lost, .int .i64 wrong] 79)) := HF1.out.alloc _
  have c2 : Bx (W1.alloc (.cells #[.int .i64 g, .slice A l.length c, .slice Ap ps.length cp, .int .i64 piece, .slice At t.length ct, .slice Ag gs.length cg, .int .i64 lost, .int .i64 wrong] 79)) W1.heap.size 79 #[.int .i64 g, .slice A l.length c, .slice Ap ps.length cp, .int .i64 piece, .slice At t.length ct, .slice Ag gs.length cg, .int .i64 lost, .int .i64 wrong] := Bx.of_new rfl
  have h12 : W.heap.size ≤ W1.heap.size := HF1.out.size
  generalize W1.alloc (.cells #[.int .i64 g, .slice A l.length c, .slice Ap ps.length cp, .int .i64 piece, .slice At t.length ct, .slice Ag gs.length cg, .int .i64 lost, .int .i64 wrong] 79) = W2 at hf2 c2 ⊢
  generalize W1.heap.size = b8 at c2 h12 ⊢
  have y0 := (HD.out.fr0 hf2).at_ 0 (v := .slice At t.length ct) rfl
  have q0 := (HE.out.fr0 hf2).at_ 0 (v := .int .i64 which) rfl
  have HF2 := Lib.hid hf2
  have HC2 := Lib.hid c2
  clear hf2 c2 v0 v1 v2 y1 y2 y3 htl
  cases IN
  ·have HS := Lib.hid (show ST = ([], 91) from HR.out)
   go_wp2_with (go_at_call 59; refine (HIN.out _).mono ?_; rintro e W3 ⟨rfl, hf3⟩)
   refine bodyPost_ret (v := .tuple #[.slice none 0 0, .int .i64 91]) (by simp [results, Tryd.results26, go_sem]) rfl ⟨_, by rw [HS.out], by rw [HS.out]; exact Kd.V_nil _ _ _ _ _, Fr0.trans HF.out (Fr0.trans HF2.out hf3)⟩
  ·have HS := Lib.hid (show ST = (SL, 0) from HR.out)
   go_upto_region 7 with (go_at_call 59; refine (HIN.out _).mono ?_; rintro e W3 ⟨rfl, hf3⟩; (have HF3 := Lib.hid (Fr0.trans HF2.out hf3)); (have HF23 := Lib.hid hf3); clear hf3)
   have hf4 : Fr0 W (W3.alloc (.cells #[.bool false, .bool false, .bool false, .bool false, .bool false, .bool false, .bool false, .bool false, .bool false, .bool false, .bool false, .bool false, .bool false, .bool false, .bool false, .bool false, .bool false, .bool false, .bool false, .bool false, .bool false, .bool false, .bool false, .bool false] 89)) := HF3.out.alloc _
   have b4 : Bx (W3.alloc (.cells #[.bool false, .bool false, .bool false, .bool false, .bool false, .bool false, .bool false, .bool false, .bool false, .bool false, .bool false, .bool false, .bool false, .bool false, .bool false, .bool false, .bool false, .bool false, .bool false, .bool false, .bool false, .bool false, .bool false, .bool false] 89)) W3.heap.size 89 (gw fun _ => false) := by rw [gw_false]; exact Bx.of_new rfl
   have hc4 : Bx (W3.alloc (.cells #[.bool false, .bool false, .bool false, .bool false, .bool false, .bool false, .bool false, .bool false, .bool false, .bool false, .bool false, .bool false, .bool false, .bool false, .bool false, .bool false, .bool false, .bool false, .bool false, .bool false, .bool false, .bool false, .bool false, .bool false] 89)) b8 79 #[.int .i64 g, .slice A l.length c, .slice Ap ps.length cp, .int .i64 piece, .slice At t.length ct, .slice Ag gs.length cg, .int .i64 lost, .int .i64 wrong] := by
    exact (HC2.out.fr0 (Fr0.trans (Fr.refl _ _) HF23.out)).alloc _
   have h8s : b8 < W3.heap.size := (HC2.out.fr0 HF23.out).lt
   have hws : W.heap.size ≤ W3.heap.size := HF3.out.size
   generalize W3.alloc (.cells #[.bool false, .bool false, .bool false, .bool false, .bool false, .bool false, .bool false, .bool false, .bool false, .bool false, .bool false, .bool false, .bool false, .bool false, .bool false, .bool false, .bool false, .bool false, .bool false, .bool false, .bool false, .bool false, .bool false, .bool false] 89) = W4 at hf4 b4 hc4 ⊢
   generalize W3.heap.size = bs at b4 h8s hws ⊢
   have HF4 := Lib.hid hf4
   have HB4 := Lib.hid b4
   have HC4 := Lib.hid hc4
   have HD4 := Lib.hid (HD.out.fr0 hf4)
   have HE4 := Lib.hid (HE.out.fr0 hf4)
   have HFW4 := Lib.hid (Fr0.trans HF.out hf4)
   have HN8 := Lib.hid (show b8 < bs ∧ b + 1 + 1 < bs from ⟨h8s, by have := HWS.out; omega⟩)
   have HWB := Lib.hid (show w.heap.size ≤ bs by have := HF.out.size; omega)
   clear y0 q0 b4 hf4
   have z0 := hc4.at_ 0 (v := .int .i64 g) rfl
   have z1 := hc4.at_ 1 (v := .slice A l.length c) rfl
   have z2 := hc4.at_ 2 (v := .slice Ap ps.length cp) rfl
   have z3 := hc4.at_ 3 (v := .int .i64 piece) rfl
   have z4 := hc4.at_ 4 (v := .slice At t.length ct) rfl
   have z5 := hc4.at_ 5 (v := .slice Ag gs.length cg) rfl
   have z6 := hc4.at_ 6 (v := .int .i64 lost) rfl
   have z7 := hc4.at_ 7 (v := .int .i64 wrong) rfl
   clear hc4
   go_wp2_with (go_at_call 63; refine (HTO.out _ (fr_below HFW4.out)).mono ?_; rintro e W5 ⟨A1, c1, rfl, hc1, hC1, hf5⟩)
   have HF5 := Lib.hid hf5
   clear hf5 hC1 z0 z1 z2 z3 z4 z5 z6 z7 h8s hws h12
   go_loopw [36] (fun v36 wr => ∃ k : Nat, k ≤ pl ∧ v36 = .int .i64 k ∧ Bx wr bs 89 (gw (metH bg pl k 0)) ∧ Fr (· = bs) W4 wr) (fun v36 _ => (pl - intOf v36).toNat)
   case atStart => exact ⟨0, by omega, by rfl, by rw [metH_0]; exact HB4.out.fr0 HF5.out, Fr.of0 HF5.out⟩
   case round =>
    obtain ⟨k, hk, rfl, hbr, hfr⟩ := hrel
    have HBR := Lib.hid hbr
    have HFR := Lib.hid hfr
    clear hbr hfr
    by_cases hlt : k < pl
    ·have hle : (k : Int) < pl := by omega
     have HLT := Lib.hid hlt
     clear hlt
     go_upto_region 11 with fail
     have hf6 : Fr0 wr ((wr.alloc (.cells #[.int .i64 (k : Int)] 3)).alloc (.cells #[.func (.func 64) #[] #[.pointer (some ⟨b + 1 + 1, 0, none⟩), .pointer (some ⟨wr.heap.size, 0, none⟩)]] 95)) := ((Fr.refl _ _).alloc _).alloc _
     have bk6 : Bx ((wr.alloc (.cells #[.int .i64 (k : Int)] 3)).alloc (.cells #[.func (.func 64) #[] #[.pointer (some ⟨b + 1 + 1, 0, none⟩), .pointer (some ⟨wr.heap.size, 0, none⟩)]] 95)) wr.heap.size 3 #[.int .i64 (k : Int)] := (Bx.of_new rfl).alloc _
     have by6 : Bx ((wr.alloc (.cells #[.int .i64 (k : Int)] 3)).alloc (.cells #[.func (.func 64) #[] #[.pointer (some ⟨b + 1 + 1, 0, none⟩), .pointer (some ⟨wr.heap.size, 0, none⟩)]] 95)) (wr.heap.size + 1) 95 #[.func (.func 64) #[] #[.pointer (some ⟨b + 1 + 1, 0, none⟩), .pointer (some ⟨wr.heap.size, 0, none⟩)]] := Bx.of_new (by simp)
     have hsr : bs < wr.heap.size := HBR.out.lt
     generalize (wr.alloc (.cells #[.int .i64 (k : Int)] 3)).alloc (.cells #[.func (.func 64) #[] #[.pointer (some ⟨b + 1 + 1, 0, none⟩), .pointer (some ⟨wr.heap.size, 0, none⟩)]] 95) = W6 at hf6 bk6 by6 ⊢
     generalize wr.heap.size = bk at hf6 bk6 by6 hsr ⊢
     have HF6 := Lib.hid (HFR.out.step0 hf6)
     have HBK6 := Lib.hid bk6
     have HBY6 := Lib.hid by6
     have HBS6 := Lib.hid (HBR.out.fr0 hf6)
     have HNS := Lib.hid (show bk ≠ bs ∧ bk + 1 ≠ bs from ⟨by omega, by omega⟩)
     have hc6 := HC4.out.fr HF6.out (show ¬ b8 = bs from Nat.ne_of_lt HN8.out.1)
     have z0 := hc6.at_ 0 (v := .int .i64 g) rfl
     have z1 := hc6.at_ 1 (v := .slice A l.length c) rfl
     have z2 := hc6.at_ 2 (v := .slice Ap ps.length cp) rfl
     have z3 := hc6.at_ 3 (v := .int .i64 piece) rfl
     have z4 := hc6.at_ 4 (v := .slice At t.length ct) rfl
     have z5 := hc6.at_ 5 (v := .slice Ag gs.length cg) rfl
     have z6 := hc6.at_ 6 (v := .int .i64 lost) rfl
     have z7 := hc6.at_ 7 (v := .int .i64 wrong) rfl
     clear hc6 hf6 bk6 by6 hsr
     have HBL6 := Lib.hid (show Below w.heap.size w W6 from (HFW4.out.of0 (S := (· = bs))).trans HF6.out |>.below (Nat.le_refl _) (fun k hk e => by have e : k = bs := e; have := HWB.out; omega))
     go_wp2_with (go_at_call 63; refine (HTO.out _ HBL6.out).mono ?_; rintro e W7 ⟨A2, c2, rfl, hc2, hC2, hf7⟩)
     have HF7 := Lib.hid (HF6.out.step0 hf7)
     have HBS7 := Lib.hid (HBS6.out.fr0 hf7)
     have HBK7 := Lib.hid (HBK6.out.fr0 hf7)
     have HBY7 := Lib.hid (HBY6.out.fr0 hf7)
     clear hf7 hC2 z0 z1 z2 z3 z4 z5 z6 z7
     go_loopw [44] (fun v44 wi => ∃ f : Nat, f ≤ pl ∧ v44 = .int .i64 f ∧ Bx wi bs 89 (gw (metH bg pl k f)) ∧ Fr (· = bs) W7 wi) (fun v44 _ => (pl - intOf v44).toNat)
     case atStart => exact ⟨0, by omega, by rfl, HBS7.out, Fr.refl _ _⟩
     case round =>
      obtain ⟨f, hf, rfl, hbi, hfi⟩ := hrel
      have HBI := Lib.hid hbi
      have HFI := Lib.hid hfi
      clear hbi hfi
      by_cases hlt2 : f < pl
      ·have hle2 : (f : Int) < pl := by omega
       have HLT2 := Lib.hid hlt2
       clear hlt2
       have HF4i := Lib.hid (HF7.out.trans HFI.out)
       have hci := HC4.out.fr HF4i.out (show ¬ b8 = bs from Nat.ne_of_lt HN8.out.1)
       have z0 := hci.at_ 0 (v := .int .i64 g) rfl
       have z1 := hci.at_ 1 (v := .slice A l.length c) rfl
       have z2 := hci.at_ 2 (v := .slice Ap ps.length cp) rfl
       have z3 := hci.at_ 3 (v := .int .i64 piece) rfl
       have z4 := hci.at_ 4 (v := .slice At t.length ct) rfl
       have z5 := hci.at_ 5 (v := .slice Ag gs.length cg) rfl
       have z6 := hci.at_ 6 (v := .int .i64 lost) rfl
       have z7 := hci.at_ 7 (v := .int .i64 wrong) rfl
       have n2 := (HD4.out.fr HF4i.out (show ¬ b + 1 = bs from by have := HN8.out.2; omega)).at_ 2 (v := .int .i64 lost) rfl
       have wh := (HE4.out.fr HF4i.out (show ¬ b + 1 + 1 = bs from Nat.ne_of_lt HN8.out.2)).at_ 0 (v := .int .i64 which) rfl
       have kk := (HBK7.out.fr HFI.out HNS.out.1).at_ 0 (v := .int .i64 (k : Int)) rfl
       have yy := (HBY7.out.fr HFI.out HNS.out.2).at_ 0 rfl
       have hk24 : (k : Int) < 24 := by have := HLT.out; omega
       have cur : wr.cell? ⟨bs, k, none⟩ = some (.bool (metH bg pl k f k)) := HBI.out.at_ k (gw_at _ k (by omega))
       have zf : wr.frozen? ⟨bs, k, none⟩ = false := HBI.out.frz k
       have hlb : bs < wr.heap.size := HBI.out.lt
       have HBLi := Lib.hid (show Below w.heap.size w wr from (HFW4.out.of0 (S := (· = bs))).trans HF4i.out |>.below (Nat.le_refl _) (fun k hk e => by have e : k = bs := e; have := HWB.out; omega))
       have HK := Lib.hid (fun W' (h : Fr0 wr W') => HBG.out wr HBLi.out (b + 1 + 1) bk k f HLT2.out wh kk W' h)
       rw [HBG2.out] at HK
       have hix := fun W' => ix_at bs k hk24 W'
       have HST := Lib.hid (metH_step bg pl k f)
       generalize hbgv : bg k f = bv at *
       generalize hcv : metH bg pl k f k = cv at *
       have HCV := Lib.hid hcv
       clear hci wh hbgv hcv
       have HNE := Lib.hid (And.intro zf hlb)
       go_upto_region 14 with fail
       cases cv
       ·-- not met yet
        refine start_ (n := 14) (S := fun w' => w'.cell? ⟨b8, 0, none⟩ = some (.int .i64 g) ∧ w'.cell? ⟨b8, 1, none⟩ = some (.slice A l.length c) ∧ w'.cell? ⟨b8, 2, none⟩ = some (.slice Ap ps.length cp) ∧ w'.cell? ⟨b8, 3, none⟩ = some (.int .i64 piece) ∧ w'.cell? ⟨b8, 4, none⟩ = some (.slice At t.length ct) ∧ w'.cell? ⟨b8, 5, none⟩ = some (.slice Ag gs.length cg) ∧ w'.cell? ⟨b8, 6, none⟩ = some (.int .i64 lost) ∧ w'.cell? ⟨b8, 7, none⟩ = some (.int .i64 wrong) ∧ w'.cell? ⟨b + 1, 2, none⟩ = some (.int .i64 lost) ∧ w'.cell? ⟨bk, 0, none⟩ = some (.int .i64 (k : Int)) ∧ w'.cell? ⟨bk + 1, 0, none⟩ = some (.func (.func 64) #[] #[.pointer (some ⟨b + 1 + 1, 0, none⟩), .pointer (some ⟨bk, 0, none⟩)]) ∧ w'.cell? ⟨bs, k, none⟩ = some (.bool false)) (ds := [13]) (.replicate 14 false) (by kernel_rfl) rfl rfl ⟨z0, z1, z2, z3, z4, z5, z6, z7, n2, kk, yy, cur⟩ (fun hHeld => ?_)
        refine tk12 0 47 (bt 14 1) hHeld (k := ?_)
        refine tk12 1 48 (bt 14 3) hHeld (k := ?_)
        refine pu 2 49 (bt 14 7) (k := ?_)
        refine tk12 3 50 (bt 14 15) hHeld (k := ?_)
        refine pu 4 51 (bt 14 31) (k := ?_)
        refine pu 6 53 (bt 14 95) (k := ?_)
        refine pu 7 54 (bt 14 223) (k := ?_)
        refine tk12 5 52 (bt 14 255) hHeld (k := ?_)
        refine tk12 8 55 (bt 14 511) hHeld (k := ?_)
        refine tk12 9 56 (bt 14 1023) hHeld (k := ?_)
        refine oN 10 57 (bt 14 2047) (h := fun K hK => ?_)
        refine goes_ Tryd.func65 (by kernel_rfl) rfl #[.agg #[.int .i64 g, .slice A l.length c, .slice Ap ps.length cp, .int .i64 piece, .slice At t.length ct, .slice Ag gs.length cg, .int .i64 lost, .int .i64 wrong], .int .i64 (f : Int), .int .i64 lost, .agg #[.func (.func 64) #[] #[.pointer (some ⟨b + 1 + 1, 0, none⟩), .pointer (some ⟨bk, 0, none⟩)]]] (by rfl) rfl rfl TN ?_
        with_reducible refine (HK.out _ (Fr.drew (Fr.refl _ wr))).mono ?_
        rintro e w10 ⟨rfl, hf10⟩
        refine ⟨_, rfl, ?_⟩
        have H10 := Lib.hid (Fr0.trans (Fr.drew (Fr.refl _ wr)) hf10)
        have zf := (frz_fr H10.out HNE.out.1 HNE.out.2)
        have hlb := Nat.lt_of_lt_of_le HNE.out.2 H10.out.size
        refine hK.out _ _ ⟨(H10.out.cell0 z0), (H10.out.cell0 z1), (H10.out.cell0 z2), (H10.out.cell0 z3), (H10.out.cell0 z4), (H10.out.cell0 z5), (H10.out.cell0 z6), (H10.out.cell0 z7), (H10.out.cell0 n2), (H10.out.cell0 kk), (H10.out.cell0 yy), (H10.out.cell0 cur)⟩ (fun hHeld => ?_)
        clear hK K
        refine norm_ (a' := ?_) ?_ ?_
        rotate_left
        ·show Act.put _ (some 57) _ = _
         simp only [Act.put, lA, lZ, lS, i64_w, i32_w]
         rfl
        refine pu 11 58 (bt 14 4095) (k := ?_)
        refine pu 12 59 (bt 14 8191) (k := ?_)
        refine last_ (i := 13) (N := none) (bt 14 16383) rfl rfl (by kernel_rfl) (by decide) (fun K hK => ?_)
        refine skip_ (w1 := ?_) (by rfl) rfl ?_ ?_
        rotate_left
        ·go_simp
         rfl
        refine hK.out _ _ ?_
        clear hK K
        refine done_ (by kernel_rfl) ?_
        clear z0 z1 z2 z3 z4 z5 z6 z7 n2 kk yy cur
        have hfin : Fr (· = bs) wr (w10.setCell ⟨bs, k, none⟩ (.bool bv)) := Fr.setCell (S := (· = bs)) (Fr.of0 H10.out) (.inl rfl) _
        have hbx : Bx (w10.setCell ⟨bs, k, none⟩ (.bool bv)) bs 89 (gw (metH bg pl k (f + 1))) := by
         rw [HST.out, ← gw_set _ k (by have := HLT.out; omega)]
         exact (HBI.out.fr0 H10.out).set_ k (.bool bv)
        have HFIN := Lib.hid (HFI.out.trans hfin)
        have HBX := Lib.hid hbx
        clear hfin hbx
        go_wp2
        exact ⟨⟨f + 1, by have := HLT2.out; omega, by go_num, HBX.out, HFIN.out⟩, by have := HLT2.out; simp [intOf]; omega⟩
       ·-- met
        refine start_ (n := 14) (S := fun w' => w'.cell? ⟨b8, 0, none⟩ = some (.int .i64 g) ∧ w'.cell? ⟨b8, 1, none⟩ = some (.slice A l.length c) ∧ w'.cell? ⟨b8, 2, none⟩ = some (.slice Ap ps.length cp) ∧ w'.cell? ⟨b8, 3, none⟩ = some (.int .i64 piece) ∧ w'.cell? ⟨b8, 4, none⟩ = some (.slice At t.length ct) ∧ w'.cell? ⟨b8, 5, none⟩ = some (.slice Ag gs.length cg) ∧ w'.cell? ⟨b8, 6, none⟩ = some (.int .i64 lost) ∧ w'.cell? ⟨b8, 7, none⟩ = some (.int .i64 wrong) ∧ w'.cell? ⟨b + 1, 2, none⟩ = some (.int .i64 lost) ∧ w'.cell? ⟨bk, 0, none⟩ = some (.int .i64 (k : Int)) ∧ w'.cell? ⟨bk + 1, 0, none⟩ = some (.func (.func 64) #[] #[.pointer (some ⟨b + 1 + 1, 0, none⟩), .pointer (some ⟨bk, 0, none⟩)]) ∧ w'.cell? ⟨bs, k, none⟩ = some (.bool true)) (ds := [13]) (.replicate 14 false) (by kernel_rfl) rfl rfl ⟨z0, z1, z2, z3, z4, z5, z6, z7, n2, kk, yy, cur⟩ (fun hHeld => ?_)
        refine tk12 0 47 (bt 14 1) hHeld (k := ?_)
        refine tk12 1 48 (bt 14 3) hHeld (k := ?_)
        refine pu 2 49 (bt 14 7) (k := ?_)
        refine tk12 3 50 (bt 14 15) hHeld (k := ?_)
        refine pu 4 51 (bt 14 31) (k := ?_)
        refine pv 5 52 (bt 14 63) (k := ?_)
        refine pv 6 53 (bt 14 127) (k := ?_)
        refine pv 7 54 (bt 14 255) (k := ?_)
        refine pv 8 55 (bt 14 511) (k := ?_)
        refine pv 9 56 (bt 14 1023) (k := ?_)
        refine pv 10 57 (bt 14 2047) (k := ?_)
        refine pu 11 58 (bt 14 4095) (k := ?_)
        refine pu 12 59 (bt 14 8191) (k := ?_)
        refine last_ (i := 13) (N := none) (bt 14 16383) rfl rfl (by kernel_rfl) (by decide) (fun K hK => ?_)
        refine skip_ (w1 := ?_) (by rfl) rfl ?_ ?_
        rotate_left
        ·go_simp
         rfl
        refine hK.out _ _ ?_
        clear hK K
        refine done_ (by kernel_rfl) ?_
        clear z0 z1 z2 z3 z4 z5 z6 z7 n2 kk yy cur
        have hfin : Fr (· = bs) wr (wr.setCell ⟨bs, k, none⟩ (.bool true)).drew := Fr.drew (Fr.setCell (S := (· = bs)) (Fr.refl _ _) (.inl rfl) _)
        have hbx : Bx (wr.setCell ⟨bs, k, none⟩ (.bool true)).drew bs 89 (gw (metH bg pl k (f + 1))) := by
         rw [HST.out]
         show Bx _ bs 89 (gw fun j => if j = k then true else metH bg pl k f j)
         rw [← gw_set _ k (by have := HLT.out; omega)]
         exact Bx.drew (HBI.out.set_ k (.bool true))
        have HFIN := Lib.hid (HFI.out.trans hfin)
        have HBX := Lib.hid hbx
        clear hfin hbx
        go_wp2
        exact ⟨⟨f + 1, by have := HLT2.out; omega, by go_num, HBX.out, HFIN.out⟩, by have := HLT2.out; simp [intOf]; omega⟩
      ·obtain rfl : f = pl := by omega
       have hle2 : ¬ ((f : Int) < f) := by omega
       have HBX := Lib.hid (show Bx wr bs 89 (gw (metH bg f (k + 1) 0)) by rw [← metH_next]; exact HBI.out)
       have HFX := Lib.hid (HF7.out.trans HFI.out)
       go_wp2
       exact ⟨⟨k + 1, by have := HLT.out; omega, by go_num, HBX.out, HFX.out⟩, by have := HLT.out; simp [intOf]; omega⟩
    ·obtain rfl : k = pl := by omega
     have hle : ¬ ((k : Int) < k) := by omega
     have HLI := Lib.hid (list66 (metH bg k k 0))
     have HSZ := Lib.hid (show (Tryd.prog.info? 89).map (·.size) = some (gw (metH bg k k 0)).size by rw [gw_size]; rfl)
     have HF4r := Lib.hid (HFW4.out.step HFR.out (fun i hi e => by have e : i = bs := e; have := HWB.out; omega))
     rw [← HSL.out] at HLI
     generalize gw (metH bg k k 0) = G at *
     go_upto_region 17 with fail
     refine wp_region_lit ?_
     refine wpList_load_row rfl 89 (.tmp 12) rfl bs rfl 89 G (0, 0) _ HBR.out Tryd.underlying89 rfl HSZ.out ?_
     go_wp2_with (go_at_call 66; refine (HLI.out wr).mono ?_; rintro e W9 ⟨v9, rfl, hV9, hf9⟩)
     refine bodyPost_ret (v := .tuple #[v9, .int .i64 0]) (by simp [results, Tryd.results26, go_sem]) rfl ⟨v9, by rw [HS.out], ?_, HF4r.out.step0 hf9⟩
     rw [HS.out]
     exact Kd.V_mono hV9 (fun i hi => Nat.le_trans HF4r.out.size hi)
 ·have HR := Lib.hid (show stroF g l ps piece t gs lost wrong which = ([], askE g l ps (okAsk ps piece t gs lost wrong)) by unfold stroF; rw [if_neg hE])
  rw [if_neg hE] at HAS
  unfold hb0 hbV hbC at HAS
  have hE2 : (askE g l ps (okAsk ps piece t gs lost wrong) != 0) = true := by simpa using hE
  generalize hST : stroF g l ps piece t gs lost wrong which = ST at *
  clear hB hN hE hST htl
  generalize askE g l ps (okAsk ps piece t gs lost wrong) = E at *
  go_enter Tryd.func26, Tryd.ntmps26
  go_upto_region 1 with fail
  generalize hW : (((w.alloc (.cells #[.int .i64 g, .slice A l.length c, .slice Ap ps.length cp] 27)).alloc (.cells #[.slice At t.length ct, .slice Ag gs.length cg, .int .i64 lost, .int .i64 wrong] 30)).alloc (.cells #[.int .i64 which] 3)) = W at hf0 c0 d0 e0 ⊢
  clear hW
  generalize w.heap.size = b at c0 d0 e0 ⊢
  have v0 := c0.at_ 0 (v := .int .i64 g) rfl
  have v1 := c0.at_ 1 (v := .slice A l.length c) rfl
  have v2 := c0.at_ 2 (v := .slice Ap ps.length cp) rfl
  have y0 := d0.at_ 0 (v := .slice At t.length ct) rfl
  have y1 := d0.at_ 1 (v := .slice Ag gs.length cg) rfl
  have y2 := d0.at_ 2 (v := .int .i64 lost) rfl
  have y3 := d0.at_ 3 (v := .int .i64 wrong) rfl
  have HF := Lib.hid hf0
  clear c0 d0 e0 hf0
  go_wp2_with (go_at_call 52; refine (HAS.out _ HF.out).mono ?_; rintro e W1 ⟨rfl, hf1⟩; (have HF1 := Lib.hid (Fr0.trans HF.out hf1)); clear hf1)
  refine bodyPost_ret (v := .tuple #[.slice none 0 0, .int .i64 E]) (by simp [results, Tryd.results26, go_sem]) rfl ⟨_, by rw [HR.out], by rw [HR.out]; exact Kd.V_nil _ _ _ _ _, HF1.out.alloc _⟩
end Go.Proofs.YtfdenclnneigfaaDoor.R
namespace Go.Proofs.YtfdenclnneigfaaDoor.R
open Go.RowKit Go.Shelf Go.Proofs.YtfdenclnneigfaaDoorW.PrintWords Go.Proofs.YtfdenclnneigfaaDoorW.PrintLast Go.Proofs.YtfdenclnneigfaaDoor.PRaspKeys Go.Proofs.YtfdenclnneigfaaDoor.X Go.Proofs.YtfdenclnneigfaaDoor.M
attribute [local go_sem] Oper.semAt_some
/-! ### Several notes -/
def nOk (x : S30) : Bool := noteB x.f0 x.f1 x.f2 x.f3
def badN (l : List S30) : Nat → Nat → Int
 | 0, _ => -1
 | d + 1, n => if nOk (rd_T30 l (n : Int)) = true then badN l d (n + 1) else n
theorem rdT30 (l : List S30) (n : Nat) (h : n < l.length) : rd_T30 l (n : Int) = l[n] := by simp [rd_T30, h]
theorem badN_any (l : List S30) : ∀ (d n : Nat), n + d = l.length → (0 ≤ badN l d n ↔ (l.drop n).any (fun x => !nOk x) = true)
 | 0, n, h => by
  rw [List.drop_of_length_le (by omega)]
  simp [badN]
 | d + 1, n, h => by
  have hn : n < l.length := by omega
  rw [List.drop_eq_getElem_cons hn, List.any_cons]
  unfold badN
  rw [rdT30 l n hn]
  have ih := badN_any l d (n + 1) (by omega)
  cases nOk l[n]
  ·simp
  ·simpa using ih
set_option maxRecDepth 100000 in
theorem note70 (At : Option Addr) (ct : Nat) (Ag : Option Addr) (cg : Nat) (x : S30) (w : World) (hrt : Kd.C (Kd.int .i64) w At x.f0.length x.f0) (hct : x.f0.length ≤ ct) (hrg : Kd.C (Kd.int .i64) w Ag x.f1.length x.f1) (hcg : x.f1.length ≤ cg) :
  Calls Tryd.prog 70 #[.agg #[.slice At x.f0.length ct, .slice Ag x.f1.length cg, .int .i64 x.f2, .int .i64 x.f3]] w fun e w' => e = .returned (.bool (!nOk x)) ∧ Fr0 w w' := by
 have HC := Lib.hid (fun W (hf : Fr0 w W) => isNote_any At ct x.f0 Ag cg x.f1 x.f2 x.f3 W (C_fr hrt hf) hct (C_fr hrg hf) hcg)
 have HE := Lib.hid (show nOk x = noteB x.f0 x.f1 x.f2 x.f3 from rfl)
 rw [HE.out]
 clear hrt hrg HE
 generalize noteB x.f0 x.f1 x.f2 x.f3 = b at *
 have hf0 : Fr0 w (w.alloc (.cells #[.slice At x.f0.length ct, .slice Ag x.f1.length cg, .int .i64 x.f2, .int .i64 x.f3] 30)) := (Fr.refl _ _).alloc _
 have HF := Lib.hid hf0
 clear hf0
 go_enter Tryd.func70, Tryd.ntmps70
 go_wp2_with (go_at_call 71; refine (HC.out _ HF.out).mono ?_; rintro e W1 ⟨rfl, hf1⟩)
 refine bodyPost_ret (v := .bool (!b)) (by simp [results, Tryd.results70, go_sem]) rfl ⟨rfl, Fr0.trans HF.out hf1⟩
set_option maxHeartbeats 2000000 in
set_option maxRecDepth 100000 in
theorem index93 (A : Option Addr) (c : Nat) (l : List S30) (w : World) (hr : Kd.C k30 w A l.length l) (hc : l.length ≤ c) :
  Calls Tryd.prog 93 #[.slice A l.length c, .func (.func 70) #[] #[]] w fun e w' => e = .returned (.int .i64 (badN l l.length 0)) ∧ Fr0 w w' := by
 have HR := Lib.hid hr
 have hlen : (l.length : Int) ≤ 9223372036854775807 := by have := hr.2.1; omega
 clear hr
 go_enter Tryd.func93, Tryd.ntmps93
 go_wp2
 go_loopw [8] (fun v8 wr => ∃ n : Nat, n ≤ l.length ∧ v8 = .int .i64 n ∧ Hop (badN l l.length 0 = badN l (l.length - n) n) ∧ Fr0 w wr) (fun v8 _ => (l.length - intOf v8).toNat)
 case atStart => exact ⟨0, by omega, by rfl, ⟨rfl⟩, Fr.refl _ _⟩
 case round =>
  obtain ⟨n, hn, rfl, HBF, hf⟩ := hrel
  have HF := Lib.hid hf
  by_cases hlt : n < l.length
  ·have hle : (n : Int) < l.length := by omega
   obtain ⟨ad, A0, c0, A1, c1, ead, x0, x1, x2, x3, l0, g0, l1, g1⟩ := at_T30 (C_fr HR.out hf) (n : Int) (by omega) hle
   cases ead
   obtain ⟨d, hd⟩ : ∃ d, l.length - n = d + 1 := ⟨l.length - n - 1, by omega⟩
   rw [Int.toNat_natCast] at x0 x1 x2 x3
   have HST := Lib.hid (show badN l (l.length - n) n = if nOk (rd_T30 l (n : Int)) = true then badN l d (n + 1) else n from by rw [hd]; rfl)
   have HD := Lib.hid hd
   have HN := Lib.hid (note70 A0 c0 A1 c1 (rd_T30 l (n : Int)) wr g0 l0 g1 l1)
   clear hf hd g0 g1
   generalize rd_T30 l (n : Int) = x at *
   generalize nOk x = nb at *
   cases nb
   ·go_wp2_with (go_at_call 70; refine HN.out.mono ?_; rintro e W1 ⟨rfl, hf1⟩)
    refine bodyPost_ret (v := .int .i64 n) (by simp [results, Tryd.results93, go_sem]) rfl ⟨by rw [HBF.out, HST.out, if_neg (by simp)], HF.out.trans hf1⟩
   ·go_wp2_with (go_at_call 70; refine HN.out.mono ?_; rintro e W1 ⟨rfl, hf1⟩)
    refine ⟨⟨n + 1, by omega, by go_num, ⟨?_⟩, HF.out.trans hf1⟩, by simp [intOf]; omega⟩
    rw [HBF.out, HST.out, if_pos (by trivial)]
    congr 1
    have := HD.out
    omega
  ·obtain rfl : n = l.length := by omega
   have hle : ¬ ((l.length : Int) < l.length) := by omega
   clear hf
   go_wp2
   refine bodyPost_ret (v := .int .i64 (-1)) (by simp [results, Tryd.results93, go_sem]) rfl ⟨by rw [HBF.out, Nat.sub_self]; rfl, HF.out⟩
theorem all_not (l : List S30) : (!l.all nOk) = l.any (fun x => !nOk x) := by
 induction l with
 | nil => rfl
 | cons x xs ih => rw [List.all_cons, List.any_cons, Bool.not_and, ih]
set_option maxHeartbeats 1000000 in
theorem contains69 (A : Option Addr) (c : Nat) (l : List S30) (w : World) (hr : Kd.C k30 w A l.length l) (hc : l.length ≤ c) :
  Calls Tryd.prog 69 #[.slice A l.length c, .func (.func 70) #[] #[]] w fun e w' => e = .returned (.bool (!l.all nOk)) ∧ Fr0 w w' := by
 have hb := badN_any l l.length 0 (by omega)
 rw [List.drop_zero] at hb
 have HC := Lib.hid (index93 A c l w hr hc)
 have HB := Lib.hid hb
 have HE := Lib.hid (all_not l)
 rw [HE.out]
 clear hb hr
 generalize badN l l.length 0 = B at *
 go_enter Tryd.func69, Tryd.ntmps69
 go_wp2_with (go_at_call 93; refine HC.out.mono ?_; rintro e W1 ⟨rfl, hf⟩)
 refine bodyPost_ret (v := .bool (decide (0 ≤ B))) (by simp [results, Tryd.results69, go_sem]) rfl ⟨?_, hf⟩
 congr 2
 have h := HB.out
 cases hq : l.any (fun x => !nOk x)
 ·rw [hq] at h; simp at h; simpa using h
 ·rw [hq] at h; simpa using h
def fitN (g : Int) (l : List S114) (ps : List S62) (k : Nat) (x : S30) : Bool := (HC.mk g none 0 l none 0 ps (k : Int) none 0 x.f0 none 0 x.f1 x.f2 x.f3).fitsB x.f2
def allF (g : Int) (l : List S114) (ps : List S62) (ns : List S30) : List Int × Int :=
 if hcheckE g l ps = 0 then (if (isIn (ns.length : Int) 1 6 && ns.all nOk) = true then (lst (fun k => ns.all (fitN g l ps k)) ps.length, 0) else ([], 91)) else ([], hcheckE g l ps)
theorem all_at {P : S30 → Bool} {l : List S30} (h : ∀ j, j < l.length → P (rd_T30 l (j : Int)) = true) : l.all P = true := by
 rw [List.all_eq_true]
 intro x hx
 obtain ⟨j, hj, rfl⟩ := List.getElem_of_mem hx
 have := h j hj
 rwa [rdT30 l j hj] at this
theorem all_not_at {P : S30 → Bool} {l : List S30} {j : Nat} (hj : j < l.length) (h : P (rd_T30 l (j : Int)) = false) : l.all P = false := by
 rw [Bool.eq_false_iff]
 intro hc
 rw [List.all_eq_true] at hc
 rw [rdT30 l j hj] at h
 rw [hc _ (List.getElem_mem hj)] at h
 cases h
theorem R_fr {α : Type} {d : Kd α} {e base : Nat} {ok S : Nat → Prop} {a b : World} {v : Value} {xs : List α} (h : Kd.R d e a base ok v xs) (hf : Go.Proofs.YtfdenclnneigfaaDoor.X.Fr S a b) (hn : ∀ k, ok k → ¬ S k) : Kd.R d e b base ok v xs := Kd.R_step h (fun k hk hlt => hf.block k hlt (hn k hk))
theorem fr_belowN {n : Nat} {w w' : World} (h : Fr0 w w') (hn : n ≤ w.heap.size) : Below n w w' := (fr_below h).mono hn
theorem noGoto_ret {Q : Exit → Act → World → Prop} {a : Act} {w : World} (h : Q .ret a w) : Exit.noGoto Q .ret a w := h
set_option maxHeartbeats 8000000 in
set_option maxRecDepth 100000 in
theorem all28 (g : Int) (A : Option Addr) (c : Nat) (l : List S114) (Ap : Option Addr) (cp : Nat) (ps : List S62) (An : Option Addr) (cn : Nat) (ns : List S30) (w : World) (hB : HBook w A c l Ap cp ps) (hr : Kd.C k30 w An ns.length ns) (hc : ns.length ≤ cn) :
  Calls Tryd.prog 28 #[.agg #[.int .i64 g, .slice A l.length c, .slice Ap ps.length cp], .slice An ns.length cn] w fun e w' => ∃ v0, e = .returned (.tuple #[v0, .int .i64 (allF g l ps ns).2]) ∧ Kd.V (Kd.int .i64) 3 w' w.heap.size (fun k => w.heap.size ≤ k) v0 (allF g l ps ns).1 ∧ Below w.heap.size w w' := by
 have hf0 : Fr0 w (w.alloc (.cells #[.int .i64 g, .slice A l.length c, .slice Ap ps.length cp] 27)) := (Fr.refl _ _).alloc _
 have c0 : Bx (w.alloc (.cells #[.int .i64 g, .slice A l.length c, .slice Ap ps.length cp] 27)) w.heap.size 27 #[.int .i64 g, .slice A l.length c, .slice Ap ps.length cp] := Bx.of_new rfl
 have HCK := Lib.hid (fun W' (hf : Fr0 w W') => hcheck_any g A c l Ap cp ps W' (hB.fr hf))
 have HCT := Lib.hid (fun W' (hf : Fr0 w W') => contains69 An cn ns W' (C_fr hr hf) hc)
 have HLI := Lib.hid (hlies (ns.length : Int) 1 6)
 have hnl := C_len hr
 have hnl64 : (ns.length : Int) ≤ 9223372036854775807 := by omega
 by_cases hE : hcheckE g l ps = 0
 ·have hS : allF g l ps ns = if (isIn (ns.length : Int) 1 6 && ns.all nOk) = true then (lst (fun k => ns.all (fitN g l ps k)) ps.length, 0) else ([], 91) := by unfold allF; rw [if_pos hE]
  have hbk : hbookOk g l ps = true := by
   unfold hcheckE at hE
   split at hE
   ·next h => exact h
   ·cases hE
  rw [hE] at HCK
  clear hE
  by_cases hI : isIn (ns.length : Int) 1 6 = true
  ·rw [hI] at HLI
   have hn6 : ns.length ≤ 6 := by rw [isIn_iff] at hI; omega
   by_cases hN : ns.all nOk = true
   ·rw [hN] at HCT
    have HS := Lib.hid (show allF g l ps ns = (lst (fun k => ns.all (fitN g l ps k)) ps.length, 0) by rw [hS, hI, hN]; rfl)
    have hps : ps.length ≤ 6 := by
     unfold hbookOk at hbk
     simp only [Bool.and_eq_true, isIn_iff] at hbk
     have := hbk.1.2.2
     omega
    have HOK := Lib.hid (fun (k n : Nat) (hk : k < ps.length) (hn : n < ns.length) => show (isIn (k : Int) 0 ((ps.length : Int) - 1) && nOk (rd_T30 ns (n : Int))) = true by
     rw [Bool.and_eq_true, isIn_iff]
     refine ⟨by omega, ?_⟩
     rw [rdT30 ns n hn]
     exact List.all_eq_true.1 hN _ (List.getElem_mem hn))
    have HBW := Lib.hid hB
    have HRW := Lib.hid hr
    have HBK := Lib.hid hbk
    generalize allF g l ps ns = ST at *
    clear hB hr hbk hS hN hI
    go_enter Tryd.func28, Tryd.ntmps28
    go_wp2
    go_step3
    have HF := Lib.hid hf0
    have HC0 := Lib.hid c0
    clear hf0
    generalize w.alloc (.cells #[.int .i64 g, .slice A l.length c, .slice Ap ps.length cp] 27) = W at c0 HF HC0 ⊢
    have v0 := c0.at_ 0 (v := .int .i64 g) rfl
    have v1 := c0.at_ 1 (v := .slice A l.length c) rfl
    have v2 := c0.at_ 2 (v := .slice Ap ps.length cp) rfl
    clear c0
    go_wp2_with (first
     | (go_at_call 16; refine (HCK.out _ HF.out).mono ?_; rintro e W1 ⟨rfl, hf1⟩; (have HF1 := Lib.hid (Fr0.trans HF.out hf1)); (have HC1 := Lib.hid (HC0.out.fr0 hf1)); clear hf1)
     | (go_at_call 59; refine (HLI.out _).mono ?_; rintro e W2 ⟨rfl, hf2⟩; (have HF2 := Lib.hid (Fr0.trans HF1.out hf2)); (have HC2 := Lib.hid (HC1.out.fr0 hf2)); clear hf2)
     | (go_at_call 69; refine (HCT.out _ HF2.out).mono ?_; rintro e W3 ⟨rfl, hf3⟩; (have HF3 := Lib.hid (Fr0.trans HF2.out hf3)); (have HC3 := Lib.hid (HC2.out.fr0 hf3)); clear hf3))
    go_step3
    have v2 := HC3.out.at_ 2 (v := .slice Ap ps.length cp) rfl
    go_wp2
    clear v2
    obtain ⟨H, hH⟩ : ∃ H : Nat → Bool, H = fun k => ns.all (fitN g l ps k) := ⟨_, rfl⟩
    have HH := Lib.hid hH
    rw [← hH] at HS
    have HLEN := Lib.hid (lst_len H)
    have HST := Lib.hid (show ∀ n, lst H (n + 1) = if H n = true then lst H n ++ [(n : Int)] else lst H n from fun _ => rfl)
    clear hH
    go_loopw [7, 28] (fun v7 v28 wr => ∃ k : Nat, k ≤ ps.length ∧ v28 = .int .i64 k ∧ Kd.R (Kd.int .i64) 3 wr W3.heap.size (fun k => W3.heap.size ≤ k) v7 (lst H k) ∧ Below W3.heap.size W3 wr) (fun _ v28 _ => (ps.length - intOf v28).toNat)
    case atStart => exact ⟨0, by omega, by rfl, Kd.R_nil _ _ _ _ _, Below.refl _ _⟩
    case round =>
     obtain ⟨k, hk, rfl, hR, hb⟩ := hrel
     have HR := Lib.hid hR
     have HBL := Lib.hid hb
     clear hR hb
     by_cases hlt : k < ps.length
     ·have hle : (k : Int) < ps.length := by omega
      have HLT := Lib.hid hlt
      have hps64 : (ps.length : Int) ≤ 6 := by omega
      clear hlt
      have HW3r := Lib.hid (show Fr0 W3 wr from Go.Proofs.YtfdenclnneigfaaDoor.X.Fr.of_below HBL.out)
      generalize wr = w9 at *
      go_wp2
      go_loopw [33] (fun v33 wr => ∃ n : Nat, n ≤ ns.length ∧ v33 = .int .i64 n ∧ (∀ j : Nat, j < n → fitN g l ps k (rd_T30 ns (j : Int)) = true) ∧ Fr0 w9 wr) (fun v33 _ => (ns.length - intOf v33).toNat)
      case atStart => exact ⟨0, by omega, by rfl, (fun j hj => absurd hj (Nat.not_lt_zero _)), Fr.refl _ _⟩
      case round =>
       obtain ⟨n, hn, rfl, hall, hf⟩ := hrel
       have HALL := Lib.hid hall
       have HF9 := Lib.hid hf
       have HFw := Lib.hid (Fr0.trans HF3.out (Fr0.trans HW3r.out hf))
       clear hall hf
       by_cases hlt2 : n < ns.length
       ·have hle2 : (n : Int) < ns.length := by omega
        have HLT2 := Lib.hid hlt2
        clear hlt2
        obtain ⟨ad, A0, c0, A1, c1, ead, x0, x1, x2, x3, l0, g0, l1, g1⟩ := at_T30 (C_fr HRW.out HFw.out) (n : Int) (by omega) hle2
        cases ead
        rw [Int.toNat_natCast] at x0 x1 x2 x3
        have HO := HOK.out k n HLT.out HLT2.out
        generalize hxe : rd_T30 ns (n : Int) = x at *
        have HXE := Lib.hid hxe
        clear hxe
        go_upto_region 13 with fail
        have hf4 : Fr0 wr (wr.alloc (.cells #[.slice A0 x.f0.length c0, .slice A1 x.f1.length c1, .int .i64 x.f2, .int .i64 x.f3] 30)) := (Fr.refl _ _).alloc _
        have b4 : Bx (wr.alloc (.cells #[.slice A0 x.f0.length c0, .slice A1 x.f1.length c1, .int .i64 x.f2, .int .i64 x.f3] 30)) wr.heap.size 30 #[.slice A0 x.f0.length c0, .slice A1 x.f1.length c1, .int .i64 x.f2, .int .i64 x.f3] := Bx.of_new rfl
        clear x0 x1 x2 x3
        generalize wr.alloc (.cells #[.slice A0 x.f0.length c0, .slice A1 x.f1.length c1, .int .i64 x.f2, .int .i64 x.f3] 30) = W4 at hf4 b4 ⊢
        generalize wr.heap.size = b10 at b4 ⊢
        have hc4 := HC3.out.fr0 (Fr0.trans HW3r.out (Fr0.trans HF9.out hf4))
        have v0 := hc4.at_ 0 (v := .int .i64 g) rfl
        have v1 := hc4.at_ 1 (v := .slice A l.length c) rfl
        have v2 := hc4.at_ 2 (v := .slice Ap ps.length cp) rfl
        have y0 := b4.at_ 0 (v := .slice A0 x.f0.length c0) rfl
        have y1 := b4.at_ 1 (v := .slice A1 x.f1.length c1) rfl
        have y2 := b4.at_ 2 (v := .int .i64 x.f2) rfl
        have y3 := b4.at_ 3 (v := .int .i64 x.f3) rfl
        obtain ⟨X, hX⟩ : ∃ X : HC, X = ⟨g, A, c, l, Ap, cp, ps, (k : Int), A0, c0, x.f0, A1, c1, x.f1, x.f2, x.f3⟩ := ⟨_, rfl⟩
        have hXO : X.Ok W4 := by
         subst hX
         exact ⟨HBW.out.fr (Fr0.trans HFw.out hf4), ⟨C_fr g0 hf4, l0, C_fr g1 hf4, l1⟩, HBK.out, HO⟩
        have hXv : X.val = .agg #[.int .i64 g, .slice A l.length c, .slice Ap ps.length cp, .int .i64 (k : Int), .slice A0 x.f0.length c0, .slice A1 x.f1.length c1, .int .i64 x.f2, .int .i64 x.f3] := by subst hX; rfl
        have hXf : X.fitsB x.f2 = fitN g l ps k x := by subst hX; rfl
        have hl6 : 0 ≤ x.f2 ∧ x.f2 ≤ 6 := by have h := hXO.facts; subst hX; exact ⟨h.l0, h.l1⟩
        have HFI := Lib.hid (fits53 X x.f2 W4 hXO hl6.1 (by omega))
        rw [hXv, hXf] at HFI
        have HF4 := Lib.hid (Fr0.trans HF9.out hf4)
        generalize hfv : fitN g l ps k x = fv at *
        have HFV := Lib.hid hfv
        clear hXO hXv hXf hX hl6 g0 g1 HO hf4 b4 hc4 hfv
        cases fv
        ·go_wp2_with (go_at_call 53; refine HFI.out.mono ?_; rintro e W5 ⟨rfl, hf5⟩)
         have HK0 := Lib.hid (show H k = false by rw [HH.out]; exact all_not_at HLT2.out (by rw [HXE.out, HFV.out]))
         have HF5 := Lib.hid (Fr0.trans HF4.out hf5)
         exact ⟨⟨k + 1, by have := HLT.out; omega, by go_num, by rw [HST.out, if_neg (by rw [HK0.out]; simp)]; exact R_fr HR.out HF5.out (fun i hi h => h), HBL.out.trans (fr_belowN HF5.out HBL.out.size)⟩, by have := HLT.out; simp [intOf]; omega⟩
        ·have HA2 := Lib.hid (show ∀ j : Nat, j < n + 1 → fitN g l ps k (rd_T30 ns (j : Int)) = true from fun j hj => by
          by_cases e : j = n
          ·rw [e, HXE.out, HFV.out]
          ·exact HALL.out j (by omega))
         go_wp2_with (go_at_call 53; refine HFI.out.mono ?_; rintro e W5 ⟨rfl, hf5⟩)
         go_roundw
         case rel => exact ⟨n + 1, by have := HLT2.out; omega, by go_num, HA2.out, Fr0.trans HF4.out hf5⟩
         case measure => simp [intOf]; omega
       ·obtain rfl : n = ns.length := by omega
        have hle2 : ¬ ((ns.length : Int) < ns.length) := by omega
        have HK1 := Lib.hid (show H k = true by rw [HH.out]; exact all_at HALL.out)
        have HSL := Lib.hid (HST.out k)
        have HL := Lib.hid (HLEN.out k)
        have HR2 := Lib.hid (R_fr HR.out HF9.out (fun i hi h => h))
        have HB2 := Lib.hid (HBL.out.trans (fr_belowN HF9.out HBL.out.size))
        generalize hxs : lst H k = xs at HR HR2 HSL HL
        clear hxs
        go_wp2_with (first | ((with_reducible refine gate_builtin (b := .append) (xs := #[.tmp 48, .tmp 50]) rfl ?_); at_builtin; refine Kd.R_append (Kd.int .i64) (w0 := W3) W3.heap.size rfl (.tmp 48) (.tmp 50) 28 3 (.int .i64 0) 8 rfl Tryd.underlying28 info3 rfl (by decide) (by omega) _ xs ((k : Int)) [.int .i64 (k : Int)] (fun k => W3.heap.size ≤ k) (fun _ => False) rfl rfl ?aP (fun _ hk => hk.elim) ?aF ?aO ?aB ?aS ?aL ?_; (case aP => exact rfl); (case aB => exact HB2.out); (case aF => exact (fun k hk => Nat.le_trans HB2.out.size hk)); (case aO => exact HR2.out); (case aS => exact HB2.out.size); (case aL => have h1 := HL.out; have h2 := HLT.out; omega); intro v104 w6 ho hb hg hat))
        refine ⟨⟨k + 1, by have := HLT.out; omega, by go_num, ?_, hb⟩, by have := HLT.out; simp [intOf]; omega⟩
        rw [HSL.out, if_pos HK1.out]
        exact ho
     ·obtain rfl : k = ps.length := by omega
      have hle : ¬ ((ps.length : Int) < ps.length) := by omega
      have hV := Kd.R_V (base' := w.heap.size) HR.out
      obtain ⟨A2, c2, rfl⟩ := Kd.V_slice hV
      have hcl := (Kd.V_at hV).2.1
      have hLl := HLEN.out ps.length
      have hcut := cut26 A2 _ c2 hcl
      have HV := Lib.hid hV
      clear hV HR hcl
      generalize hrw : lst H ps.length = rows at *
      clear hrw
      go_wp2
      refine bodyPost_ret (v := .tuple #[.slice A2 rows.length rows.length, .int .i64 0]) (by simp [results, Tryd.results28, go_sem]) rfl ⟨_, by rw [HS.out], by rw [HS.out]; exact Kd.V_mono (V_cut' HV.out) (fun k hk => Nat.le_trans HF3.out.size hk), fr_below (HF3.out.trans (Go.Proofs.YtfdenclnneigfaaDoor.X.Fr.of_below HBL.out))⟩
   ·rw [Bool.not_eq_true] at hN
    rw [hN] at HCT
    have HS := Lib.hid (show allF g l ps ns = ([], 91) by rw [hS, hI, hN]; rfl)
    generalize allF g l ps ns = ST at *
    clear hB hr hbk hS hN hI
    go_enter Tryd.func28, Tryd.ntmps28
    go_wp2
    go_step3
    have HF := Lib.hid hf0
    have HC0 := Lib.hid c0
    clear hf0
    generalize w.alloc (.cells #[.int .i64 g, .slice A l.length c, .slice Ap ps.length cp] 27) = W at c0 HF HC0 ⊢
    have v0 := c0.at_ 0 (v := .int .i64 g) rfl
    have v1 := c0.at_ 1 (v := .slice A l.length c) rfl
    have v2 := c0.at_ 2 (v := .slice Ap ps.length cp) rfl
    clear c0
    go_wp2_with (first
     | (go_at_call 16; refine (HCK.out _ HF.out).mono ?_; rintro e W1 ⟨rfl, hf1⟩; (have HF1 := Lib.hid (Fr0.trans HF.out hf1)); (have HC1 := Lib.hid (HC0.out.fr0 hf1)); clear hf1)
     | (go_at_call 59; refine (HLI.out _).mono ?_; rintro e W2 ⟨rfl, hf2⟩; (have HF2 := Lib.hid (Fr0.trans HF1.out hf2)); (have HC2 := Lib.hid (HC1.out.fr0 hf2)); clear hf2)
     | (go_at_call 69; refine (HCT.out _ HF2.out).mono ?_; rintro e W3 ⟨rfl, hf3⟩; (have HF3 := Lib.hid (Fr0.trans HF2.out hf3)); (have HC3 := Lib.hid (HC2.out.fr0 hf3)); clear hf3))
    refine noGoto_ret (bodyPost_ret (v := .tuple #[.slice none 0 0, .int .i64 91]) (by simp [results, Tryd.results28, go_sem]) rfl ⟨_, by rw [HS.out], by rw [HS.out]; exact Kd.V_nil _ _ _ _ _, fr_below HF3.out⟩)
  ·rw [Bool.not_eq_true] at hI
   rw [hI] at HLI
   have HS := Lib.hid (show allF g l ps ns = ([], 91) by rw [hS, hI]; rfl)
   generalize allF g l ps ns = ST at *
   clear hB hr hbk hS hI HCT
   go_enter Tryd.func28, Tryd.ntmps28
   go_wp2
   go_step3
   have HF := Lib.hid hf0
   have HC0 := Lib.hid c0
   clear hf0
   generalize w.alloc (.cells #[.int .i64 g, .slice A l.length c, .slice Ap ps.length cp] 27) = W at c0 HF HC0 ⊢
   have v0 := c0.at_ 0 (v := .int .i64 g) rfl
   have v1 := c0.at_ 1 (v := .slice A l.length c) rfl
   have v2 := c0.at_ 2 (v := .slice Ap ps.length cp) rfl
   clear c0
   go_wp2_with (first
    | (go_at_call 16; refine (HCK.out _ HF.out).mono ?_; rintro e W1 ⟨rfl, hf1⟩; (have HF1 := Lib.hid (Fr0.trans HF.out hf1)); (have HC1 := Lib.hid (HC0.out.fr0 hf1)); clear hf1)
    | (go_at_call 59; refine (HLI.out _).mono ?_; rintro e W2 ⟨rfl, hf2⟩; (have HF2 := Lib.hid (Fr0.trans HF1.out hf2)); (have HC2 := Lib.hid (HC1.out.fr0 hf2)); clear hf2))
   refine noGoto_ret (bodyPost_ret (v := .tuple #[.slice none 0 0, .int .i64 91]) (by simp [results, Tryd.results28, go_sem]) rfl ⟨_, by rw [HS.out], by rw [HS.out]; exact Kd.V_nil _ _ _ _ _, fr_below HF2.out⟩)
 ·have HS := Lib.hid (show allF g l ps ns = ([], hcheckE g l ps) by unfold allF; rw [if_neg hE])
  have hE2 : (hcheckE g l ps != 0) = true := by simpa using hE
  generalize allF g l ps ns = ST at *
  clear hB hr hE
  generalize hcheckE g l ps = E at *
  go_enter Tryd.func28, Tryd.ntmps28
  go_wp2
  go_step3
  have HF := Lib.hid hf0
  have HC0 := Lib.hid c0
  clear hf0
  generalize w.alloc (.cells #[.int .i64 g, .slice A l.length c, .slice Ap ps.length cp] 27) = W at c0 HF HC0 ⊢
  have v0 := c0.at_ 0 (v := .int .i64 g) rfl
  have v1 := c0.at_ 1 (v := .slice A l.length c) rfl
  have v2 := c0.at_ 2 (v := .slice Ap ps.length cp) rfl
  clear c0
  go_wp2_with (go_at_call 16; refine (HCK.out _ HF.out).mono ?_; rintro e W1 ⟨rfl, hf1⟩)
  refine noGoto_ret (bodyPost_ret (v := .tuple #[.slice none 0 0, .int .i64 E]) (by simp [results, Tryd.results28, go_sem]) rfl ⟨_, by rw [HS.out], by rw [HS.out]; exact Kd.V_nil _ _ _ _ _, fr_below (Fr0.trans HF.out hf1)⟩)
theorem one_note (w : World) (b : Nat) (hb : b = w.heap.size) (At : Option Addr) (ct : Nat) (t : List Int) (Ag : Option Addr) (cg : Nat) (gs : List Int) (lost wrong : Int) (hN : Note w At ct t Ag cg gs) : Kd.C k30 (w.alloc (.cells #[.slice At t.length ct, .slice Ag gs.length cg, .int .i64 lost, .int .i64 wrong] 30)) (some ⟨b, 0, none⟩) 1 [⟨t, gs, lost, wrong⟩] := by
 subst hb
 refine ⟨rfl, by simp, fun _ => ⟨_, rfl, ?_⟩⟩
 rintro (_ | j) p hp
 ·obtain rfl : (⟨t, gs, lost, wrong⟩ : S30) = p := by simpa using hp
  refine ⟨[.slice At t.length ct, .slice Ag gs.length cg, .int .i64 lost, .int .i64 wrong], rfl, k30_mk _ ⟨t, gs, lost, wrong⟩ hN.ct (C_fr hN.rt ((Fr.refl _ _).alloc _)) hN.cg (C_fr hN.rg ((Fr.refl _ _).alloc _)), ?_⟩
  have hb := Bx.new w 30 #[.slice At t.length ct, .slice Ag gs.length cg, .int .i64 lost, .int .i64 wrong]
  rintro (_ | _ | _ | _ | i) u hu
  ·obtain rfl := Option.some.inj hu; exact hb.at_ 0 rfl
  ·obtain rfl := Option.some.inj hu; exact hb.at_ 1 rfl
  ·obtain rfl := Option.some.inj hu; exact hb.at_ 2 rfl
  ·obtain rfl := Option.some.inj hu; exact hb.at_ 3 rfl
  ·simp at hu
 ·simp at hp
set_option maxHeartbeats 4000000 in
set_option maxRecDepth 100000 in
theorem pieces18 (g : Int) (A : Option Addr) (c : Nat) (l : List S114) (Ap : Option Addr) (cp : Nat) (ps : List S62) (At : Option Addr) (ct : Nat) (t : List Int) (Ag : Option Addr) (cg : Nat) (gs : List Int) (lost wrong : Int) (w : World) (hB : HBook w A c l Ap cp ps) (hN : Note w At ct t Ag cg gs) :
  Calls Tryd.prog 18 #[.agg #[.int .i64 g, .slice A l.length c, .slice Ap ps.length cp], .agg #[.slice At t.length ct, .slice Ag gs.length cg, .int .i64 lost, .int .i64 wrong]] w fun e w' => ∃ v0, e = .returned (.tuple #[v0, .int .i64 (allF g l ps [⟨t, gs, lost, wrong⟩]).2]) ∧ Kd.V (Kd.int .i64) 3 w' w.heap.size (fun k => w.heap.size ≤ k) v0 (allF g l ps [⟨t, gs, lost, wrong⟩]).1 ∧ Below w.heap.size w w' := by
 have hf0 : Fr0 w ((w.alloc (.cells #[.int .i64 g, .slice A l.length c, .slice Ap ps.length cp] 27)).alloc (.cells #[.slice At t.length ct, .slice Ag gs.length cg, .int .i64 lost, .int .i64 wrong] 30)) := ((Fr.refl _ _).alloc _).alloc _
 have c0 : Bx ((w.alloc (.cells #[.int .i64 g, .slice A l.length c, .slice Ap ps.length cp] 27)).alloc (.cells #[.slice At t.length ct, .slice Ag gs.length cg, .int .i64 lost, .int .i64 wrong] 30)) w.heap.size 27 #[.int .i64 g, .slice A l.length c, .slice Ap ps.length cp] := (Bx.of_new rfl).alloc _
 have d0 : Bx ((w.alloc (.cells #[.int .i64 g, .slice A l.length c, .slice Ap ps.length cp] 27)).alloc (.cells #[.slice At t.length ct, .slice Ag gs.length cg, .int .i64 lost, .int .i64 wrong] 30)) (w.heap.size + 1) 30 #[.slice At t.length ct, .slice Ag gs.length cg, .int .i64 lost, .int .i64 wrong] := Bx.of_new (by simp)
 have HAL := Lib.hid (fun W (hf : Fr0 w W) => all28 g A c l Ap cp ps (some ⟨W.heap.size, 0, none⟩) 1 [⟨t, gs, lost, wrong⟩] (W.alloc (.cells #[.slice At t.length ct, .slice Ag gs.length cg, .int .i64 lost, .int .i64 wrong] 30)) ((hB.fr hf).fr ((Fr.refl _ _).alloc _)) (one_note W _ rfl At ct t Ag cg gs lost wrong (hN.fr hf)) (by simp))
 simp only [List.length_cons, List.length_nil, Nat.zero_add] at HAL
 generalize allF g l ps [⟨t, gs, lost, wrong⟩] = ST at *
 clear hB hN
 go_enter Tryd.func18, Tryd.ntmps18
 go_upto_region 1 with fail
 generalize (w.alloc (.cells #[.int .i64 g, .slice A l.length c, .slice Ap ps.length cp] 27)).alloc (.cells #[.slice At t.length ct, .slice Ag gs.length cg, .int .i64 lost, .int .i64 wrong] 30) = W at hf0 c0 d0 ⊢
 generalize w.heap.size = b at c0 d0
 have v0 := c0.at_ 0 (v := .int .i64 g) rfl
 have v1 := c0.at_ 1 (v := .slice A l.length c) rfl
 have v2 := c0.at_ 2 (v := .slice Ap ps.length cp) rfl
 have y0 := d0.at_ 0 (v := .slice At t.length ct) rfl
 have y1 := d0.at_ 1 (v := .slice Ag gs.length cg) rfl
 have y2 := d0.at_ 2 (v := .int .i64 lost) rfl
 have y3 := d0.at_ 3 (v := .int .i64 wrong) rfl
 have HF := Lib.hid hf0
 clear c0 d0 hf0
 go_wp2_with (go_at_call 28; refine (HAL.out W HF.out).mono ?_; rintro e W1 ⟨z0, rfl, hV1, hb1⟩; (have HV1 := Lib.hid hV1); (have HB1 := Lib.hid hb1); clear hV1 hb1)
 have hsz : w.heap.size ≤ (W.alloc (.cells #[.slice At t.length ct, .slice Ag gs.length cg, .int .i64 lost, .int .i64 wrong] 30)).heap.size := (HF.out.alloc _).size
 refine bodyPost_ret (v := .tuple #[z0, .int .i64 ST.2]) (by simp [results, Tryd.results18, go_sem]) rfl ⟨_, rfl, Kd.V_mono HV1.out (fun k hk => Nat.le_trans hsz hk), (fr_below (HF.out.alloc _)).trans (HB1.out.mono hsz)⟩
set_option maxHeartbeats 4000000 in
set_option maxRecDepth 100000 in
theorem begins21 (g : Int) (A : Option Addr) (c : Nat) (l : List S114) (Ap : Option Addr) (cp : Nat) (ps : List S62) (piece : Int) (At : Option Addr) (ct : Nat) (t : List Int) (Ag : Option Addr) (cg : Nat) (gs : List Int) (lost wrong : Int) (w : World) (hB : HBook w A c l Ap cp ps) (hN : Note w At ct t Ag cg gs) :
  Calls Tryd.prog 21 #[.agg #[.int .i64 g, .slice A l.length c, .slice Ap ps.length cp], .int .i64 piece, .agg #[.slice At t.length ct, .slice Ag gs.length cg, .int .i64 lost, .int .i64 wrong]] w fun e w' => ∃ v0, e = .returned (.tuple #[v0, .int .i64 (stroF g l ps piece t gs lost wrong 0).2]) ∧ Kd.V (Kd.int .i64) 3 w' w.heap.size (fun k => w.heap.size ≤ k) v0 (stroF g l ps piece t gs lost wrong 0).1 ∧ Fr0 w w' := by
 have hf0 : Fr0 w ((w.alloc (.cells #[.int .i64 g, .slice A l.length c, .slice Ap ps.length cp] 27)).alloc (.cells #[.slice At t.length ct, .slice Ag gs.length cg, .int .i64 lost, .int .i64 wrong] 30)) := ((Fr.refl _ _).alloc _).alloc _
 have c0 : Bx ((w.alloc (.cells #[.int .i64 g, .slice A l.length c, .slice Ap ps.length cp] 27)).alloc (.cells #[.slice At t.length ct, .slice Ag gs.length cg, .int .i64 lost, .int .i64 wrong] 30)) w.heap.size 27 #[.int .i64 g, .slice A l.length c, .slice Ap ps.length cp] := (Bx.of_new rfl).alloc _
 have d0 : Bx ((w.alloc (.cells #[.int .i64 g, .slice A l.length c, .slice Ap ps.length cp] 27)).alloc (.cells #[.slice At t.length ct, .slice Ag gs.length cg, .int .i64 lost, .int .i64 wrong] 30)) (w.heap.size + 1) 30 #[.slice At t.length ct, .slice Ag gs.length cg, .int .i64 lost, .int .i64 wrong] := Bx.of_new (by simp)
 have HAL := Lib.hid (fun W (hf : Fr0 w W) => strokes26 g A c l Ap cp ps piece At ct t Ag cg gs lost wrong 0 W (hB.fr hf) (hN.fr hf))
 generalize stroF g l ps piece t gs lost wrong 0 = ST at *
 clear hB hN
 go_enter Tryd.func21, Tryd.ntmps21
 go_upto_region 1 with fail
 generalize (w.alloc (.cells #[.int .i64 g, .slice A l.length c, .slice Ap ps.length cp] 27)).alloc (.cells #[.slice At t.length ct, .slice Ag gs.length cg, .int .i64 lost, .int .i64 wrong] 30) = W at hf0 c0 d0 ⊢
 generalize w.heap.size = b at c0 d0
 have v0 := c0.at_ 0 (v := .int .i64 g) rfl
 have v1 := c0.at_ 1 (v := .slice A l.length c) rfl
 have v2 := c0.at_ 2 (v := .slice Ap ps.length cp) rfl
 have y0 := d0.at_ 0 (v := .slice At t.length ct) rfl
 have y1 := d0.at_ 1 (v := .slice Ag gs.length cg) rfl
 have y2 := d0.at_ 2 (v := .int .i64 lost) rfl
 have y3 := d0.at_ 3 (v := .int .i64 wrong) rfl
 have HF := Lib.hid hf0
 clear c0 d0 hf0
 go_wp2_with (go_at_call 26; refine (HAL.out W HF.out).mono ?_; rintro e W1 ⟨z0, rfl, hV1, hf1⟩; (have HV1 := Lib.hid hV1); (have HF1 := Lib.hid hf1); clear hV1 hf1)
 refine bodyPost_ret (v := .tuple #[z0, .int .i64 ST.2]) (by simp [results, Tryd.results21, go_sem]) rfl ⟨_, rfl, Kd.V_mono HV1.out (fun k hk => Nat.le_trans HF.out.size hk), Fr0.trans HF.out HF1.out⟩
end Go.Proofs.YtfdenclnneigfaaDoor.R
