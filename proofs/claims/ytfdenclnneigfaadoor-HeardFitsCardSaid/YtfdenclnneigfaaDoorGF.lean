import Derived.Test.YtfdenclnneigfaaDoorGE
import Derived.Test.YtfdenclnneigfaaDoorHF
import Derived.Test.YtfdenclnneigfaaDoorM0
set_option linter.unusedVariables false
set_option linter.unusedSimpArgs false
namespace Go.Proofs.YtfdenclnneigfaaDoor.R
open Go.RowKit Go.Shelf Go.Proofs.YtfdenclnneigfaaDoorW.PrintWords Go.Proofs.YtfdenclnneigfaaDoorW.PrintLast Go.Proofs.YtfdenclnneigfaaDoorW.PrintMore Go.Proofs.YtfdenclnneigfaaDoor.PRaspKeys Go.Proofs.YtfdenclnneigfaaDoor.X Go.Proofs.YtfdenclnneigfaaDoor.M
attribute [local go_sem] Oper.semAt_some
/-! ### The examples: their parts -/
def FM : List S114 := [⟨8, [[7], [3, 7], [0, 2, 4, 6]]⟩, ⟨4, [[3], [1], [0, 2]]⟩]
def PC : List S62 := [⟨1, [0, 2, 4, 2, 1, 0]⟩, ⟨0, [0, 2, 3, 2, 4, 2, 1]⟩, ⟨1, [4, 2, 1, 0, 2]⟩]
theorem mk_book (w : World) (hG : Glob w) : Calls Tryd.prog 49 #[] w fun e w' => ∃ A c Ap cp, e = .returned (.agg #[.int .i64 3, .slice A 2 c, .slice Ap 3 cp]) ∧ HBook w' A c FM Ap cp PC ∧ Fr0 w w' := by
 refine (saronlaw09_book.calls 3 FM PC w rfl).mono ?_
 rintro e w' ⟨v1, v2, rfl, h1, h2, hb⟩
 obtain ⟨A, c, rfl⟩ := Kd.N_slice h1
 obtain ⟨Ap, cp, rfl⟩ := Kd.N_slice h2
 have r1 := Kd.N_reads' h1
 have r2 := Kd.N_reads' h2
 have hf : Fr0 w w' := Go.Proofs.YtfdenclnneigfaaDoor.X.Fr.of_below hb
 exact ⟨A, c, Ap, cp, rfl, ⟨⟨r1.2.2, r1.2.1, hG.fr hf⟩, r2.2.2, r2.2.1⟩, hf⟩
theorem mk_first (a b : Int) (w : World) : Calls Tryd.prog 51 #[.int .i64 a, .int .i64 b] w fun e w' => ∃ At ct Ag cg, e = .returned (.agg #[.slice At 3 ct, .slice Ag 0 cg, .int .i64 a, .int .i64 b]) ∧ Note w' At ct [2, 4, 1] Ag cg [] ∧ Fr0 w w' := by
 refine (saronlaw09_first.calls a b [2, 4, 1] [] a b w rfl).mono ?_
 rintro e w' ⟨v1, v2, rfl, h1, h2, hb⟩
 obtain ⟨A, c, rfl⟩ := Kd.R_slice h1
 obtain ⟨Ap, cp, rfl⟩ := Kd.R_slice h2
 have r1 := Kd.R_reads' h1
 have r2 := Kd.R_reads' h2
 exact ⟨A, c, Ap, cp, rfl, ⟨r1.2.2, r1.2.1, r2.2.2, r2.2.1⟩, Go.Proofs.YtfdenclnneigfaaDoor.X.Fr.of_below hb⟩
theorem C_ints' (xs : List Int) {w : World} {g : Nat} {t : TypeId} {cells : Array Value} (h : Bx w g t cells) (hc : cells = (xs.map (Value.int .i64)).toArray) (hl : xs.length ≤ 9223372036854775807) : Kd.C (Kd.int .i64) w (some ⟨g, 0, none⟩) xs.length xs := by
 refine ⟨rfl, hl, fun _ => ⟨_, rfl, fun j p hp => ?_⟩⟩
 refine ⟨[.int .i64 p], rfl, rfl, ?_⟩
 rintro (_ | i) u hu
 ·obtain rfl := Option.some.inj hu
  have := h.at_ j (v := .int .i64 p) (by rw [hc]; simp [hp])
  rw [show j * (Kd.int .i64).sz + 0 = j by show j * 1 + 0 = j; omega, add_at]
  exact this
 ·simp at hu
theorem ints_new (w : World) (b : Nat) (t : TypeId) (xs : List Int) (cells : Array Value) (hc : cells = (xs.map (Value.int .i64)).toArray) (hl : xs.length ≤ 9223372036854775807) (hb : b = w.heap.size := by simp) : Kd.C (Kd.int .i64) (w.alloc (.cells cells t)) (some ⟨b, 0, none⟩) xs.length xs :=
 C_ints' xs (Bx.of_new hb) hc hl
set_option maxHeartbeats 2000000 in
theorem third50 (Ag : Option Addr) (cg : Nat) (gs : List Int) (w : World) (hr : Kd.C (Kd.int .i64) w Ag gs.length gs) (hc : gs.length ≤ cg) : Calls Tryd.prog 50 #[.slice Ag gs.length cg] w fun e w' => ∃ At, e = .returned (.agg #[.slice At 2 2, .slice Ag gs.length cg, .int .i64 1, .int .i64 0]) ∧ Note w' At 2 [2, 2] Ag cg gs ∧ Fr0 w w' := by
 have HR := Lib.hid hr
 clear hr
 go_enter Tryd.func50, Tryd.ntmps50
 go_wp2
 have h0 : Fr0 w ((w.alloc (.cells #[.slice (some ⟨w.heap.size + 1, 0, none⟩) 2 2, .slice Ag gs.length cg, .int .i64 1, .int .i64 0] 30)).alloc (.cells #[.int .i64 2, .int .i64 2] 3)) := ((Fr.refl _ _).alloc _).alloc _
 refine bodyPost_ret (results_cell_row rfl _ _ w.heap.size 30 #[.slice (some ⟨w.heap.size + 1, 0, none⟩) 2 2, .slice Ag gs.length cg, .int .i64 1, .int .i64 0] (0, 0) _ rfl ((Bx.of_new rfl).alloc _) Tryd.underlying30 rfl (by kernel_rfl)) rfl ⟨_, rfl, ⟨ints_new _ _ 3 [2, 2] _ rfl (by simp), by simp, C_fr HR.out h0, hc⟩, h0⟩
theorem e1 : allF 3 FM PC [⟨[2, 4, 1], [], 0, 1⟩] = ([0, 1], 0) := by kernel_rfl
theorem e2 : allF 3 FM PC [⟨[2, 2], [1], 1, 0⟩] = ([0], 0) := by kernel_rfl
theorem e3 : stroF 3 FM PC 1 [2, 2] [] 1 0 0 = ([1, 3], 0) := by kernel_rfl
theorem e4 : stroF 3 FM PC 1 [2, 2] [] 1 0 1 = ([3, 5], 0) := by kernel_rfl
theorem e5 : leaF 3 FM PC 1 [0, 4] [] 0 0 = (3, 0) := by kernel_rfl
theorem e6 : allF 3 FM PC [⟨[2, 4, 1], [], 1, 0⟩, ⟨[2, 2], [], 1, 0⟩] = ([0, 1], 0) := by kernel_rfl
theorem e7 : heard_Common.f 3 FM PC 0 1 = some (5, 0) := by kernel_rfl
theorem e8 : heard_Whole.f 10 3 FM PC [0, 2, 4, 2, 1] 1 = some ([0], 0) := by kernel_rfl
theorem e9 : heard_Known.f 10 3 FM PC = some (1, 0) := by kernel_rfl
theorem e10 : fitF 3 FM PC 0 [2, 4, 1] [] 1 0 = (true, 0) := by kernel_rfl
theorem no_row (W : World) (A : Option Addr) : Kd.C (Kd.int .i64) W A ([] : List Int).length [] := ⟨rfl, by simp, fun h => absurd h (by simp)⟩
theorem mk_third1 {w : World} {Ag : Option Addr} (hr : Kd.C (Kd.int .i64) w Ag ([1] : List Int).length [1]) : Calls Tryd.prog 50 #[.slice Ag 1 1] w fun e w' => ∃ At, e = .returned (.agg #[.slice At 2 2, .slice Ag 1 1, .int .i64 1, .int .i64 0]) ∧ Note w' At 2 [2, 2] Ag 1 [1] ∧ Fr0 w w' := third50 Ag 1 [1] w hr (Nat.le_refl 1)
theorem mk_third0 (w : World) : Calls Tryd.prog 50 #[.slice none 0 0] w fun e w' => ∃ At, e = .returned (.agg #[.slice At 2 2, .slice none 0 0, .int .i64 1, .int .i64 0]) ∧ Note w' At 2 [2, 2] none 0 [] ∧ Fr0 w w' := third50 none 0 [] w (no_row w none) (Nat.le_refl 0)
theorem note_new (w : World) (b : Nat) (xs : List Int) (cells : Array Value) (hc : cells = (xs.map (Value.int .i64)).toArray) (hl : xs.length ≤ 9223372036854775807) (hb : b = w.heap.size := by simp) : Note (w.alloc (.cells cells 3)) (some ⟨b, 0, none⟩) xs.length xs none 0 [] := ⟨ints_new w b 3 xs cells hc hl hb, Nat.le_refl _, no_row _ _, Nat.le_refl 0⟩
theorem told {w w' : World} {v : Value} {xs : List Int} (h : Kd.V (Kd.int .i64) 3 w' w.heap.size (fun k => w.heap.size ≤ k) v xs) : ∃ A c, v = .slice A xs.length c ∧ Kd.C (Kd.int .i64) w' A xs.length xs ∧ xs.length ≤ c := by
 obtain ⟨A, c, rfl⟩ := Kd.V_slice h
 have r := Kd.V_reads' h
 exact ⟨A, c, rfl, r.2.2, r.2.1⟩
section
variable {w : World} {A Ap At Ag Au : Option Addr} {c cp ct cg : Nat}
theorem mk_p1 (hb : HBook w A c FM Ap cp PC) (hn : Note w At ct [2, 4, 1] Ag cg []) : Calls Tryd.prog 18 #[.agg #[.int .i64 3, .slice A 2 c, .slice Ap 3 cp], .agg #[.slice At 3 ct, .slice Ag 0 cg, .int .i64 0, .int .i64 1]] w fun e w' => ∃ A1 c1, e = .returned (.tuple #[.slice A1 2 c1, .int .i64 0]) ∧ Kd.C (Kd.int .i64) w' A1 2 [0, 1] ∧ 2 ≤ c1 ∧ Fr0 w w' := by
 refine (pieces18 3 A c FM Ap cp PC At ct [2, 4, 1] Ag cg [] 0 1 w hb hn).mono ?_
 rintro e w' ⟨v, rfl, hV, hb⟩
 rw [e1] at hV ⊢
 obtain ⟨A1, c1, rfl, hC, hc⟩ := told hV
 exact ⟨A1, c1, rfl, hC, hc, Go.Proofs.YtfdenclnneigfaaDoor.X.Fr.of_below hb⟩
theorem mk_p2 (hb : HBook w A c FM Ap cp PC) (hn : Note w At 2 [2, 2] Ag 1 [1]) : Calls Tryd.prog 18 #[.agg #[.int .i64 3, .slice A 2 c, .slice Ap 3 cp], .agg #[.slice At 2 2, .slice Ag 1 1, .int .i64 1, .int .i64 0]] w fun e w' => ∃ A1 c1, e = .returned (.tuple #[.slice A1 1 c1, .int .i64 0]) ∧ Kd.C (Kd.int .i64) w' A1 1 [0] ∧ 1 ≤ c1 ∧ Fr0 w w' := by
 refine (pieces18 3 A c FM Ap cp PC At 2 [2, 2] Ag 1 [1] 1 0 w hb hn).mono ?_
 rintro e w' ⟨v, rfl, hV, hb⟩
 rw [e2] at hV ⊢
 obtain ⟨A1, c1, rfl, hC, hc⟩ := told hV
 exact ⟨A1, c1, rfl, hC, hc, Go.Proofs.YtfdenclnneigfaaDoor.X.Fr.of_below hb⟩
theorem mk_b (hb : HBook w A c FM Ap cp PC) (hn : Note w At 2 [2, 2] none 0 []) : Calls Tryd.prog 21 #[.agg #[.int .i64 3, .slice A 2 c, .slice Ap 3 cp], .int .i64 1, .agg #[.slice At 2 2, .slice none 0 0, .int .i64 1, .int .i64 0]] w fun e w' => ∃ A1 c1, e = .returned (.tuple #[.slice A1 2 c1, .int .i64 0]) ∧ Kd.C (Kd.int .i64) w' A1 2 [1, 3] ∧ 2 ≤ c1 ∧ Fr0 w w' := by
 refine (begins21 3 A c FM Ap cp PC 1 At 2 [2, 2] none 0 [] 1 0 w hb hn).mono ?_
 rintro e w' ⟨v, rfl, hV, hf⟩
 rw [e3] at hV ⊢
 obtain ⟨A1, c1, rfl, hC, hc⟩ := told hV
 exact ⟨A1, c1, rfl, hC, hc, hf⟩
theorem mk_s (hb : HBook w A c FM Ap cp PC) (hn : Note w At 2 [2, 2] none 0 []) : Calls Tryd.prog 26 #[.agg #[.int .i64 3, .slice A 2 c, .slice Ap 3 cp], .int .i64 1, .agg #[.slice At 2 2, .slice none 0 0, .int .i64 1, .int .i64 0], .int .i64 1] w fun e w' => ∃ A1 c1, e = .returned (.tuple #[.slice A1 2 c1, .int .i64 0]) ∧ Kd.C (Kd.int .i64) w' A1 2 [3, 5] ∧ 2 ≤ c1 ∧ Fr0 w w' := by
 refine (strokes26 3 A c FM Ap cp PC 1 At 2 [2, 2] none 0 [] 1 0 1 w hb hn).mono ?_
 rintro e w' ⟨v, rfl, hV, hf⟩
 rw [e4] at hV ⊢
 obtain ⟨A1, c1, rfl, hC, hc⟩ := told hV
 exact ⟨A1, c1, rfl, hC, hc, hf⟩
theorem mk_le (hb : HBook w A c FM Ap cp PC) (hn : Note w At 2 [0, 4] none 0 []) : Calls Tryd.prog 23 #[.agg #[.int .i64 3, .slice A 2 c, .slice Ap 3 cp], .int .i64 1, .agg #[.slice At 2 2, .slice none 0 0, .int .i64 0, .int .i64 0]] w fun e w' => e = .returned (.tuple #[.int .i64 3, .int .i64 0]) ∧ Fr0 w w' := by
 have h := least23 3 A c FM Ap cp PC 1 At 2 [0, 4] none 0 [] 0 0 w hb hn
 rw [e5] at h
 exact h
theorem mk_f (hb : HBook w A c FM Ap cp PC) (hn : Note w At ct [2, 4, 1] Ag cg []) : Calls Tryd.prog 14 #[.agg #[.int .i64 3, .slice A 2 c, .slice Ap 3 cp], .int .i64 0, .agg #[.slice At 3 ct, .slice Ag 0 cg, .int .i64 1, .int .i64 0]] w fun e w' => e = .returned (.tuple #[.bool true, .int .i64 0]) ∧ Fr0 w w' := by
 have h := fits14 3 A c FM Ap cp PC 0 At ct [2, 4, 1] Ag cg [] 1 0 w hb hn
 rw [e10] at h
 exact h
theorem mk_c (hb : HBook w A c FM Ap cp PC) : Calls Tryd.prog 30 #[.agg #[.int .i64 3, .slice A 2 c, .slice Ap 3 cp], .int .i64 0, .int .i64 1] w fun e w' => e = .returned (.tuple #[.int .i64 5, .int .i64 0]) ∧ Fr0 w w' :=
 (heard_Common.calls 3 A c FM Ap cp PC 0 1 5 0 w hb.bk.r hb.bk.c hb.r hb.c hb.bk.glob e7).mono fun e w' h => ⟨h.1, Go.Proofs.YtfdenclnneigfaaDoor.X.Fr.of_below h.2⟩
theorem mk_k (hb : HBook w A c FM Ap cp PC) : Calls Tryd.prog 34 #[.agg #[.int .i64 3, .slice A 2 c, .slice Ap 3 cp]] w fun e w' => e = .returned (.tuple #[.int .i64 1, .int .i64 0]) ∧ Fr0 w w' :=
 (heard_Known.calls 10 3 A c FM Ap cp PC 1 0 w hb.bk.r hb.bk.c hb.r hb.c hb.bk.glob e9).mono fun e w' h => ⟨h.1, Go.Proofs.YtfdenclnneigfaaDoor.X.Fr.of_below h.2⟩
theorem mk_w (hb : HBook w A c FM Ap cp PC) (hn : Kd.C (Kd.int .i64) w At ([0, 2, 4, 2, 1] : List Int).length [0, 2, 4, 2, 1]) : Calls Tryd.prog 32 #[.agg #[.int .i64 3, .slice A 2 c, .slice Ap 3 cp], .slice At 5 5, .int .i64 1] w fun e w' => ∃ A1 c1, e = .returned (.tuple #[.slice A1 1 c1, .int .i64 0]) ∧ Kd.C (Kd.int .i64) w' A1 1 [0] ∧ 1 ≤ c1 ∧ Fr0 w w' := by
 refine (heard_Whole.calls 10 3 A c FM Ap cp PC At 5 [0, 2, 4, 2, 1] 1 [0] 0 w hb.bk.r hb.bk.c hb.r hb.c hn (Nat.le_refl 5) hb.bk.glob e8).mono ?_
 rintro e w' ⟨v, rfl, hV, hf⟩
 obtain ⟨A1, c1, rfl, hC, hc⟩ := told hV
 exact ⟨A1, c1, rfl, hC, hc, Go.Proofs.YtfdenclnneigfaaDoor.X.Fr.of_below hf⟩
theorem two_notes {W : World} {b : Nat} (hb : b = w.heap.size) (hn : Note w At ct [2, 4, 1] Ag cg []) (hm : Note w Au 2 [2, 2] none 0 []) (hW : W = w.alloc (.cells #[.slice At 3 ct, .slice Ag 0 cg, .int .i64 1, .int .i64 0, .slice Au 2 2, .slice none 0 0, .int .i64 1, .int .i64 0] 30)) : Kd.C k30 W (some ⟨b, 0, none⟩) 2 [⟨[2, 4, 1], [], 1, 0⟩, ⟨[2, 2], [], 1, 0⟩] := by
 subst hb hW
 have hf : Fr0 w (w.alloc (.cells #[.slice At 3 ct, .slice Ag 0 cg, .int .i64 1, .int .i64 0, .slice Au 2 2, .slice none 0 0, .int .i64 1, .int .i64 0] 30)) := (Fr.refl _ _).alloc _
 have hb := Bx.new w 30 #[.slice At 3 ct, .slice Ag 0 cg, .int .i64 1, .int .i64 0, .slice Au 2 2, .slice none 0 0, .int .i64 1, .int .i64 0]
 refine ⟨rfl, by simp, fun _ => ⟨_, rfl, ?_⟩⟩
 rintro (_ | _ | j) p hp
 ·obtain rfl := Option.some.inj hp
  refine ⟨[.slice At 3 ct, .slice Ag 0 cg, .int .i64 1, .int .i64 0], rfl, k30_mk _ ⟨[2, 4, 1], [], 1, 0⟩ hn.ct (C_fr hn.rt hf) hn.cg (C_fr hn.rg hf), ?_⟩
  rintro (_ | _ | _ | _ | i) u hu
  ·obtain rfl := Option.some.inj hu; exact hb.at_ 0 rfl
  ·obtain rfl := Option.some.inj hu; exact hb.at_ 1 rfl
  ·obtain rfl := Option.some.inj hu; exact hb.at_ 2 rfl
  ·obtain rfl := Option.some.inj hu; exact hb.at_ 3 rfl
  ·simp at hu
 ·obtain rfl := Option.some.inj hp
  refine ⟨[.slice Au 2 2, .slice none 0 0, .int .i64 1, .int .i64 0], rfl, k30_mk _ ⟨[2, 2], [], 1, 0⟩ hm.ct (C_fr hm.rt hf) hm.cg (C_fr hm.rg hf), ?_⟩
  rintro (_ | _ | _ | _ | i) u hu
  ·obtain rfl := Option.some.inj hu; exact hb.at_ 4 rfl
  ·obtain rfl := Option.some.inj hu; exact hb.at_ 5 rfl
  ·obtain rfl := Option.some.inj hu; exact hb.at_ 6 rfl
  ·obtain rfl := Option.some.inj hu; exact hb.at_ 7 rfl
  ·simp at hu
 ·simp at hp
theorem mk_a2 {W : World} (hb : HBook W A c FM Ap cp PC) (hn : Note w At ct [2, 4, 1] Ag cg []) (hm : Note w Au 2 [2, 2] none 0 []) (he : W = w.alloc (.cells #[.slice At 3 ct, .slice Ag 0 cg, .int .i64 1, .int .i64 0, .slice Au 2 2, .slice none 0 0, .int .i64 1, .int .i64 0] 30)) : Calls Tryd.prog 28 #[.agg #[.int .i64 3, .slice A 2 c, .slice Ap 3 cp], .slice (some ⟨w.heap.size, 0, none⟩) 2 2] W fun e w' => ∃ A1 c1, e = .returned (.tuple #[.slice A1 2 c1, .int .i64 0]) ∧ Kd.C (Kd.int .i64) w' A1 2 [0, 1] ∧ 2 ≤ c1 ∧ Fr0 W w' := by
 refine (all28 3 A c FM Ap cp PC (some ⟨w.heap.size, 0, none⟩) 2 [⟨[2, 4, 1], [], 1, 0⟩, ⟨[2, 2], [], 1, 0⟩] W hb (two_notes rfl hn hm he) (Nat.le_refl 2)).mono ?_
 rintro e w' ⟨v, rfl, hV, hb⟩
 rw [e6] at hV ⊢
 obtain ⟨A1, c1, rfl, hC, hc⟩ := told hV
 exact ⟨A1, c1, rfl, hC, hc, Go.Proofs.YtfdenclnneigfaaDoor.X.Fr.of_below hb⟩
end
end Go.Proofs.YtfdenclnneigfaaDoor.R
namespace Go.Proofs.YtfdenclnneigfaaDoor.R
open Go.RowKit Go.Shelf Go.Proofs.YtfdenclnneigfaaDoorW.PrintWords Go.Proofs.YtfdenclnneigfaaDoorW.PrintLast Go.Proofs.YtfdenclnneigfaaDoorW.PrintMore Go.Proofs.YtfdenclnneigfaaDoor.PRaspKeys Go.Proofs.YtfdenclnneigfaaDoor.X Go.Proofs.YtfdenclnneigfaaDoor.M
attribute [local go_sem] Oper.semAt_some
/-! ### The examples -/
theorem mk_dr {w w' : World} (h : Drawn0 w w') : Fr0 w w' := by obtain ⟨n, rfl⟩ := h; exact (Fr.refl _ _).drewN n
theorem mk_equal {w : World} {A B : Option Addr} {n c d : Nat} {xs : List Int} (hA : Kd.C (Kd.int .i64) w A n xs) (hc : n ≤ c) (hB : Kd.C (Kd.int .i64) w B n xs) (hd : n ≤ d) (he : saronref00_Equal.f 10 xs xs = some true) :
  Calls Tryd.prog 20 #[.slice A n c, .slice B n d] w fun e w' => e = .returned (.bool true) ∧ Fr0 w w' := by
 obtain rfl := hA.1
 exact (saronref00_Equal.calls 10 A c xs B d xs true w hA hc hB hd he).mono fun e w' h => ⟨h.1, mk_dr h.2⟩
set_option maxHeartbeats 8000000 in
set_option maxRecDepth 100000 in
theorem listened25 (w : World) (hG : Glob w) : Calls Tryd.prog 25 #[] w fun e w' => e = .returned (.bool true) ∧ Below w.heap.size w w' := by
 have HG := Lib.hid hG
 have HF := Lib.hid (Fr.refl (fun _ => False) w)
 clear hG
 go_enter Tryd.func25, Tryd.ntmps25
 go_upto_region 2 with (first
   | (go_at_call 49; refine (mk_book _ ?hg).mono ?_; (case hg => exact HG.out.fr TFr); rintro e W ⟨A, c, Ap, cp, rfl, hBk, hf⟩; (have HF := Lib.hid (Fr0.trans (Fr0.trans HF.out TFr) hf)); (have HG := Lib.hid (HG.out.fr (Fr0.trans TFr hf))); (try have HL1 := Lib.hid (C_fr HL1.out (Fr0.trans TFr hf))); (try have HL2 := Lib.hid (C_fr HL2.out (Fr0.trans TFr hf))); (try have HL3 := Lib.hid (C_fr HL3.out (Fr0.trans TFr hf))); (try have HL4 := Lib.hid (C_fr HL4.out (Fr0.trans TFr hf))); (try have HL5 := Lib.hid (C_fr HL5.out (Fr0.trans TFr hf))); (try have HL6 := Lib.hid (C_fr HL6.out (Fr0.trans TFr hf))); (have HBK := Lib.hid hBk); clear hBk; clear hf)
   | (go_at_call 51; refine (mk_first _ _ _).mono ?_; rintro e W ⟨At, ct, Ag, cg, rfl, hN, hf⟩; (have HF := Lib.hid (Fr0.trans (Fr0.trans HF.out TFr) hf)); (have HG := Lib.hid (HG.out.fr (Fr0.trans TFr hf))); (try have HL1 := Lib.hid (C_fr HL1.out (Fr0.trans TFr hf))); (try have HL2 := Lib.hid (C_fr HL2.out (Fr0.trans TFr hf))); (try have HL3 := Lib.hid (C_fr HL3.out (Fr0.trans TFr hf))); (try have HL4 := Lib.hid (C_fr HL4.out (Fr0.trans TFr hf))); (try have HL5 := Lib.hid (C_fr HL5.out (Fr0.trans TFr hf))); (try have HL6 := Lib.hid (C_fr HL6.out (Fr0.trans TFr hf))); (try have HBK := Lib.hid (HBK.out.fr (Fr0.trans TFr hf))); (try have HNO := Lib.hid (HNO.out.fr (Fr0.trans TFr hf))); (have HNO := Lib.hid hN); clear hN; clear hf)
   | (go_at_call 18; refine (mk_p1 ?hb ?hn).mono ?_; (case hb => exact HBK.out.fr TFr); (case hn => exact HNO.out.fr TFr); rintro e W ⟨A1, c1, rfl, hL, hc1, hf⟩; (have HF := Lib.hid (Fr0.trans (Fr0.trans HF.out TFr) hf)); (have HG := Lib.hid (HG.out.fr (Fr0.trans TFr hf))); (try have HL1 := Lib.hid (C_fr HL1.out (Fr0.trans TFr hf))); (try have HL2 := Lib.hid (C_fr HL2.out (Fr0.trans TFr hf))); (try have HL3 := Lib.hid (C_fr HL3.out (Fr0.trans TFr hf))); (try have HL4 := Lib.hid (C_fr HL4.out (Fr0.trans TFr hf))); (try have HL5 := Lib.hid (C_fr HL5.out (Fr0.trans TFr hf))); (try have HL6 := Lib.hid (C_fr HL6.out (Fr0.trans TFr hf))); (try have HBK := Lib.hid (HBK.out.fr (Fr0.trans TFr hf))); (try have HNO := Lib.hid (HNO.out.fr (Fr0.trans TFr hf))); (have HL1 := Lib.hid hL); clear hL; clear hf))
 repeat (clear HBK)
 repeat (clear HNO)
 repeat (clear HNP)
 go_upto_region 3 with (first
   | (go_at_call 49; refine (mk_book _ ?hg).mono ?_; (case hg => exact HG.out.fr TFr); rintro e W ⟨A, c, Ap, cp, rfl, hBk, hf⟩; (have HF := Lib.hid (Fr0.trans (Fr0.trans HF.out TFr) hf)); (have HG := Lib.hid (HG.out.fr (Fr0.trans TFr hf))); (try have HL1 := Lib.hid (C_fr HL1.out (Fr0.trans TFr hf))); (try have HL2 := Lib.hid (C_fr HL2.out (Fr0.trans TFr hf))); (try have HL3 := Lib.hid (C_fr HL3.out (Fr0.trans TFr hf))); (try have HL4 := Lib.hid (C_fr HL4.out (Fr0.trans TFr hf))); (try have HL5 := Lib.hid (C_fr HL5.out (Fr0.trans TFr hf))); (try have HL6 := Lib.hid (C_fr HL6.out (Fr0.trans TFr hf))); (have HBK := Lib.hid hBk); clear hBk; clear hf)
   | (go_at_call 50; refine (mk_third1 ?hr).mono ?_; (case hr => exact ints_new _ _ 3 [1] _ rfl (by simp)); rintro e W ⟨At, rfl, hN, hf⟩; (have HF := Lib.hid (Fr0.trans (Fr0.trans HF.out TFr) hf)); (have HG := Lib.hid (HG.out.fr (Fr0.trans TFr hf))); (try have HL1 := Lib.hid (C_fr HL1.out (Fr0.trans TFr hf))); (try have HL2 := Lib.hid (C_fr HL2.out (Fr0.trans TFr hf))); (try have HL3 := Lib.hid (C_fr HL3.out (Fr0.trans TFr hf))); (try have HL4 := Lib.hid (C_fr HL4.out (Fr0.trans TFr hf))); (try have HL5 := Lib.hid (C_fr HL5.out (Fr0.trans TFr hf))); (try have HL6 := Lib.hid (C_fr HL6.out (Fr0.trans TFr hf))); (try have HBK := Lib.hid (HBK.out.fr (Fr0.trans TFr hf))); (try have HNO := Lib.hid (HNO.out.fr (Fr0.trans TFr hf))); (have HNO := Lib.hid hN); clear hN; clear hf)
   | (go_at_call 18; refine (mk_p2 ?hb ?hn).mono ?_; (case hb => exact HBK.out.fr TFr); (case hn => exact HNO.out.fr TFr); rintro e W ⟨A2, c2, rfl, hL, hc2, hf⟩; (have HF := Lib.hid (Fr0.trans (Fr0.trans HF.out TFr) hf)); (have HG := Lib.hid (HG.out.fr (Fr0.trans TFr hf))); (try have HL1 := Lib.hid (C_fr HL1.out (Fr0.trans TFr hf))); (try have HL2 := Lib.hid (C_fr HL2.out (Fr0.trans TFr hf))); (try have HL3 := Lib.hid (C_fr HL3.out (Fr0.trans TFr hf))); (try have HL4 := Lib.hid (C_fr HL4.out (Fr0.trans TFr hf))); (try have HL5 := Lib.hid (C_fr HL5.out (Fr0.trans TFr hf))); (try have HL6 := Lib.hid (C_fr HL6.out (Fr0.trans TFr hf))); (try have HBK := Lib.hid (HBK.out.fr (Fr0.trans TFr hf))); (try have HNO := Lib.hid (HNO.out.fr (Fr0.trans TFr hf))); (have HL2 := Lib.hid hL); clear hL; clear hf))
 repeat (clear HBK)
 repeat (clear HNO)
 repeat (clear HNP)
 go_upto_region 4 with (first
   | (go_at_call 49; refine (mk_book _ ?hg).mono ?_; (case hg => exact HG.out.fr TFr); rintro e W ⟨A, c, Ap, cp, rfl, hBk, hf⟩; (have HF := Lib.hid (Fr0.trans (Fr0.trans HF.out TFr) hf)); (have HG := Lib.hid (HG.out.fr (Fr0.trans TFr hf))); (try have HL1 := Lib.hid (C_fr HL1.out (Fr0.trans TFr hf))); (try have HL2 := Lib.hid (C_fr HL2.out (Fr0.trans TFr hf))); (try have HL3 := Lib.hid (C_fr HL3.out (Fr0.trans TFr hf))); (try have HL4 := Lib.hid (C_fr HL4.out (Fr0.trans TFr hf))); (try have HL5 := Lib.hid (C_fr HL5.out (Fr0.trans TFr hf))); (try have HL6 := Lib.hid (C_fr HL6.out (Fr0.trans TFr hf))); (have HBK := Lib.hid hBk); clear hBk; clear hf)
   | (go_at_call 50; refine (mk_third0 _).mono ?_; rintro e W ⟨At, rfl, hN, hf⟩; (have HF := Lib.hid (Fr0.trans (Fr0.trans HF.out TFr) hf)); (have HG := Lib.hid (HG.out.fr (Fr0.trans TFr hf))); (try have HL1 := Lib.hid (C_fr HL1.out (Fr0.trans TFr hf))); (try have HL2 := Lib.hid (C_fr HL2.out (Fr0.trans TFr hf))); (try have HL3 := Lib.hid (C_fr HL3.out (Fr0.trans TFr hf))); (try have HL4 := Lib.hid (C_fr HL4.out (Fr0.trans TFr hf))); (try have HL5 := Lib.hid (C_fr HL5.out (Fr0.trans TFr hf))); (try have HL6 := Lib.hid (C_fr HL6.out (Fr0.trans TFr hf))); (try have HBK := Lib.hid (HBK.out.fr (Fr0.trans TFr hf))); (try have HNO := Lib.hid (HNO.out.fr (Fr0.trans TFr hf))); (have HNO := Lib.hid hN); clear hN; clear hf)
   | (go_at_call 21; refine (mk_b ?hb ?hn).mono ?_; (case hb => exact HBK.out.fr TFr); (case hn => exact HNO.out.fr TFr); rintro e W ⟨A3, c3, rfl, hL, hc3, hf⟩; (have HF := Lib.hid (Fr0.trans (Fr0.trans HF.out TFr) hf)); (have HG := Lib.hid (HG.out.fr (Fr0.trans TFr hf))); (try have HL1 := Lib.hid (C_fr HL1.out (Fr0.trans TFr hf))); (try have HL2 := Lib.hid (C_fr HL2.out (Fr0.trans TFr hf))); (try have HL3 := Lib.hid (C_fr HL3.out (Fr0.trans TFr hf))); (try have HL4 := Lib.hid (C_fr HL4.out (Fr0.trans TFr hf))); (try have HL5 := Lib.hid (C_fr HL5.out (Fr0.trans TFr hf))); (try have HL6 := Lib.hid (C_fr HL6.out (Fr0.trans TFr hf))); (try have HBK := Lib.hid (HBK.out.fr (Fr0.trans TFr hf))); (try have HNO := Lib.hid (HNO.out.fr (Fr0.trans TFr hf))); (have HL3 := Lib.hid hL); clear hL; clear hf))
 repeat (clear HBK)
 repeat (clear HNO)
 repeat (clear HNP)
 go_upto_region 5 with (first
   | (go_at_call 49; refine (mk_book _ ?hg).mono ?_; (case hg => exact HG.out.fr TFr); rintro e W ⟨A, c, Ap, cp, rfl, hBk, hf⟩; (have HF := Lib.hid (Fr0.trans (Fr0.trans HF.out TFr) hf)); (have HG := Lib.hid (HG.out.fr (Fr0.trans TFr hf))); (try have HL1 := Lib.hid (C_fr HL1.out (Fr0.trans TFr hf))); (try have HL2 := Lib.hid (C_fr HL2.out (Fr0.trans TFr hf))); (try have HL3 := Lib.hid (C_fr HL3.out (Fr0.trans TFr hf))); (try have HL4 := Lib.hid (C_fr HL4.out (Fr0.trans TFr hf))); (try have HL5 := Lib.hid (C_fr HL5.out (Fr0.trans TFr hf))); (try have HL6 := Lib.hid (C_fr HL6.out (Fr0.trans TFr hf))); (have HBK := Lib.hid hBk); clear hBk; clear hf)
   | (go_at_call 50; refine (mk_third0 _).mono ?_; rintro e W ⟨At, rfl, hN, hf⟩; (have HF := Lib.hid (Fr0.trans (Fr0.trans HF.out TFr) hf)); (have HG := Lib.hid (HG.out.fr (Fr0.trans TFr hf))); (try have HL1 := Lib.hid (C_fr HL1.out (Fr0.trans TFr hf))); (try have HL2 := Lib.hid (C_fr HL2.out (Fr0.trans TFr hf))); (try have HL3 := Lib.hid (C_fr HL3.out (Fr0.trans TFr hf))); (try have HL4 := Lib.hid (C_fr HL4.out (Fr0.trans TFr hf))); (try have HL5 := Lib.hid (C_fr HL5.out (Fr0.trans TFr hf))); (try have HL6 := Lib.hid (C_fr HL6.out (Fr0.trans TFr hf))); (try have HBK := Lib.hid (HBK.out.fr (Fr0.trans TFr hf))); (try have HNO := Lib.hid (HNO.out.fr (Fr0.trans TFr hf))); (have HNO := Lib.hid hN); clear hN; clear hf)
   | (go_at_call 26; refine (mk_s ?hb ?hn).mono ?_; (case hb => exact HBK.out.fr TFr); (case hn => exact HNO.out.fr TFr); rintro e W ⟨A4, c4, rfl, hL, hc4, hf⟩; (have HF := Lib.hid (Fr0.trans (Fr0.trans HF.out TFr) hf)); (have HG := Lib.hid (HG.out.fr (Fr0.trans TFr hf))); (try have HL1 := Lib.hid (C_fr HL1.out (Fr0.trans TFr hf))); (try have HL2 := Lib.hid (C_fr HL2.out (Fr0.trans TFr hf))); (try have HL3 := Lib.hid (C_fr HL3.out (Fr0.trans TFr hf))); (try have HL4 := Lib.hid (C_fr HL4.out (Fr0.trans TFr hf))); (try have HL5 := Lib.hid (C_fr HL5.out (Fr0.trans TFr hf))); (try have HL6 := Lib.hid (C_fr HL6.out (Fr0.trans TFr hf))); (try have HBK := Lib.hid (HBK.out.fr (Fr0.trans TFr hf))); (try have HNO := Lib.hid (HNO.out.fr (Fr0.trans TFr hf))); (have HL4 := Lib.hid hL); clear hL; clear hf))
 repeat (clear HBK)
 repeat (clear HNO)
 repeat (clear HNP)
 go_upto_region 7 with (first
   | (go_at_call 20; (first | (with_reducible refine (mk_equal (C_fr HL1.out ?hf) hc1 ?hb ?hd ?he).mono ?_) | (with_reducible refine (mk_equal (C_fr HL2.out ?hf) hc2 ?hb ?hd ?he).mono ?_) | (with_reducible refine (mk_equal (C_fr HL3.out ?hf) hc3 ?hb ?hd ?he).mono ?_) | (with_reducible refine (mk_equal (C_fr HL4.out ?hf) hc4 ?hb ?hd ?he).mono ?_)); (case hf => exact TFr); (case hb => exact ints_new _ _ 3 _ _ rfl (by simp)); (case hd => simp); (case he => kernel_rfl); rintro e W ⟨rfl, hf⟩; (have HF := Lib.hid (Fr0.trans (Fr0.trans HF.out TFr) hf)); (have HG := Lib.hid (HG.out.fr (Fr0.trans TFr hf))); (try have HL1 := Lib.hid (C_fr HL1.out (Fr0.trans TFr hf))); (try have HL2 := Lib.hid (C_fr HL2.out (Fr0.trans TFr hf))); (try have HL3 := Lib.hid (C_fr HL3.out (Fr0.trans TFr hf))); (try have HL4 := Lib.hid (C_fr HL4.out (Fr0.trans TFr hf))); (try have HL5 := Lib.hid (C_fr HL5.out (Fr0.trans TFr hf))); (try have HL6 := Lib.hid (C_fr HL6.out (Fr0.trans TFr hf))); (try have HBK := Lib.hid (HBK.out.fr (Fr0.trans TFr hf))); (try have HNO := Lib.hid (HNO.out.fr (Fr0.trans TFr hf))); clear hf))
 go_upto_region 8 with (first
   | (go_at_call 49; refine (mk_book _ ?hg).mono ?_; (case hg => exact HG.out.fr TFr); rintro e W ⟨A, c, Ap, cp, rfl, hBk, hf⟩; (have HF := Lib.hid (Fr0.trans (Fr0.trans HF.out TFr) hf)); (have HG := Lib.hid (HG.out.fr (Fr0.trans TFr hf))); (try have HL1 := Lib.hid (C_fr HL1.out (Fr0.trans TFr hf))); (try have HL2 := Lib.hid (C_fr HL2.out (Fr0.trans TFr hf))); (try have HL3 := Lib.hid (C_fr HL3.out (Fr0.trans TFr hf))); (try have HL4 := Lib.hid (C_fr HL4.out (Fr0.trans TFr hf))); (try have HL5 := Lib.hid (C_fr HL5.out (Fr0.trans TFr hf))); (try have HL6 := Lib.hid (C_fr HL6.out (Fr0.trans TFr hf))); (have HBK := Lib.hid hBk); clear hBk; clear hf)
   | (go_at_call 23; refine (mk_le ?hb ?hn).mono ?_; (case hb => exact HBK.out.fr TFr); (case hn => exact note_new _ _ [0, 4] _ rfl (by simp)); rintro e W ⟨rfl, hf⟩; (have HF := Lib.hid (Fr0.trans (Fr0.trans HF.out TFr) hf)); (have HG := Lib.hid (HG.out.fr (Fr0.trans TFr hf))); (try have HL1 := Lib.hid (C_fr HL1.out (Fr0.trans TFr hf))); (try have HL2 := Lib.hid (C_fr HL2.out (Fr0.trans TFr hf))); (try have HL3 := Lib.hid (C_fr HL3.out (Fr0.trans TFr hf))); (try have HL4 := Lib.hid (C_fr HL4.out (Fr0.trans TFr hf))); (try have HL5 := Lib.hid (C_fr HL5.out (Fr0.trans TFr hf))); (try have HL6 := Lib.hid (C_fr HL6.out (Fr0.trans TFr hf))); (try have HBK := Lib.hid (HBK.out.fr (Fr0.trans TFr hf))); (try have HNO := Lib.hid (HNO.out.fr (Fr0.trans TFr hf))); clear hf))
 repeat (clear HBK)
 repeat (clear HNO)
 repeat (clear HNP)
 go_upto_region 9 with (first
   | (go_at_call 49; refine (mk_book _ ?hg).mono ?_; (case hg => exact HG.out.fr TFr); rintro e W ⟨A, c, Ap, cp, rfl, hBk, hf⟩; (have HF := Lib.hid (Fr0.trans (Fr0.trans HF.out TFr) hf)); (have HG := Lib.hid (HG.out.fr (Fr0.trans TFr hf))); (try have HL1 := Lib.hid (C_fr HL1.out (Fr0.trans TFr hf))); (try have HL2 := Lib.hid (C_fr HL2.out (Fr0.trans TFr hf))); (try have HL3 := Lib.hid (C_fr HL3.out (Fr0.trans TFr hf))); (try have HL4 := Lib.hid (C_fr HL4.out (Fr0.trans TFr hf))); (try have HL5 := Lib.hid (C_fr HL5.out (Fr0.trans TFr hf))); (try have HL6 := Lib.hid (C_fr HL6.out (Fr0.trans TFr hf))); (have HBK := Lib.hid hBk); clear hBk; clear hf)
   | (go_at_call 51; refine (mk_first _ _ _).mono ?_; rintro e W ⟨At, ct, Ag, cg, rfl, hN, hf⟩; (have HF := Lib.hid (Fr0.trans (Fr0.trans HF.out TFr) hf)); (have HG := Lib.hid (HG.out.fr (Fr0.trans TFr hf))); (try have HL1 := Lib.hid (C_fr HL1.out (Fr0.trans TFr hf))); (try have HL2 := Lib.hid (C_fr HL2.out (Fr0.trans TFr hf))); (try have HL3 := Lib.hid (C_fr HL3.out (Fr0.trans TFr hf))); (try have HL4 := Lib.hid (C_fr HL4.out (Fr0.trans TFr hf))); (try have HL5 := Lib.hid (C_fr HL5.out (Fr0.trans TFr hf))); (try have HL6 := Lib.hid (C_fr HL6.out (Fr0.trans TFr hf))); (try have HBK := Lib.hid (HBK.out.fr (Fr0.trans TFr hf))); (try have HNO := Lib.hid (HNO.out.fr (Fr0.trans TFr hf))); (have HNO := Lib.hid hN); clear hN; clear hf)
   | (go_at_call 50; refine (mk_third0 _).mono ?_; rintro e W ⟨Au, rfl, hN, hf⟩; (have HF := Lib.hid (Fr0.trans (Fr0.trans HF.out TFr) hf)); (have HG := Lib.hid (HG.out.fr (Fr0.trans TFr hf))); (try have HL1 := Lib.hid (C_fr HL1.out (Fr0.trans TFr hf))); (try have HL2 := Lib.hid (C_fr HL2.out (Fr0.trans TFr hf))); (try have HL3 := Lib.hid (C_fr HL3.out (Fr0.trans TFr hf))); (try have HL4 := Lib.hid (C_fr HL4.out (Fr0.trans TFr hf))); (try have HL5 := Lib.hid (C_fr HL5.out (Fr0.trans TFr hf))); (try have HL6 := Lib.hid (C_fr HL6.out (Fr0.trans TFr hf))); (try have HBK := Lib.hid (HBK.out.fr (Fr0.trans TFr hf))); (try have HNO := Lib.hid (HNO.out.fr (Fr0.trans TFr hf))); (have HNP := Lib.hid hN); clear hN; clear hf)
   | (go_at_call 28; refine (mk_a2 ?hb HNO.out HNP.out rfl).mono ?_; (case hb => exact HBK.out.fr TFr); rintro e W ⟨A6, c6, rfl, hL, hc6, hf⟩; (have HF := Lib.hid (Fr0.trans (Fr0.trans HF.out TFr) hf)); (have HG := Lib.hid (HG.out.fr (Fr0.trans TFr hf))); (try have HL1 := Lib.hid (C_fr HL1.out (Fr0.trans TFr hf))); (try have HL2 := Lib.hid (C_fr HL2.out (Fr0.trans TFr hf))); (try have HL3 := Lib.hid (C_fr HL3.out (Fr0.trans TFr hf))); (try have HL4 := Lib.hid (C_fr HL4.out (Fr0.trans TFr hf))); (try have HL5 := Lib.hid (C_fr HL5.out (Fr0.trans TFr hf))); (try have HL6 := Lib.hid (C_fr HL6.out (Fr0.trans TFr hf))); (try have HBK := Lib.hid (HBK.out.fr (Fr0.trans TFr hf))); (try have HNO := Lib.hid (HNO.out.fr (Fr0.trans TFr hf))); (have HL6 := Lib.hid hL); clear hL; clear hf))
 repeat (clear HBK)
 repeat (clear HNO)
 repeat (clear HNP)
 go_upto_region 10 with (first
   | (go_at_call 49; refine (mk_book _ ?hg).mono ?_; (case hg => exact HG.out.fr TFr); rintro e W ⟨A, c, Ap, cp, rfl, hBk, hf⟩; (have HF := Lib.hid (Fr0.trans (Fr0.trans HF.out TFr) hf)); (have HG := Lib.hid (HG.out.fr (Fr0.trans TFr hf))); (try have HL1 := Lib.hid (C_fr HL1.out (Fr0.trans TFr hf))); (try have HL2 := Lib.hid (C_fr HL2.out (Fr0.trans TFr hf))); (try have HL3 := Lib.hid (C_fr HL3.out (Fr0.trans TFr hf))); (try have HL4 := Lib.hid (C_fr HL4.out (Fr0.trans TFr hf))); (try have HL5 := Lib.hid (C_fr HL5.out (Fr0.trans TFr hf))); (try have HL6 := Lib.hid (C_fr HL6.out (Fr0.trans TFr hf))); (have HBK := Lib.hid hBk); clear hBk; clear hf)
   | (go_at_call 30; refine (mk_c ?hb).mono ?_; (case hb => exact HBK.out.fr TFr); rintro e W ⟨rfl, hf⟩; (have HF := Lib.hid (Fr0.trans (Fr0.trans HF.out TFr) hf)); (have HG := Lib.hid (HG.out.fr (Fr0.trans TFr hf))); (try have HL1 := Lib.hid (C_fr HL1.out (Fr0.trans TFr hf))); (try have HL2 := Lib.hid (C_fr HL2.out (Fr0.trans TFr hf))); (try have HL3 := Lib.hid (C_fr HL3.out (Fr0.trans TFr hf))); (try have HL4 := Lib.hid (C_fr HL4.out (Fr0.trans TFr hf))); (try have HL5 := Lib.hid (C_fr HL5.out (Fr0.trans TFr hf))); (try have HL6 := Lib.hid (C_fr HL6.out (Fr0.trans TFr hf))); (try have HBK := Lib.hid (HBK.out.fr (Fr0.trans TFr hf))); (try have HNO := Lib.hid (HNO.out.fr (Fr0.trans TFr hf))); clear hf))
 repeat (clear HBK)
 repeat (clear HNO)
 repeat (clear HNP)
 go_upto_region 11 with (first
   | (go_at_call 49; refine (mk_book _ ?hg).mono ?_; (case hg => exact HG.out.fr TFr); rintro e W ⟨A, c, Ap, cp, rfl, hBk, hf⟩; (have HF := Lib.hid (Fr0.trans (Fr0.trans HF.out TFr) hf)); (have HG := Lib.hid (HG.out.fr (Fr0.trans TFr hf))); (try have HL1 := Lib.hid (C_fr HL1.out (Fr0.trans TFr hf))); (try have HL2 := Lib.hid (C_fr HL2.out (Fr0.trans TFr hf))); (try have HL3 := Lib.hid (C_fr HL3.out (Fr0.trans TFr hf))); (try have HL4 := Lib.hid (C_fr HL4.out (Fr0.trans TFr hf))); (try have HL5 := Lib.hid (C_fr HL5.out (Fr0.trans TFr hf))); (try have HL6 := Lib.hid (C_fr HL6.out (Fr0.trans TFr hf))); (have HBK := Lib.hid hBk); clear hBk; clear hf)
   | (go_at_call 32; refine (mk_w ?hb ?hn).mono ?_; (case hb => exact HBK.out.fr TFr); (case hn => exact ints_new _ _ 3 [0, 2, 4, 2, 1] _ rfl (by simp)); rintro e W ⟨A5, c5, rfl, hL, hc5, hf⟩; (have HF := Lib.hid (Fr0.trans (Fr0.trans HF.out TFr) hf)); (have HG := Lib.hid (HG.out.fr (Fr0.trans TFr hf))); (try have HL1 := Lib.hid (C_fr HL1.out (Fr0.trans TFr hf))); (try have HL2 := Lib.hid (C_fr HL2.out (Fr0.trans TFr hf))); (try have HL3 := Lib.hid (C_fr HL3.out (Fr0.trans TFr hf))); (try have HL4 := Lib.hid (C_fr HL4.out (Fr0.trans TFr hf))); (try have HL5 := Lib.hid (C_fr HL5.out (Fr0.trans TFr hf))); (try have HL6 := Lib.hid (C_fr HL6.out (Fr0.trans TFr hf))); (try have HBK := Lib.hid (HBK.out.fr (Fr0.trans TFr hf))); (try have HNO := Lib.hid (HNO.out.fr (Fr0.trans TFr hf))); (have HL5 := Lib.hid hL); clear hL; clear hf))
 repeat (clear HBK)
 repeat (clear HNO)
 repeat (clear HNP)
 go_upto_region 12 with (first
   | (go_at_call 49; refine (mk_book _ ?hg).mono ?_; (case hg => exact HG.out.fr TFr); rintro e W ⟨A, c, Ap, cp, rfl, hBk, hf⟩; (have HF := Lib.hid (Fr0.trans (Fr0.trans HF.out TFr) hf)); (have HG := Lib.hid (HG.out.fr (Fr0.trans TFr hf))); (try have HL1 := Lib.hid (C_fr HL1.out (Fr0.trans TFr hf))); (try have HL2 := Lib.hid (C_fr HL2.out (Fr0.trans TFr hf))); (try have HL3 := Lib.hid (C_fr HL3.out (Fr0.trans TFr hf))); (try have HL4 := Lib.hid (C_fr HL4.out (Fr0.trans TFr hf))); (try have HL5 := Lib.hid (C_fr HL5.out (Fr0.trans TFr hf))); (try have HL6 := Lib.hid (C_fr HL6.out (Fr0.trans TFr hf))); (have HBK := Lib.hid hBk); clear hBk; clear hf)
   | (go_at_call 34; refine (mk_k ?hb).mono ?_; (case hb => exact HBK.out.fr TFr); rintro e W ⟨rfl, hf⟩; (have HF := Lib.hid (Fr0.trans (Fr0.trans HF.out TFr) hf)); (have HG := Lib.hid (HG.out.fr (Fr0.trans TFr hf))); (try have HL1 := Lib.hid (C_fr HL1.out (Fr0.trans TFr hf))); (try have HL2 := Lib.hid (C_fr HL2.out (Fr0.trans TFr hf))); (try have HL3 := Lib.hid (C_fr HL3.out (Fr0.trans TFr hf))); (try have HL4 := Lib.hid (C_fr HL4.out (Fr0.trans TFr hf))); (try have HL5 := Lib.hid (C_fr HL5.out (Fr0.trans TFr hf))); (try have HL6 := Lib.hid (C_fr HL6.out (Fr0.trans TFr hf))); (try have HBK := Lib.hid (HBK.out.fr (Fr0.trans TFr hf))); (try have HNO := Lib.hid (HNO.out.fr (Fr0.trans TFr hf))); clear hf))
 repeat (clear HBK)
 repeat (clear HNO)
 repeat (clear HNP)
 go_upto_region 13 with (first
   | (go_at_call 49; refine (mk_book _ ?hg).mono ?_; (case hg => exact HG.out.fr TFr); rintro e W ⟨A, c, Ap, cp, rfl, hBk, hf⟩; (have HF := Lib.hid (Fr0.trans (Fr0.trans HF.out TFr) hf)); (have HG := Lib.hid (HG.out.fr (Fr0.trans TFr hf))); (try have HL1 := Lib.hid (C_fr HL1.out (Fr0.trans TFr hf))); (try have HL2 := Lib.hid (C_fr HL2.out (Fr0.trans TFr hf))); (try have HL3 := Lib.hid (C_fr HL3.out (Fr0.trans TFr hf))); (try have HL4 := Lib.hid (C_fr HL4.out (Fr0.trans TFr hf))); (try have HL5 := Lib.hid (C_fr HL5.out (Fr0.trans TFr hf))); (try have HL6 := Lib.hid (C_fr HL6.out (Fr0.trans TFr hf))); (have HBK := Lib.hid hBk); clear hBk; clear hf)
   | (go_at_call 51; refine (mk_first _ _ _).mono ?_; rintro e W ⟨At, ct, Ag, cg, rfl, hN, hf⟩; (have HF := Lib.hid (Fr0.trans (Fr0.trans HF.out TFr) hf)); (have HG := Lib.hid (HG.out.fr (Fr0.trans TFr hf))); (try have HL1 := Lib.hid (C_fr HL1.out (Fr0.trans TFr hf))); (try have HL2 := Lib.hid (C_fr HL2.out (Fr0.trans TFr hf))); (try have HL3 := Lib.hid (C_fr HL3.out (Fr0.trans TFr hf))); (try have HL4 := Lib.hid (C_fr HL4.out (Fr0.trans TFr hf))); (try have HL5 := Lib.hid (C_fr HL5.out (Fr0.trans TFr hf))); (try have HL6 := Lib.hid (C_fr HL6.out (Fr0.trans TFr hf))); (try have HBK := Lib.hid (HBK.out.fr (Fr0.trans TFr hf))); (try have HNO := Lib.hid (HNO.out.fr (Fr0.trans TFr hf))); (have HNO := Lib.hid hN); clear hN; clear hf)
   | (go_at_call 14; refine (mk_f ?hb ?hn).mono ?_; (case hb => exact HBK.out.fr TFr); (case hn => exact HNO.out.fr TFr); rintro e W ⟨rfl, hf⟩; (have HF := Lib.hid (Fr0.trans (Fr0.trans HF.out TFr) hf)); (have HG := Lib.hid (HG.out.fr (Fr0.trans TFr hf))); (try have HL1 := Lib.hid (C_fr HL1.out (Fr0.trans TFr hf))); (try have HL2 := Lib.hid (C_fr HL2.out (Fr0.trans TFr hf))); (try have HL3 := Lib.hid (C_fr HL3.out (Fr0.trans TFr hf))); (try have HL4 := Lib.hid (C_fr HL4.out (Fr0.trans TFr hf))); (try have HL5 := Lib.hid (C_fr HL5.out (Fr0.trans TFr hf))); (try have HL6 := Lib.hid (C_fr HL6.out (Fr0.trans TFr hf))); (try have HBK := Lib.hid (HBK.out.fr (Fr0.trans TFr hf))); (try have HNO := Lib.hid (HNO.out.fr (Fr0.trans TFr hf))); clear hf))
 repeat (clear HBK)
 repeat (clear HNO)
 repeat (clear HNP)
 go_wp2_with (go_at_call 20; (first | (with_reducible refine (mk_equal (C_fr HL6.out ?hf) hc6 ?hb ?hd ?he).mono ?_) | (with_reducible refine (mk_equal (C_fr HL5.out ?hf) hc5 ?hb ?hd ?he).mono ?_)); (case hf => exact TFr); (case hb => exact ints_new _ _ 3 _ _ rfl (by simp)); (case hd => simp); (case he => kernel_rfl); rintro e W ⟨rfl, hf⟩; (have HF := Lib.hid (Fr0.trans (Fr0.trans HF.out TFr) hf)); (have HG := Lib.hid (HG.out.fr (Fr0.trans TFr hf))); (try have HL1 := Lib.hid (C_fr HL1.out (Fr0.trans TFr hf))); (try have HL2 := Lib.hid (C_fr HL2.out (Fr0.trans TFr hf))); (try have HL3 := Lib.hid (C_fr HL3.out (Fr0.trans TFr hf))); (try have HL4 := Lib.hid (C_fr HL4.out (Fr0.trans TFr hf))); (try have HL5 := Lib.hid (C_fr HL5.out (Fr0.trans TFr hf))); (try have HL6 := Lib.hid (C_fr HL6.out (Fr0.trans TFr hf))); (try have HBK := Lib.hid (HBK.out.fr (Fr0.trans TFr hf))); (try have HNO := Lib.hid (HNO.out.fr (Fr0.trans TFr hf))); clear hf)
 refine bodyPost_ret (v := .bool true) (by simp [results, Tryd.results25, go_sem]) rfl ⟨rfl, fr_below (HF.out.trans TFr)⟩
end Go.Proofs.YtfdenclnneigfaaDoor.R
namespace Go.Proofs.YtfdenclnneigfaaDoor.PRaspKeys
open Go.RowKit Go.Proofs.YtfdenclnneigfaaDoorW.PrintWords Go.Proofs.YtfdenclnneigfaaDoorW.PrintLast Go.Proofs.YtfdenclnneigfaaDoor.M
def saronlaw09_listened.f : Option (Bool) := some true
theorem saronlaw09_listened.calls (r : Bool) (w : World) (hG : Glob w) (h : saronlaw09_listened.f = some r) :
  Calls Tryd.prog 25 #[] w fun e w' => e = .returned (.bool r) ∧ Below w.heap.size w w' := by
 cases Option.some.inj h
 exact Go.Proofs.YtfdenclnneigfaaDoor.R.listened25 w hG
end Go.Proofs.YtfdenclnneigfaaDoor.PRaspKeys
