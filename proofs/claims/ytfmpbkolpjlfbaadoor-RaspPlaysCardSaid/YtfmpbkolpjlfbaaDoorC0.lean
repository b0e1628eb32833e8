import Derived.Test.YtfmpbkolpjlfbaaDoorCS
import Derived.Test.YtfmpbkolpjlfbaaDoorM0
import Derived.Test.YtfmpbkolpjlfbaaDoorProg
import Derived.Below
import Derived.Deep.Draws
import Derived.Deep.AppendLies
import Derived.Maps.AppendAt
import Derived.OwnWalk
import Derived.Laws.BytesArg
import Derived.Laws.MakeOwn
import Derived.Laws.OwnMore
import Derived.Deep.OwnRows
import Derived.Tactics
import Derived.Lib.ConvBytes
import Derived.Laws.Slices
import Derived.WalkKit
import Derived.KernelRfl
import Derived.RowKit3
import Derived.Deep.LoopGhost
import Derived.Deep.QuietTactic
import Derived.BigQuiet
import Derived.WideLaws
import Derived.Deep.DeepCutAuto
import Derived.Deep.CutBlock
import Derived.Deep.RegionHeld3
import Derived.Laws.Rows
import Derived.Lib.AppendStr
import Derived.ArgAppend
import Derived.Laws.IdiomCopy
import Derived.OrdersHeld
import Derived.Laws.BitsLemmas
import Derived.RowKit
set_option linter.unusedVariables false
set_option linter.unusedSimpArgs false
namespace Go.Proofs.YtfmpbkolpjlfbaaDoor.PRaspKeys
open Go.RowKit Go.Proofs.YtfmpbkolpjlfbaaDoorW.PrintWords Go.Proofs.YtfmpbkolpjlfbaaDoorW.PrintLast Go.Proofs.YtfmpbkolpjlfbaaDoorW.PrintMore Go.Proofs.YtfmpbkolpjlfbaaDoor.M
attribute [local go_sem] max2_int min2_int max_two min_two max_three min_three max_four min_four   -- for this text's walks alone
theorem info93 : (Tryd.prog.info? 93).map (fun i => (i.zero, i.size, i.bytes)) = some (some (.agg #[(.slice none 0 0)]), 1, 24) := by kernel_rfl
/-! #### struct type 24 -/
/-! #### struct type 57 -/
def rd_L3 (xs : List (List Int)) (i : Int) : (List Int) := xs.getD i.toNat ([] : List Int)
theorem at_L3 {w : World} {A : Option Addr} {n : Nat} {xs : List (List Int)} (h : Kd.C (Kd.slice 3 (Kd.int .i64)) w A n xs) (i : Int) (h0 : 0 ≤ i) (h1 : i < n) : ∃ ad A0 c0, A = some ad ∧ w.cell? (ad.add i.toNat) = some (.slice A0 (rd_L3 xs i).length c0) ∧ (rd_L3 xs i).length ≤ c0 ∧ (Kd.int .i64).C w A0 (rd_L3 xs i).length (rd_L3 xs i) := by
 obtain ⟨ad, c, e, _, hK, hc0⟩ := Kd.C_get h ([] : List Int) i h0 h1
 have hc : ∀ j u, c[j]? = some u → w.cell? (ad.add (i.toNat * 1 + j)) = some u := hc0
 obtain ⟨A0, c0, rfl, l0, g0⟩ := hK
 exact ⟨ad, A0, c0, e, by have hq := hc 0 _ rfl; rwa [Nat.mul_one, Nat.add_zero] at hq, l0, g0⟩
/-! #### struct type 93 -/
structure S93 where
 f0 : (List Int)
def z93 : S93 := ⟨([] : List Int)⟩
def k93 : Kd S93 := Kd.iso (Kd.slice 3 (Kd.int .i64)) (fun x : S93 => x.f0)
theorem k93_open {w : World} {x : S93} {cs : List Value} (h : k93.K w x cs) : ∃ A0 c0, cs = [.slice A0 x.f0.length c0] ∧ x.f0.length ≤ c0 ∧ (Kd.int .i64).C w A0 x.f0.length x.f0 := by
 obtain ⟨A0, c0, rfl, l0, g0⟩ := h
 exact ⟨A0, c0, rfl, l0, g0⟩
theorem k93_openM {w : World} {base : Nat} {ok : Nat → Prop} {x : S93} {cs : List Value} (h : k93.M w base ok x cs) : ∃ v0, cs = [v0] ∧ (Kd.int .i64).R 3 w base ok v0 x.f0 := by
 obtain ⟨v0, rfl, g0⟩ := h
 exact ⟨v0, rfl, g0⟩
theorem k93_mk (w : World) (x : S93) {A0 : Option Addr} {c0 : Nat} (l0 : x.f0.length ≤ c0) (g0 : (Kd.int .i64).C w A0 x.f0.length x.f0) : k93.K w x [.slice A0 x.f0.length c0] := ⟨A0, c0, rfl, l0, g0⟩
theorem k93_mkM (w : World) (base : Nat) (ok : Nat → Prop) (x : S93) {v0 : Value} (g0 : (Kd.int .i64).R 3 w base ok v0 x.f0) : k93.M w base ok x [v0] := ⟨v0, rfl, g0⟩
def rd_T93 (xs : List S93) (i : Int) : S93 := xs.getD i.toNat z93
theorem at_T93 {w : World} {A : Option Addr} {n : Nat} {xs : List S93} (h : Kd.C k93 w A n xs) (i : Int) (h0 : 0 ≤ i) (h1 : i < n) : ∃ ad A0 c0, A = some ad ∧ w.cell? (ad.add i.toNat) = some (.slice A0 (rd_T93 xs i).f0.length c0) ∧ (rd_T93 xs i).f0.length ≤ c0 ∧ (Kd.int .i64).C w A0 (rd_T93 xs i).f0.length (rd_T93 xs i).f0 := by
 obtain ⟨ad, c, e, _, hK, hc0⟩ := Kd.C_get h z93 i h0 h1
 have hc : ∀ j u, c[j]? = some u → w.cell? (ad.add (i.toNat * 1 + j)) = some u := hc0
 obtain ⟨A0, c0, rfl, l0, g0⟩ := k93_open hK
 exact ⟨ad, A0, c0, e, by have hq := hc 0 _ rfl; rwa [Nat.mul_one, Nat.add_zero] at hq, l0, g0⟩
/-! #### struct type 69 -/
end Go.Proofs.YtfmpbkolpjlfbaaDoor.PRaspKeys
namespace Go.Proofs.YtfmpbkolpjlfbaaDoor.PRaspKeys
open Go.RowKit Go.Proofs.YtfmpbkolpjlfbaaDoorW.PrintWords Go.Proofs.YtfmpbkolpjlfbaaDoorW.PrintLast Go.Proofs.YtfmpbkolpjlfbaaDoorW.PrintMore Go.Proofs.YtfmpbkolpjlfbaaDoor.M
attribute [local go_sem] max2_int min2_int max_two min_two max_three min_three max_four min_four   -- for this text's walks alone
/-! ### saronref03_row_at: function 61 -/
def saronref03_row_at.f (l0_0 : List Int) (a1 : Int) : Option (Int) := (saronref00_Sits.f a1 (-60) 60).bind fun t104 => (if t104 = true then (if 0 ≤ (wrap64 (a1 + 60)) then (if (wrap64 (a1 + 60)) < (l0_0.length : Int) then (some (rd l0_0 (wrap64 (a1 + 60)))) else (none)) else (none)) else (some 1000))
set_option maxHeartbeats 8000000 in
set_option maxRecDepth 100000 in
theorem saronref03_row_at.calls (A0_0 : Option Addr) (c0_0 : Nat) (l0_0 : List Int) (a1 : Int) (r : Int) (w : World) (hr0_0 : Kd.C (Kd.int .i64) w A0_0 l0_0.length l0_0) (hc0_0 : l0_0.length ≤ c0_0) (h : saronref03_row_at.f l0_0 a1 = some r) :
  Calls Tryd.prog 61 #[.agg #[.slice A0_0 l0_0.length c0_0], .int .i64 a1] w fun e w' => e = .returned (.int .i64 r) ∧ Below w.heap.size w w' := by
 have hu93 := Tryd.underlying93
 have HR0_0 := Aside0.mk hr0_0
 have HC0_0 := Aside0.mk hc0_0
 clear hr0_0 hc0_0
 have HB := Aside0.mk (Below.refl w.heap.size w)
 have H : ((saronref00_Sits.f a1 (-60) 60).bind fun t104 => (if t104 = true then (if 0 ≤ (wrap64 (a1 + 60)) then (if (wrap64 (a1 + 60)) < (l0_0.length : Int) then (some (rd l0_0 (wrap64 (a1 + 60)))) else (none)) else (none)) else (some 1000))) = some r := h
 clear h
 replace H := Option.bind_eq_some_iff.mp H
 obtain ⟨t104, A30, H⟩ := H
 replace H : (if t104 = true then (if 0 ≤ (wrap64 (a1 + 60)) then (if (wrap64 (a1 + 60)) < (l0_0.length : Int) then (some (rd l0_0 (wrap64 (a1 + 60)))) else (none)) else (none)) else (some 1000)) = some r := H
 have A3 := Aside0.mk A30
 clear A30
 by_cases c4 : t104 = true
 ·subst c4
  have H1 : (if 0 ≤ (wrap64 (a1 + 60)) then (if (wrap64 (a1 + 60)) < (l0_0.length : Int) then (some (rd l0_0 (wrap64 (a1 + 60)))) else (none)) else (none)) = some r := by rw [if_pos rfl] at H; exact H
  clear H
  have H := H1
  clear H1
  obtain ⟨ji5, hji5⟩ : ∃ j_ : Int, (wrap64 (a1 + 60)) = j_ := ⟨_, rfl⟩
  replace H : (if 0 ≤ (ji5) then (if (ji5) < (l0_0.length : Int) then (some (rd l0_0 (ji5))) else (none)) else (none)) = some r := by first | (rw [hji5] at H; exact H) | (simp only [hji5] at H ⊢; exact H)
  (try rw [hji5] at A3)
  have hji5w : (IntKind.i64.wrap (a1 + 60)) = ji5 := (i64_w _).trans hji5
  by_cases c6 : 0 ≤ (ji5)
  ·rw [if_pos c6] at H
   have c6b0 : decide (0 ≤ (ji5)) = true := decide_eq_true c6
   clear c6
   by_cases c7 : (ji5) < (l0_0.length : Int)
   ·rw [if_pos c7] at H
    have c7b0 : decide ((ji5) < (l0_0.length : Int)) = true := decide_eq_true c7
    clear c7
    obtain rfl := Option.some.inj H
    go_enter Tryd.func61, Tryd.ntmps61
    go_wp2_with (first | ((with_reducible refine gate_dst (N := 2) rfl ?_); refine box_event ?hg (N := 2) ?hd (cs := #[.slice A0_0 l0_0.length c0_0]) (t := 93) ?hr ?_; (case hd => rfl); (case hg => rfl); (case hr => exact TS); intro gb103 hg w8 hbox hb; have BK103 := Aside0.mk (hbox); have GW103 := Aside0.mk ((TG : w.heap.size ≤ gb103)); have GE103 := Aside0.mk ((TG : w.heap.size ≤ gb103)); replace HB := Aside0.mk (below_step TB hb); clear hb hbox hg) | ((with_reducible refine gate_callee (f := 39) rfl ?_); refine goesL_ (some 6) rfl rfl Tryd.func39 (by kernel_rfl) rfl #[.int .i64 a1, .int .i64 (-60), .int .i64 60] rfl TM ?_; (with_reducible refine (saronref00_Sits.calls a1 (-60) 60 true _ A3.out).mono ?_); rintro e w' ⟨rfl, ⟨nd, rfl⟩⟩; refine ⟨_, rfl, ?_⟩; have hcz9_0 := cz BK103.out 0; have hfz9_0 := fz BK103.out 0; have p105 : 0 ≤ ((ji5) : Int) := of_decide_eq_true TA; have q105 : (ji5) < (l0_0.length : Int) := of_decide_eq_true TA; obtain ⟨ad105, e105, hx105_0⟩ := Kd.at_int HR0_0.out (ji5) p105 q105; cases e105; replace hx105_0 := hx HB.out hx105_0; replace p105 := eq_true p105; replace q105 := eq_true q105))
    go_ret
    exact ⟨by first | rfl | (simp [errW_none, errW_some] <;> rfl) | (simp only [← hji5]; first | rfl | (simp [errW_none, errW_some] <;> rfl)) | (simp [*, errW_none, errW_some] <;> rfl), TB1 GE103.out⟩
   ·rw [if_neg c7] at H
    exact absurd H (by simp)
  ·rw [if_neg c6] at H
   exact absurd H (by simp)
 ·replace c4 := Bool.eq_false_iff.mpr c4
  subst c4
  have H1 : (some 1000) = some r := by rw [if_neg (show ¬ (false = true) by decide)] at H; exact H
  clear H
  have H := H1
  clear H1
  obtain rfl := Option.some.inj H
  go_enter Tryd.func61, Tryd.ntmps61
  go_wp2_with (first | ((with_reducible refine gate_dst (N := 2) rfl ?_); refine box_event ?hg (N := 2) ?hd (cs := #[.slice A0_0 l0_0.length c0_0]) (t := 93) ?hr ?_; (case hd => rfl); (case hg => rfl); (case hr => exact TS); intro gb103 hg w10 hbox hb; have BK103 := Aside0.mk (hbox); have GW103 := Aside0.mk ((TG : w.heap.size ≤ gb103)); have GE103 := Aside0.mk ((TG : w.heap.size ≤ gb103)); replace HB := Aside0.mk (below_step TB hb); clear hb hbox hg) | ((with_reducible refine gate_callee (f := 39) rfl ?_); refine goesL_ (some 6) rfl rfl Tryd.func39 (by kernel_rfl) rfl #[.int .i64 a1, .int .i64 (-60), .int .i64 60] rfl TM ?_; (with_reducible refine (saronref00_Sits.calls a1 (-60) 60 false _ A3.out).mono ?_); rintro e w' ⟨rfl, ⟨nd, rfl⟩⟩; refine ⟨_, rfl, ?_⟩))
  go_ret
  exact ⟨TR, TB1 GE103.out⟩
/-! ### saronref03_leads: function 71 -/
mutual
def saronref03_leads.j0 : Nat → Int → Bool → Int → List Int → Int → Int → Int → Option (Int)
 | 0, _, _, _, _, _, _, _ => none
 | k + 1, x2, x3, x9, x107000, x108000, x108001, x108002 => saronref03_leads.l0 k x2 x3 x9 x108000 x107000 x108000 x108001 x108002
def saronref03_leads.l0 : Nat → Int → Bool → Int → Int → List Int → Int → Int → Int → Option (Int)
 | 0, _, _, _, _, _, _, _, _ => none
 | k + 1, x2, x3, x9, x10, x107000, x108000, x108001, x108002 => if x10 ≤ x108001 then (if x3 = true then ((saronref03_row_at.f x107000 (wrap64 (x2 + x10))).bind fun t108 => (saronref03_leads.l0 k x2 x3 (mx x9 t108) (wrap64 (x10 + 1)) x107000 x108000 x108001 x108002)) else ((saronref03_row_at.f x107000 (wrap64 (x2 + x10))).bind fun t109 => (saronref03_leads.l0 k x2 x3 (mn x9 t109) (wrap64 (x10 + 1)) x107000 x108000 x108001 x108002))) else (some x9)
end
def saronref03_leads.f (k : Nat) (l0_0 : List Int) (a1_0 : Int) (a1_1 : Int) (a1_2 : Int) (a2 : Int) (a3 : Bool) : Option (Int) := if a3 = true then (saronref03_leads.j0 k a2 a3 0 l0_0 a1_0 a1_1 a1_2) else (saronref03_leads.j0 k a2 a3 1000 l0_0 a1_0 a1_1 a1_2)
theorem saronref03_leads.mono_l : ∀ k, (∀ y0 y1 y2 y3 y4 y5 y6, LeO (saronref03_leads.j0 k y0 y1 y2 y3 y4 y5 y6) (saronref03_leads.j0 (k + 1) y0 y1 y2 y3 y4 y5 y6)) ∧ (∀ y0 y1 y2 y3 y4 y5 y6 y7, LeO (saronref03_leads.l0 k y0 y1 y2 y3 y4 y5 y6 y7) (saronref03_leads.l0 (k + 1) y0 y1 y2 y3 y4 y5 y6 y7))
 | 0 => ⟨fun _ _ _ _ _ _ _ r h => by simp [saronref03_leads.j0] at h, fun _ _ _ _ _ _ _ _ r h => by simp [saronref03_leads.l0] at h⟩
 | k + 1 => by
  obtain ⟨ih0, ih1⟩ := saronref03_leads.mono_l k
  refine ⟨?_, ?_⟩
  ·intro y0 y1 y2 y3 y4 y5 y6
   unfold saronref03_leads.j0
   repeat' first
   | (with_reducible exact ih0 _ _ _ _ _ _ _)
   | (with_reducible exact ih1 _ _ _ _ _ _ _ _)
   | (with_reducible exact LeO.refl _)
   | (with_reducible exact LeO.none _)
   | (with_reducible refine LeO.ite ?_ ?_)
   | (with_reducible refine LeO.bind ?_ (fun _ => ?_))
   | exact ih0 _ _ _ _ _ _ _
   | exact ih1 _ _ _ _ _ _ _ _
   | exact LeO.none _
   | refine LeO.ite ?_ ?_
   | refine LeO.bind ?_ (fun _ => ?_)
  ·intro y0 y1 y2 y3 y4 y5 y6 y7
   unfold saronref03_leads.l0
   repeat' first
   | (with_reducible exact ih0 _ _ _ _ _ _ _)
   | (with_reducible exact ih1 _ _ _ _ _ _ _ _)
   | (with_reducible exact LeO.refl _)
   | (with_reducible exact LeO.none _)
   | (with_reducible refine LeO.ite ?_ ?_)
   | (with_reducible refine LeO.bind ?_ (fun _ => ?_))
   | exact ih0 _ _ _ _ _ _ _
   | exact ih1 _ _ _ _ _ _ _ _
   | exact LeO.none _
   | refine LeO.ite ?_ ?_
   | refine LeO.bind ?_ (fun _ => ?_)
theorem saronref03_leads.mono : ∀ a0 a1 a2 a3 a4 a5 k, LeO (saronref03_leads.f k a0 a1 a2 a3 a4 a5) (saronref03_leads.f (k + 1) a0 a1 a2 a3 a4 a5) := by
 intro a0 a1 a2 a3 a4 a5 k
 obtain ⟨ih0, ih1⟩ := saronref03_leads.mono_l k
 unfold saronref03_leads.f
 repeat' first
   | (with_reducible exact ih0 _ _ _ _ _ _ _)
   | (with_reducible exact ih1 _ _ _ _ _ _ _ _)
   | (with_reducible exact LeO.refl _)
   | (with_reducible exact LeO.none _)
   | (with_reducible refine LeO.ite ?_ ?_)
   | (with_reducible refine LeO.bind ?_ (fun _ => ?_))
   | exact ih0 _ _ _ _ _ _ _
   | exact ih1 _ _ _ _ _ _ _ _
   | exact LeO.none _
   | refine LeO.ite ?_ ?_
   | refine LeO.bind ?_ (fun _ => ?_)
set_option maxHeartbeats 8000000 in
set_option maxRecDepth 100000 in
theorem saronref03_leads.calls (k : Nat) (A0_0 : Option Addr) (c0_0 : Nat) (l0_0 : List Int) (a1_0 : Int) (a1_1 : Int) (a1_2 : Int) (a2 : Int) (a3 : Bool) (r : Int) (w : World) (hr0_0 : Kd.C (Kd.int .i64) w A0_0 l0_0.length l0_0) (hc0_0 : l0_0.length ≤ c0_0) (h : saronref03_leads.f k l0_0 a1_0 a1_1 a1_2 a2 a3 = some r) :
  Calls Tryd.prog 71 #[.agg #[.slice A0_0 l0_0.length c0_0], .agg #[.int .i64 a1_0, .int .i64 a1_1, .int .i64 a1_2], .int .i64 a2, .bool a3] w fun e w' => e = .returned (.int .i64 r) ∧ Below w.heap.size w w' := by
 have hu93 := Tryd.underlying93
 have hu57 := Tryd.underlying57
 have HR0_0 := Aside0.mk hr0_0
 have HC0_0 := Aside0.mk hc0_0
 clear hr0_0 hc0_0
 have HB := Aside0.mk (Below.refl w.heap.size w)
 have H : (if a3 = true then (saronref03_leads.j0 k a2 a3 0 l0_0 a1_0 a1_1 a1_2) else (saronref03_leads.j0 k a2 a3 1000 l0_0 a1_0 a1_1 a1_2)) = some r := h
 clear h
 have HC5 := Aside0.mk H
 clear H
 go_enter Tryd.func71, Tryd.ntmps71
 go_upto_if 11 with (first | ((with_reducible refine gate_dst (N := 4) rfl ?_); refine box_event ?hg (N := 4) ?hd (cs := #[.slice A0_0 l0_0.length c0_0]) (t := 93) ?hr ?_; (case hd => rfl); (case hg => rfl); (case hr => exact TS); intro gb106 hg w6 hbox hb; have BK106 := Aside0.mk (hbox); have GW106 := Aside0.mk ((TG : w.heap.size ≤ gb106)); have GE106 := Aside0.mk ((TG : w.heap.size ≤ gb106)); replace HB := Aside0.mk (below_step TB hb); clear hb hbox hg) | ((with_reducible refine gate_dst (N := 5) rfl ?_); refine box_event ?hg (N := 5) ?hd (cs := #[.int .i64 a1_0, .int .i64 a1_1, .int .i64 a1_2]) (t := 57) ?hr ?_; (case hd => rfl); (case hg => rfl); (case hr => exact TS); intro gb107 hg w7 hbox hb; have BK107 := Aside0.mk (hbox); have GW107 := Aside0.mk ((TG1 GE106.out : w.heap.size ≤ gb107)); have GE107 := Aside0.mk ((TG1 GE106.out : w.heap.size ≤ gb107)); have NB106_107 := Aside0.mk ((by rw [hg]; exact Nat.ne_of_lt (blk_lt (g := gb106) (o := .cells #[.slice A0_0 l0_0.length c0_0] 93 (0, 0)) (TK BK106.out)) : gb106 ≠ gb107)); have NB107_106 := Aside0.mk ((by rw [hg]; exact Nat.ne_of_gt (blk_lt (g := gb106) (o := .cells #[.slice A0_0 l0_0.length c0_0] 93 (0, 0)) (TK BK106.out)) : gb107 ≠ gb106)); replace BK106 := Aside0.mk (TKb hb BK106.out); replace HB := Aside0.mk (below_step (TB1 GE106.out) hb); clear hb hbox hg))
 (try simp only [Act.put, lA, lZ, lS])
 go_cut [9] (fun v9 wc => ∃ (kq : Nat) (x9_4 : Int), v9 = .int .i64 x9_4 ∧ Aside0 (saronref03_leads.j0 kq a2 a3 x9_4 l0_0 a1_0 a1_1 a1_2 = some r) ∧ Aside0 (kq ≤ k) ∧ Aside0 (wc.heap[gb106]? = some (.cells #[(.slice A0_0 l0_0.length c0_0)] 93 (0, 0))) ∧ Aside0 (wc.heap[gb107]? = some (.cells #[.int .i64 a1_0, .int .i64 a1_1, .int .i64 a1_2] 57 (0, 0))) ∧ Aside0 (Below w.heap.size w wc))
 case first =>
  have H := HC5.out
  clear HC5
  by_cases c8 : a3 = true
  ·subst c8
   have H1 : (saronref03_leads.j0 k a2 true 0 l0_0 a1_0 a1_1 a1_2) = some r := by rw [if_pos rfl] at H; exact H
   clear H
   have H := H1
   clear H1
   have H' := Aside0.mk H
   clear H
   go_wp2
   go_meet
   case rel => exact ⟨_, (0), TT, H', ⟨by first | omega | exact Nat.le_refl _⟩, ⟨TK BK106.out⟩, ⟨TK BK107.out⟩, ⟨TB2 GE106.out GE107.out⟩⟩
  ·replace c8 := Bool.eq_false_iff.mpr c8
   subst c8
   have H1 : (saronref03_leads.j0 k a2 false 1000 l0_0 a1_0 a1_1 a1_2) = some r := by rw [if_neg (show ¬ (false = true) by decide)] at H; exact H
   clear H
   have H := H1
   clear H1
   have H' := Aside0.mk H
   clear H
   go_wp2
   go_meet
   case rel => exact ⟨_, (1000), TT, H', ⟨by first | omega | exact Nat.le_refl _⟩, ⟨TK BK106.out⟩, ⟨TK BK107.out⟩, ⟨TB2 GE106.out GE107.out⟩⟩
 case rest =>
  clear HC5
  try clear p2
  try clear c7
  try clear c8
  obtain ⟨kq, x9_4, rfl, HA, HJ4, BK106, BK107, HB⟩ := hcut
  cases kq with
  | zero => exact absurd HA.out (by simp [saronref03_leads.j0])
  | succ kj4 =>
   have H := HA.out
   clear HA
   simp only [saronref03_leads.j0] at H
   have H' := Aside0.mk H
   clear H
   have hnb9 := NB107_106.out
   have hnc9 := NB106_107.out
   have hcz10_0 := cz BK107.out 0
   have hcz10_1 := cz BK107.out 1
   have hcz10_2 := cz BK107.out 2
   have hfz10_0 := fz BK107.out 0
   have hfz10_1 := fz BK107.out 1
   have hfz10_2 := fz BK107.out 2
   go_wp2
   go_loopg [9, 10] kj4 (fun kq v9 v10 w' => ∃ (x9_2 : Int) (x10_2 : Int), v9 = .int .i64 x9_2 ∧ v10 = .int .i64 x10_2 ∧ Aside0 (saronref03_leads.l0 kq a2 a3 x9_2 x10_2 l0_0 a1_0 a1_1 a1_2 = some r) ∧ Aside0 (kq ≤ kj4) ∧ Aside0 (w'.heap[gb106]? = some (.cells #[(.slice A0_0 l0_0.length c0_0)] 93 (0, 0))) ∧ Aside0 (w'.heap[gb107]? = some (.cells #[.int .i64 a1_0, .int .i64 a1_1, .int .i64 a1_2] 57 (0, 0))) ∧ Aside0 (Below w.heap.size w w'))
   case atStart => exact ⟨(x9_4), (a1_0), TT, TT, H', ⟨Nat.le_refl _⟩, ⟨TK BK106.out⟩, ⟨TK BK107.out⟩, ⟨TB2 GE106.out GE107.out⟩⟩
   case round =>
    clear H'
    try clear p2
    try clear c7
    try clear c8
    try clear c9
    try clear hcz10_0 hcz10_1 hcz10_2 hfz10_0 hfz10_1 hfz10_2
    try clear p2
    obtain ⟨x9_2, x10_2, rfl, rfl, HA, HK2, BK106, BK107, HB⟩ := hrel
    cases gk with
    | zero => exact absurd HA.out (by simp [saronref03_leads.l0])
    | succ k2 =>
     have H := HA.out
     clear HA
     simp only [saronref03_leads.l0] at H
     by_cases c11 : x10_2 ≤ a1_1
     ·rw [if_pos c11] at H
      have c11b0 : decide (x10_2 ≤ a1_1) = true := decide_eq_true c11
      clear c11
      by_cases c12 : a3 = true
      ·subst c12
       have H1 : ((saronref03_row_at.f l0_0 (wrap64 (a2 + x10_2))).bind fun t108 => (saronref03_leads.l0 k2 a2 true (mx x9_2 t108) (wrap64 (x10_2 + 1)) l0_0 a1_0 a1_1 a1_2)) = some r := by rw [if_pos rfl] at H; exact H
       clear H
       have H := H1
       clear H1
       replace H := Option.bind_eq_some_iff.mp H
       obtain ⟨t108, A130, H⟩ := H
       replace H : (saronref03_leads.l0 k2 a2 true (mx x9_2 t108) (wrap64 (x10_2 + 1)) l0_0 a1_0 a1_1 a1_2) = some r := H
       have A13 := Aside0.mk A130
       clear A130
       obtain ⟨ji14, hji14⟩ : ∃ j_ : Int, (mx x9_2 t108) = j_ := ⟨_, rfl⟩
       replace H : (saronref03_leads.l0 k2 a2 true ji14 (wrap64 (x10_2 + 1)) l0_0 a1_0 a1_1 a1_2) = some r := by first | (rw [hji14] at H; exact H) | (simp only [hji14] at H ⊢; exact H)
       (try rw [hji14] at A13)
       have hji14_ : (if x9_2 < t108 then t108 else x9_2) = ji14 := hji14
       have H' := Aside0.mk H
       clear H
       have hnb15 := NB107_106.out
       have hnc15 := NB106_107.out
       have hcz16_0 := cz BK107.out 0
       have hcz16_1 := cz BK107.out 1
       have hcz16_2 := cz BK107.out 2
       have hfz16_0 := fz BK107.out 0
       have hfz16_1 := fz BK107.out 1
       have hfz16_2 := fz BK107.out 2
       have hcz17_0 := cz BK106.out 0
       have hfz17_0 := fz BK106.out 0
       go_wp2_with (first | ((with_reducible refine gate_callee (f := 61) rfl ?_); refine goesL_ (some 28) rfl rfl Tryd.func61 (by kernel_rfl) rfl #[.agg #[.slice A0_0 l0_0.length c0_0], .int .i64 (wrap64 (a2 + x10_2))] rfl TM ?_; (with_reducible refine (saronref03_row_at.calls _ _ l0_0 (wrap64 (a2 + x10_2)) t108 _ ?side1 ?side2 A13.out).mono ?_); (case side1 => exact TC HR0_0.out); (case side2 => exact HC0_0.out); rintro e w18 ⟨rfl, hb⟩; refine ⟨_, rfl, ?_⟩; replace BK106 := Aside0.mk (TKb hb BK106.out); replace BK107 := Aside0.mk (TKb hb BK107.out); replace HB := Aside0.mk (below_step (TB2 GE106.out GE107.out) hb); (try clear hb); (try clear hb2); (try clear hk); (try clear hi)))
       go_roundg k2
       case measure => have := HJ4.out; have := HK2.out; omega
       case rel => exact ⟨(ji14), (wrap64 (x10_2 + 1)), (by first | rfl | (simp; done) | (simp only [← hji14] <;> (first | rfl | simp)) | (simp [*]; done)), TT, H', ⟨by have := HJ4.out; have := HK2.out; omega⟩, ⟨TK BK106.out⟩, ⟨TK BK107.out⟩, ⟨TB2 GE106.out GE107.out⟩⟩
      ·replace c12 := Bool.eq_false_iff.mpr c12
       subst c12
       have H1 : ((saronref03_row_at.f l0_0 (wrap64 (a2 + x10_2))).bind fun t109 => (saronref03_leads.l0 k2 a2 false (mn x9_2 t109) (wrap64 (x10_2 + 1)) l0_0 a1_0 a1_1 a1_2)) = some r := by rw [if_neg (show ¬ (false = true) by decide)] at H; exact H
       clear H
       have H := H1
       clear H1
       replace H := Option.bind_eq_some_iff.mp H
       obtain ⟨t109, A190, H⟩ := H
       replace H : (saronref03_leads.l0 k2 a2 false (mn x9_2 t109) (wrap64 (x10_2 + 1)) l0_0 a1_0 a1_1 a1_2) = some r := H
       have A19 := Aside0.mk A190
       clear A190
       obtain ⟨ji20, hji20⟩ : ∃ j_ : Int, (mn x9_2 t109) = j_ := ⟨_, rfl⟩
       replace H : (saronref03_leads.l0 k2 a2 false ji20 (wrap64 (x10_2 + 1)) l0_0 a1_0 a1_1 a1_2) = some r := by first | (rw [hji20] at H; exact H) | (simp only [hji20] at H ⊢; exact H)
       (try rw [hji20] at A19)
       have hji20_ : (if t109 < x9_2 then t109 else x9_2) = ji20 := hji20
       have H' := Aside0.mk H
       clear H
       have hnb21 := NB107_106.out
       have hnc21 := NB106_107.out
       have hcz22_0 := cz BK107.out 0
       have hcz22_1 := cz BK107.out 1
       have hcz22_2 := cz BK107.out 2
       have hfz22_0 := fz BK107.out 0
       have hfz22_1 := fz BK107.out 1
       have hfz22_2 := fz BK107.out 2
       have hcz23_0 := cz BK106.out 0
       have hfz23_0 := fz BK106.out 0
       go_wp2_with (first | ((with_reducible refine gate_callee (f := 61) rfl ?_); refine goesL_ (some 35) rfl rfl Tryd.func61 (by kernel_rfl) rfl #[.agg #[.slice A0_0 l0_0.length c0_0], .int .i64 (wrap64 (a2 + x10_2))] rfl TM ?_; (with_reducible refine (saronref03_row_at.calls _ _ l0_0 (wrap64 (a2 + x10_2)) t109 _ ?side1 ?side2 A19.out).mono ?_); (case side1 => exact TC HR0_0.out); (case side2 => exact HC0_0.out); rintro e w24 ⟨rfl, hb⟩; refine ⟨_, rfl, ?_⟩; replace BK106 := Aside0.mk (TKb hb BK106.out); replace BK107 := Aside0.mk (TKb hb BK107.out); replace HB := Aside0.mk (below_step (TB2 GE106.out GE107.out) hb); (try clear hb); (try clear hb2); (try clear hk); (try clear hi)))
       go_roundg k2
       case measure => have := HJ4.out; have := HK2.out; omega
       case rel => exact ⟨(ji20), (wrap64 (x10_2 + 1)), (by first | rfl | (simp; done) | (simp only [← hji20] <;> (first | rfl | simp)) | (simp [*]; done)), TT, H', ⟨by have := HJ4.out; have := HK2.out; omega⟩, ⟨TK BK106.out⟩, ⟨TK BK107.out⟩, ⟨TB2 GE106.out GE107.out⟩⟩
     ·rw [if_neg c11] at H
      have c11b0 : decide (x10_2 ≤ a1_1) = false := decide_eq_false c11
      clear c11
      obtain rfl := Option.some.inj H
      have hnb25 := NB107_106.out
      have hnc25 := NB106_107.out
      have hcz26_0 := cz BK107.out 0
      have hcz26_1 := cz BK107.out 1
      have hcz26_2 := cz BK107.out 2
      have hfz26_0 := fz BK107.out 0
      have hfz26_1 := fz BK107.out 1
      have hfz26_2 := fz BK107.out 2
      go_wp2
      go_ret
      exact ⟨TR, TB2 GE106.out GE107.out⟩
end Go.Proofs.YtfmpbkolpjlfbaaDoor.PRaspKeys
namespace Go.Proofs.YtfmpbkolpjlfbaaDoor.PRaspKeys
open Go.RowKit Go.Proofs.YtfmpbkolpjlfbaaDoorW.PrintWords Go.Proofs.YtfmpbkolpjlfbaaDoorW.PrintLast Go.Proofs.YtfmpbkolpjlfbaaDoorW.PrintMore Go.Proofs.YtfmpbkolpjlfbaaDoor.M
attribute [local go_sem] max2_int min2_int max_two min_two max_three min_three max_four min_four   -- for this text's walks alone
/-! ### saronref03_best: function 56 -/
def saronref03_best.l0 : Nat → List (S93) → Int → Int → Bool → Int → Int → Int → List (S57) → Int → Int → List (S69) → Option (Int × Int)
 | 0, _, _, _, _, _, _, _, _, _, _, _ => none
 | k + 1, x1, x2, x3, x4, x12, x13, x14, x111000, x111001, x111002, x111003 => if x14 < (x111000.length : Int) then (if 0 ≤ x14 then (if ((rd_T57 x111000 x14).f1) > x3 then (saronref03_best.l0 k x1 x2 x3 x4 x12 x13 (wrap64 (x14 + 1)) x111000 x111001 x111002 x111003) else (if 0 ≤ (wrap64 (x3 - ((rd_T57 x111000 x14).f1))) then (if (wrap64 (x3 - ((rd_T57 x111000 x14).f1))) < (x1.length : Int) then ((saronref03_leads.f k ((rd_T93 x1 (wrap64 (x3 - ((rd_T57 x111000 x14).f1)))).f0) ((rd_T57 x111000 x14).f0.f0) ((rd_T57 x111000 x14).f0.f1) ((rd_T57 x111000 x14).f1) x2 x4).bind fun t115 => (if t115 < 1000 then (if (wrap64 (t115 + 1)) < x13 then (saronref03_best.l0 k x1 x2 x3 x4 x14 (wrap64 (t115 + 1)) (wrap64 (x14 + 1)) x111000 x111001 x111002 x111003) else (saronref03_best.l0 k x1 x2 x3 x4 x12 x13 (wrap64 (x14 + 1)) x111000 x111001 x111002 x111003)) else (saronref03_best.l0 k x1 x2 x3 x4 x12 x13 (wrap64 (x14 + 1)) x111000 x111001 x111002 x111003))) else (none)) else (none))) else (none)) else (some (x12, x13))
def saronref03_best.f (k : Nat) (l0_0 : List (S57)) (a0_1 : Int) (a0_2 : Int) (l0_3 : List (S69)) (l1 : List (S93)) (a2 : Int) (a3 : Int) (a4 : Bool) : Option (Int × Int) := (saronref00_Bears.f a0_1 a0_2 a2).bind fun t111 => (if t111 = true then (some ((-1), 0)) else (saronref03_best.l0 k l1 a2 a3 a4 (-1) 1000 0 l0_0 a0_1 a0_2 l0_3))
theorem saronref03_best.mono_l : ∀ k, (∀ y0 y1 y2 y3 y4 y5 y6 y7 y8 y9 y10, LeO (saronref03_best.l0 k y0 y1 y2 y3 y4 y5 y6 y7 y8 y9 y10) (saronref03_best.l0 (k + 1) y0 y1 y2 y3 y4 y5 y6 y7 y8 y9 y10))
 | 0 => fun _ _ _ _ _ _ _ _ _ _ _ r h => by simp [saronref03_best.l0] at h
 | k + 1 => by
  have ih0 := saronref03_best.mono_l k
  ·intro y0 y1 y2 y3 y4 y5 y6 y7 y8 y9 y10
   unfold saronref03_best.l0
   repeat' first
   | (with_reducible exact ih0 _ _ _ _ _ _ _ _ _ _ _)
   | (with_reducible exact saronref03_leads.mono _ _ _ _ _ _ _)
   | (with_reducible exact LeO.refl _)
   | (with_reducible exact LeO.none _)
   | (with_reducible refine LeO.ite ?_ ?_)
   | (with_reducible refine LeO.bind ?_ (fun _ => ?_))
   | exact ih0 _ _ _ _ _ _ _ _ _ _ _
   | exact saronref03_leads.mono _ _ _ _ _ _ _
   | exact LeO.none _
   | refine LeO.ite ?_ ?_
   | refine LeO.bind ?_ (fun _ => ?_)
theorem saronref03_best.mono : ∀ a0 a1 a2 a3 a4 a5 a6 a7 k, LeO (saronref03_best.f k a0 a1 a2 a3 a4 a5 a6 a7) (saronref03_best.f (k + 1) a0 a1 a2 a3 a4 a5 a6 a7) := by
 intro a0 a1 a2 a3 a4 a5 a6 a7 k
 have ih0 := saronref03_best.mono_l k
 unfold saronref03_best.f
 repeat' first
   | (with_reducible exact ih0 _ _ _ _ _ _ _ _ _ _ _)
   | (with_reducible exact saronref03_leads.mono _ _ _ _ _ _ _)
   | (with_reducible exact LeO.refl _)
   | (with_reducible exact LeO.none _)
   | (with_reducible refine LeO.ite ?_ ?_)
   | (with_reducible refine LeO.bind ?_ (fun _ => ?_))
   | exact ih0 _ _ _ _ _ _ _ _ _ _ _
   | exact saronref03_leads.mono _ _ _ _ _ _ _
   | exact LeO.none _
   | refine LeO.ite ?_ ?_
   | refine LeO.bind ?_ (fun _ => ?_)
def saronref03_best.T9 : Bool × List (List Nat × List Nat) := (true, [([], []), ([], []), ([], []), ([2], [2]), ([1, 3], [1, 3]), ([0, 4], [0, 4]), ([5], [5]), ([], []), ([], []), ([], []), ([6, 7, 8, 9], [6, 7, 8, 9]), ([10, 10, 0, 1, 2, 3, 4, 5, 6, 7, 8, 9, 10], [10])])
def saronref03_best.B9 : List Nat := [0, 0, 0, 4, 14, 31, 63, 0, 0, 0, 1023, 2047]
theorem saronref03_best.tab9 : rtab .any (opsOf Tryd.f56 9) = saronref03_best.T9 := by kernel_rfl
theorem saronref03_best.bits9 : waitsOk saronref03_best.T9.2 saronref03_best.B9 = true := by kernel_rfl
set_option maxHeartbeats 8000000 in
set_option maxRecDepth 100000 in
theorem saronref03_best.calls (k : Nat) (A0_0 : Option Addr) (c0_0 : Nat) (l0_0 : List (S57)) (a0_1 : Int) (a0_2 : Int) (A0_3 : Option Addr) (c0_3 : Nat) (l0_3 : List (S69)) (A1 : Option Addr) (c1 : Nat) (l1 : List (S93)) (a2 : Int) (a3 : Int) (a4 : Bool) (r1 : Int) (r2 : Int) (w : World) (hr0_0 : Kd.C k57 w A0_0 l0_0.length l0_0) (hc0_0 : l0_0.length ≤ c0_0) (hr0_3 : Kd.C k69 w A0_3 l0_3.length l0_3) (hc0_3 : l0_3.length ≤ c0_3) (hr1 : Kd.C k93 w A1 l1.length l1) (hc1 : l1.length ≤ c1) (h : saronref03_best.f k l0_0 a0_1 a0_2 l0_3 l1 a2 a3 a4 = some (r1, r2)) :
  Calls Tryd.prog 56 #[.agg #[.slice A0_0 l0_0.length c0_0, .int .i64 a0_1, .int .i64 a0_2, .slice A0_3 l0_3.length c0_3], .slice A1 l1.length c1, .int .i64 a2, .int .i64 a3, .bool a4] w fun e w' => e = .returned (.tuple #[.int .i64 r1, .int .i64 r2]) ∧ Below w.heap.size w w' := by
 have hu27 := Tryd.underlying27
 have hu24 := Tryd.underlying24
 have hu57 := Tryd.underlying57
 have hu93 := Tryd.underlying93
 have HR0_0 := Aside0.mk hr0_0
 have HC0_0 := Aside0.mk hc0_0
 clear hr0_0 hc0_0
 have HR0_3 := Aside0.mk hr0_3
 have HC0_3 := Aside0.mk hc0_3
 clear hr0_3 hc0_3
 have HR1 := Aside0.mk hr1
 have HC1 := Aside0.mk hc1
 clear hr1 hc1
 have HB := Aside0.mk (Below.refl w.heap.size w)
 have H : ((saronref00_Bears.f a0_1 a0_2 a2).bind fun t111 => (if t111 = true then (some ((-1), 0)) else (saronref03_best.l0 k l1 a2 a3 a4 (-1) 1000 0 l0_0 a0_1 a0_2 l0_3))) = some (r1, r2) := h
 clear h
 replace H := Option.bind_eq_some_iff.mp H
 obtain ⟨t111, A60, H⟩ := H
 replace H : (if t111 = true then (some ((-1), 0)) else (saronref03_best.l0 k l1 a2 a3 a4 (-1) 1000 0 l0_0 a0_1 a0_2 l0_3)) = some (r1, r2) := H
 have A6 := Aside0.mk A60
 clear A60
 by_cases c7 : t111 = true
 ·subst c7
  have H1 : (some ((-1), 0)) = some (r1, r2) := by rw [if_pos rfl] at H; exact H
  clear H
  have H := H1
  clear H1
  simp only [Option.some.injEq, Prod.mk.injEq] at H
  obtain ⟨rfl, rfl⟩ := H
  go_enter Tryd.func56, Tryd.ntmps56
  go_wp2_with (first | ((with_reducible refine gate_dst (N := 5) rfl ?_); refine box_event ?hg (N := 5) ?hd (cs := #[.slice A0_0 l0_0.length c0_0, .int .i64 a0_1, .int .i64 a0_2, .slice A0_3 l0_3.length c0_3]) (t := 27) ?hr ?_; (case hd => rfl); (case hg => rfl); (case hr => exact TS); intro gb110 hg w8 hbox hb; have BK110 := Aside0.mk (hbox); have GW110 := Aside0.mk ((TG : w.heap.size ≤ gb110)); have GE110 := Aside0.mk ((TG : w.heap.size ≤ gb110)); replace HB := Aside0.mk (below_step TB hb); clear hb hbox hg; have hcz9_0 := cz BK110.out 0; have hcz9_1 := cz BK110.out 1; have hcz9_2 := cz BK110.out 2; have hcz9_3 := cz BK110.out 3; have hfz9_0 := fz BK110.out 0; have hfz9_1 := fz BK110.out 1; have hfz9_2 := fz BK110.out 2; have hfz9_3 := fz BK110.out 3) | ((with_reducible refine gate_callee (f := 40) rfl ?_); refine goesL_ (some 20) rfl rfl Tryd.func40 (by kernel_rfl) rfl #[.agg #[.int .i64 a0_1, .int .i64 a0_2], .int .i64 a2] rfl TM ?_; (with_reducible refine (saronref00_Bears.calls a0_1 a0_2 a2 true _ A6.out).mono ?_); rintro e w10 ⟨rfl, hb⟩; refine ⟨_, rfl, ?_⟩; replace BK110 := Aside0.mk (TKb hb BK110.out); replace HB := Aside0.mk (below_step (TB1 GE110.out) hb); (try clear hb); (try clear hb2); (try clear hk); (try clear hi)))
  go_ret2
  exact ⟨TR, TB1 GE110.out⟩
 ·replace c7 := Bool.eq_false_iff.mpr c7
  subst c7
  have H1 : (saronref03_best.l0 k l1 a2 a3 a4 (-1) 1000 0 l0_0 a0_1 a0_2 l0_3) = some (r1, r2) := by rw [if_neg (show ¬ (false = true) by decide)] at H; exact H
  clear H
  have H := H1
  clear H1
  have H' := Aside0.mk H
  clear H
  go_enter Tryd.func56, Tryd.ntmps56
  go_wp2_with (first | ((with_reducible refine gate_dst (N := 5) rfl ?_); refine box_event ?hg (N := 5) ?hd (cs := #[.slice A0_0 l0_0.length c0_0, .int .i64 a0_1, .int .i64 a0_2, .slice A0_3 l0_3.length c0_3]) (t := 27) ?hr ?_; (case hd => rfl); (case hg => rfl); (case hr => exact TS); intro gb110 hg w11 hbox hb; have BK110 := Aside0.mk (hbox); have GW110 := Aside0.mk ((TG : w.heap.size ≤ gb110)); have GE110 := Aside0.mk ((TG : w.heap.size ≤ gb110)); replace HB := Aside0.mk (below_step TB hb); clear hb hbox hg; have hcz12_0 := cz BK110.out 0; have hcz12_1 := cz BK110.out 1; have hcz12_2 := cz BK110.out 2; have hcz12_3 := cz BK110.out 3; have hfz12_0 := fz BK110.out 0; have hfz12_1 := fz BK110.out 1; have hfz12_2 := fz BK110.out 2; have hfz12_3 := fz BK110.out 3) | ((with_reducible refine gate_callee (f := 40) rfl ?_); refine goesL_ (some 20) rfl rfl Tryd.func40 (by kernel_rfl) rfl #[.agg #[.int .i64 a0_1, .int .i64 a0_2], .int .i64 a2] rfl TM ?_; (with_reducible refine (saronref00_Bears.calls a0_1 a0_2 a2 false _ A6.out).mono ?_); rintro e w13 ⟨rfl, hb⟩; refine ⟨_, rfl, ?_⟩; replace BK110 := Aside0.mk (TKb hb BK110.out); replace HB := Aside0.mk (below_step (TB1 GE110.out) hb); (try clear hb); (try clear hb2); (try clear hk); (try clear hi)))
  go_loopg [12, 13, 14] k (fun kq v12 v13 v14 w' => ∃ (x12_1 : Int) (x13_1 : Int) (x14_1 : Int), v12 = .int .i64 x12_1 ∧ v13 = .int .i64 x13_1 ∧ v14 = .int .i64 x14_1 ∧ Aside0 (saronref03_best.l0 kq l1 a2 a3 a4 x12_1 x13_1 x14_1 l0_0 a0_1 a0_2 l0_3 = some (r1, r2)) ∧ Aside0 (kq ≤ k) ∧ Aside0 (w'.heap[gb110]? = some (.cells #[(.slice A0_0 l0_0.length c0_0), .int .i64 a0_1, .int .i64 a0_2, (.slice A0_3 l0_3.length c0_3)] 27 (0, 0))) ∧ Aside0 (Below w.heap.size w w'))
  case atStart => exact ⟨((-1)), (1000), (0), TT, TT, TT, H', ⟨Nat.le_refl _⟩, ⟨TK BK110.out⟩, ⟨TB1 GE110.out⟩⟩
  case round =>
   clear H'
   try clear c1
   try clear p2
   try clear c4
   try clear c5
   try clear c7
   try clear hcz12_0 hcz12_1 hcz12_2 hcz12_3
   try clear hcz9_0 hcz9_1 hcz9_2 hcz9_3
   try clear hfz12_0 hfz12_1 hfz12_2 hfz12_3
   try clear hfz9_0 hfz9_1 hfz9_2 hfz9_3
   obtain ⟨x12_1, x13_1, x14_1, rfl, rfl, rfl, HA, HK1, BK110, HB⟩ := hrel
   cases gk with
   | zero => exact absurd HA.out (by simp [saronref03_best.l0])
   | succ k1 =>
    have H := HA.out
    clear HA
    simp only [saronref03_best.l0] at H
    by_cases c14 : x14_1 < (l0_0.length : Int)
    ·rw [if_pos c14] at H
     have c14b0 : decide (x14_1 < (l0_0.length : Int)) = true := decide_eq_true c14
     clear c14
     by_cases c15 : 0 ≤ x14_1
     ·rw [if_pos c15] at H
      have c15b0 : decide (0 ≤ x14_1) = true := decide_eq_true c15
      clear c15
      by_cases c16 : ((rd_T57 l0_0 x14_1).f1) > a3
      ·rw [if_pos c16] at H
       have c16b0 : decide (a3 < ((rd_T57 l0_0 x14_1).f1)) = true := decide_eq_true c16
       clear c16
       have H' := Aside0.mk H
       clear H
       have hcz17_0 := cz BK110.out 0
       have hcz17_1 := cz BK110.out 1
       have hcz17_2 := cz BK110.out 2
       have hcz17_3 := cz BK110.out 3
       have hfz17_0 := fz BK110.out 0
       have hfz17_1 := fz BK110.out 1
       have hfz17_2 := fz BK110.out 2
       have hfz17_3 := fz BK110.out 3
       have p112 : 0 ≤ (x14_1 : Int) := of_decide_eq_true TA
       have q112 : x14_1 < (l0_0.length : Int) := of_decide_eq_true TA
       obtain ⟨ad112, e112, hx112_0, hx112_1, hx112_2⟩ := at_T57 HR0_0.out x14_1 p112 q112
       cases e112
       replace hx112_0 := hx HB.out hx112_0
       replace hx112_1 := hx HB.out hx112_1
       replace hx112_2 := hx HB.out hx112_2
       replace p112 := eq_true p112
       replace q112 := eq_true q112
       go_wp2_with (first | ((with_reducible refine gate_dst (N := 15) rfl ?_); refine box_event ?hg (N := 15) ?hd (cs := #[.int .i64 0, .int .i64 0, .int .i64 0]) (t := 57) ?hr ?_; (case hd => rfl); (case hg => rfl); (case hr => exact TS); intro gb113 hg w18 hbox hb; have BK113 := Aside0.mk (hbox); have GW113 := Aside0.mk ((TG1 GE110.out : w.heap.size ≤ gb113)); have GE113 := Aside0.mk ((TG1 GE110.out : w.heap.size ≤ gb113)); have NB110_113 := Aside0.mk ((by rw [hg]; exact Nat.ne_of_lt (blk_lt (g := gb110) (o := .cells #[.slice (some ad112) l0_0.length c0_0, .int .i64 a0_1, .int .i64 a0_2, .slice A0_3 l0_3.length c0_3] 27 (0, 0)) (TK BK110.out)) : gb110 ≠ gb113)); have NB113_110 := Aside0.mk ((by rw [hg]; exact Nat.ne_of_gt (blk_lt (g := gb110) (o := .cells #[.slice (some ad112) l0_0.length c0_0, .int .i64 a0_1, .int .i64 a0_2, .slice A0_3 l0_3.length c0_3] 27 (0, 0)) (TK BK110.out)) : gb113 ≠ gb110)); replace BK110 := Aside0.mk (TKb hb BK110.out); replace HB := Aside0.mk (below_step (TB1 GE110.out) hb); clear hb hbox hg; have hnb19 := NB113_110.out; have hnc19 := NB110_113.out; have hcz20_0 := cz BK113.out 0; have hcz20_1 := cz BK113.out 1; have hcz20_2 := cz BK113.out 2; have hfz20_0 := fz BK113.out 0; have hfz20_1 := fz BK113.out 1; have hfz20_2 := fz BK113.out 2))
       go_roundg k1
       case measure => have := HK1.out; omega
       case rel => exact ⟨(x12_1), (x13_1), (wrap64 (x14_1 + 1)), TT, TT, TT, H', ⟨by have := HK1.out; omega⟩, ⟨by (with_reducible repeat (first | refine blk_drewN ?_ _ | refine blk_drew ?_ | refine blk_alloc ?_ _)); refine blk_far ?_ NB110_113.out _; (with_reducible repeat (first | refine blk_drewN ?_ _ | refine blk_drew ?_ | refine blk_alloc ?_ _)); refine blk_far ?_ NB110_113.out _; (with_reducible repeat (first | refine blk_drewN ?_ _ | refine blk_drew ?_ | refine blk_alloc ?_ _)); refine blk_far ?_ NB110_113.out _; (with_reducible repeat (first | refine blk_drewN ?_ _ | refine blk_drew ?_ | refine blk_alloc ?_ _)); exact BK110.out⟩, ⟨TB2 GE110.out GE113.out⟩⟩
      ·rw [if_neg c16] at H
       have c16b0 : decide (a3 < ((rd_T57 l0_0 x14_1).f1)) = false := decide_eq_false c16
       clear c16
       obtain ⟨ji21, hji21⟩ : ∃ j_ : Int, (wrap64 (a3 - ((rd_T57 l0_0 x14_1).f1))) = j_ := ⟨_, rfl⟩
       replace H : (if 0 ≤ (ji21) then (if (ji21) < (l1.length : Int) then ((saronref03_leads.f k1 ((rd_T93 l1 (ji21)).f0) ((rd_T57 l0_0 x14_1).f0.f0) ((rd_T57 l0_0 x14_1).f0.f1) ((rd_T57 l0_0 x14_1).f1) a2 a4).bind fun t115 => (if t115 < 1000 then (if (wrap64 (t115 + 1)) < x13_1 then (saronref03_best.l0 k1 l1 a2 a3 a4 x14_1 (wrap64 (t115 + 1)) (wrap64 (x14_1 + 1)) l0_0 a0_1 a0_2 l0_3) else (saronref03_best.l0 k1 l1 a2 a3 a4 x12_1 x13_1 (wrap64 (x14_1 + 1)) l0_0 a0_1 a0_2 l0_3)) else (saronref03_best.l0 k1 l1 a2 a3 a4 x12_1 x13_1 (wrap64 (x14_1 + 1)) l0_0 a0_1 a0_2 l0_3))) else (none)) else (none)) = some (r1, r2) := by first | (rw [hji21] at H; exact H) | (simp only [hji21] at H ⊢; exact H)
       have hji21w : (IntKind.i64.wrap (a3 - ((rd_T57 l0_0 x14_1).f1))) = ji21 := (i64_w _).trans hji21
       by_cases c22 : 0 ≤ (ji21)
       ·rw [if_pos c22] at H
        have c22b0 : decide (0 ≤ (ji21)) = true := decide_eq_true c22
        clear c22
        by_cases c23 : (ji21) < (l1.length : Int)
        ·rw [if_pos c23] at H
         have c23b0 : decide ((ji21) < (l1.length : Int)) = true := decide_eq_true c23
         clear c23
         replace H := Option.bind_eq_some_iff.mp H
         obtain ⟨t115, A240, H⟩ := H
         replace H : (if t115 < 1000 then (if (wrap64 (t115 + 1)) < x13_1 then (saronref03_best.l0 k1 l1 a2 a3 a4 x14_1 (wrap64 (t115 + 1)) (wrap64 (x14_1 + 1)) l0_0 a0_1 a0_2 l0_3) else (saronref03_best.l0 k1 l1 a2 a3 a4 x12_1 x13_1 (wrap64 (x14_1 + 1)) l0_0 a0_1 a0_2 l0_3)) else (saronref03_best.l0 k1 l1 a2 a3 a4 x12_1 x13_1 (wrap64 (x14_1 + 1)) l0_0 a0_1 a0_2 l0_3)) = some (r1, r2) := H
         have A24 := Aside0.mk A240
         clear A240
         by_cases c25 : t115 < 1000
         ·rw [if_pos c25] at H
          have c25b0 : decide (t115 < 1000) = true := decide_eq_true c25
          clear c25
          by_cases c26 : (wrap64 (t115 + 1)) < x13_1
          ·rw [if_pos c26] at H
           have c26b0 : decide ((wrap64 (t115 + 1)) < x13_1) = true := decide_eq_true c26
           clear c26
           have H' := Aside0.mk H
           clear H
           have hcz27_0 := cz BK110.out 0
           have hcz27_1 := cz BK110.out 1
           have hcz27_2 := cz BK110.out 2
           have hcz27_3 := cz BK110.out 3
           have hfz27_0 := fz BK110.out 0
           have hfz27_1 := fz BK110.out 1
           have hfz27_2 := fz BK110.out 2
           have hfz27_3 := fz BK110.out 3
           have p112 : 0 ≤ (x14_1 : Int) := of_decide_eq_true TA
           have q112 : x14_1 < (l0_0.length : Int) := of_decide_eq_true TA
           obtain ⟨ad112, e112, hx112_0, hx112_1, hx112_2⟩ := at_T57 HR0_0.out x14_1 p112 q112
           cases e112
           replace hx112_0 := hx HB.out hx112_0
           replace hx112_1 := hx HB.out hx112_1
           replace hx112_2 := hx HB.out hx112_2
           replace p112 := eq_true p112
           replace q112 := eq_true q112
           try go_wp2_with (first | ((with_reducible refine gate_dst (N := 15) rfl ?_); refine box_event ?hg (N := 15) ?hd (cs := #[.int .i64 0, .int .i64 0, .int .i64 0]) (t := 57) ?hr ?_; (case hd => rfl); (case hg => rfl); (case hr => exact TS); intro gb113 hg w28 hbox hb; have BK113 := Aside0.mk (hbox); have GW113 := Aside0.mk ((TG1 GE110.out : w.heap.size ≤ gb113)); have GE113 := Aside0.mk ((TG1 GE110.out : w.heap.size ≤ gb113)); have NB110_113 := Aside0.mk ((by rw [hg]; exact Nat.ne_of_lt (blk_lt (g := gb110) (o := .cells #[.slice (some ad112) l0_0.length c0_0, .int .i64 a0_1, .int .i64 a0_2, .slice A0_3 l0_3.length c0_3] 27 (0, 0)) (TK BK110.out)) : gb110 ≠ gb113)); have NB113_110 := Aside0.mk ((by rw [hg]; exact Nat.ne_of_gt (blk_lt (g := gb110) (o := .cells #[.slice (some ad112) l0_0.length c0_0, .int .i64 a0_1, .int .i64 a0_2, .slice A0_3 l0_3.length c0_3] 27 (0, 0)) (TK BK110.out)) : gb113 ≠ gb110)); replace BK110 := Aside0.mk (TKb hb BK110.out); replace HB := Aside0.mk (below_step (TB1 GE110.out) hb); clear hb hbox hg; have hnb29 := NB113_110.out; have hnc29 := NB110_113.out; have hcz30_0 := cz BK113.out 0; have hcz30_1 := cz BK113.out 1; have hcz30_2 := cz BK113.out 2; have hfz30_0 := fz BK113.out 0; have hfz30_1 := fz BK113.out 1; have hfz30_2 := fz BK113.out 2))
           have n0_ : Aside0 ((((w28.setCell ⟨gb113, 0, none⟩ (.int .i64 ((rd_T57 l0_0 x14_1).f0.f0))).setCell ⟨gb113, 1, none⟩ (.int .i64 ((rd_T57 l0_0 x14_1).f0.f1))).setCell ⟨gb113, 2, none⟩ (.int .i64 ((rd_T57 l0_0 x14_1).f1))).heap[gb110]? = some (.cells #[.slice (some ad112) l0_0.length c0_0, .int .i64 a0_1, .int .i64 a0_2, .slice A0_3 l0_3.length c0_3] 27 (0, 0))) := ⟨by (with_reducible repeat (first | refine blk_drewN ?_ _ | refine blk_drew ?_ | refine blk_alloc ?_ _)); refine blk_far ?_ NB110_113.out _; (with_reducible repeat (first | refine blk_drewN ?_ _ | refine blk_drew ?_ | refine blk_alloc ?_ _)); refine blk_far ?_ NB110_113.out _; (with_reducible repeat (first | refine blk_drewN ?_ _ | refine blk_drew ?_ | refine blk_alloc ?_ _)); refine blk_far ?_ NB110_113.out _; (with_reducible repeat (first | refine blk_drewN ?_ _ | refine blk_drew ?_ | refine blk_alloc ?_ _)); exact BK110.out⟩
           have n1_ : Aside0 ((((w28.setCell ⟨gb113, 0, none⟩ (.int .i64 ((rd_T57 l0_0 x14_1).f0.f0))).setCell ⟨gb113, 1, none⟩ (.int .i64 ((rd_T57 l0_0 x14_1).f0.f1))).setCell ⟨gb113, 2, none⟩ (.int .i64 ((rd_T57 l0_0 x14_1).f1))).heap[gb113]? = some (.cells #[.int .i64 ((rd_T57 l0_0 x14_1).f0.f0), .int .i64 ((rd_T57 l0_0 x14_1).f0.f1), .int .i64 ((rd_T57 l0_0 x14_1).f1)] 57 (0, 0))) := ⟨by (with_reducible repeat (first | refine blk_drewN ?_ _ | refine blk_drew ?_ | refine blk_alloc ?_ _)); refine blk_put (cs := #[.int .i64 ((rd_T57 l0_0 x14_1).f0.f0), .int .i64 ((rd_T57 l0_0 x14_1).f0.f1), .int .i64 0]) ?_ 2 _ rfl; (with_reducible repeat (first | refine blk_drewN ?_ _ | refine blk_drew ?_ | refine blk_alloc ?_ _)); refine blk_put (cs := #[.int .i64 ((rd_T57 l0_0 x14_1).f0.f0), .int .i64 0, .int .i64 0]) ?_ 1 _ rfl; (with_reducible repeat (first | refine blk_drewN ?_ _ | refine blk_drew ?_ | refine blk_alloc ?_ _)); refine blk_put (cs := #[.int .i64 0, .int .i64 0, .int .i64 0]) ?_ 0 _ rfl; (with_reducible repeat (first | refine blk_drewN ?_ _ | refine blk_drew ?_ | refine blk_alloc ?_ _)); exact BK113.out⟩
           have n2_ : Aside0 (Below w.heap.size w (((w28.setCell ⟨gb113, 0, none⟩ (.int .i64 ((rd_T57 l0_0 x14_1).f0.f0))).setCell ⟨gb113, 1, none⟩ (.int .i64 ((rd_T57 l0_0 x14_1).f0.f1))).setCell ⟨gb113, 2, none⟩ (.int .i64 ((rd_T57 l0_0 x14_1).f1)))) := ⟨TB2 GE110.out GE113.out⟩
           (try clear BK110)
           (try clear BK113)
           (try clear HB)
           generalize (((w28.setCell ⟨gb113, 0, none⟩ (.int .i64 ((rd_T57 l0_0 x14_1).f0.f0))).setCell ⟨gb113, 1, none⟩ (.int .i64 ((rd_T57 l0_0 x14_1).f0.f1))).setCell ⟨gb113, 2, none⟩ (.int .i64 ((rd_T57 l0_0 x14_1).f1))) = w31 at n0_ n1_ n2_ ⊢
           have BK110 := n0_
           have BK113 := n1_
           have HB := n2_
           clear n0_ n1_ n2_
           have n0_ := Aside0.mk (blk_drew BK110.out)
           have n1_ := Aside0.mk (blk_drew BK113.out)
           have n2_ := Aside0.mk (below_drew1 HB.out)
           clear BK110
           clear BK113
           clear HB
           have BK110 := n0_
           have BK113 := n1_
           have HB := n2_
           clear n0_ n1_ n2_
           have p114 : 0 ≤ ((ji21) : Int) := of_decide_eq_true TA
           have q114 : (ji21) < (l1.length : Int) := of_decide_eq_true TA
           obtain ⟨ad114, A114_0, c114_0, e114, hx114_0, hl114_0, hi114_0⟩ := at_T93 HR1.out (ji21) p114 q114
           have hw114_0 := hx114_0
           cases e114
           replace hx114_0 := hx HB.out hx114_0
           have HR114_0 := Aside0.mk hi114_0
           have HC114_0 := Aside0.mk hl114_0
           clear hi114_0 hl114_0
           replace p114 := eq_true p114
           replace q114 := eq_true q114
           refine start_ (n := 12) (S := fun w' => w'.cell? ⟨gb113, 0, none⟩ = some (.int .i64 ((rd_T57 l0_0 x14_1).f0.f0)) ∧ w'.cell? ⟨gb113, 1, none⟩ = some (.int .i64 ((rd_T57 l0_0 x14_1).f0.f1)) ∧ w'.cell? ⟨gb113, 2, none⟩ = some (.int .i64 ((rd_T57 l0_0 x14_1).f1)) ∧ w'.cell? (ad114.add ((ji21)).toNat) = some (.slice A114_0 ((rd_T93 l1 (ji21)).f0).length c114_0)) (ds := []) (.replicate 12 false) (by kernel_rfl) rfl rfl ⟨cz BK113.out 0, cz BK113.out 1, cz BK113.out 2, (hx HB.out hw114_0)⟩ (fun hHeld => ?_); refine with_tabW saronref03_best.tab9 saronref03_best.bits9 (fun HT_ HW_ => ?_)
           generalize w31.drew = w32 at BK110 BK113 HB HR114_0 hx114_0 hHeld ⊢
           refine pT 0 37 (bt 12 1) (k := ?_)
           refine pT 1 38 (bt 12 3) (k := ?_)
           refine pT 2 39 (bt 12 7) (k := ?_)
           refine pT 8 45 (bt 12 263) (k := ?_)
           refine pT 9 46 (bt 12 775) (k := ?_)
           refine tT4 3 40 (bt 12 783) hHeld (k := ?_)
           refine pT 4 41 (bt 12 799) (k := ?_)
           refine pT 5 42 (bt 12 831) (k := ?_)
           refine tT4 6 43 (bt 12 895) hHeld (k := ?_)
           refine tT4 7 44 (bt 12 1023) hHeld (k := ?_)
           refine one_ (i := 10) (N := some 47) (bt 12 2047) rfl rfl (one_of HT_.out (by kernel_rfl)) (by decide) (fun K hK => ?_)
           refine goes_ Tryd.func71 (by kernel_rfl) rfl #[.agg #[.slice A114_0 ((rd_T93 l1 (ji21)).f0).length c114_0], .agg #[.int .i64 ((rd_T57 l0_0 x14_1).f0.f0), .int .i64 ((rd_T57 l0_0 x14_1).f0.f1), .int .i64 ((rd_T57 l0_0 x14_1).f1)], .int .i64 a2, .bool a4] (by rfl) rfl rfl (by (try simp only [lM, mC, mN]); first | done | (simp only [hji21]; rfl) | rfl | (simp only [List.length_drop, List.length_take]; rfl)) ?_
           with_reducible refine (saronref03_leads.calls k1 _ _ ((rd_T93 l1 (ji21)).f0) ((rd_T57 l0_0 x14_1).f0.f0) ((rd_T57 l0_0 x14_1).f0.f1) ((rd_T57 l0_0 x14_1).f1) a2 a4 t115 _ ?side1 ?side2 A24.out).mono ?_
           (case side1 => exact TC HR114_0.out)
           (case side2 => exact HC114_0.out)
           rintro e w33 ⟨rfl, hb⟩
           refine ⟨_, rfl, ?_⟩
           have n0_ := Aside0.mk (TKb hb BK110.out)
           have n1_ := Aside0.mk (TKb hb BK113.out)
           have n2_ := Aside0.mk (below_step (TB2 GE110.out GE113.out) hb)
           clear BK110
           clear BK113
           clear HB
           have BK110 := n0_
           have BK113 := n1_
           have HB := n2_
           clear n0_ n1_ n2_
           (try clear hb)
           (try clear hb2)
           (try clear hk)
           (try clear hi)
           refine hK.out _ _ ⟨cz BK113.out 0, cz BK113.out 1, cz BK113.out 2, (hx HB.out hw114_0)⟩ (fun hHeld => ?_)
           clear hK K
           refine norm_ (a' := ?_) ?_ ?_
           rotate_left
           ·show Act.put _ (some 47) _ = _
            simp only [Act.put, lA, lZ, lS, i64_w, i32_w]
            rfl
           refine pT 11 16 (bt 12 4095) (k := ?_)
           refine done_ (done_of HT_.out (by kernel_rfl)) ?_
           try go_wp2
           go_roundg k1
           case measure => have := HK1.out; omega
           case rel => exact ⟨(x14_1), (wrap64 (t115 + 1)), (wrap64 (x14_1 + 1)), TT, TT, TT, H', ⟨by have := HK1.out; omega⟩, ⟨TK BK110.out⟩, ⟨TB2 GE110.out GE113.out⟩⟩
          ·rw [if_neg c26] at H
           have c26b0 : decide ((wrap64 (t115 + 1)) < x13_1) = false := decide_eq_false c26
           clear c26
           have H' := Aside0.mk H
           clear H
           have hcz34_0 := cz BK110.out 0
           have hcz34_1 := cz BK110.out 1
           have hcz34_2 := cz BK110.out 2
           have hcz34_3 := cz BK110.out 3
           have hfz34_0 := fz BK110.out 0
           have hfz34_1 := fz BK110.out 1
           have hfz34_2 := fz BK110.out 2
           have hfz34_3 := fz BK110.out 3
           have p112 : 0 ≤ (x14_1 : Int) := of_decide_eq_true TA
           have q112 : x14_1 < (l0_0.length : Int) := of_decide_eq_true TA
           obtain ⟨ad112, e112, hx112_0, hx112_1, hx112_2⟩ := at_T57 HR0_0.out x14_1 p112 q112
           cases e112
           replace hx112_0 := hx HB.out hx112_0
           replace hx112_1 := hx HB.out hx112_1
           replace hx112_2 := hx HB.out hx112_2
           replace p112 := eq_true p112
           replace q112 := eq_true q112
           try go_wp2_with (first | ((with_reducible refine gate_dst (N := 15) rfl ?_); refine box_event ?hg (N := 15) ?hd (cs := #[.int .i64 0, .int .i64 0, .int .i64 0]) (t := 57) ?hr ?_; (case hd => rfl); (case hg => rfl); (case hr => exact TS); intro gb113 hg w35 hbox hb; have BK113 := Aside0.mk (hbox); have GW113 := Aside0.mk ((TG1 GE110.out : w.heap.size ≤ gb113)); have GE113 := Aside0.mk ((TG1 GE110.out : w.heap.size ≤ gb113)); have NB110_113 := Aside0.mk ((by rw [hg]; exact Nat.ne_of_lt (blk_lt (g := gb110) (o := .cells #[.slice (some ad112) l0_0.length c0_0, .int .i64 a0_1, .int .i64 a0_2, .slice A0_3 l0_3.length c0_3] 27 (0, 0)) (TK BK110.out)) : gb110 ≠ gb113)); have NB113_110 := Aside0.mk ((by rw [hg]; exact Nat.ne_of_gt (blk_lt (g := gb110) (o := .cells #[.slice (some ad112) l0_0.length c0_0, .int .i64 a0_1, .int .i64 a0_2, .slice A0_3 l0_3.length c0_3] 27 (0, 0)) (TK BK110.out)) : gb113 ≠ gb110)); replace BK110 := Aside0.mk (TKb hb BK110.out); replace HB := Aside0.mk (below_step (TB1 GE110.out) hb); clear hb hbox hg; have hnb36 := NB113_110.out; have hnc36 := NB110_113.out; have hcz37_0 := cz BK113.out 0; have hcz37_1 := cz BK113.out 1; have hcz37_2 := cz BK113.out 2; have hfz37_0 := fz BK113.out 0; have hfz37_1 := fz BK113.out 1; have hfz37_2 := fz BK113.out 2))
           have n0_ : Aside0 ((((w35.setCell ⟨gb113, 0, none⟩ (.int .i64 ((rd_T57 l0_0 x14_1).f0.f0))).setCell ⟨gb113, 1, none⟩ (.int .i64 ((rd_T57 l0_0 x14_1).f0.f1))).setCell ⟨gb113, 2, none⟩ (.int .i64 ((rd_T57 l0_0 x14_1).f1))).heap[gb110]? = some (.cells #[.slice (some ad112) l0_0.length c0_0, .int .i64 a0_1, .int .i64 a0_2, .slice A0_3 l0_3.length c0_3] 27 (0, 0))) := ⟨by (with_reducible repeat (first | refine blk_drewN ?_ _ | refine blk_drew ?_ | refine blk_alloc ?_ _)); refine blk_far ?_ NB110_113.out _; (with_reducible repeat (first | refine blk_drewN ?_ _ | refine blk_drew ?_ | refine blk_alloc ?_ _)); refine blk_far ?_ NB110_113.out _; (with_reducible repeat (first | refine blk_drewN ?_ _ | refine blk_drew ?_ | refine blk_alloc ?_ _)); refine blk_far ?_ NB110_113.out _; (with_reducible repeat (first | refine blk_drewN ?_ _ | refine blk_drew ?_ | refine blk_alloc ?_ _)); exact BK110.out⟩
           have n1_ : Aside0 ((((w35.setCell ⟨gb113, 0, none⟩ (.int .i64 ((rd_T57 l0_0 x14_1).f0.f0))).setCell ⟨gb113, 1, none⟩ (.int .i64 ((rd_T57 l0_0 x14_1).f0.f1))).setCell ⟨gb113, 2, none⟩ (.int .i64 ((rd_T57 l0_0 x14_1).f1))).heap[gb113]? = some (.cells #[.int .i64 ((rd_T57 l0_0 x14_1).f0.f0), .int .i64 ((rd_T57 l0_0 x14_1).f0.f1), .int .i64 ((rd_T57 l0_0 x14_1).f1)] 57 (0, 0))) := ⟨by (with_reducible repeat (first | refine blk_drewN ?_ _ | refine blk_drew ?_ | refine blk_alloc ?_ _)); refine blk_put (cs := #[.int .i64 ((rd_T57 l0_0 x14_1).f0.f0), .int .i64 ((rd_T57 l0_0 x14_1).f0.f1), .int .i64 0]) ?_ 2 _ rfl; (with_reducible repeat (first | refine blk_drewN ?_ _ | refine blk_drew ?_ | refine blk_alloc ?_ _)); refine blk_put (cs := #[.int .i64 ((rd_T57 l0_0 x14_1).f0.f0), .int .i64 0, .int .i64 0]) ?_ 1 _ rfl; (with_reducible repeat (first | refine blk_drewN ?_ _ | refine blk_drew ?_ | refine blk_alloc ?_ _)); refine blk_put (cs := #[.int .i64 0, .int .i64 0, .int .i64 0]) ?_ 0 _ rfl; (with_reducible repeat (first | refine blk_drewN ?_ _ | refine blk_drew ?_ | refine blk_alloc ?_ _)); exact BK113.out⟩
           have n2_ : Aside0 (Below w.heap.size w (((w35.setCell ⟨gb113, 0, none⟩ (.int .i64 ((rd_T57 l0_0 x14_1).f0.f0))).setCell ⟨gb113, 1, none⟩ (.int .i64 ((rd_T57 l0_0 x14_1).f0.f1))).setCell ⟨gb113, 2, none⟩ (.int .i64 ((rd_T57 l0_0 x14_1).f1)))) := ⟨TB2 GE110.out GE113.out⟩
           (try clear BK110)
           (try clear BK113)
           (try clear HB)
           generalize (((w35.setCell ⟨gb113, 0, none⟩ (.int .i64 ((rd_T57 l0_0 x14_1).f0.f0))).setCell ⟨gb113, 1, none⟩ (.int .i64 ((rd_T57 l0_0 x14_1).f0.f1))).setCell ⟨gb113, 2, none⟩ (.int .i64 ((rd_T57 l0_0 x14_1).f1))) = w38 at n0_ n1_ n2_ ⊢
           have BK110 := n0_
           have BK113 := n1_
           have HB := n2_
           clear n0_ n1_ n2_
           have n0_ := Aside0.mk (blk_drew BK110.out)
           have n1_ := Aside0.mk (blk_drew BK113.out)
           have n2_ := Aside0.mk (below_drew1 HB.out)
           clear BK110
           clear BK113
           clear HB
           have BK110 := n0_
           have BK113 := n1_
           have HB := n2_
           clear n0_ n1_ n2_
           have p114 : 0 ≤ ((ji21) : Int) := of_decide_eq_true TA
           have q114 : (ji21) < (l1.length : Int) := of_decide_eq_true TA
           obtain ⟨ad114, A114_0, c114_0, e114, hx114_0, hl114_0, hi114_0⟩ := at_T93 HR1.out (ji21) p114 q114
           have hw114_0 := hx114_0
           cases e114
           replace hx114_0 := hx HB.out hx114_0
           have HR114_0 := Aside0.mk hi114_0
           have HC114_0 := Aside0.mk hl114_0
           clear hi114_0 hl114_0
           replace p114 := eq_true p114
           replace q114 := eq_true q114
           refine start_ (n := 12) (S := fun w' => w'.cell? ⟨gb113, 0, none⟩ = some (.int .i64 ((rd_T57 l0_0 x14_1).f0.f0)) ∧ w'.cell? ⟨gb113, 1, none⟩ = some (.int .i64 ((rd_T57 l0_0 x14_1).f0.f1)) ∧ w'.cell? ⟨gb113, 2, none⟩ = some (.int .i64 ((rd_T57 l0_0 x14_1).f1)) ∧ w'.cell? (ad114.add ((ji21)).toNat) = some (.slice A114_0 ((rd_T93 l1 (ji21)).f0).length c114_0)) (ds := []) (.replicate 12 false) (by kernel_rfl) rfl rfl ⟨cz BK113.out 0, cz BK113.out 1, cz BK113.out 2, (hx HB.out hw114_0)⟩ (fun hHeld => ?_); refine with_tabW saronref03_best.tab9 saronref03_best.bits9 (fun HT_ HW_ => ?_)
           generalize w38.drew = w39 at BK110 BK113 HB HR114_0 hx114_0 hHeld ⊢
           refine pT 0 37 (bt 12 1) (k := ?_)
           refine pT 1 38 (bt 12 3) (k := ?_)
           refine pT 2 39 (bt 12 7) (k := ?_)
           refine pT 8 45 (bt 12 263) (k := ?_)
           refine pT 9 46 (bt 12 775) (k := ?_)
           refine tT4 3 40 (bt 12 783) hHeld (k := ?_)
           refine pT 4 41 (bt 12 799) (k := ?_)
           refine pT 5 42 (bt 12 831) (k := ?_)
           refine tT4 6 43 (bt 12 895) hHeld (k := ?_)
           refine tT4 7 44 (bt 12 1023) hHeld (k := ?_)
           refine one_ (i := 10) (N := some 47) (bt 12 2047) rfl rfl (one_of HT_.out (by kernel_rfl)) (by decide) (fun K hK => ?_)
           refine goes_ Tryd.func71 (by kernel_rfl) rfl #[.agg #[.slice A114_0 ((rd_T93 l1 (ji21)).f0).length c114_0], .agg #[.int .i64 ((rd_T57 l0_0 x14_1).f0.f0), .int .i64 ((rd_T57 l0_0 x14_1).f0.f1), .int .i64 ((rd_T57 l0_0 x14_1).f1)], .int .i64 a2, .bool a4] (by rfl) rfl rfl (by (try simp only [lM, mC, mN]); first | done | (simp only [hji21]; rfl) | rfl | (simp only [List.length_drop, List.length_take]; rfl)) ?_
           with_reducible refine (saronref03_leads.calls k1 _ _ ((rd_T93 l1 (ji21)).f0) ((rd_T57 l0_0 x14_1).f0.f0) ((rd_T57 l0_0 x14_1).f0.f1) ((rd_T57 l0_0 x14_1).f1) a2 a4 t115 _ ?side1 ?side2 A24.out).mono ?_
           (case side1 => exact TC HR114_0.out)
           (case side2 => exact HC114_0.out)
           rintro e w40 ⟨rfl, hb⟩
           refine ⟨_, rfl, ?_⟩
           have n0_ := Aside0.mk (TKb hb BK110.out)
           have n1_ := Aside0.mk (TKb hb BK113.out)
           have n2_ := Aside0.mk (below_step (TB2 GE110.out GE113.out) hb)
           clear BK110
           clear BK113
           clear HB
           have BK110 := n0_
           have BK113 := n1_
           have HB := n2_
           clear n0_ n1_ n2_
           (try clear hb)
           (try clear hb2)
           (try clear hk)
           (try clear hi)
           refine hK.out _ _ ⟨cz BK113.out 0, cz BK113.out 1, cz BK113.out 2, (hx HB.out hw114_0)⟩ (fun hHeld => ?_)
           clear hK K
           refine norm_ (a' := ?_) ?_ ?_
           rotate_left
           ·show Act.put _ (some 47) _ = _
            simp only [Act.put, lA, lZ, lS, i64_w, i32_w]
            rfl
           refine pT 11 16 (bt 12 4095) (k := ?_)
           refine done_ (done_of HT_.out (by kernel_rfl)) ?_
           try go_wp2
           go_roundg k1
           case measure => have := HK1.out; omega
           case rel => exact ⟨(x12_1), (x13_1), (wrap64 (x14_1 + 1)), TT, TT, TT, H', ⟨by have := HK1.out; omega⟩, ⟨TK BK110.out⟩, ⟨TB2 GE110.out GE113.out⟩⟩
         ·rw [if_neg c25] at H
          have c25b0 : decide (t115 < 1000) = false := decide_eq_false c25
          clear c25
          have H' := Aside0.mk H
          clear H
          have hcz41_0 := cz BK110.out 0
          have hcz41_1 := cz BK110.out 1
          have hcz41_2 := cz BK110.out 2
          have hcz41_3 := cz BK110.out 3
          have hfz41_0 := fz BK110.out 0
          have hfz41_1 := fz BK110.out 1
          have hfz41_2 := fz BK110.out 2
          have hfz41_3 := fz BK110.out 3
          have p112 : 0 ≤ (x14_1 : Int) := of_decide_eq_true TA
          have q112 : x14_1 < (l0_0.length : Int) := of_decide_eq_true TA
          obtain ⟨ad112, e112, hx112_0, hx112_1, hx112_2⟩ := at_T57 HR0_0.out x14_1 p112 q112
          cases e112
          replace hx112_0 := hx HB.out hx112_0
          replace hx112_1 := hx HB.out hx112_1
          replace hx112_2 := hx HB.out hx112_2
          replace p112 := eq_true p112
          replace q112 := eq_true q112
          try go_wp2_with (first | ((with_reducible refine gate_dst (N := 15) rfl ?_); refine box_event ?hg (N := 15) ?hd (cs := #[.int .i64 0, .int .i64 0, .int .i64 0]) (t := 57) ?hr ?_; (case hd => rfl); (case hg => rfl); (case hr => exact TS); intro gb113 hg w42 hbox hb; have BK113 := Aside0.mk (hbox); have GW113 := Aside0.mk ((TG1 GE110.out : w.heap.size ≤ gb113)); have GE113 := Aside0.mk ((TG1 GE110.out : w.heap.size ≤ gb113)); have NB110_113 := Aside0.mk ((by rw [hg]; exact Nat.ne_of_lt (blk_lt (g := gb110) (o := .cells #[.slice (some ad112) l0_0.length c0_0, .int .i64 a0_1, .int .i64 a0_2, .slice A0_3 l0_3.length c0_3] 27 (0, 0)) (TK BK110.out)) : gb110 ≠ gb113)); have NB113_110 := Aside0.mk ((by rw [hg]; exact Nat.ne_of_gt (blk_lt (g := gb110) (o := .cells #[.slice (some ad112) l0_0.length c0_0, .int .i64 a0_1, .int .i64 a0_2, .slice A0_3 l0_3.length c0_3] 27 (0, 0)) (TK BK110.out)) : gb113 ≠ gb110)); replace BK110 := Aside0.mk (TKb hb BK110.out); replace HB := Aside0.mk (below_step (TB1 GE110.out) hb); clear hb hbox hg; have hnb43 := NB113_110.out; have hnc43 := NB110_113.out; have hcz44_0 := cz BK113.out 0; have hcz44_1 := cz BK113.out 1; have hcz44_2 := cz BK113.out 2; have hfz44_0 := fz BK113.out 0; have hfz44_1 := fz BK113.out 1; have hfz44_2 := fz BK113.out 2))
          have n0_ : Aside0 ((((w42.setCell ⟨gb113, 0, none⟩ (.int .i64 ((rd_T57 l0_0 x14_1).f0.f0))).setCell ⟨gb113, 1, none⟩ (.int .i64 ((rd_T57 l0_0 x14_1).f0.f1))).setCell ⟨gb113, 2, none⟩ (.int .i64 ((rd_T57 l0_0 x14_1).f1))).heap[gb110]? = some (.cells #[.slice (some ad112) l0_0.length c0_0, .int .i64 a0_1, .int .i64 a0_2, .slice A0_3 l0_3.length c0_3] 27 (0, 0))) := ⟨by (with_reducible repeat (first | refine blk_drewN ?_ _ | refine blk_drew ?_ | refine blk_alloc ?_ _)); refine blk_far ?_ NB110_113.out _; (with_reducible repeat (first | refine blk_drewN ?_ _ | refine blk_drew ?_ | refine blk_alloc ?_ _)); refine blk_far ?_ NB110_113.out _; (with_reducible repeat (first | refine blk_drewN ?_ _ | refine blk_drew ?_ | refine blk_alloc ?_ _)); refine blk_far ?_ NB110_113.out _; (with_reducible repeat (first | refine blk_drewN ?_ _ | refine blk_drew ?_ | refine blk_alloc ?_ _)); exact BK110.out⟩
          have n1_ : Aside0 ((((w42.setCell ⟨gb113, 0, none⟩ (.int .i64 ((rd_T57 l0_0 x14_1).f0.f0))).setCell ⟨gb113, 1, none⟩ (.int .i64 ((rd_T57 l0_0 x14_1).f0.f1))).setCell ⟨gb113, 2, none⟩ (.int .i64 ((rd_T57 l0_0 x14_1).f1))).heap[gb113]? = some (.cells #[.int .i64 ((rd_T57 l0_0 x14_1).f0.f0), .int .i64 ((rd_T57 l0_0 x14_1).f0.f1), .int .i64 ((rd_T57 l0_0 x14_1).f1)] 57 (0, 0))) := ⟨by (with_reducible repeat (first | refine blk_drewN ?_ _ | refine blk_drew ?_ | refine blk_alloc ?_ _)); refine blk_put (cs := #[.int .i64 ((rd_T57 l0_0 x14_1).f0.f0), .int .i64 ((rd_T57 l0_0 x14_1).f0.f1), .int .i64 0]) ?_ 2 _ rfl; (with_reducible repeat (first | refine blk_drewN ?_ _ | refine blk_drew ?_ | refine blk_alloc ?_ _)); refine blk_put (cs := #[.int .i64 ((rd_T57 l0_0 x14_1).f0.f0), .int .i64 0, .int .i64 0]) ?_ 1 _ rfl; (with_reducible repeat (first | refine blk_drewN ?_ _ | refine blk_drew ?_ | refine blk_alloc ?_ _)); refine blk_put (cs := #[.int .i64 0, .int .i64 0, .int .i64 0]) ?_ 0 _ rfl; (with_reducible repeat (first | refine blk_drewN ?_ _ | refine blk_drew ?_ | refine blk_alloc ?_ _)); exact BK113.out⟩
          have n2_ : Aside0 (Below w.heap.size w (((w42.setCell ⟨gb113, 0, none⟩ (.int .i64 ((rd_T57 l0_0 x14_1).f0.f0))).setCell ⟨gb113, 1, none⟩ (.int .i64 ((rd_T57 l0_0 x14_1).f0.f1))).setCell ⟨gb113, 2, none⟩ (.int .i64 ((rd_T57 l0_0 x14_1).f1)))) := ⟨TB2 GE110.out GE113.out⟩
          (try clear BK110)
          (try clear BK113)
          (try clear HB)
          generalize (((w42.setCell ⟨gb113, 0, none⟩ (.int .i64 ((rd_T57 l0_0 x14_1).f0.f0))).setCell ⟨gb113, 1, none⟩ (.int .i64 ((rd_T57 l0_0 x14_1).f0.f1))).setCell ⟨gb113, 2, none⟩ (.int .i64 ((rd_T57 l0_0 x14_1).f1))) = w45 at n0_ n1_ n2_ ⊢
          have BK110 := n0_
          have BK113 := n1_
          have HB := n2_
          clear n0_ n1_ n2_
          have n0_ := Aside0.mk (blk_drew BK110.out)
          have n1_ := Aside0.mk (blk_drew BK113.out)
          have n2_ := Aside0.mk (below_drew1 HB.out)
          clear BK110
          clear BK113
          clear HB
          have BK110 := n0_
          have BK113 := n1_
          have HB := n2_
          clear n0_ n1_ n2_
          have p114 : 0 ≤ ((ji21) : Int) := of_decide_eq_true TA
          have q114 : (ji21) < (l1.length : Int) := of_decide_eq_true TA
          obtain ⟨ad114, A114_0, c114_0, e114, hx114_0, hl114_0, hi114_0⟩ := at_T93 HR1.out (ji21) p114 q114
          have hw114_0 := hx114_0
          cases e114
          replace hx114_0 := hx HB.out hx114_0
          have HR114_0 := Aside0.mk hi114_0
          have HC114_0 := Aside0.mk hl114_0
          clear hi114_0 hl114_0
          replace p114 := eq_true p114
          replace q114 := eq_true q114
          refine start_ (n := 12) (S := fun w' => w'.cell? ⟨gb113, 0, none⟩ = some (.int .i64 ((rd_T57 l0_0 x14_1).f0.f0)) ∧ w'.cell? ⟨gb113, 1, none⟩ = some (.int .i64 ((rd_T57 l0_0 x14_1).f0.f1)) ∧ w'.cell? ⟨gb113, 2, none⟩ = some (.int .i64 ((rd_T57 l0_0 x14_1).f1)) ∧ w'.cell? (ad114.add ((ji21)).toNat) = some (.slice A114_0 ((rd_T93 l1 (ji21)).f0).length c114_0)) (ds := []) (.replicate 12 false) (by kernel_rfl) rfl rfl ⟨cz BK113.out 0, cz BK113.out 1, cz BK113.out 2, (hx HB.out hw114_0)⟩ (fun hHeld => ?_); refine with_tabW saronref03_best.tab9 saronref03_best.bits9 (fun HT_ HW_ => ?_)
          generalize w45.drew = w46 at BK110 BK113 HB HR114_0 hx114_0 hHeld ⊢
          refine pT 0 37 (bt 12 1) (k := ?_)
          refine pT 1 38 (bt 12 3) (k := ?_)
          refine pT 2 39 (bt 12 7) (k := ?_)
          refine pT 8 45 (bt 12 263) (k := ?_)
          refine pT 9 46 (bt 12 775) (k := ?_)
          refine tT4 3 40 (bt 12 783) hHeld (k := ?_)
          refine pT 4 41 (bt 12 799) (k := ?_)
          refine pT 5 42 (bt 12 831) (k := ?_)
          refine tT4 6 43 (bt 12 895) hHeld (k := ?_)
          refine tT4 7 44 (bt 12 1023) hHeld (k := ?_)
          refine one_ (i := 10) (N := some 47) (bt 12 2047) rfl rfl (one_of HT_.out (by kernel_rfl)) (by decide) (fun K hK => ?_)
          refine goes_ Tryd.func71 (by kernel_rfl) rfl #[.agg #[.slice A114_0 ((rd_T93 l1 (ji21)).f0).length c114_0], .agg #[.int .i64 ((rd_T57 l0_0 x14_1).f0.f0), .int .i64 ((rd_T57 l0_0 x14_1).f0.f1), .int .i64 ((rd_T57 l0_0 x14_1).f1)], .int .i64 a2, .bool a4] (by rfl) rfl rfl (by (try simp only [lM, mC, mN]); first | done | (simp only [hji21]; rfl) | rfl | (simp only [List.length_drop, List.length_take]; rfl)) ?_
          with_reducible refine (saronref03_leads.calls k1 _ _ ((rd_T93 l1 (ji21)).f0) ((rd_T57 l0_0 x14_1).f0.f0) ((rd_T57 l0_0 x14_1).f0.f1) ((rd_T57 l0_0 x14_1).f1) a2 a4 t115 _ ?side1 ?side2 A24.out).mono ?_
          (case side1 => exact TC HR114_0.out)
          (case side2 => exact HC114_0.out)
          rintro e w47 ⟨rfl, hb⟩
          refine ⟨_, rfl, ?_⟩
          have n0_ := Aside0.mk (TKb hb BK110.out)
          have n1_ := Aside0.mk (TKb hb BK113.out)
          have n2_ := Aside0.mk (below_step (TB2 GE110.out GE113.out) hb)
          clear BK110
          clear BK113
          clear HB
          have BK110 := n0_
          have BK113 := n1_
          have HB := n2_
          clear n0_ n1_ n2_
          (try clear hb)
          (try clear hb2)
          (try clear hk)
          (try clear hi)
          refine hK.out _ _ ⟨cz BK113.out 0, cz BK113.out 1, cz BK113.out 2, (hx HB.out hw114_0)⟩ (fun hHeld => ?_)
          clear hK K
          refine norm_ (a' := ?_) ?_ ?_
          rotate_left
          ·show Act.put _ (some 47) _ = _
           simp only [Act.put, lA, lZ, lS, i64_w, i32_w]
           rfl
          refine pT 11 16 (bt 12 4095) (k := ?_)
          refine done_ (done_of HT_.out (by kernel_rfl)) ?_
          try go_wp2
          go_roundg k1
          case measure => have := HK1.out; omega
          case rel => exact ⟨(x12_1), (x13_1), (wrap64 (x14_1 + 1)), TT, TT, TT, H', ⟨by have := HK1.out; omega⟩, ⟨TK BK110.out⟩, ⟨TB2 GE110.out GE113.out⟩⟩
        ·rw [if_neg c23] at H
         exact absurd H (by simp)
       ·rw [if_neg c22] at H
        exact absurd H (by simp)
     ·rw [if_neg c15] at H
      exact absurd H (by simp)
    ·rw [if_neg c14] at H
     have c14b0 : decide (x14_1 < (l0_0.length : Int)) = false := decide_eq_false c14
     clear c14
     simp only [Option.some.injEq, Prod.mk.injEq] at H
     obtain ⟨rfl, rfl⟩ := H
     have hcz48_0 := cz BK110.out 0
     have hcz48_1 := cz BK110.out 1
     have hcz48_2 := cz BK110.out 2
     have hcz48_3 := cz BK110.out 3
     have hfz48_0 := fz BK110.out 0
     have hfz48_1 := fz BK110.out 1
     have hfz48_2 := fz BK110.out 2
     have hfz48_3 := fz BK110.out 3
     go_wp2
     go_ret2
     exact ⟨TR, TB1 GE110.out⟩
end Go.Proofs.YtfmpbkolpjlfbaaDoor.PRaspKeys
namespace Go.Proofs.YtfmpbkolpjlfbaaDoor.PRaspKeys
open Go.RowKit Go.Proofs.YtfmpbkolpjlfbaaDoorW.PrintWords Go.Proofs.YtfmpbkolpjlfbaaDoorW.PrintLast Go.Proofs.YtfmpbkolpjlfbaaDoorW.PrintMore Go.Proofs.YtfmpbkolpjlfbaaDoor.M
attribute [local go_sem] max2_int min2_int max_two min_two max_three min_three max_four min_four   -- for this text's walks alone
/-! ### saronref03_rows: function 57 -/
mutual
def saronref03_rows.l0 : Nat → Bool → List (S93) → Int → List (S57) → Int → Int → List (S69) → Option ((List (S93)))
 | 0, _, _, _, _, _, _, _ => none
 | k + 1, x1, x5, x6, x117000, x117001, x117002, x117003 => if x6 ≤ 30 then (saronref03_rows.l1 k x1 x5 x6 (-60) x117000 x117001 x117002 x117003 ([] : List Int)) else (some x5)
def saronref03_rows.l1 : Nat → Bool → List (S93) → Int → Int → List (S57) → Int → Int → List (S69) → List Int → Option ((List (S93)))
 | 0, _, _, _, _, _, _, _, _, _ => none
 | k + 1, x1, x5, x6, x8, x117000, x117001, x117002, x117003, x118000 => if x8 ≤ 60 then ((saronref03_best.f k x117000 x117001 x117002 x117003 x5 x8 x6 x1).bind fun bt118 => (if x118000.length < 17592186044416 then (saronref03_rows.l1 k x1 x5 x6 (wrap64 (x8 + 1)) x117000 x117001 x117002 x117003 (x118000 ++ [bt118.2])) else (none))) else (if x5.length < 5864062014805 then (saronref03_rows.l0 k x1 (x5 ++ [(⟨x118000⟩ : S93)]) (wrap64 (x6 + 1)) x117000 x117001 x117002 x117003) else (none))
end
def saronref03_rows.f (k : Nat) (l0_0 : List (S57)) (a0_1 : Int) (a0_2 : Int) (l0_3 : List (S69)) (a1 : Bool) : Option ((List (S93))) := saronref03_rows.l0 k a1 ([] : List (S93)) 0 l0_0 a0_1 a0_2 l0_3
theorem saronref03_rows.mono_l : ∀ k, (∀ y0 y1 y2 y3 y4 y5 y6, LeO (saronref03_rows.l0 k y0 y1 y2 y3 y4 y5 y6) (saronref03_rows.l0 (k + 1) y0 y1 y2 y3 y4 y5 y6)) ∧ (∀ y0 y1 y2 y3 y4 y5 y6 y7 y8, LeO (saronref03_rows.l1 k y0 y1 y2 y3 y4 y5 y6 y7 y8) (saronref03_rows.l1 (k + 1) y0 y1 y2 y3 y4 y5 y6 y7 y8))
 | 0 => ⟨fun _ _ _ _ _ _ _ r h => by simp [saronref03_rows.l0] at h, fun _ _ _ _ _ _ _ _ _ r h => by simp [saronref03_rows.l1] at h⟩
 | k + 1 => by
  obtain ⟨ih0, ih1⟩ := saronref03_rows.mono_l k
  refine ⟨?_, ?_⟩
  ·intro y0 y1 y2 y3 y4 y5 y6
   unfold saronref03_rows.l0
   repeat' first
   | (with_reducible exact ih0 _ _ _ _ _ _ _)
   | (with_reducible exact ih1 _ _ _ _ _ _ _ _ _)
   | (with_reducible exact saronref03_best.mono _ _ _ _ _ _ _ _ _)
   | (with_reducible exact LeO.refl _)
   | (with_reducible exact LeO.none _)
   | (with_reducible refine LeO.ite ?_ ?_)
   | (with_reducible refine LeO.bind ?_ (fun _ => ?_))
   | exact ih0 _ _ _ _ _ _ _
   | exact ih1 _ _ _ _ _ _ _ _ _
   | exact saronref03_best.mono _ _ _ _ _ _ _ _ _
   | exact LeO.none _
   | refine LeO.ite ?_ ?_
   | refine LeO.bind ?_ (fun _ => ?_)
  ·intro y0 y1 y2 y3 y4 y5 y6 y7 y8
   unfold saronref03_rows.l1
   repeat' first
   | (with_reducible exact ih0 _ _ _ _ _ _ _)
   | (with_reducible exact ih1 _ _ _ _ _ _ _ _ _)
   | (with_reducible exact saronref03_best.mono _ _ _ _ _ _ _ _ _)
   | (with_reducible exact LeO.refl _)
   | (with_reducible exact LeO.none _)
   | (with_reducible refine LeO.ite ?_ ?_)
   | (with_reducible refine LeO.bind ?_ (fun _ => ?_))
   | exact ih0 _ _ _ _ _ _ _
   | exact ih1 _ _ _ _ _ _ _ _ _
   | exact saronref03_best.mono _ _ _ _ _ _ _ _ _
   | exact LeO.none _
   | refine LeO.ite ?_ ?_
   | refine LeO.bind ?_ (fun _ => ?_)
theorem saronref03_rows.mono : ∀ a0 a1 a2 a3 a4 k, LeO (saronref03_rows.f k a0 a1 a2 a3 a4) (saronref03_rows.f (k + 1) a0 a1 a2 a3 a4) := by
 intro a0 a1 a2 a3 a4 k
 obtain ⟨ih0, ih1⟩ := saronref03_rows.mono_l k
 unfold saronref03_rows.f
 repeat' first
   | (with_reducible exact ih0 _ _ _ _ _ _ _)
   | (with_reducible exact ih1 _ _ _ _ _ _ _ _ _)
   | (with_reducible exact saronref03_best.mono _ _ _ _ _ _ _ _ _)
   | (with_reducible exact LeO.refl _)
   | (with_reducible exact LeO.none _)
   | (with_reducible refine LeO.ite ?_ ?_)
   | (with_reducible refine LeO.bind ?_ (fun _ => ?_))
   | exact ih0 _ _ _ _ _ _ _
   | exact ih1 _ _ _ _ _ _ _ _ _
   | exact saronref03_best.mono _ _ _ _ _ _ _ _ _
   | exact LeO.none _
   | refine LeO.ite ?_ ?_
   | refine LeO.bind ?_ (fun _ => ?_)
set_option maxHeartbeats 8000000 in
set_option maxRecDepth 100000 in
theorem saronref03_rows.calls (k : Nat) (A0_0 : Option Addr) (c0_0 : Nat) (l0_0 : List (S57)) (a0_1 : Int) (a0_2 : Int) (A0_3 : Option Addr) (c0_3 : Nat) (l0_3 : List (S69)) (a1 : Bool) (r : List (S93)) (w : World) (hr0_0 : Kd.C k57 w A0_0 l0_0.length l0_0) (hc0_0 : l0_0.length ≤ c0_0) (hr0_3 : Kd.C k69 w A0_3 l0_3.length l0_3) (hc0_3 : l0_3.length ≤ c0_3) (h : saronref03_rows.f k l0_0 a0_1 a0_2 l0_3 a1 = some r) :
  Calls Tryd.prog 57 #[.agg #[.slice A0_0 l0_0.length c0_0, .int .i64 a0_1, .int .i64 a0_2, .slice A0_3 l0_3.length c0_3], .bool a1] w fun e w' => ∃ v0_ : Value, e = .returned (v0_) ∧ Kd.S k93 93 w' w.heap.size (fun _ => True) v0_ r ∧ Below w.heap.size w w' := by
 have hu27 := Tryd.underlying27
 have hu93 := Tryd.underlying93
 have HR0_0 := Aside0.mk hr0_0
 have HC0_0 := Aside0.mk hc0_0
 clear hr0_0 hc0_0
 have HR0_3 := Aside0.mk hr0_3
 have HC0_3 := Aside0.mk hc0_3
 clear hr0_3 hc0_3
 have HB := Aside0.mk (Below.refl w.heap.size w)
 have H : (saronref03_rows.l0 k a1 ([] : List (S93)) 0 l0_0 a0_1 a0_2 l0_3) = some r := h
 clear h
 have H' := Aside0.mk H
 clear H
 go_enter Tryd.func57, Tryd.ntmps57
 go_wp2_with (first | ((with_reducible refine gate_dst (N := 2) rfl ?_); refine box_event ?hg (N := 2) ?hd (cs := #[.slice A0_0 l0_0.length c0_0, .int .i64 a0_1, .int .i64 a0_2, .slice A0_3 l0_3.length c0_3]) (t := 27) ?hr ?_; (case hd => rfl); (case hg => rfl); (case hr => exact TS); intro gb116 hg w3 hbox hb; have BK116 := Aside0.mk (hbox); have GW116 := Aside0.mk ((TG : w.heap.size ≤ gb116)); have GE116 := Aside0.mk ((TG : w.heap.size ≤ gb116)); replace HB := Aside0.mk (below_step TB hb); clear hb hbox hg))
 go_loopg [5, 6] k (fun kq v5 v6 w' => ∃ (x5_1 : List (S93)) (x6_1 : Int), v6 = .int .i64 x6_1 ∧ Aside0 (saronref03_rows.l0 kq a1 x5_1 x6_1 l0_0 a0_1 a0_2 l0_3 = some r) ∧ Aside0 (kq ≤ k) ∧ Aside0 (Kd.S k93 93 w' w.heap.size (fun _ => True) v5 x5_1) ∧ Aside0 (w'.heap[gb116]? = some (.cells #[(.slice A0_0 l0_0.length c0_0), .int .i64 a0_1, .int .i64 a0_2, (.slice A0_3 l0_3.length c0_3)] 27 (0, 0))) ∧ Aside0 (Below w.heap.size w w'))
 case atStart => exact ⟨(([] : List (S93))), (0), TT, H', ⟨Nat.le_refl _⟩, ⟨by first | exact Kd.S_nil _ _ _ _ _ | exact Kd.N_nil _ _ _ _ _ | exact Kd.V_nil _ _ _ _ _ | exact Kd.Q_nil _ _ _ _ _ | exact Kd.R_nil _ _ _ _ _⟩, ⟨TK BK116.out⟩, ⟨TB1 GE116.out⟩⟩
 case round =>
  clear H'
  try clear p2
  obtain ⟨x5_1, x6_1, rfl, HA, HK1, HO_5, BK116, HB⟩ := hrel
  cases gk with
  | zero => exact absurd HA.out (by simp [saronref03_rows.l0])
  | succ k1 =>
   have H := HA.out
   clear HA
   simp only [saronref03_rows.l0] at H
   by_cases c4 : x6_1 ≤ 30
   ·rw [if_pos c4] at H
    have c4b0 : decide (x6_1 ≤ 30) = true := decide_eq_true c4
    clear c4
    have H' := Aside0.mk H
    clear H
    go_wp2_with (first | ((with_reducible refine gate_dst (N := 7) rfl ?_); refine box_event ?hg (N := 7) ?hd (cs := #[.slice none 0 0]) (t := 93) ?hr ?_; (case hd => rfl); (case hg => rfl); (case hr => exact TS); intro gb117 hg w5 hbox hb; have BK117 := Aside0.mk (hbox); have GW117 := Aside0.mk ((TG1 GE116.out : w.heap.size ≤ gb117)); have GE117 := Aside0.mk ((TG1 GE116.out : w.heap.size ≤ gb117)); have NB116_117 := Aside0.mk ((by rw [hg]; exact Nat.ne_of_lt (blk_lt (g := gb116) (o := .cells #[.slice A0_0 l0_0.length c0_0, .int .i64 a0_1, .int .i64 a0_2, .slice A0_3 l0_3.length c0_3] 27 (0, 0)) (TK BK116.out)) : gb116 ≠ gb117)); have NB117_116 := Aside0.mk ((by rw [hg]; exact Nat.ne_of_gt (blk_lt (g := gb116) (o := .cells #[.slice A0_0 l0_0.length c0_0, .int .i64 a0_1, .int .i64 a0_2, .slice A0_3 l0_3.length c0_3] 27 (0, 0)) (TK BK116.out)) : gb117 ≠ gb116)); replace HO_5 := Aside0.mk (Kd.S_below (Kd.S_elderB (TSo HO_5.out) gb117 (Nat.le_of_eq hg.symm)) hb); replace BK116 := Aside0.mk (TKb hb BK116.out); replace HB := Aside0.mk (below_step (TB1 GE116.out) hb); clear hb hbox hg))
    go_loopg [8] k1 (fun kq v8 w' => ∃ (x8_2 : Int) (x118000_2 : List Int) (u118000 : Value), v8 = .int .i64 x8_2 ∧ Aside0 (saronref03_rows.l1 kq a1 x5_1 x6_1 x8_2 l0_0 a0_1 a0_2 l0_3 x118000_2 = some r) ∧ Aside0 (kq ≤ k1) ∧ Aside0 (Kd.S k93 93 w' w.heap.size (fun k_ => some k_ ≠ (u118000 : Value).ownBlock ∧ k_ ≠ gb117) u5 x5_1) ∧ Aside0 (Kd.R (Kd.int .i64) 3 w' w.heap.size (fun _ => True) u118000 x118000_2) ∧ Aside0 (w'.heap[gb116]? = some (.cells #[(.slice A0_0 l0_0.length c0_0), .int .i64 a0_1, .int .i64 a0_2, (.slice A0_3 l0_3.length c0_3)] 27 (0, 0))) ∧ Aside0 (w'.heap[gb117]? = some (.cells #[u118000] 93 (0, 0))) ∧ Aside0 (Below w.heap.size w w'))
    case atStart => exact ⟨((-60)), (([] : List Int)), (.slice none 0 0), TT, H', ⟨Nat.le_refl _⟩, ⟨by (with_reducible repeat (first | apply Kd.S_alloc | apply Kd.S_drewN | apply Kd.S_drew)); exact Kd.S_mono HO_5.out (fun _ hk => ⟨(by simp [Value.ownBlock]), hk.2⟩)⟩, ⟨by first | exact Kd.R_nil _ _ _ _ _ | exact Kd.N_nil _ _ _ _ _ | exact Kd.V_nil _ _ _ _ _ | exact Kd.Q_nil _ _ _ _ _ | exact Kd.S_nil _ _ _ _ _⟩, ⟨TK BK116.out⟩, ⟨TK BK117.out⟩, ⟨TB2 GE116.out GE117.out⟩⟩
    case round =>
     clear H'
     try clear p2
     try clear c4
     try clear c4b0
     try clear c5
     try clear p2
     obtain ⟨x8_2, x118000_2, u118000, rfl, HA, HK2, HO_5, HO_118000, BK116, BK117, HB⟩ := hrel
     cases gk with
     | zero => exact absurd HA.out (by simp [saronref03_rows.l1])
     | succ k2 =>
      have H := HA.out
      clear HA
      simp only [saronref03_rows.l1] at H
      by_cases c6 : x8_2 ≤ 60
      ·rw [if_pos c6] at H
       have c6b0 : decide (x8_2 ≤ 60) = true := decide_eq_true c6
       clear c6
       replace H := Option.bind_eq_some_iff.mp H
       obtain ⟨⟨t118, t119⟩, A70, H⟩ := H
       replace H : (if x118000_2.length < 17592186044416 then (saronref03_rows.l1 k2 a1 x5_1 x6_1 (wrap64 (x8_2 + 1)) l0_0 a0_1 a0_2 l0_3 (x118000_2 ++ [t119])) else (none)) = some r := H
       have A7 := Aside0.mk A70
       clear A70
       by_cases c8 : x118000_2.length < 17592186044416
       ·rw [if_pos c8] at H
        have LMc8 := Aside0.mk c8
        clear c8
        obtain ⟨y120, hy120⟩ : ∃ y_ : List Int, y_ = (x118000_2 ++ [t119]) := ⟨_, rfl⟩
        replace H : (saronref03_rows.l1 k2 a1 x5_1 x6_1 (wrap64 (x8_2 + 1)) l0_0 a0_1 a0_2 l0_3 y120) = some r := by first | (rw [hy120]; with_reducible exact H) | (have H2_ := (Option.bind_some _ _).symm.trans H; rw [hy120]; with_reducible exact H2_) | (have H2_ := (Option.bind_some _ _).symm.trans H; with_reducible exact H2_) | with_reducible exact H | (rw [hy120]; exact H) | exact H
        have Ny120 := Aside0.mk hy120
        clear hy120
        have H' := Aside0.mk H
        clear H
        have hnb9 := NB116_117.out
        have hnc9 := NB117_116.out
        have hcz10_0 := cz BK116.out 0
        have hcz10_1 := cz BK116.out 1
        have hcz10_2 := cz BK116.out 2
        have hcz10_3 := cz BK116.out 3
        have hfz10_0 := fz BK116.out 0
        have hfz10_1 := fz BK116.out 1
        have hfz10_2 := fz BK116.out 2
        have hfz10_3 := fz BK116.out 3
        obtain ⟨Ao11, co11, eo11⟩ := Kd.S_slice HO_5.out
        subst eo11
        go_wp2_with (first | ((with_reducible refine gate_callee (f := 56) rfl ?_); refine goesL_ (some 25) rfl rfl Tryd.func56 (by kernel_rfl) rfl #[.agg #[.slice A0_0 l0_0.length c0_0, .int .i64 a0_1, .int .i64 a0_2, .slice A0_3 l0_3.length c0_3], .slice Ao11 x5_1.length co11, .int .i64 x8_2, .int .i64 x6_1, .bool a1] rfl TM ?_; (with_reducible refine (saronref03_best.calls k2 _ _ l0_0 a0_1 a0_2 _ _ l0_3 _ _ x5_1 x8_2 x6_1 a1 t118 t119 _ ?side1 ?side2 ?side3 ?side4 ?side5 ?side6 A7.out).mono ?_); (case side1 => exact TC HR0_0.out); (case side2 => exact HC0_0.out); (case side3 => exact TC HR0_3.out); (case side4 => exact HC0_3.out); (case side5 => exact TE (Kd.S_reads' HO_5.out).2.2); (case side6 => exact (Kd.S_reads' HO_5.out).2.1); rintro e w12 ⟨rfl, hb⟩; refine ⟨_, rfl, ?_⟩; replace HO_5 := Aside0.mk (Kd.S_below (TSo HO_5.out) hb); replace HO_118000 := Aside0.mk (Kd.R_below (TRo HO_118000.out) hb); replace BK116 := Aside0.mk (TKb hb BK116.out); replace BK117 := Aside0.mk (TKb hb BK117.out); replace HB := Aside0.mk (below_step (TB2 GE116.out GE117.out) hb); (try clear hb); (try clear hb2); (try clear hk); (try clear hi); have hcz13_0 := cz BK117.out 0; have hfz13_0 := fz BK117.out 0) | ((with_reducible refine gate_builtin (b := .append) (xs := #[.tmp 29, .tmp 31]) rfl ?_); at_builtin; refine Kd.R_append (Kd.int .i64) (w0 := w) w.heap.size rfl (.tmp 29) (.tmp 31) 38 3 (.int .i64 0) 8 rfl Tryd.underlying38 info3 rfl (by decide) (by omega) u118000 x118000_2 t119 [.int .i64 t119] (fun _ => True) (fun _ => False) rfl rfl ?aP (fun _ hk => hk.elim) ?aF ?aO ?aB ?aS ?aL ?_; (case aP => exact rfl); (case aB => exact (TB2 GE116.out GE117.out)); (case aF => exact (fun _ _ => trivial)); (case aO => exact (TRo HO_118000.out)); (case aS => exact (below_size (TB2 GE116.out GE117.out))); (case aL => have := LMc8.out; omega); intro v121 w14 ho hb hg hat; rw [← Ny120.out] at ho; have HO122 := Aside0.mk (ho); replace HO_5 := Aside0.mk (Kd.S_after (ok := (fun k_ => k_ ≠ gb117)) (by (with_reducible repeat (first | apply Kd.S_alloc | apply Kd.S_drewN | apply Kd.S_drew)); exact Kd.S_mono HO_5.out (fun _ hk => ⟨hk.2, hk.1⟩)) hg hat); replace BK116 := Aside0.mk (blk_grown (g := gb116) (o := .cells #[.slice A0_0 l0_0.length c0_0, .int .i64 a0_1, .int .i64 a0_2, .slice A0_3 l0_3.length c0_3] 27 (0, 0)) (TK BK116.out) hg (Kd.R_ne HO_118000.out BK116.out (by decide))); replace BK117 := Aside0.mk (blk_grown (g := gb117) (o := .cells #[u118000] 93 (0, 0)) (TK BK117.out) hg (Kd.R_ne HO_118000.out BK117.out (by decide))); replace HB := Aside0.mk (hb); clear HO_118000; clear ho hb hg hat; obtain ⟨Ao15, co15, eo15⟩ := Kd.R_slice HO122.out; subst eo15; have hcz16_0 := cz BK117.out 0; have hfz16_0 := fz BK117.out 0))
        go_roundg k2
        case measure => have := HK1.out; have := HK2.out; omega
        case rel => exact ⟨(wrap64 (x8_2 + 1)), (y120), (.slice Ao15 y120.length co15), TT, H', ⟨by have := HK1.out; have := HK2.out; omega⟩, ⟨by (with_reducible repeat (first | apply Kd.S_alloc | apply Kd.S_drewN | apply Kd.S_drew)); exact Kd.S_mono (Kd.S_far (p := ⟨gb117, 0, none⟩) (Kd.S_mono HO_5.out (fun k_ hk => (⟨hk, hk.1⟩ : _ ∧ k_ ≠ gb117))) (fun _ hk => hk.2) (.slice Ao15 y120.length co15)) (fun _ hk => ⟨hk.1.2, hk.1.1⟩)⟩, ⟨by (with_reducible repeat (first | apply Kd.R_alloc | apply Kd.R_drewN | apply Kd.R_drew)); exact Kd.R_mono (Kd.R_far (p := ⟨gb117, 0, none⟩) (Kd.R_types HO122.out BK117.out (by decide)) (fun _ hk => hk.2) (.slice Ao15 y120.length co15)) (fun _ hk => trivial)⟩, ⟨by (with_reducible repeat (first | refine blk_drewN ?_ _ | refine blk_drew ?_ | refine blk_alloc ?_ _)); refine blk_far ?_ NB116_117.out _; (with_reducible repeat (first | refine blk_drewN ?_ _ | refine blk_drew ?_ | refine blk_alloc ?_ _)); exact BK116.out⟩, ⟨by (with_reducible repeat (first | refine blk_drewN ?_ _ | refine blk_drew ?_ | refine blk_alloc ?_ _)); refine blk_put (cs := #[u118000]) ?_ 0 _ rfl; (with_reducible repeat (first | refine blk_drewN ?_ _ | refine blk_drew ?_ | refine blk_alloc ?_ _)); exact BK117.out⟩, ⟨TB2 GE116.out GE117.out⟩⟩
       ·rw [if_neg c8] at H
        exact absurd H (by simp)
      ·rw [if_neg c6] at H
       have c6b0 : decide (x8_2 ≤ 60) = false := decide_eq_false c6
       clear c6
       by_cases c17 : x5_1.length < 5864062014805
       ·rw [if_pos c17] at H
        have LMc17 := Aside0.mk c17
        clear c17
        obtain ⟨y123, hy123⟩ : ∃ y_ : List (S93), y_ = (x5_1 ++ [(⟨x118000_2⟩ : S93)]) := ⟨_, rfl⟩
        replace H : (saronref03_rows.l0 k2 a1 y123 (wrap64 (x6_1 + 1)) l0_0 a0_1 a0_2 l0_3) = some r := by first | (rw [hy123]; with_reducible exact H) | (have H2_ := (Option.bind_some _ _).symm.trans H; rw [hy123]; with_reducible exact H2_) | (have H2_ := (Option.bind_some _ _).symm.trans H; with_reducible exact H2_) | with_reducible exact H | (rw [hy123]; exact H) | exact H
        have Ny123 := Aside0.mk hy123
        clear hy123
        have H' := Aside0.mk H
        clear H
        have hnb18 := NB117_116.out
        have hnc18 := NB116_117.out
        have hcz19_0 := cz BK117.out 0
        have hfz19_0 := fz BK117.out 0
        obtain ⟨Ao21, co21, eo21⟩ := Kd.R_slice HO_118000.out
        subst eo21
        go_wp2_with (first | ((with_reducible refine gate_builtin (b := .append) (xs := #[.tmp 34, .tmp 36]) rfl ?_); at_builtin; refine Kd.S_append k93 (w0 := w) w.heap.size rfl (.tmp 34) (.tmp 36) 89 93 (.agg #[(.slice none 0 0)]) 24 rfl Tryd.underlying89 info93 rfl (by decide) (by omega) u5 x5_1 (⟨x118000_2⟩ : S93) [.slice Ao21 x118000_2.length co21] (fun k_ => k_ ≠ gb117) (fun k_ => some k_ = (.slice Ao21 x118000_2.length co21 : Value).ownBlock) rfl rfl ?aP (fun k_ hk_ => ((Kd.R_mono (ok' := fun k_ => ((fun k_ => k_ ≠ gb117)) k_ ∧ some k_ ≠ (u5 : Value).ownBlock) (Kd.R_types (Kd.R_apart' (HO_118000.out) (Kd.S_typed HO_5.out) (by decide)) BK117.out (by decide)) (fun k_ hk => ⟨hk.2, hk.1.2⟩))).1 k_ hk_.symm) ?aF ?aO ?aB ?aS ?aL ?_; (case aP => exact k93_mkM _ _ _ (⟨x118000_2⟩ : S93) (Kd.R_mono (Kd.R_tight rfl (Kd.R_mono (ok' := fun k_ => ((fun k_ => k_ ≠ gb117)) k_ ∧ some k_ ≠ (u5 : Value).ownBlock) (Kd.R_types (Kd.R_apart' (HO_118000.out) (Kd.S_typed HO_5.out) (by decide)) BK117.out (by decide)) (fun k_ hk => ⟨hk.2, hk.1.2⟩))) (fun _ h_ => h_))); (case aB => exact (TB2 GE116.out GE117.out)); (case aF => exact (fun k_ hk => Kd.freshB (g := gb117) (o := .cells #[.slice Ao21 x118000_2.length co21] 93 (0, 0)) (TK BK117.out) k_ hk)); (case aO => exact (by (with_reducible repeat (first | apply Kd.S_alloc | apply Kd.S_drewN | apply Kd.S_drew)); exact Kd.S_mono HO_5.out (fun k_ hk => ⟨hk.2, fun e_ => hk.1 e_⟩))); (case aS => exact (below_size (TB2 GE116.out GE117.out))); (case aL => have := LMc17.out; omega); intro v124 w20 ho hb hg hat; rw [← Ny123.out] at ho; have HO125 := Aside0.mk (ho); replace BK116 := Aside0.mk (blk_grown (g := gb116) (o := .cells #[.slice A0_0 l0_0.length c0_0, .int .i64 a0_1, .int .i64 a0_2, .slice A0_3 l0_3.length c0_3] 27 (0, 0)) (TK BK116.out) hg (Kd.S_ne HO_5.out BK116.out (by decide))); replace BK117 := Aside0.mk (blk_grown (g := gb117) (o := .cells #[.slice Ao21 x118000_2.length co21] 93 (0, 0)) (TK BK117.out) hg (Kd.S_away HO_5.out (fun _ hk => hk.2))); replace HB := Aside0.mk (hb); clear HO_5 HO_118000; clear ho hb hg hat))
        go_roundg k2
        case measure => have := HK1.out; have := HK2.out; omega
        case rel => exact ⟨(y123), (wrap64 (x6_1 + 1)), TT, H', ⟨by have := HK1.out; have := HK2.out; omega⟩, ⟨by (with_reducible repeat (first | apply Kd.S_alloc | apply Kd.S_drewN | apply Kd.S_drew)); exact Kd.S_mono HO125.out (fun _ hk => trivial)⟩, ⟨TK BK116.out⟩, ⟨TB2 GE116.out GE117.out⟩⟩
       ·rw [if_neg c17] at H
        exact absurd H (by simp)
   ·rw [if_neg c4] at H
    have c4b0 : decide (x6_1 ≤ 30) = false := decide_eq_false c4
    clear c4
    obtain rfl := Option.some.inj H
    go_wp2
    go_ret
    exact ⟨_, TR, by (with_reducible repeat (first | apply Kd.S_alloc | apply Kd.S_drewN | apply Kd.S_drew)); exact HO_5.out, TB1 GE116.out⟩
end Go.Proofs.YtfmpbkolpjlfbaaDoor.PRaspKeys
namespace Go.Proofs.YtfmpbkolpjlfbaaDoor.PRaspKeys
open Go.RowKit Go.Proofs.YtfmpbkolpjlfbaaDoorW.PrintWords Go.Proofs.YtfmpbkolpjlfbaaDoorW.PrintLast Go.Proofs.YtfmpbkolpjlfbaaDoorW.PrintMore Go.Proofs.YtfmpbkolpjlfbaaDoor.M
attribute [local go_sem] max2_int min2_int max_two min_two max_three min_three max_four min_four   -- for this text's walks alone
/-! ### saronref03_Check: function 19 -/
mutual
def saronref03_Check.j0 : Nat → Bool → List (S57) → Int → Int → List (S69) → Option (Int)
 | 0, _, _, _, _, _ => none
 | k + 1, x3, x128000, x128001, x128002, x128003 => saronref03_Check.l0 k x3 0 x128000 x128001 x128002 x128003
def saronref03_Check.l0 : Nat → Bool → Int → List (S57) → Int → Int → List (S69) → Option (Int)
 | 0, _, _, _, _, _, _ => none
 | k + 1, x3, x4, x128000, x128001, x128002, x128003 => if x3 = true then (saronref03_Check.j2 k x3 x4 (decide (x4 < (x128000.length : Int))) x128000 x128001 x128002 x128003) else (saronref03_Check.j2 k x3 x4 false x128000 x128001 x128002 x128003)
def saronref03_Check.j2 : Nat → Bool → Int → Bool → List (S57) → Int → Int → List (S69) → Option (Int)
 | 0, _, _, _, _, _, _, _ => none
 | k + 1, x3, x4, x34, x128000, x128001, x128002, x128003 => if x34 = true then (if 0 ≤ x4 then (if x4 < (x128000.length : Int) then ((saronref00_Good.f ((rd_T57 x128000 x4).f0.f0) ((rd_T57 x128000 x4).f0.f1) (-30) 30).bind fun t130 => (if t130 = true then ((saronref00_Sits.f ((rd_T57 x128000 x4).f1) 1 10).bind fun t132 => (saronref03_Check.l0 k t132 (wrap64 (x4 + 1)) x128000 x128001 x128002 x128003)) else (saronref03_Check.l0 k false (wrap64 (x4 + 1)) x128000 x128001 x128002 x128003))) else (none)) else (none)) else (saronref03_Check.l1 k x3 0 x128000 x128001 x128002 x128003)
def saronref03_Check.l1 : Nat → Bool → Int → List (S57) → Int → Int → List (S69) → Option (Int)
 | 0, _, _, _, _, _, _ => none
 | k + 1, x3, x5, x128000, x128001, x128002, x128003 => if x3 = true then (saronref03_Check.j4 k x3 x5 (decide (x5 < (x128003.length : Int))) x128000 x128001 x128002 x128003) else (saronref03_Check.j4 k x3 x5 false x128000 x128001 x128002 x128003)
def saronref03_Check.j4 : Nat → Bool → Int → Bool → List (S57) → Int → Int → List (S69) → Option (Int)
 | 0, _, _, _, _, _, _, _ => none
 | k + 1, x3, x5, x60, x128000, x128001, x128002, x128003 => if x60 = true then (if 0 ≤ x5 then (if x5 < (x128003.length : Int) then ((saronref00_Good.f ((rd_T69 x128003 x5).f0.f0) ((rd_T69 x128003 x5).f0.f1) (-60) 60).bind fun t134 => (if t134 = true then ((saronref00_Sits.f ((rd_T69 x128003 x5).f1) 0 30).bind fun t136 => (saronref03_Check.l1 k t136 (wrap64 (x5 + 1)) x128000 x128001 x128002 x128003)) else (saronref03_Check.l1 k false (wrap64 (x5 + 1)) x128000 x128001 x128002 x128003))) else (none)) else (none)) else (if x3 = true then (some 0) else (some 30))
end
def saronref03_Check.f (k : Nat) (l0_0 : List (S57)) (a0_1 : Int) (a0_2 : Int) (l0_3 : List (S69)) : Option (Int) := if (l0_0.length : Int) ≥ 1 then (if (l0_0.length : Int) ≤ 4 then ((saronref00_Good.f a0_1 a0_2 (-60) 60).bind fun t128 => (if t128 = true then (saronref03_Check.j0 k (decide ((l0_3.length : Int) ≤ 6)) l0_0 a0_1 a0_2 l0_3) else (saronref03_Check.j0 k false l0_0 a0_1 a0_2 l0_3))) else (saronref03_Check.j0 k false l0_0 a0_1 a0_2 l0_3)) else (saronref03_Check.j0 k false l0_0 a0_1 a0_2 l0_3)
theorem saronref03_Check.mono_l : ∀ k, (∀ y0 y1 y2 y3 y4, LeO (saronref03_Check.j0 k y0 y1 y2 y3 y4) (saronref03_Check.j0 (k + 1) y0 y1 y2 y3 y4)) ∧ (∀ y0 y1 y2 y3 y4 y5, LeO (saronref03_Check.l0 k y0 y1 y2 y3 y4 y5) (saronref03_Check.l0 (k + 1) y0 y1 y2 y3 y4 y5)) ∧ (∀ y0 y1 y2 y3 y4 y5 y6, LeO (saronref03_Check.j2 k y0 y1 y2 y3 y4 y5 y6) (saronref03_Check.j2 (k + 1) y0 y1 y2 y3 y4 y5 y6)) ∧ (∀ y0 y1 y2 y3 y4 y5, LeO (saronref03_Check.l1 k y0 y1 y2 y3 y4 y5) (saronref03_Check.l1 (k + 1) y0 y1 y2 y3 y4 y5)) ∧ (∀ y0 y1 y2 y3 y4 y5 y6, LeO (saronref03_Check.j4 k y0 y1 y2 y3 y4 y5 y6) (saronref03_Check.j4 (k + 1) y0 y1 y2 y3 y4 y5 y6))
 | 0 => ⟨fun _ _ _ _ _ r h => by simp [saronref03_Check.j0] at h, fun _ _ _ _ _ _ r h => by simp [saronref03_Check.l0] at h, fun _ _ _ _ _ _ _ r h => by simp [saronref03_Check.j2] at h, fun _ _ _ _ _ _ r h => by simp [saronref03_Check.l1] at h, fun _ _ _ _ _ _ _ r h => by simp [saronref03_Check.j4] at h⟩
 | k + 1 => by
  obtain ⟨ih0, ih1, ih2, ih3, ih4⟩ := saronref03_Check.mono_l k
  refine ⟨?_, ?_, ?_, ?_, ?_⟩
  ·intro y0 y1 y2 y3 y4
   unfold saronref03_Check.j0
   repeat' first
   | (with_reducible exact ih0 _ _ _ _ _)
   | (with_reducible exact ih1 _ _ _ _ _ _)
   | (with_reducible exact ih2 _ _ _ _ _ _ _)
   | (with_reducible exact ih3 _ _ _ _ _ _)
   | (with_reducible exact ih4 _ _ _ _ _ _ _)
   | (with_reducible exact LeO.refl _)
   | (with_reducible exact LeO.none _)
   | (with_reducible refine LeO.ite ?_ ?_)
   | (with_reducible refine LeO.bind ?_ (fun _ => ?_))
   | exact ih0 _ _ _ _ _
   | exact ih1 _ _ _ _ _ _
   | exact ih2 _ _ _ _ _ _ _
   | exact ih3 _ _ _ _ _ _
   | exact ih4 _ _ _ _ _ _ _
   | exact LeO.none _
   | refine LeO.ite ?_ ?_
   | refine LeO.bind ?_ (fun _ => ?_)
  ·intro y0 y1 y2 y3 y4 y5
   unfold saronref03_Check.l0
   repeat' first
   | (with_reducible exact ih0 _ _ _ _ _)
   | (with_reducible exact ih1 _ _ _ _ _ _)
   | (with_reducible exact ih2 _ _ _ _ _ _ _)
   | (with_reducible exact ih3 _ _ _ _ _ _)
   | (with_reducible exact ih4 _ _ _ _ _ _ _)
   | (with_reducible exact LeO.refl _)
   | (with_reducible exact LeO.none _)
   | (with_reducible refine LeO.ite ?_ ?_)
   | (with_reducible refine LeO.bind ?_ (fun _ => ?_))
   | exact ih0 _ _ _ _ _
   | exact ih1 _ _ _ _ _ _
   | exact ih2 _ _ _ _ _ _ _
   | exact ih3 _ _ _ _ _ _
   | exact ih4 _ _ _ _ _ _ _
   | exact LeO.none _
   | refine LeO.ite ?_ ?_
   | refine LeO.bind ?_ (fun _ => ?_)
  ·intro y0 y1 y2 y3 y4 y5 y6
   unfold saronref03_Check.j2
   repeat' first
   | (with_reducible exact ih0 _ _ _ _ _)
   | (with_reducible exact ih1 _ _ _ _ _ _)
   | (with_reducible exact ih2 _ _ _ _ _ _ _)
   | (with_reducible exact ih3 _ _ _ _ _ _)
   | (with_reducible exact ih4 _ _ _ _ _ _ _)
   | (with_reducible exact LeO.refl _)
   | (with_reducible exact LeO.none _)
   | (with_reducible refine LeO.ite ?_ ?_)
   | (with_reducible refine LeO.bind ?_ (fun _ => ?_))
   | exact ih0 _ _ _ _ _
   | exact ih1 _ _ _ _ _ _
   | exact ih2 _ _ _ _ _ _ _
   | exact ih3 _ _ _ _ _ _
   | exact ih4 _ _ _ _ _ _ _
   | exact LeO.none _
   | refine LeO.ite ?_ ?_
   | refine LeO.bind ?_ (fun _ => ?_)
  ·intro y0 y1 y2 y3 y4 y5
   unfold saronref03_Check.l1
   repeat' first
   | (with_reducible exact ih0 _ _ _ _ _)
   | (with_reducible exact ih1 _ _ _ _ _ _)
   | (with_reducible exact ih2 _ _ _ _ _ _ _)
   | (with_reducible exact ih3 _ _ _ _ _ _)
   | (with_reducible exact ih4 _ _ _ _ _ _ _)
   | (with_reducible exact LeO.refl _)
   | (with_reducible exact LeO.none _)
   | (with_reducible refine LeO.ite ?_ ?_)
   | (with_reducible refine LeO.bind ?_ (fun _ => ?_))
   | exact ih0 _ _ _ _ _
   | exact ih1 _ _ _ _ _ _
   | exact ih2 _ _ _ _ _ _ _
   | exact ih3 _ _ _ _ _ _
   | exact ih4 _ _ _ _ _ _ _
   | exact LeO.none _
   | refine LeO.ite ?_ ?_
   | refine LeO.bind ?_ (fun _ => ?_)
  ·intro y0 y1 y2 y3 y4 y5 y6
   unfold saronref03_Check.j4
   repeat' first
   | (with_reducible exact ih0 _ _ _ _ _)
   | (with_reducible exact ih1 _ _ _ _ _ _)
   | (with_reducible exact ih2 _ _ _ _ _ _ _)
   | (with_reducible exact ih3 _ _ _ _ _ _)
   | (with_reducible exact ih4 _ _ _ _ _ _ _)
   | (with_reducible exact LeO.refl _)
   | (with_reducible exact LeO.none _)
   | (with_reducible refine LeO.ite ?_ ?_)
   | (with_reducible refine LeO.bind ?_ (fun _ => ?_))
   | exact ih0 _ _ _ _ _
   | exact ih1 _ _ _ _ _ _
   | exact ih2 _ _ _ _ _ _ _
   | exact ih3 _ _ _ _ _ _
   | exact ih4 _ _ _ _ _ _ _
   | exact LeO.none _
   | refine LeO.ite ?_ ?_
   | refine LeO.bind ?_ (fun _ => ?_)
theorem saronref03_Check.mono : ∀ a0 a1 a2 a3 k, LeO (saronref03_Check.f k a0 a1 a2 a3) (saronref03_Check.f (k + 1) a0 a1 a2 a3) := by
 intro a0 a1 a2 a3 k
 obtain ⟨ih0, ih1, ih2, ih3, ih4⟩ := saronref03_Check.mono_l k
 unfold saronref03_Check.f
 repeat' first
   | (with_reducible exact ih0 _ _ _ _ _)
   | (with_reducible exact ih1 _ _ _ _ _ _)
   | (with_reducible exact ih2 _ _ _ _ _ _ _)
   | (with_reducible exact ih3 _ _ _ _ _ _)
   | (with_reducible exact ih4 _ _ _ _ _ _ _)
   | (with_reducible exact LeO.refl _)
   | (with_reducible exact LeO.none _)
   | (with_reducible refine LeO.ite ?_ ?_)
   | (with_reducible refine LeO.bind ?_ (fun _ => ?_))
   | exact ih0 _ _ _ _ _
   | exact ih1 _ _ _ _ _ _
   | exact ih2 _ _ _ _ _ _ _
   | exact ih3 _ _ _ _ _ _
   | exact ih4 _ _ _ _ _ _ _
   | exact LeO.none _
   | refine LeO.ite ?_ ?_
   | refine LeO.bind ?_ (fun _ => ?_)
set_option maxHeartbeats 8000000 in
set_option maxRecDepth 100000 in
theorem saronref03_Check.calls (k : Nat) (A0_0 : Option Addr) (c0_0 : Nat) (l0_0 : List (S57)) (a0_1 : Int) (a0_2 : Int) (A0_3 : Option Addr) (c0_3 : Nat) (l0_3 : List (S69)) (r : Int) (w : World) (hr0_0 : Kd.C k57 w A0_0 l0_0.length l0_0) (hc0_0 : l0_0.length ≤ c0_0) (hr0_3 : Kd.C k69 w A0_3 l0_3.length l0_3) (hc0_3 : l0_3.length ≤ c0_3) (h : saronref03_Check.f k l0_0 a0_1 a0_2 l0_3 = some r) :
  Calls Tryd.prog 19 #[.agg #[.slice A0_0 l0_0.length c0_0, .int .i64 a0_1, .int .i64 a0_2, .slice A0_3 l0_3.length c0_3]] w fun e w' => e = .returned (.int .i64 r) ∧ Below w.heap.size w w' := by
 have hu27 := Tryd.underlying27
 have hu24 := Tryd.underlying24
 have HR0_0 := Aside0.mk hr0_0
 have HC0_0 := Aside0.mk hc0_0
 clear hr0_0 hc0_0
 have HR0_3 := Aside0.mk hr0_3
 have HC0_3 := Aside0.mk hc0_3
 clear hr0_3 hc0_3
 have HB := Aside0.mk (Below.refl w.heap.size w)
 have H : (if (l0_0.length : Int) ≥ 1 then (if (l0_0.length : Int) ≤ 4 then ((saronref00_Good.f a0_1 a0_2 (-60) 60).bind fun t128 => (if t128 = true then (saronref03_Check.j0 k (decide ((l0_3.length : Int) ≤ 6)) l0_0 a0_1 a0_2 l0_3) else (saronref03_Check.j0 k false l0_0 a0_1 a0_2 l0_3))) else (saronref03_Check.j0 k false l0_0 a0_1 a0_2 l0_3)) else (saronref03_Check.j0 k false l0_0 a0_1 a0_2 l0_3)) = some r := h
 clear h
 have HC2 := Aside0.mk H
 clear H
 go_enter Tryd.func19, Tryd.ntmps19
 go_upto_region 1 with (first | ((with_reducible refine gate_dst (N := 1) rfl ?_); (try (refine gate_guard (by rfl) ?_; dsimp only)); refine box_event ?hg (N := 1) ?hd (cs := #[.slice A0_0 l0_0.length c0_0, .int .i64 a0_1, .int .i64 a0_2, .slice A0_3 l0_3.length c0_3]) (t := 27) ?hr ?_; (case hd => rfl); (case hg => rfl); (case hr => exact TS); intro gb127 hg w3 hbox hb; have BK127 := Aside0.mk (hbox); have GW127 := Aside0.mk ((TG : w.heap.size ≤ gb127)); have GE127 := Aside0.mk ((TG : w.heap.size ≤ gb127)); replace HB := Aside0.mk (below_step TB hb); clear hb hbox hg))
 (try simp only [Act.put, lA, lZ, lS])
 go_cut [3] (fun v3 wc => ∃ (kq : Nat) (x3_1 : Bool), v3 = .bool x3_1 ∧ Aside0 (saronref03_Check.j0 kq x3_1 l0_0 a0_1 a0_2 l0_3 = some r) ∧ Aside0 (kq ≤ k) ∧ Aside0 (wc.heap[gb127]? = some (.cells #[(.slice A0_0 l0_0.length c0_0), .int .i64 a0_1, .int .i64 a0_2, (.slice A0_3 l0_3.length c0_3)] 27 (0, 0))) ∧ Aside0 (Below w.heap.size w wc))
 case first =>
  have H := HC2.out
  clear HC2
  by_cases c4 : (l0_0.length : Int) ≥ 1
  ·rw [if_pos c4] at H
   have c4b0 : decide (1 ≤ (l0_0.length : Int)) = true := decide_eq_true c4
   have c4b1 : decide (1 ≤ l0_0.length) = true := decide_eq_true (by omega)
   clear c4
   (first | rw [c4b0] | (simp only [i64_w, i32_w]; rw [c4b0]) | skip)
   by_cases c5 : (l0_0.length : Int) ≤ 4
   ·rw [if_pos c5] at H
    have c5b0 : decide ((l0_0.length : Int) ≤ 4) = true := decide_eq_true c5
    have c5b1 : decide (l0_0.length ≤ 4) = true := decide_eq_true (by omega)
    clear c5
    replace H := Option.bind_eq_some_iff.mp H
    obtain ⟨t128, A60, H⟩ := H
    replace H : (if t128 = true then (saronref03_Check.j0 k (decide ((l0_3.length : Int) ≤ 6)) l0_0 a0_1 a0_2 l0_3) else (saronref03_Check.j0 k false l0_0 a0_1 a0_2 l0_3)) = some r := H
    have A6 := Aside0.mk A60
    clear A60
    by_cases c7 : t128 = true
    ·subst c7
     have H1 : (saronref03_Check.j0 k (decide ((l0_3.length : Int) ≤ 6)) l0_0 a0_1 a0_2 l0_3) = some r := by rw [if_pos rfl] at H; exact H
     clear H
     have H := H1
     clear H1
     have H' := Aside0.mk H
     clear H
     have hcz8_0 := cz BK127.out 0
     have hcz8_1 := cz BK127.out 1
     have hcz8_2 := cz BK127.out 2
     have hcz8_3 := cz BK127.out 3
     have hfz8_0 := fz BK127.out 0
     have hfz8_1 := fz BK127.out 1
     have hfz8_2 := fz BK127.out 2
     have hfz8_3 := fz BK127.out 3
     go_wp2_with (first | (go_at_call 60; (with_reducible refine (saronref00_Good.calls a0_1 a0_2 (-60) 60 true _ A6.out).mono ?_); rintro e w9 ⟨rfl, hb⟩; replace BK127 := Aside0.mk (TKb hb BK127.out); replace HB := Aside0.mk (below_step (TB1 GE127.out) hb); (try clear hb); (try clear hb2); (try clear hk); (try clear hi); have hcz10_0 := cz BK127.out 0; have hcz10_1 := cz BK127.out 1; have hcz10_2 := cz BK127.out 2; have hcz10_3 := cz BK127.out 3; have hfz10_0 := fz BK127.out 0; have hfz10_1 := fz BK127.out 1; have hfz10_2 := fz BK127.out 2; have hfz10_3 := fz BK127.out 3))
     go_meet
     case rel => exact ⟨_, (decide ((l0_3.length : Int) ≤ 6)), TT, H', ⟨by first | omega | exact Nat.le_refl _⟩, ⟨TK BK127.out⟩, ⟨TB1 GE127.out⟩⟩
    ·replace c7 := Bool.eq_false_iff.mpr c7
     subst c7
     have H1 : (saronref03_Check.j0 k false l0_0 a0_1 a0_2 l0_3) = some r := by rw [if_neg (show ¬ (false = true) by decide)] at H; exact H
     clear H
     have H := H1
     clear H1
     have H' := Aside0.mk H
     clear H
     have hcz11_0 := cz BK127.out 0
     have hcz11_1 := cz BK127.out 1
     have hcz11_2 := cz BK127.out 2
     have hcz11_3 := cz BK127.out 3
     have hfz11_0 := fz BK127.out 0
     have hfz11_1 := fz BK127.out 1
     have hfz11_2 := fz BK127.out 2
     have hfz11_3 := fz BK127.out 3
     go_wp2_with (first | (go_at_call 60; (with_reducible refine (saronref00_Good.calls a0_1 a0_2 (-60) 60 false _ A6.out).mono ?_); rintro e w12 ⟨rfl, hb⟩; replace BK127 := Aside0.mk (TKb hb BK127.out); replace HB := Aside0.mk (below_step (TB1 GE127.out) hb); (try clear hb); (try clear hb2); (try clear hk); (try clear hi)))
     go_meet
     case rel => exact ⟨_, (false), TT, H', ⟨by first | omega | exact Nat.le_refl _⟩, ⟨TK BK127.out⟩, ⟨TB1 GE127.out⟩⟩
   ·rw [if_neg c5] at H
    have c5b0 : decide ((l0_0.length : Int) ≤ 4) = false := decide_eq_false c5
    have c5b1 : decide (l0_0.length ≤ 4) = false := decide_eq_false (by omega)
    clear c5
    have H' := Aside0.mk H
    clear H
    have hcz13_0 := cz BK127.out 0
    have hcz13_1 := cz BK127.out 1
    have hcz13_2 := cz BK127.out 2
    have hcz13_3 := cz BK127.out 3
    have hfz13_0 := fz BK127.out 0
    have hfz13_1 := fz BK127.out 1
    have hfz13_2 := fz BK127.out 2
    have hfz13_3 := fz BK127.out 3
    go_wp2
    go_meet
    case rel => exact ⟨_, (false), TT, H', ⟨by first | omega | exact Nat.le_refl _⟩, ⟨TK BK127.out⟩, ⟨TB1 GE127.out⟩⟩
  ·rw [if_neg c4] at H
   have c4b0 : decide (1 ≤ (l0_0.length : Int)) = false := decide_eq_false c4
   have c4b1 : decide (1 ≤ l0_0.length) = false := decide_eq_false (by omega)
   clear c4
   (first | rw [c4b0] | (simp only [i64_w, i32_w]; rw [c4b0]) | skip)
   have H' := Aside0.mk H
   clear H
   have hcz14_0 := cz BK127.out 0
   have hcz14_1 := cz BK127.out 1
   have hcz14_2 := cz BK127.out 2
   have hcz14_3 := cz BK127.out 3
   have hfz14_0 := fz BK127.out 0
   have hfz14_1 := fz BK127.out 1
   have hfz14_2 := fz BK127.out 2
   have hfz14_3 := fz BK127.out 3
   go_wp2
   go_meet
   case rel => exact ⟨_, (false), TT, H', ⟨by first | omega | exact Nat.le_refl _⟩, ⟨TK BK127.out⟩, ⟨TB1 GE127.out⟩⟩
 case rest =>
  clear HC2
  try clear c1
  try clear p2
  try clear c4
  try clear c4b0
  try clear c4b1
  try clear c5
  try clear c5b0
  try clear c5b1
  try clear c7
  try clear hcz10_0 hcz10_1 hcz10_2 hcz10_3
  try clear hcz11_0 hcz11_1 hcz11_2 hcz11_3
  try clear hcz13_0 hcz13_1 hcz13_2 hcz13_3
  try clear hcz14_0 hcz14_1 hcz14_2 hcz14_3
  try clear hcz8_0 hcz8_1 hcz8_2 hcz8_3
  try clear hfz10_0 hfz10_1 hfz10_2 hfz10_3
  try clear hfz11_0 hfz11_1 hfz11_2 hfz11_3
  try clear hfz13_0 hfz13_1 hfz13_2 hfz13_3
  try clear hfz14_0 hfz14_1 hfz14_2 hfz14_3
  try clear hfz8_0 hfz8_1 hfz8_2 hfz8_3
  obtain ⟨kq, x3_1, rfl, HA, HJ1, BK127, HB⟩ := hcut
  cases kq with
  | zero => exact absurd HA.out (by simp [saronref03_Check.j0])
  | succ kj1 =>
   have H := HA.out
   clear HA
   simp only [saronref03_Check.j0] at H
   have H' := Aside0.mk H
   clear H
   go_wp2
   go_loopg [3, 4] kj1 (fun kq v3 v4 w' => ∃ (x3_2 : Bool) (x4_2 : Int), v3 = .bool x3_2 ∧ v4 = .int .i64 x4_2 ∧ Aside0 (saronref03_Check.l0 kq x3_2 x4_2 l0_0 a0_1 a0_2 l0_3 = some r) ∧ Aside0 (kq ≤ kj1) ∧ Aside0 (w'.heap[gb127]? = some (.cells #[(.slice A0_0 l0_0.length c0_0), .int .i64 a0_1, .int .i64 a0_2, (.slice A0_3 l0_3.length c0_3)] 27 (0, 0))) ∧ Aside0 (Below w.heap.size w w'))
   case atStart => exact ⟨(x3_1), (0), TT, TT, H', ⟨Nat.le_refl _⟩, ⟨TK BK127.out⟩, ⟨TB1 GE127.out⟩⟩
   case round =>
    clear H'
    try clear c1
    try clear p2
    try clear c4
    try clear c4b0
    try clear c4b1
    try clear c5
    try clear c5b0
    try clear c5b1
    try clear c7
    try clear hcz10_0 hcz10_1 hcz10_2 hcz10_3
    try clear hcz11_0 hcz11_1 hcz11_2 hcz11_3
    try clear hcz13_0 hcz13_1 hcz13_2 hcz13_3
    try clear hcz14_0 hcz14_1 hcz14_2 hcz14_3
    try clear hcz8_0 hcz8_1 hcz8_2 hcz8_3
    try clear hfz10_0 hfz10_1 hfz10_2 hfz10_3
    try clear hfz11_0 hfz11_1 hfz11_2 hfz11_3
    try clear hfz13_0 hfz13_1 hfz13_2 hfz13_3
    try clear hfz14_0 hfz14_1 hfz14_2 hfz14_3
    try clear hfz8_0 hfz8_1 hfz8_2 hfz8_3
    try clear p2
    obtain ⟨x3_2, x4_2, rfl, rfl, HA, HK2, BK127, HB⟩ := hrel
    cases gk with
    | zero => exact absurd HA.out (by simp [saronref03_Check.l0])
    | succ k2 =>
     have H := HA.out
     clear HA
     simp only [saronref03_Check.l0] at H
     have HC15 := Aside0.mk H
     clear H
     go_upto_region 3 with (fail)
     go_cut [34] (fun v34 wc => ∃ (kq : Nat) (x34_14 : Bool), v34 = .bool x34_14 ∧ Aside0 (saronref03_Check.j2 kq x3_2 x4_2 x34_14 l0_0 a0_1 a0_2 l0_3 = some r) ∧ Aside0 (kq ≤ k2) ∧ Aside0 (wc.heap[gb127]? = some (.cells #[(.slice A0_0 l0_0.length c0_0), .int .i64 a0_1, .int .i64 a0_2, (.slice A0_3 l0_3.length c0_3)] 27 (0, 0))) ∧ Aside0 (Below w.heap.size w wc))
     case first =>
      have H := HC15.out
      clear HC15
      by_cases c16 : x3_2 = true
      ·subst c16
       have H1 : (saronref03_Check.j2 k2 true x4_2 (decide (x4_2 < (l0_0.length : Int))) l0_0 a0_1 a0_2 l0_3) = some r := by rw [if_pos rfl] at H; exact H
       clear H
       have H := H1
       clear H1
       have H' := Aside0.mk H
       clear H
       have hcz17_0 := cz BK127.out 0
       have hcz17_1 := cz BK127.out 1
       have hcz17_2 := cz BK127.out 2
       have hcz17_3 := cz BK127.out 3
       have hfz17_0 := fz BK127.out 0
       have hfz17_1 := fz BK127.out 1
       have hfz17_2 := fz BK127.out 2
       have hfz17_3 := fz BK127.out 3
       go_wp2
       go_meet
       case rel => exact ⟨_, (decide (x4_2 < (l0_0.length : Int))), TT, H', ⟨by have := HJ1.out; have := HK2.out; first | omega | exact Nat.le_refl _⟩, ⟨TK BK127.out⟩, ⟨TB1 GE127.out⟩⟩
      ·replace c16 := Bool.eq_false_iff.mpr c16
       subst c16
       have H1 : (saronref03_Check.j2 k2 false x4_2 false l0_0 a0_1 a0_2 l0_3) = some r := by rw [if_neg (show ¬ (false = true) by decide)] at H; exact H
       clear H
       have H := H1
       clear H1
       have H' := Aside0.mk H
       clear H
       go_wp2
       go_meet
       case rel => exact ⟨_, (false), TT, H', ⟨by have := HJ1.out; have := HK2.out; first | omega | exact Nat.le_refl _⟩, ⟨TK BK127.out⟩, ⟨TB1 GE127.out⟩⟩
     case rest =>
      clear HC15
      try clear c1
      try clear p2
      try clear c4
      try clear c4b0
      try clear c4b1
      try clear c5
      try clear c5b0
      try clear c5b1
      try clear c7
      try clear c16
      try clear hcz10_0 hcz10_1 hcz10_2 hcz10_3
      try clear hcz11_0 hcz11_1 hcz11_2 hcz11_3
      try clear hcz13_0 hcz13_1 hcz13_2 hcz13_3
      try clear hcz14_0 hcz14_1 hcz14_2 hcz14_3
      try clear hcz17_0 hcz17_1 hcz17_2 hcz17_3
      try clear hcz8_0 hcz8_1 hcz8_2 hcz8_3
      try clear hfz10_0 hfz10_1 hfz10_2 hfz10_3
      try clear hfz11_0 hfz11_1 hfz11_2 hfz11_3
      try clear hfz13_0 hfz13_1 hfz13_2 hfz13_3
      try clear hfz14_0 hfz14_1 hfz14_2 hfz14_3
      try clear hfz17_0 hfz17_1 hfz17_2 hfz17_3
      try clear hfz8_0 hfz8_1 hfz8_2 hfz8_3
      try clear p2
      obtain ⟨kq, x34_14, rfl, HA, HJ14, BK127, HB⟩ := hcut
      cases kq with
      | zero => exact absurd HA.out (by simp [saronref03_Check.j2])
      | succ kj14 =>
       have H := HA.out
       clear HA
       simp only [saronref03_Check.j2] at H
       by_cases c18 : x34_14 = true
       ·subst c18
        have H1 : (if 0 ≤ x4_2 then (if x4_2 < (l0_0.length : Int) then ((saronref00_Good.f ((rd_T57 l0_0 x4_2).f0.f0) ((rd_T57 l0_0 x4_2).f0.f1) (-30) 30).bind fun t130 => (if t130 = true then ((saronref00_Sits.f ((rd_T57 l0_0 x4_2).f1) 1 10).bind fun t132 => (saronref03_Check.l0 kj14 t132 (wrap64 (x4_2 + 1)) l0_0 a0_1 a0_2 l0_3)) else (saronref03_Check.l0 kj14 false (wrap64 (x4_2 + 1)) l0_0 a0_1 a0_2 l0_3))) else (none)) else (none)) = some r := by rw [if_pos rfl] at H; exact H
        clear H
        have H := H1
        clear H1
        by_cases c19 : 0 ≤ x4_2
        ·rw [if_pos c19] at H
         have c19b0 : decide (0 ≤ x4_2) = true := decide_eq_true c19
         clear c19
         by_cases c20 : x4_2 < (l0_0.length : Int)
         ·rw [if_pos c20] at H
          have c20b0 : decide (x4_2 < (l0_0.length : Int)) = true := decide_eq_true c20
          clear c20
          replace H := Option.bind_eq_some_iff.mp H
          obtain ⟨t130, A210, H⟩ := H
          replace H : (if t130 = true then ((saronref00_Sits.f ((rd_T57 l0_0 x4_2).f1) 1 10).bind fun t132 => (saronref03_Check.l0 kj14 t132 (wrap64 (x4_2 + 1)) l0_0 a0_1 a0_2 l0_3)) else (saronref03_Check.l0 kj14 false (wrap64 (x4_2 + 1)) l0_0 a0_1 a0_2 l0_3)) = some r := H
          have A21 := Aside0.mk A210
          clear A210
          by_cases c22 : t130 = true
          ·subst c22
           have H1 : ((saronref00_Sits.f ((rd_T57 l0_0 x4_2).f1) 1 10).bind fun t132 => (saronref03_Check.l0 kj14 t132 (wrap64 (x4_2 + 1)) l0_0 a0_1 a0_2 l0_3)) = some r := by rw [if_pos rfl] at H; exact H
           clear H
           have H := H1
           clear H1
           replace H := Option.bind_eq_some_iff.mp H
           obtain ⟨t132, A230, H⟩ := H
           replace H : (saronref03_Check.l0 kj14 t132 (wrap64 (x4_2 + 1)) l0_0 a0_1 a0_2 l0_3) = some r := H
           have A23 := Aside0.mk A230
           clear A230
           have H' := Aside0.mk H
           clear H
           have hcz24_0 := cz BK127.out 0
           have hcz24_1 := cz BK127.out 1
           have hcz24_2 := cz BK127.out 2
           have hcz24_3 := cz BK127.out 3
           have hfz24_0 := fz BK127.out 0
           have hfz24_1 := fz BK127.out 1
           have hfz24_2 := fz BK127.out 2
           have hfz24_3 := fz BK127.out 3
           have p129 : 0 ≤ (x4_2 : Int) := of_decide_eq_true TA
           have q129 : x4_2 < (l0_0.length : Int) := of_decide_eq_true TA
           obtain ⟨ad129, e129, hx129_0, hx129_1, hx129_2⟩ := at_T57 HR0_0.out x4_2 p129 q129
           cases e129
           replace hx129_0 := hx HB.out hx129_0
           replace hx129_1 := hx HB.out hx129_1
           replace hx129_2 := hx HB.out hx129_2
           replace p129 := eq_true p129
           replace q129 := eq_true q129
           go_wp2_with (first | ((with_reducible refine gate_callee (f := 60) rfl ?_); refine goesL_ (some 43) rfl rfl Tryd.func60 (by kernel_rfl) rfl #[.agg #[.int .i64 ((rd_T57 l0_0 x4_2).f0.f0), .int .i64 ((rd_T57 l0_0 x4_2).f0.f1)], .int .i64 (-30), .int .i64 30] rfl TM ?_; (with_reducible refine (saronref00_Good.calls ((rd_T57 l0_0 x4_2).f0.f0) ((rd_T57 l0_0 x4_2).f0.f1) (-30) 30 true _ A21.out).mono ?_); rintro e w25 ⟨rfl, hb⟩; refine ⟨_, rfl, ?_⟩; replace BK127 := Aside0.mk (TKb hb BK127.out); replace HB := Aside0.mk (below_step (TB1 GE127.out) hb); (try clear hb); (try clear hb2); (try clear hk); (try clear hi); have hcz26_0 := cz BK127.out 0; have hcz26_1 := cz BK127.out 1; have hcz26_2 := cz BK127.out 2; have hcz26_3 := cz BK127.out 3; have hfz26_0 := fz BK127.out 0; have hfz26_1 := fz BK127.out 1; have hfz26_2 := fz BK127.out 2; have hfz26_3 := fz BK127.out 3; have p131 : 0 ≤ (x4_2 : Int) := of_decide_eq_true TA; have q131 : x4_2 < (l0_0.length : Int) := of_decide_eq_true TA; obtain ⟨ad131, e131, hx131_0, hx131_1, hx131_2⟩ := at_T57 HR0_0.out x4_2 p131 q131; obtain rfl : ad129 = ad131 := (by injection e131); replace hx131_0 := hx HB.out hx131_0; replace hx131_1 := hx HB.out hx131_1; replace hx131_2 := hx HB.out hx131_2; replace p131 := eq_true p131; replace q131 := eq_true q131) | (go_at_call 39; (with_reducible refine (saronref00_Sits.calls ((rd_T57 l0_0 x4_2).f1) 1 10 t132 _ A23.out).mono ?_); rintro e w' ⟨rfl, ⟨nd, rfl⟩⟩))
           go_roundg kj14
           case measure => have := HJ1.out; have := HK2.out; have := HJ14.out; omega
           case rel => exact ⟨(t132), (wrap64 (x4_2 + 1)), TT, TT, H', ⟨by have := HJ1.out; have := HK2.out; have := HJ14.out; omega⟩, ⟨TK BK127.out⟩, ⟨TB1 GE127.out⟩⟩
          ·replace c22 := Bool.eq_false_iff.mpr c22
           subst c22
           have H1 : (saronref03_Check.l0 kj14 false (wrap64 (x4_2 + 1)) l0_0 a0_1 a0_2 l0_3) = some r := by rw [if_neg (show ¬ (false = true) by decide)] at H; exact H
           clear H
           have H := H1
           clear H1
           have H' := Aside0.mk H
           clear H
           have hcz27_0 := cz BK127.out 0
           have hcz27_1 := cz BK127.out 1
           have hcz27_2 := cz BK127.out 2
           have hcz27_3 := cz BK127.out 3
           have hfz27_0 := fz BK127.out 0
           have hfz27_1 := fz BK127.out 1
           have hfz27_2 := fz BK127.out 2
           have hfz27_3 := fz BK127.out 3
           have p129 : 0 ≤ (x4_2 : Int) := of_decide_eq_true TA
           have q129 : x4_2 < (l0_0.length : Int) := of_decide_eq_true TA
           obtain ⟨ad129, e129, hx129_0, hx129_1, hx129_2⟩ := at_T57 HR0_0.out x4_2 p129 q129
           cases e129
           replace hx129_0 := hx HB.out hx129_0
           replace hx129_1 := hx HB.out hx129_1
           replace hx129_2 := hx HB.out hx129_2
           replace p129 := eq_true p129
           replace q129 := eq_true q129
           go_wp2_with (first | ((with_reducible refine gate_callee (f := 60) rfl ?_); refine goesL_ (some 43) rfl rfl Tryd.func60 (by kernel_rfl) rfl #[.agg #[.int .i64 ((rd_T57 l0_0 x4_2).f0.f0), .int .i64 ((rd_T57 l0_0 x4_2).f0.f1)], .int .i64 (-30), .int .i64 30] rfl TM ?_; (with_reducible refine (saronref00_Good.calls ((rd_T57 l0_0 x4_2).f0.f0) ((rd_T57 l0_0 x4_2).f0.f1) (-30) 30 false _ A21.out).mono ?_); rintro e w28 ⟨rfl, hb⟩; refine ⟨_, rfl, ?_⟩; replace BK127 := Aside0.mk (TKb hb BK127.out); replace HB := Aside0.mk (below_step (TB1 GE127.out) hb); (try clear hb); (try clear hb2); (try clear hk); (try clear hi)))
           go_roundg kj14
           case measure => have := HJ1.out; have := HK2.out; have := HJ14.out; omega
           case rel => exact ⟨(false), (wrap64 (x4_2 + 1)), TT, TT, H', ⟨by have := HJ1.out; have := HK2.out; have := HJ14.out; omega⟩, ⟨TK BK127.out⟩, ⟨TB1 GE127.out⟩⟩
         ·rw [if_neg c20] at H
          exact absurd H (by simp)
        ·rw [if_neg c19] at H
         exact absurd H (by simp)
       ·replace c18 := Bool.eq_false_iff.mpr c18
        subst c18
        have H1 : (saronref03_Check.l1 kj14 x3_2 0 l0_0 a0_1 a0_2 l0_3) = some r := by rw [if_neg (show ¬ (false = true) by decide)] at H; exact H
        clear H
        have H := H1
        clear H1
        have H' := Aside0.mk H
        clear H
        go_wp2
        go_loopg [3, 5] kj14 (fun kq v3 v5 w' => ∃ (x3_4 : Bool) (x5_4 : Int), v3 = .bool x3_4 ∧ v5 = .int .i64 x5_4 ∧ Aside0 (saronref03_Check.l1 kq x3_4 x5_4 l0_0 a0_1 a0_2 l0_3 = some r) ∧ Aside0 (kq ≤ kj14) ∧ Aside0 (w'.heap[gb127]? = some (.cells #[(.slice A0_0 l0_0.length c0_0), .int .i64 a0_1, .int .i64 a0_2, (.slice A0_3 l0_3.length c0_3)] 27 (0, 0))) ∧ Aside0 (Below w.heap.size w w'))
        case atStart => exact ⟨(x3_2), (0), TT, TT, H', ⟨Nat.le_refl _⟩, ⟨TK BK127.out⟩, ⟨TB1 GE127.out⟩⟩
        case round =>
         clear H'
         try clear c1
         try clear p1
         try clear q1
         try clear hx1
         try clear c2
         try clear p2
         try clear c4
         try clear c4b0
         try clear c4b1
         try clear c5
         try clear c5b0
         try clear c5b1
         try clear c6
         try clear p6
         try clear c7
         try clear p12
         try clear q12
         try clear hx12
         try clear p13
         try clear q13
         try clear hx13
         try clear c16
         try clear c18
         try clear c19
         try clear c19b0
         try clear c20
         try clear c20b0
         try clear c22
         try clear hcz10_0 hcz10_1 hcz10_2 hcz10_3
         try clear hcz11_0 hcz11_1 hcz11_2 hcz11_3
         try clear hcz13_0 hcz13_1 hcz13_2 hcz13_3
         try clear hcz14_0 hcz14_1 hcz14_2 hcz14_3
         try clear hcz17_0 hcz17_1 hcz17_2 hcz17_3
         try clear hcz24_0 hcz24_1 hcz24_2 hcz24_3
         try clear hcz26_0 hcz26_1 hcz26_2 hcz26_3
         try clear hcz27_0 hcz27_1 hcz27_2 hcz27_3
         try clear hcz8_0 hcz8_1 hcz8_2 hcz8_3
         try clear hfz10_0 hfz10_1 hfz10_2 hfz10_3
         try clear hfz11_0 hfz11_1 hfz11_2 hfz11_3
         try clear hfz13_0 hfz13_1 hfz13_2 hfz13_3
         try clear hfz14_0 hfz14_1 hfz14_2 hfz14_3
         try clear hfz17_0 hfz17_1 hfz17_2 hfz17_3
         try clear hfz24_0 hfz24_1 hfz24_2 hfz24_3
         try clear hfz26_0 hfz26_1 hfz26_2 hfz26_3
         try clear hfz27_0 hfz27_1 hfz27_2 hfz27_3
         try clear hfz8_0 hfz8_1 hfz8_2 hfz8_3
         try clear hx129_0
         try clear hx129_1
         try clear hx129_2
         try clear hx131_0
         try clear hx131_1
         try clear hx131_2
         try clear p129
         try clear p131
         try clear p2
         try clear q129
         try clear q131
         obtain ⟨x3_4, x5_4, rfl, rfl, HA, HK4, BK127, HB⟩ := hrel
         cases gk with
         | zero => exact absurd HA.out (by simp [saronref03_Check.l1])
         | succ k4 =>
          have H := HA.out
          clear HA
          simp only [saronref03_Check.l1] at H
          have HC29 := Aside0.mk H
          clear H
          go_upto_region 7 with (fail)
          go_cut [60] (fun v60 wc => ∃ (kq : Nat) (x60_28 : Bool), v60 = .bool x60_28 ∧ Aside0 (saronref03_Check.j4 kq x3_4 x5_4 x60_28 l0_0 a0_1 a0_2 l0_3 = some r) ∧ Aside0 (kq ≤ k4) ∧ Aside0 (wc.heap[gb127]? = some (.cells #[(.slice A0_0 l0_0.length c0_0), .int .i64 a0_1, .int .i64 a0_2, (.slice A0_3 l0_3.length c0_3)] 27 (0, 0))) ∧ Aside0 (Below w.heap.size w wc))
          case first =>
           have H := HC29.out
           clear HC29
           by_cases c30 : x3_4 = true
           ·subst c30
            have H1 : (saronref03_Check.j4 k4 true x5_4 (decide (x5_4 < (l0_3.length : Int))) l0_0 a0_1 a0_2 l0_3) = some r := by rw [if_pos rfl] at H; exact H
            clear H
            have H := H1
            clear H1
            have H' := Aside0.mk H
            clear H
            have hcz31_0 := cz BK127.out 0
            have hcz31_1 := cz BK127.out 1
            have hcz31_2 := cz BK127.out 2
            have hcz31_3 := cz BK127.out 3
            have hfz31_0 := fz BK127.out 0
            have hfz31_1 := fz BK127.out 1
            have hfz31_2 := fz BK127.out 2
            have hfz31_3 := fz BK127.out 3
            go_wp2
            go_meet
            case rel => exact ⟨_, (decide (x5_4 < (l0_3.length : Int))), TT, H', ⟨by have := HJ1.out; have := HK2.out; have := HJ14.out; have := HK4.out; first | omega | exact Nat.le_refl _⟩, ⟨TK BK127.out⟩, ⟨TB1 GE127.out⟩⟩
           ·replace c30 := Bool.eq_false_iff.mpr c30
            subst c30
            have H1 : (saronref03_Check.j4 k4 false x5_4 false l0_0 a0_1 a0_2 l0_3) = some r := by rw [if_neg (show ¬ (false = true) by decide)] at H; exact H
            clear H
            have H := H1
            clear H1
            have H' := Aside0.mk H
            clear H
            go_wp2
            go_meet
            case rel => exact ⟨_, (false), TT, H', ⟨by have := HJ1.out; have := HK2.out; have := HJ14.out; have := HK4.out; first | omega | exact Nat.le_refl _⟩, ⟨TK BK127.out⟩, ⟨TB1 GE127.out⟩⟩
          case rest =>
           clear HC29
           try clear c1
           try clear p1
           try clear q1
           try clear hx1
           try clear c2
           try clear p2
           try clear c3
           try clear c4
           try clear c4b0
           try clear c4b1
           try clear c5
           try clear c5b0
           try clear c5b1
           try clear c6
           try clear p6
           try clear c7
           try clear p12
           try clear q12
           try clear hx12
           try clear p13
           try clear q13
           try clear hx13
           try clear c16
           try clear c18
           try clear c19
           try clear c19b0
           try clear c20
           try clear c20b0
           try clear c22
           try clear c30
           try clear hcz10_0 hcz10_1 hcz10_2 hcz10_3
           try clear hcz11_0 hcz11_1 hcz11_2 hcz11_3
           try clear hcz13_0 hcz13_1 hcz13_2 hcz13_3
           try clear hcz14_0 hcz14_1 hcz14_2 hcz14_3
           try clear hcz17_0 hcz17_1 hcz17_2 hcz17_3
           try clear hcz24_0 hcz24_1 hcz24_2 hcz24_3
           try clear hcz26_0 hcz26_1 hcz26_2 hcz26_3
           try clear hcz27_0 hcz27_1 hcz27_2 hcz27_3
           try clear hcz31_0 hcz31_1 hcz31_2 hcz31_3
           try clear hcz8_0 hcz8_1 hcz8_2 hcz8_3
           try clear hfz10_0 hfz10_1 hfz10_2 hfz10_3
           try clear hfz11_0 hfz11_1 hfz11_2 hfz11_3
           try clear hfz13_0 hfz13_1 hfz13_2 hfz13_3
           try clear hfz14_0 hfz14_1 hfz14_2 hfz14_3
           try clear hfz17_0 hfz17_1 hfz17_2 hfz17_3
           try clear hfz24_0 hfz24_1 hfz24_2 hfz24_3
           try clear hfz26_0 hfz26_1 hfz26_2 hfz26_3
           try clear hfz27_0 hfz27_1 hfz27_2 hfz27_3
           try clear hfz31_0 hfz31_1 hfz31_2 hfz31_3
           try clear hfz8_0 hfz8_1 hfz8_2 hfz8_3
           try clear hx129_0
           try clear hx129_1
           try clear hx129_2
           try clear hx131_0
           try clear hx131_1
           try clear hx131_2
           try clear p1
           try clear p12
           try clear p129
           try clear p13
           try clear p131
           try clear p2
           try clear p6
           try clear q1
           try clear q12
           try clear q129
           try clear q13
           try clear q131
           obtain ⟨kq, x60_28, rfl, HA, HJ28, BK127, HB⟩ := hcut
           cases kq with
           | zero => exact absurd HA.out (by simp [saronref03_Check.j4])
           | succ kj28 =>
            have H := HA.out
            clear HA
            simp only [saronref03_Check.j4] at H
            by_cases c32 : x60_28 = true
            ·subst c32
             have H1 : (if 0 ≤ x5_4 then (if x5_4 < (l0_3.length : Int) then ((saronref00_Good.f ((rd_T69 l0_3 x5_4).f0.f0) ((rd_T69 l0_3 x5_4).f0.f1) (-60) 60).bind fun t134 => (if t134 = true then ((saronref00_Sits.f ((rd_T69 l0_3 x5_4).f1) 0 30).bind fun t136 => (saronref03_Check.l1 kj28 t136 (wrap64 (x5_4 + 1)) l0_0 a0_1 a0_2 l0_3)) else (saronref03_Check.l1 kj28 false (wrap64 (x5_4 + 1)) l0_0 a0_1 a0_2 l0_3))) else (none)) else (none)) = some r := by rw [if_pos rfl] at H; exact H
             clear H
             have H := H1
             clear H1
             by_cases c33 : 0 ≤ x5_4
             ·rw [if_pos c33] at H
              have c33b0 : decide (0 ≤ x5_4) = true := decide_eq_true c33
              clear c33
              by_cases c34 : x5_4 < (l0_3.length : Int)
              ·rw [if_pos c34] at H
               have c34b0 : decide (x5_4 < (l0_3.length : Int)) = true := decide_eq_true c34
               clear c34
               replace H := Option.bind_eq_some_iff.mp H
               obtain ⟨t134, A350, H⟩ := H
               replace H : (if t134 = true then ((saronref00_Sits.f ((rd_T69 l0_3 x5_4).f1) 0 30).bind fun t136 => (saronref03_Check.l1 kj28 t136 (wrap64 (x5_4 + 1)) l0_0 a0_1 a0_2 l0_3)) else (saronref03_Check.l1 kj28 false (wrap64 (x5_4 + 1)) l0_0 a0_1 a0_2 l0_3)) = some r := H
               have A35 := Aside0.mk A350
               clear A350
               by_cases c36 : t134 = true
               ·subst c36
                have H1 : ((saronref00_Sits.f ((rd_T69 l0_3 x5_4).f1) 0 30).bind fun t136 => (saronref03_Check.l1 kj28 t136 (wrap64 (x5_4 + 1)) l0_0 a0_1 a0_2 l0_3)) = some r := by rw [if_pos rfl] at H; exact H
                clear H
                have H := H1
                clear H1
                replace H := Option.bind_eq_some_iff.mp H
                obtain ⟨t136, A370, H⟩ := H
                replace H : (saronref03_Check.l1 kj28 t136 (wrap64 (x5_4 + 1)) l0_0 a0_1 a0_2 l0_3) = some r := H
                have A37 := Aside0.mk A370
                clear A370
                have H' := Aside0.mk H
                clear H
                have hcz38_0 := cz BK127.out 0
                have hcz38_1 := cz BK127.out 1
                have hcz38_2 := cz BK127.out 2
                have hcz38_3 := cz BK127.out 3
                have hfz38_0 := fz BK127.out 0
                have hfz38_1 := fz BK127.out 1
                have hfz38_2 := fz BK127.out 2
                have hfz38_3 := fz BK127.out 3
                have p133 : 0 ≤ (x5_4 : Int) := of_decide_eq_true TA
                have q133 : x5_4 < (l0_3.length : Int) := of_decide_eq_true TA
                obtain ⟨ad133, e133, hx133_0, hx133_1, hx133_2⟩ := at_T69 HR0_3.out x5_4 p133 q133
                cases e133
                replace hx133_0 := hx HB.out hx133_0
                replace hx133_1 := hx HB.out hx133_1
                replace hx133_2 := hx HB.out hx133_2
                replace p133 := eq_true p133
                replace q133 := eq_true q133
                go_wp2_with (first | ((with_reducible refine gate_callee (f := 60) rfl ?_); refine goesL_ (some 69) rfl rfl Tryd.func60 (by kernel_rfl) rfl #[.agg #[.int .i64 ((rd_T69 l0_3 x5_4).f0.f0), .int .i64 ((rd_T69 l0_3 x5_4).f0.f1)], .int .i64 (-60), .int .i64 60] rfl TM ?_; (with_reducible refine (saronref00_Good.calls ((rd_T69 l0_3 x5_4).f0.f0) ((rd_T69 l0_3 x5_4).f0.f1) (-60) 60 true _ A35.out).mono ?_); rintro e w39 ⟨rfl, hb⟩; refine ⟨_, rfl, ?_⟩; replace BK127 := Aside0.mk (TKb hb BK127.out); replace HB := Aside0.mk (below_step (TB1 GE127.out) hb); (try clear hb); (try clear hb2); (try clear hk); (try clear hi); have hcz40_0 := cz BK127.out 0; have hcz40_1 := cz BK127.out 1; have hcz40_2 := cz BK127.out 2; have hcz40_3 := cz BK127.out 3; have hfz40_0 := fz BK127.out 0; have hfz40_1 := fz BK127.out 1; have hfz40_2 := fz BK127.out 2; have hfz40_3 := fz BK127.out 3; have p135 : 0 ≤ (x5_4 : Int) := of_decide_eq_true TA; have q135 : x5_4 < (l0_3.length : Int) := of_decide_eq_true TA; obtain ⟨ad135, e135, hx135_0, hx135_1, hx135_2⟩ := at_T69 HR0_3.out x5_4 p135 q135; obtain rfl : ad133 = ad135 := (by injection e135); replace hx135_0 := hx HB.out hx135_0; replace hx135_1 := hx HB.out hx135_1; replace hx135_2 := hx HB.out hx135_2; replace p135 := eq_true p135; replace q135 := eq_true q135) | (go_at_call 39; (with_reducible refine (saronref00_Sits.calls ((rd_T69 l0_3 x5_4).f1) 0 30 t136 _ A37.out).mono ?_); rintro e w' ⟨rfl, ⟨nd, rfl⟩⟩))
                go_roundg kj28
                case measure => have := HJ1.out; have := HK2.out; have := HJ14.out; have := HK4.out; have := HJ28.out; omega
                case rel => exact ⟨(t136), (wrap64 (x5_4 + 1)), TT, TT, H', ⟨by have := HJ1.out; have := HK2.out; have := HJ14.out; have := HK4.out; have := HJ28.out; omega⟩, ⟨TK BK127.out⟩, ⟨TB1 GE127.out⟩⟩
               ·replace c36 := Bool.eq_false_iff.mpr c36
                subst c36
                have H1 : (saronref03_Check.l1 kj28 false (wrap64 (x5_4 + 1)) l0_0 a0_1 a0_2 l0_3) = some r := by rw [if_neg (show ¬ (false = true) by decide)] at H; exact H
                clear H
                have H := H1
                clear H1
                have H' := Aside0.mk H
                clear H
                have hcz41_0 := cz BK127.out 0
                have hcz41_1 := cz BK127.out 1
                have hcz41_2 := cz BK127.out 2
                have hcz41_3 := cz BK127.out 3
                have hfz41_0 := fz BK127.out 0
                have hfz41_1 := fz BK127.out 1
                have hfz41_2 := fz BK127.out 2
                have hfz41_3 := fz BK127.out 3
                have p133 : 0 ≤ (x5_4 : Int) := of_decide_eq_true TA
                have q133 : x5_4 < (l0_3.length : Int) := of_decide_eq_true TA
                obtain ⟨ad133, e133, hx133_0, hx133_1, hx133_2⟩ := at_T69 HR0_3.out x5_4 p133 q133
                cases e133
                replace hx133_0 := hx HB.out hx133_0
                replace hx133_1 := hx HB.out hx133_1
                replace hx133_2 := hx HB.out hx133_2
                replace p133 := eq_true p133
                replace q133 := eq_true q133
                go_wp2_with (first | ((with_reducible refine gate_callee (f := 60) rfl ?_); refine goesL_ (some 69) rfl rfl Tryd.func60 (by kernel_rfl) rfl #[.agg #[.int .i64 ((rd_T69 l0_3 x5_4).f0.f0), .int .i64 ((rd_T69 l0_3 x5_4).f0.f1)], .int .i64 (-60), .int .i64 60] rfl TM ?_; (with_reducible refine (saronref00_Good.calls ((rd_T69 l0_3 x5_4).f0.f0) ((rd_T69 l0_3 x5_4).f0.f1) (-60) 60 false _ A35.out).mono ?_); rintro e w42 ⟨rfl, hb⟩; refine ⟨_, rfl, ?_⟩; replace BK127 := Aside0.mk (TKb hb BK127.out); replace HB := Aside0.mk (below_step (TB1 GE127.out) hb); (try clear hb); (try clear hb2); (try clear hk); (try clear hi)))
                go_roundg kj28
                case measure => have := HJ1.out; have := HK2.out; have := HJ14.out; have := HK4.out; have := HJ28.out; omega
                case rel => exact ⟨(false), (wrap64 (x5_4 + 1)), TT, TT, H', ⟨by have := HJ1.out; have := HK2.out; have := HJ14.out; have := HK4.out; have := HJ28.out; omega⟩, ⟨TK BK127.out⟩, ⟨TB1 GE127.out⟩⟩
              ·rw [if_neg c34] at H
               exact absurd H (by simp)
             ·rw [if_neg c33] at H
              exact absurd H (by simp)
            ·replace c32 := Bool.eq_false_iff.mpr c32
             subst c32
             have H1 : (if x3_4 = true then (some 0) else (some 30)) = some r := by rw [if_neg (show ¬ (false = true) by decide)] at H; exact H
             clear H
             have H := H1
             clear H1
             by_cases c43 : x3_4 = true
             ·subst c43
              have H1 : (some 0) = some r := by rw [if_pos rfl] at H; exact H
              clear H
              have H := H1
              clear H1
              obtain rfl := Option.some.inj H
              go_wp2
              go_ret
              exact ⟨TR, TB1 GE127.out⟩
             ·replace c43 := Bool.eq_false_iff.mpr c43
              subst c43
              have H1 : (some 30) = some r := by rw [if_neg (show ¬ (false = true) by decide)] at H; exact H
              clear H
              have H := H1
              clear H1
              obtain rfl := Option.some.inj H
              go_wp2
              go_ret
              exact ⟨TR, TB1 GE127.out⟩
end Go.Proofs.YtfmpbkolpjlfbaaDoor.PRaspKeys
namespace Go.Proofs.YtfmpbkolpjlfbaaDoor.PRaspKeys
open Go.RowKit Go.Proofs.YtfmpbkolpjlfbaaDoorW.PrintWords Go.Proofs.YtfmpbkolpjlfbaaDoorW.PrintLast Go.Proofs.YtfmpbkolpjlfbaaDoorW.PrintMore Go.Proofs.YtfmpbkolpjlfbaaDoor.M
attribute [local go_sem] max2_int min2_int max_two min_two max_three min_three max_four min_four   -- for this text's walks alone
/-! ### saronref03_asked: function 54 -/
def saronref03_asked.f (k : Nat) (l0_0 : List (S57)) (a0_1 : Int) (a0_2 : Int) (l0_3 : List (S69)) (a1 : Bool) : Option (Int) := (saronref03_Check.f k l0_0 a0_1 a0_2 l0_3).bind fun t138 => (if t138 = 0 then (if a1 = true then (some 0) else (some 31)) else (some t138))
theorem saronref03_asked.mono : ∀ a0 a1 a2 a3 a4 k, LeO (saronref03_asked.f k a0 a1 a2 a3 a4) (saronref03_asked.f (k + 1) a0 a1 a2 a3 a4) := by
 intro a0 a1 a2 a3 a4 k
 unfold saronref03_asked.f
 repeat' first
   | (with_reducible exact saronref03_Check.mono _ _ _ _ _)
   | (with_reducible exact LeO.refl _)
   | (with_reducible exact LeO.none _)
   | (with_reducible refine LeO.ite ?_ ?_)
   | (with_reducible refine LeO.bind ?_ (fun _ => ?_))
   | exact saronref03_Check.mono _ _ _ _ _
   | exact LeO.none _
   | refine LeO.ite ?_ ?_
   | refine LeO.bind ?_ (fun _ => ?_)
set_option maxHeartbeats 8000000 in
set_option maxRecDepth 100000 in
theorem saronref03_asked.calls (k : Nat) (A0_0 : Option Addr) (c0_0 : Nat) (l0_0 : List (S57)) (a0_1 : Int) (a0_2 : Int) (A0_3 : Option Addr) (c0_3 : Nat) (l0_3 : List (S69)) (a1 : Bool) (r : Int) (w : World) (hr0_0 : Kd.C k57 w A0_0 l0_0.length l0_0) (hc0_0 : l0_0.length ≤ c0_0) (hr0_3 : Kd.C k69 w A0_3 l0_3.length l0_3) (hc0_3 : l0_3.length ≤ c0_3) (h : saronref03_asked.f k l0_0 a0_1 a0_2 l0_3 a1 = some r) :
  Calls Tryd.prog 54 #[.agg #[.slice A0_0 l0_0.length c0_0, .int .i64 a0_1, .int .i64 a0_2, .slice A0_3 l0_3.length c0_3], .bool a1] w fun e w' => e = .returned (.int .i64 r) ∧ Below w.heap.size w w' := by
 have hu27 := Tryd.underlying27
 have HR0_0 := Aside0.mk hr0_0
 have HC0_0 := Aside0.mk hc0_0
 clear hr0_0 hc0_0
 have HR0_3 := Aside0.mk hr0_3
 have HC0_3 := Aside0.mk hc0_3
 clear hr0_3 hc0_3
 have HB := Aside0.mk (Below.refl w.heap.size w)
 have H : ((saronref03_Check.f k l0_0 a0_1 a0_2 l0_3).bind fun t138 => (if t138 = 0 then (if a1 = true then (some 0) else (some 31)) else (some t138))) = some r := h
 clear h
 replace H := Option.bind_eq_some_iff.mp H
 obtain ⟨t138, A30, H⟩ := H
 replace H : (if t138 = 0 then (if a1 = true then (some 0) else (some 31)) else (some t138)) = some r := H
 have A3 := Aside0.mk A30
 clear A30
 by_cases c4 : t138 = 0
 ·rw [if_pos c4] at H
  have c4b0 : (t138 == 0) = true := beq_iff_eq.mpr c4
  have c4b1 : (t138 != 0) = false := bne_eq_false_iff_eq.mpr c4
  clear c4
  by_cases c5 : a1 = true
  ·subst c5
   have H1 : (some 0) = some r := by rw [if_pos rfl] at H; exact H
   clear H
   have H := H1
   clear H1
   obtain rfl := Option.some.inj H
   go_enter Tryd.func54, Tryd.ntmps54
   go_wp2_with (first | ((with_reducible refine gate_dst (N := 2) rfl ?_); refine box_event ?hg (N := 2) ?hd (cs := #[.slice A0_0 l0_0.length c0_0, .int .i64 a0_1, .int .i64 a0_2, .slice A0_3 l0_3.length c0_3]) (t := 27) ?hr ?_; (case hd => rfl); (case hg => rfl); (case hr => exact TS); intro gb137 hg w6 hbox hb; have BK137 := Aside0.mk (hbox); have GW137 := Aside0.mk ((TG : w.heap.size ≤ gb137)); have GE137 := Aside0.mk ((TG : w.heap.size ≤ gb137)); replace HB := Aside0.mk (below_step TB hb); clear hb hbox hg; have hcz7_0 := cz BK137.out 0; have hcz7_1 := cz BK137.out 1; have hcz7_2 := cz BK137.out 2; have hcz7_3 := cz BK137.out 3; have hfz7_0 := fz BK137.out 0; have hfz7_1 := fz BK137.out 1; have hfz7_2 := fz BK137.out 2; have hfz7_3 := fz BK137.out 3) | ((with_reducible refine gate_callee (f := 19) rfl ?_); refine goesL_ (some 7) rfl rfl Tryd.func19 (by kernel_rfl) rfl #[.agg #[.slice A0_0 l0_0.length c0_0, .int .i64 a0_1, .int .i64 a0_2, .slice A0_3 l0_3.length c0_3]] rfl TM ?_; (with_reducible refine (saronref03_Check.calls k _ _ l0_0 a0_1 a0_2 _ _ l0_3 t138 _ ?side1 ?side2 ?side3 ?side4 A3.out).mono ?_); (case side1 => exact TC HR0_0.out); (case side2 => exact HC0_0.out); (case side3 => exact TC HR0_3.out); (case side4 => exact HC0_3.out); rintro e w8 ⟨rfl, hb⟩; refine ⟨_, rfl, ?_⟩; replace BK137 := Aside0.mk (TKb hb BK137.out); replace HB := Aside0.mk (below_step (TB1 GE137.out) hb); (try clear hb); (try clear hb2); (try clear hk); (try clear hi)))
   go_ret
   exact ⟨TR, TB1 GE137.out⟩
  ·replace c5 := Bool.eq_false_iff.mpr c5
   subst c5
   have H1 : (some 31) = some r := by rw [if_neg (show ¬ (false = true) by decide)] at H; exact H
   clear H
   have H := H1
   clear H1
   obtain rfl := Option.some.inj H
   go_enter Tryd.func54, Tryd.ntmps54
   go_wp2_with (first | ((with_reducible refine gate_dst (N := 2) rfl ?_); refine box_event ?hg (N := 2) ?hd (cs := #[.slice A0_0 l0_0.length c0_0, .int .i64 a0_1, .int .i64 a0_2, .slice A0_3 l0_3.length c0_3]) (t := 27) ?hr ?_; (case hd => rfl); (case hg => rfl); (case hr => exact TS); intro gb137 hg w9 hbox hb; have BK137 := Aside0.mk (hbox); have GW137 := Aside0.mk ((TG : w.heap.size ≤ gb137)); have GE137 := Aside0.mk ((TG : w.heap.size ≤ gb137)); replace HB := Aside0.mk (below_step TB hb); clear hb hbox hg; have hcz10_0 := cz BK137.out 0; have hcz10_1 := cz BK137.out 1; have hcz10_2 := cz BK137.out 2; have hcz10_3 := cz BK137.out 3; have hfz10_0 := fz BK137.out 0; have hfz10_1 := fz BK137.out 1; have hfz10_2 := fz BK137.out 2; have hfz10_3 := fz BK137.out 3) | ((with_reducible refine gate_callee (f := 19) rfl ?_); refine goesL_ (some 7) rfl rfl Tryd.func19 (by kernel_rfl) rfl #[.agg #[.slice A0_0 l0_0.length c0_0, .int .i64 a0_1, .int .i64 a0_2, .slice A0_3 l0_3.length c0_3]] rfl TM ?_; (with_reducible refine (saronref03_Check.calls k _ _ l0_0 a0_1 a0_2 _ _ l0_3 t138 _ ?side1 ?side2 ?side3 ?side4 A3.out).mono ?_); (case side1 => exact TC HR0_0.out); (case side2 => exact HC0_0.out); (case side3 => exact TC HR0_3.out); (case side4 => exact HC0_3.out); rintro e w11 ⟨rfl, hb⟩; refine ⟨_, rfl, ?_⟩; replace BK137 := Aside0.mk (TKb hb BK137.out); replace HB := Aside0.mk (below_step (TB1 GE137.out) hb); (try clear hb); (try clear hb2); (try clear hk); (try clear hi)))
   go_ret
   exact ⟨TR, TB1 GE137.out⟩
 ·rw [if_neg c4] at H
  have c4b0 : (t138 == 0) = false := beq_eq_false_iff_ne.mpr c4
  have c4b1 : (t138 != 0) = true := bne_iff_ne.mpr c4
  obtain rfl := Option.some.inj H
  go_enter Tryd.func54, Tryd.ntmps54
  go_wp2_with (first | ((with_reducible refine gate_dst (N := 2) rfl ?_); refine box_event ?hg (N := 2) ?hd (cs := #[.slice A0_0 l0_0.length c0_0, .int .i64 a0_1, .int .i64 a0_2, .slice A0_3 l0_3.length c0_3]) (t := 27) ?hr ?_; (case hd => rfl); (case hg => rfl); (case hr => exact TS); intro gb137 hg w12 hbox hb; have BK137 := Aside0.mk (hbox); have GW137 := Aside0.mk ((TG : w.heap.size ≤ gb137)); have GE137 := Aside0.mk ((TG : w.heap.size ≤ gb137)); replace HB := Aside0.mk (below_step TB hb); clear hb hbox hg; have hcz13_0 := cz BK137.out 0; have hcz13_1 := cz BK137.out 1; have hcz13_2 := cz BK137.out 2; have hcz13_3 := cz BK137.out 3; have hfz13_0 := fz BK137.out 0; have hfz13_1 := fz BK137.out 1; have hfz13_2 := fz BK137.out 2; have hfz13_3 := fz BK137.out 3) | ((with_reducible refine gate_callee (f := 19) rfl ?_); refine goesL_ (some 7) rfl rfl Tryd.func19 (by kernel_rfl) rfl #[.agg #[.slice A0_0 l0_0.length c0_0, .int .i64 a0_1, .int .i64 a0_2, .slice A0_3 l0_3.length c0_3]] rfl TM ?_; (with_reducible refine (saronref03_Check.calls k _ _ l0_0 a0_1 a0_2 _ _ l0_3 t138 _ ?side1 ?side2 ?side3 ?side4 A3.out).mono ?_); (case side1 => exact TC HR0_0.out); (case side2 => exact HC0_0.out); (case side3 => exact TC HR0_3.out); (case side4 => exact HC0_3.out); rintro e w14 ⟨rfl, hb⟩; refine ⟨_, rfl, ?_⟩; replace BK137 := Aside0.mk (TKb hb BK137.out); replace HB := Aside0.mk (below_step (TB1 GE137.out) hb); (try clear hb); (try clear hb2); (try clear hk); (try clear hi)))
  go_ret
  exact ⟨TR, TB1 GE137.out⟩
/-! ### saronref03_isState: function 55 -/
def saronref03_isState.f (a0 : Int) (a1 : Int) : Option (Bool) := (saronref00_Sits.f a0 (-60) 60).bind fun t139 => (if t139 = true then ((saronref00_Sits.f a1 0 30).bind fun t140 => (some t140)) else (some false))
set_option maxHeartbeats 8000000 in
set_option maxRecDepth 100000 in
theorem saronref03_isState.calls (a0 : Int) (a1 : Int) (r : Bool) (w : World) (h : saronref03_isState.f a0 a1 = some r) :
  Calls Tryd.prog 55 #[.int .i64 a0, .int .i64 a1] w fun e w' => e = .returned (.bool r) ∧ Drawn0 w w' := by
 have H : ((saronref00_Sits.f a0 (-60) 60).bind fun t139 => (if t139 = true then ((saronref00_Sits.f a1 0 30).bind fun t140 => (some t140)) else (some false))) = some r := h
 clear h
 replace H := Option.bind_eq_some_iff.mp H
 obtain ⟨t139, A30, H⟩ := H
 replace H : (if t139 = true then ((saronref00_Sits.f a1 0 30).bind fun t140 => (some t140)) else (some false)) = some r := H
 have A3 := Aside0.mk A30
 clear A30
 by_cases c4 : t139 = true
 ·subst c4
  have H1 : ((saronref00_Sits.f a1 0 30).bind fun t140 => (some t140)) = some r := by rw [if_pos rfl] at H; exact H
  clear H
  have H := H1
  clear H1
  replace H := Option.bind_eq_some_iff.mp H
  obtain ⟨t140, A50, H⟩ := H
  replace H : (some t140) = some r := H
  have A5 := Aside0.mk A50
  clear A50
  obtain rfl := Option.some.inj H
  go_enter Tryd.func55, Tryd.ntmps55
  go_wp2_with (first | ((with_reducible refine gate_callee (f := 39) rfl ?_); refine goesL_ (some 6) rfl rfl Tryd.func39 (by kernel_rfl) rfl #[.int .i64 a0, .int .i64 (-60), .int .i64 60] rfl TM ?_; (with_reducible refine (saronref00_Sits.calls a0 (-60) 60 true _ A3.out).mono ?_); rintro e w' ⟨rfl, ⟨nd, rfl⟩⟩; refine ⟨_, rfl, ?_⟩) | (go_at_call 39; (with_reducible refine (saronref00_Sits.calls a1 0 30 t140 _ A5.out).mono ?_); rintro e w' ⟨rfl, ⟨nd, rfl⟩⟩))
  go_ret
  exact ⟨by first | rfl | (simp; done) | (simp [*]; done), by repeat (first | exact Drawn0.refl _ | apply Drawn0.step)⟩
 ·replace c4 := Bool.eq_false_iff.mpr c4
  subst c4
  have H1 : (some false) = some r := by rw [if_neg (show ¬ (false = true) by decide)] at H; exact H
  clear H
  have H := H1
  clear H1
  obtain rfl := Option.some.inj H
  go_enter Tryd.func55, Tryd.ntmps55
  go_wp2_with (first | ((with_reducible refine gate_callee (f := 39) rfl ?_); refine goesL_ (some 6) rfl rfl Tryd.func39 (by kernel_rfl) rfl #[.int .i64 a0, .int .i64 (-60), .int .i64 60] rfl TM ?_; (with_reducible refine (saronref00_Sits.calls a0 (-60) 60 false _ A3.out).mono ?_); rintro e w' ⟨rfl, ⟨nd, rfl⟩⟩; refine ⟨_, rfl, ?_⟩))
  go_ret
  exact ⟨by first | rfl | (simp; done) | (simp [*]; done), by repeat (first | exact Drawn0.refl _ | apply Drawn0.step)⟩
/-- THE ONE PURE STATEMENT of saronref03_isState: yours. -/
def saronref03_isState.Pure : Prop := ∀ (a0 : Int) (a1 : Int), (Lit.int .i64 a0).wf = true → (Lit.int .i64 a1).wf = true → saronref03_isState.f a0 a1 = some true
theorem saronref03_isState.walk (P : saronref03_isState.Pure) (a0 : Int) (a1 : Int) (w : World) (w0 : (Lit.int .i64 a0).wf = true) (w1 : (Lit.int .i64 a1).wf = true) :
  Calls Tryd.prog 55 #[.int .i64 a0, .int .i64 a1] w fun e w' => e = .returned (.bool true) ∧ Below w.heap.size w w' := by
 have h := P a0 a1 w0 w1
 refine (saronref03_isState.calls a0 a1 true w h).mono ?_
 rintro e w' ⟨rfl, hd⟩
 exact ⟨rfl, hd.below⟩
end Go.Proofs.YtfmpbkolpjlfbaaDoor.PRaspKeys
