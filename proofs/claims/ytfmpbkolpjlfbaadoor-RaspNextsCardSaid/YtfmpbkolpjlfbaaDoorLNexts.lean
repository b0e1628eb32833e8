import Derived.Test.YtfmpbkolpjlfbaaDoorG5
import Derived.Test.YtfmpbkolpjlfbaaDoorCS
import Derived.Test.YtfmpbkolpjlfbaaDoorC0
import Derived.Test.YtfmpbkolpjlfbaaDoorCN
import Derived.Test.YtfmpbkolpjlfbaaDoorM0
import Derived.Test.YtfmpbkolpjlfbaaDoorProg
import Derived.Below
import Derived.Deep.Draws
import Derived.Deep.AppendLies
import Derived.Maps.AppendAt
import Derived.OwnWalk
import Derived.Laws.BytesArg
import Derived.Laws.MakeOwn
import Derived.Laws.OwnMore
import Derived.Deep.OwnRows
import Derived.Tactics
import Derived.Lib.ConvBytes
import Derived.Laws.Slices
import Derived.WalkKit
import Derived.KernelRfl
import Derived.RowKit3
import Derived.Deep.LoopGhost
import Derived.Deep.QuietTactic
import Derived.BigQuiet
import Derived.WideLaws
import Derived.Deep.DeepCutAuto
import Derived.Deep.CutBlock
import Derived.Deep.RegionHeld3
import Derived.Laws.Rows
import Derived.Lib.AppendStr
import Derived.ArgAppend
import Derived.Laws.IdiomCopy
import Derived.OrdersHeld
import Derived.Laws.BitsLemmas
import Derived.RowKit
set_option linter.unusedVariables false
set_option linter.unusedSimpArgs false
namespace Go.Proofs.YtfmpbkolpjlfbaaDoor.PRaspKeys
open Go.RowKit Go.Proofs.YtfmpbkolpjlfbaaDoorW.PrintWords Go.Proofs.YtfmpbkolpjlfbaaDoorW.PrintLast Go.Proofs.YtfmpbkolpjlfbaaDoorW.PrintMore Go.Proofs.YtfmpbkolpjlfbaaDoor.M
attribute [local go_sem] max2_int min2_int max_two min_two max_three min_three max_four min_four   -- for this text's walks alone
/-! #### struct type 24 -/
/-! #### struct type 57 -/
/-! #### struct type 69 -/
/-! #### struct type 93 -/
theorem k93_openF {W : World} {ok : Nat → Prop} {x : S93} {cs : List Value} (h : Kd.FK k93 W ok x cs) : ∃ A0 c0, cs = [.slice A0 x.f0.length c0] ∧ x.f0.length ≤ c0 ∧ Kd.F (Kd.int .i64) W ok A0 x.f0.length x.f0 := by
 obtain ⟨A0, c0, rfl, l0, _⟩ := k93_open (Kd.FK_now h)
 exact ⟨A0, c0, rfl, l0, (fun W' hW => by obtain ⟨A0_, c0_, he, l0_, g0_⟩ := k93_open (h W' hW); injection (Option.some.inj (show some (Value.slice A0 x.f0.length c0) = some (Value.slice A0_ x.f0.length c0_) from congrArg (fun l => l[0]?) he)) with ha_ _ _; rw [ha_]; exact g0_)⟩
theorem k93_mkF (W : World) (ok : Nat → Prop) (x : S93) {A0 : Option Addr} {c0 : Nat} (l0 : x.f0.length ≤ c0) (g0 : Kd.F (Kd.int .i64) W ok A0 x.f0.length x.f0) : Kd.FK k93 W ok x [.slice A0 x.f0.length c0] := fun W2 hW => k93_mk W2 x l0 (g0 W2 hW)
end Go.Proofs.YtfmpbkolpjlfbaaDoor.PRaspKeys
namespace Go.Proofs.YtfmpbkolpjlfbaaDoor.PRaspKeys
open Go.RowKit Go.Proofs.YtfmpbkolpjlfbaaDoorW.PrintWords Go.Proofs.YtfmpbkolpjlfbaaDoorW.PrintLast Go.Proofs.YtfmpbkolpjlfbaaDoorW.PrintMore Go.Proofs.YtfmpbkolpjlfbaaDoor.M
attribute [local go_sem] max2_int min2_int max_two min_two max_three min_three max_four min_four   -- for this text's walks alone
end Go.Proofs.YtfmpbkolpjlfbaaDoor.PRaspKeys
namespace Go.Proofs.YtfmpbkolpjlfbaaDoor.PRaspKeys
open Go.RowKit Go.Proofs.YtfmpbkolpjlfbaaDoorW.PrintWords Go.Proofs.YtfmpbkolpjlfbaaDoorW.PrintLast Go.Proofs.YtfmpbkolpjlfbaaDoorW.PrintMore Go.Proofs.YtfmpbkolpjlfbaaDoor.M
attribute [local go_sem] max2_int min2_int max_two min_two max_three min_three max_four min_four   -- for this text's walks alone
/-! ### saronlaw03_RaspNexts: function 3 -/
def saronlaw03_RaspNexts.j0 : Nat → Bool → List (S57) → Int → Int → List (S69) → Int → Int → Option (Bool)
 | 0, _, _, _, _, _, _, _ => none
 | k + 1, x50, x223000, x223001, x223002, x223003, x224000, x224001 => if x50 = true then (some false) else ((rasp_Lucky.f x223000 x223001 x223002 x223003 x224000 x224001).bind fun bt232 => ((saronref03_Lucky.f k x223000 x223001 x223002 x223003 x224000 x224001).bind fun bt234 => (if bt232.1 = bt234.1 then (if bt232.2 = bt234.2 then ((saronlaw03_filed.f).bind fun t236 => (some t236)) else (some false)) else (some false))))
def saronlaw03_RaspNexts.f (k : Nat) (l0_0 : List (S57)) (a0_1 : Int) (a0_2 : Int) (l0_3 : List (S69)) (a1_0 : Int) (a1_1 : Int) : Option (Bool) := (rasp_Next.f l0_0 a0_1 a0_2 l0_3 a1_0 a1_1).bind fun bt224 => ((saronref03_Next.f k l0_0 a0_1 a0_2 l0_3 a1_0 a1_1).bind fun bt227 => (if bt224.1 = bt227.1 then (if bt224.2.1 = bt227.2.1 then (if bt224.2.2 = bt227.2.2 then ((rasp_Check.f k l0_0 a0_1 a0_2 l0_3).bind fun t230 => ((saronref03_Check.f k l0_0 a0_1 a0_2 l0_3).bind fun t231 => (saronlaw03_RaspNexts.j0 k (t230 != t231) l0_0 a0_1 a0_2 l0_3 a1_0 a1_1))) else (saronlaw03_RaspNexts.j0 k true l0_0 a0_1 a0_2 l0_3 a1_0 a1_1)) else (saronlaw03_RaspNexts.j0 k true l0_0 a0_1 a0_2 l0_3 a1_0 a1_1)) else (saronlaw03_RaspNexts.j0 k true l0_0 a0_1 a0_2 l0_3 a1_0 a1_1)))
theorem saronlaw03_RaspNexts.mono_l : ∀ k, (∀ y0 y1 y2 y3 y4 y5 y6, LeO (saronlaw03_RaspNexts.j0 k y0 y1 y2 y3 y4 y5 y6) (saronlaw03_RaspNexts.j0 (k + 1) y0 y1 y2 y3 y4 y5 y6))
 | 0 => fun _ _ _ _ _ _ _ r h => by simp [saronlaw03_RaspNexts.j0] at h
 | k + 1 => by
  have ih0 := saronlaw03_RaspNexts.mono_l k
  ·intro y0 y1 y2 y3 y4 y5 y6
   unfold saronlaw03_RaspNexts.j0
   repeat' first
   | (with_reducible exact ih0 _ _ _ _ _ _ _)
   | (with_reducible exact rasp_Check.mono _ _ _ _ _)
   | (with_reducible exact saronref03_Check.mono _ _ _ _ _)
   | (with_reducible exact saronref03_Lucky.mono _ _ _ _ _ _ _)
   | (with_reducible exact saronref03_Next.mono _ _ _ _ _ _ _)
   | (with_reducible exact LeO.refl _)
   | (with_reducible exact LeO.none _)
   | (with_reducible refine LeO.ite ?_ ?_)
   | (with_reducible refine LeO.bind ?_ (fun _ => ?_))
   | exact ih0 _ _ _ _ _ _ _
   | exact rasp_Check.mono _ _ _ _ _
   | exact saronref03_Check.mono _ _ _ _ _
   | exact saronref03_Lucky.mono _ _ _ _ _ _ _
   | exact saronref03_Next.mono _ _ _ _ _ _ _
   | exact LeO.none _
   | refine LeO.ite ?_ ?_
   | refine LeO.bind ?_ (fun _ => ?_)
theorem saronlaw03_RaspNexts.mono : ∀ a0 a1 a2 a3 a4 a5 k, LeO (saronlaw03_RaspNexts.f k a0 a1 a2 a3 a4 a5) (saronlaw03_RaspNexts.f (k + 1) a0 a1 a2 a3 a4 a5) := by
 intro a0 a1 a2 a3 a4 a5 k
 have ih0 := saronlaw03_RaspNexts.mono_l k
 unfold saronlaw03_RaspNexts.f
 repeat' first
   | (with_reducible exact ih0 _ _ _ _ _ _ _)
   | (with_reducible exact rasp_Check.mono _ _ _ _ _)
   | (with_reducible exact saronref03_Check.mono _ _ _ _ _)
   | (with_reducible exact saronref03_Lucky.mono _ _ _ _ _ _ _)
   | (with_reducible exact saronref03_Next.mono _ _ _ _ _ _ _)
   | (with_reducible exact LeO.refl _)
   | (with_reducible exact LeO.none _)
   | (with_reducible refine LeO.ite ?_ ?_)
   | (with_reducible refine LeO.bind ?_ (fun _ => ?_))
   | exact ih0 _ _ _ _ _ _ _
   | exact rasp_Check.mono _ _ _ _ _
   | exact saronref03_Check.mono _ _ _ _ _
   | exact saronref03_Lucky.mono _ _ _ _ _ _ _
   | exact saronref03_Next.mono _ _ _ _ _ _ _
   | exact LeO.none _
   | refine LeO.ite ?_ ?_
   | refine LeO.bind ?_ (fun _ => ?_)
def saronlaw03_RaspNexts.T3 : Bool × List (List Nat × List Nat) := (true, [([], []), ([], []), ([0, 1], [0, 1]), ([2], [2]), ([3], [3]), ([3], [3]), ([4, 5, 3], [3, 4, 5]), ([3, 6], [3, 6]), ([7, 3], [7]), ([8], [8]), ([8], [8]), ([9, 10, 8], [8, 9, 10]), ([8, 11], [8, 11]), ([12, 8], [12]), ([13], [13]), ([14, 13, 13], [13, 14]), ([13], [13]), ([16, 15, 13], [13, 16]), ([15, 17, 13], [13, 15, 17]), ([13, 18], [13, 18])])
def saronlaw03_RaspNexts.B3 : List Nat := [0, 0, 3, 7, 15, 15, 63, 127, 255, 511, 511, 2047, 4095, 8191, 16383, 32767, 16383, 131071, 262143, 524287]
theorem saronlaw03_RaspNexts.tab3 : rtab .any (opsOf Tryd.f3 3) = saronlaw03_RaspNexts.T3 := by kernel_rfl
theorem saronlaw03_RaspNexts.bits3 : waitsOk saronlaw03_RaspNexts.T3.2 saronlaw03_RaspNexts.B3 = true := by kernel_rfl
set_option maxHeartbeats 8000000 in
set_option maxRecDepth 100000 in
theorem saronlaw03_RaspNexts.calls (k : Nat) (A0_0 : Option Addr) (c0_0 : Nat) (l0_0 : List (S57)) (a0_1 : Int) (a0_2 : Int) (A0_3 : Option Addr) (c0_3 : Nat) (l0_3 : List (S69)) (a1_0 : Int) (a1_1 : Int) (r : Bool) (w : World) (hr0_0 : Kd.C k57 w A0_0 l0_0.length l0_0) (hc0_0 : l0_0.length ≤ c0_0) (hr0_3 : Kd.C k69 w A0_3 l0_3.length l0_3) (hc0_3 : l0_3.length ≤ c0_3) (hG : Glob w) (h : saronlaw03_RaspNexts.f k l0_0 a0_1 a0_2 l0_3 a1_0 a1_1 = some r) :
  Calls Tryd.prog 3 #[.agg #[.slice A0_0 l0_0.length c0_0, .int .i64 a0_1, .int .i64 a0_2, .slice A0_3 l0_3.length c0_3], .agg #[.int .i64 a1_0, .int .i64 a1_1]] w fun e w' => e = .returned (.bool r) ∧ Below w.heap.size w w' := by
 have hu27 := Tryd.underlying27
 have hu28 := Tryd.underlying28
 have HR0_0 := Aside0.mk hr0_0
 have HC0_0 := Aside0.mk hc0_0
 clear hr0_0 hc0_0
 have HR0_3 := Aside0.mk hr0_3
 have HC0_3 := Aside0.mk hc0_3
 clear hr0_3 hc0_3
 have HB := Aside0.mk (Below.refl w.heap.size w)
 have HG := Aside0.mk hG
 clear hG
 have H : ((rasp_Next.f l0_0 a0_1 a0_2 l0_3 a1_0 a1_1).bind fun bt224 => ((saronref03_Next.f k l0_0 a0_1 a0_2 l0_3 a1_0 a1_1).bind fun bt227 => (if bt224.1 = bt227.1 then (if bt224.2.1 = bt227.2.1 then (if bt224.2.2 = bt227.2.2 then ((rasp_Check.f k l0_0 a0_1 a0_2 l0_3).bind fun t230 => ((saronref03_Check.f k l0_0 a0_1 a0_2 l0_3).bind fun t231 => (saronlaw03_RaspNexts.j0 k (t230 != t231) l0_0 a0_1 a0_2 l0_3 a1_0 a1_1))) else (saronlaw03_RaspNexts.j0 k true l0_0 a0_1 a0_2 l0_3 a1_0 a1_1)) else (saronlaw03_RaspNexts.j0 k true l0_0 a0_1 a0_2 l0_3 a1_0 a1_1)) else (saronlaw03_RaspNexts.j0 k true l0_0 a0_1 a0_2 l0_3 a1_0 a1_1)))) = some r := h
 clear h
 replace H := Option.bind_eq_some_iff.mp H
 obtain ⟨⟨t224, t225, t226⟩, A30, H⟩ := H
 replace H : ((saronref03_Next.f k l0_0 a0_1 a0_2 l0_3 a1_0 a1_1).bind fun bt227 => (if t224 = bt227.1 then (if t225 = bt227.2.1 then (if t226 = bt227.2.2 then ((rasp_Check.f k l0_0 a0_1 a0_2 l0_3).bind fun t230 => ((saronref03_Check.f k l0_0 a0_1 a0_2 l0_3).bind fun t231 => (saronlaw03_RaspNexts.j0 k (t230 != t231) l0_0 a0_1 a0_2 l0_3 a1_0 a1_1))) else (saronlaw03_RaspNexts.j0 k true l0_0 a0_1 a0_2 l0_3 a1_0 a1_1)) else (saronlaw03_RaspNexts.j0 k true l0_0 a0_1 a0_2 l0_3 a1_0 a1_1)) else (saronlaw03_RaspNexts.j0 k true l0_0 a0_1 a0_2 l0_3 a1_0 a1_1))) = some r := H
 have A3 := Aside0.mk A30
 clear A30
 replace H := Option.bind_eq_some_iff.mp H
 obtain ⟨⟨t227, t228, t229⟩, A40, H⟩ := H
 replace H : (if t224 = t227 then (if t225 = t228 then (if t226 = t229 then ((rasp_Check.f k l0_0 a0_1 a0_2 l0_3).bind fun t230 => ((saronref03_Check.f k l0_0 a0_1 a0_2 l0_3).bind fun t231 => (saronlaw03_RaspNexts.j0 k (t230 != t231) l0_0 a0_1 a0_2 l0_3 a1_0 a1_1))) else (saronlaw03_RaspNexts.j0 k true l0_0 a0_1 a0_2 l0_3 a1_0 a1_1)) else (saronlaw03_RaspNexts.j0 k true l0_0 a0_1 a0_2 l0_3 a1_0 a1_1)) else (saronlaw03_RaspNexts.j0 k true l0_0 a0_1 a0_2 l0_3 a1_0 a1_1)) = some r := H
 have A4 := Aside0.mk A40
 clear A40
 have HC5 := Aside0.mk H
 clear H
 go_enter Tryd.func3, Tryd.ntmps3
 go_upto_region 3 with (first | ((with_reducible refine gate_dst (N := 2) rfl ?_); refine box_event ?hg (N := 2) ?hd (cs := #[.slice A0_0 l0_0.length c0_0, .int .i64 a0_1, .int .i64 a0_2, .slice A0_3 l0_3.length c0_3]) (t := 27) ?hr ?_; (case hd => rfl); (case hg => rfl); (case hr => exact TS); intro gb222 hg w6 hbox hb; have BK222 := Aside0.mk (hbox); have GW222 := Aside0.mk ((TG : w.heap.size ≤ gb222)); have GE222 := Aside0.mk ((TG : w.heap.size ≤ gb222)); replace HB := Aside0.mk (below_step TB hb); clear hb hbox hg) | ((with_reducible refine gate_dst (N := 3) rfl ?_); refine box_event ?hg (N := 3) ?hd (cs := #[.int .i64 a1_0, .int .i64 a1_1]) (t := 28) ?hr ?_; (case hd => rfl); (case hg => rfl); (case hr => exact TS); intro gb223 hg w7 hbox hb; have BK223 := Aside0.mk (hbox); have GW223 := Aside0.mk ((TG1 GE222.out : w.heap.size ≤ gb223)); have GE223 := Aside0.mk ((TG1 GE222.out : w.heap.size ≤ gb223)); have NB222_223 := Aside0.mk ((by rw [hg]; exact Nat.ne_of_lt (blk_lt (g := gb222) (o := .cells #[.slice A0_0 l0_0.length c0_0, .int .i64 a0_1, .int .i64 a0_2, .slice A0_3 l0_3.length c0_3] 27 (0, 0)) (TK BK222.out)) : gb222 ≠ gb223)); have NB223_222 := Aside0.mk ((by rw [hg]; exact Nat.ne_of_gt (blk_lt (g := gb222) (o := .cells #[.slice A0_0 l0_0.length c0_0, .int .i64 a0_1, .int .i64 a0_2, .slice A0_3 l0_3.length c0_3] 27 (0, 0)) (TK BK222.out)) : gb223 ≠ gb222)); replace BK222 := Aside0.mk (TKb hb BK222.out); replace HB := Aside0.mk (below_step (TB1 GE222.out) hb); clear hb hbox hg; have hnb8 := NB222_223.out; have hnc8 := NB223_222.out; have hcz9_0 := cz BK222.out 0; have hcz9_1 := cz BK222.out 1; have hcz9_2 := cz BK222.out 2; have hcz9_3 := cz BK222.out 3; have hfz9_0 := fz BK222.out 0; have hfz9_1 := fz BK222.out 1; have hfz9_2 := fz BK222.out 2; have hfz9_3 := fz BK222.out 3; have hcz10_0 := cz BK223.out 0; have hcz10_1 := cz BK223.out 1; have hfz10_0 := fz BK223.out 0; have hfz10_1 := fz BK223.out 1) | ((with_reducible refine gate_callee (f := 16) rfl ?_); refine goesL_ (some 17) rfl rfl Tryd.func16 (by kernel_rfl) rfl #[.agg #[.slice A0_0 l0_0.length c0_0, .int .i64 a0_1, .int .i64 a0_2, .slice A0_3 l0_3.length c0_3], .int .i64 a1_0, .int .i64 a1_1] rfl TM ?_; (with_reducible refine (rasp_Next.calls _ _ l0_0 a0_1 a0_2 _ _ l0_3 a1_0 a1_1 t224 t225 t226 _ ?side1 ?side2 ?side3 ?side4 ?side5 A3.out).mono ?_); (case side1 => exact TC HR0_0.out); (case side2 => exact HC0_0.out); (case side3 => exact TC HR0_3.out); (case side4 => exact HC0_3.out); (case side5 => exact Glob.fr HG.out (Fr.of_below (TB2 GE222.out GE223.out))); rintro e w11 ⟨rfl, hb⟩; refine ⟨_, rfl, ?_⟩; replace BK222 := Aside0.mk (TKb hb BK222.out); replace BK223 := Aside0.mk (TKb hb BK223.out); replace HB := Aside0.mk (below_step (TB2 GE222.out GE223.out) hb); (try clear hb); (try clear hb2); (try clear hk); (try clear hi); have hcz12_0 := cz BK222.out 0; have hcz12_1 := cz BK222.out 1; have hcz12_2 := cz BK222.out 2; have hcz12_3 := cz BK222.out 3; have hfz12_0 := fz BK222.out 0; have hfz12_1 := fz BK222.out 1; have hfz12_2 := fz BK222.out 2; have hfz12_3 := fz BK222.out 3; have hcz13_0 := cz BK223.out 0; have hcz13_1 := cz BK223.out 1; have hfz13_0 := fz BK223.out 0; have hfz13_1 := fz BK223.out 1) | ((with_reducible refine gate_callee (f := 17) rfl ?_); refine goesL_ (some 27) rfl rfl Tryd.func17 (by kernel_rfl) rfl #[.agg #[.slice A0_0 l0_0.length c0_0, .int .i64 a0_1, .int .i64 a0_2, .slice A0_3 l0_3.length c0_3], .int .i64 a1_0, .int .i64 a1_1] rfl TM ?_; (with_reducible refine (saronref03_Next.calls k _ _ l0_0 a0_1 a0_2 _ _ l0_3 a1_0 a1_1 t227 t228 t229 _ ?side1 ?side2 ?side3 ?side4 A4.out).mono ?_); (case side1 => exact TC HR0_0.out); (case side2 => exact HC0_0.out); (case side3 => exact TC HR0_3.out); (case side4 => exact HC0_3.out); rintro e w14 ⟨rfl, hb⟩; refine ⟨_, rfl, ?_⟩; replace BK222 := Aside0.mk (TKb hb BK222.out); replace BK223 := Aside0.mk (TKb hb BK223.out); replace HB := Aside0.mk (below_step (TB2 GE222.out GE223.out) hb); (try clear hb); (try clear hb2); (try clear hk); (try clear hi)))
 (try simp only [Act.put, lA, lZ, lS])
 go_cut [50] (fun v50 wc => ∃ (kq : Nat) (x50_4 : Bool), v50 = .bool x50_4 ∧ Aside0 (saronlaw03_RaspNexts.j0 kq x50_4 l0_0 a0_1 a0_2 l0_3 a1_0 a1_1 = some r) ∧ Aside0 (kq ≤ k) ∧ Aside0 (wc.heap[gb222]? = some (.cells #[(.slice A0_0 l0_0.length c0_0), .int .i64 a0_1, .int .i64 a0_2, (.slice A0_3 l0_3.length c0_3)] 27 (0, 0))) ∧ Aside0 (wc.heap[gb223]? = some (.cells #[.int .i64 a1_0, .int .i64 a1_1] 28 (0, 0))) ∧ Aside0 (Below w.heap.size w wc))
 case first =>
  have H := HC5.out
  clear HC5
  by_cases c15 : t224 = t227
  ·rw [if_pos c15] at H
   have c15b0 : (t224 == t227) = true := beq_iff_eq.mpr c15
   have c15b1 : (t224 != t227) = false := bne_eq_false_iff_eq.mpr c15
   clear c15
   (first | rw [c15b0] | (simp only [i64_w, i32_w]; rw [c15b0]) | skip)
   by_cases c16 : t225 = t228
   ·rw [if_pos c16] at H
    have c16b0 : (t225 == t228) = true := beq_iff_eq.mpr c16
    have c16b1 : (t225 != t228) = false := bne_eq_false_iff_eq.mpr c16
    clear c16
    by_cases c17 : t226 = t229
    ·rw [if_pos c17] at H
     have c17b0 : (t226 == t229) = true := beq_iff_eq.mpr c17
     have c17b1 : (t226 != t229) = false := bne_eq_false_iff_eq.mpr c17
     clear c17
     replace H := Option.bind_eq_some_iff.mp H
     obtain ⟨t230, A180, H⟩ := H
     replace H : ((saronref03_Check.f k l0_0 a0_1 a0_2 l0_3).bind fun t231 => (saronlaw03_RaspNexts.j0 k (t230 != t231) l0_0 a0_1 a0_2 l0_3 a1_0 a1_1)) = some r := H
     have A18 := Aside0.mk A180
     clear A180
     replace H := Option.bind_eq_some_iff.mp H
     obtain ⟨t231, A190, H⟩ := H
     replace H : (saronlaw03_RaspNexts.j0 k (t230 != t231) l0_0 a0_1 a0_2 l0_3 a1_0 a1_1) = some r := H
     have A19 := Aside0.mk A190
     clear A190
     have H' := Aside0.mk H
     clear H
     try go_wp2
     have n0_ := Aside0.mk (blk_drew BK222.out)
     have n1_ := Aside0.mk (blk_drew BK223.out)
     have n2_ := Aside0.mk (below_drew1 HB.out)
     clear BK222
     clear BK223
     clear HB
     have BK222 := n0_
     have BK223 := n1_
     have HB := n2_
     clear n0_ n1_ n2_
     refine start_ (n := 20) (S := fun w' => w'.cell? ⟨gb222, 0, none⟩ = some (.slice A0_0 l0_0.length c0_0) ∧ w'.cell? ⟨gb222, 1, none⟩ = some (.int .i64 a0_1) ∧ w'.cell? ⟨gb222, 2, none⟩ = some (.int .i64 a0_2) ∧ w'.cell? ⟨gb222, 3, none⟩ = some (.slice A0_3 l0_3.length c0_3)) (ds := []) (.replicate 20 false) (by kernel_rfl) rfl rfl ⟨cz BK222.out 0, cz BK222.out 1, cz BK222.out 2, cz BK222.out 3⟩ (fun hHeld => ?_); refine with_tabW saronlaw03_RaspNexts.tab3 saronlaw03_RaspNexts.bits3 (fun HT_ HW_ => ?_)
     generalize w14.drew = w20 at BK222 BK223 HB hHeld ⊢
     refine pT 0 31 (bt 20 1) (k := ?_)
     refine pT 1 32 (bt 20 3) (k := ?_)
     refine pT 2 33 (bt 20 7) (k := ?_)
     refine pT 3 34 (bt 20 15) (k := ?_)
     refine pT 4 35 (bt 20 31) (k := ?_)
     refine pT 5 36 (bt 20 63) (k := ?_)
     refine pT 6 37 (bt 20 127) (k := ?_)
     refine pT 7 38 (bt 20 255) (k := ?_)
     refine pT 8 39 (bt 20 511) (k := ?_)
     refine pT 9 40 (bt 20 1023) (k := ?_)
     refine pT 10 41 (bt 20 2047) (k := ?_)
     refine pT 11 42 (bt 20 4095) (k := ?_)
     refine pT 12 43 (bt 20 8191) (k := ?_)
     refine pT 13 44 (bt 20 16383) (k := ?_)
     refine tT4 14 45 (bt 20 32767) hHeld (k := ?_)
     refine tT4 16 47 (bt 20 98303) hHeld (k := ?_)
     refine one_ (i := 15) (N := some 46) (bt 20 131071) rfl rfl (one_of HT_.out (by kernel_rfl)) (by decide) (fun K hK => ?_)
     refine goes_ Tryd.func18 (by kernel_rfl) rfl #[.agg #[.slice A0_0 l0_0.length c0_0, .int .i64 a0_1, .int .i64 a0_2, .slice A0_3 l0_3.length c0_3]] (by rfl) rfl rfl TM ?_
     with_reducible refine (rasp_Check.calls k _ _ l0_0 a0_1 a0_2 _ _ l0_3 t230 _ ?side1 ?side2 ?side3 ?side4 A18.out).mono ?_
     (case side1 => exact TC HR0_0.out)
     (case side2 => exact HC0_0.out)
     (case side3 => exact TC HR0_3.out)
     (case side4 => exact HC0_3.out)
     rintro e w21 ⟨rfl, hb⟩
     refine ⟨_, rfl, ?_⟩
     have n0_ := Aside0.mk (TKb hb BK222.out)
     have n1_ := Aside0.mk (TKb hb BK223.out)
     have n2_ := Aside0.mk (below_step (TB2 GE222.out GE223.out) hb)
     clear BK222
     clear BK223
     clear HB
     have BK222 := n0_
     have BK223 := n1_
     have HB := n2_
     clear n0_ n1_ n2_
     (try clear hb)
     (try clear hb2)
     (try clear hk)
     (try clear hi)
     refine hK.out _ _ ⟨cz BK222.out 0, cz BK222.out 1, cz BK222.out 2, cz BK222.out 3⟩ (fun hHeld => ?_)
     clear hK K
     refine norm_ (a' := ?_) ?_ ?_
     rotate_left
     ·show Act.put _ (some 46) _ = _
      simp only [Act.put, lA, lZ, lS, i64_w, i32_w]
      rfl
     refine one_ (i := 17) (N := some 48) (bt 20 262143) rfl rfl (one_of HT_.out (by kernel_rfl)) (by decide) (fun K hK => ?_)
     refine goes_ Tryd.func19 (by kernel_rfl) rfl #[.agg #[.slice A0_0 l0_0.length c0_0, .int .i64 a0_1, .int .i64 a0_2, .slice A0_3 l0_3.length c0_3]] (by rfl) rfl rfl TM ?_
     with_reducible refine (saronref03_Check.calls k _ _ l0_0 a0_1 a0_2 _ _ l0_3 t231 _ ?side1 ?side2 ?side3 ?side4 A19.out).mono ?_
     (case side1 => exact TC HR0_0.out)
     (case side2 => exact HC0_0.out)
     (case side3 => exact TC HR0_3.out)
     (case side4 => exact HC0_3.out)
     rintro e w22 ⟨rfl, hb⟩
     refine ⟨_, rfl, ?_⟩
     have n0_ := Aside0.mk (TKb hb BK222.out)
     have n1_ := Aside0.mk (TKb hb BK223.out)
     have n2_ := Aside0.mk (below_step (TB2 GE222.out GE223.out) hb)
     clear BK222
     clear BK223
     clear HB
     have BK222 := n0_
     have BK223 := n1_
     have HB := n2_
     clear n0_ n1_ n2_
     (try clear hb)
     (try clear hb2)
     (try clear hk)
     (try clear hi)
     refine hK.out _ _ ⟨cz BK222.out 0, cz BK222.out 1, cz BK222.out 2, cz BK222.out 3⟩ (fun hHeld => ?_)
     clear hK K
     refine norm_ (a' := ?_) ?_ ?_
     rotate_left
     ·show Act.put _ (some 48) _ = _
      simp only [Act.put, lA, lZ, lS, i64_w, i32_w]
      rfl
     refine pT 18 49 (bt 20 524287) (k := ?_)
     refine pT 19 50 (bt 20 1048575) (k := ?_)
     refine done_ (done_of HT_.out (by kernel_rfl)) ?_
     try go_wp2
     go_meet
     case rel => exact ⟨_, ((t230 != t231)), TT, H', ⟨by first | omega | exact Nat.le_refl _⟩, ⟨TK BK222.out⟩, ⟨TK BK223.out⟩, ⟨TB2 GE222.out GE223.out⟩⟩
    ·rw [if_neg c17] at H
     have c17b0 : (t226 == t229) = false := beq_eq_false_iff_ne.mpr c17
     have c17b1 : (t226 != t229) = true := bne_iff_ne.mpr c17
     have H' := Aside0.mk H
     clear H
     try go_wp2
     have n0_ := Aside0.mk (blk_drew BK222.out)
     have n1_ := Aside0.mk (blk_drew BK223.out)
     have n2_ := Aside0.mk (below_drew1 HB.out)
     clear BK222
     clear BK223
     clear HB
     have BK222 := n0_
     have BK223 := n1_
     have HB := n2_
     clear n0_ n1_ n2_
     refine start_ (n := 20) (S := fun w' => True) (ds := []) (.replicate 20 false) (by kernel_rfl) rfl rfl trivial (fun hHeld => ?_); refine with_tabW saronlaw03_RaspNexts.tab3 saronlaw03_RaspNexts.bits3 (fun HT_ HW_ => ?_)
     generalize w14.drew = w23 at BK222 BK223 HB hHeld ⊢
     refine pT 0 31 (bt 20 1) (k := ?_)
     refine pT 1 32 (bt 20 3) (k := ?_)
     refine pT 2 33 (bt 20 7) (k := ?_)
     refine pT 3 34 (bt 20 15) (k := ?_)
     refine pT 4 35 (bt 20 31) (k := ?_)
     refine pT 5 36 (bt 20 63) (k := ?_)
     refine pT 6 37 (bt 20 127) (k := ?_)
     refine pT 7 38 (bt 20 255) (k := ?_)
     refine pT 8 39 (bt 20 511) (k := ?_)
     refine pT 9 40 (bt 20 1023) (k := ?_)
     refine pT 10 41 (bt 20 2047) (k := ?_)
     refine pT 11 42 (bt 20 4095) (k := ?_)
     refine pT 12 43 (bt 20 8191) (k := ?_)
     refine pT 13 44 (bt 20 16383) (k := ?_)
     refine pU 14 45 (bt 20 32767) (k := ?_)
     refine pU 15 46 (bt 20 65535) (k := ?_)
     refine pU 16 47 (bt 20 131071) (k := ?_)
     refine pU 17 48 (bt 20 262143) (k := ?_)
     refine pU 18 49 (bt 20 524287) (k := ?_)
     refine pT 19 50 (bt 20 1048575) (k := ?_)
     refine done_ (done_of HT_.out (by kernel_rfl)) ?_
     try go_wp2
     go_meet
     case rel => exact ⟨_, (true), TT, H', ⟨by first | omega | exact Nat.le_refl _⟩, ⟨TK BK222.out⟩, ⟨TK BK223.out⟩, ⟨TB2 GE222.out GE223.out⟩⟩
   ·rw [if_neg c16] at H
    have c16b0 : (t225 == t228) = false := beq_eq_false_iff_ne.mpr c16
    have c16b1 : (t225 != t228) = true := bne_iff_ne.mpr c16
    have H' := Aside0.mk H
    clear H
    try go_wp2
    have n0_ := Aside0.mk (blk_drew BK222.out)
    have n1_ := Aside0.mk (blk_drew BK223.out)
    have n2_ := Aside0.mk (below_drew1 HB.out)
    clear BK222
    clear BK223
    clear HB
    have BK222 := n0_
    have BK223 := n1_
    have HB := n2_
    clear n0_ n1_ n2_
    refine start_ (n := 20) (S := fun w' => True) (ds := []) (.replicate 20 false) (by kernel_rfl) rfl rfl trivial (fun hHeld => ?_); refine with_tabW saronlaw03_RaspNexts.tab3 saronlaw03_RaspNexts.bits3 (fun HT_ HW_ => ?_)
    generalize w14.drew = w24 at BK222 BK223 HB hHeld ⊢
    refine pT 0 31 (bt 20 1) (k := ?_)
    refine pT 1 32 (bt 20 3) (k := ?_)
    refine pT 2 33 (bt 20 7) (k := ?_)
    refine pT 3 34 (bt 20 15) (k := ?_)
    refine pT 4 35 (bt 20 31) (k := ?_)
    refine pT 5 36 (bt 20 63) (k := ?_)
    refine pT 6 37 (bt 20 127) (k := ?_)
    refine pT 7 38 (bt 20 255) (k := ?_)
    refine pT 8 39 (bt 20 511) (k := ?_)
    refine pU 9 40 (bt 20 1023) (k := ?_)
    refine pU 10 41 (bt 20 2047) (k := ?_)
    refine pU 11 42 (bt 20 4095) (k := ?_)
    refine pT 12 43 (bt 20 8191) (k := ?_)
    refine pT 13 44 (bt 20 16383) (k := ?_)
    refine pU 14 45 (bt 20 32767) (k := ?_)
    refine pU 15 46 (bt 20 65535) (k := ?_)
    refine pU 16 47 (bt 20 131071) (k := ?_)
    refine pU 17 48 (bt 20 262143) (k := ?_)
    refine pU 18 49 (bt 20 524287) (k := ?_)
    refine pT 19 50 (bt 20 1048575) (k := ?_)
    refine done_ (done_of HT_.out (by kernel_rfl)) ?_
    try go_wp2
    go_meet
    case rel => exact ⟨_, (true), TT, H', ⟨by first | omega | exact Nat.le_refl _⟩, ⟨TK BK222.out⟩, ⟨TK BK223.out⟩, ⟨TB2 GE222.out GE223.out⟩⟩
  ·rw [if_neg c15] at H
   have c15b0 : (t224 == t227) = false := beq_eq_false_iff_ne.mpr c15
   have c15b1 : (t224 != t227) = true := bne_iff_ne.mpr c15
   (first | rw [c15b0] | (simp only [i64_w, i32_w]; rw [c15b0]) | skip)
   have H' := Aside0.mk H
   clear H
   try go_wp2
   have n0_ := Aside0.mk (blk_drew BK222.out)
   have n1_ := Aside0.mk (blk_drew BK223.out)
   have n2_ := Aside0.mk (below_drew1 HB.out)
   clear BK222
   clear BK223
   clear HB
   have BK222 := n0_
   have BK223 := n1_
   have HB := n2_
   clear n0_ n1_ n2_
   refine start_ (n := 20) (S := fun w' => True) (ds := []) (.replicate 20 false) (by kernel_rfl) rfl rfl trivial (fun hHeld => ?_); refine with_tabW saronlaw03_RaspNexts.tab3 saronlaw03_RaspNexts.bits3 (fun HT_ HW_ => ?_)
   generalize w14.drew = w25 at BK222 BK223 HB hHeld ⊢
   refine pT 0 31 (bt 20 1) (k := ?_)
   refine pT 1 32 (bt 20 3) (k := ?_)
   refine pT 2 33 (bt 20 7) (k := ?_)
   refine pT 3 34 (bt 20 15) (k := ?_)
   refine pU 4 35 (bt 20 31) (k := ?_)
   refine pU 5 36 (bt 20 63) (k := ?_)
   refine pU 6 37 (bt 20 127) (k := ?_)
   refine pT 7 38 (bt 20 255) (k := ?_)
   refine pT 8 39 (bt 20 511) (k := ?_)
   refine pU 9 40 (bt 20 1023) (k := ?_)
   refine pU 10 41 (bt 20 2047) (k := ?_)
   refine pU 11 42 (bt 20 4095) (k := ?_)
   refine pT 12 43 (bt 20 8191) (k := ?_)
   refine pT 13 44 (bt 20 16383) (k := ?_)
   refine pU 14 45 (bt 20 32767) (k := ?_)
   refine pU 15 46 (bt 20 65535) (k := ?_)
   refine pU 16 47 (bt 20 131071) (k := ?_)
   refine pU 17 48 (bt 20 262143) (k := ?_)
   refine pU 18 49 (bt 20 524287) (k := ?_)
   refine pT 19 50 (bt 20 1048575) (k := ?_)
   refine done_ (done_of HT_.out (by kernel_rfl)) ?_
   try go_wp2
   go_meet
   case rel => exact ⟨_, (true), TT, H', ⟨by first | omega | exact Nat.le_refl _⟩, ⟨TK BK222.out⟩, ⟨TK BK223.out⟩, ⟨TB2 GE222.out GE223.out⟩⟩
 case rest =>
  clear HC5
  try clear c1
  try clear p2
  try clear c15
  try clear c15b0
  try clear c15b1
  try clear c16
  try clear c16b0
  try clear c16b1
  try clear c17
  try clear c17b0
  try clear c17b1
  try clear c18
  try clear c19
  obtain ⟨kq, x50_4, rfl, HA, HJ4, BK222, BK223, HB⟩ := hcut
  cases kq with
  | zero => exact absurd HA.out (by simp [saronlaw03_RaspNexts.j0])
  | succ kj4 =>
   have H := HA.out
   clear HA
   simp only [saronlaw03_RaspNexts.j0] at H
   by_cases c26 : x50_4 = true
   ·subst c26
    have H1 : (some false) = some r := by rw [if_pos rfl] at H; exact H
    clear H
    have H := H1
    clear H1
    obtain rfl := Option.some.inj H
    go_wp2
    go_ret
    exact ⟨TR, TB2 GE222.out GE223.out⟩
   ·replace c26 := Bool.eq_false_iff.mpr c26
    subst c26
    have H1 : ((rasp_Lucky.f l0_0 a0_1 a0_2 l0_3 a1_0 a1_1).bind fun bt232 => ((saronref03_Lucky.f kj4 l0_0 a0_1 a0_2 l0_3 a1_0 a1_1).bind fun bt234 => (if bt232.1 = bt234.1 then (if bt232.2 = bt234.2 then ((saronlaw03_filed.f).bind fun t236 => (some t236)) else (some false)) else (some false)))) = some r := by rw [if_neg (show ¬ (false = true) by decide)] at H; exact H
    clear H
    have H := H1
    clear H1
    replace H := Option.bind_eq_some_iff.mp H
    obtain ⟨⟨t232, t233⟩, A270, H⟩ := H
    replace H : ((saronref03_Lucky.f kj4 l0_0 a0_1 a0_2 l0_3 a1_0 a1_1).bind fun bt234 => (if t232 = bt234.1 then (if t233 = bt234.2 then ((saronlaw03_filed.f).bind fun t236 => (some t236)) else (some false)) else (some false))) = some r := H
    have A27 := Aside0.mk A270
    clear A270
    replace H := Option.bind_eq_some_iff.mp H
    obtain ⟨⟨t234, t235⟩, A280, H⟩ := H
    replace H : (if t232 = t234 then (if t233 = t235 then ((saronlaw03_filed.f).bind fun t236 => (some t236)) else (some false)) else (some false)) = some r := H
    have A28 := Aside0.mk A280
    clear A280
    by_cases c29 : t232 = t234
    ·rw [if_pos c29] at H
     have c29b0 : (t232 == t234) = true := beq_iff_eq.mpr c29
     have c29b1 : (t232 != t234) = false := bne_eq_false_iff_eq.mpr c29
     clear c29
     by_cases c30 : t233 = t235
     ·rw [if_pos c30] at H
      have c30b0 : (t233 == t235) = true := beq_iff_eq.mpr c30
      have c30b1 : (t233 != t235) = false := bne_eq_false_iff_eq.mpr c30
      clear c30
      replace H := Option.bind_eq_some_iff.mp H
      obtain ⟨t236, A310, H⟩ := H
      replace H : (some t236) = some r := H
      have A31 := Aside0.mk A310
      clear A310
      obtain rfl := Option.some.inj H
      have hnb32 := NB222_223.out
      have hnc32 := NB223_222.out
      have hcz33_0 := cz BK222.out 0
      have hcz33_1 := cz BK222.out 1
      have hcz33_2 := cz BK222.out 2
      have hcz33_3 := cz BK222.out 3
      have hfz33_0 := fz BK222.out 0
      have hfz33_1 := fz BK222.out 1
      have hfz33_2 := fz BK222.out 2
      have hfz33_3 := fz BK222.out 3
      have hcz34_0 := cz BK223.out 0
      have hcz34_1 := cz BK223.out 1
      have hfz34_0 := fz BK223.out 0
      have hfz34_1 := fz BK223.out 1
      go_wp2_with (first | ((with_reducible refine gate_callee (f := 20) rfl ?_); refine goesL_ (some 57) rfl rfl Tryd.func20 (by kernel_rfl) rfl #[.agg #[.slice A0_0 l0_0.length c0_0, .int .i64 a0_1, .int .i64 a0_2, .slice A0_3 l0_3.length c0_3], .int .i64 a1_0, .int .i64 a1_1] rfl TM ?_; (with_reducible refine (rasp_Lucky.calls _ _ l0_0 a0_1 a0_2 _ _ l0_3 a1_0 a1_1 t232 t233 _ ?side1 ?side2 ?side3 ?side4 ?side5 A27.out).mono ?_); (case side1 => exact TC HR0_0.out); (case side2 => exact HC0_0.out); (case side3 => exact TC HR0_3.out); (case side4 => exact HC0_3.out); (case side5 => exact Glob.fr HG.out (Fr.of_below (TB2 GE222.out GE223.out))); rintro e w35 ⟨rfl, hb⟩; refine ⟨_, rfl, ?_⟩; replace BK222 := Aside0.mk (TKb hb BK222.out); replace BK223 := Aside0.mk (TKb hb BK223.out); replace HB := Aside0.mk (below_step (TB2 GE222.out GE223.out) hb); (try clear hb); (try clear hb2); (try clear hk); (try clear hi); have hcz36_0 := cz BK222.out 0; have hcz36_1 := cz BK222.out 1; have hcz36_2 := cz BK222.out 2; have hcz36_3 := cz BK222.out 3; have hfz36_0 := fz BK222.out 0; have hfz36_1 := fz BK222.out 1; have hfz36_2 := fz BK222.out 2; have hfz36_3 := fz BK222.out 3; have hcz37_0 := cz BK223.out 0; have hcz37_1 := cz BK223.out 1; have hfz37_0 := fz BK223.out 0; have hfz37_1 := fz BK223.out 1) | ((with_reducible refine gate_callee (f := 21) rfl ?_); refine goesL_ (some 66) rfl rfl Tryd.func21 (by kernel_rfl) rfl #[.agg #[.slice A0_0 l0_0.length c0_0, .int .i64 a0_1, .int .i64 a0_2, .slice A0_3 l0_3.length c0_3], .int .i64 a1_0, .int .i64 a1_1] rfl TM ?_; (with_reducible refine (saronref03_Lucky.calls kj4 _ _ l0_0 a0_1 a0_2 _ _ l0_3 a1_0 a1_1 t234 t235 _ ?side1 ?side2 ?side3 ?side4 A28.out).mono ?_); (case side1 => exact TC HR0_0.out); (case side2 => exact HC0_0.out); (case side3 => exact TC HR0_3.out); (case side4 => exact HC0_3.out); rintro e w38 ⟨rfl, hb⟩; refine ⟨_, rfl, ?_⟩; replace BK222 := Aside0.mk (TKb hb BK222.out); replace BK223 := Aside0.mk (TKb hb BK223.out); replace HB := Aside0.mk (below_step (TB2 GE222.out GE223.out) hb); (try clear hb); (try clear hb2); (try clear hk); (try clear hi)) | (go_at_call 22; (with_reducible refine (saronlaw03_filed.calls  t236 _ ?side1 A31.out).mono ?_); (case side1 => exact Glob.fr HG.out (Fr.of_below (TB2 GE222.out GE223.out))); rintro e w39 ⟨rfl, hb⟩; replace BK222 := Aside0.mk (TKb hb BK222.out); replace BK223 := Aside0.mk (TKb hb BK223.out); replace HB := Aside0.mk (below_step (TB2 GE222.out GE223.out) hb); (try clear hb); (try clear hb2); (try clear hk); (try clear hi)))
      go_ret
      exact ⟨TR, TB2 GE222.out GE223.out⟩
     ·rw [if_neg c30] at H
      have c30b0 : (t233 == t235) = false := beq_eq_false_iff_ne.mpr c30
      have c30b1 : (t233 != t235) = true := bne_iff_ne.mpr c30
      obtain rfl := Option.some.inj H
      have hnb40 := NB222_223.out
      have hnc40 := NB223_222.out
      have hcz41_0 := cz BK222.out 0
      have hcz41_1 := cz BK222.out 1
      have hcz41_2 := cz BK222.out 2
      have hcz41_3 := cz BK222.out 3
      have hfz41_0 := fz BK222.out 0
      have hfz41_1 := fz BK222.out 1
      have hfz41_2 := fz BK222.out 2
      have hfz41_3 := fz BK222.out 3
      have hcz42_0 := cz BK223.out 0
      have hcz42_1 := cz BK223.out 1
      have hfz42_0 := fz BK223.out 0
      have hfz42_1 := fz BK223.out 1
      go_wp2_with (first | ((with_reducible refine gate_callee (f := 20) rfl ?_); refine goesL_ (some 57) rfl rfl Tryd.func20 (by kernel_rfl) rfl #[.agg #[.slice A0_0 l0_0.length c0_0, .int .i64 a0_1, .int .i64 a0_2, .slice A0_3 l0_3.length c0_3], .int .i64 a1_0, .int .i64 a1_1] rfl TM ?_; (with_reducible refine (rasp_Lucky.calls _ _ l0_0 a0_1 a0_2 _ _ l0_3 a1_0 a1_1 t232 t233 _ ?side1 ?side2 ?side3 ?side4 ?side5 A27.out).mono ?_); (case side1 => exact TC HR0_0.out); (case side2 => exact HC0_0.out); (case side3 => exact TC HR0_3.out); (case side4 => exact HC0_3.out); (case side5 => exact Glob.fr HG.out (Fr.of_below (TB2 GE222.out GE223.out))); rintro e w43 ⟨rfl, hb⟩; refine ⟨_, rfl, ?_⟩; replace BK222 := Aside0.mk (TKb hb BK222.out); replace BK223 := Aside0.mk (TKb hb BK223.out); replace HB := Aside0.mk (below_step (TB2 GE222.out GE223.out) hb); (try clear hb); (try clear hb2); (try clear hk); (try clear hi); have hcz44_0 := cz BK222.out 0; have hcz44_1 := cz BK222.out 1; have hcz44_2 := cz BK222.out 2; have hcz44_3 := cz BK222.out 3; have hfz44_0 := fz BK222.out 0; have hfz44_1 := fz BK222.out 1; have hfz44_2 := fz BK222.out 2; have hfz44_3 := fz BK222.out 3; have hcz45_0 := cz BK223.out 0; have hcz45_1 := cz BK223.out 1; have hfz45_0 := fz BK223.out 0; have hfz45_1 := fz BK223.out 1) | ((with_reducible refine gate_callee (f := 21) rfl ?_); refine goesL_ (some 66) rfl rfl Tryd.func21 (by kernel_rfl) rfl #[.agg #[.slice A0_0 l0_0.length c0_0, .int .i64 a0_1, .int .i64 a0_2, .slice A0_3 l0_3.length c0_3], .int .i64 a1_0, .int .i64 a1_1] rfl TM ?_; (with_reducible refine (saronref03_Lucky.calls kj4 _ _ l0_0 a0_1 a0_2 _ _ l0_3 a1_0 a1_1 t234 t235 _ ?side1 ?side2 ?side3 ?side4 A28.out).mono ?_); (case side1 => exact TC HR0_0.out); (case side2 => exact HC0_0.out); (case side3 => exact TC HR0_3.out); (case side4 => exact HC0_3.out); rintro e w46 ⟨rfl, hb⟩; refine ⟨_, rfl, ?_⟩; replace BK222 := Aside0.mk (TKb hb BK222.out); replace BK223 := Aside0.mk (TKb hb BK223.out); replace HB := Aside0.mk (below_step (TB2 GE222.out GE223.out) hb); (try clear hb); (try clear hb2); (try clear hk); (try clear hi)))
      go_ret
      exact ⟨TR, TB2 GE222.out GE223.out⟩
    ·rw [if_neg c29] at H
     have c29b0 : (t232 == t234) = false := beq_eq_false_iff_ne.mpr c29
     have c29b1 : (t232 != t234) = true := bne_iff_ne.mpr c29
     obtain rfl := Option.some.inj H
     have hnb47 := NB222_223.out
     have hnc47 := NB223_222.out
     have hcz48_0 := cz BK222.out 0
     have hcz48_1 := cz BK222.out 1
     have hcz48_2 := cz BK222.out 2
     have hcz48_3 := cz BK222.out 3
     have hfz48_0 := fz BK222.out 0
     have hfz48_1 := fz BK222.out 1
     have hfz48_2 := fz BK222.out 2
     have hfz48_3 := fz BK222.out 3
     have hcz49_0 := cz BK223.out 0
     have hcz49_1 := cz BK223.out 1
     have hfz49_0 := fz BK223.out 0
     have hfz49_1 := fz BK223.out 1
     go_wp2_with (first | ((with_reducible refine gate_callee (f := 20) rfl ?_); refine goesL_ (some 57) rfl rfl Tryd.func20 (by kernel_rfl) rfl #[.agg #[.slice A0_0 l0_0.length c0_0, .int .i64 a0_1, .int .i64 a0_2, .slice A0_3 l0_3.length c0_3], .int .i64 a1_0, .int .i64 a1_1] rfl TM ?_; (with_reducible refine (rasp_Lucky.calls _ _ l0_0 a0_1 a0_2 _ _ l0_3 a1_0 a1_1 t232 t233 _ ?side1 ?side2 ?side3 ?side4 ?side5 A27.out).mono ?_); (case side1 => exact TC HR0_0.out); (case side2 => exact HC0_0.out); (case side3 => exact TC HR0_3.out); (case side4 => exact HC0_3.out); (case side5 => exact Glob.fr HG.out (Fr.of_below (TB2 GE222.out GE223.out))); rintro e w50 ⟨rfl, hb⟩; refine ⟨_, rfl, ?_⟩; replace BK222 := Aside0.mk (TKb hb BK222.out); replace BK223 := Aside0.mk (TKb hb BK223.out); replace HB := Aside0.mk (below_step (TB2 GE222.out GE223.out) hb); (try clear hb); (try clear hb2); (try clear hk); (try clear hi); have hcz51_0 := cz BK222.out 0; have hcz51_1 := cz BK222.out 1; have hcz51_2 := cz BK222.out 2; have hcz51_3 := cz BK222.out 3; have hfz51_0 := fz BK222.out 0; have hfz51_1 := fz BK222.out 1; have hfz51_2 := fz BK222.out 2; have hfz51_3 := fz BK222.out 3; have hcz52_0 := cz BK223.out 0; have hcz52_1 := cz BK223.out 1; have hfz52_0 := fz BK223.out 0; have hfz52_1 := fz BK223.out 1) | ((with_reducible refine gate_callee (f := 21) rfl ?_); refine goesL_ (some 66) rfl rfl Tryd.func21 (by kernel_rfl) rfl #[.agg #[.slice A0_0 l0_0.length c0_0, .int .i64 a0_1, .int .i64 a0_2, .slice A0_3 l0_3.length c0_3], .int .i64 a1_0, .int .i64 a1_1] rfl TM ?_; (with_reducible refine (saronref03_Lucky.calls kj4 _ _ l0_0 a0_1 a0_2 _ _ l0_3 a1_0 a1_1 t234 t235 _ ?side1 ?side2 ?side3 ?side4 A28.out).mono ?_); (case side1 => exact TC HR0_0.out); (case side2 => exact HC0_0.out); (case side3 => exact TC HR0_3.out); (case side4 => exact HC0_3.out); rintro e w53 ⟨rfl, hb⟩; refine ⟨_, rfl, ?_⟩; replace BK222 := Aside0.mk (TKb hb BK222.out); replace BK223 := Aside0.mk (TKb hb BK223.out); replace HB := Aside0.mk (below_step (TB2 GE222.out GE223.out) hb); (try clear hb); (try clear hb2); (try clear hk); (try clear hi)))
     go_ret
     exact ⟨TR, TB2 GE222.out GE223.out⟩
end Go.Proofs.YtfmpbkolpjlfbaaDoor.PRaspKeys
