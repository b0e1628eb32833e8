import Derived.Test.YtfmpbkolpjlfbaaDoorG5
import Derived.Test.YtfmpbkolpjlfbaaDoorCS
import Derived.Test.YtfmpbkolpjlfbaaDoorCH
import Derived.Test.YtfmpbkolpjlfbaaDoorM0
import Derived.Test.YtfmpbkolpjlfbaaDoorProg
import Derived.Below
import Derived.Deep.Draws
import Derived.Deep.AppendLies
import Derived.Maps.AppendAt
import Derived.OwnWalk
import Derived.Laws.BytesArg
import Derived.Laws.MakeOwn
import Derived.Laws.OwnMore
import Derived.Deep.OwnRows
import Derived.Tactics
import Derived.Lib.ConvBytes
import Derived.Laws.Slices
import Derived.WalkKit
import Derived.KernelRfl
import Derived.RowKit3
import Derived.Deep.LoopGhost
import Derived.Deep.QuietTactic
import Derived.BigQuiet
import Derived.WideLaws
import Derived.Deep.DeepCutAuto
import Derived.Deep.CutBlock
import Derived.Deep.RegionHeld3
import Derived.Laws.Rows
import Derived.Lib.AppendStr
import Derived.ArgAppend
import Derived.Laws.IdiomCopy
import Derived.OrdersHeld
import Derived.Laws.BitsLemmas
import Derived.RowKit
set_option linter.unusedVariables false
set_option linter.unusedSimpArgs false
namespace Go.Proofs.YtfmpbkolpjlfbaaDoor.M
open Go.RowKit Go.Proofs.YtfmpbkolpjlfbaaDoorW.PrintWords Go.Proofs.YtfmpbkolpjlfbaaDoorW.PrintLast
theorem TG3 {p q r s : Prop} (g : q) (g' : r) (g3 : s) (h : q → r → s → p := by (intro g g' g3; rw [hg]; exact (below_size (by repeat (first | (with_reducible first | exact HB.out | apply below_alloc | apply pw_below_drewN | apply below_drew1 | refine below_set ?_ g | refine below_set ?_ g' | refine below_set ?_ g3) | exact HB.out))))) : p := h g g' g3
end Go.Proofs.YtfmpbkolpjlfbaaDoor.M
namespace Go.Proofs.YtfmpbkolpjlfbaaDoor.PRaspKeys
open Go.RowKit Go.Proofs.YtfmpbkolpjlfbaaDoorW.PrintWords Go.Proofs.YtfmpbkolpjlfbaaDoorW.PrintLast Go.Proofs.YtfmpbkolpjlfbaaDoorW.PrintMore Go.Proofs.YtfmpbkolpjlfbaaDoor.M
attribute [local go_sem] max2_int min2_int max_two min_two max_three min_three max_four min_four   -- for this text's walks alone
/-! #### struct type 24 -/
/-! #### struct type 57 -/
/-! #### struct type 69 -/
end Go.Proofs.YtfmpbkolpjlfbaaDoor.PRaspKeys
namespace Go.Proofs.YtfmpbkolpjlfbaaDoor.PRaspKeys
open Go.RowKit Go.Proofs.YtfmpbkolpjlfbaaDoorW.PrintWords Go.Proofs.YtfmpbkolpjlfbaaDoorW.PrintLast Go.Proofs.YtfmpbkolpjlfbaaDoorW.PrintMore Go.Proofs.YtfmpbkolpjlfbaaDoor.M
attribute [local go_sem] max2_int min2_int max_two min_two max_three min_three max_four min_four   -- for this text's walks alone
/-! ### saronlaw03_RaspSingle: function 12 -/
def saronlaw03_RaspSingle.l0 : Nat → List Int → Int → List (S57) → Int → Int → List (S69) → Int → Int → List (S57) → Int → Int → List (S69) → Option (Bool)
 | 0, _, _, _, _, _, _, _, _, _, _, _, _ => none
 | k + 1, x1, x8, x187000, x187001, x187002, x187003, x188000, x188001, x191000, x191001, x191002, x191003 => if x8 < (x187000.length : Int) then (if 0 ≤ x8 then ((saronref00_Nth.f x1 x8).bind fun t193 => ((saronref00_Draw.f ((rd_T57 x187000 x8).f0.f0) ((rd_T57 x187000 x8).f0.f1) t193).bind fun t194 => ((saronref00_Band.f t194 t194).bind fun bt195 => (if x191000.length < 5864062014805 then (saronlaw03_RaspSingle.l0 k x1 (wrap64 (x8 + 1)) x187000 x187001 x187002 x187003 x188000 x188001 (x191000 ++ [(⟨(⟨bt195.1, bt195.2⟩ : S24), (rd_T57 x187000 x8).f1⟩ : S57)]) x191001 x191002 x191003) else (none))))) else (none)) else ((saronlaw03_state.f x188000 x188001).bind fun bt200 => ((rasp_Next.f x191000 x191001 x191002 x191003 bt200.1 bt200.2).bind fun bt202 => ((rasp_Lucky.f x191000 x191001 x191002 x191003 bt200.1 bt200.2).bind fun bt205 => ((rasp_Lucky.f x187000 x187001 x187002 x187003 bt200.1 bt200.2).bind fun bt207 => (if bt202.2.1 = bt205.1 then (if bt202.2.2 = bt205.2 then (if bt205.2 = 0 then (if bt207.2 = 0 then (if bt207.1 ≤ bt205.1 then ((saronlaw03_filed.f).bind fun t209 => (some t209)) else (some false)) else (some false)) else (if bt207.2 = 0 then ((saronlaw03_filed.f).bind fun t210 => (some t210)) else (if bt207.2 = 4 then ((saronlaw03_filed.f).bind fun t211 => (some t211)) else (some false)))) else (some false)) else (some false))))))
def saronlaw03_RaspSingle.f (k : Nat) (l0_0 : List (S57)) (a0_1 : Int) (a0_2 : Int) (l0_3 : List (S69)) (l1 : List Int) (a2_0 : Int) (a2_1 : Int) : Option (Bool) := (saronlaw03_sound.f k l0_0 a0_1 a0_2 l0_3).bind fun t188 => (if t188 = true then (saronlaw03_RaspSingle.l0 k l1 0 l0_0 a0_1 a0_2 l0_3 a2_0 a2_1 ([] : List (S57)) a0_1 a0_2 l0_3) else ((saronlaw03_filed.f).bind fun t189 => (some t189)))
theorem saronlaw03_RaspSingle.mono_l : ∀ k, (∀ y0 y1 y2 y3 y4 y5 y6 y7 y8 y9 y10 y11, LeO (saronlaw03_RaspSingle.l0 k y0 y1 y2 y3 y4 y5 y6 y7 y8 y9 y10 y11) (saronlaw03_RaspSingle.l0 (k + 1) y0 y1 y2 y3 y4 y5 y6 y7 y8 y9 y10 y11))
 | 0 => fun _ _ _ _ _ _ _ _ _ _ _ _ r h => by simp [saronlaw03_RaspSingle.l0] at h
 | k + 1 => by
  have ih0 := saronlaw03_RaspSingle.mono_l k
  ·intro y0 y1 y2 y3 y4 y5 y6 y7 y8 y9 y10 y11
   unfold saronlaw03_RaspSingle.l0
   repeat' first
   | (with_reducible exact ih0 _ _ _ _ _ _ _ _ _ _ _ _)
   | (with_reducible exact saronlaw03_sound.mono _ _ _ _ _)
   | (with_reducible exact LeO.refl _)
   | (with_reducible exact LeO.none _)
   | (with_reducible refine LeO.ite ?_ ?_)
   | (with_reducible refine LeO.bind ?_ (fun _ => ?_))
   | exact ih0 _ _ _ _ _ _ _ _ _ _ _ _
   | exact saronlaw03_sound.mono _ _ _ _ _
   | exact LeO.none _
   | refine LeO.ite ?_ ?_
   | refine LeO.bind ?_ (fun _ => ?_)
theorem saronlaw03_RaspSingle.mono : ∀ a0 a1 a2 a3 a4 a5 a6 k, LeO (saronlaw03_RaspSingle.f k a0 a1 a2 a3 a4 a5 a6) (saronlaw03_RaspSingle.f (k + 1) a0 a1 a2 a3 a4 a5 a6) := by
 intro a0 a1 a2 a3 a4 a5 a6 k
 have ih0 := saronlaw03_RaspSingle.mono_l k
 unfold saronlaw03_RaspSingle.f
 repeat' first
   | (with_reducible exact ih0 _ _ _ _ _ _ _ _ _ _ _ _)
   | (with_reducible exact saronlaw03_sound.mono _ _ _ _ _)
   | (with_reducible exact LeO.refl _)
   | (with_reducible exact LeO.none _)
   | (with_reducible refine LeO.ite ?_ ?_)
   | (with_reducible refine LeO.bind ?_ (fun _ => ?_))
   | exact ih0 _ _ _ _ _ _ _ _ _ _ _ _
   | exact saronlaw03_sound.mono _ _ _ _ _
   | exact LeO.none _
   | refine LeO.ite ?_ ?_
   | refine LeO.bind ?_ (fun _ => ?_)
set_option maxHeartbeats 8000000 in
set_option maxRecDepth 100000 in
theorem saronlaw03_RaspSingle.calls (k : Nat) (A0_0 : Option Addr) (c0_0 : Nat) (l0_0 : List (S57)) (a0_1 : Int) (a0_2 : Int) (A0_3 : Option Addr) (c0_3 : Nat) (l0_3 : List (S69)) (A1 : Option Addr) (c1 : Nat) (l1 : List Int) (a2_0 : Int) (a2_1 : Int) (r : Bool) (w : World) (hr0_0 : Kd.C k57 w A0_0 l0_0.length l0_0) (hc0_0 : l0_0.length ≤ c0_0) (hr0_3 : Kd.C k69 w A0_3 l0_3.length l0_3) (hc0_3 : l0_3.length ≤ c0_3) (hr1 : Kd.C (Kd.int .i64) w A1 l1.length l1) (hc1 : l1.length ≤ c1) (hG : Glob w) (h : saronlaw03_RaspSingle.f k l0_0 a0_1 a0_2 l0_3 l1 a2_0 a2_1 = some r) :
  Calls Tryd.prog 12 #[.agg #[.slice A0_0 l0_0.length c0_0, .int .i64 a0_1, .int .i64 a0_2, .slice A0_3 l0_3.length c0_3], .slice A1 l1.length c1, .agg #[.int .i64 a2_0, .int .i64 a2_1]] w fun e w' => e = .returned (.bool r) ∧ Below w.heap.size w w' := by
 have hu27 := Tryd.underlying27
 have hu28 := Tryd.underlying28
 have hu57 := Tryd.underlying57
 have hu24 := Tryd.underlying24
 have HR0_0 := Aside0.mk hr0_0
 have HC0_0 := Aside0.mk hc0_0
 clear hr0_0 hc0_0
 have HR0_3 := Aside0.mk hr0_3
 have HC0_3 := Aside0.mk hc0_3
 clear hr0_3 hc0_3
 have HR1 := Aside0.mk hr1
 have HC1 := Aside0.mk hc1
 clear hr1 hc1
 have HB := Aside0.mk (Below.refl w.heap.size w)
 have HG := Aside0.mk hG
 clear hG
 have H : ((saronlaw03_sound.f k l0_0 a0_1 a0_2 l0_3).bind fun t188 => (if t188 = true then (saronlaw03_RaspSingle.l0 k l1 0 l0_0 a0_1 a0_2 l0_3 a2_0 a2_1 ([] : List (S57)) a0_1 a0_2 l0_3) else ((saronlaw03_filed.f).bind fun t189 => (some t189)))) = some r := h
 clear h
 replace H := Option.bind_eq_some_iff.mp H
 obtain ⟨t188, A40, H⟩ := H
 replace H : (if t188 = true then (saronlaw03_RaspSingle.l0 k l1 0 l0_0 a0_1 a0_2 l0_3 a2_0 a2_1 ([] : List (S57)) a0_1 a0_2 l0_3) else ((saronlaw03_filed.f).bind fun t189 => (some t189))) = some r := H
 have A4 := Aside0.mk A40
 clear A40
 by_cases c5 : t188 = true
 ·subst c5
  have H1 : (saronlaw03_RaspSingle.l0 k l1 0 l0_0 a0_1 a0_2 l0_3 a2_0 a2_1 ([] : List (S57)) a0_1 a0_2 l0_3) = some r := by rw [if_pos rfl] at H; exact H
  clear H
  have H := H1
  clear H1
  have H' := Aside0.mk H
  clear H
  go_enter Tryd.func12, Tryd.ntmps12
  go_wp2_with (first | ((with_reducible refine gate_dst (N := 3) rfl ?_); refine box_event ?hg (N := 3) ?hd (cs := #[.slice A0_0 l0_0.length c0_0, .int .i64 a0_1, .int .i64 a0_2, .slice A0_3 l0_3.length c0_3]) (t := 27) ?hr ?_; (case hd => rfl); (case hg => rfl); (case hr => exact TS); intro gb186 hg w6 hbox hb; have BK186 := Aside0.mk (hbox); have GW186 := Aside0.mk ((TG : w.heap.size ≤ gb186)); have GE186 := Aside0.mk ((TG : w.heap.size ≤ gb186)); replace HB := Aside0.mk (below_step TB hb); clear hb hbox hg) | ((with_reducible refine gate_dst (N := 5) rfl ?_); refine box_event ?hg (N := 5) ?hd (cs := #[.int .i64 a2_0, .int .i64 a2_1]) (t := 28) ?hr ?_; (case hd => rfl); (case hg => rfl); (case hr => exact TS); intro gb187 hg w7 hbox hb; have BK187 := Aside0.mk (hbox); have GW187 := Aside0.mk ((TG1 GE186.out : w.heap.size ≤ gb187)); have GE187 := Aside0.mk ((TG1 GE186.out : w.heap.size ≤ gb187)); have NB186_187 := Aside0.mk ((by rw [hg]; exact Nat.ne_of_lt (blk_lt (g := gb186) (o := .cells #[.slice A0_0 l0_0.length c0_0, .int .i64 a0_1, .int .i64 a0_2, .slice A0_3 l0_3.length c0_3] 27 (0, 0)) (TK BK186.out)) : gb186 ≠ gb187)); have NB187_186 := Aside0.mk ((by rw [hg]; exact Nat.ne_of_gt (blk_lt (g := gb186) (o := .cells #[.slice A0_0 l0_0.length c0_0, .int .i64 a0_1, .int .i64 a0_2, .slice A0_3 l0_3.length c0_3] 27 (0, 0)) (TK BK186.out)) : gb187 ≠ gb186)); replace BK186 := Aside0.mk (TKb hb BK186.out); replace HB := Aside0.mk (below_step (TB1 GE186.out) hb); clear hb hbox hg; have hnb8 := NB186_187.out; have hnc8 := NB187_186.out; have hcz9_0 := cz BK186.out 0; have hcz9_1 := cz BK186.out 1; have hcz9_2 := cz BK186.out 2; have hcz9_3 := cz BK186.out 3; have hfz9_0 := fz BK186.out 0; have hfz9_1 := fz BK186.out 1; have hfz9_2 := fz BK186.out 2; have hfz9_3 := fz BK186.out 3) | ((with_reducible refine gate_callee (f := 37) rfl ?_); refine goesL_ (some 21) rfl rfl Tryd.func37 (by kernel_rfl) rfl #[.agg #[.slice A0_0 l0_0.length c0_0, .int .i64 a0_1, .int .i64 a0_2, .slice A0_3 l0_3.length c0_3]] rfl TM ?_; (with_reducible refine (saronlaw03_sound.calls k _ _ l0_0 a0_1 a0_2 _ _ l0_3 true _ ?side1 ?side2 ?side3 ?side4 A4.out).mono ?_); (case side1 => exact TC HR0_0.out); (case side2 => exact HC0_0.out); (case side3 => exact TC HR0_3.out); (case side4 => exact HC0_3.out); rintro e w10 ⟨rfl, hb⟩; refine ⟨_, rfl, ?_⟩; replace BK186 := Aside0.mk (TKb hb BK186.out); replace BK187 := Aside0.mk (TKb hb BK187.out); replace HB := Aside0.mk (below_step (TB2 GE186.out GE187.out) hb); (try clear hb); (try clear hb2); (try clear hk); (try clear hi); have hcz11_0 := cz BK186.out 0; have hcz11_1 := cz BK186.out 1; have hcz11_2 := cz BK186.out 2; have hcz11_3 := cz BK186.out 3; have hfz11_0 := fz BK186.out 0; have hfz11_1 := fz BK186.out 1; have hfz11_2 := fz BK186.out 2; have hfz11_3 := fz BK186.out 3) | ((with_reducible refine gate_dst (N := 7) rfl ?_); refine box_event ?hg (N := 7) ?hd (cs := #[.slice none 0 0, .int .i64 0, .int .i64 0, .slice none 0 0]) (t := 27) ?hr ?_; (case hd => rfl); (case hg => rfl); (case hr => exact TS); intro gb190 hg w12 hbox hb; have BK190 := Aside0.mk (hbox); have GW190 := Aside0.mk ((TG2 GE186.out GE187.out : w.heap.size ≤ gb190)); have GE190 := Aside0.mk ((TG2 GE186.out GE187.out : w.heap.size ≤ gb190)); have NB186_190 := Aside0.mk ((by rw [hg]; exact Nat.ne_of_lt (blk_lt (g := gb186) (o := .cells #[.slice A0_0 l0_0.length c0_0, .int .i64 a0_1, .int .i64 a0_2, .slice A0_3 l0_3.length c0_3] 27 (0, 0)) (TK BK186.out)) : gb186 ≠ gb190)); have NB190_186 := Aside0.mk ((by rw [hg]; exact Nat.ne_of_gt (blk_lt (g := gb186) (o := .cells #[.slice A0_0 l0_0.length c0_0, .int .i64 a0_1, .int .i64 a0_2, .slice A0_3 l0_3.length c0_3] 27 (0, 0)) (TK BK186.out)) : gb190 ≠ gb186)); have NB187_190 := Aside0.mk ((by rw [hg]; exact Nat.ne_of_lt (blk_lt (g := gb187) (o := .cells #[.int .i64 a2_0, .int .i64 a2_1] 28 (0, 0)) (TK BK187.out)) : gb187 ≠ gb190)); have NB190_187 := Aside0.mk ((by rw [hg]; exact Nat.ne_of_gt (blk_lt (g := gb187) (o := .cells #[.int .i64 a2_0, .int .i64 a2_1] 28 (0, 0)) (TK BK187.out)) : gb190 ≠ gb187)); replace BK186 := Aside0.mk (TKb hb BK186.out); replace BK187 := Aside0.mk (TKb hb BK187.out); replace HB := Aside0.mk (below_step (TB2 GE186.out GE187.out) hb); clear hb hbox hg; have hnb13 := NB190_186.out; have hnc13 := NB186_190.out; have hnb14 := NB190_187.out; have hnc14 := NB187_190.out; have hcz15_0 := cz BK190.out 0; have hcz15_1 := cz BK190.out 1; have hcz15_2 := cz BK190.out 2; have hcz15_3 := cz BK190.out 3; have hfz15_0 := fz BK190.out 0; have hfz15_1 := fz BK190.out 1; have hfz15_2 := fz BK190.out 2; have hfz15_3 := fz BK190.out 3))
  go_loopg [8] k (fun kq v8 w' => ∃ (x8_1 : Int) (x191000_1 : List (S57)) (u191000 : Value), v8 = .int .i64 x8_1 ∧ Aside0 (saronlaw03_RaspSingle.l0 kq l1 x8_1 l0_0 a0_1 a0_2 l0_3 a2_0 a2_1 x191000_1 a0_1 a0_2 l0_3 = some r) ∧ Aside0 (kq ≤ k) ∧ Aside0 (Kd.R k57 57 w' w.heap.size (fun _ => True) u191000 x191000_1) ∧ Aside0 (w'.heap[gb186]? = some (.cells #[(.slice A0_0 l0_0.length c0_0), .int .i64 a0_1, .int .i64 a0_2, (.slice A0_3 l0_3.length c0_3)] 27 (0, 0))) ∧ Aside0 (w'.heap[gb187]? = some (.cells #[.int .i64 a2_0, .int .i64 a2_1] 28 (0, 0))) ∧ Aside0 (w'.heap[gb190]? = some (.cells #[u191000, .int .i64 a0_1, .int .i64 a0_2, (.slice A0_3 l0_3.length c0_3)] 27 (0, 0))) ∧ Aside0 (Below w.heap.size w w'))
  case atStart => exact ⟨(0), (([] : List (S57))), (.slice none 0 0), TT, H', ⟨Nat.le_refl _⟩, ⟨by first | exact Kd.R_nil _ _ _ _ _ | exact Kd.N_nil _ _ _ _ _ | exact Kd.V_nil _ _ _ _ _ | exact Kd.Q_nil _ _ _ _ _ | exact Kd.S_nil _ _ _ _ _⟩, ⟨by (with_reducible repeat (first | refine blk_drewN ?_ _ | refine blk_drew ?_ | refine blk_alloc ?_ _)); refine blk_far ?_ NB186_190.out _; (with_reducible repeat (first | refine blk_drewN ?_ _ | refine blk_drew ?_ | refine blk_alloc ?_ _)); refine blk_far ?_ NB186_190.out _; (with_reducible repeat (first | refine blk_drewN ?_ _ | refine blk_drew ?_ | refine blk_alloc ?_ _)); refine blk_far ?_ NB186_190.out _; (with_reducible repeat (first | refine blk_drewN ?_ _ | refine blk_drew ?_ | refine blk_alloc ?_ _)); refine blk_far ?_ NB186_190.out _; (with_reducible repeat (first | refine blk_drewN ?_ _ | refine blk_drew ?_ | refine blk_alloc ?_ _)); refine blk_far ?_ NB186_190.out _; (with_reducible repeat (first | refine blk_drewN ?_ _ | refine blk_drew ?_ | refine blk_alloc ?_ _)); exact BK186.out⟩, ⟨by (with_reducible repeat (first | refine blk_drewN ?_ _ | refine blk_drew ?_ | refine blk_alloc ?_ _)); refine blk_far ?_ NB187_190.out _; (with_reducible repeat (first | refine blk_drewN ?_ _ | refine blk_drew ?_ | refine blk_alloc ?_ _)); refine blk_far ?_ NB187_190.out _; (with_reducible repeat (first | refine blk_drewN ?_ _ | refine blk_drew ?_ | refine blk_alloc ?_ _)); refine blk_far ?_ NB187_190.out _; (with_reducible repeat (first | refine blk_drewN ?_ _ | refine blk_drew ?_ | refine blk_alloc ?_ _)); refine blk_far ?_ NB187_190.out _; (with_reducible repeat (first | refine blk_drewN ?_ _ | refine blk_drew ?_ | refine blk_alloc ?_ _)); refine blk_far ?_ NB187_190.out _; (with_reducible repeat (first | refine blk_drewN ?_ _ | refine blk_drew ?_ | refine blk_alloc ?_ _)); exact BK187.out⟩, ⟨by (with_reducible repeat (first | refine blk_drewN ?_ _ | refine blk_drew ?_ | refine blk_alloc ?_ _)); refine blk_put (cs := #[.slice A0_0 l0_0.length c0_0, .int .i64 a0_1, .int .i64 a0_2, .slice A0_3 l0_3.length c0_3]) ?_ 0 _ rfl; (with_reducible repeat (first | refine blk_drewN ?_ _ | refine blk_drew ?_ | refine blk_alloc ?_ _)); refine blk_put (cs := #[.slice A0_0 l0_0.length c0_0, .int .i64 a0_1, .int .i64 a0_2, .slice none 0 0]) ?_ 3 _ rfl; (with_reducible repeat (first | refine blk_drewN ?_ _ | refine blk_drew ?_ | refine blk_alloc ?_ _)); refine blk_put (cs := #[.slice A0_0 l0_0.length c0_0, .int .i64 a0_1, .int .i64 0, .slice none 0 0]) ?_ 2 _ rfl; (with_reducible repeat (first | refine blk_drewN ?_ _ | refine blk_drew ?_ | refine blk_alloc ?_ _)); refine blk_put (cs := #[.slice A0_0 l0_0.length c0_0, .int .i64 0, .int .i64 0, .slice none 0 0]) ?_ 1 _ rfl; (with_reducible repeat (first | refine blk_drewN ?_ _ | refine blk_drew ?_ | refine blk_alloc ?_ _)); refine blk_put (cs := #[.slice none 0 0, .int .i64 0, .int .i64 0, .slice none 0 0]) ?_ 0 _ rfl; (with_reducible repeat (first | refine blk_drewN ?_ _ | refine blk_drew ?_ | refine blk_alloc ?_ _)); exact BK190.out⟩, ⟨TB3 GE186.out GE187.out GE190.out⟩⟩
  case round =>
   clear H'
   try clear c1
   try clear p2
   try clear c3
   try clear c5
   try clear c8
   try clear c12
   try clear c13
   try clear c14
   try clear hcz11_0 hcz11_1 hcz11_2 hcz11_3
   try clear hcz15_0 hcz15_1 hcz15_2 hcz15_3
   try clear hcz9_0 hcz9_1 hcz9_2 hcz9_3
   try clear hfz11_0 hfz11_1 hfz11_2 hfz11_3
   try clear hfz15_0 hfz15_1 hfz15_2 hfz15_3
   try clear hfz9_0 hfz9_1 hfz9_2 hfz9_3
   obtain ⟨x8_1, x191000_1, u191000, rfl, HA, HK1, HO_191000, BK186, BK187, BK190, HB⟩ := hrel
   cases gk with
   | zero => exact absurd HA.out (by simp [saronlaw03_RaspSingle.l0])
   | succ k1 =>
    have H := HA.out
    clear HA
    simp only [saronlaw03_RaspSingle.l0] at H
    by_cases c16 : x8_1 < (l0_0.length : Int)
    ·rw [if_pos c16] at H
     have c16b0 : decide (x8_1 < (l0_0.length : Int)) = true := decide_eq_true c16
     clear c16
     by_cases c17 : 0 ≤ x8_1
     ·rw [if_pos c17] at H
      have c17b0 : decide (0 ≤ x8_1) = true := decide_eq_true c17
      clear c17
      replace H := Option.bind_eq_some_iff.mp H
      obtain ⟨t193, A180, H⟩ := H
      replace H : ((saronref00_Draw.f ((rd_T57 l0_0 x8_1).f0.f0) ((rd_T57 l0_0 x8_1).f0.f1) t193).bind fun t194 => ((saronref00_Band.f t194 t194).bind fun bt195 => (if x191000_1.length < 5864062014805 then (saronlaw03_RaspSingle.l0 k1 l1 (wrap64 (x8_1 + 1)) l0_0 a0_1 a0_2 l0_3 a2_0 a2_1 (x191000_1 ++ [(⟨(⟨bt195.1, bt195.2⟩ : S24), (rd_T57 l0_0 x8_1).f1⟩ : S57)]) a0_1 a0_2 l0_3) else (none)))) = some r := H
      have A18 := Aside0.mk A180
      clear A180
      replace H := Option.bind_eq_some_iff.mp H
      obtain ⟨t194, A190, H⟩ := H
      replace H : ((saronref00_Band.f t194 t194).bind fun bt195 => (if x191000_1.length < 5864062014805 then (saronlaw03_RaspSingle.l0 k1 l1 (wrap64 (x8_1 + 1)) l0_0 a0_1 a0_2 l0_3 a2_0 a2_1 (x191000_1 ++ [(⟨(⟨bt195.1, bt195.2⟩ : S24), (rd_T57 l0_0 x8_1).f1⟩ : S57)]) a0_1 a0_2 l0_3) else (none))) = some r := H
      have A19 := Aside0.mk A190
      clear A190
      replace H := Option.bind_eq_some_iff.mp H
      obtain ⟨⟨t195, t196⟩, A200, H⟩ := H
      replace H : (if x191000_1.length < 5864062014805 then (saronlaw03_RaspSingle.l0 k1 l1 (wrap64 (x8_1 + 1)) l0_0 a0_1 a0_2 l0_3 a2_0 a2_1 (x191000_1 ++ [(⟨(⟨t195, t196⟩ : S24), (rd_T57 l0_0 x8_1).f1⟩ : S57)]) a0_1 a0_2 l0_3) else (none)) = some r := H
      have A20 := Aside0.mk A200
      clear A200
      by_cases c21 : x191000_1.length < 5864062014805
      ·rw [if_pos c21] at H
       have LMc21 := Aside0.mk c21
       clear c21
       obtain ⟨y197, hy197⟩ : ∃ y_ : List (S57), y_ = (x191000_1 ++ [(⟨(⟨t195, t196⟩ : S24), (rd_T57 l0_0 x8_1).f1⟩ : S57)]) := ⟨_, rfl⟩
       replace H : (saronlaw03_RaspSingle.l0 k1 l1 (wrap64 (x8_1 + 1)) l0_0 a0_1 a0_2 l0_3 a2_0 a2_1 y197 a0_1 a0_2 l0_3) = some r := by first | (rw [hy197]; with_reducible exact H) | (have H2_ := (Option.bind_some _ _).symm.trans H; rw [hy197]; with_reducible exact H2_) | (have H2_ := (Option.bind_some _ _).symm.trans H; with_reducible exact H2_) | with_reducible exact H | (rw [hy197]; exact H) | exact H
       have Ny197 := Aside0.mk hy197
       clear hy197
       have H' := Aside0.mk H
       clear H
       have hnb22 := NB186_187.out
       have hnc22 := NB187_186.out
       have hnb23 := NB186_190.out
       have hnc23 := NB190_186.out
       have hcz24_0 := cz BK186.out 0
       have hcz24_1 := cz BK186.out 1
       have hcz24_2 := cz BK186.out 2
       have hcz24_3 := cz BK186.out 3
       have hfz24_0 := fz BK186.out 0
       have hfz24_1 := fz BK186.out 1
       have hfz24_2 := fz BK186.out 2
       have hfz24_3 := fz BK186.out 3
       have p191 : 0 ≤ (x8_1 : Int) := of_decide_eq_true TA
       have q191 : x8_1 < (l0_0.length : Int) := of_decide_eq_true TA
       obtain ⟨ad191, e191, hx191_0, hx191_1, hx191_2⟩ := at_T57 HR0_0.out x8_1 p191 q191
       cases e191
       replace hx191_0 := hx HB.out hx191_0
       replace hx191_1 := hx HB.out hx191_1
       replace hx191_2 := hx HB.out hx191_2
       replace p191 := eq_true p191
       replace q191 := eq_true q191
       try go_wp2_with (first | ((with_reducible refine gate_dst (N := 9) rfl ?_); refine box_event ?hg (N := 9) ?hd (cs := #[.int .i64 0, .int .i64 0, .int .i64 0]) (t := 57) ?hr ?_; (case hd => rfl); (case hg => rfl); (case hr => exact TS); intro gb192 hg w25 hbox hb; have BK192 := Aside0.mk (hbox); have GW192 := Aside0.mk ((TG3 GE186.out GE187.out GE190.out : w.heap.size ≤ gb192)); have GE192 := Aside0.mk ((TG3 GE186.out GE187.out GE190.out : w.heap.size ≤ gb192)); have NB186_192 := Aside0.mk ((by rw [hg]; exact Nat.ne_of_lt (blk_lt (g := gb186) (o := .cells #[.slice (some ad191) l0_0.length c0_0, .int .i64 a0_1, .int .i64 a0_2, .slice A0_3 l0_3.length c0_3] 27 (0, 0)) (TK BK186.out)) : gb186 ≠ gb192)); have NB192_186 := Aside0.mk ((by rw [hg]; exact Nat.ne_of_gt (blk_lt (g := gb186) (o := .cells #[.slice (some ad191) l0_0.length c0_0, .int .i64 a0_1, .int .i64 a0_2, .slice A0_3 l0_3.length c0_3] 27 (0, 0)) (TK BK186.out)) : gb192 ≠ gb186)); have NB187_192 := Aside0.mk ((by rw [hg]; exact Nat.ne_of_lt (blk_lt (g := gb187) (o := .cells #[.int .i64 a2_0, .int .i64 a2_1] 28 (0, 0)) (TK BK187.out)) : gb187 ≠ gb192)); have NB192_187 := Aside0.mk ((by rw [hg]; exact Nat.ne_of_gt (blk_lt (g := gb187) (o := .cells #[.int .i64 a2_0, .int .i64 a2_1] 28 (0, 0)) (TK BK187.out)) : gb192 ≠ gb187)); have NB190_192 := Aside0.mk ((by rw [hg]; exact Nat.ne_of_lt (blk_lt (g := gb190) (o := .cells #[u191000, .int .i64 a0_1, .int .i64 a0_2, .slice A0_3 l0_3.length c0_3] 27 (0, 0)) (TK BK190.out)) : gb190 ≠ gb192)); have NB192_190 := Aside0.mk ((by rw [hg]; exact Nat.ne_of_gt (blk_lt (g := gb190) (o := .cells #[u191000, .int .i64 a0_1, .int .i64 a0_2, .slice A0_3 l0_3.length c0_3] 27 (0, 0)) (TK BK190.out)) : gb192 ≠ gb190)); replace HO_191000 := Aside0.mk (Kd.R_below (Kd.R_elderB (TRo HO_191000.out) gb192 (Nat.le_of_eq hg.symm)) hb); replace BK186 := Aside0.mk (TKb hb BK186.out); replace BK187 := Aside0.mk (TKb hb BK187.out); replace BK190 := Aside0.mk (TKb hb BK190.out); replace HB := Aside0.mk (below_step (TB3 GE186.out GE187.out GE190.out) hb); clear hb hbox hg; have hnb26 := NB192_186.out; have hnc26 := NB186_192.out; have hnb27 := NB192_187.out; have hnc27 := NB187_192.out; have hnb28 := NB192_190.out; have hnc28 := NB190_192.out; have hcz29_0 := cz BK192.out 0; have hcz29_1 := cz BK192.out 1; have hcz29_2 := cz BK192.out 2; have hfz29_0 := fz BK192.out 0; have hfz29_1 := fz BK192.out 1; have hfz29_2 := fz BK192.out 2))
       have n0_ : Aside0 (Kd.R k57 57 (((w25.setCell ⟨gb192, 0, none⟩ (.int .i64 ((rd_T57 l0_0 x8_1).f0.f0))).setCell ⟨gb192, 1, none⟩ (.int .i64 ((rd_T57 l0_0 x8_1).f0.f1))).setCell ⟨gb192, 2, none⟩ (.int .i64 ((rd_T57 l0_0 x8_1).f1))) w.heap.size (fun k_ => k_ ≠ gb192) u191000 x191000_1) := ⟨by (with_reducible repeat (first | apply Kd.R_alloc | apply Kd.R_drewN | apply Kd.R_drew)); exact Kd.R_mono (Kd.R_far (p := ⟨gb192, 2, none⟩) (Kd.R_far (p := ⟨gb192, 1, none⟩) (Kd.R_far (p := ⟨gb192, 0, none⟩) (Kd.R_mono HO_191000.out (fun k_ hk => (⟨hk, hk.2⟩ : _ ∧ k_ ≠ gb192))) (fun _ hk => hk.2) (.int .i64 ((rd_T57 l0_0 x8_1).f0.f0))) (fun _ hk => hk.2) (.int .i64 ((rd_T57 l0_0 x8_1).f0.f1))) (fun _ hk => hk.2) (.int .i64 ((rd_T57 l0_0 x8_1).f1))) (fun _ hk => hk.1.2)⟩
       have n1_ : Aside0 ((((w25.setCell ⟨gb192, 0, none⟩ (.int .i64 ((rd_T57 l0_0 x8_1).f0.f0))).setCell ⟨gb192, 1, none⟩ (.int .i64 ((rd_T57 l0_0 x8_1).f0.f1))).setCell ⟨gb192, 2, none⟩ (.int .i64 ((rd_T57 l0_0 x8_1).f1))).heap[gb186]? = some (.cells #[.slice (some ad191) l0_0.length c0_0, .int .i64 a0_1, .int .i64 a0_2, .slice A0_3 l0_3.length c0_3] 27 (0, 0))) := ⟨by (with_reducible repeat (first | refine blk_drewN ?_ _ | refine blk_drew ?_ | refine blk_alloc ?_ _)); refine blk_far ?_ NB186_192.out _; (with_reducible repeat (first | refine blk_drewN ?_ _ | refine blk_drew ?_ | refine blk_alloc ?_ _)); refine blk_far ?_ NB186_192.out _; (with_reducible repeat (first | refine blk_drewN ?_ _ | refine blk_drew ?_ | refine blk_alloc ?_ _)); refine blk_far ?_ NB186_192.out _; (with_reducible repeat (first | refine blk_drewN ?_ _ | refine blk_drew ?_ | refine blk_alloc ?_ _)); exact BK186.out⟩
       have n2_ : Aside0 ((((w25.setCell ⟨gb192, 0, none⟩ (.int .i64 ((rd_T57 l0_0 x8_1).f0.f0))).setCell ⟨gb192, 1, none⟩ (.int .i64 ((rd_T57 l0_0 x8_1).f0.f1))).setCell ⟨gb192, 2, none⟩ (.int .i64 ((rd_T57 l0_0 x8_1).f1))).heap[gb187]? = some (.cells #[.int .i64 a2_0, .int .i64 a2_1] 28 (0, 0))) := ⟨by (with_reducible repeat (first | refine blk_drewN ?_ _ | refine blk_drew ?_ | refine blk_alloc ?_ _)); refine blk_far ?_ NB187_192.out _; (with_reducible repeat (first | refine blk_drewN ?_ _ | refine blk_drew ?_ | refine blk_alloc ?_ _)); refine blk_far ?_ NB187_192.out _; (with_reducible repeat (first | refine blk_drewN ?_ _ | refine blk_drew ?_ | refine blk_alloc ?_ _)); refine blk_far ?_ NB187_192.out _; (with_reducible repeat (first | refine blk_drewN ?_ _ | refine blk_drew ?_ | refine blk_alloc ?_ _)); exact BK187.out⟩
       have n3_ : Aside0 ((((w25.setCell ⟨gb192, 0, none⟩ (.int .i64 ((rd_T57 l0_0 x8_1).f0.f0))).setCell ⟨gb192, 1, none⟩ (.int .i64 ((rd_T57 l0_0 x8_1).f0.f1))).setCell ⟨gb192, 2, none⟩ (.int .i64 ((rd_T57 l0_0 x8_1).f1))).heap[gb190]? = some (.cells #[u191000, .int .i64 a0_1, .int .i64 a0_2, .slice A0_3 l0_3.length c0_3] 27 (0, 0))) := ⟨by (with_reducible repeat (first | refine blk_drewN ?_ _ | refine blk_drew ?_ | refine blk_alloc ?_ _)); refine blk_far ?_ NB190_192.out _; (with_reducible repeat (first | refine blk_drewN ?_ _ | refine blk_drew ?_ | refine blk_alloc ?_ _)); refine blk_far ?_ NB190_192.out _; (with_reducible repeat (first | refine blk_drewN ?_ _ | refine blk_drew ?_ | refine blk_alloc ?_ _)); refine blk_far ?_ NB190_192.out _; (with_reducible repeat (first | refine blk_drewN ?_ _ | refine blk_drew ?_ | refine blk_alloc ?_ _)); exact BK190.out⟩
       have n4_ : Aside0 ((((w25.setCell ⟨gb192, 0, none⟩ (.int .i64 ((rd_T57 l0_0 x8_1).f0.f0))).setCell ⟨gb192, 1, none⟩ (.int .i64 ((rd_T57 l0_0 x8_1).f0.f1))).setCell ⟨gb192, 2, none⟩ (.int .i64 ((rd_T57 l0_0 x8_1).f1))).heap[gb192]? = some (.cells #[.int .i64 ((rd_T57 l0_0 x8_1).f0.f0), .int .i64 ((rd_T57 l0_0 x8_1).f0.f1), .int .i64 ((rd_T57 l0_0 x8_1).f1)] 57 (0, 0))) := ⟨by (with_reducible repeat (first | refine blk_drewN ?_ _ | refine blk_drew ?_ | refine blk_alloc ?_ _)); refine blk_put (cs := #[.int .i64 ((rd_T57 l0_0 x8_1).f0.f0), .int .i64 ((rd_T57 l0_0 x8_1).f0.f1), .int .i64 0]) ?_ 2 _ rfl; (with_reducible repeat (first | refine blk_drewN ?_ _ | refine blk_drew ?_ | refine blk_alloc ?_ _)); refine blk_put (cs := #[.int .i64 ((rd_T57 l0_0 x8_1).f0.f0), .int .i64 0, .int .i64 0]) ?_ 1 _ rfl; (with_reducible repeat (first | refine blk_drewN ?_ _ | refine blk_drew ?_ | refine blk_alloc ?_ _)); refine blk_put (cs := #[.int .i64 0, .int .i64 0, .int .i64 0]) ?_ 0 _ rfl; (with_reducible repeat (first | refine blk_drewN ?_ _ | refine blk_drew ?_ | refine blk_alloc ?_ _)); exact BK192.out⟩
       have n5_ : Aside0 (Below w.heap.size w (((w25.setCell ⟨gb192, 0, none⟩ (.int .i64 ((rd_T57 l0_0 x8_1).f0.f0))).setCell ⟨gb192, 1, none⟩ (.int .i64 ((rd_T57 l0_0 x8_1).f0.f1))).setCell ⟨gb192, 2, none⟩ (.int .i64 ((rd_T57 l0_0 x8_1).f1)))) := ⟨by repeat (first | (with_reducible first | exact HB.out | apply below_alloc | apply pw_below_drewN | apply below_drew1 | refine below_set ?_ GE186.out | refine below_set ?_ GE187.out | refine below_set ?_ GE190.out | refine below_set ?_ GE192.out) | exact HB.out)⟩
       (try clear HO_191000)
       (try clear BK186)
       (try clear BK187)
       (try clear BK190)
       (try clear BK192)
       (try clear HB)
       generalize (((w25.setCell ⟨gb192, 0, none⟩ (.int .i64 ((rd_T57 l0_0 x8_1).f0.f0))).setCell ⟨gb192, 1, none⟩ (.int .i64 ((rd_T57 l0_0 x8_1).f0.f1))).setCell ⟨gb192, 2, none⟩ (.int .i64 ((rd_T57 l0_0 x8_1).f1))) = w30 at n0_ n1_ n2_ n3_ n4_ n5_ ⊢
       have HO_191000 := n0_
       have BK186 := n1_
       have BK187 := n2_
       have BK190 := n3_
       have BK192 := n4_
       have HB := n5_
       clear n0_ n1_ n2_ n3_ n4_ n5_
       have n0_ := Aside0.mk (Kd.R_drew HO_191000.out)
       have n1_ := Aside0.mk (blk_drew BK186.out)
       have n2_ := Aside0.mk (blk_drew BK187.out)
       have n3_ := Aside0.mk (blk_drew BK190.out)
       have n4_ := Aside0.mk (blk_drew BK192.out)
       have n5_ := Aside0.mk (below_drew1 HB.out)
       clear HO_191000
       clear BK186
       clear BK187
       clear BK190
       clear BK192
       clear HB
       have HO_191000 := n0_
       have BK186 := n1_
       have BK187 := n2_
       have BK190 := n3_
       have BK192 := n4_
       have HB := n5_
       clear n0_ n1_ n2_ n3_ n4_ n5_
       refine start_ (n := 7) (S := fun w' => w'.cell? ⟨gb192, 0, none⟩ = some (.int .i64 ((rd_T57 l0_0 x8_1).f0.f0)) ∧ w'.cell? ⟨gb192, 1, none⟩ = some (.int .i64 ((rd_T57 l0_0 x8_1).f0.f1)) ∧ w'.cell? ⟨gb192, 2, none⟩ = some (.int .i64 ((rd_T57 l0_0 x8_1).f1))) (ds := []) (.replicate 7 false) (by kernel_rfl) rfl rfl ⟨cz BK192.out 0, cz BK192.out 1, cz BK192.out 2⟩ (fun hHeld => ?_)
       generalize w30.drew = w31 at HO_191000 BK186 BK187 BK190 BK192 HB hHeld ⊢
       refine pu 0 38 (bt 7 1) (k := ?_)
       refine pu 2 40 (bt 7 5) (k := ?_)
       refine pu 3 41 (bt 7 13) (k := ?_)
       refine tk3 1 39 (bt 7 15) hHeld (k := ?_)
       refine oN 4 42 (bt 7 31) (h := fun K hK => ?_)
       refine goes_ Tryd.func42 (by kernel_rfl) rfl #[.slice A1 l1.length c1, .int .i64 x8_1] (by rfl) rfl rfl TM ?_
       with_reducible refine (saronref00_Nth.calls _ _ l1 x8_1 t193 _ ?side1 ?side2 A18.out).mono ?_
       (case side1 => exact TC HR1.out)
       (case side2 => exact HC1.out)
       rintro e w' ⟨rfl, ⟨nd, rfl⟩⟩
       refine ⟨_, rfl, ?_⟩
       refine hK.out _ _ ⟨cz BK192.out 0, cz BK192.out 1, cz BK192.out 2⟩ (fun hHeld => ?_)
       clear hK K
       refine norm_ (a' := ?_) ?_ ?_
       rotate_left
       ·show Act.put _ (some 42) _ = _
        simp only [Act.put, lA, lZ, lS, i64_w, i32_w]
        rfl
       refine oN 5 43 (bt 7 63) (h := fun K hK => ?_)
       refine goes_ Tryd.func41 (by kernel_rfl) rfl #[.agg #[.int .i64 ((rd_T57 l0_0 x8_1).f0.f0), .int .i64 ((rd_T57 l0_0 x8_1).f0.f1)], .int .i64 t193] (by rfl) rfl rfl TM ?_
       with_reducible refine (saronref00_Draw.calls ((rd_T57 l0_0 x8_1).f0.f0) ((rd_T57 l0_0 x8_1).f0.f1) t193 t194 _ A19.out).mono ?_
       rintro e w32 ⟨rfl, hb⟩
       refine ⟨_, rfl, ?_⟩
       have n0_ := Aside0.mk (Kd.R_below (TRo HO_191000.out) hb)
       have n1_ := Aside0.mk (TKb hb BK186.out)
       have n2_ := Aside0.mk (TKb hb BK187.out)
       have n3_ := Aside0.mk (TKb hb BK190.out)
       have n4_ := Aside0.mk (TKb hb BK192.out)
       have n5_ := Aside0.mk (below_step (by repeat (first | (with_reducible first | exact HB.out | apply below_alloc | apply pw_below_drewN | apply below_drew1 | refine below_set ?_ GE186.out | refine below_set ?_ GE187.out | refine below_set ?_ GE190.out | refine below_set ?_ GE192.out) | exact HB.out)) hb)
       clear HO_191000
       clear BK186
       clear BK187
       clear BK190
       clear BK192
       clear HB
       have HO_191000 := n0_
       have BK186 := n1_
       have BK187 := n2_
       have BK190 := n3_
       have BK192 := n4_
       have HB := n5_
       clear n0_ n1_ n2_ n3_ n4_ n5_
       (try clear hb)
       (try clear hb2)
       (try clear hk)
       (try clear hi)
       refine hK.out _ _ ⟨cz BK192.out 0, cz BK192.out 1, cz BK192.out 2⟩ (fun hHeld => ?_)
       clear hK K
       refine norm_ (a' := ?_) ?_ ?_
       rotate_left
       ·show Act.put _ (some 43) _ = _
        simp only [Act.put, lA, lZ, lS, i64_w, i32_w]
        rfl
       refine pu 6 10 (bt 7 127) (k := ?_)
       refine done_ (by kernel_rfl) ?_
       try go_wp2_with (first | ((with_reducible refine gate_callee (f := 44) rfl ?_); refine goesL_ (some 46) rfl rfl Tryd.func44 (by kernel_rfl) rfl #[.int .i64 t194, .int .i64 t194] rfl TM ?_; (with_reducible refine (saronref00_Band.calls t194 t194 t195 t196 _ A20.out).mono ?_); rintro e w33 ⟨rfl, hb⟩; refine ⟨_, rfl, ?_⟩; replace HO_191000 := Aside0.mk (Kd.R_below (TRo HO_191000.out) hb); replace BK186 := Aside0.mk (TKb hb BK186.out); replace BK187 := Aside0.mk (TKb hb BK187.out); replace BK190 := Aside0.mk (TKb hb BK190.out); replace BK192 := Aside0.mk (TKb hb BK192.out); replace HB := Aside0.mk (below_step (by repeat (first | (with_reducible first | exact HB.out | apply below_alloc | apply pw_below_drewN | apply below_drew1 | refine below_set ?_ GE186.out | refine below_set ?_ GE187.out | refine below_set ?_ GE190.out | refine below_set ?_ GE192.out) | exact HB.out)) hb); (try clear hb); (try clear hb2); (try clear hk); (try clear hi); have hcz34_0 := cz BK192.out 0; have hcz34_1 := cz BK192.out 1; have hcz34_2 := cz BK192.out 2; have hfz34_0 := fz BK192.out 0; have hfz34_1 := fz BK192.out 1; have hfz34_2 := fz BK192.out 2; have hnb35 := NB190_187.out; have hnc35 := NB187_190.out; have hcz36_0 := cz BK190.out 0; have hcz36_1 := cz BK190.out 1; have hcz36_2 := cz BK190.out 2; have hcz36_3 := cz BK190.out 3; have hfz36_0 := fz BK190.out 0; have hfz36_1 := fz BK190.out 1; have hfz36_2 := fz BK190.out 2; have hfz36_3 := fz BK190.out 3) | ((with_reducible refine gate_builtin (b := .append) (xs := #[.tmp 49, .tmp 51]) rfl ?_); at_builtin; refine Kd.R_append k57 (w0 := w) w.heap.size rfl (.tmp 49) (.tmp 51) 22 57 (.agg #[(.int .i64 0), (.int .i64 0), (.int .i64 0)]) 24 rfl Tryd.underlying22 info57 rfl (by decide) (by omega) u191000 x191000_1 (⟨(⟨t195, t196⟩ : S24), (rd_T57 l0_0 x8_1).f1⟩ : S57) [.int .i64 t195, .int .i64 t196, .int .i64 ((rd_T57 l0_0 x8_1).f1)] (fun k_ => k_ ≠ gb192) (fun _ => False) rfl (by first | (go_simp; done) | (go_simp; rfl)) ?aP (fun _ hk => hk.elim) ?aF ?aO ?aB ?aS ?aL ?_; (case aP => exact k57_mkM _ _ _ (⟨(⟨t195, t196⟩ : S24), (rd_T57 l0_0 x8_1).f1⟩ : S57)); (case aB => exact (by repeat (first | (with_reducible first | exact HB.out | apply below_alloc | apply pw_below_drewN | apply below_drew1 | refine below_set ?_ GE186.out | refine below_set ?_ GE187.out | refine below_set ?_ GE190.out | refine below_set ?_ GE192.out) | exact HB.out))); (case aF => exact (fun k_ hk => Kd.freshB (g := gb192) (o := .cells #[.int .i64 t195, .int .i64 t196, .int .i64 ((rd_T57 l0_0 x8_1).f1)] 57 (0, 0)) (by (with_reducible repeat (first | refine blk_drewN ?_ _ | refine blk_drew ?_ | refine blk_alloc ?_ _)); refine blk_put (cs := #[.int .i64 t195, .int .i64 ((rd_T57 l0_0 x8_1).f0.f1), .int .i64 ((rd_T57 l0_0 x8_1).f1)]) ?_ 1 _ rfl; (with_reducible repeat (first | refine blk_drewN ?_ _ | refine blk_drew ?_ | refine blk_alloc ?_ _)); refine blk_put (cs := #[.int .i64 ((rd_T57 l0_0 x8_1).f0.f0), .int .i64 ((rd_T57 l0_0 x8_1).f0.f1), .int .i64 ((rd_T57 l0_0 x8_1).f1)]) ?_ 0 _ rfl; (with_reducible repeat (first | refine blk_drewN ?_ _ | refine blk_drew ?_ | refine blk_alloc ?_ _)); exact BK192.out) k_ hk)); (case aO => exact (by (with_reducible repeat (first | apply Kd.R_alloc | apply Kd.R_drewN | apply Kd.R_drew)); exact Kd.R_mono (Kd.R_far (p := ⟨gb192, 1, none⟩) (Kd.R_far (p := ⟨gb192, 0, none⟩) (Kd.R_mono HO_191000.out (fun k_ hk => (⟨hk, hk⟩ : _ ∧ k_ ≠ gb192))) (fun _ hk => hk.2) (.int .i64 t195)) (fun _ hk => hk.2) (.int .i64 t196)) (fun _ hk => hk.1))); (case aS => exact (below_size (by repeat (first | (with_reducible first | exact HB.out | apply below_alloc | apply pw_below_drewN | apply below_drew1 | refine below_set ?_ GE186.out | refine below_set ?_ GE187.out | refine below_set ?_ GE190.out | refine below_set ?_ GE192.out) | exact HB.out)))); (case aL => have := LMc21.out; omega); intro v198 w37 ho hb hg hat; rw [← Ny197.out] at ho; have HO199 := Aside0.mk (ho); replace BK186 := Aside0.mk (blk_grown (g := gb186) (o := .cells #[.slice (some ad191) l0_0.length c0_0, .int .i64 a0_1, .int .i64 a0_2, .slice A0_3 l0_3.length c0_3] 27 (0, 0)) (by (with_reducible repeat (first | refine blk_drewN ?_ _ | refine blk_drew ?_ | refine blk_alloc ?_ _)); refine blk_far ?_ NB186_192.out _; (with_reducible repeat (first | refine blk_drewN ?_ _ | refine blk_drew ?_ | refine blk_alloc ?_ _)); refine blk_far ?_ NB186_192.out _; (with_reducible repeat (first | refine blk_drewN ?_ _ | refine blk_drew ?_ | refine blk_alloc ?_ _)); exact BK186.out) hg (Kd.R_ne HO_191000.out BK186.out (by decide))); replace BK187 := Aside0.mk (blk_grown (g := gb187) (o := .cells #[.int .i64 a2_0, .int .i64 a2_1] 28 (0, 0)) (by (with_reducible repeat (first | refine blk_drewN ?_ _ | refine blk_drew ?_ | refine blk_alloc ?_ _)); refine blk_far ?_ NB187_192.out _; (with_reducible repeat (first | refine blk_drewN ?_ _ | refine blk_drew ?_ | refine blk_alloc ?_ _)); refine blk_far ?_ NB187_192.out _; (with_reducible repeat (first | refine blk_drewN ?_ _ | refine blk_drew ?_ | refine blk_alloc ?_ _)); exact BK187.out) hg (Kd.R_ne HO_191000.out BK187.out (by decide))); replace BK190 := Aside0.mk (blk_grown (g := gb190) (o := .cells #[u191000, .int .i64 a0_1, .int .i64 a0_2, .slice A0_3 l0_3.length c0_3] 27 (0, 0)) (by (with_reducible repeat (first | refine blk_drewN ?_ _ | refine blk_drew ?_ | refine blk_alloc ?_ _)); refine blk_far ?_ NB190_192.out _; (with_reducible repeat (first | refine blk_drewN ?_ _ | refine blk_drew ?_ | refine blk_alloc ?_ _)); refine blk_far ?_ NB190_192.out _; (with_reducible repeat (first | refine blk_drewN ?_ _ | refine blk_drew ?_ | refine blk_alloc ?_ _)); exact BK190.out) hg (Kd.R_ne HO_191000.out BK190.out (by decide))); replace BK192 := Aside0.mk (blk_grown (g := gb192) (o := .cells #[.int .i64 t195, .int .i64 t196, .int .i64 ((rd_T57 l0_0 x8_1).f1)] 57 (0, 0)) (by (with_reducible repeat (first | refine blk_drewN ?_ _ | refine blk_drew ?_ | refine blk_alloc ?_ _)); refine blk_put (cs := #[.int .i64 t195, .int .i64 ((rd_T57 l0_0 x8_1).f0.f1), .int .i64 ((rd_T57 l0_0 x8_1).f1)]) ?_ 1 _ rfl; (with_reducible repeat (first | refine blk_drewN ?_ _ | refine blk_drew ?_ | refine blk_alloc ?_ _)); refine blk_put (cs := #[.int .i64 ((rd_T57 l0_0 x8_1).f0.f0), .int .i64 ((rd_T57 l0_0 x8_1).f0.f1), .int .i64 ((rd_T57 l0_0 x8_1).f1)]) ?_ 0 _ rfl; (with_reducible repeat (first | refine blk_drewN ?_ _ | refine blk_drew ?_ | refine blk_alloc ?_ _)); exact BK192.out) hg (Kd.R_away HO_191000.out (fun _ hk => hk))); replace HB := Aside0.mk (hb); clear HO_191000; clear ho hb hg hat; obtain ⟨Ao38, co38, eo38⟩ := Kd.R_slice HO199.out; subst eo38; have hcz39_0 := cz BK190.out 0; have hcz39_1 := cz BK190.out 1; have hcz39_2 := cz BK190.out 2; have hcz39_3 := cz BK190.out 3; have hfz39_0 := fz BK190.out 0; have hfz39_1 := fz BK190.out 1; have hfz39_2 := fz BK190.out 2; have hfz39_3 := fz BK190.out 3))
       go_roundg k1
       case measure => have := HK1.out; omega
       case rel => exact ⟨(wrap64 (x8_1 + 1)), (y197), (.slice Ao38 y197.length co38), TT, H', ⟨by have := HK1.out; omega⟩, ⟨by (with_reducible repeat (first | apply Kd.R_alloc | apply Kd.R_drewN | apply Kd.R_drew)); exact Kd.R_mono (Kd.R_far (p := ⟨gb190, 0, none⟩) (Kd.R_types HO199.out BK190.out (by decide)) (fun _ hk => hk.2) (.slice Ao38 y197.length co38)) (fun _ hk => trivial)⟩, ⟨by (with_reducible repeat (first | refine blk_drewN ?_ _ | refine blk_drew ?_ | refine blk_alloc ?_ _)); refine blk_far ?_ NB186_190.out _; (with_reducible repeat (first | refine blk_drewN ?_ _ | refine blk_drew ?_ | refine blk_alloc ?_ _)); exact BK186.out⟩, ⟨by (with_reducible repeat (first | refine blk_drewN ?_ _ | refine blk_drew ?_ | refine blk_alloc ?_ _)); refine blk_far ?_ NB187_190.out _; (with_reducible repeat (first | refine blk_drewN ?_ _ | refine blk_drew ?_ | refine blk_alloc ?_ _)); exact BK187.out⟩, ⟨by (with_reducible repeat (first | refine blk_drewN ?_ _ | refine blk_drew ?_ | refine blk_alloc ?_ _)); refine blk_put (cs := #[u191000, .int .i64 a0_1, .int .i64 a0_2, .slice A0_3 l0_3.length c0_3]) ?_ 0 _ rfl; (with_reducible repeat (first | refine blk_drewN ?_ _ | refine blk_drew ?_ | refine blk_alloc ?_ _)); exact BK190.out⟩, ⟨by repeat (first | (with_reducible first | exact HB.out | apply below_alloc | apply pw_below_drewN | apply below_drew1 | refine below_set ?_ GE186.out | refine below_set ?_ GE187.out | refine below_set ?_ GE190.out | refine below_set ?_ GE192.out) | exact HB.out)⟩⟩
      ·rw [if_neg c21] at H
       exact absurd H (by simp)
     ·rw [if_neg c17] at H
      exact absurd H (by simp)
    ·rw [if_neg c16] at H
     have c16b0 : decide (x8_1 < (l0_0.length : Int)) = false := decide_eq_false c16
     clear c16
     replace H := Option.bind_eq_some_iff.mp H
     obtain ⟨⟨t200, t201⟩, A400, H⟩ := H
     replace H : ((rasp_Next.f x191000_1 a0_1 a0_2 l0_3 t200 t201).bind fun bt202 => ((rasp_Lucky.f x191000_1 a0_1 a0_2 l0_3 t200 t201).bind fun bt205 => ((rasp_Lucky.f l0_0 a0_1 a0_2 l0_3 t200 t201).bind fun bt207 => (if bt202.2.1 = bt205.1 then (if bt202.2.2 = bt205.2 then (if bt205.2 = 0 then (if bt207.2 = 0 then (if bt207.1 ≤ bt205.1 then ((saronlaw03_filed.f).bind fun t209 => (some t209)) else (some false)) else (some false)) else (if bt207.2 = 0 then ((saronlaw03_filed.f).bind fun t210 => (some t210)) else (if bt207.2 = 4 then ((saronlaw03_filed.f).bind fun t211 => (some t211)) else (some false)))) else (some false)) else (some false))))) = some r := H
     have A40 := Aside0.mk A400
     clear A400
     replace H := Option.bind_eq_some_iff.mp H
     obtain ⟨⟨t202, t203, t204⟩, A410, H⟩ := H
     replace H : ((rasp_Lucky.f x191000_1 a0_1 a0_2 l0_3 t200 t201).bind fun bt205 => ((rasp_Lucky.f l0_0 a0_1 a0_2 l0_3 t200 t201).bind fun bt207 => (if t203 = bt205.1 then (if t204 = bt205.2 then (if bt205.2 = 0 then (if bt207.2 = 0 then (if bt207.1 ≤ bt205.1 then ((saronlaw03_filed.f).bind fun t209 => (some t209)) else (some false)) else (some false)) else (if bt207.2 = 0 then ((saronlaw03_filed.f).bind fun t210 => (some t210)) else (if bt207.2 = 4 then ((saronlaw03_filed.f).bind fun t211 => (some t211)) else (some false)))) else (some false)) else (some false)))) = some r := H
     have A41 := Aside0.mk A410
     clear A410
     replace H := Option.bind_eq_some_iff.mp H
     obtain ⟨⟨t205, t206⟩, A420, H⟩ := H
     replace H : ((rasp_Lucky.f l0_0 a0_1 a0_2 l0_3 t200 t201).bind fun bt207 => (if t203 = t205 then (if t204 = t206 then (if t206 = 0 then (if bt207.2 = 0 then (if bt207.1 ≤ t205 then ((saronlaw03_filed.f).bind fun t209 => (some t209)) else (some false)) else (some false)) else (if bt207.2 = 0 then ((saronlaw03_filed.f).bind fun t210 => (some t210)) else (if bt207.2 = 4 then ((saronlaw03_filed.f).bind fun t211 => (some t211)) else (some false)))) else (some false)) else (some false))) = some r := H
     have A42 := Aside0.mk A420
     clear A420
     replace H := Option.bind_eq_some_iff.mp H
     obtain ⟨⟨t207, t208⟩, A430, H⟩ := H
     replace H : (if t203 = t205 then (if t204 = t206 then (if t206 = 0 then (if t208 = 0 then (if t207 ≤ t205 then ((saronlaw03_filed.f).bind fun t209 => (some t209)) else (some false)) else (some false)) else (if t208 = 0 then ((saronlaw03_filed.f).bind fun t210 => (some t210)) else (if t208 = 4 then ((saronlaw03_filed.f).bind fun t211 => (some t211)) else (some false)))) else (some false)) else (some false)) = some r := H
     have A43 := Aside0.mk A430
     clear A430
     by_cases c44 : t203 = t205
     ·rw [if_pos c44] at H
      have c44b0 : (t203 == t205) = true := beq_iff_eq.mpr c44
      have c44b1 : (t203 != t205) = false := bne_eq_false_iff_eq.mpr c44
      clear c44
      by_cases c45 : t204 = t206
      ·rw [if_pos c45] at H
       have c45b0 : (t204 == t206) = true := beq_iff_eq.mpr c45
       have c45b1 : (t204 != t206) = false := bne_eq_false_iff_eq.mpr c45
       clear c45
       by_cases c46 : t206 = 0
       ·rw [if_pos c46] at H
        have c46b0 : (t206 == 0) = true := beq_iff_eq.mpr c46
        have c46b1 : (t206 != 0) = false := bne_eq_false_iff_eq.mpr c46
        clear c46
        by_cases c47 : t208 = 0
        ·rw [if_pos c47] at H
         have c47b0 : (t208 == 0) = true := beq_iff_eq.mpr c47
         have c47b1 : (t208 != 0) = false := bne_eq_false_iff_eq.mpr c47
         clear c47
         by_cases c48 : t207 ≤ t205
         ·rw [if_pos c48] at H
          have c48b0 : decide (t207 ≤ t205) = true := decide_eq_true c48
          clear c48
          replace H := Option.bind_eq_some_iff.mp H
          obtain ⟨t209, A490, H⟩ := H
          replace H : (some t209) = some r := H
          have A49 := Aside0.mk A490
          clear A490
          obtain rfl := Option.some.inj H
          have hnb50 := NB186_187.out
          have hnc50 := NB187_186.out
          have hnb51 := NB186_190.out
          have hnc51 := NB190_186.out
          have hcz52_0 := cz BK186.out 0
          have hcz52_1 := cz BK186.out 1
          have hcz52_2 := cz BK186.out 2
          have hcz52_3 := cz BK186.out 3
          have hfz52_0 := fz BK186.out 0
          have hfz52_1 := fz BK186.out 1
          have hfz52_2 := fz BK186.out 2
          have hfz52_3 := fz BK186.out 3
          have hnb53 := NB187_190.out
          have hnc53 := NB190_187.out
          have hcz54_0 := cz BK187.out 0
          have hcz54_1 := cz BK187.out 1
          have hfz54_0 := fz BK187.out 0
          have hfz54_1 := fz BK187.out 1
          go_wp2_with (first | ((with_reducible refine gate_callee (f := 38) rfl ?_); refine goesL_ (some 56) rfl rfl Tryd.func38 (by kernel_rfl) rfl #[.agg #[.int .i64 a2_0, .int .i64 a2_1]] rfl TM ?_; (with_reducible refine (saronlaw03_state.calls a2_0 a2_1 t200 t201 _ A40.out).mono ?_); rintro e w55 ⟨rfl, hb⟩; refine ⟨_, rfl, ?_⟩; replace HO_191000 := Aside0.mk (Kd.R_below (TRo HO_191000.out) hb); replace BK186 := Aside0.mk (TKb hb BK186.out); replace BK187 := Aside0.mk (TKb hb BK187.out); replace BK190 := Aside0.mk (TKb hb BK190.out); replace HB := Aside0.mk (below_step (TB3 GE186.out GE187.out GE190.out) hb); (try clear hb); (try clear hb2); (try clear hk); (try clear hi); have hcz56_0 := cz BK190.out 0; have hcz56_1 := cz BK190.out 1; have hcz56_2 := cz BK190.out 2; have hcz56_3 := cz BK190.out 3; have hfz56_0 := fz BK190.out 0; have hfz56_1 := fz BK190.out 1; have hfz56_2 := fz BK190.out 2; have hfz56_3 := fz BK190.out 3; obtain ⟨Ao57, co57, eo57⟩ := Kd.R_slice HO_191000.out; subst eo57) | ((with_reducible refine gate_callee (f := 16) rfl ?_); refine goesL_ (some 63) rfl rfl Tryd.func16 (by kernel_rfl) rfl #[.agg #[.slice Ao57 x191000_1.length co57, .int .i64 a0_1, .int .i64 a0_2, .slice A0_3 l0_3.length c0_3], .int .i64 t200, .int .i64 t201] rfl TM ?_; (with_reducible refine (rasp_Next.calls _ _ x191000_1 a0_1 a0_2 _ _ l0_3 t200 t201 t202 t203 t204 _ ?side1 ?side2 ?side3 ?side4 ?side5 A41.out).mono ?_); (case side1 => repeat (first | exact (Kd.R_reads' HO_191000.out).2.2 | (with_reducible refine Kd.C_alloc ?_ _) | (with_reducible refine Kd.C_drewN ?_ _) | (with_reducible refine Kd.C_drew ?_))); (case side2 => exact (Kd.R_reads' HO_191000.out).2.1); (case side3 => exact TC HR0_3.out); (case side4 => exact HC0_3.out); (case side5 => exact Glob.fr HG.out (Fr.of_below (TB3 GE186.out GE187.out GE190.out))); rintro e w58 ⟨rfl, hb⟩; refine ⟨_, rfl, ?_⟩; replace HO_191000 := Aside0.mk (Kd.R_below (TRo HO_191000.out) hb); replace BK186 := Aside0.mk (TKb hb BK186.out); replace BK187 := Aside0.mk (TKb hb BK187.out); replace BK190 := Aside0.mk (TKb hb BK190.out); replace HB := Aside0.mk (below_step (TB3 GE186.out GE187.out GE190.out) hb); (try clear hb); (try clear hb2); (try clear hk); (try clear hi); have hcz59_0 := cz BK190.out 0; have hcz59_1 := cz BK190.out 1; have hcz59_2 := cz BK190.out 2; have hcz59_3 := cz BK190.out 3; have hfz59_0 := fz BK190.out 0; have hfz59_1 := fz BK190.out 1; have hfz59_2 := fz BK190.out 2; have hfz59_3 := fz BK190.out 3) | ((with_reducible refine gate_callee (f := 20) rfl ?_); refine goesL_ (some 71) rfl rfl Tryd.func20 (by kernel_rfl) rfl #[.agg #[.slice Ao57 x191000_1.length co57, .int .i64 a0_1, .int .i64 a0_2, .slice A0_3 l0_3.length c0_3], .int .i64 t200, .int .i64 t201] rfl TM ?_; (with_reducible refine (rasp_Lucky.calls _ _ x191000_1 a0_1 a0_2 _ _ l0_3 t200 t201 t205 t206 _ ?side1 ?side2 ?side3 ?side4 ?side5 A42.out).mono ?_); (case side1 => repeat (first | exact (Kd.R_reads' HO_191000.out).2.2 | (with_reducible refine Kd.C_alloc ?_ _) | (with_reducible refine Kd.C_drewN ?_ _) | (with_reducible refine Kd.C_drew ?_))); (case side2 => exact (Kd.R_reads' HO_191000.out).2.1); (case side3 => exact TC HR0_3.out); (case side4 => exact HC0_3.out); (case side5 => exact Glob.fr HG.out (Fr.of_below (TB3 GE186.out GE187.out GE190.out))); rintro e w60 ⟨rfl, hb⟩; refine ⟨_, rfl, ?_⟩; replace HO_191000 := Aside0.mk (Kd.R_below (TRo HO_191000.out) hb); replace BK186 := Aside0.mk (TKb hb BK186.out); replace BK187 := Aside0.mk (TKb hb BK187.out); replace BK190 := Aside0.mk (TKb hb BK190.out); replace HB := Aside0.mk (below_step (TB3 GE186.out GE187.out GE190.out) hb); (try clear hb); (try clear hb2); (try clear hk); (try clear hi); have hcz61_0 := cz BK186.out 0; have hcz61_1 := cz BK186.out 1; have hcz61_2 := cz BK186.out 2; have hcz61_3 := cz BK186.out 3; have hfz61_0 := fz BK186.out 0; have hfz61_1 := fz BK186.out 1; have hfz61_2 := fz BK186.out 2; have hfz61_3 := fz BK186.out 3) | ((with_reducible refine gate_callee (f := 20) rfl ?_); refine goesL_ (some 78) rfl rfl Tryd.func20 (by kernel_rfl) rfl #[.agg #[.slice A0_0 l0_0.length c0_0, .int .i64 a0_1, .int .i64 a0_2, .slice A0_3 l0_3.length c0_3], .int .i64 t200, .int .i64 t201] rfl TM ?_; (with_reducible refine (rasp_Lucky.calls _ _ l0_0 a0_1 a0_2 _ _ l0_3 t200 t201 t207 t208 _ ?side1 ?side2 ?side3 ?side4 ?side5 A43.out).mono ?_); (case side1 => exact TC HR0_0.out); (case side2 => exact HC0_0.out); (case side3 => exact TC HR0_3.out); (case side4 => exact HC0_3.out); (case side5 => exact Glob.fr HG.out (Fr.of_below (TB3 GE186.out GE187.out GE190.out))); rintro e w62 ⟨rfl, hb⟩; refine ⟨_, rfl, ?_⟩; replace HO_191000 := Aside0.mk (Kd.R_below (TRo HO_191000.out) hb); replace BK186 := Aside0.mk (TKb hb BK186.out); replace BK187 := Aside0.mk (TKb hb BK187.out); replace BK190 := Aside0.mk (TKb hb BK190.out); replace HB := Aside0.mk (below_step (TB3 GE186.out GE187.out GE190.out) hb); (try clear hb); (try clear hb2); (try clear hk); (try clear hi)) | (go_at_call 22; (with_reducible refine (saronlaw03_filed.calls  t209 _ ?side1 A49.out).mono ?_); (case side1 => exact Glob.fr HG.out (Fr.of_below (TB3 GE186.out GE187.out GE190.out))); rintro e w63 ⟨rfl, hb⟩; replace HO_191000 := Aside0.mk (Kd.R_below (TRo HO_191000.out) hb); replace BK186 := Aside0.mk (TKb hb BK186.out); replace BK187 := Aside0.mk (TKb hb BK187.out); replace BK190 := Aside0.mk (TKb hb BK190.out); replace HB := Aside0.mk (below_step (TB3 GE186.out GE187.out GE190.out) hb); (try clear hb); (try clear hb2); (try clear hk); (try clear hi)))
          go_ret
          exact ⟨TR, TB3 GE186.out GE187.out GE190.out⟩
         ·rw [if_neg c48] at H
          have c48b0 : decide (t207 ≤ t205) = false := decide_eq_false c48
          clear c48
          obtain rfl := Option.some.inj H
          have hnb64 := NB186_187.out
          have hnc64 := NB187_186.out
          have hnb65 := NB186_190.out
          have hnc65 := NB190_186.out
          have hcz66_0 := cz BK186.out 0
          have hcz66_1 := cz BK186.out 1
          have hcz66_2 := cz BK186.out 2
          have hcz66_3 := cz BK186.out 3
          have hfz66_0 := fz BK186.out 0
          have hfz66_1 := fz BK186.out 1
          have hfz66_2 := fz BK186.out 2
          have hfz66_3 := fz BK186.out 3
          have hnb67 := NB187_190.out
          have hnc67 := NB190_187.out
          have hcz68_0 := cz BK187.out 0
          have hcz68_1 := cz BK187.out 1
          have hfz68_0 := fz BK187.out 0
          have hfz68_1 := fz BK187.out 1
          go_wp2_with (first | ((with_reducible refine gate_callee (f := 38) rfl ?_); refine goesL_ (some 56) rfl rfl Tryd.func38 (by kernel_rfl) rfl #[.agg #[.int .i64 a2_0, .int .i64 a2_1]] rfl TM ?_; (with_reducible refine (saronlaw03_state.calls a2_0 a2_1 t200 t201 _ A40.out).mono ?_); rintro e w69 ⟨rfl, hb⟩; refine ⟨_, rfl, ?_⟩; replace HO_191000 := Aside0.mk (Kd.R_below (TRo HO_191000.out) hb); replace BK186 := Aside0.mk (TKb hb BK186.out); replace BK187 := Aside0.mk (TKb hb BK187.out); replace BK190 := Aside0.mk (TKb hb BK190.out); replace HB := Aside0.mk (below_step (TB3 GE186.out GE187.out GE190.out) hb); (try clear hb); (try clear hb2); (try clear hk); (try clear hi); have hcz70_0 := cz BK190.out 0; have hcz70_1 := cz BK190.out 1; have hcz70_2 := cz BK190.out 2; have hcz70_3 := cz BK190.out 3; have hfz70_0 := fz BK190.out 0; have hfz70_1 := fz BK190.out 1; have hfz70_2 := fz BK190.out 2; have hfz70_3 := fz BK190.out 3; obtain ⟨Ao71, co71, eo71⟩ := Kd.R_slice HO_191000.out; subst eo71) | ((with_reducible refine gate_callee (f := 16) rfl ?_); refine goesL_ (some 63) rfl rfl Tryd.func16 (by kernel_rfl) rfl #[.agg #[.slice Ao71 x191000_1.length co71, .int .i64 a0_1, .int .i64 a0_2, .slice A0_3 l0_3.length c0_3], .int .i64 t200, .int .i64 t201] rfl TM ?_; (with_reducible refine (rasp_Next.calls _ _ x191000_1 a0_1 a0_2 _ _ l0_3 t200 t201 t202 t203 t204 _ ?side1 ?side2 ?side3 ?side4 ?side5 A41.out).mono ?_); (case side1 => repeat (first | exact (Kd.R_reads' HO_191000.out).2.2 | (with_reducible refine Kd.C_alloc ?_ _) | (with_reducible refine Kd.C_drewN ?_ _) | (with_reducible refine Kd.C_drew ?_))); (case side2 => exact (Kd.R_reads' HO_191000.out).2.1); (case side3 => exact TC HR0_3.out); (case side4 => exact HC0_3.out); (case side5 => exact Glob.fr HG.out (Fr.of_below (TB3 GE186.out GE187.out GE190.out))); rintro e w72 ⟨rfl, hb⟩; refine ⟨_, rfl, ?_⟩; replace HO_191000 := Aside0.mk (Kd.R_below (TRo HO_191000.out) hb); replace BK186 := Aside0.mk (TKb hb BK186.out); replace BK187 := Aside0.mk (TKb hb BK187.out); replace BK190 := Aside0.mk (TKb hb BK190.out); replace HB := Aside0.mk (below_step (TB3 GE186.out GE187.out GE190.out) hb); (try clear hb); (try clear hb2); (try clear hk); (try clear hi); have hcz73_0 := cz BK190.out 0; have hcz73_1 := cz BK190.out 1; have hcz73_2 := cz BK190.out 2; have hcz73_3 := cz BK190.out 3; have hfz73_0 := fz BK190.out 0; have hfz73_1 := fz BK190.out 1; have hfz73_2 := fz BK190.out 2; have hfz73_3 := fz BK190.out 3) | ((with_reducible refine gate_callee (f := 20) rfl ?_); refine goesL_ (some 71) rfl rfl Tryd.func20 (by kernel_rfl) rfl #[.agg #[.slice Ao71 x191000_1.length co71, .int .i64 a0_1, .int .i64 a0_2, .slice A0_3 l0_3.length c0_3], .int .i64 t200, .int .i64 t201] rfl TM ?_; (with_reducible refine (rasp_Lucky.calls _ _ x191000_1 a0_1 a0_2 _ _ l0_3 t200 t201 t205 t206 _ ?side1 ?side2 ?side3 ?side4 ?side5 A42.out).mono ?_); (case side1 => repeat (first | exact (Kd.R_reads' HO_191000.out).2.2 | (with_reducible refine Kd.C_alloc ?_ _) | (with_reducible refine Kd.C_drewN ?_ _) | (with_reducible refine Kd.C_drew ?_))); (case side2 => exact (Kd.R_reads' HO_191000.out).2.1); (case side3 => exact TC HR0_3.out); (case side4 => exact HC0_3.out); (case side5 => exact Glob.fr HG.out (Fr.of_below (TB3 GE186.out GE187.out GE190.out))); rintro e w74 ⟨rfl, hb⟩; refine ⟨_, rfl, ?_⟩; replace HO_191000 := Aside0.mk (Kd.R_below (TRo HO_191000.out) hb); replace BK186 := Aside0.mk (TKb hb BK186.out); replace BK187 := Aside0.mk (TKb hb BK187.out); replace BK190 := Aside0.mk (TKb hb BK190.out); replace HB := Aside0.mk (below_step (TB3 GE186.out GE187.out GE190.out) hb); (try clear hb); (try clear hb2); (try clear hk); (try clear hi); have hcz75_0 := cz BK186.out 0; have hcz75_1 := cz BK186.out 1; have hcz75_2 := cz BK186.out 2; have hcz75_3 := cz BK186.out 3; have hfz75_0 := fz BK186.out 0; have hfz75_1 := fz BK186.out 1; have hfz75_2 := fz BK186.out 2; have hfz75_3 := fz BK186.out 3) | ((with_reducible refine gate_callee (f := 20) rfl ?_); refine goesL_ (some 78) rfl rfl Tryd.func20 (by kernel_rfl) rfl #[.agg #[.slice A0_0 l0_0.length c0_0, .int .i64 a0_1, .int .i64 a0_2, .slice A0_3 l0_3.length c0_3], .int .i64 t200, .int .i64 t201] rfl TM ?_; (with_reducible refine (rasp_Lucky.calls _ _ l0_0 a0_1 a0_2 _ _ l0_3 t200 t201 t207 t208 _ ?side1 ?side2 ?side3 ?side4 ?side5 A43.out).mono ?_); (case side1 => exact TC HR0_0.out); (case side2 => exact HC0_0.out); (case side3 => exact TC HR0_3.out); (case side4 => exact HC0_3.out); (case side5 => exact Glob.fr HG.out (Fr.of_below (TB3 GE186.out GE187.out GE190.out))); rintro e w76 ⟨rfl, hb⟩; refine ⟨_, rfl, ?_⟩; replace HO_191000 := Aside0.mk (Kd.R_below (TRo HO_191000.out) hb); replace BK186 := Aside0.mk (TKb hb BK186.out); replace BK187 := Aside0.mk (TKb hb BK187.out); replace BK190 := Aside0.mk (TKb hb BK190.out); replace HB := Aside0.mk (below_step (TB3 GE186.out GE187.out GE190.out) hb); (try clear hb); (try clear hb2); (try clear hk); (try clear hi)))
          go_ret
          exact ⟨TR, TB3 GE186.out GE187.out GE190.out⟩
        ·rw [if_neg c47] at H
         have c47b0 : (t208 == 0) = false := beq_eq_false_iff_ne.mpr c47
         have c47b1 : (t208 != 0) = true := bne_iff_ne.mpr c47
         obtain rfl := Option.some.inj H
         have hnb77 := NB186_187.out
         have hnc77 := NB187_186.out
         have hnb78 := NB186_190.out
         have hnc78 := NB190_186.out
         have hcz79_0 := cz BK186.out 0
         have hcz79_1 := cz BK186.out 1
         have hcz79_2 := cz BK186.out 2
         have hcz79_3 := cz BK186.out 3
         have hfz79_0 := fz BK186.out 0
         have hfz79_1 := fz BK186.out 1
         have hfz79_2 := fz BK186.out 2
         have hfz79_3 := fz BK186.out 3
         have hnb80 := NB187_190.out
         have hnc80 := NB190_187.out
         have hcz81_0 := cz BK187.out 0
         have hcz81_1 := cz BK187.out 1
         have hfz81_0 := fz BK187.out 0
         have hfz81_1 := fz BK187.out 1
         go_wp2_with (first | ((with_reducible refine gate_callee (f := 38) rfl ?_); refine goesL_ (some 56) rfl rfl Tryd.func38 (by kernel_rfl) rfl #[.agg #[.int .i64 a2_0, .int .i64 a2_1]] rfl TM ?_; (with_reducible refine (saronlaw03_state.calls a2_0 a2_1 t200 t201 _ A40.out).mono ?_); rintro e w82 ⟨rfl, hb⟩; refine ⟨_, rfl, ?_⟩; replace HO_191000 := Aside0.mk (Kd.R_below (TRo HO_191000.out) hb); replace BK186 := Aside0.mk (TKb hb BK186.out); replace BK187 := Aside0.mk (TKb hb BK187.out); replace BK190 := Aside0.mk (TKb hb BK190.out); replace HB := Aside0.mk (below_step (TB3 GE186.out GE187.out GE190.out) hb); (try clear hb); (try clear hb2); (try clear hk); (try clear hi); have hcz83_0 := cz BK190.out 0; have hcz83_1 := cz BK190.out 1; have hcz83_2 := cz BK190.out 2; have hcz83_3 := cz BK190.out 3; have hfz83_0 := fz BK190.out 0; have hfz83_1 := fz BK190.out 1; have hfz83_2 := fz BK190.out 2; have hfz83_3 := fz BK190.out 3; obtain ⟨Ao84, co84, eo84⟩ := Kd.R_slice HO_191000.out; subst eo84) | ((with_reducible refine gate_callee (f := 16) rfl ?_); refine goesL_ (some 63) rfl rfl Tryd.func16 (by kernel_rfl) rfl #[.agg #[.slice Ao84 x191000_1.length co84, .int .i64 a0_1, .int .i64 a0_2, .slice A0_3 l0_3.length c0_3], .int .i64 t200, .int .i64 t201] rfl TM ?_; (with_reducible refine (rasp_Next.calls _ _ x191000_1 a0_1 a0_2 _ _ l0_3 t200 t201 t202 t203 t204 _ ?side1 ?side2 ?side3 ?side4 ?side5 A41.out).mono ?_); (case side1 => repeat (first | exact (Kd.R_reads' HO_191000.out).2.2 | (with_reducible refine Kd.C_alloc ?_ _) | (with_reducible refine Kd.C_drewN ?_ _) | (with_reducible refine Kd.C_drew ?_))); (case side2 => exact (Kd.R_reads' HO_191000.out).2.1); (case side3 => exact TC HR0_3.out); (case side4 => exact HC0_3.out); (case side5 => exact Glob.fr HG.out (Fr.of_below (TB3 GE186.out GE187.out GE190.out))); rintro e w85 ⟨rfl, hb⟩; refine ⟨_, rfl, ?_⟩; replace HO_191000 := Aside0.mk (Kd.R_below (TRo HO_191000.out) hb); replace BK186 := Aside0.mk (TKb hb BK186.out); replace BK187 := Aside0.mk (TKb hb BK187.out); replace BK190 := Aside0.mk (TKb hb BK190.out); replace HB := Aside0.mk (below_step (TB3 GE186.out GE187.out GE190.out) hb); (try clear hb); (try clear hb2); (try clear hk); (try clear hi); have hcz86_0 := cz BK190.out 0; have hcz86_1 := cz BK190.out 1; have hcz86_2 := cz BK190.out 2; have hcz86_3 := cz BK190.out 3; have hfz86_0 := fz BK190.out 0; have hfz86_1 := fz BK190.out 1; have hfz86_2 := fz BK190.out 2; have hfz86_3 := fz BK190.out 3) | ((with_reducible refine gate_callee (f := 20) rfl ?_); refine goesL_ (some 71) rfl rfl Tryd.func20 (by kernel_rfl) rfl #[.agg #[.slice Ao84 x191000_1.length co84, .int .i64 a0_1, .int .i64 a0_2, .slice A0_3 l0_3.length c0_3], .int .i64 t200, .int .i64 t201] rfl TM ?_; (with_reducible refine (rasp_Lucky.calls _ _ x191000_1 a0_1 a0_2 _ _ l0_3 t200 t201 t205 t206 _ ?side1 ?side2 ?side3 ?side4 ?side5 A42.out).mono ?_); (case side1 => repeat (first | exact (Kd.R_reads' HO_191000.out).2.2 | (with_reducible refine Kd.C_alloc ?_ _) | (with_reducible refine Kd.C_drewN ?_ _) | (with_reducible refine Kd.C_drew ?_))); (case side2 => exact (Kd.R_reads' HO_191000.out).2.1); (case side3 => exact TC HR0_3.out); (case side4 => exact HC0_3.out); (case side5 => exact Glob.fr HG.out (Fr.of_below (TB3 GE186.out GE187.out GE190.out))); rintro e w87 ⟨rfl, hb⟩; refine ⟨_, rfl, ?_⟩; replace HO_191000 := Aside0.mk (Kd.R_below (TRo HO_191000.out) hb); replace BK186 := Aside0.mk (TKb hb BK186.out); replace BK187 := Aside0.mk (TKb hb BK187.out); replace BK190 := Aside0.mk (TKb hb BK190.out); replace HB := Aside0.mk (below_step (TB3 GE186.out GE187.out GE190.out) hb); (try clear hb); (try clear hb2); (try clear hk); (try clear hi); have hcz88_0 := cz BK186.out 0; have hcz88_1 := cz BK186.out 1; have hcz88_2 := cz BK186.out 2; have hcz88_3 := cz BK186.out 3; have hfz88_0 := fz BK186.out 0; have hfz88_1 := fz BK186.out 1; have hfz88_2 := fz BK186.out 2; have hfz88_3 := fz BK186.out 3) | ((with_reducible refine gate_callee (f := 20) rfl ?_); refine goesL_ (some 78) rfl rfl Tryd.func20 (by kernel_rfl) rfl #[.agg #[.slice A0_0 l0_0.length c0_0, .int .i64 a0_1, .int .i64 a0_2, .slice A0_3 l0_3.length c0_3], .int .i64 t200, .int .i64 t201] rfl TM ?_; (with_reducible refine (rasp_Lucky.calls _ _ l0_0 a0_1 a0_2 _ _ l0_3 t200 t201 t207 t208 _ ?side1 ?side2 ?side3 ?side4 ?side5 A43.out).mono ?_); (case side1 => exact TC HR0_0.out); (case side2 => exact HC0_0.out); (case side3 => exact TC HR0_3.out); (case side4 => exact HC0_3.out); (case side5 => exact Glob.fr HG.out (Fr.of_below (TB3 GE186.out GE187.out GE190.out))); rintro e w89 ⟨rfl, hb⟩; refine ⟨_, rfl, ?_⟩; replace HO_191000 := Aside0.mk (Kd.R_below (TRo HO_191000.out) hb); replace BK186 := Aside0.mk (TKb hb BK186.out); replace BK187 := Aside0.mk (TKb hb BK187.out); replace BK190 := Aside0.mk (TKb hb BK190.out); replace HB := Aside0.mk (below_step (TB3 GE186.out GE187.out GE190.out) hb); (try clear hb); (try clear hb2); (try clear hk); (try clear hi)))
         go_ret
         exact ⟨TR, TB3 GE186.out GE187.out GE190.out⟩
       ·rw [if_neg c46] at H
        have c46b0 : (t206 == 0) = false := beq_eq_false_iff_ne.mpr c46
        have c46b1 : (t206 != 0) = true := bne_iff_ne.mpr c46
        by_cases c90 : t208 = 0
        ·rw [if_pos c90] at H
         have c90b0 : (t208 == 0) = true := beq_iff_eq.mpr c90
         have c90b1 : (t208 != 0) = false := bne_eq_false_iff_eq.mpr c90
         clear c90
         replace H := Option.bind_eq_some_iff.mp H
         obtain ⟨t210, A910, H⟩ := H
         replace H : (some t210) = some r := H
         have A91 := Aside0.mk A910
         clear A910
         obtain rfl := Option.some.inj H
         have hnb92 := NB186_187.out
         have hnc92 := NB187_186.out
         have hnb93 := NB186_190.out
         have hnc93 := NB190_186.out
         have hcz94_0 := cz BK186.out 0
         have hcz94_1 := cz BK186.out 1
         have hcz94_2 := cz BK186.out 2
         have hcz94_3 := cz BK186.out 3
         have hfz94_0 := fz BK186.out 0
         have hfz94_1 := fz BK186.out 1
         have hfz94_2 := fz BK186.out 2
         have hfz94_3 := fz BK186.out 3
         have hnb95 := NB187_190.out
         have hnc95 := NB190_187.out
         have hcz96_0 := cz BK187.out 0
         have hcz96_1 := cz BK187.out 1
         have hfz96_0 := fz BK187.out 0
         have hfz96_1 := fz BK187.out 1
         go_wp2_with (first | ((with_reducible refine gate_callee (f := 38) rfl ?_); refine goesL_ (some 56) rfl rfl Tryd.func38 (by kernel_rfl) rfl #[.agg #[.int .i64 a2_0, .int .i64 a2_1]] rfl TM ?_; (with_reducible refine (saronlaw03_state.calls a2_0 a2_1 t200 t201 _ A40.out).mono ?_); rintro e w97 ⟨rfl, hb⟩; refine ⟨_, rfl, ?_⟩; replace HO_191000 := Aside0.mk (Kd.R_below (TRo HO_191000.out) hb); replace BK186 := Aside0.mk (TKb hb BK186.out); replace BK187 := Aside0.mk (TKb hb BK187.out); replace BK190 := Aside0.mk (TKb hb BK190.out); replace HB := Aside0.mk (below_step (TB3 GE186.out GE187.out GE190.out) hb); (try clear hb); (try clear hb2); (try clear hk); (try clear hi); have hcz98_0 := cz BK190.out 0; have hcz98_1 := cz BK190.out 1; have hcz98_2 := cz BK190.out 2; have hcz98_3 := cz BK190.out 3; have hfz98_0 := fz BK190.out 0; have hfz98_1 := fz BK190.out 1; have hfz98_2 := fz BK190.out 2; have hfz98_3 := fz BK190.out 3; obtain ⟨Ao99, co99, eo99⟩ := Kd.R_slice HO_191000.out; subst eo99) | ((with_reducible refine gate_callee (f := 16) rfl ?_); refine goesL_ (some 63) rfl rfl Tryd.func16 (by kernel_rfl) rfl #[.agg #[.slice Ao99 x191000_1.length co99, .int .i64 a0_1, .int .i64 a0_2, .slice A0_3 l0_3.length c0_3], .int .i64 t200, .int .i64 t201] rfl TM ?_; (with_reducible refine (rasp_Next.calls _ _ x191000_1 a0_1 a0_2 _ _ l0_3 t200 t201 t202 t203 t204 _ ?side1 ?side2 ?side3 ?side4 ?side5 A41.out).mono ?_); (case side1 => repeat (first | exact (Kd.R_reads' HO_191000.out).2.2 | (with_reducible refine Kd.C_alloc ?_ _) | (with_reducible refine Kd.C_drewN ?_ _) | (with_reducible refine Kd.C_drew ?_))); (case side2 => exact (Kd.R_reads' HO_191000.out).2.1); (case side3 => exact TC HR0_3.out); (case side4 => exact HC0_3.out); (case side5 => exact Glob.fr HG.out (Fr.of_below (TB3 GE186.out GE187.out GE190.out))); rintro e w100 ⟨rfl, hb⟩; refine ⟨_, rfl, ?_⟩; replace HO_191000 := Aside0.mk (Kd.R_below (TRo HO_191000.out) hb); replace BK186 := Aside0.mk (TKb hb BK186.out); replace BK187 := Aside0.mk (TKb hb BK187.out); replace BK190 := Aside0.mk (TKb hb BK190.out); replace HB := Aside0.mk (below_step (TB3 GE186.out GE187.out GE190.out) hb); (try clear hb); (try clear hb2); (try clear hk); (try clear hi); have hcz101_0 := cz BK190.out 0; have hcz101_1 := cz BK190.out 1; have hcz101_2 := cz BK190.out 2; have hcz101_3 := cz BK190.out 3; have hfz101_0 := fz BK190.out 0; have hfz101_1 := fz BK190.out 1; have hfz101_2 := fz BK190.out 2; have hfz101_3 := fz BK190.out 3) | ((with_reducible refine gate_callee (f := 20) rfl ?_); refine goesL_ (some 71) rfl rfl Tryd.func20 (by kernel_rfl) rfl #[.agg #[.slice Ao99 x191000_1.length co99, .int .i64 a0_1, .int .i64 a0_2, .slice A0_3 l0_3.length c0_3], .int .i64 t200, .int .i64 t201] rfl TM ?_; (with_reducible refine (rasp_Lucky.calls _ _ x191000_1 a0_1 a0_2 _ _ l0_3 t200 t201 t205 t206 _ ?side1 ?side2 ?side3 ?side4 ?side5 A42.out).mono ?_); (case side1 => repeat (first | exact (Kd.R_reads' HO_191000.out).2.2 | (with_reducible refine Kd.C_alloc ?_ _) | (with_reducible refine Kd.C_drewN ?_ _) | (with_reducible refine Kd.C_drew ?_))); (case side2 => exact (Kd.R_reads' HO_191000.out).2.1); (case side3 => exact TC HR0_3.out); (case side4 => exact HC0_3.out); (case side5 => exact Glob.fr HG.out (Fr.of_below (TB3 GE186.out GE187.out GE190.out))); rintro e w102 ⟨rfl, hb⟩; refine ⟨_, rfl, ?_⟩; replace HO_191000 := Aside0.mk (Kd.R_below (TRo HO_191000.out) hb); replace BK186 := Aside0.mk (TKb hb BK186.out); replace BK187 := Aside0.mk (TKb hb BK187.out); replace BK190 := Aside0.mk (TKb hb BK190.out); replace HB := Aside0.mk (below_step (TB3 GE186.out GE187.out GE190.out) hb); (try clear hb); (try clear hb2); (try clear hk); (try clear hi); have hcz103_0 := cz BK186.out 0; have hcz103_1 := cz BK186.out 1; have hcz103_2 := cz BK186.out 2; have hcz103_3 := cz BK186.out 3; have hfz103_0 := fz BK186.out 0; have hfz103_1 := fz BK186.out 1; have hfz103_2 := fz BK186.out 2; have hfz103_3 := fz BK186.out 3) | ((with_reducible refine gate_callee (f := 20) rfl ?_); refine goesL_ (some 78) rfl rfl Tryd.func20 (by kernel_rfl) rfl #[.agg #[.slice A0_0 l0_0.length c0_0, .int .i64 a0_1, .int .i64 a0_2, .slice A0_3 l0_3.length c0_3], .int .i64 t200, .int .i64 t201] rfl TM ?_; (with_reducible refine (rasp_Lucky.calls _ _ l0_0 a0_1 a0_2 _ _ l0_3 t200 t201 t207 t208 _ ?side1 ?side2 ?side3 ?side4 ?side5 A43.out).mono ?_); (case side1 => exact TC HR0_0.out); (case side2 => exact HC0_0.out); (case side3 => exact TC HR0_3.out); (case side4 => exact HC0_3.out); (case side5 => exact Glob.fr HG.out (Fr.of_below (TB3 GE186.out GE187.out GE190.out))); rintro e w104 ⟨rfl, hb⟩; refine ⟨_, rfl, ?_⟩; replace HO_191000 := Aside0.mk (Kd.R_below (TRo HO_191000.out) hb); replace BK186 := Aside0.mk (TKb hb BK186.out); replace BK187 := Aside0.mk (TKb hb BK187.out); replace BK190 := Aside0.mk (TKb hb BK190.out); replace HB := Aside0.mk (below_step (TB3 GE186.out GE187.out GE190.out) hb); (try clear hb); (try clear hb2); (try clear hk); (try clear hi)) | (go_at_call 22; (with_reducible refine (saronlaw03_filed.calls  t210 _ ?side1 A91.out).mono ?_); (case side1 => exact Glob.fr HG.out (Fr.of_below (TB3 GE186.out GE187.out GE190.out))); rintro e w105 ⟨rfl, hb⟩; replace HO_191000 := Aside0.mk (Kd.R_below (TRo HO_191000.out) hb); replace BK186 := Aside0.mk (TKb hb BK186.out); replace BK187 := Aside0.mk (TKb hb BK187.out); replace BK190 := Aside0.mk (TKb hb BK190.out); replace HB := Aside0.mk (below_step (TB3 GE186.out GE187.out GE190.out) hb); (try clear hb); (try clear hb2); (try clear hk); (try clear hi)))
         go_ret
         exact ⟨TR, TB3 GE186.out GE187.out GE190.out⟩
        ·rw [if_neg c90] at H
         have c90b0 : (t208 == 0) = false := beq_eq_false_iff_ne.mpr c90
         have c90b1 : (t208 != 0) = true := bne_iff_ne.mpr c90
         by_cases c106 : t208 = 4
         ·rw [if_pos c106] at H
          have c106b0 : (t208 == 4) = true := beq_iff_eq.mpr c106
          have c106b1 : (t208 != 4) = false := bne_eq_false_iff_eq.mpr c106
          clear c106
          replace H := Option.bind_eq_some_iff.mp H
          obtain ⟨t211, A1070, H⟩ := H
          replace H : (some t211) = some r := H
          have A107 := Aside0.mk A1070
          clear A1070
          obtain rfl := Option.some.inj H
          have hnb108 := NB186_187.out
          have hnc108 := NB187_186.out
          have hnb109 := NB186_190.out
          have hnc109 := NB190_186.out
          have hcz110_0 := cz BK186.out 0
          have hcz110_1 := cz BK186.out 1
          have hcz110_2 := cz BK186.out 2
          have hcz110_3 := cz BK186.out 3
          have hfz110_0 := fz BK186.out 0
          have hfz110_1 := fz BK186.out 1
          have hfz110_2 := fz BK186.out 2
          have hfz110_3 := fz BK186.out 3
          have hnb111 := NB187_190.out
          have hnc111 := NB190_187.out
          have hcz112_0 := cz BK187.out 0
          have hcz112_1 := cz BK187.out 1
          have hfz112_0 := fz BK187.out 0
          have hfz112_1 := fz BK187.out 1
          go_wp2_with (first | ((with_reducible refine gate_callee (f := 38) rfl ?_); refine goesL_ (some 56) rfl rfl Tryd.func38 (by kernel_rfl) rfl #[.agg #[.int .i64 a2_0, .int .i64 a2_1]] rfl TM ?_; (with_reducible refine (saronlaw03_state.calls a2_0 a2_1 t200 t201 _ A40.out).mono ?_); rintro e w113 ⟨rfl, hb⟩; refine ⟨_, rfl, ?_⟩; replace HO_191000 := Aside0.mk (Kd.R_below (TRo HO_191000.out) hb); replace BK186 := Aside0.mk (TKb hb BK186.out); replace BK187 := Aside0.mk (TKb hb BK187.out); replace BK190 := Aside0.mk (TKb hb BK190.out); replace HB := Aside0.mk (below_step (TB3 GE186.out GE187.out GE190.out) hb); (try clear hb); (try clear hb2); (try clear hk); (try clear hi); have hcz114_0 := cz BK190.out 0; have hcz114_1 := cz BK190.out 1; have hcz114_2 := cz BK190.out 2; have hcz114_3 := cz BK190.out 3; have hfz114_0 := fz BK190.out 0; have hfz114_1 := fz BK190.out 1; have hfz114_2 := fz BK190.out 2; have hfz114_3 := fz BK190.out 3; obtain ⟨Ao115, co115, eo115⟩ := Kd.R_slice HO_191000.out; subst eo115) | ((with_reducible refine gate_callee (f := 16) rfl ?_); refine goesL_ (some 63) rfl rfl Tryd.func16 (by kernel_rfl) rfl #[.agg #[.slice Ao115 x191000_1.length co115, .int .i64 a0_1, .int .i64 a0_2, .slice A0_3 l0_3.length c0_3], .int .i64 t200, .int .i64 t201] rfl TM ?_; (with_reducible refine (rasp_Next.calls _ _ x191000_1 a0_1 a0_2 _ _ l0_3 t200 t201 t202 t203 t204 _ ?side1 ?side2 ?side3 ?side4 ?side5 A41.out).mono ?_); (case side1 => repeat (first | exact (Kd.R_reads' HO_191000.out).2.2 | (with_reducible refine Kd.C_alloc ?_ _) | (with_reducible refine Kd.C_drewN ?_ _) | (with_reducible refine Kd.C_drew ?_))); (case side2 => exact (Kd.R_reads' HO_191000.out).2.1); (case side3 => exact TC HR0_3.out); (case side4 => exact HC0_3.out); (case side5 => exact Glob.fr HG.out (Fr.of_below (TB3 GE186.out GE187.out GE190.out))); rintro e w116 ⟨rfl, hb⟩; refine ⟨_, rfl, ?_⟩; replace HO_191000 := Aside0.mk (Kd.R_below (TRo HO_191000.out) hb); replace BK186 := Aside0.mk (TKb hb BK186.out); replace BK187 := Aside0.mk (TKb hb BK187.out); replace BK190 := Aside0.mk (TKb hb BK190.out); replace HB := Aside0.mk (below_step (TB3 GE186.out GE187.out GE190.out) hb); (try clear hb); (try clear hb2); (try clear hk); (try clear hi); have hcz117_0 := cz BK190.out 0; have hcz117_1 := cz BK190.out 1; have hcz117_2 := cz BK190.out 2; have hcz117_3 := cz BK190.out 3; have hfz117_0 := fz BK190.out 0; have hfz117_1 := fz BK190.out 1; have hfz117_2 := fz BK190.out 2; have hfz117_3 := fz BK190.out 3) | ((with_reducible refine gate_callee (f := 20) rfl ?_); refine goesL_ (some 71) rfl rfl Tryd.func20 (by kernel_rfl) rfl #[.agg #[.slice Ao115 x191000_1.length co115, .int .i64 a0_1, .int .i64 a0_2, .slice A0_3 l0_3.length c0_3], .int .i64 t200, .int .i64 t201] rfl TM ?_; (with_reducible refine (rasp_Lucky.calls _ _ x191000_1 a0_1 a0_2 _ _ l0_3 t200 t201 t205 t206 _ ?side1 ?side2 ?side3 ?side4 ?side5 A42.out).mono ?_); (case side1 => repeat (first | exact (Kd.R_reads' HO_191000.out).2.2 | (with_reducible refine Kd.C_alloc ?_ _) | (with_reducible refine Kd.C_drewN ?_ _) | (with_reducible refine Kd.C_drew ?_))); (case side2 => exact (Kd.R_reads' HO_191000.out).2.1); (case side3 => exact TC HR0_3.out); (case side4 => exact HC0_3.out); (case side5 => exact Glob.fr HG.out (Fr.of_below (TB3 GE186.out GE187.out GE190.out))); rintro e w118 ⟨rfl, hb⟩; refine ⟨_, rfl, ?_⟩; replace HO_191000 := Aside0.mk (Kd.R_below (TRo HO_191000.out) hb); replace BK186 := Aside0.mk (TKb hb BK186.out); replace BK187 := Aside0.mk (TKb hb BK187.out); replace BK190 := Aside0.mk (TKb hb BK190.out); replace HB := Aside0.mk (below_step (TB3 GE186.out GE187.out GE190.out) hb); (try clear hb); (try clear hb2); (try clear hk); (try clear hi); have hcz119_0 := cz BK186.out 0; have hcz119_1 := cz BK186.out 1; have hcz119_2 := cz BK186.out 2; have hcz119_3 := cz BK186.out 3; have hfz119_0 := fz BK186.out 0; have hfz119_1 := fz BK186.out 1; have hfz119_2 := fz BK186.out 2; have hfz119_3 := fz BK186.out 3) | ((with_reducible refine gate_callee (f := 20) rfl ?_); refine goesL_ (some 78) rfl rfl Tryd.func20 (by kernel_rfl) rfl #[.agg #[.slice A0_0 l0_0.length c0_0, .int .i64 a0_1, .int .i64 a0_2, .slice A0_3 l0_3.length c0_3], .int .i64 t200, .int .i64 t201] rfl TM ?_; (with_reducible refine (rasp_Lucky.calls _ _ l0_0 a0_1 a0_2 _ _ l0_3 t200 t201 t207 t208 _ ?side1 ?side2 ?side3 ?side4 ?side5 A43.out).mono ?_); (case side1 => exact TC HR0_0.out); (case side2 => exact HC0_0.out); (case side3 => exact TC HR0_3.out); (case side4 => exact HC0_3.out); (case side5 => exact Glob.fr HG.out (Fr.of_below (TB3 GE186.out GE187.out GE190.out))); rintro e w120 ⟨rfl, hb⟩; refine ⟨_, rfl, ?_⟩; replace HO_191000 := Aside0.mk (Kd.R_below (TRo HO_191000.out) hb); replace BK186 := Aside0.mk (TKb hb BK186.out); replace BK187 := Aside0.mk (TKb hb BK187.out); replace BK190 := Aside0.mk (TKb hb BK190.out); replace HB := Aside0.mk (below_step (TB3 GE186.out GE187.out GE190.out) hb); (try clear hb); (try clear hb2); (try clear hk); (try clear hi)) | (go_at_call 22; (with_reducible refine (saronlaw03_filed.calls  t211 _ ?side1 A107.out).mono ?_); (case side1 => exact Glob.fr HG.out (Fr.of_below (TB3 GE186.out GE187.out GE190.out))); rintro e w121 ⟨rfl, hb⟩; replace HO_191000 := Aside0.mk (Kd.R_below (TRo HO_191000.out) hb); replace BK186 := Aside0.mk (TKb hb BK186.out); replace BK187 := Aside0.mk (TKb hb BK187.out); replace BK190 := Aside0.mk (TKb hb BK190.out); replace HB := Aside0.mk (below_step (TB3 GE186.out GE187.out GE190.out) hb); (try clear hb); (try clear hb2); (try clear hk); (try clear hi)))
          go_ret
          exact ⟨TR, TB3 GE186.out GE187.out GE190.out⟩
         ·rw [if_neg c106] at H
          have c106b0 : (t208 == 4) = false := beq_eq_false_iff_ne.mpr c106
          have c106b1 : (t208 != 4) = true := bne_iff_ne.mpr c106
          obtain rfl := Option.some.inj H
          have hnb122 := NB186_187.out
          have hnc122 := NB187_186.out
          have hnb123 := NB186_190.out
          have hnc123 := NB190_186.out
          have hcz124_0 := cz BK186.out 0
          have hcz124_1 := cz BK186.out 1
          have hcz124_2 := cz BK186.out 2
          have hcz124_3 := cz BK186.out 3
          have hfz124_0 := fz BK186.out 0
          have hfz124_1 := fz BK186.out 1
          have hfz124_2 := fz BK186.out 2
          have hfz124_3 := fz BK186.out 3
          have hnb125 := NB187_190.out
          have hnc125 := NB190_187.out
          have hcz126_0 := cz BK187.out 0
          have hcz126_1 := cz BK187.out 1
          have hfz126_0 := fz BK187.out 0
          have hfz126_1 := fz BK187.out 1
          go_wp2_with (first | ((with_reducible refine gate_callee (f := 38) rfl ?_); refine goesL_ (some 56) rfl rfl Tryd.func38 (by kernel_rfl) rfl #[.agg #[.int .i64 a2_0, .int .i64 a2_1]] rfl TM ?_; (with_reducible refine (saronlaw03_state.calls a2_0 a2_1 t200 t201 _ A40.out).mono ?_); rintro e w127 ⟨rfl, hb⟩; refine ⟨_, rfl, ?_⟩; replace HO_191000 := Aside0.mk (Kd.R_below (TRo HO_191000.out) hb); replace BK186 := Aside0.mk (TKb hb BK186.out); replace BK187 := Aside0.mk (TKb hb BK187.out); replace BK190 := Aside0.mk (TKb hb BK190.out); replace HB := Aside0.mk (below_step (TB3 GE186.out GE187.out GE190.out) hb); (try clear hb); (try clear hb2); (try clear hk); (try clear hi); have hcz128_0 := cz BK190.out 0; have hcz128_1 := cz BK190.out 1; have hcz128_2 := cz BK190.out 2; have hcz128_3 := cz BK190.out 3; have hfz128_0 := fz BK190.out 0; have hfz128_1 := fz BK190.out 1; have hfz128_2 := fz BK190.out 2; have hfz128_3 := fz BK190.out 3; obtain ⟨Ao129, co129, eo129⟩ := Kd.R_slice HO_191000.out; subst eo129) | ((with_reducible refine gate_callee (f := 16) rfl ?_); refine goesL_ (some 63) rfl rfl Tryd.func16 (by kernel_rfl) rfl #[.agg #[.slice Ao129 x191000_1.length co129, .int .i64 a0_1, .int .i64 a0_2, .slice A0_3 l0_3.length c0_3], .int .i64 t200, .int .i64 t201] rfl TM ?_; (with_reducible refine (rasp_Next.calls _ _ x191000_1 a0_1 a0_2 _ _ l0_3 t200 t201 t202 t203 t204 _ ?side1 ?side2 ?side3 ?side4 ?side5 A41.out).mono ?_); (case side1 => repeat (first | exact (Kd.R_reads' HO_191000.out).2.2 | (with_reducible refine Kd.C_alloc ?_ _) | (with_reducible refine Kd.C_drewN ?_ _) | (with_reducible refine Kd.C_drew ?_))); (case side2 => exact (Kd.R_reads' HO_191000.out).2.1); (case side3 => exact TC HR0_3.out); (case side4 => exact HC0_3.out); (case side5 => exact Glob.fr HG.out (Fr.of_below (TB3 GE186.out GE187.out GE190.out))); rintro e w130 ⟨rfl, hb⟩; refine ⟨_, rfl, ?_⟩; replace HO_191000 := Aside0.mk (Kd.R_below (TRo HO_191000.out) hb); replace BK186 := Aside0.mk (TKb hb BK186.out); replace BK187 := Aside0.mk (TKb hb BK187.out); replace BK190 := Aside0.mk (TKb hb BK190.out); replace HB := Aside0.mk (below_step (TB3 GE186.out GE187.out GE190.out) hb); (try clear hb); (try clear hb2); (try clear hk); (try clear hi); have hcz131_0 := cz BK190.out 0; have hcz131_1 := cz BK190.out 1; have hcz131_2 := cz BK190.out 2; have hcz131_3 := cz BK190.out 3; have hfz131_0 := fz BK190.out 0; have hfz131_1 := fz BK190.out 1; have hfz131_2 := fz BK190.out 2; have hfz131_3 := fz BK190.out 3) | ((with_reducible refine gate_callee (f := 20) rfl ?_); refine goesL_ (some 71) rfl rfl Tryd.func20 (by kernel_rfl) rfl #[.agg #[.slice Ao129 x191000_1.length co129, .int .i64 a0_1, .int .i64 a0_2, .slice A0_3 l0_3.length c0_3], .int .i64 t200, .int .i64 t201] rfl TM ?_; (with_reducible refine (rasp_Lucky.calls _ _ x191000_1 a0_1 a0_2 _ _ l0_3 t200 t201 t205 t206 _ ?side1 ?side2 ?side3 ?side4 ?side5 A42.out).mono ?_); (case side1 => repeat (first | exact (Kd.R_reads' HO_191000.out).2.2 | (with_reducible refine Kd.C_alloc ?_ _) | (with_reducible refine Kd.C_drewN ?_ _) | (with_reducible refine Kd.C_drew ?_))); (case side2 => exact (Kd.R_reads' HO_191000.out).2.1); (case side3 => exact TC HR0_3.out); (case side4 => exact HC0_3.out); (case side5 => exact Glob.fr HG.out (Fr.of_below (TB3 GE186.out GE187.out GE190.out))); rintro e w132 ⟨rfl, hb⟩; refine ⟨_, rfl, ?_⟩; replace HO_191000 := Aside0.mk (Kd.R_below (TRo HO_191000.out) hb); replace BK186 := Aside0.mk (TKb hb BK186.out); replace BK187 := Aside0.mk (TKb hb BK187.out); replace BK190 := Aside0.mk (TKb hb BK190.out); replace HB := Aside0.mk (below_step (TB3 GE186.out GE187.out GE190.out) hb); (try clear hb); (try clear hb2); (try clear hk); (try clear hi); have hcz133_0 := cz BK186.out 0; have hcz133_1 := cz BK186.out 1; have hcz133_2 := cz BK186.out 2; have hcz133_3 := cz BK186.out 3; have hfz133_0 := fz BK186.out 0; have hfz133_1 := fz BK186.out 1; have hfz133_2 := fz BK186.out 2; have hfz133_3 := fz BK186.out 3) | ((with_reducible refine gate_callee (f := 20) rfl ?_); refine goesL_ (some 78) rfl rfl Tryd.func20 (by kernel_rfl) rfl #[.agg #[.slice A0_0 l0_0.length c0_0, .int .i64 a0_1, .int .i64 a0_2, .slice A0_3 l0_3.length c0_3], .int .i64 t200, .int .i64 t201] rfl TM ?_; (with_reducible refine (rasp_Lucky.calls _ _ l0_0 a0_1 a0_2 _ _ l0_3 t200 t201 t207 t208 _ ?side1 ?side2 ?side3 ?side4 ?side5 A43.out).mono ?_); (case side1 => exact TC HR0_0.out); (case side2 => exact HC0_0.out); (case side3 => exact TC HR0_3.out); (case side4 => exact HC0_3.out); (case side5 => exact Glob.fr HG.out (Fr.of_below (TB3 GE186.out GE187.out GE190.out))); rintro e w134 ⟨rfl, hb⟩; refine ⟨_, rfl, ?_⟩; replace HO_191000 := Aside0.mk (Kd.R_below (TRo HO_191000.out) hb); replace BK186 := Aside0.mk (TKb hb BK186.out); replace BK187 := Aside0.mk (TKb hb BK187.out); replace BK190 := Aside0.mk (TKb hb BK190.out); replace HB := Aside0.mk (below_step (TB3 GE186.out GE187.out GE190.out) hb); (try clear hb); (try clear hb2); (try clear hk); (try clear hi)))
          go_ret
          exact ⟨TR, TB3 GE186.out GE187.out GE190.out⟩
      ·rw [if_neg c45] at H
       have c45b0 : (t204 == t206) = false := beq_eq_false_iff_ne.mpr c45
       have c45b1 : (t204 != t206) = true := bne_iff_ne.mpr c45
       obtain rfl := Option.some.inj H
       have hnb135 := NB186_187.out
       have hnc135 := NB187_186.out
       have hnb136 := NB186_190.out
       have hnc136 := NB190_186.out
       have hcz137_0 := cz BK186.out 0
       have hcz137_1 := cz BK186.out 1
       have hcz137_2 := cz BK186.out 2
       have hcz137_3 := cz BK186.out 3
       have hfz137_0 := fz BK186.out 0
       have hfz137_1 := fz BK186.out 1
       have hfz137_2 := fz BK186.out 2
       have hfz137_3 := fz BK186.out 3
       have hnb138 := NB187_190.out
       have hnc138 := NB190_187.out
       have hcz139_0 := cz BK187.out 0
       have hcz139_1 := cz BK187.out 1
       have hfz139_0 := fz BK187.out 0
       have hfz139_1 := fz BK187.out 1
       go_wp2_with (first | ((with_reducible refine gate_callee (f := 38) rfl ?_); refine goesL_ (some 56) rfl rfl Tryd.func38 (by kernel_rfl) rfl #[.agg #[.int .i64 a2_0, .int .i64 a2_1]] rfl TM ?_; (with_reducible refine (saronlaw03_state.calls a2_0 a2_1 t200 t201 _ A40.out).mono ?_); rintro e w140 ⟨rfl, hb⟩; refine ⟨_, rfl, ?_⟩; replace HO_191000 := Aside0.mk (Kd.R_below (TRo HO_191000.out) hb); replace BK186 := Aside0.mk (TKb hb BK186.out); replace BK187 := Aside0.mk (TKb hb BK187.out); replace BK190 := Aside0.mk (TKb hb BK190.out); replace HB := Aside0.mk (below_step (TB3 GE186.out GE187.out GE190.out) hb); (try clear hb); (try clear hb2); (try clear hk); (try clear hi); have hcz141_0 := cz BK190.out 0; have hcz141_1 := cz BK190.out 1; have hcz141_2 := cz BK190.out 2; have hcz141_3 := cz BK190.out 3; have hfz141_0 := fz BK190.out 0; have hfz141_1 := fz BK190.out 1; have hfz141_2 := fz BK190.out 2; have hfz141_3 := fz BK190.out 3; obtain ⟨Ao142, co142, eo142⟩ := Kd.R_slice HO_191000.out; subst eo142) | ((with_reducible refine gate_callee (f := 16) rfl ?_); refine goesL_ (some 63) rfl rfl Tryd.func16 (by kernel_rfl) rfl #[.agg #[.slice Ao142 x191000_1.length co142, .int .i64 a0_1, .int .i64 a0_2, .slice A0_3 l0_3.length c0_3], .int .i64 t200, .int .i64 t201] rfl TM ?_; (with_reducible refine (rasp_Next.calls _ _ x191000_1 a0_1 a0_2 _ _ l0_3 t200 t201 t202 t203 t204 _ ?side1 ?side2 ?side3 ?side4 ?side5 A41.out).mono ?_); (case side1 => repeat (first | exact (Kd.R_reads' HO_191000.out).2.2 | (with_reducible refine Kd.C_alloc ?_ _) | (with_reducible refine Kd.C_drewN ?_ _) | (with_reducible refine Kd.C_drew ?_))); (case side2 => exact (Kd.R_reads' HO_191000.out).2.1); (case side3 => exact TC HR0_3.out); (case side4 => exact HC0_3.out); (case side5 => exact Glob.fr HG.out (Fr.of_below (TB3 GE186.out GE187.out GE190.out))); rintro e w143 ⟨rfl, hb⟩; refine ⟨_, rfl, ?_⟩; replace HO_191000 := Aside0.mk (Kd.R_below (TRo HO_191000.out) hb); replace BK186 := Aside0.mk (TKb hb BK186.out); replace BK187 := Aside0.mk (TKb hb BK187.out); replace BK190 := Aside0.mk (TKb hb BK190.out); replace HB := Aside0.mk (below_step (TB3 GE186.out GE187.out GE190.out) hb); (try clear hb); (try clear hb2); (try clear hk); (try clear hi); have hcz144_0 := cz BK190.out 0; have hcz144_1 := cz BK190.out 1; have hcz144_2 := cz BK190.out 2; have hcz144_3 := cz BK190.out 3; have hfz144_0 := fz BK190.out 0; have hfz144_1 := fz BK190.out 1; have hfz144_2 := fz BK190.out 2; have hfz144_3 := fz BK190.out 3) | ((with_reducible refine gate_callee (f := 20) rfl ?_); refine goesL_ (some 71) rfl rfl Tryd.func20 (by kernel_rfl) rfl #[.agg #[.slice Ao142 x191000_1.length co142, .int .i64 a0_1, .int .i64 a0_2, .slice A0_3 l0_3.length c0_3], .int .i64 t200, .int .i64 t201] rfl TM ?_; (with_reducible refine (rasp_Lucky.calls _ _ x191000_1 a0_1 a0_2 _ _ l0_3 t200 t201 t205 t206 _ ?side1 ?side2 ?side3 ?side4 ?side5 A42.out).mono ?_); (case side1 => repeat (first | exact (Kd.R_reads' HO_191000.out).2.2 | (with_reducible refine Kd.C_alloc ?_ _) | (with_reducible refine Kd.C_drewN ?_ _) | (with_reducible refine Kd.C_drew ?_))); (case side2 => exact (Kd.R_reads' HO_191000.out).2.1); (case side3 => exact TC HR0_3.out); (case side4 => exact HC0_3.out); (case side5 => exact Glob.fr HG.out (Fr.of_below (TB3 GE186.out GE187.out GE190.out))); rintro e w145 ⟨rfl, hb⟩; refine ⟨_, rfl, ?_⟩; replace HO_191000 := Aside0.mk (Kd.R_below (TRo HO_191000.out) hb); replace BK186 := Aside0.mk (TKb hb BK186.out); replace BK187 := Aside0.mk (TKb hb BK187.out); replace BK190 := Aside0.mk (TKb hb BK190.out); replace HB := Aside0.mk (below_step (TB3 GE186.out GE187.out GE190.out) hb); (try clear hb); (try clear hb2); (try clear hk); (try clear hi); have hcz146_0 := cz BK186.out 0; have hcz146_1 := cz BK186.out 1; have hcz146_2 := cz BK186.out 2; have hcz146_3 := cz BK186.out 3; have hfz146_0 := fz BK186.out 0; have hfz146_1 := fz BK186.out 1; have hfz146_2 := fz BK186.out 2; have hfz146_3 := fz BK186.out 3) | ((with_reducible refine gate_callee (f := 20) rfl ?_); refine goesL_ (some 78) rfl rfl Tryd.func20 (by kernel_rfl) rfl #[.agg #[.slice A0_0 l0_0.length c0_0, .int .i64 a0_1, .int .i64 a0_2, .slice A0_3 l0_3.length c0_3], .int .i64 t200, .int .i64 t201] rfl TM ?_; (with_reducible refine (rasp_Lucky.calls _ _ l0_0 a0_1 a0_2 _ _ l0_3 t200 t201 t207 t208 _ ?side1 ?side2 ?side3 ?side4 ?side5 A43.out).mono ?_); (case side1 => exact TC HR0_0.out); (case side2 => exact HC0_0.out); (case side3 => exact TC HR0_3.out); (case side4 => exact HC0_3.out); (case side5 => exact Glob.fr HG.out (Fr.of_below (TB3 GE186.out GE187.out GE190.out))); rintro e w147 ⟨rfl, hb⟩; refine ⟨_, rfl, ?_⟩; replace HO_191000 := Aside0.mk (Kd.R_below (TRo HO_191000.out) hb); replace BK186 := Aside0.mk (TKb hb BK186.out); replace BK187 := Aside0.mk (TKb hb BK187.out); replace BK190 := Aside0.mk (TKb hb BK190.out); replace HB := Aside0.mk (below_step (TB3 GE186.out GE187.out GE190.out) hb); (try clear hb); (try clear hb2); (try clear hk); (try clear hi)))
       go_ret
       exact ⟨TR, TB3 GE186.out GE187.out GE190.out⟩
     ·rw [if_neg c44] at H
      have c44b0 : (t203 == t205) = false := beq_eq_false_iff_ne.mpr c44
      have c44b1 : (t203 != t205) = true := bne_iff_ne.mpr c44
      obtain rfl := Option.some.inj H
      have hnb148 := NB186_187.out
      have hnc148 := NB187_186.out
      have hnb149 := NB186_190.out
      have hnc149 := NB190_186.out
      have hcz150_0 := cz BK186.out 0
      have hcz150_1 := cz BK186.out 1
      have hcz150_2 := cz BK186.out 2
      have hcz150_3 := cz BK186.out 3
      have hfz150_0 := fz BK186.out 0
      have hfz150_1 := fz BK186.out 1
      have hfz150_2 := fz BK186.out 2
      have hfz150_3 := fz BK186.out 3
      have hnb151 := NB187_190.out
      have hnc151 := NB190_187.out
      have hcz152_0 := cz BK187.out 0
      have hcz152_1 := cz BK187.out 1
      have hfz152_0 := fz BK187.out 0
      have hfz152_1 := fz BK187.out 1
      go_wp2_with (first | ((with_reducible refine gate_callee (f := 38) rfl ?_); refine goesL_ (some 56) rfl rfl Tryd.func38 (by kernel_rfl) rfl #[.agg #[.int .i64 a2_0, .int .i64 a2_1]] rfl TM ?_; (with_reducible refine (saronlaw03_state.calls a2_0 a2_1 t200 t201 _ A40.out).mono ?_); rintro e w153 ⟨rfl, hb⟩; refine ⟨_, rfl, ?_⟩; replace HO_191000 := Aside0.mk (Kd.R_below (TRo HO_191000.out) hb); replace BK186 := Aside0.mk (TKb hb BK186.out); replace BK187 := Aside0.mk (TKb hb BK187.out); replace BK190 := Aside0.mk (TKb hb BK190.out); replace HB := Aside0.mk (below_step (TB3 GE186.out GE187.out GE190.out) hb); (try clear hb); (try clear hb2); (try clear hk); (try clear hi); have hcz154_0 := cz BK190.out 0; have hcz154_1 := cz BK190.out 1; have hcz154_2 := cz BK190.out 2; have hcz154_3 := cz BK190.out 3; have hfz154_0 := fz BK190.out 0; have hfz154_1 := fz BK190.out 1; have hfz154_2 := fz BK190.out 2; have hfz154_3 := fz BK190.out 3; obtain ⟨Ao155, co155, eo155⟩ := Kd.R_slice HO_191000.out; subst eo155) | ((with_reducible refine gate_callee (f := 16) rfl ?_); refine goesL_ (some 63) rfl rfl Tryd.func16 (by kernel_rfl) rfl #[.agg #[.slice Ao155 x191000_1.length co155, .int .i64 a0_1, .int .i64 a0_2, .slice A0_3 l0_3.length c0_3], .int .i64 t200, .int .i64 t201] rfl TM ?_; (with_reducible refine (rasp_Next.calls _ _ x191000_1 a0_1 a0_2 _ _ l0_3 t200 t201 t202 t203 t204 _ ?side1 ?side2 ?side3 ?side4 ?side5 A41.out).mono ?_); (case side1 => repeat (first | exact (Kd.R_reads' HO_191000.out).2.2 | (with_reducible refine Kd.C_alloc ?_ _) | (with_reducible refine Kd.C_drewN ?_ _) | (with_reducible refine Kd.C_drew ?_))); (case side2 => exact (Kd.R_reads' HO_191000.out).2.1); (case side3 => exact TC HR0_3.out); (case side4 => exact HC0_3.out); (case side5 => exact Glob.fr HG.out (Fr.of_below (TB3 GE186.out GE187.out GE190.out))); rintro e w156 ⟨rfl, hb⟩; refine ⟨_, rfl, ?_⟩; replace HO_191000 := Aside0.mk (Kd.R_below (TRo HO_191000.out) hb); replace BK186 := Aside0.mk (TKb hb BK186.out); replace BK187 := Aside0.mk (TKb hb BK187.out); replace BK190 := Aside0.mk (TKb hb BK190.out); replace HB := Aside0.mk (below_step (TB3 GE186.out GE187.out GE190.out) hb); (try clear hb); (try clear hb2); (try clear hk); (try clear hi); have hcz157_0 := cz BK190.out 0; have hcz157_1 := cz BK190.out 1; have hcz157_2 := cz BK190.out 2; have hcz157_3 := cz BK190.out 3; have hfz157_0 := fz BK190.out 0; have hfz157_1 := fz BK190.out 1; have hfz157_2 := fz BK190.out 2; have hfz157_3 := fz BK190.out 3) | ((with_reducible refine gate_callee (f := 20) rfl ?_); refine goesL_ (some 71) rfl rfl Tryd.func20 (by kernel_rfl) rfl #[.agg #[.slice Ao155 x191000_1.length co155, .int .i64 a0_1, .int .i64 a0_2, .slice A0_3 l0_3.length c0_3], .int .i64 t200, .int .i64 t201] rfl TM ?_; (with_reducible refine (rasp_Lucky.calls _ _ x191000_1 a0_1 a0_2 _ _ l0_3 t200 t201 t205 t206 _ ?side1 ?side2 ?side3 ?side4 ?side5 A42.out).mono ?_); (case side1 => repeat (first | exact (Kd.R_reads' HO_191000.out).2.2 | (with_reducible refine Kd.C_alloc ?_ _) | (with_reducible refine Kd.C_drewN ?_ _) | (with_reducible refine Kd.C_drew ?_))); (case side2 => exact (Kd.R_reads' HO_191000.out).2.1); (case side3 => exact TC HR0_3.out); (case side4 => exact HC0_3.out); (case side5 => exact Glob.fr HG.out (Fr.of_below (TB3 GE186.out GE187.out GE190.out))); rintro e w158 ⟨rfl, hb⟩; refine ⟨_, rfl, ?_⟩; replace HO_191000 := Aside0.mk (Kd.R_below (TRo HO_191000.out) hb); replace BK186 := Aside0.mk (TKb hb BK186.out); replace BK187 := Aside0.mk (TKb hb BK187.out); replace BK190 := Aside0.mk (TKb hb BK190.out); replace HB := Aside0.mk (below_step (TB3 GE186.out GE187.out GE190.out) hb); (try clear hb); (try clear hb2); (try clear hk); (try clear hi); have hcz159_0 := cz BK186.out 0; have hcz159_1 := cz BK186.out 1; have hcz159_2 := cz BK186.out 2; have hcz159_3 := cz BK186.out 3; have hfz159_0 := fz BK186.out 0; have hfz159_1 := fz BK186.out 1; have hfz159_2 := fz BK186.out 2; have hfz159_3 := fz BK186.out 3) | ((with_reducible refine gate_callee (f := 20) rfl ?_); refine goesL_ (some 78) rfl rfl Tryd.func20 (by kernel_rfl) rfl #[.agg #[.slice A0_0 l0_0.length c0_0, .int .i64 a0_1, .int .i64 a0_2, .slice A0_3 l0_3.length c0_3], .int .i64 t200, .int .i64 t201] rfl TM ?_; (with_reducible refine (rasp_Lucky.calls _ _ l0_0 a0_1 a0_2 _ _ l0_3 t200 t201 t207 t208 _ ?side1 ?side2 ?side3 ?side4 ?side5 A43.out).mono ?_); (case side1 => exact TC HR0_0.out); (case side2 => exact HC0_0.out); (case side3 => exact TC HR0_3.out); (case side4 => exact HC0_3.out); (case side5 => exact Glob.fr HG.out (Fr.of_below (TB3 GE186.out GE187.out GE190.out))); rintro e w160 ⟨rfl, hb⟩; refine ⟨_, rfl, ?_⟩; replace HO_191000 := Aside0.mk (Kd.R_below (TRo HO_191000.out) hb); replace BK186 := Aside0.mk (TKb hb BK186.out); replace BK187 := Aside0.mk (TKb hb BK187.out); replace BK190 := Aside0.mk (TKb hb BK190.out); replace HB := Aside0.mk (below_step (TB3 GE186.out GE187.out GE190.out) hb); (try clear hb); (try clear hb2); (try clear hk); (try clear hi)))
      go_ret
      exact ⟨TR, TB3 GE186.out GE187.out GE190.out⟩
 ·replace c5 := Bool.eq_false_iff.mpr c5
  subst c5
  have H1 : ((saronlaw03_filed.f).bind fun t189 => (some t189)) = some r := by rw [if_neg (show ¬ (false = true) by decide)] at H; exact H
  clear H
  have H := H1
  clear H1
  replace H := Option.bind_eq_some_iff.mp H
  obtain ⟨t189, A1610, H⟩ := H
  replace H : (some t189) = some r := H
  have A161 := Aside0.mk A1610
  clear A1610
  obtain rfl := Option.some.inj H
  go_enter Tryd.func12, Tryd.ntmps12
  go_wp2_with (first | ((with_reducible refine gate_dst (N := 3) rfl ?_); refine box_event ?hg (N := 3) ?hd (cs := #[.slice A0_0 l0_0.length c0_0, .int .i64 a0_1, .int .i64 a0_2, .slice A0_3 l0_3.length c0_3]) (t := 27) ?hr ?_; (case hd => rfl); (case hg => rfl); (case hr => exact TS); intro gb186 hg w162 hbox hb; have BK186 := Aside0.mk (hbox); have GW186 := Aside0.mk ((TG : w.heap.size ≤ gb186)); have GE186 := Aside0.mk ((TG : w.heap.size ≤ gb186)); replace HB := Aside0.mk (below_step TB hb); clear hb hbox hg) | ((with_reducible refine gate_dst (N := 5) rfl ?_); refine box_event ?hg (N := 5) ?hd (cs := #[.int .i64 a2_0, .int .i64 a2_1]) (t := 28) ?hr ?_; (case hd => rfl); (case hg => rfl); (case hr => exact TS); intro gb187 hg w163 hbox hb; have BK187 := Aside0.mk (hbox); have GW187 := Aside0.mk ((TG1 GE186.out : w.heap.size ≤ gb187)); have GE187 := Aside0.mk ((TG1 GE186.out : w.heap.size ≤ gb187)); have NB186_187 := Aside0.mk ((by rw [hg]; exact Nat.ne_of_lt (blk_lt (g := gb186) (o := .cells #[.slice A0_0 l0_0.length c0_0, .int .i64 a0_1, .int .i64 a0_2, .slice A0_3 l0_3.length c0_3] 27 (0, 0)) (TK BK186.out)) : gb186 ≠ gb187)); have NB187_186 := Aside0.mk ((by rw [hg]; exact Nat.ne_of_gt (blk_lt (g := gb186) (o := .cells #[.slice A0_0 l0_0.length c0_0, .int .i64 a0_1, .int .i64 a0_2, .slice A0_3 l0_3.length c0_3] 27 (0, 0)) (TK BK186.out)) : gb187 ≠ gb186)); replace BK186 := Aside0.mk (TKb hb BK186.out); replace HB := Aside0.mk (below_step (TB1 GE186.out) hb); clear hb hbox hg; have hnb164 := NB186_187.out; have hnc164 := NB187_186.out; have hcz165_0 := cz BK186.out 0; have hcz165_1 := cz BK186.out 1; have hcz165_2 := cz BK186.out 2; have hcz165_3 := cz BK186.out 3; have hfz165_0 := fz BK186.out 0; have hfz165_1 := fz BK186.out 1; have hfz165_2 := fz BK186.out 2; have hfz165_3 := fz BK186.out 3) | ((with_reducible refine gate_callee (f := 37) rfl ?_); refine goesL_ (some 21) rfl rfl Tryd.func37 (by kernel_rfl) rfl #[.agg #[.slice A0_0 l0_0.length c0_0, .int .i64 a0_1, .int .i64 a0_2, .slice A0_3 l0_3.length c0_3]] rfl TM ?_; (with_reducible refine (saronlaw03_sound.calls k _ _ l0_0 a0_1 a0_2 _ _ l0_3 false _ ?side1 ?side2 ?side3 ?side4 A4.out).mono ?_); (case side1 => exact TC HR0_0.out); (case side2 => exact HC0_0.out); (case side3 => exact TC HR0_3.out); (case side4 => exact HC0_3.out); rintro e w166 ⟨rfl, hb⟩; refine ⟨_, rfl, ?_⟩; replace BK186 := Aside0.mk (TKb hb BK186.out); replace BK187 := Aside0.mk (TKb hb BK187.out); replace HB := Aside0.mk (below_step (TB2 GE186.out GE187.out) hb); (try clear hb); (try clear hb2); (try clear hk); (try clear hi)) | ((with_reducible refine gate_callee (f := 22) rfl ?_); refine goesL_ (some 23) rfl rfl Tryd.func22 (by kernel_rfl) rfl #[] rfl TM ?_; (with_reducible refine (saronlaw03_filed.calls  t189 _ ?side1 A161.out).mono ?_); (case side1 => exact Glob.fr HG.out (Fr.of_below (TB2 GE186.out GE187.out))); rintro e w167 ⟨rfl, hb⟩; refine ⟨_, rfl, ?_⟩; replace BK186 := Aside0.mk (TKb hb BK186.out); replace BK187 := Aside0.mk (TKb hb BK187.out); replace HB := Aside0.mk (below_step (TB2 GE186.out GE187.out) hb); (try clear hb); (try clear hb2); (try clear hk); (try clear hi)))
  go_ret
  exact ⟨TR, TB2 GE186.out GE187.out⟩
end Go.Proofs.YtfmpbkolpjlfbaaDoor.PRaspKeys
