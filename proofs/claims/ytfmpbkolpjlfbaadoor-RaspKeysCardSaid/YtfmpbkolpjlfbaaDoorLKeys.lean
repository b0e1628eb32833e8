import Derived.Test.YtfmpbkolpjlfbaaDoorG5
import Derived.Test.YtfmpbkolpjlfbaaDoorCS
import Derived.Test.YtfmpbkolpjlfbaaDoorC0
import Derived.Test.YtfmpbkolpjlfbaaDoorCK
import Derived.Test.YtfmpbkolpjlfbaaDoorM0
import Derived.Test.YtfmpbkolpjlfbaaDoorProg
import Derived.Below
import Derived.Deep.Draws
import Derived.Deep.AppendLies
import Derived.Maps.AppendAt
import Derived.OwnWalk
import Derived.Laws.BytesArg
import Derived.Laws.MakeOwn
import Derived.Laws.OwnMore
import Derived.Deep.OwnRows
import Derived.Tactics
import Derived.Lib.ConvBytes
import Derived.Laws.Slices
import Derived.WalkKit
import Derived.KernelRfl
import Derived.RowKit3
import Derived.Deep.LoopGhost
import Derived.Deep.QuietTactic
import Derived.BigQuiet
import Derived.WideLaws
import Derived.Deep.DeepCutAuto
import Derived.Deep.CutBlock
import Derived.Deep.RegionHeld3
import Derived.Laws.Rows
import Derived.Lib.AppendStr
import Derived.ArgAppend
import Derived.Laws.IdiomCopy
import Derived.OrdersHeld
import Derived.Laws.BitsLemmas
import Derived.RowKit
set_option linter.unusedVariables false
set_option linter.unusedSimpArgs false
namespace Go.Proofs.YtfmpbkolpjlfbaaDoor.PRaspKeys
open Go.RowKit Go.Proofs.YtfmpbkolpjlfbaaDoorW.PrintWords Go.Proofs.YtfmpbkolpjlfbaaDoorW.PrintLast Go.Proofs.YtfmpbkolpjlfbaaDoorW.PrintMore Go.Proofs.YtfmpbkolpjlfbaaDoor.M
attribute [local go_sem] max2_int min2_int max_two min_two max_three min_three max_four min_four   -- for this text's walks alone
/-! #### struct type 24 -/
/-! #### struct type 57 -/
/-! #### struct type 69 -/
/-! #### struct type 93 -/
theorem k93_openF {W : World} {ok : Nat → Prop} {x : S93} {cs : List Value} (h : Kd.FK k93 W ok x cs) : ∃ A0 c0, cs = [.slice A0 x.f0.length c0] ∧ x.f0.length ≤ c0 ∧ Kd.F (Kd.int .i64) W ok A0 x.f0.length x.f0 := by
 obtain ⟨A0, c0, rfl, l0, _⟩ := k93_open (Kd.FK_now h)
 exact ⟨A0, c0, rfl, l0, (fun W' hW => by obtain ⟨A0_, c0_, he, l0_, g0_⟩ := k93_open (h W' hW); injection (Option.some.inj (show some (Value.slice A0 x.f0.length c0) = some (Value.slice A0_ x.f0.length c0_) from congrArg (fun l => l[0]?) he)) with ha_ _ _; rw [ha_]; exact g0_)⟩
theorem k93_mkF (W : World) (ok : Nat → Prop) (x : S93) {A0 : Option Addr} {c0 : Nat} (l0 : x.f0.length ≤ c0) (g0 : Kd.F (Kd.int .i64) W ok A0 x.f0.length x.f0) : Kd.FK k93 W ok x [.slice A0 x.f0.length c0] := fun W2 hW => k93_mk W2 x l0 (g0 W2 hW)
end Go.Proofs.YtfmpbkolpjlfbaaDoor.PRaspKeys
namespace Go.Proofs.YtfmpbkolpjlfbaaDoor.PRaspKeys
open Go.RowKit Go.Proofs.YtfmpbkolpjlfbaaDoorW.PrintWords Go.Proofs.YtfmpbkolpjlfbaaDoorW.PrintLast Go.Proofs.YtfmpbkolpjlfbaaDoorW.PrintMore Go.Proofs.YtfmpbkolpjlfbaaDoor.M
attribute [local go_sem] max2_int min2_int max_two min_two max_three min_three max_four min_four   -- for this text's walks alone
/-! ### saronlaw03_RaspKeys: function 4 -/
mutual
def saronlaw03_RaspKeys.j0 : Nat → Bool → List (S57) → Int → Int → List (S69) → Int → Int → Option (Bool)
 | 0, _, _, _, _, _, _, _ => none
 | k + 1, x32, x242000, x242001, x242002, x242003, x243000, x243001 => if x32 = true then (some false) else ((rasp_Spoilt.f x242000 x242001 x242002 x242003).bind fun bt247 => ((saronref03_Spoilt.f k x242000 x242001 x242002 x242003).bind fun bt251 => ((saronref00_Equal.f k bt247.1 bt251.1).bind fun t255 => (if t255 = true then (saronlaw03_RaspKeys.j1 k (bt247.2 != bt251.2) x242000 x242001 x242002 x242003 x243000 x243001) else (saronlaw03_RaspKeys.j1 k true x242000 x242001 x242002 x242003 x243000 x243001)))))
def saronlaw03_RaspKeys.j1 : Nat → Bool → List (S57) → Int → Int → List (S69) → Int → Int → Option (Bool)
 | 0, _, _, _, _, _, _, _ => none
 | k + 1, x51, x242000, x242001, x242002, x242003, x243000, x243001 => if x51 = true then (some false) else ((rasp_Total.f x242000 x242001 x242002 x242003).bind fun bt256 => ((saronref03_Total.f k x242000 x242001 x242002 x242003).bind fun bt258 => (if bt256.1 = bt258.1 then (saronlaw03_RaspKeys.j2 k (bt256.2 != bt258.2) x242000 x242001 x242002 x242003 x243000 x243001) else (saronlaw03_RaspKeys.j2 k true x242000 x242001 x242002 x242003 x243000 x243001))))
def saronlaw03_RaspKeys.j2 : Nat → Bool → List (S57) → Int → Int → List (S69) → Int → Int → Option (Bool)
 | 0, _, _, _, _, _, _, _ => none
 | k + 1, x69, x242000, x242001, x242002, x242003, x243000, x243001 => if x69 = true then (some false) else ((rasp_Need.f x242000 x242001 x242002 x242003 x243001).bind fun bt260 => ((saronref03_Need.f k x242000 x242001 x242002 x242003 x243001).bind fun bt262 => (if bt260.1 = bt262.1 then (if bt260.2 = bt262.2 then ((saronlaw03_filed.f).bind fun t264 => (some t264)) else (some false)) else (some false))))
end
def saronlaw03_RaspKeys.f (k : Nat) (l0_0 : List (S57)) (a0_1 : Int) (a0_2 : Int) (l0_3 : List (S69)) (a1_0 : Int) (a1_1 : Int) : Option (Bool) := (rasp_Strokes.f l0_0 a0_1 a0_2 l0_3 a1_0).bind fun bt243 => ((saronref03_Strokes.f k l0_0 a0_1 a0_2 l0_3 a1_0).bind fun bt245 => (if bt243.1 = bt245.1 then (saronlaw03_RaspKeys.j0 k (bt243.2 != bt245.2) l0_0 a0_1 a0_2 l0_3 a1_0 a1_1) else (saronlaw03_RaspKeys.j0 k true l0_0 a0_1 a0_2 l0_3 a1_0 a1_1)))
theorem saronlaw03_RaspKeys.mono_l : ∀ k, (∀ y0 y1 y2 y3 y4 y5 y6, LeO (saronlaw03_RaspKeys.j0 k y0 y1 y2 y3 y4 y5 y6) (saronlaw03_RaspKeys.j0 (k + 1) y0 y1 y2 y3 y4 y5 y6)) ∧ (∀ y0 y1 y2 y3 y4 y5 y6, LeO (saronlaw03_RaspKeys.j1 k y0 y1 y2 y3 y4 y5 y6) (saronlaw03_RaspKeys.j1 (k + 1) y0 y1 y2 y3 y4 y5 y6)) ∧ (∀ y0 y1 y2 y3 y4 y5 y6, LeO (saronlaw03_RaspKeys.j2 k y0 y1 y2 y3 y4 y5 y6) (saronlaw03_RaspKeys.j2 (k + 1) y0 y1 y2 y3 y4 y5 y6))
 | 0 => ⟨fun _ _ _ _ _ _ _ r h => by simp [saronlaw03_RaspKeys.j0] at h, fun _ _ _ _ _ _ _ r h => by simp [saronlaw03_RaspKeys.j1] at h, fun _ _ _ _ _ _ _ r h => by simp [saronlaw03_RaspKeys.j2] at h⟩
 | k + 1 => by
  obtain ⟨ih0, ih1, ih2⟩ := saronlaw03_RaspKeys.mono_l k
  refine ⟨?_, ?_, ?_⟩
  ·intro y0 y1 y2 y3 y4 y5 y6
   unfold saronlaw03_RaspKeys.j0
   repeat' first
   | (with_reducible exact ih0 _ _ _ _ _ _ _)
   | (with_reducible exact ih1 _ _ _ _ _ _ _)
   | (with_reducible exact ih2 _ _ _ _ _ _ _)
   | (with_reducible exact saronref00_Equal.mono _ _ _)
   | (with_reducible exact saronref03_Need.mono _ _ _ _ _ _)
   | (with_reducible exact saronref03_Spoilt.mono _ _ _ _ _)
   | (with_reducible exact saronref03_Strokes.mono _ _ _ _ _ _)
   | (with_reducible exact saronref03_Total.mono _ _ _ _ _)
   | (with_reducible exact LeO.refl _)
   | (with_reducible exact LeO.none _)
   | (with_reducible refine LeO.ite ?_ ?_)
   | (with_reducible refine LeO.bind ?_ (fun _ => ?_))
   | exact ih0 _ _ _ _ _ _ _
   | exact ih1 _ _ _ _ _ _ _
   | exact ih2 _ _ _ _ _ _ _
   | exact saronref00_Equal.mono _ _ _
   | exact saronref03_Need.mono _ _ _ _ _ _
   | exact saronref03_Spoilt.mono _ _ _ _ _
   | exact saronref03_Strokes.mono _ _ _ _ _ _
   | exact saronref03_Total.mono _ _ _ _ _
   | exact LeO.none _
   | refine LeO.ite ?_ ?_
   | refine LeO.bind ?_ (fun _ => ?_)
  ·intro y0 y1 y2 y3 y4 y5 y6
   unfold saronlaw03_RaspKeys.j1
   repeat' first
   | (with_reducible exact ih0 _ _ _ _ _ _ _)
   | (with_reducible exact ih1 _ _ _ _ _ _ _)
   | (with_reducible exact ih2 _ _ _ _ _ _ _)
   | (with_reducible exact saronref00_Equal.mono _ _ _)
   | (with_reducible exact saronref03_Need.mono _ _ _ _ _ _)
   | (with_reducible exact saronref03_Spoilt.mono _ _ _ _ _)
   | (with_reducible exact saronref03_Strokes.mono _ _ _ _ _ _)
   | (with_reducible exact saronref03_Total.mono _ _ _ _ _)
   | (with_reducible exact LeO.refl _)
   | (with_reducible exact LeO.none _)
   | (with_reducible refine LeO.ite ?_ ?_)
   | (with_reducible refine LeO.bind ?_ (fun _ => ?_))
   | exact ih0 _ _ _ _ _ _ _
   | exact ih1 _ _ _ _ _ _ _
   | exact ih2 _ _ _ _ _ _ _
   | exact saronref00_Equal.mono _ _ _
   | exact saronref03_Need.mono _ _ _ _ _ _
   | exact saronref03_Spoilt.mono _ _ _ _ _
   | exact saronref03_Strokes.mono _ _ _ _ _ _
   | exact saronref03_Total.mono _ _ _ _ _
   | exact LeO.none _
   | refine LeO.ite ?_ ?_
   | refine LeO.bind ?_ (fun _ => ?_)
  ·intro y0 y1 y2 y3 y4 y5 y6
   unfold saronlaw03_RaspKeys.j2
   repeat' first
   | (with_reducible exact ih0 _ _ _ _ _ _ _)
   | (with_reducible exact ih1 _ _ _ _ _ _ _)
   | (with_reducible exact ih2 _ _ _ _ _ _ _)
   | (with_reducible exact saronref00_Equal.mono _ _ _)
   | (with_reducible exact saronref03_Need.mono _ _ _ _ _ _)
   | (with_reducible exact saronref03_Spoilt.mono _ _ _ _ _)
   | (with_reducible exact saronref03_Strokes.mono _ _ _ _ _ _)
   | (with_reducible exact saronref03_Total.mono _ _ _ _ _)
   | (with_reducible exact LeO.refl _)
   | (with_reducible exact LeO.none _)
   | (with_reducible refine LeO.ite ?_ ?_)
   | (with_reducible refine LeO.bind ?_ (fun _ => ?_))
   | exact ih0 _ _ _ _ _ _ _
   | exact ih1 _ _ _ _ _ _ _
   | exact ih2 _ _ _ _ _ _ _
   | exact saronref00_Equal.mono _ _ _
   | exact saronref03_Need.mono _ _ _ _ _ _
   | exact saronref03_Spoilt.mono _ _ _ _ _
   | exact saronref03_Strokes.mono _ _ _ _ _ _
   | exact saronref03_Total.mono _ _ _ _ _
   | exact LeO.none _
   | refine LeO.ite ?_ ?_
   | refine LeO.bind ?_ (fun _ => ?_)
theorem saronlaw03_RaspKeys.mono : ∀ a0 a1 a2 a3 a4 a5 k, LeO (saronlaw03_RaspKeys.f k a0 a1 a2 a3 a4 a5) (saronlaw03_RaspKeys.f (k + 1) a0 a1 a2 a3 a4 a5) := by
 intro a0 a1 a2 a3 a4 a5 k
 obtain ⟨ih0, ih1, ih2⟩ := saronlaw03_RaspKeys.mono_l k
 unfold saronlaw03_RaspKeys.f
 repeat' first
   | (with_reducible exact ih0 _ _ _ _ _ _ _)
   | (with_reducible exact ih1 _ _ _ _ _ _ _)
   | (with_reducible exact ih2 _ _ _ _ _ _ _)
   | (with_reducible exact saronref00_Equal.mono _ _ _)
   | (with_reducible exact saronref03_Need.mono _ _ _ _ _ _)
   | (with_reducible exact saronref03_Spoilt.mono _ _ _ _ _)
   | (with_reducible exact saronref03_Strokes.mono _ _ _ _ _ _)
   | (with_reducible exact saronref03_Total.mono _ _ _ _ _)
   | (with_reducible exact LeO.refl _)
   | (with_reducible exact LeO.none _)
   | (with_reducible refine LeO.ite ?_ ?_)
   | (with_reducible refine LeO.bind ?_ (fun _ => ?_))
   | exact ih0 _ _ _ _ _ _ _
   | exact ih1 _ _ _ _ _ _ _
   | exact ih2 _ _ _ _ _ _ _
   | exact saronref00_Equal.mono _ _ _
   | exact saronref03_Need.mono _ _ _ _ _ _
   | exact saronref03_Spoilt.mono _ _ _ _ _
   | exact saronref03_Strokes.mono _ _ _ _ _ _
   | exact saronref03_Total.mono _ _ _ _ _
   | exact LeO.none _
   | refine LeO.ite ?_ ?_
   | refine LeO.bind ?_ (fun _ => ?_)
set_option maxHeartbeats 8000000 in
set_option maxRecDepth 100000 in
theorem saronlaw03_RaspKeys.calls (k : Nat) (A0_0 : Option Addr) (c0_0 : Nat) (l0_0 : List (S57)) (a0_1 : Int) (a0_2 : Int) (A0_3 : Option Addr) (c0_3 : Nat) (l0_3 : List (S69)) (a1_0 : Int) (a1_1 : Int) (r : Bool) (w : World) (hr0_0 : Kd.C k57 w A0_0 l0_0.length l0_0) (hc0_0 : l0_0.length ≤ c0_0) (hr0_3 : Kd.C k69 w A0_3 l0_3.length l0_3) (hc0_3 : l0_3.length ≤ c0_3) (hG : Glob w) (h : saronlaw03_RaspKeys.f k l0_0 a0_1 a0_2 l0_3 a1_0 a1_1 = some r) :
  Calls Tryd.prog 4 #[.agg #[.slice A0_0 l0_0.length c0_0, .int .i64 a0_1, .int .i64 a0_2, .slice A0_3 l0_3.length c0_3], .agg #[.int .i64 a1_0, .int .i64 a1_1]] w fun e w' => e = .returned (.bool r) ∧ Below w.heap.size w w' := by
 have hu27 := Tryd.underlying27
 have hu28 := Tryd.underlying28
 have HR0_0 := Aside0.mk hr0_0
 have HC0_0 := Aside0.mk hc0_0
 clear hr0_0 hc0_0
 have HR0_3 := Aside0.mk hr0_3
 have HC0_3 := Aside0.mk hc0_3
 clear hr0_3 hc0_3
 have HB := Aside0.mk (Below.refl w.heap.size w)
 have HG := Aside0.mk hG
 clear hG
 have H : ((rasp_Strokes.f l0_0 a0_1 a0_2 l0_3 a1_0).bind fun bt243 => ((saronref03_Strokes.f k l0_0 a0_1 a0_2 l0_3 a1_0).bind fun bt245 => (if bt243.1 = bt245.1 then (saronlaw03_RaspKeys.j0 k (bt243.2 != bt245.2) l0_0 a0_1 a0_2 l0_3 a1_0 a1_1) else (saronlaw03_RaspKeys.j0 k true l0_0 a0_1 a0_2 l0_3 a1_0 a1_1)))) = some r := h
 clear h
 replace H := Option.bind_eq_some_iff.mp H
 obtain ⟨⟨t243, t244⟩, A30, H⟩ := H
 replace H : ((saronref03_Strokes.f k l0_0 a0_1 a0_2 l0_3 a1_0).bind fun bt245 => (if t243 = bt245.1 then (saronlaw03_RaspKeys.j0 k (t244 != bt245.2) l0_0 a0_1 a0_2 l0_3 a1_0 a1_1) else (saronlaw03_RaspKeys.j0 k true l0_0 a0_1 a0_2 l0_3 a1_0 a1_1))) = some r := H
 have A3 := Aside0.mk A30
 clear A30
 replace H := Option.bind_eq_some_iff.mp H
 obtain ⟨⟨t245, t246⟩, A40, H⟩ := H
 replace H : (if t243 = t245 then (saronlaw03_RaspKeys.j0 k (t244 != t246) l0_0 a0_1 a0_2 l0_3 a1_0 a1_1) else (saronlaw03_RaspKeys.j0 k true l0_0 a0_1 a0_2 l0_3 a1_0 a1_1)) = some r := H
 have A4 := Aside0.mk A40
 clear A40
 have HC5 := Aside0.mk H
 clear H
 go_enter Tryd.func4, Tryd.ntmps4
 go_upto_region 3 with (first | ((with_reducible refine gate_dst (N := 2) rfl ?_); refine box_event ?hg (N := 2) ?hd (cs := #[.slice A0_0 l0_0.length c0_0, .int .i64 a0_1, .int .i64 a0_2, .slice A0_3 l0_3.length c0_3]) (t := 27) ?hr ?_; (case hd => rfl); (case hg => rfl); (case hr => exact TS); intro gb241 hg w6 hbox hb; have BK241 := Aside0.mk (hbox); have GW241 := Aside0.mk ((TG : w.heap.size ≤ gb241)); have GE241 := Aside0.mk ((TG : w.heap.size ≤ gb241)); replace HB := Aside0.mk (below_step TB hb); clear hb hbox hg) | ((with_reducible refine gate_dst (N := 3) rfl ?_); refine box_event ?hg (N := 3) ?hd (cs := #[.int .i64 a1_0, .int .i64 a1_1]) (t := 28) ?hr ?_; (case hd => rfl); (case hg => rfl); (case hr => exact TS); intro gb242 hg w7 hbox hb; have BK242 := Aside0.mk (hbox); have GW242 := Aside0.mk ((TG1 GE241.out : w.heap.size ≤ gb242)); have GE242 := Aside0.mk ((TG1 GE241.out : w.heap.size ≤ gb242)); have NB241_242 := Aside0.mk ((by rw [hg]; exact Nat.ne_of_lt (blk_lt (g := gb241) (o := .cells #[.slice A0_0 l0_0.length c0_0, .int .i64 a0_1, .int .i64 a0_2, .slice A0_3 l0_3.length c0_3] 27 (0, 0)) (TK BK241.out)) : gb241 ≠ gb242)); have NB242_241 := Aside0.mk ((by rw [hg]; exact Nat.ne_of_gt (blk_lt (g := gb241) (o := .cells #[.slice A0_0 l0_0.length c0_0, .int .i64 a0_1, .int .i64 a0_2, .slice A0_3 l0_3.length c0_3] 27 (0, 0)) (TK BK241.out)) : gb242 ≠ gb241)); replace BK241 := Aside0.mk (TKb hb BK241.out); replace HB := Aside0.mk (below_step (TB1 GE241.out) hb); clear hb hbox hg; have hnb8 := NB241_242.out; have hnc8 := NB242_241.out; have hcz9_0 := cz BK241.out 0; have hcz9_1 := cz BK241.out 1; have hcz9_2 := cz BK241.out 2; have hcz9_3 := cz BK241.out 3; have hfz9_0 := fz BK241.out 0; have hfz9_1 := fz BK241.out 1; have hfz9_2 := fz BK241.out 2; have hfz9_3 := fz BK241.out 3; have hcz10_0 := cz BK242.out 0; have hcz10_1 := cz BK242.out 1; have hfz10_0 := fz BK242.out 0; have hfz10_1 := fz BK242.out 1) | ((with_reducible refine gate_callee (f := 23) rfl ?_); refine goesL_ (some 15) rfl rfl Tryd.func23 (by kernel_rfl) rfl #[.agg #[.slice A0_0 l0_0.length c0_0, .int .i64 a0_1, .int .i64 a0_2, .slice A0_3 l0_3.length c0_3], .int .i64 a1_0] rfl TM ?_; (with_reducible refine (rasp_Strokes.calls _ _ l0_0 a0_1 a0_2 _ _ l0_3 a1_0 t243 t244 _ ?side1 ?side2 ?side3 ?side4 ?side5 A3.out).mono ?_); (case side1 => exact TC HR0_0.out); (case side2 => exact HC0_0.out); (case side3 => exact TC HR0_3.out); (case side4 => exact HC0_3.out); (case side5 => exact Glob.fr HG.out (Fr.of_below (TB2 GE241.out GE242.out))); rintro e w11 ⟨rfl, hb⟩; refine ⟨_, rfl, ?_⟩; replace BK241 := Aside0.mk (TKb hb BK241.out); replace BK242 := Aside0.mk (TKb hb BK242.out); replace HB := Aside0.mk (below_step (TB2 GE241.out GE242.out) hb); (try clear hb); (try clear hb2); (try clear hk); (try clear hi); have hcz12_0 := cz BK241.out 0; have hcz12_1 := cz BK241.out 1; have hcz12_2 := cz BK241.out 2; have hcz12_3 := cz BK241.out 3; have hfz12_0 := fz BK241.out 0; have hfz12_1 := fz BK241.out 1; have hfz12_2 := fz BK241.out 2; have hfz12_3 := fz BK241.out 3; have hcz13_0 := cz BK242.out 0; have hcz13_1 := cz BK242.out 1; have hfz13_0 := fz BK242.out 0; have hfz13_1 := fz BK242.out 1) | ((with_reducible refine gate_callee (f := 24) rfl ?_); refine goesL_ (some 22) rfl rfl Tryd.func24 (by kernel_rfl) rfl #[.agg #[.slice A0_0 l0_0.length c0_0, .int .i64 a0_1, .int .i64 a0_2, .slice A0_3 l0_3.length c0_3], .int .i64 a1_0] rfl TM ?_; (with_reducible refine (saronref03_Strokes.calls k _ _ l0_0 a0_1 a0_2 _ _ l0_3 a1_0 t245 t246 _ ?side1 ?side2 ?side3 ?side4 A4.out).mono ?_); (case side1 => exact TC HR0_0.out); (case side2 => exact HC0_0.out); (case side3 => exact TC HR0_3.out); (case side4 => exact HC0_3.out); rintro e w14 ⟨rfl, hb⟩; refine ⟨_, rfl, ?_⟩; replace BK241 := Aside0.mk (TKb hb BK241.out); replace BK242 := Aside0.mk (TKb hb BK242.out); replace HB := Aside0.mk (below_step (TB2 GE241.out GE242.out) hb); (try clear hb); (try clear hb2); (try clear hk); (try clear hi)))
 (try simp only [Act.put, lA, lZ, lS])
 go_cut [32] (fun v32 wc => ∃ (kq : Nat) (x32_4 : Bool), v32 = .bool x32_4 ∧ Aside0 (saronlaw03_RaspKeys.j0 kq x32_4 l0_0 a0_1 a0_2 l0_3 a1_0 a1_1 = some r) ∧ Aside0 (kq ≤ k) ∧ Aside0 (wc.heap[gb241]? = some (.cells #[(.slice A0_0 l0_0.length c0_0), .int .i64 a0_1, .int .i64 a0_2, (.slice A0_3 l0_3.length c0_3)] 27 (0, 0))) ∧ Aside0 (wc.heap[gb242]? = some (.cells #[.int .i64 a1_0, .int .i64 a1_1] 28 (0, 0))) ∧ Aside0 (Below w.heap.size w wc))
 case first =>
  have H := HC5.out
  clear HC5
  by_cases c15 : t243 = t245
  ·rw [if_pos c15] at H
   have c15b0 : (t243 == t245) = true := beq_iff_eq.mpr c15
   have c15b1 : (t243 != t245) = false := bne_eq_false_iff_eq.mpr c15
   clear c15
   (first | rw [c15b0] | (simp only [i64_w, i32_w]; rw [c15b0]) | skip)
   have H' := Aside0.mk H
   clear H
   go_wp2
   go_meet
   case rel => exact ⟨_, ((t244 != t246)), TT, H', ⟨by first | omega | exact Nat.le_refl _⟩, ⟨TK BK241.out⟩, ⟨TK BK242.out⟩, ⟨TB2 GE241.out GE242.out⟩⟩
  ·rw [if_neg c15] at H
   have c15b0 : (t243 == t245) = false := beq_eq_false_iff_ne.mpr c15
   have c15b1 : (t243 != t245) = true := bne_iff_ne.mpr c15
   (first | rw [c15b0] | (simp only [i64_w, i32_w]; rw [c15b0]) | skip)
   have H' := Aside0.mk H
   clear H
   go_wp2
   go_meet
   case rel => exact ⟨_, (true), TT, H', ⟨by first | omega | exact Nat.le_refl _⟩, ⟨TK BK241.out⟩, ⟨TK BK242.out⟩, ⟨TB2 GE241.out GE242.out⟩⟩
 case rest =>
  clear HC5
  try clear c1
  try clear c2
  try clear p2
  try clear c4
  try clear c8
  try clear c15
  try clear c15b0
  try clear c15b1
  try clear hcz10_0 hcz10_1
  try clear hcz12_0 hcz12_1 hcz12_2 hcz12_3
  try clear hcz13_0 hcz13_1
  try clear hcz9_0 hcz9_1 hcz9_2 hcz9_3
  try clear hfz10_0 hfz10_1
  try clear hfz12_0 hfz12_1 hfz12_2 hfz12_3
  try clear hfz13_0 hfz13_1
  try clear hfz9_0 hfz9_1 hfz9_2 hfz9_3
  obtain ⟨kq, x32_4, rfl, HA, HJ4, BK241, BK242, HB⟩ := hcut
  cases kq with
  | zero => exact absurd HA.out (by simp [saronlaw03_RaspKeys.j0])
  | succ kj4 =>
   have H := HA.out
   clear HA
   simp only [saronlaw03_RaspKeys.j0] at H
   by_cases c16 : x32_4 = true
   ·subst c16
    have H1 : (some false) = some r := by rw [if_pos rfl] at H; exact H
    clear H
    have H := H1
    clear H1
    obtain rfl := Option.some.inj H
    go_wp2
    go_ret
    exact ⟨TR, TB2 GE241.out GE242.out⟩
   ·replace c16 := Bool.eq_false_iff.mpr c16
    subst c16
    have H1 : ((rasp_Spoilt.f l0_0 a0_1 a0_2 l0_3).bind fun bt247 => ((saronref03_Spoilt.f kj4 l0_0 a0_1 a0_2 l0_3).bind fun bt251 => ((saronref00_Equal.f kj4 bt247.1 bt251.1).bind fun t255 => (if t255 = true then (saronlaw03_RaspKeys.j1 kj4 (bt247.2 != bt251.2) l0_0 a0_1 a0_2 l0_3 a1_0 a1_1) else (saronlaw03_RaspKeys.j1 kj4 true l0_0 a0_1 a0_2 l0_3 a1_0 a1_1))))) = some r := by rw [if_neg (show ¬ (false = true) by decide)] at H; exact H
    clear H
    have H := H1
    clear H1
    replace H := Option.bind_eq_some_iff.mp H
    obtain ⟨⟨t247, t250⟩, A170, H⟩ := H
    replace H : ((saronref03_Spoilt.f kj4 l0_0 a0_1 a0_2 l0_3).bind fun bt251 => ((saronref00_Equal.f kj4 t247 bt251.1).bind fun t255 => (if t255 = true then (saronlaw03_RaspKeys.j1 kj4 (t250 != bt251.2) l0_0 a0_1 a0_2 l0_3 a1_0 a1_1) else (saronlaw03_RaspKeys.j1 kj4 true l0_0 a0_1 a0_2 l0_3 a1_0 a1_1)))) = some r := H
    have A17 := Aside0.mk A170
    clear A170
    replace H := Option.bind_eq_some_iff.mp H
    obtain ⟨⟨t251, t254⟩, A180, H⟩ := H
    replace H : ((saronref00_Equal.f kj4 t247 t251).bind fun t255 => (if t255 = true then (saronlaw03_RaspKeys.j1 kj4 (t250 != t254) l0_0 a0_1 a0_2 l0_3 a1_0 a1_1) else (saronlaw03_RaspKeys.j1 kj4 true l0_0 a0_1 a0_2 l0_3 a1_0 a1_1))) = some r := H
    have A18 := Aside0.mk A180
    clear A180
    have HC19 := Aside0.mk H
    clear H
    have hnb20 := NB241_242.out
    have hnc20 := NB242_241.out
    have hcz21_0 := cz BK241.out 0
    have hcz21_1 := cz BK241.out 1
    have hcz21_2 := cz BK241.out 2
    have hcz21_3 := cz BK241.out 3
    have hfz21_0 := fz BK241.out 0
    have hfz21_1 := fz BK241.out 1
    have hfz21_2 := fz BK241.out 2
    have hfz21_3 := fz BK241.out 3
    go_upto_region 7 with (first | ((with_reducible refine gate_callee (f := 25) rfl ?_); refine goesL_ (some 35) rfl rfl Tryd.func25 (by kernel_rfl) rfl #[.agg #[.slice A0_0 l0_0.length c0_0, .int .i64 a0_1, .int .i64 a0_2, .slice A0_3 l0_3.length c0_3]] rfl TM ?_; (with_reducible refine (rasp_Spoilt.calls _ _ l0_0 a0_1 a0_2 _ _ l0_3 t247 t250 _ ?side1 ?side2 ?side3 ?side4 ?side5 A17.out).mono ?_); (case side1 => exact TC HR0_0.out); (case side2 => exact HC0_0.out); (case side3 => exact TC HR0_3.out); (case side4 => exact HC0_3.out); (case side5 => exact Glob.fr HG.out (Fr.of_below (TB2 GE241.out GE242.out))); rintro e w22 ⟨v248, rfl, ho0, hb⟩; refine ⟨_, rfl, ?_⟩; have HO249 := Aside0.mk (Kd.V_lower (Kd.V_mono (ok' := fun k_ => k_ ≠ gb241 ∧ k_ ≠ gb242) ho0 (fun k_ hk_ => ⟨(Kd.freshB (g := gb241) (o := .cells #[.slice A0_0 l0_0.length c0_0, .int .i64 a0_1, .int .i64 a0_2, .slice A0_3 l0_3.length c0_3] 27 (0, 0)) (TK BK241.out) k_ hk_), (Kd.freshB (g := gb242) (o := .cells #[.int .i64 a1_0, .int .i64 a1_1] 28 (0, 0)) (TK BK242.out) k_ hk_)⟩)) (below_size (TB2 GE241.out GE242.out))); replace BK241 := Aside0.mk (TKb hb BK241.out); replace BK242 := Aside0.mk (TKb hb BK242.out); replace HB := Aside0.mk (below_step (TB2 GE241.out GE242.out) hb); (try clear hb); (try clear hb2); (try clear hk); (try clear hi); (try clear ho0); have hcz23_0 := cz BK241.out 0; have hcz23_1 := cz BK241.out 1; have hcz23_2 := cz BK241.out 2; have hcz23_3 := cz BK241.out 3; have hfz23_0 := fz BK241.out 0; have hfz23_1 := fz BK241.out 1; have hfz23_2 := fz BK241.out 2; have hfz23_3 := fz BK241.out 3) | ((with_reducible refine gate_callee (f := 26) rfl ?_); refine goesL_ (some 40) rfl rfl Tryd.func26 (by kernel_rfl) rfl #[.agg #[.slice A0_0 l0_0.length c0_0, .int .i64 a0_1, .int .i64 a0_2, .slice A0_3 l0_3.length c0_3]] rfl TM ?_; (with_reducible refine (saronref03_Spoilt.calls kj4 _ _ l0_0 a0_1 a0_2 _ _ l0_3 t251 t254 _ ?side1 ?side2 ?side3 ?side4 A18.out).mono ?_); (case side1 => exact TC HR0_0.out); (case side2 => exact HC0_0.out); (case side3 => exact TC HR0_3.out); (case side4 => exact HC0_3.out); rintro e w24 ⟨v252, rfl, ho0, hb⟩; refine ⟨_, rfl, ?_⟩; have HO253 := Aside0.mk (Kd.R_lower ho0 (below_size (TB2 GE241.out GE242.out))); replace HO249 := Aside0.mk (Kd.V_elder' (by (with_reducible repeat (first | apply Kd.V_alloc | apply Kd.V_drewN | apply Kd.V_drew)); exact HO249.out) (Kd.R_base ho0) hb); replace BK241 := Aside0.mk (TKb hb BK241.out); replace BK242 := Aside0.mk (TKb hb BK242.out); replace HB := Aside0.mk (below_step (TB2 GE241.out GE242.out) hb); (try clear hb); (try clear hb2); (try clear hk); (try clear hi); (try clear ho0)))
    (try simp only [Act.put, lA, lZ, lS])
    go_cut [51] (fun v51 wc => ∃ (kq : Nat) (x51_18 : Bool), v51 = .bool x51_18 ∧ Aside0 (saronlaw03_RaspKeys.j1 kq x51_18 l0_0 a0_1 a0_2 l0_3 a1_0 a1_1 = some r) ∧ Aside0 (kq ≤ kj4) ∧ Aside0 (wc.heap[gb241]? = some (.cells #[(.slice A0_0 l0_0.length c0_0), .int .i64 a0_1, .int .i64 a0_2, (.slice A0_3 l0_3.length c0_3)] 27 (0, 0))) ∧ Aside0 (wc.heap[gb242]? = some (.cells #[.int .i64 a1_0, .int .i64 a1_1] 28 (0, 0))) ∧ Aside0 (Below w.heap.size w wc))
    case first =>
     have H := HC19.out
     clear HC19
     replace H := Option.bind_eq_some_iff.mp H
     obtain ⟨t255, A250, H⟩ := H
     replace H : (if t255 = true then (saronlaw03_RaspKeys.j1 kj4 (t250 != t254) l0_0 a0_1 a0_2 l0_3 a1_0 a1_1) else (saronlaw03_RaspKeys.j1 kj4 true l0_0 a0_1 a0_2 l0_3 a1_0 a1_1)) = some r := H
     have A25 := Aside0.mk A250
     clear A250
     by_cases c26 : t255 = true
     ·subst c26
      have H1 : (saronlaw03_RaspKeys.j1 kj4 (t250 != t254) l0_0 a0_1 a0_2 l0_3 a1_0 a1_1) = some r := by rw [if_pos rfl] at H; exact H
      clear H
      have H := H1
      clear H1
      have H' := Aside0.mk H
      clear H
      obtain ⟨Ao27, co27, eo27⟩ := Kd.V_slice HO249.out
      subst eo27
      obtain ⟨Ao28, co28, eo28⟩ := Kd.R_slice HO253.out
      subst eo28
      go_wp2_with (first | ((with_reducible refine gate_callee (f := 27) rfl ?_); refine goesL_ (some 45) rfl rfl Tryd.func27 (by kernel_rfl) rfl #[.slice Ao27 t247.length co27, .slice Ao28 t251.length co28] rfl TM ?_; (with_reducible refine (saronref00_Equal.calls kj4 _ _ t247 _ _ t251 true _ ?side1 ?side2 ?side3 ?side4 A25.out).mono ?_); (case side1 => repeat (first | exact (Kd.V_reads' HO249.out).2.2 | (with_reducible refine Kd.C_alloc ?_ _) | (with_reducible refine Kd.C_drewN ?_ _) | (with_reducible refine Kd.C_drew ?_))); (case side2 => exact (Kd.V_reads' HO249.out).2.1); (case side3 => repeat (first | exact (Kd.R_reads' HO253.out).2.2 | (with_reducible refine Kd.C_alloc ?_ _) | (with_reducible refine Kd.C_drewN ?_ _) | (with_reducible refine Kd.C_drew ?_))); (case side4 => exact (Kd.R_reads' HO253.out).2.1); rintro e w' ⟨rfl, ⟨nd, rfl⟩⟩; refine ⟨_, rfl, ?_⟩))
      go_meet
      case rel => exact ⟨_, ((t250 != t254)), TT, H', ⟨by have := HJ4.out; first | omega | exact Nat.le_refl _⟩, ⟨TK BK241.out⟩, ⟨TK BK242.out⟩, ⟨TB2 GE241.out GE242.out⟩⟩
     ·replace c26 := Bool.eq_false_iff.mpr c26
      subst c26
      have H1 : (saronlaw03_RaspKeys.j1 kj4 true l0_0 a0_1 a0_2 l0_3 a1_0 a1_1) = some r := by rw [if_neg (show ¬ (false = true) by decide)] at H; exact H
      clear H
      have H := H1
      clear H1
      have H' := Aside0.mk H
      clear H
      obtain ⟨Ao29, co29, eo29⟩ := Kd.V_slice HO249.out
      subst eo29
      obtain ⟨Ao30, co30, eo30⟩ := Kd.R_slice HO253.out
      subst eo30
      go_wp2_with (first | ((with_reducible refine gate_callee (f := 27) rfl ?_); refine goesL_ (some 45) rfl rfl Tryd.func27 (by kernel_rfl) rfl #[.slice Ao29 t247.length co29, .slice Ao30 t251.length co30] rfl TM ?_; (with_reducible refine (saronref00_Equal.calls kj4 _ _ t247 _ _ t251 false _ ?side1 ?side2 ?side3 ?side4 A25.out).mono ?_); (case side1 => repeat (first | exact (Kd.V_reads' HO249.out).2.2 | (with_reducible refine Kd.C_alloc ?_ _) | (with_reducible refine Kd.C_drewN ?_ _) | (with_reducible refine Kd.C_drew ?_))); (case side2 => exact (Kd.V_reads' HO249.out).2.1); (case side3 => repeat (first | exact (Kd.R_reads' HO253.out).2.2 | (with_reducible refine Kd.C_alloc ?_ _) | (with_reducible refine Kd.C_drewN ?_ _) | (with_reducible refine Kd.C_drew ?_))); (case side4 => exact (Kd.R_reads' HO253.out).2.1); rintro e w' ⟨rfl, ⟨nd, rfl⟩⟩; refine ⟨_, rfl, ?_⟩))
      go_meet
      case rel => exact ⟨_, (true), TT, H', ⟨by have := HJ4.out; first | omega | exact Nat.le_refl _⟩, ⟨TK BK241.out⟩, ⟨TK BK242.out⟩, ⟨TB2 GE241.out GE242.out⟩⟩
    case rest =>
     clear HC19
     try clear c1
     try clear c2
     try clear p2
     try clear c4
     try clear c8
     try clear c15
     try clear c15b0
     try clear c15b1
     try clear c16
     try clear c20
     try clear c23
     try clear c24
     try clear c25
     try clear c26
     try clear c27
     try clear hcz10_0 hcz10_1
     try clear hcz12_0 hcz12_1 hcz12_2 hcz12_3
     try clear hcz13_0 hcz13_1
     try clear hcz21_0 hcz21_1 hcz21_2 hcz21_3
     try clear hcz23_0 hcz23_1 hcz23_2 hcz23_3
     try clear hcz9_0 hcz9_1 hcz9_2 hcz9_3
     try clear hfz10_0 hfz10_1
     try clear hfz12_0 hfz12_1 hfz12_2 hfz12_3
     try clear hfz13_0 hfz13_1
     try clear hfz21_0 hfz21_1 hfz21_2 hfz21_3
     try clear hfz23_0 hfz23_1 hfz23_2 hfz23_3
     try clear hfz9_0 hfz9_1 hfz9_2 hfz9_3
     try clear p2
     obtain ⟨kq, x51_18, rfl, HA, HJ18, BK241, BK242, HB⟩ := hcut
     cases kq with
     | zero => exact absurd HA.out (by simp [saronlaw03_RaspKeys.j1])
     | succ kj18 =>
      have H := HA.out
      clear HA
      simp only [saronlaw03_RaspKeys.j1] at H
      by_cases c31 : x51_18 = true
      ·subst c31
       have H1 : (some false) = some r := by rw [if_pos rfl] at H; exact H
       clear H
       have H := H1
       clear H1
       obtain rfl := Option.some.inj H
       go_wp2
       go_ret
       exact ⟨TR, TB2 GE241.out GE242.out⟩
      ·replace c31 := Bool.eq_false_iff.mpr c31
       subst c31
       have H1 : ((rasp_Total.f l0_0 a0_1 a0_2 l0_3).bind fun bt256 => ((saronref03_Total.f kj18 l0_0 a0_1 a0_2 l0_3).bind fun bt258 => (if bt256.1 = bt258.1 then (saronlaw03_RaspKeys.j2 kj18 (bt256.2 != bt258.2) l0_0 a0_1 a0_2 l0_3 a1_0 a1_1) else (saronlaw03_RaspKeys.j2 kj18 true l0_0 a0_1 a0_2 l0_3 a1_0 a1_1)))) = some r := by rw [if_neg (show ¬ (false = true) by decide)] at H; exact H
       clear H
       have H := H1
       clear H1
       replace H := Option.bind_eq_some_iff.mp H
       obtain ⟨⟨t256, t257⟩, A320, H⟩ := H
       replace H : ((saronref03_Total.f kj18 l0_0 a0_1 a0_2 l0_3).bind fun bt258 => (if t256 = bt258.1 then (saronlaw03_RaspKeys.j2 kj18 (t257 != bt258.2) l0_0 a0_1 a0_2 l0_3 a1_0 a1_1) else (saronlaw03_RaspKeys.j2 kj18 true l0_0 a0_1 a0_2 l0_3 a1_0 a1_1))) = some r := H
       have A32 := Aside0.mk A320
       clear A320
       replace H := Option.bind_eq_some_iff.mp H
       obtain ⟨⟨t258, t259⟩, A330, H⟩ := H
       replace H : (if t256 = t258 then (saronlaw03_RaspKeys.j2 kj18 (t257 != t259) l0_0 a0_1 a0_2 l0_3 a1_0 a1_1) else (saronlaw03_RaspKeys.j2 kj18 true l0_0 a0_1 a0_2 l0_3 a1_0 a1_1)) = some r := H
       have A33 := Aside0.mk A330
       clear A330
       have HC34 := Aside0.mk H
       clear H
       have hnb35 := NB241_242.out
       have hnc35 := NB242_241.out
       have hcz36_0 := cz BK241.out 0
       have hcz36_1 := cz BK241.out 1
       have hcz36_2 := cz BK241.out 2
       have hcz36_3 := cz BK241.out 3
       have hfz36_0 := fz BK241.out 0
       have hfz36_1 := fz BK241.out 1
       have hfz36_2 := fz BK241.out 2
       have hfz36_3 := fz BK241.out 3
       go_upto_region 11 with (first | ((with_reducible refine gate_callee (f := 28) rfl ?_); refine goesL_ (some 54) rfl rfl Tryd.func28 (by kernel_rfl) rfl #[.agg #[.slice A0_0 l0_0.length c0_0, .int .i64 a0_1, .int .i64 a0_2, .slice A0_3 l0_3.length c0_3]] rfl TM ?_; (with_reducible refine (rasp_Total.calls _ _ l0_0 a0_1 a0_2 _ _ l0_3 t256 t257 _ ?side1 ?side2 ?side3 ?side4 ?side5 A32.out).mono ?_); (case side1 => exact TC HR0_0.out); (case side2 => exact HC0_0.out); (case side3 => exact TC HR0_3.out); (case side4 => exact HC0_3.out); (case side5 => exact Glob.fr HG.out (Fr.of_below (TB2 GE241.out GE242.out))); rintro e w37 ⟨rfl, hb⟩; refine ⟨_, rfl, ?_⟩; replace BK241 := Aside0.mk (TKb hb BK241.out); replace BK242 := Aside0.mk (TKb hb BK242.out); replace HB := Aside0.mk (below_step (TB2 GE241.out GE242.out) hb); (try clear hb); (try clear hb2); (try clear hk); (try clear hi); have hcz38_0 := cz BK241.out 0; have hcz38_1 := cz BK241.out 1; have hcz38_2 := cz BK241.out 2; have hcz38_3 := cz BK241.out 3; have hfz38_0 := fz BK241.out 0; have hfz38_1 := fz BK241.out 1; have hfz38_2 := fz BK241.out 2; have hfz38_3 := fz BK241.out 3) | ((with_reducible refine gate_callee (f := 29) rfl ?_); refine goesL_ (some 59) rfl rfl Tryd.func29 (by kernel_rfl) rfl #[.agg #[.slice A0_0 l0_0.length c0_0, .int .i64 a0_1, .int .i64 a0_2, .slice A0_3 l0_3.length c0_3]] rfl TM ?_; (with_reducible refine (saronref03_Total.calls kj18 _ _ l0_0 a0_1 a0_2 _ _ l0_3 t258 t259 _ ?side1 ?side2 ?side3 ?side4 A33.out).mono ?_); (case side1 => exact TC HR0_0.out); (case side2 => exact HC0_0.out); (case side3 => exact TC HR0_3.out); (case side4 => exact HC0_3.out); rintro e w39 ⟨rfl, hb⟩; refine ⟨_, rfl, ?_⟩; replace BK241 := Aside0.mk (TKb hb BK241.out); replace BK242 := Aside0.mk (TKb hb BK242.out); replace HB := Aside0.mk (below_step (TB2 GE241.out GE242.out) hb); (try clear hb); (try clear hb2); (try clear hk); (try clear hi)))
       (try simp only [Act.put, lA, lZ, lS])
       go_cut [69] (fun v69 wc => ∃ (kq : Nat) (x69_33 : Bool), v69 = .bool x69_33 ∧ Aside0 (saronlaw03_RaspKeys.j2 kq x69_33 l0_0 a0_1 a0_2 l0_3 a1_0 a1_1 = some r) ∧ Aside0 (kq ≤ kj18) ∧ Aside0 (wc.heap[gb241]? = some (.cells #[(.slice A0_0 l0_0.length c0_0), .int .i64 a0_1, .int .i64 a0_2, (.slice A0_3 l0_3.length c0_3)] 27 (0, 0))) ∧ Aside0 (wc.heap[gb242]? = some (.cells #[.int .i64 a1_0, .int .i64 a1_1] 28 (0, 0))) ∧ Aside0 (Below w.heap.size w wc))
       case first =>
        have H := HC34.out
        clear HC34
        by_cases c40 : t256 = t258
        ·rw [if_pos c40] at H
         have c40b0 : (t256 == t258) = true := beq_iff_eq.mpr c40
         have c40b1 : (t256 != t258) = false := bne_eq_false_iff_eq.mpr c40
         clear c40
         (first | rw [c40b0] | (simp only [i64_w, i32_w]; rw [c40b0]) | skip)
         have H' := Aside0.mk H
         clear H
         go_wp2
         go_meet
         case rel => exact ⟨_, ((t257 != t259)), TT, H', ⟨by have := HJ4.out; have := HJ18.out; first | omega | exact Nat.le_refl _⟩, ⟨TK BK241.out⟩, ⟨TK BK242.out⟩, ⟨TB2 GE241.out GE242.out⟩⟩
        ·rw [if_neg c40] at H
         have c40b0 : (t256 == t258) = false := beq_eq_false_iff_ne.mpr c40
         have c40b1 : (t256 != t258) = true := bne_iff_ne.mpr c40
         (first | rw [c40b0] | (simp only [i64_w, i32_w]; rw [c40b0]) | skip)
         have H' := Aside0.mk H
         clear H
         go_wp2
         go_meet
         case rel => exact ⟨_, (true), TT, H', ⟨by have := HJ4.out; have := HJ18.out; first | omega | exact Nat.le_refl _⟩, ⟨TK BK241.out⟩, ⟨TK BK242.out⟩, ⟨TB2 GE241.out GE242.out⟩⟩
       case rest =>
        clear HC34
        try clear c1
        try clear c2
        try clear p2
        try clear c3
        try clear c4
        try clear c8
        try clear c15
        try clear c15b0
        try clear c15b1
        try clear c16
        try clear c20
        try clear c23
        try clear c24
        try clear c25
        try clear c26
        try clear c27
        try clear c28
        try clear c29
        try clear c31
        try clear c35
        try clear c40
        try clear c40b0
        try clear c40b1
        try clear hcz10_0 hcz10_1
        try clear hcz12_0 hcz12_1 hcz12_2 hcz12_3
        try clear hcz13_0 hcz13_1
        try clear hcz21_0 hcz21_1 hcz21_2 hcz21_3
        try clear hcz23_0 hcz23_1 hcz23_2 hcz23_3
        try clear hcz36_0 hcz36_1 hcz36_2 hcz36_3
        try clear hcz38_0 hcz38_1 hcz38_2 hcz38_3
        try clear hcz9_0 hcz9_1 hcz9_2 hcz9_3
        try clear hfz10_0 hfz10_1
        try clear hfz12_0 hfz12_1 hfz12_2 hfz12_3
        try clear hfz13_0 hfz13_1
        try clear hfz21_0 hfz21_1 hfz21_2 hfz21_3
        try clear hfz23_0 hfz23_1 hfz23_2 hfz23_3
        try clear hfz36_0 hfz36_1 hfz36_2 hfz36_3
        try clear hfz38_0 hfz38_1 hfz38_2 hfz38_3
        try clear hfz9_0 hfz9_1 hfz9_2 hfz9_3
        try clear p2
        obtain ⟨kq, x69_33, rfl, HA, HJ33, BK241, BK242, HB⟩ := hcut
        cases kq with
        | zero => exact absurd HA.out (by simp [saronlaw03_RaspKeys.j2])
        | succ kj33 =>
         have H := HA.out
         clear HA
         simp only [saronlaw03_RaspKeys.j2] at H
         by_cases c41 : x69_33 = true
         ·subst c41
          have H1 : (some false) = some r := by rw [if_pos rfl] at H; exact H
          clear H
          have H := H1
          clear H1
          obtain rfl := Option.some.inj H
          go_wp2
          go_ret
          exact ⟨TR, TB2 GE241.out GE242.out⟩
         ·replace c41 := Bool.eq_false_iff.mpr c41
          subst c41
          have H1 : ((rasp_Need.f l0_0 a0_1 a0_2 l0_3 a1_1).bind fun bt260 => ((saronref03_Need.f kj33 l0_0 a0_1 a0_2 l0_3 a1_1).bind fun bt262 => (if bt260.1 = bt262.1 then (if bt260.2 = bt262.2 then ((saronlaw03_filed.f).bind fun t264 => (some t264)) else (some false)) else (some false)))) = some r := by rw [if_neg (show ¬ (false = true) by decide)] at H; exact H
          clear H
          have H := H1
          clear H1
          replace H := Option.bind_eq_some_iff.mp H
          obtain ⟨⟨t260, t261⟩, A420, H⟩ := H
          replace H : ((saronref03_Need.f kj33 l0_0 a0_1 a0_2 l0_3 a1_1).bind fun bt262 => (if t260 = bt262.1 then (if t261 = bt262.2 then ((saronlaw03_filed.f).bind fun t264 => (some t264)) else (some false)) else (some false))) = some r := H
          have A42 := Aside0.mk A420
          clear A420
          replace H := Option.bind_eq_some_iff.mp H
          obtain ⟨⟨t262, t263⟩, A430, H⟩ := H
          replace H : (if t260 = t262 then (if t261 = t263 then ((saronlaw03_filed.f).bind fun t264 => (some t264)) else (some false)) else (some false)) = some r := H
          have A43 := Aside0.mk A430
          clear A430
          by_cases c44 : t260 = t262
          ·rw [if_pos c44] at H
           have c44b0 : (t260 == t262) = true := beq_iff_eq.mpr c44
           have c44b1 : (t260 != t262) = false := bne_eq_false_iff_eq.mpr c44
           clear c44
           by_cases c45 : t261 = t263
           ·rw [if_pos c45] at H
            have c45b0 : (t261 == t263) = true := beq_iff_eq.mpr c45
            have c45b1 : (t261 != t263) = false := bne_eq_false_iff_eq.mpr c45
            clear c45
            replace H := Option.bind_eq_some_iff.mp H
            obtain ⟨t264, A460, H⟩ := H
            replace H : (some t264) = some r := H
            have A46 := Aside0.mk A460
            clear A460
            obtain rfl := Option.some.inj H
            have hnb47 := NB241_242.out
            have hnc47 := NB242_241.out
            have hcz48_0 := cz BK241.out 0
            have hcz48_1 := cz BK241.out 1
            have hcz48_2 := cz BK241.out 2
            have hcz48_3 := cz BK241.out 3
            have hfz48_0 := fz BK241.out 0
            have hfz48_1 := fz BK241.out 1
            have hfz48_2 := fz BK241.out 2
            have hfz48_3 := fz BK241.out 3
            have hcz49_0 := cz BK242.out 0
            have hcz49_1 := cz BK242.out 1
            have hfz49_0 := fz BK242.out 0
            have hfz49_1 := fz BK242.out 1
            go_wp2_with (first | ((with_reducible refine gate_callee (f := 30) rfl ?_); refine goesL_ (some 74) rfl rfl Tryd.func30 (by kernel_rfl) rfl #[.agg #[.slice A0_0 l0_0.length c0_0, .int .i64 a0_1, .int .i64 a0_2, .slice A0_3 l0_3.length c0_3], .int .i64 a1_1] rfl TM ?_; (with_reducible refine (rasp_Need.calls _ _ l0_0 a0_1 a0_2 _ _ l0_3 a1_1 t260 t261 _ ?side1 ?side2 ?side3 ?side4 ?side5 A42.out).mono ?_); (case side1 => exact TC HR0_0.out); (case side2 => exact HC0_0.out); (case side3 => exact TC HR0_3.out); (case side4 => exact HC0_3.out); (case side5 => exact Glob.fr HG.out (Fr.of_below (TB2 GE241.out GE242.out))); rintro e w50 ⟨rfl, hb⟩; refine ⟨_, rfl, ?_⟩; replace BK241 := Aside0.mk (TKb hb BK241.out); replace BK242 := Aside0.mk (TKb hb BK242.out); replace HB := Aside0.mk (below_step (TB2 GE241.out GE242.out) hb); (try clear hb); (try clear hb2); (try clear hk); (try clear hi); have hcz51_0 := cz BK241.out 0; have hcz51_1 := cz BK241.out 1; have hcz51_2 := cz BK241.out 2; have hcz51_3 := cz BK241.out 3; have hfz51_0 := fz BK241.out 0; have hfz51_1 := fz BK241.out 1; have hfz51_2 := fz BK241.out 2; have hfz51_3 := fz BK241.out 3; have hcz52_0 := cz BK242.out 0; have hcz52_1 := cz BK242.out 1; have hfz52_0 := fz BK242.out 0; have hfz52_1 := fz BK242.out 1) | ((with_reducible refine gate_callee (f := 31) rfl ?_); refine goesL_ (some 81) rfl rfl Tryd.func31 (by kernel_rfl) rfl #[.agg #[.slice A0_0 l0_0.length c0_0, .int .i64 a0_1, .int .i64 a0_2, .slice A0_3 l0_3.length c0_3], .int .i64 a1_1] rfl TM ?_; (with_reducible refine (saronref03_Need.calls kj33 _ _ l0_0 a0_1 a0_2 _ _ l0_3 a1_1 t262 t263 _ ?side1 ?side2 ?side3 ?side4 A43.out).mono ?_); (case side1 => exact TC HR0_0.out); (case side2 => exact HC0_0.out); (case side3 => exact TC HR0_3.out); (case side4 => exact HC0_3.out); rintro e w53 ⟨rfl, hb⟩; refine ⟨_, rfl, ?_⟩; replace BK241 := Aside0.mk (TKb hb BK241.out); replace BK242 := Aside0.mk (TKb hb BK242.out); replace HB := Aside0.mk (below_step (TB2 GE241.out GE242.out) hb); (try clear hb); (try clear hb2); (try clear hk); (try clear hi)) | (go_at_call 22; (with_reducible refine (saronlaw03_filed.calls  t264 _ ?side1 A46.out).mono ?_); (case side1 => exact Glob.fr HG.out (Fr.of_below (TB2 GE241.out GE242.out))); rintro e w54 ⟨rfl, hb⟩; replace BK241 := Aside0.mk (TKb hb BK241.out); replace BK242 := Aside0.mk (TKb hb BK242.out); replace HB := Aside0.mk (below_step (TB2 GE241.out GE242.out) hb); (try clear hb); (try clear hb2); (try clear hk); (try clear hi)))
            go_ret
            exact ⟨TR, TB2 GE241.out GE242.out⟩
           ·rw [if_neg c45] at H
            have c45b0 : (t261 == t263) = false := beq_eq_false_iff_ne.mpr c45
            have c45b1 : (t261 != t263) = true := bne_iff_ne.mpr c45
            obtain rfl := Option.some.inj H
            have hnb55 := NB241_242.out
            have hnc55 := NB242_241.out
            have hcz56_0 := cz BK241.out 0
            have hcz56_1 := cz BK241.out 1
            have hcz56_2 := cz BK241.out 2
            have hcz56_3 := cz BK241.out 3
            have hfz56_0 := fz BK241.out 0
            have hfz56_1 := fz BK241.out 1
            have hfz56_2 := fz BK241.out 2
            have hfz56_3 := fz BK241.out 3
            have hcz57_0 := cz BK242.out 0
            have hcz57_1 := cz BK242.out 1
            have hfz57_0 := fz BK242.out 0
            have hfz57_1 := fz BK242.out 1
            go_wp2_with (first | ((with_reducible refine gate_callee (f := 30) rfl ?_); refine goesL_ (some 74) rfl rfl Tryd.func30 (by kernel_rfl) rfl #[.agg #[.slice A0_0 l0_0.length c0_0, .int .i64 a0_1, .int .i64 a0_2, .slice A0_3 l0_3.length c0_3], .int .i64 a1_1] rfl TM ?_; (with_reducible refine (rasp_Need.calls _ _ l0_0 a0_1 a0_2 _ _ l0_3 a1_1 t260 t261 _ ?side1 ?side2 ?side3 ?side4 ?side5 A42.out).mono ?_); (case side1 => exact TC HR0_0.out); (case side2 => exact HC0_0.out); (case side3 => exact TC HR0_3.out); (case side4 => exact HC0_3.out); (case side5 => exact Glob.fr HG.out (Fr.of_below (TB2 GE241.out GE242.out))); rintro e w58 ⟨rfl, hb⟩; refine ⟨_, rfl, ?_⟩; replace BK241 := Aside0.mk (TKb hb BK241.out); replace BK242 := Aside0.mk (TKb hb BK242.out); replace HB := Aside0.mk (below_step (TB2 GE241.out GE242.out) hb); (try clear hb); (try clear hb2); (try clear hk); (try clear hi); have hcz59_0 := cz BK241.out 0; have hcz59_1 := cz BK241.out 1; have hcz59_2 := cz BK241.out 2; have hcz59_3 := cz BK241.out 3; have hfz59_0 := fz BK241.out 0; have hfz59_1 := fz BK241.out 1; have hfz59_2 := fz BK241.out 2; have hfz59_3 := fz BK241.out 3; have hcz60_0 := cz BK242.out 0; have hcz60_1 := cz BK242.out 1; have hfz60_0 := fz BK242.out 0; have hfz60_1 := fz BK242.out 1) | ((with_reducible refine gate_callee (f := 31) rfl ?_); refine goesL_ (some 81) rfl rfl Tryd.func31 (by kernel_rfl) rfl #[.agg #[.slice A0_0 l0_0.length c0_0, .int .i64 a0_1, .int .i64 a0_2, .slice A0_3 l0_3.length c0_3], .int .i64 a1_1] rfl TM ?_; (with_reducible refine (saronref03_Need.calls kj33 _ _ l0_0 a0_1 a0_2 _ _ l0_3 a1_1 t262 t263 _ ?side1 ?side2 ?side3 ?side4 A43.out).mono ?_); (case side1 => exact TC HR0_0.out); (case side2 => exact HC0_0.out); (case side3 => exact TC HR0_3.out); (case side4 => exact HC0_3.out); rintro e w61 ⟨rfl, hb⟩; refine ⟨_, rfl, ?_⟩; replace BK241 := Aside0.mk (TKb hb BK241.out); replace BK242 := Aside0.mk (TKb hb BK242.out); replace HB := Aside0.mk (below_step (TB2 GE241.out GE242.out) hb); (try clear hb); (try clear hb2); (try clear hk); (try clear hi)))
            go_ret
            exact ⟨TR, TB2 GE241.out GE242.out⟩
          ·rw [if_neg c44] at H
           have c44b0 : (t260 == t262) = false := beq_eq_false_iff_ne.mpr c44
           have c44b1 : (t260 != t262) = true := bne_iff_ne.mpr c44
           obtain rfl := Option.some.inj H
           have hnb62 := NB241_242.out
           have hnc62 := NB242_241.out
           have hcz63_0 := cz BK241.out 0
           have hcz63_1 := cz BK241.out 1
           have hcz63_2 := cz BK241.out 2
           have hcz63_3 := cz BK241.out 3
           have hfz63_0 := fz BK241.out 0
           have hfz63_1 := fz BK241.out 1
           have hfz63_2 := fz BK241.out 2
           have hfz63_3 := fz BK241.out 3
           have hcz64_0 := cz BK242.out 0
           have hcz64_1 := cz BK242.out 1
           have hfz64_0 := fz BK242.out 0
           have hfz64_1 := fz BK242.out 1
           go_wp2_with (first | ((with_reducible refine gate_callee (f := 30) rfl ?_); refine goesL_ (some 74) rfl rfl Tryd.func30 (by kernel_rfl) rfl #[.agg #[.slice A0_0 l0_0.length c0_0, .int .i64 a0_1, .int .i64 a0_2, .slice A0_3 l0_3.length c0_3], .int .i64 a1_1] rfl TM ?_; (with_reducible refine (rasp_Need.calls _ _ l0_0 a0_1 a0_2 _ _ l0_3 a1_1 t260 t261 _ ?side1 ?side2 ?side3 ?side4 ?side5 A42.out).mono ?_); (case side1 => exact TC HR0_0.out); (case side2 => exact HC0_0.out); (case side3 => exact TC HR0_3.out); (case side4 => exact HC0_3.out); (case side5 => exact Glob.fr HG.out (Fr.of_below (TB2 GE241.out GE242.out))); rintro e w65 ⟨rfl, hb⟩; refine ⟨_, rfl, ?_⟩; replace BK241 := Aside0.mk (TKb hb BK241.out); replace BK242 := Aside0.mk (TKb hb BK242.out); replace HB := Aside0.mk (below_step (TB2 GE241.out GE242.out) hb); (try clear hb); (try clear hb2); (try clear hk); (try clear hi); have hcz66_0 := cz BK241.out 0; have hcz66_1 := cz BK241.out 1; have hcz66_2 := cz BK241.out 2; have hcz66_3 := cz BK241.out 3; have hfz66_0 := fz BK241.out 0; have hfz66_1 := fz BK241.out 1; have hfz66_2 := fz BK241.out 2; have hfz66_3 := fz BK241.out 3; have hcz67_0 := cz BK242.out 0; have hcz67_1 := cz BK242.out 1; have hfz67_0 := fz BK242.out 0; have hfz67_1 := fz BK242.out 1) | ((with_reducible refine gate_callee (f := 31) rfl ?_); refine goesL_ (some 81) rfl rfl Tryd.func31 (by kernel_rfl) rfl #[.agg #[.slice A0_0 l0_0.length c0_0, .int .i64 a0_1, .int .i64 a0_2, .slice A0_3 l0_3.length c0_3], .int .i64 a1_1] rfl TM ?_; (with_reducible refine (saronref03_Need.calls kj33 _ _ l0_0 a0_1 a0_2 _ _ l0_3 a1_1 t262 t263 _ ?side1 ?side2 ?side3 ?side4 A43.out).mono ?_); (case side1 => exact TC HR0_0.out); (case side2 => exact HC0_0.out); (case side3 => exact TC HR0_3.out); (case side4 => exact HC0_3.out); rintro e w68 ⟨rfl, hb⟩; refine ⟨_, rfl, ?_⟩; replace BK241 := Aside0.mk (TKb hb BK241.out); replace BK242 := Aside0.mk (TKb hb BK242.out); replace HB := Aside0.mk (below_step (TB2 GE241.out GE242.out) hb); (try clear hb); (try clear hb2); (try clear hk); (try clear hi)))
           go_ret
           exact ⟨TR, TB2 GE241.out GE242.out⟩
end Go.Proofs.YtfmpbkolpjlfbaaDoor.PRaspKeys
