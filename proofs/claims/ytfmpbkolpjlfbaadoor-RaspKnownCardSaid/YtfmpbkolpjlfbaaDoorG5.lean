import Derived.Test.YtfmpbkolpjlfbaaDoorG4
import Derived.Test.YtfmpbkolpjlfbaaDoorM0
import Derived.Test.YtfmpbkolpjlfbaaDoorProg
import Derived.Below
import Derived.Deep.Draws
import Derived.Deep.AppendLies
import Derived.Maps.AppendAt
import Derived.OwnWalk
import Derived.Laws.BytesArg
import Derived.Laws.MakeOwn
import Derived.Laws.OwnMore
import Derived.Deep.OwnRows
import Derived.Tactics
import Derived.Lib.ConvBytes
import Derived.Laws.Slices
import Derived.WalkKit
import Derived.KernelRfl
import Derived.RowKit3
import Derived.Deep.LoopGhost
import Derived.Deep.QuietTactic
import Derived.BigQuiet
import Derived.WideLaws
import Derived.Deep.DeepCutAuto
import Derived.Deep.CutBlock
import Derived.Deep.RegionHeld3
import Derived.Laws.Rows
import Derived.Lib.AppendStr
import Derived.ArgAppend
import Derived.Laws.IdiomCopy
import Derived.OrdersHeld
import Derived.Laws.BitsLemmas
import Derived.RowKit
import Derived.ProofKit
import Derived.LaidMore
import Derived.OpenShut
import Derived.Carry
import Derived.Stop.Joined
import Derived.Test.YtfmpbkolpjlfbaaDoorTie
set_option linter.unusedVariables false
set_option linter.unusedSimpArgs false
namespace Go.Proofs.YtfmpbkolpjlfbaaDoor.PRaspKeys
open Go.RowKit Go.Proofs.YtfmpbkolpjlfbaaDoorW.PrintWords Go.Proofs.YtfmpbkolpjlfbaaDoorW.PrintLast Go.Proofs.YtfmpbkolpjlfbaaDoorW.PrintMore Go.Proofs.YtfmpbkolpjlfbaaDoor.M
attribute [local go_sem] max2_int min2_int max_two min_two max_three min_three max_four min_four   -- for this text's walks alone
theorem info38 : (Tryd.prog.info? 38).map (fun i => (i.zero, i.size, i.bytes)) = some (some (.slice none 0 0), 1, 24) := by kernel_rfl
/-! #### struct type 24 -/
theorem k24_mkF (W : World) (ok : Nat → Prop) (x : S24) : Kd.FK k24 W ok x [.int .i64 x.f0, .int .i64 x.f1] := fun W2 _ => k24_mk W2 x
/-! #### struct type 57 -/
theorem k57_mkF (W : World) (ok : Nat → Prop) (x : S57) : Kd.FK k57 W ok x [.int .i64 x.f0.f0, .int .i64 x.f0.f1, .int .i64 x.f1] := fun W2 _ => k57_mk W2 x
/-! #### struct type 69 -/
theorem k69_mkF (W : World) (ok : Nat → Prop) (x : S69) : Kd.FK k69 W ok x [.int .i64 x.f0.f0, .int .i64 x.f0.f1, .int .i64 x.f1] := fun W2 _ => k69_mk W2 x
end Go.Proofs.YtfmpbkolpjlfbaaDoor.PRaspKeys
namespace Go.Proofs.YtfmpbkolpjlfbaaDoor.PRaspKeys
open Go.RowKit Go.Proofs.YtfmpbkolpjlfbaaDoorW.PrintWords Go.Proofs.YtfmpbkolpjlfbaaDoorW.PrintLast Go.Proofs.YtfmpbkolpjlfbaaDoorW.PrintMore Go.Proofs.YtfmpbkolpjlfbaaDoor.M
attribute [local go_sem] max2_int min2_int max_two min_two max_three min_three max_four min_four   -- for this text's walks alone
/-! ### rasp_Told: function 34 -/
mutual
def rasp_Told.j0 : Nat → List Int → Bool → List (S57) → Int → Int → List (S69) → Option ((List (List Int)) × Int)
 | 0, _, _, _, _, _, _ => none
 | k + 1, x1, x24, x114000, x114001, x114002, x114003 => if x24 = true then (some (([] : List (List Int)), 31)) else (rasp_Told.l0 k x1 ([] : List (List Int)) (wrap64 ((x1.length : Int) - 1)) 0 x114000 x114001 x114002 x114003)
def rasp_Told.l0 : Nat → List Int → List (List Int) → Int → Int → List (S57) → Int → Int → List (S69) → Option ((List (List Int)) × Int)
 | 0, _, _, _, _, _, _, _, _ => none
 | k + 1, x1, x7, x27, x28, x114000, x114001, x114002, x114003 => if x28 < x27 then (rasp_Told.l1 k x1 x7 x28 ([] : List Int) x27 x28 x114000 (x114000.length : Int) 0 x114000 x114001 x114002 x114003) else (some (x7, 0))
def rasp_Told.l1 : Nat → List Int → List (List Int) → Int → List Int → Int → Int → List (S57) → Int → Int → List (S57) → Int → Int → List (S69) → Option ((List (List Int)) × Int)
 | 0, _, _, _, _, _, _, _, _, _, _, _, _, _ => none
 | k + 1, x1, x7, x8, x9, x27, x28, x32, x33, x34, x114000, x114001, x114002, x114003 => if x34 < x33 then (if 0 ≤ x34 then (if x34 < (x32.length : Int) then (if 0 ≤ (wrap64 (x8 + 1)) then (if (wrap64 (x8 + 1)) < (x1.length : Int) then (if 0 ≤ x8 then (if x8 < (x1.length : Int) then ((rasp_lies.f (wrap64 ((rd x1 (wrap64 (x8 + 1))) - (rd x1 x8))) ((rd_T57 x32 x34).f0.f0) ((rd_T57 x32 x34).f0.f1)).bind fun t123 => (if t123 = true then (if x9.length < 17592186044416 then (rasp_Told.l1 k x1 x7 x8 (x9 ++ [x34]) x27 x28 x32 x33 (wrap64 (x34 + 1)) x114000 x114001 x114002 x114003) else (none)) else (rasp_Told.l1 k x1 x7 x8 x9 x27 x28 x32 x33 (wrap64 (x34 + 1)) x114000 x114001 x114002 x114003))) else (none)) else (none)) else (none)) else (none)) else (none)) else (none)) else (if (x9.length : Int) = 0 then (some (([] : List (List Int)), 4)) else (if x7.length < 5864062014805 then (rasp_Told.l0 k x1 (x7 ++ [x9]) x27 (wrap64 (x28 + 1)) x114000 x114001 x114002 x114003) else (none)))
end
def rasp_Told.f (k : Nat) (l0_0 : List (S57)) (a0_1 : Int) (a0_2 : Int) (l0_3 : List (S69)) (l1 : List Int) : Option ((List (List Int)) × Int) := (rasp_Check.f k l0_0 a0_1 a0_2 l0_3).bind fun t114 => (if t114 = 0 then ((rasp_lies.f (l1.length : Int) 1 31).bind fun t115 => (if t115 = true then ((slices_ContainsFunc_int_int.f l1).bind fun t116 => (rasp_Told.j0 k l1 t116 l0_0 a0_1 a0_2 l0_3)) else (rasp_Told.j0 k l1 true l0_0 a0_1 a0_2 l0_3))) else (some (([] : List (List Int)), t114)))
theorem rasp_Told.mono_l : ∀ k, (∀ y0 y1 y2 y3 y4 y5, LeO (rasp_Told.j0 k y0 y1 y2 y3 y4 y5) (rasp_Told.j0 (k + 1) y0 y1 y2 y3 y4 y5)) ∧ (∀ y0 y1 y2 y3 y4 y5 y6 y7, LeO (rasp_Told.l0 k y0 y1 y2 y3 y4 y5 y6 y7) (rasp_Told.l0 (k + 1) y0 y1 y2 y3 y4 y5 y6 y7)) ∧ (∀ y0 y1 y2 y3 y4 y5 y6 y7 y8 y9 y10 y11 y12, LeO (rasp_Told.l1 k y0 y1 y2 y3 y4 y5 y6 y7 y8 y9 y10 y11 y12) (rasp_Told.l1 (k + 1) y0 y1 y2 y3 y4 y5 y6 y7 y8 y9 y10 y11 y12))
 | 0 => ⟨fun _ _ _ _ _ _ r h => by simp [rasp_Told.j0] at h, fun _ _ _ _ _ _ _ _ r h => by simp [rasp_Told.l0] at h, fun _ _ _ _ _ _ _ _ _ _ _ _ _ r h => by simp [rasp_Told.l1] at h⟩
 | k + 1 => by
  obtain ⟨ih0, ih1, ih2⟩ := rasp_Told.mono_l k
  refine ⟨?_, ?_, ?_⟩
  ·intro y0 y1 y2 y3 y4 y5
   unfold rasp_Told.j0
   repeat' first
   | (with_reducible exact ih0 _ _ _ _ _ _)
   | (with_reducible exact ih1 _ _ _ _ _ _ _ _)
   | (with_reducible exact ih2 _ _ _ _ _ _ _ _ _ _ _ _ _)
   | (with_reducible exact rasp_Check.mono _ _ _ _ _)
   | (with_reducible exact LeO.refl _)
   | (with_reducible exact LeO.none _)
   | (with_reducible refine LeO.ite ?_ ?_)
   | (with_reducible refine LeO.bind ?_ (fun _ => ?_))
   | exact ih0 _ _ _ _ _ _
   | exact ih1 _ _ _ _ _ _ _ _
   | exact ih2 _ _ _ _ _ _ _ _ _ _ _ _ _
   | exact rasp_Check.mono _ _ _ _ _
   | exact LeO.none _
   | refine LeO.ite ?_ ?_
   | refine LeO.bind ?_ (fun _ => ?_)
  ·intro y0 y1 y2 y3 y4 y5 y6 y7
   unfold rasp_Told.l0
   repeat' first
   | (with_reducible exact ih0 _ _ _ _ _ _)
   | (with_reducible exact ih1 _ _ _ _ _ _ _ _)
   | (with_reducible exact ih2 _ _ _ _ _ _ _ _ _ _ _ _ _)
   | (with_reducible exact rasp_Check.mono _ _ _ _ _)
   | (with_reducible exact LeO.refl _)
   | (with_reducible exact LeO.none _)
   | (with_reducible refine LeO.ite ?_ ?_)
   | (with_reducible refine LeO.bind ?_ (fun _ => ?_))
   | exact ih0 _ _ _ _ _ _
   | exact ih1 _ _ _ _ _ _ _ _
   | exact ih2 _ _ _ _ _ _ _ _ _ _ _ _ _
   | exact rasp_Check.mono _ _ _ _ _
   | exact LeO.none _
   | refine LeO.ite ?_ ?_
   | refine LeO.bind ?_ (fun _ => ?_)
  ·intro y0 y1 y2 y3 y4 y5 y6 y7 y8 y9 y10 y11 y12
   unfold rasp_Told.l1
   repeat' first
   | (with_reducible exact ih0 _ _ _ _ _ _)
   | (with_reducible exact ih1 _ _ _ _ _ _ _ _)
   | (with_reducible exact ih2 _ _ _ _ _ _ _ _ _ _ _ _ _)
   | (with_reducible exact rasp_Check.mono _ _ _ _ _)
   | (with_reducible exact LeO.refl _)
   | (with_reducible exact LeO.none _)
   | (with_reducible refine LeO.ite ?_ ?_)
   | (with_reducible refine LeO.bind ?_ (fun _ => ?_))
   | exact ih0 _ _ _ _ _ _
   | exact ih1 _ _ _ _ _ _ _ _
   | exact ih2 _ _ _ _ _ _ _ _ _ _ _ _ _
   | exact rasp_Check.mono _ _ _ _ _
   | exact LeO.none _
   | refine LeO.ite ?_ ?_
   | refine LeO.bind ?_ (fun _ => ?_)
theorem rasp_Told.mono : ∀ a0 a1 a2 a3 a4 k, LeO (rasp_Told.f k a0 a1 a2 a3 a4) (rasp_Told.f (k + 1) a0 a1 a2 a3 a4) := by
 intro a0 a1 a2 a3 a4 k
 obtain ⟨ih0, ih1, ih2⟩ := rasp_Told.mono_l k
 unfold rasp_Told.f
 repeat' first
   | (with_reducible exact ih0 _ _ _ _ _ _)
   | (with_reducible exact ih1 _ _ _ _ _ _ _ _)
   | (with_reducible exact ih2 _ _ _ _ _ _ _ _ _ _ _ _ _)
   | (with_reducible exact rasp_Check.mono _ _ _ _ _)
   | (with_reducible exact LeO.refl _)
   | (with_reducible exact LeO.none _)
   | (with_reducible refine LeO.ite ?_ ?_)
   | (with_reducible refine LeO.bind ?_ (fun _ => ?_))
   | exact ih0 _ _ _ _ _ _
   | exact ih1 _ _ _ _ _ _ _ _
   | exact ih2 _ _ _ _ _ _ _ _ _ _ _ _ _
   | exact rasp_Check.mono _ _ _ _ _
   | exact LeO.none _
   | refine LeO.ite ?_ ?_
   | refine LeO.bind ?_ (fun _ => ?_)
set_option maxHeartbeats 8000000 in
set_option maxRecDepth 100000 in
theorem rasp_Told.calls (k : Nat) (A0_0 : Option Addr) (c0_0 : Nat) (l0_0 : List (S57)) (a0_1 : Int) (a0_2 : Int) (A0_3 : Option Addr) (c0_3 : Nat) (l0_3 : List (S69)) (A1 : Option Addr) (c1 : Nat) (l1 : List Int) (r1 : List (List Int)) (r2 : Int) (w : World) (hr0_0 : Kd.C k57 w A0_0 l0_0.length l0_0) (hc0_0 : l0_0.length ≤ c0_0) (hr0_3 : Kd.C k69 w A0_3 l0_3.length l0_3) (hc0_3 : l0_3.length ≤ c0_3) (hr1 : Kd.C (Kd.int .i64) w A1 l1.length l1) (hc1 : l1.length ≤ c1) (hG : Glob w) (h : rasp_Told.f k l0_0 a0_1 a0_2 l0_3 l1 = some (r1, r2)) :
  Calls Tryd.prog 34 #[.agg #[.slice A0_0 l0_0.length c0_0, .int .i64 a0_1, .int .i64 a0_2, .slice A0_3 l0_3.length c0_3], .slice A1 l1.length c1] w fun e w' => ∃ v0_ : Value, e = .returned (.tuple #[v0_, .int .i64 r2]) ∧ Kd.V (Kd.slice 3 (Kd.int .i64)) 38 w' w.heap.size (fun k_ => (w.heap.size ≤ k_)) v0_ r1 ∧ Below w.heap.size w w' := by
 have hu27 := Tryd.underlying27
 have hu57 := Tryd.underlying57
 have HR0_0 := Aside0.mk hr0_0
 have HC0_0 := Aside0.mk hc0_0
 clear hr0_0 hc0_0
 have HR0_3 := Aside0.mk hr0_3
 have HC0_3 := Aside0.mk hc0_3
 clear hr0_3 hc0_3
 have HR1 := Aside0.mk hr1
 have HC1 := Aside0.mk hc1
 clear hr1 hc1
 have HB := Aside0.mk (Below.refl w.heap.size w)
 have HG := Aside0.mk hG
 clear hG
 have H : ((rasp_Check.f k l0_0 a0_1 a0_2 l0_3).bind fun t114 => (if t114 = 0 then ((rasp_lies.f (l1.length : Int) 1 31).bind fun t115 => (if t115 = true then ((slices_ContainsFunc_int_int.f l1).bind fun t116 => (rasp_Told.j0 k l1 t116 l0_0 a0_1 a0_2 l0_3)) else (rasp_Told.j0 k l1 true l0_0 a0_1 a0_2 l0_3))) else (some (([] : List (List Int)), t114)))) = some (r1, r2) := h
 clear h
 replace H := Option.bind_eq_some_iff.mp H
 obtain ⟨t114, A30, H⟩ := H
 replace H : (if t114 = 0 then ((rasp_lies.f (l1.length : Int) 1 31).bind fun t115 => (if t115 = true then ((slices_ContainsFunc_int_int.f l1).bind fun t116 => (rasp_Told.j0 k l1 t116 l0_0 a0_1 a0_2 l0_3)) else (rasp_Told.j0 k l1 true l0_0 a0_1 a0_2 l0_3))) else (some (([] : List (List Int)), t114))) = some (r1, r2) := H
 have A3 := Aside0.mk A30
 clear A30
 by_cases c4 : t114 = 0
 ·rw [if_pos c4] at H
  have c4b0 : (t114 == 0) = true := beq_iff_eq.mpr c4
  have c4b1 : (t114 != 0) = false := bne_eq_false_iff_eq.mpr c4
  clear c4
  have HC5 := Aside0.mk H
  clear H
  go_enter Tryd.func34, Tryd.ntmps34
  go_upto_region 4 with (first | ((with_reducible refine gate_dst (N := 2) rfl ?_); refine box_event ?hg (N := 2) ?hd (cs := #[.slice A0_0 l0_0.length c0_0, .int .i64 a0_1, .int .i64 a0_2, .slice A0_3 l0_3.length c0_3]) (t := 27) ?hr ?_; (case hd => rfl); (case hg => rfl); (case hr => exact TS); intro gb113 hg w6 hbox hb; have BK113 := Aside0.mk (hbox); have GW113 := Aside0.mk ((TG : w.heap.size ≤ gb113)); have GE113 := Aside0.mk ((TG : w.heap.size ≤ gb113)); replace HB := Aside0.mk (below_step TB hb); clear hb hbox hg; have hcz7_0 := cz BK113.out 0; have hcz7_1 := cz BK113.out 1; have hcz7_2 := cz BK113.out 2; have hcz7_3 := cz BK113.out 3; have hfz7_0 := fz BK113.out 0; have hfz7_1 := fz BK113.out 1; have hfz7_2 := fz BK113.out 2; have hfz7_3 := fz BK113.out 3) | (go_at_call 18; (with_reducible refine (rasp_Check.calls k _ _ l0_0 a0_1 a0_2 _ _ l0_3 t114 _ ?side1 ?side2 ?side3 ?side4 A3.out).mono ?_); (case side1 => exact TC HR0_0.out); (case side2 => exact HC0_0.out); (case side3 => exact TC HR0_3.out); (case side4 => exact HC0_3.out); rintro e w8 ⟨rfl, hb⟩; replace BK113 := Aside0.mk (TKb hb BK113.out); replace HB := Aside0.mk (below_step (TB1 GE113.out) hb); (try clear hb); (try clear hb2); (try clear hk); (try clear hi)))
  repeat (go_quiet (first | ((with_reducible refine gate_dst (N := 2) rfl ?_); refine box_event ?hg (N := 2) ?hd (cs := #[.slice A0_0 l0_0.length c0_0, .int .i64 a0_1, .int .i64 a0_2, .slice A0_3 l0_3.length c0_3]) (t := 27) ?hr ?_; (case hd => rfl); (case hg => rfl); (case hr => exact TS); intro gb113 hg w6 hbox hb; have BK113 := Aside0.mk (hbox); have GW113 := Aside0.mk ((TG : w.heap.size ≤ gb113)); have GE113 := Aside0.mk ((TG : w.heap.size ≤ gb113)); replace HB := Aside0.mk (below_step TB hb); clear hb hbox hg; have hcz7_0 := cz BK113.out 0; have hcz7_1 := cz BK113.out 1; have hcz7_2 := cz BK113.out 2; have hcz7_3 := cz BK113.out 3; have hfz7_0 := fz BK113.out 0; have hfz7_1 := fz BK113.out 1; have hfz7_2 := fz BK113.out 2; have hfz7_3 := fz BK113.out 3) | (go_at_call 18; (with_reducible refine (rasp_Check.calls k _ _ l0_0 a0_1 a0_2 _ _ l0_3 t114 _ ?side1 ?side2 ?side3 ?side4 A3.out).mono ?_); (case side1 => exact TC HR0_0.out); (case side2 => exact HC0_0.out); (case side3 => exact TC HR0_3.out); (case side4 => exact HC0_3.out); rintro e w8 ⟨rfl, hb⟩; replace BK113 := Aside0.mk (TKb hb BK113.out); replace HB := Aside0.mk (below_step (TB1 GE113.out) hb); (try clear hb); (try clear hb2); (try clear hk); (try clear hi))); go_upto_region 4 with (first | ((with_reducible refine gate_dst (N := 2) rfl ?_); refine box_event ?hg (N := 2) ?hd (cs := #[.slice A0_0 l0_0.length c0_0, .int .i64 a0_1, .int .i64 a0_2, .slice A0_3 l0_3.length c0_3]) (t := 27) ?hr ?_; (case hd => rfl); (case hg => rfl); (case hr => exact TS); intro gb113 hg w6 hbox hb; have BK113 := Aside0.mk (hbox); have GW113 := Aside0.mk ((TG : w.heap.size ≤ gb113)); have GE113 := Aside0.mk ((TG : w.heap.size ≤ gb113)); replace HB := Aside0.mk (below_step TB hb); clear hb hbox hg; have hcz7_0 := cz BK113.out 0; have hcz7_1 := cz BK113.out 1; have hcz7_2 := cz BK113.out 2; have hcz7_3 := cz BK113.out 3; have hfz7_0 := fz BK113.out 0; have hfz7_1 := fz BK113.out 1; have hfz7_2 := fz BK113.out 2; have hfz7_3 := fz BK113.out 3) | (go_at_call 18; (with_reducible refine (rasp_Check.calls k _ _ l0_0 a0_1 a0_2 _ _ l0_3 t114 _ ?side1 ?side2 ?side3 ?side4 A3.out).mono ?_); (case side1 => exact TC HR0_0.out); (case side2 => exact HC0_0.out); (case side3 => exact TC HR0_3.out); (case side4 => exact HC0_3.out); rintro e w8 ⟨rfl, hb⟩; replace BK113 := Aside0.mk (TKb hb BK113.out); replace HB := Aside0.mk (below_step (TB1 GE113.out) hb); (try clear hb); (try clear hb2); (try clear hk); (try clear hi))))
  (try simp only [Act.put, lA, lZ, lS])
  go_cut [24] (fun v24 wc => ∃ (kq : Nat) (x24_4 : Bool), v24 = .bool x24_4 ∧ Aside0 (rasp_Told.j0 kq l1 x24_4 l0_0 a0_1 a0_2 l0_3 = some (r1, r2)) ∧ Aside0 (kq ≤ k) ∧ Aside0 (wc.heap[gb113]? = some (.cells #[(.slice A0_0 l0_0.length c0_0), .int .i64 a0_1, .int .i64 a0_2, (.slice A0_3 l0_3.length c0_3)] 27 (0, 0))) ∧ Aside0 (Below w.heap.size w wc))
  case first =>
   have H := HC5.out
   clear HC5
   replace H := Option.bind_eq_some_iff.mp H
   obtain ⟨t115, A90, H⟩ := H
   replace H : (if t115 = true then ((slices_ContainsFunc_int_int.f l1).bind fun t116 => (rasp_Told.j0 k l1 t116 l0_0 a0_1 a0_2 l0_3)) else (rasp_Told.j0 k l1 true l0_0 a0_1 a0_2 l0_3)) = some (r1, r2) := H
   have A9 := Aside0.mk A90
   clear A90
   by_cases c10 : t115 = true
   ·subst c10
    have H1 : ((slices_ContainsFunc_int_int.f l1).bind fun t116 => (rasp_Told.j0 k l1 t116 l0_0 a0_1 a0_2 l0_3)) = some (r1, r2) := by rw [if_pos rfl] at H; exact H
    clear H
    have H := H1
    clear H1
    replace H := Option.bind_eq_some_iff.mp H
    obtain ⟨t116, A110, H⟩ := H
    replace H : (rasp_Told.j0 k l1 t116 l0_0 a0_1 a0_2 l0_3) = some (r1, r2) := H
    have A11 := Aside0.mk A110
    clear A110
    have H' := Aside0.mk H
    clear H
    go_wp2_with (first | (go_at_call 58; (with_reducible refine (rasp_lies.calls (l1.length : Int) 1 31 true _ A9.out).mono ?_); rintro e w' ⟨rfl, ⟨nd, rfl⟩⟩; (try first | exact ⟨rfl, _, World.drewN_drewN _ _ _⟩ | exact ⟨rfl, _, Eq.trans (World.drewN_drewN _ _ _) (congrArg (World.drewN _) (Nat.add_assoc _ _ _))⟩)) | (go_at_call 66; (with_reducible refine (slices_ContainsFunc_int_int.calls _ _ l1 t116 _ ?side1 ?side2 ?side3 A11.out).mono ?_); (case side1 => exact TD HR1.out (TB1 GE113.out)); (case side2 => exact HC1.out); (case side3 => exact Glob.fr HG.out (Fr.of_below (TB1 GE113.out))); rintro e w12 ⟨rfl, hb⟩; replace BK113 := Aside0.mk (TKb hb BK113.out); replace HB := Aside0.mk (below_step (TB1 GE113.out) hb); (try clear hb); (try clear hb2); (try clear hk); (try clear hi)))
    repeat (go_quiet (first | (go_at_call 58; (with_reducible refine (rasp_lies.calls (l1.length : Int) 1 31 true _ A9.out).mono ?_); rintro e w' ⟨rfl, ⟨nd, rfl⟩⟩; (try first | exact ⟨rfl, _, World.drewN_drewN _ _ _⟩ | exact ⟨rfl, _, Eq.trans (World.drewN_drewN _ _ _) (congrArg (World.drewN _) (Nat.add_assoc _ _ _))⟩)) | (go_at_call 66; (with_reducible refine (slices_ContainsFunc_int_int.calls _ _ l1 t116 _ ?side1 ?side2 ?side3 A11.out).mono ?_); (case side1 => exact TD HR1.out (TB1 GE113.out)); (case side2 => exact HC1.out); (case side3 => exact Glob.fr HG.out (Fr.of_below (TB1 GE113.out))); rintro e w12 ⟨rfl, hb⟩; replace BK113 := Aside0.mk (TKb hb BK113.out); replace HB := Aside0.mk (below_step (TB1 GE113.out) hb); (try clear hb); (try clear hb2); (try clear hk); (try clear hi))); try go_wp2_with (first | (go_at_call 58; (with_reducible refine (rasp_lies.calls (l1.length : Int) 1 31 true _ A9.out).mono ?_); rintro e w' ⟨rfl, ⟨nd, rfl⟩⟩; (try first | exact ⟨rfl, _, World.drewN_drewN _ _ _⟩ | exact ⟨rfl, _, Eq.trans (World.drewN_drewN _ _ _) (congrArg (World.drewN _) (Nat.add_assoc _ _ _))⟩)) | (go_at_call 66; (with_reducible refine (slices_ContainsFunc_int_int.calls _ _ l1 t116 _ ?side1 ?side2 ?side3 A11.out).mono ?_); (case side1 => exact TD HR1.out (TB1 GE113.out)); (case side2 => exact HC1.out); (case side3 => exact Glob.fr HG.out (Fr.of_below (TB1 GE113.out))); rintro e w12 ⟨rfl, hb⟩; replace BK113 := Aside0.mk (TKb hb BK113.out); replace HB := Aside0.mk (below_step (TB1 GE113.out) hb); (try clear hb); (try clear hb2); (try clear hk); (try clear hi))))
    go_meet
    case rel => exact ⟨_, (t116), TT, H', ⟨by first | omega | exact Nat.le_refl _⟩, ⟨TK BK113.out⟩, ⟨TB1 GE113.out⟩⟩
   ·replace c10 := Bool.eq_false_iff.mpr c10
    subst c10
    have H1 : (rasp_Told.j0 k l1 true l0_0 a0_1 a0_2 l0_3) = some (r1, r2) := by rw [if_neg (show ¬ (false = true) by decide)] at H; exact H
    clear H
    have H := H1
    clear H1
    have H' := Aside0.mk H
    clear H
    go_wp2_with (first | (go_at_call 58; (with_reducible refine (rasp_lies.calls (l1.length : Int) 1 31 false _ A9.out).mono ?_); rintro e w' ⟨rfl, ⟨nd, rfl⟩⟩; (try first | exact ⟨rfl, _, World.drewN_drewN _ _ _⟩ | exact ⟨rfl, _, Eq.trans (World.drewN_drewN _ _ _) (congrArg (World.drewN _) (Nat.add_assoc _ _ _))⟩)))
    repeat (go_quiet (first | (go_at_call 58; (with_reducible refine (rasp_lies.calls (l1.length : Int) 1 31 false _ A9.out).mono ?_); rintro e w' ⟨rfl, ⟨nd, rfl⟩⟩; (try first | exact ⟨rfl, _, World.drewN_drewN _ _ _⟩ | exact ⟨rfl, _, Eq.trans (World.drewN_drewN _ _ _) (congrArg (World.drewN _) (Nat.add_assoc _ _ _))⟩))); try go_wp2_with (first | (go_at_call 58; (with_reducible refine (rasp_lies.calls (l1.length : Int) 1 31 false _ A9.out).mono ?_); rintro e w' ⟨rfl, ⟨nd, rfl⟩⟩; (try first | exact ⟨rfl, _, World.drewN_drewN _ _ _⟩ | exact ⟨rfl, _, Eq.trans (World.drewN_drewN _ _ _) (congrArg (World.drewN _) (Nat.add_assoc _ _ _))⟩))))
    go_meet
    case rel => exact ⟨_, (true), TT, H', ⟨by first | omega | exact Nat.le_refl _⟩, ⟨TK BK113.out⟩, ⟨TB1 GE113.out⟩⟩
  case rest =>
   clear HC5
   try clear c1
   try clear p2
   try clear c3
   try clear c4
   try clear c4b0
   try clear c4b1
   try clear c10
   try clear hcz7_0 hcz7_1 hcz7_2 hcz7_3 hfz7_0 hfz7_1 hfz7_2 hfz7_3
   obtain ⟨kq, x24_4, rfl, HA, HJ4, BK113, HB⟩ := hcut
   cases kq with
   | zero => exact absurd HA.out (by simp [rasp_Told.j0])
   | succ kj4 =>
    have H := HA.out
    clear HA
    simp only [rasp_Told.j0] at H
    by_cases c13 : x24_4 = true
    ·subst c13
     have H1 : (some (([] : List (List Int)), 31)) = some (r1, r2) := by rw [if_pos rfl] at H; exact H
     clear H
     have H := H1
     clear H1
     simp only [Option.some.injEq, Prod.mk.injEq] at H
     obtain ⟨rfl, rfl⟩ := H
     go_wp2
     repeat (go_quiet (fail); try go_wp2)
     go_ret2
     exact ⟨_, TR, Kd.V_nil _ _ _ _ _, TB1 GE113.out⟩
    ·replace c13 := Bool.eq_false_iff.mpr c13
     subst c13
     have H1 : (rasp_Told.l0 kj4 l1 ([] : List (List Int)) (wrap64 ((l1.length : Int) - 1)) 0 l0_0 a0_1 a0_2 l0_3) = some (r1, r2) := by rw [if_neg (show ¬ (false = true) by decide)] at H; exact H
     clear H
     have H := H1
     clear H1
     have H' := Aside0.mk H
     clear H
     go_wp2
     repeat (go_quiet (fail); try go_wp2)
     go_loopg [7, 28] kj4 (fun kq v7 v28 w' => ∃ (x7_2 : List (List Int)) (x28_2 : Int), v28 = .int .i64 x28_2 ∧ Aside0 (rasp_Told.l0 kq l1 x7_2 (wrap64 ((l1.length : Int) - 1)) x28_2 l0_0 a0_1 a0_2 l0_3 = some (r1, r2)) ∧ Aside0 (kq ≤ kj4) ∧ Aside0 (Kd.N (Kd.slice 3 (Kd.int .i64)) 38 w' w.heap.size (fun k_ => (w.heap.size ≤ k_) ∧ k_ ≠ gb113) v7 x7_2) ∧ Aside0 (w'.heap[gb113]? = some (.cells #[(.slice A0_0 l0_0.length c0_0), .int .i64 a0_1, .int .i64 a0_2, (.slice A0_3 l0_3.length c0_3)] 27 (0, 0))) ∧ Aside0 (Below w.heap.size w w'))
     case atStart => exact ⟨(([] : List (List Int))), (0), TT, H', ⟨Nat.le_refl _⟩, ⟨by first | exact Kd.S_nil _ _ _ _ _ | exact Kd.N_nil _ _ _ _ _ | exact Kd.V_nil _ _ _ _ _ | exact Kd.Q_nil _ _ _ _ _ | exact Kd.R_nil _ _ _ _ _⟩, ⟨TK BK113.out⟩, ⟨TB1 GE113.out⟩⟩
     case round =>
      clear H'
      try clear c1
      try clear p2
      try clear c3
      try clear c4
      try clear c4b0
      try clear c4b1
      try clear p6
      try clear c10
      try clear c13
      try clear hcz7_0 hcz7_1 hcz7_2 hcz7_3 hfz7_0 hfz7_1 hfz7_2 hfz7_3
      try clear p2
      obtain ⟨x7_2, x28_2, rfl, HA, HK2, HO_7, BK113, HB⟩ := hrel
      cases gk with
      | zero => exact absurd HA.out (by simp [rasp_Told.l0])
      | succ k2 =>
       have H := HA.out
       clear HA
       simp only [rasp_Told.l0] at H
       by_cases c14 : x28_2 < (wrap64 ((l1.length : Int) - 1))
       ·rw [if_pos c14] at H
        have c14b0 : decide (x28_2 < (wrap64 ((l1.length : Int) - 1))) = true := decide_eq_true c14
        clear c14
        have H' := Aside0.mk H
        clear H
        have hcz15_0 := cz BK113.out 0
        have hcz15_1 := cz BK113.out 1
        have hcz15_2 := cz BK113.out 2
        have hcz15_3 := cz BK113.out 3
        have hfz15_0 := fz BK113.out 0
        have hfz15_1 := fz BK113.out 1
        have hfz15_2 := fz BK113.out 2
        have hfz15_3 := fz BK113.out 3
        go_wp2
        repeat (go_quiet (fail); try go_wp2)
        go_loopg [9, 34] k2 (fun kq v9 v34 w' => ∃ (x9_3 : List Int) (x34_3 : Int), v34 = .int .i64 x34_3 ∧ Aside0 (rasp_Told.l1 kq l1 x7_2 x28_2 x9_3 (wrap64 ((l1.length : Int) - 1)) x28_2 l0_0 (l0_0.length : Int) x34_3 l0_0 a0_1 a0_2 l0_3 = some (r1, r2)) ∧ Aside0 (kq ≤ k2) ∧ Aside0 (Kd.N (Kd.slice 3 (Kd.int .i64)) 38 w' w.heap.size (fun k_ => (w.heap.size ≤ k_) ∧ some k_ ≠ (v9 : Value).ownBlock ∧ k_ ≠ gb113) u7 x7_2) ∧ Aside0 (Kd.R (Kd.int .i64) 3 w' w.heap.size (fun k_ => (w.heap.size ≤ k_)) v9 x9_3) ∧ Aside0 (w'.heap[gb113]? = some (.cells #[(.slice A0_0 l0_0.length c0_0), .int .i64 a0_1, .int .i64 a0_2, (.slice A0_3 l0_3.length c0_3)] 27 (0, 0))) ∧ Aside0 (Below w.heap.size w w'))
        case atStart => exact ⟨(([] : List Int)), (0), TT, H', ⟨Nat.le_refl _⟩, ⟨by (with_reducible repeat (first | apply Kd.N_alloc | apply Kd.N_drewN | apply Kd.N_drew)); exact Kd.N_mono HO_7.out (fun _ hk => ⟨hk.1, ⟨(by simp [Value.ownBlock]), hk.2⟩⟩)⟩, ⟨by first | exact Kd.R_nil _ _ _ _ _ | exact Kd.N_nil _ _ _ _ _ | exact Kd.V_nil _ _ _ _ _ | exact Kd.Q_nil _ _ _ _ _ | exact Kd.S_nil _ _ _ _ _⟩, ⟨TK BK113.out⟩, ⟨TB1 GE113.out⟩⟩
        case round =>
         clear H'
         try clear c1
         try clear p2
         try clear c3
         try clear c4
         try clear c4b0
         try clear c4b1
         try clear p6
         try clear c10
         try clear c13
         try clear c14
         try clear c14b0
         try clear hcz15_0 hcz15_1 hcz15_2 hcz15_3
         try clear hcz7_0 hcz7_1 hcz7_2 hcz7_3
         try clear hfz15_0 hfz15_1 hfz15_2 hfz15_3
         try clear hfz7_0 hfz7_1 hfz7_2 hfz7_3
         try clear p2
         try clear p6
         obtain ⟨x9_3, x34_3, rfl, HA, HK3, HO_7, HO_9, BK113, HB⟩ := hrel
         cases gk with
         | zero => exact absurd HA.out (by simp [rasp_Told.l1])
         | succ k3 =>
          have H := HA.out
          clear HA
          simp only [rasp_Told.l1] at H
          by_cases c16 : x34_3 < (l0_0.length : Int)
          ·rw [if_pos c16] at H
           have c16b0 : decide (x34_3 < (l0_0.length : Int)) = true := decide_eq_true c16
           clear c16
           by_cases c17 : 0 ≤ x34_3
           ·rw [if_pos c17] at H
            have c17b0 : decide (0 ≤ x34_3) = true := decide_eq_true c17
            clear c17
            by_cases c18 : x34_3 < (l0_0.length : Int)
            ·rw [if_pos c18] at H
             have c18b0 : decide (x34_3 < (l0_0.length : Int)) = true := decide_eq_true c18
             clear c18
             obtain ⟨ji19, hji19⟩ : ∃ j_ : Int, (wrap64 (x28_2 + 1)) = j_ := ⟨_, rfl⟩
             replace H : (if 0 ≤ (ji19) then (if (ji19) < (l1.length : Int) then (if 0 ≤ x28_2 then (if x28_2 < (l1.length : Int) then ((rasp_lies.f (wrap64 ((rd l1 (ji19)) - (rd l1 x28_2))) ((rd_T57 l0_0 x34_3).f0.f0) ((rd_T57 l0_0 x34_3).f0.f1)).bind fun t123 => (if t123 = true then (if x9_3.length < 17592186044416 then (rasp_Told.l1 k3 l1 x7_2 x28_2 (x9_3 ++ [x34_3]) (wrap64 ((l1.length : Int) - 1)) x28_2 l0_0 (l0_0.length : Int) (wrap64 (x34_3 + 1)) l0_0 a0_1 a0_2 l0_3) else (none)) else (rasp_Told.l1 k3 l1 x7_2 x28_2 x9_3 (wrap64 ((l1.length : Int) - 1)) x28_2 l0_0 (l0_0.length : Int) (wrap64 (x34_3 + 1)) l0_0 a0_1 a0_2 l0_3))) else (none)) else (none)) else (none)) else (none)) = some (r1, r2) := by first | (rw [hji19] at H; exact H) | (simp only [hji19] at H ⊢; exact H)
             have hji19w : (IntKind.i64.wrap (x28_2 + 1)) = ji19 := (i64_w _).trans hji19
             by_cases c20 : 0 ≤ (ji19)
             ·rw [if_pos c20] at H
              have c20b0 : decide (0 ≤ (ji19)) = true := decide_eq_true c20
              clear c20
              by_cases c21 : (ji19) < (l1.length : Int)
              ·rw [if_pos c21] at H
               have c21b0 : decide ((ji19) < (l1.length : Int)) = true := decide_eq_true c21
               clear c21
               by_cases c22 : 0 ≤ x28_2
               ·rw [if_pos c22] at H
                have c22b0 : decide (0 ≤ x28_2) = true := decide_eq_true c22
                clear c22
                by_cases c23 : x28_2 < (l1.length : Int)
                ·rw [if_pos c23] at H
                 have c23b0 : decide (x28_2 < (l1.length : Int)) = true := decide_eq_true c23
                 clear c23
                 replace H := Option.bind_eq_some_iff.mp H
                 obtain ⟨t123, A240, H⟩ := H
                 replace H : (if t123 = true then (if x9_3.length < 17592186044416 then (rasp_Told.l1 k3 l1 x7_2 x28_2 (x9_3 ++ [x34_3]) (wrap64 ((l1.length : Int) - 1)) x28_2 l0_0 (l0_0.length : Int) (wrap64 (x34_3 + 1)) l0_0 a0_1 a0_2 l0_3) else (none)) else (rasp_Told.l1 k3 l1 x7_2 x28_2 x9_3 (wrap64 ((l1.length : Int) - 1)) x28_2 l0_0 (l0_0.length : Int) (wrap64 (x34_3 + 1)) l0_0 a0_1 a0_2 l0_3)) = some (r1, r2) := H
                 have A24 := Aside0.mk A240
                 clear A240
                 by_cases c25 : t123 = true
                 ·subst c25
                  have H1 : (if x9_3.length < 17592186044416 then (rasp_Told.l1 k3 l1 x7_2 x28_2 (x9_3 ++ [x34_3]) (wrap64 ((l1.length : Int) - 1)) x28_2 l0_0 (l0_0.length : Int) (wrap64 (x34_3 + 1)) l0_0 a0_1 a0_2 l0_3) else (none)) = some (r1, r2) := by rw [if_pos rfl] at H; exact H
                  clear H
                  have H := H1
                  clear H1
                  by_cases c26 : x9_3.length < 17592186044416
                  ·rw [if_pos c26] at H
                   have LMc26 := Aside0.mk c26
                   clear c26
                   obtain ⟨y124, hy124⟩ : ∃ y_ : List Int, y_ = (x9_3 ++ [x34_3]) := ⟨_, rfl⟩
                   replace H : (rasp_Told.l1 k3 l1 x7_2 x28_2 y124 (wrap64 ((l1.length : Int) - 1)) x28_2 l0_0 (l0_0.length : Int) (wrap64 (x34_3 + 1)) l0_0 a0_1 a0_2 l0_3) = some (r1, r2) := by first | (rw [hy124]; with_reducible exact H) | (have H2_ := (Option.bind_some _ _).symm.trans H; rw [hy124]; with_reducible exact H2_) | (have H2_ := (Option.bind_some _ _).symm.trans H; with_reducible exact H2_) | with_reducible exact H | (rw [hy124]; exact H) | exact H
                   have Ny124 := Aside0.mk hy124
                   clear hy124
                   have H' := Aside0.mk H
                   clear H
                   have p119 : 0 ≤ (x34_3 : Int) := of_decide_eq_true TA
                   have q119 : x34_3 < (l0_0.length : Int) := of_decide_eq_true TA
                   obtain ⟨ad119, e119, hx119_0, hx119_1, hx119_2⟩ := at_T57 HR0_0.out x34_3 p119 q119
                   cases e119
                   replace hx119_0 := hx HB.out hx119_0
                   replace hx119_1 := hx HB.out hx119_1
                   replace hx119_2 := hx HB.out hx119_2
                   replace p119 := eq_true p119
                   replace q119 := eq_true q119
                   go_wp2_with (first | ((with_reducible refine gate_dst (N := 11) rfl ?_); refine box_event ?hg (N := 11) ?hd (cs := #[.int .i64 0, .int .i64 0, .int .i64 0]) (t := 57) ?hr ?_; (case hd => rfl); (case hg => rfl); (case hr => exact TS); intro gb120 hg w27 hbox hb; have BK120 := Aside0.mk (hbox); have GW120 := Aside0.mk ((TG1 GE113.out : w.heap.size ≤ gb120)); have GE120 := Aside0.mk ((TG1 GE113.out : w.heap.size ≤ gb120)); have NB113_120 := Aside0.mk ((by rw [hg]; exact Nat.ne_of_lt (blk_lt (g := gb113) (o := .cells #[.slice (some ad119) l0_0.length c0_0, .int .i64 a0_1, .int .i64 a0_2, .slice A0_3 l0_3.length c0_3] 27 (0, 0)) (TK BK113.out)) : gb113 ≠ gb120)); have NB120_113 := Aside0.mk ((by rw [hg]; exact Nat.ne_of_gt (blk_lt (g := gb113) (o := .cells #[.slice (some ad119) l0_0.length c0_0, .int .i64 a0_1, .int .i64 a0_2, .slice A0_3 l0_3.length c0_3] 27 (0, 0)) (TK BK113.out)) : gb120 ≠ gb113)); replace HO_7 := Aside0.mk (Kd.N_below (Kd.N_elderB (TNo HO_7.out) gb120 (Nat.le_of_eq hg.symm)) hb); replace HO_9 := Aside0.mk (Kd.R_below (TRo HO_9.out) hb); replace BK113 := Aside0.mk (TKb hb BK113.out); replace HB := Aside0.mk (below_step (TB1 GE113.out) hb); clear hb hbox hg; have hnb28 := NB120_113.out; have hnc28 := NB113_120.out; have hcz29_0 := cz BK120.out 0; have hcz29_1 := cz BK120.out 1; have hcz29_2 := cz BK120.out 2; have hfz29_0 := fz BK120.out 0; have hfz29_1 := fz BK120.out 1; have hfz29_2 := fz BK120.out 2; have p121 : 0 ≤ ((ji19) : Int) := of_decide_eq_true TA; have q121 : (ji19) < (l1.length : Int) := of_decide_eq_true TA; obtain ⟨ad121, e121, hx121_0⟩ := Kd.at_int HR1.out (ji19) p121 q121; cases e121; have hn121_0 : ad121.block ≠ gb120 := Nat.ne_of_lt (Nat.lt_of_lt_of_le (TL hx121_0) GW120.out); have hn121_1 : ad121.block ≠ gb120 := Nat.ne_of_lt (Nat.lt_of_lt_of_le (TL hx121_0) GW120.out); have hn121_2 : ad121.block ≠ gb120 := Nat.ne_of_lt (Nat.lt_of_lt_of_le (TL hx121_0) GW120.out); replace hx121_0 := hx HB.out hx121_0; replace hx121_0 := (cell_far (p := ⟨gb120, 0, none⟩) (TF hn121_0) (.int .i64 ((rd_T57 l0_0 x34_3).f0.f0))).trans hx121_0; replace hx121_0 := (cell_far (p := ⟨gb120, 1, none⟩) (TF hn121_1) (.int .i64 ((rd_T57 l0_0 x34_3).f0.f1))).trans hx121_0; replace hx121_0 := (cell_far (p := ⟨gb120, 2, none⟩) (TF hn121_2) (.int .i64 ((rd_T57 l0_0 x34_3).f1))).trans hx121_0; (try have hy121_0 := fun (n_ : Nat) => (show (((((w27.drewN n_).setCell ⟨gb120, 0, none⟩ (.int .i64 ((rd_T57 l0_0 x34_3).f0.f0))).setCell ⟨gb120, 1, none⟩ (.int .i64 ((rd_T57 l0_0 x34_3).f0.f1))).setCell ⟨gb120, 2, none⟩ (.int .i64 ((rd_T57 l0_0 x34_3).f1)))).cell? _ = some _ from hx121_0)); clear hn121_0; clear hn121_1; clear hn121_2; replace p121 := eq_true p121; replace q121 := eq_true q121; have p122 : 0 ≤ (x28_2 : Int) := of_decide_eq_true TA; have q122 : x28_2 < (l1.length : Int) := of_decide_eq_true TA; obtain ⟨ad122, e122, hx122_0⟩ := Kd.at_int HR1.out x28_2 p122 q122; obtain rfl : ad121 = ad122 := (by injection e122); have hn122_0 : ad121.block ≠ gb120 := Nat.ne_of_lt (Nat.lt_of_lt_of_le (TL hx122_0) GW120.out); have hn122_1 : ad121.block ≠ gb120 := Nat.ne_of_lt (Nat.lt_of_lt_of_le (TL hx122_0) GW120.out); have hn122_2 : ad121.block ≠ gb120 := Nat.ne_of_lt (Nat.lt_of_lt_of_le (TL hx122_0) GW120.out); replace hx122_0 := hx HB.out hx122_0; replace hx122_0 := (cell_far (p := ⟨gb120, 0, none⟩) (TF hn122_0) (.int .i64 ((rd_T57 l0_0 x34_3).f0.f0))).trans hx122_0; replace hx122_0 := (cell_far (p := ⟨gb120, 1, none⟩) (TF hn122_1) (.int .i64 ((rd_T57 l0_0 x34_3).f0.f1))).trans hx122_0; replace hx122_0 := (cell_far (p := ⟨gb120, 2, none⟩) (TF hn122_2) (.int .i64 ((rd_T57 l0_0 x34_3).f1))).trans hx122_0; (try have hy122_0 := fun (n_ : Nat) => (show (((((w27.drewN n_).setCell ⟨gb120, 0, none⟩ (.int .i64 ((rd_T57 l0_0 x34_3).f0.f0))).setCell ⟨gb120, 1, none⟩ (.int .i64 ((rd_T57 l0_0 x34_3).f0.f1))).setCell ⟨gb120, 2, none⟩ (.int .i64 ((rd_T57 l0_0 x34_3).f1)))).cell? _ = some _ from hx122_0)); clear hn122_0; clear hn122_1; clear hn122_2; replace p122 := eq_true p122; replace q122 := eq_true q122) | (go_at_call 58; (with_reducible refine (rasp_lies.calls (wrap64 ((rd l1 (ji19)) - (rd l1 x28_2))) ((rd_T57 l0_0 x34_3).f0.f0) ((rd_T57 l0_0 x34_3).f0.f1) true _ A24.out).mono ?_); rintro e w' ⟨rfl, ⟨nd, rfl⟩⟩; (try first | exact ⟨rfl, _, World.drewN_drewN _ _ _⟩ | exact ⟨rfl, _, Eq.trans (World.drewN_drewN _ _ _) (congrArg (World.drewN _) (Nat.add_assoc _ _ _))⟩)) | ((with_reducible refine gate_builtin (b := .append) (xs := #[.tmp 56, .tmp 58]) rfl ?_); at_builtin; refine Kd.R_append (Kd.int .i64) (w0 := w) w.heap.size rfl (.tmp 56) (.tmp 58) 38 3 (.int .i64 0) 8 rfl Tryd.underlying38 info3 rfl (by decide) (by omega) u9 x9_3 x34_3 [.int .i64 x34_3] (fun k_ => (w.heap.size ≤ k_)) (fun _ => False) rfl (by first | (go_simp; done) | (go_simp; rfl)) ?aP (fun _ hk => hk.elim) ?aF ?aO ?aB ?aS ?aL ?_; (case aP => exact rfl); (case aB => exact (TB2 GE113.out GE120.out)); (case aF => exact (fun k_ hk => (Nat.le_trans (below_size (TB2 GE113.out GE120.out)) hk))); (case aO => exact (by (with_reducible repeat (first | apply Kd.R_alloc | apply Kd.R_drewN | apply Kd.R_drew)); exact Kd.R_mono (Kd.R_far (p := ⟨gb120, 2, none⟩) (Kd.R_far (p := ⟨gb120, 1, none⟩) (Kd.R_far (p := ⟨gb120, 0, none⟩) (Kd.R_types HO_9.out BK120.out (by decide)) (fun _ hk => hk.2) (.int .i64 ((rd_T57 l0_0 x34_3).f0.f0))) (fun _ hk => hk.2) (.int .i64 ((rd_T57 l0_0 x34_3).f0.f1))) (fun _ hk => hk.2) (.int .i64 ((rd_T57 l0_0 x34_3).f1))) (fun _ hk => hk.1))); (case aS => exact (below_size (TB2 GE113.out GE120.out))); (case aL => have := LMc26.out; omega); intro v125 w30 ho hb hg hat; rw [← Ny124.out] at ho; have HO126 := Aside0.mk (ho); replace HO_7 := Aside0.mk (Kd.N_afterv (ok := (fun k_ => (w.heap.size ≤ k_) ∧ k_ ≠ gb113 ∧ k_ ≠ gb120)) (by (with_reducible repeat (first | apply Kd.N_alloc | apply Kd.N_drewN | apply Kd.N_drew)); exact Kd.N_mono (Kd.N_far (p := ⟨gb120, 2, none⟩) (Kd.N_far (p := ⟨gb120, 1, none⟩) (Kd.N_far (p := ⟨gb120, 0, none⟩) (Kd.N_mono HO_7.out (fun k_ hk => (⟨hk, hk.2⟩ : _ ∧ k_ ≠ gb120))) (fun _ hk => hk.2) (.int .i64 ((rd_T57 l0_0 x34_3).f0.f0))) (fun _ hk => hk.2) (.int .i64 ((rd_T57 l0_0 x34_3).f0.f1))) (fun _ hk => hk.2) (.int .i64 ((rd_T57 l0_0 x34_3).f1))) (fun _ hk => ⟨⟨hk.1.1.1, ⟨hk.1.1.2.2, hk.1.2⟩⟩, hk.1.1.2.1⟩)) hg hat); replace BK113 := Aside0.mk (blk_grown (g := gb113) (o := .cells #[.slice (some ad119) l0_0.length c0_0, .int .i64 a0_1, .int .i64 a0_2, .slice A0_3 l0_3.length c0_3] 27 (0, 0)) (by (with_reducible repeat (first | refine blk_drewN ?_ _ | refine blk_drew ?_ | refine blk_alloc ?_ _)); refine blk_far ?_ NB113_120.out _; (with_reducible repeat (first | refine blk_drewN ?_ _ | refine blk_drew ?_ | refine blk_alloc ?_ _)); refine blk_far ?_ NB113_120.out _; (with_reducible repeat (first | refine blk_drewN ?_ _ | refine blk_drew ?_ | refine blk_alloc ?_ _)); refine blk_far ?_ NB113_120.out _; (with_reducible repeat (first | refine blk_drewN ?_ _ | refine blk_drew ?_ | refine blk_alloc ?_ _)); exact BK113.out) hg (Kd.R_ne HO_9.out BK113.out (by decide))); replace BK120 := Aside0.mk (blk_grown (g := gb120) (o := .cells #[.int .i64 ((rd_T57 l0_0 x34_3).f0.f0), .int .i64 ((rd_T57 l0_0 x34_3).f0.f1), .int .i64 ((rd_T57 l0_0 x34_3).f1)] 57 (0, 0)) (by (with_reducible repeat (first | refine blk_drewN ?_ _ | refine blk_drew ?_ | refine blk_alloc ?_ _)); refine blk_put (cs := #[.int .i64 ((rd_T57 l0_0 x34_3).f0.f0), .int .i64 ((rd_T57 l0_0 x34_3).f0.f1), .int .i64 0]) ?_ 2 _ rfl; (with_reducible repeat (first | refine blk_drewN ?_ _ | refine blk_drew ?_ | refine blk_alloc ?_ _)); refine blk_put (cs := #[.int .i64 ((rd_T57 l0_0 x34_3).f0.f0), .int .i64 0, .int .i64 0]) ?_ 1 _ rfl; (with_reducible repeat (first | refine blk_drewN ?_ _ | refine blk_drew ?_ | refine blk_alloc ?_ _)); refine blk_put (cs := #[.int .i64 0, .int .i64 0, .int .i64 0]) ?_ 0 _ rfl; (with_reducible repeat (first | refine blk_drewN ?_ _ | refine blk_drew ?_ | refine blk_alloc ?_ _)); exact BK120.out) hg (Kd.R_ne HO_9.out BK120.out (by decide))); replace HB := Aside0.mk (hb); clear HO_9; clear ho hb hg hat))
                   repeat (go_quiet (first | ((with_reducible refine gate_dst (N := 11) rfl ?_); refine box_event ?hg (N := 11) ?hd (cs := #[.int .i64 0, .int .i64 0, .int .i64 0]) (t := 57) ?hr ?_; (case hd => rfl); (case hg => rfl); (case hr => exact TS); intro gb120 hg w27 hbox hb; have BK120 := Aside0.mk (hbox); have GW120 := Aside0.mk ((TG1 GE113.out : w.heap.size ≤ gb120)); have GE120 := Aside0.mk ((TG1 GE113.out : w.heap.size ≤ gb120)); have NB113_120 := Aside0.mk ((by rw [hg]; exact Nat.ne_of_lt (blk_lt (g := gb113) (o := .cells #[.slice (some ad119) l0_0.length c0_0, .int .i64 a0_1, .int .i64 a0_2, .slice A0_3 l0_3.length c0_3] 27 (0, 0)) (TK BK113.out)) : gb113 ≠ gb120)); have NB120_113 := Aside0.mk ((by rw [hg]; exact Nat.ne_of_gt (blk_lt (g := gb113) (o := .cells #[.slice (some ad119) l0_0.length c0_0, .int .i64 a0_1, .int .i64 a0_2, .slice A0_3 l0_3.length c0_3] 27 (0, 0)) (TK BK113.out)) : gb120 ≠ gb113)); replace HO_7 := Aside0.mk (Kd.N_below (Kd.N_elderB (TNo HO_7.out) gb120 (Nat.le_of_eq hg.symm)) hb); replace HO_9 := Aside0.mk (Kd.R_below (TRo HO_9.out) hb); replace BK113 := Aside0.mk (TKb hb BK113.out); replace HB := Aside0.mk (below_step (TB1 GE113.out) hb); clear hb hbox hg; have hnb28 := NB120_113.out; have hnc28 := NB113_120.out; have hcz29_0 := cz BK120.out 0; have hcz29_1 := cz BK120.out 1; have hcz29_2 := cz BK120.out 2; have hfz29_0 := fz BK120.out 0; have hfz29_1 := fz BK120.out 1; have hfz29_2 := fz BK120.out 2; have p121 : 0 ≤ ((ji19) : Int) := of_decide_eq_true TA; have q121 : (ji19) < (l1.length : Int) := of_decide_eq_true TA; obtain ⟨ad121, e121, hx121_0⟩ := Kd.at_int HR1.out (ji19) p121 q121; cases e121; have hn121_0 : ad121.block ≠ gb120 := Nat.ne_of_lt (Nat.lt_of_lt_of_le (TL hx121_0) GW120.out); have hn121_1 : ad121.block ≠ gb120 := Nat.ne_of_lt (Nat.lt_of_lt_of_le (TL hx121_0) GW120.out); have hn121_2 : ad121.block ≠ gb120 := Nat.ne_of_lt (Nat.lt_of_lt_of_le (TL hx121_0) GW120.out); replace hx121_0 := hx HB.out hx121_0; replace hx121_0 := (cell_far (p := ⟨gb120, 0, none⟩) (TF hn121_0) (.int .i64 ((rd_T57 l0_0 x34_3).f0.f0))).trans hx121_0; replace hx121_0 := (cell_far (p := ⟨gb120, 1, none⟩) (TF hn121_1) (.int .i64 ((rd_T57 l0_0 x34_3).f0.f1))).trans hx121_0; replace hx121_0 := (cell_far (p := ⟨gb120, 2, none⟩) (TF hn121_2) (.int .i64 ((rd_T57 l0_0 x34_3).f1))).trans hx121_0; (try have hy121_0 := fun (n_ : Nat) => (show (((((w27.drewN n_).setCell ⟨gb120, 0, none⟩ (.int .i64 ((rd_T57 l0_0 x34_3).f0.f0))).setCell ⟨gb120, 1, none⟩ (.int .i64 ((rd_T57 l0_0 x34_3).f0.f1))).setCell ⟨gb120, 2, none⟩ (.int .i64 ((rd_T57 l0_0 x34_3).f1)))).cell? _ = some _ from hx121_0)); clear hn121_0; clear hn121_1; clear hn121_2; replace p121 := eq_true p121; replace q121 := eq_true q121; have p122 : 0 ≤ (x28_2 : Int) := of_decide_eq_true TA; have q122 : x28_2 < (l1.length : Int) := of_decide_eq_true TA; obtain ⟨ad122, e122, hx122_0⟩ := Kd.at_int HR1.out x28_2 p122 q122; obtain rfl : ad121 = ad122 := (by injection e122); have hn122_0 : ad121.block ≠ gb120 := Nat.ne_of_lt (Nat.lt_of_lt_of_le (TL hx122_0) GW120.out); have hn122_1 : ad121.block ≠ gb120 := Nat.ne_of_lt (Nat.lt_of_lt_of_le (TL hx122_0) GW120.out); have hn122_2 : ad121.block ≠ gb120 := Nat.ne_of_lt (Nat.lt_of_lt_of_le (TL hx122_0) GW120.out); replace hx122_0 := hx HB.out hx122_0; replace hx122_0 := (cell_far (p := ⟨gb120, 0, none⟩) (TF hn122_0) (.int .i64 ((rd_T57 l0_0 x34_3).f0.f0))).trans hx122_0; replace hx122_0 := (cell_far (p := ⟨gb120, 1, none⟩) (TF hn122_1) (.int .i64 ((rd_T57 l0_0 x34_3).f0.f1))).trans hx122_0; replace hx122_0 := (cell_far (p := ⟨gb120, 2, none⟩) (TF hn122_2) (.int .i64 ((rd_T57 l0_0 x34_3).f1))).trans hx122_0; (try have hy122_0 := fun (n_ : Nat) => (show (((((w27.drewN n_).setCell ⟨gb120, 0, none⟩ (.int .i64 ((rd_T57 l0_0 x34_3).f0.f0))).setCell ⟨gb120, 1, none⟩ (.int .i64 ((rd_T57 l0_0 x34_3).f0.f1))).setCell ⟨gb120, 2, none⟩ (.int .i64 ((rd_T57 l0_0 x34_3).f1)))).cell? _ = some _ from hx122_0)); clear hn122_0; clear hn122_1; clear hn122_2; replace p122 := eq_true p122; replace q122 := eq_true q122) | (go_at_call 58; (with_reducible refine (rasp_lies.calls (wrap64 ((rd l1 (ji19)) - (rd l1 x28_2))) ((rd_T57 l0_0 x34_3).f0.f0) ((rd_T57 l0_0 x34_3).f0.f1) true _ A24.out).mono ?_); rintro e w' ⟨rfl, ⟨nd, rfl⟩⟩; (try first | exact ⟨rfl, _, World.drewN_drewN _ _ _⟩ | exact ⟨rfl, _, Eq.trans (World.drewN_drewN _ _ _) (congrArg (World.drewN _) (Nat.add_assoc _ _ _))⟩)) | ((with_reducible refine gate_builtin (b := .append) (xs := #[.tmp 56, .tmp 58]) rfl ?_); at_builtin; refine Kd.R_append (Kd.int .i64) (w0 := w) w.heap.size rfl (.tmp 56) (.tmp 58) 38 3 (.int .i64 0) 8 rfl Tryd.underlying38 info3 rfl (by decide) (by omega) u9 x9_3 x34_3 [.int .i64 x34_3] (fun k_ => (w.heap.size ≤ k_)) (fun _ => False) rfl (by first | (go_simp; done) | (go_simp; rfl)) ?aP (fun _ hk => hk.elim) ?aF ?aO ?aB ?aS ?aL ?_; (case aP => exact rfl); (case aB => exact (TB2 GE113.out GE120.out)); (case aF => exact (fun k_ hk => (Nat.le_trans (below_size (TB2 GE113.out GE120.out)) hk))); (case aO => exact (by (with_reducible repeat (first | apply Kd.R_alloc | apply Kd.R_drewN | apply Kd.R_drew)); exact Kd.R_mono (Kd.R_far (p := ⟨gb120, 2, none⟩) (Kd.R_far (p := ⟨gb120, 1, none⟩) (Kd.R_far (p := ⟨gb120, 0, none⟩) (Kd.R_types HO_9.out BK120.out (by decide)) (fun _ hk => hk.2) (.int .i64 ((rd_T57 l0_0 x34_3).f0.f0))) (fun _ hk => hk.2) (.int .i64 ((rd_T57 l0_0 x34_3).f0.f1))) (fun _ hk => hk.2) (.int .i64 ((rd_T57 l0_0 x34_3).f1))) (fun _ hk => hk.1))); (case aS => exact (below_size (TB2 GE113.out GE120.out))); (case aL => have := LMc26.out; omega); intro v125 w30 ho hb hg hat; rw [← Ny124.out] at ho; have HO126 := Aside0.mk (ho); replace HO_7 := Aside0.mk (Kd.N_afterv (ok := (fun k_ => (w.heap.size ≤ k_) ∧ k_ ≠ gb113 ∧ k_ ≠ gb120)) (by (with_reducible repeat (first | apply Kd.N_alloc | apply Kd.N_drewN | apply Kd.N_drew)); exact Kd.N_mono (Kd.N_far (p := ⟨gb120, 2, none⟩) (Kd.N_far (p := ⟨gb120, 1, none⟩) (Kd.N_far (p := ⟨gb120, 0, none⟩) (Kd.N_mono HO_7.out (fun k_ hk => (⟨hk, hk.2⟩ : _ ∧ k_ ≠ gb120))) (fun _ hk => hk.2) (.int .i64 ((rd_T57 l0_0 x34_3).f0.f0))) (fun _ hk => hk.2) (.int .i64 ((rd_T57 l0_0 x34_3).f0.f1))) (fun _ hk => hk.2) (.int .i64 ((rd_T57 l0_0 x34_3).f1))) (fun _ hk => ⟨⟨hk.1.1.1, ⟨hk.1.1.2.2, hk.1.2⟩⟩, hk.1.1.2.1⟩)) hg hat); replace BK113 := Aside0.mk (blk_grown (g := gb113) (o := .cells #[.slice (some ad119) l0_0.length c0_0, .int .i64 a0_1, .int .i64 a0_2, .slice A0_3 l0_3.length c0_3] 27 (0, 0)) (by (with_reducible repeat (first | refine blk_drewN ?_ _ | refine blk_drew ?_ | refine blk_alloc ?_ _)); refine blk_far ?_ NB113_120.out _; (with_reducible repeat (first | refine blk_drewN ?_ _ | refine blk_drew ?_ | refine blk_alloc ?_ _)); refine blk_far ?_ NB113_120.out _; (with_reducible repeat (first | refine blk_drewN ?_ _ | refine blk_drew ?_ | refine blk_alloc ?_ _)); refine blk_far ?_ NB113_120.out _; (with_reducible repeat (first | refine blk_drewN ?_ _ | refine blk_drew ?_ | refine blk_alloc ?_ _)); exact BK113.out) hg (Kd.R_ne HO_9.out BK113.out (by decide))); replace BK120 := Aside0.mk (blk_grown (g := gb120) (o := .cells #[.int .i64 ((rd_T57 l0_0 x34_3).f0.f0), .int .i64 ((rd_T57 l0_0 x34_3).f0.f1), .int .i64 ((rd_T57 l0_0 x34_3).f1)] 57 (0, 0)) (by (with_reducible repeat (first | refine blk_drewN ?_ _ | refine blk_drew ?_ | refine blk_alloc ?_ _)); refine blk_put (cs := #[.int .i64 ((rd_T57 l0_0 x34_3).f0.f0), .int .i64 ((rd_T57 l0_0 x34_3).f0.f1), .int .i64 0]) ?_ 2 _ rfl; (with_reducible repeat (first | refine blk_drewN ?_ _ | refine blk_drew ?_ | refine blk_alloc ?_ _)); refine blk_put (cs := #[.int .i64 ((rd_T57 l0_0 x34_3).f0.f0), .int .i64 0, .int .i64 0]) ?_ 1 _ rfl; (with_reducible repeat (first | refine blk_drewN ?_ _ | refine blk_drew ?_ | refine blk_alloc ?_ _)); refine blk_put (cs := #[.int .i64 0, .int .i64 0, .int .i64 0]) ?_ 0 _ rfl; (with_reducible repeat (first | refine blk_drewN ?_ _ | refine blk_drew ?_ | refine blk_alloc ?_ _)); exact BK120.out) hg (Kd.R_ne HO_9.out BK120.out (by decide))); replace HB := Aside0.mk (hb); clear HO_9; clear ho hb hg hat)); try go_wp2_with (first | ((with_reducible refine gate_dst (N := 11) rfl ?_); refine box_event ?hg (N := 11) ?hd (cs := #[.int .i64 0, .int .i64 0, .int .i64 0]) (t := 57) ?hr ?_; (case hd => rfl); (case hg => rfl); (case hr => exact TS); intro gb120 hg w27 hbox hb; have BK120 := Aside0.mk (hbox); have GW120 := Aside0.mk ((TG1 GE113.out : w.heap.size ≤ gb120)); have GE120 := Aside0.mk ((TG1 GE113.out : w.heap.size ≤ gb120)); have NB113_120 := Aside0.mk ((by rw [hg]; exact Nat.ne_of_lt (blk_lt (g := gb113) (o := .cells #[.slice (some ad119) l0_0.length c0_0, .int .i64 a0_1, .int .i64 a0_2, .slice A0_3 l0_3.length c0_3] 27 (0, 0)) (TK BK113.out)) : gb113 ≠ gb120)); have NB120_113 := Aside0.mk ((by rw [hg]; exact Nat.ne_of_gt (blk_lt (g := gb113) (o := .cells #[.slice (some ad119) l0_0.length c0_0, .int .i64 a0_1, .int .i64 a0_2, .slice A0_3 l0_3.length c0_3] 27 (0, 0)) (TK BK113.out)) : gb120 ≠ gb113)); replace HO_7 := Aside0.mk (Kd.N_below (Kd.N_elderB (TNo HO_7.out) gb120 (Nat.le_of_eq hg.symm)) hb); replace HO_9 := Aside0.mk (Kd.R_below (TRo HO_9.out) hb); replace BK113 := Aside0.mk (TKb hb BK113.out); replace HB := Aside0.mk (below_step (TB1 GE113.out) hb); clear hb hbox hg; have hnb28 := NB120_113.out; have hnc28 := NB113_120.out; have hcz29_0 := cz BK120.out 0; have hcz29_1 := cz BK120.out 1; have hcz29_2 := cz BK120.out 2; have hfz29_0 := fz BK120.out 0; have hfz29_1 := fz BK120.out 1; have hfz29_2 := fz BK120.out 2; have p121 : 0 ≤ ((ji19) : Int) := of_decide_eq_true TA; have q121 : (ji19) < (l1.length : Int) := of_decide_eq_true TA; obtain ⟨ad121, e121, hx121_0⟩ := Kd.at_int HR1.out (ji19) p121 q121; cases e121; have hn121_0 : ad121.block ≠ gb120 := Nat.ne_of_lt (Nat.lt_of_lt_of_le (TL hx121_0) GW120.out); have hn121_1 : ad121.block ≠ gb120 := Nat.ne_of_lt (Nat.lt_of_lt_of_le (TL hx121_0) GW120.out); have hn121_2 : ad121.block ≠ gb120 := Nat.ne_of_lt (Nat.lt_of_lt_of_le (TL hx121_0) GW120.out); replace hx121_0 := hx HB.out hx121_0; replace hx121_0 := (cell_far (p := ⟨gb120, 0, none⟩) (TF hn121_0) (.int .i64 ((rd_T57 l0_0 x34_3).f0.f0))).trans hx121_0; replace hx121_0 := (cell_far (p := ⟨gb120, 1, none⟩) (TF hn121_1) (.int .i64 ((rd_T57 l0_0 x34_3).f0.f1))).trans hx121_0; replace hx121_0 := (cell_far (p := ⟨gb120, 2, none⟩) (TF hn121_2) (.int .i64 ((rd_T57 l0_0 x34_3).f1))).trans hx121_0; (try have hy121_0 := fun (n_ : Nat) => (show (((((w27.drewN n_).setCell ⟨gb120, 0, none⟩ (.int .i64 ((rd_T57 l0_0 x34_3).f0.f0))).setCell ⟨gb120, 1, none⟩ (.int .i64 ((rd_T57 l0_0 x34_3).f0.f1))).setCell ⟨gb120, 2, none⟩ (.int .i64 ((rd_T57 l0_0 x34_3).f1)))).cell? _ = some _ from hx121_0)); clear hn121_0; clear hn121_1; clear hn121_2; replace p121 := eq_true p121; replace q121 := eq_true q121; have p122 : 0 ≤ (x28_2 : Int) := of_decide_eq_true TA; have q122 : x28_2 < (l1.length : Int) := of_decide_eq_true TA; obtain ⟨ad122, e122, hx122_0⟩ := Kd.at_int HR1.out x28_2 p122 q122; obtain rfl : ad121 = ad122 := (by injection e122); have hn122_0 : ad121.block ≠ gb120 := Nat.ne_of_lt (Nat.lt_of_lt_of_le (TL hx122_0) GW120.out); have hn122_1 : ad121.block ≠ gb120 := Nat.ne_of_lt (Nat.lt_of_lt_of_le (TL hx122_0) GW120.out); have hn122_2 : ad121.block ≠ gb120 := Nat.ne_of_lt (Nat.lt_of_lt_of_le (TL hx122_0) GW120.out); replace hx122_0 := hx HB.out hx122_0; replace hx122_0 := (cell_far (p := ⟨gb120, 0, none⟩) (TF hn122_0) (.int .i64 ((rd_T57 l0_0 x34_3).f0.f0))).trans hx122_0; replace hx122_0 := (cell_far (p := ⟨gb120, 1, none⟩) (TF hn122_1) (.int .i64 ((rd_T57 l0_0 x34_3).f0.f1))).trans hx122_0; replace hx122_0 := (cell_far (p := ⟨gb120, 2, none⟩) (TF hn122_2) (.int .i64 ((rd_T57 l0_0 x34_3).f1))).trans hx122_0; (try have hy122_0 := fun (n_ : Nat) => (show (((((w27.drewN n_).setCell ⟨gb120, 0, none⟩ (.int .i64 ((rd_T57 l0_0 x34_3).f0.f0))).setCell ⟨gb120, 1, none⟩ (.int .i64 ((rd_T57 l0_0 x34_3).f0.f1))).setCell ⟨gb120, 2, none⟩ (.int .i64 ((rd_T57 l0_0 x34_3).f1)))).cell? _ = some _ from hx122_0)); clear hn122_0; clear hn122_1; clear hn122_2; replace p122 := eq_true p122; replace q122 := eq_true q122) | (go_at_call 58; (with_reducible refine (rasp_lies.calls (wrap64 ((rd l1 (ji19)) - (rd l1 x28_2))) ((rd_T57 l0_0 x34_3).f0.f0) ((rd_T57 l0_0 x34_3).f0.f1) true _ A24.out).mono ?_); rintro e w' ⟨rfl, ⟨nd, rfl⟩⟩; (try first | exact ⟨rfl, _, World.drewN_drewN _ _ _⟩ | exact ⟨rfl, _, Eq.trans (World.drewN_drewN _ _ _) (congrArg (World.drewN _) (Nat.add_assoc _ _ _))⟩)) | ((with_reducible refine gate_builtin (b := .append) (xs := #[.tmp 56, .tmp 58]) rfl ?_); at_builtin; refine Kd.R_append (Kd.int .i64) (w0 := w) w.heap.size rfl (.tmp 56) (.tmp 58) 38 3 (.int .i64 0) 8 rfl Tryd.underlying38 info3 rfl (by decide) (by omega) u9 x9_3 x34_3 [.int .i64 x34_3] (fun k_ => (w.heap.size ≤ k_)) (fun _ => False) rfl (by first | (go_simp; done) | (go_simp; rfl)) ?aP (fun _ hk => hk.elim) ?aF ?aO ?aB ?aS ?aL ?_; (case aP => exact rfl); (case aB => exact (TB2 GE113.out GE120.out)); (case aF => exact (fun k_ hk => (Nat.le_trans (below_size (TB2 GE113.out GE120.out)) hk))); (case aO => exact (by (with_reducible repeat (first | apply Kd.R_alloc | apply Kd.R_drewN | apply Kd.R_drew)); exact Kd.R_mono (Kd.R_far (p := ⟨gb120, 2, none⟩) (Kd.R_far (p := ⟨gb120, 1, none⟩) (Kd.R_far (p := ⟨gb120, 0, none⟩) (Kd.R_types HO_9.out BK120.out (by decide)) (fun _ hk => hk.2) (.int .i64 ((rd_T57 l0_0 x34_3).f0.f0))) (fun _ hk => hk.2) (.int .i64 ((rd_T57 l0_0 x34_3).f0.f1))) (fun _ hk => hk.2) (.int .i64 ((rd_T57 l0_0 x34_3).f1))) (fun _ hk => hk.1))); (case aS => exact (below_size (TB2 GE113.out GE120.out))); (case aL => have := LMc26.out; omega); intro v125 w30 ho hb hg hat; rw [← Ny124.out] at ho; have HO126 := Aside0.mk (ho); replace HO_7 := Aside0.mk (Kd.N_afterv (ok := (fun k_ => (w.heap.size ≤ k_) ∧ k_ ≠ gb113 ∧ k_ ≠ gb120)) (by (with_reducible repeat (first | apply Kd.N_alloc | apply Kd.N_drewN | apply Kd.N_drew)); exact Kd.N_mono (Kd.N_far (p := ⟨gb120, 2, none⟩) (Kd.N_far (p := ⟨gb120, 1, none⟩) (Kd.N_far (p := ⟨gb120, 0, none⟩) (Kd.N_mono HO_7.out (fun k_ hk => (⟨hk, hk.2⟩ : _ ∧ k_ ≠ gb120))) (fun _ hk => hk.2) (.int .i64 ((rd_T57 l0_0 x34_3).f0.f0))) (fun _ hk => hk.2) (.int .i64 ((rd_T57 l0_0 x34_3).f0.f1))) (fun _ hk => hk.2) (.int .i64 ((rd_T57 l0_0 x34_3).f1))) (fun _ hk => ⟨⟨hk.1.1.1, ⟨hk.1.1.2.2, hk.1.2⟩⟩, hk.1.1.2.1⟩)) hg hat); replace BK113 := Aside0.mk (blk_grown (g := gb113) (o := .cells #[.slice (some ad119) l0_0.length c0_0, .int .i64 a0_1, .int .i64 a0_2, .slice A0_3 l0_3.length c0_3] 27 (0, 0)) (by (with_reducible repeat (first | refine blk_drewN ?_ _ | refine blk_drew ?_ | refine blk_alloc ?_ _)); refine blk_far ?_ NB113_120.out _; (with_reducible repeat (first | refine blk_drewN ?_ _ | refine blk_drew ?_ | refine blk_alloc ?_ _)); refine blk_far ?_ NB113_120.out _; (with_reducible repeat (first | refine blk_drewN ?_ _ | refine blk_drew ?_ | refine blk_alloc ?_ _)); refine blk_far ?_ NB113_120.out _; (with_reducible repeat (first | refine blk_drewN ?_ _ | refine blk_drew ?_ | refine blk_alloc ?_ _)); exact BK113.out) hg (Kd.R_ne HO_9.out BK113.out (by decide))); replace BK120 := Aside0.mk (blk_grown (g := gb120) (o := .cells #[.int .i64 ((rd_T57 l0_0 x34_3).f0.f0), .int .i64 ((rd_T57 l0_0 x34_3).f0.f1), .int .i64 ((rd_T57 l0_0 x34_3).f1)] 57 (0, 0)) (by (with_reducible repeat (first | refine blk_drewN ?_ _ | refine blk_drew ?_ | refine blk_alloc ?_ _)); refine blk_put (cs := #[.int .i64 ((rd_T57 l0_0 x34_3).f0.f0), .int .i64 ((rd_T57 l0_0 x34_3).f0.f1), .int .i64 0]) ?_ 2 _ rfl; (with_reducible repeat (first | refine blk_drewN ?_ _ | refine blk_drew ?_ | refine blk_alloc ?_ _)); refine blk_put (cs := #[.int .i64 ((rd_T57 l0_0 x34_3).f0.f0), .int .i64 0, .int .i64 0]) ?_ 1 _ rfl; (with_reducible repeat (first | refine blk_drewN ?_ _ | refine blk_drew ?_ | refine blk_alloc ?_ _)); refine blk_put (cs := #[.int .i64 0, .int .i64 0, .int .i64 0]) ?_ 0 _ rfl; (with_reducible repeat (first | refine blk_drewN ?_ _ | refine blk_drew ?_ | refine blk_alloc ?_ _)); exact BK120.out) hg (Kd.R_ne HO_9.out BK120.out (by decide))); replace HB := Aside0.mk (hb); clear HO_9; clear ho hb hg hat)))
                   go_roundg k3
                   case measure => have := HJ4.out; have := HK2.out; have := HK3.out; omega
                   case rel => exact ⟨(y124), (wrap64 (x34_3 + 1)), TT, H', ⟨by have := HJ4.out; have := HK2.out; have := HK3.out; omega⟩, ⟨by (with_reducible repeat (first | apply Kd.N_alloc | apply Kd.N_drewN | apply Kd.N_drew)); exact Kd.N_mono HO_7.out (fun _ hk => ⟨hk.1.1, ⟨hk.2, hk.1.2.1⟩⟩)⟩, ⟨by (with_reducible repeat (first | apply Kd.R_alloc | apply Kd.R_drewN | apply Kd.R_drew)); exact HO126.out⟩, ⟨TK BK113.out⟩, ⟨TB2 GE113.out GE120.out⟩⟩
                  ·rw [if_neg c26] at H
                   exact absurd H (by simp)
                 ·replace c25 := Bool.eq_false_iff.mpr c25
                  subst c25
                  have H1 : (rasp_Told.l1 k3 l1 x7_2 x28_2 x9_3 (wrap64 ((l1.length : Int) - 1)) x28_2 l0_0 (l0_0.length : Int) (wrap64 (x34_3 + 1)) l0_0 a0_1 a0_2 l0_3) = some (r1, r2) := by rw [if_neg (show ¬ (false = true) by decide)] at H; exact H
                  clear H
                  have H := H1
                  clear H1
                  have H' := Aside0.mk H
                  clear H
                  have p119 : 0 ≤ (x34_3 : Int) := of_decide_eq_true TA
                  have q119 : x34_3 < (l0_0.length : Int) := of_decide_eq_true TA
                  obtain ⟨ad119, e119, hx119_0, hx119_1, hx119_2⟩ := at_T57 HR0_0.out x34_3 p119 q119
                  cases e119
                  replace hx119_0 := hx HB.out hx119_0
                  replace hx119_1 := hx HB.out hx119_1
                  replace hx119_2 := hx HB.out hx119_2
                  replace p119 := eq_true p119
                  replace q119 := eq_true q119
                  go_wp2_with (first | ((with_reducible refine gate_dst (N := 11) rfl ?_); refine box_event ?hg (N := 11) ?hd (cs := #[.int .i64 0, .int .i64 0, .int .i64 0]) (t := 57) ?hr ?_; (case hd => rfl); (case hg => rfl); (case hr => exact TS); intro gb120 hg w31 hbox hb; have BK120 := Aside0.mk (hbox); have GW120 := Aside0.mk ((TG1 GE113.out : w.heap.size ≤ gb120)); have GE120 := Aside0.mk ((TG1 GE113.out : w.heap.size ≤ gb120)); have NB113_120 := Aside0.mk ((by rw [hg]; exact Nat.ne_of_lt (blk_lt (g := gb113) (o := .cells #[.slice (some ad119) l0_0.length c0_0, .int .i64 a0_1, .int .i64 a0_2, .slice A0_3 l0_3.length c0_3] 27 (0, 0)) (TK BK113.out)) : gb113 ≠ gb120)); have NB120_113 := Aside0.mk ((by rw [hg]; exact Nat.ne_of_gt (blk_lt (g := gb113) (o := .cells #[.slice (some ad119) l0_0.length c0_0, .int .i64 a0_1, .int .i64 a0_2, .slice A0_3 l0_3.length c0_3] 27 (0, 0)) (TK BK113.out)) : gb120 ≠ gb113)); replace HO_7 := Aside0.mk (Kd.N_below (Kd.N_elderB (TNo HO_7.out) gb120 (Nat.le_of_eq hg.symm)) hb); replace HO_9 := Aside0.mk (Kd.R_below (TRo HO_9.out) hb); replace BK113 := Aside0.mk (TKb hb BK113.out); replace HB := Aside0.mk (below_step (TB1 GE113.out) hb); clear hb hbox hg; have hnb32 := NB120_113.out; have hnc32 := NB113_120.out; have hcz33_0 := cz BK120.out 0; have hcz33_1 := cz BK120.out 1; have hcz33_2 := cz BK120.out 2; have hfz33_0 := fz BK120.out 0; have hfz33_1 := fz BK120.out 1; have hfz33_2 := fz BK120.out 2; have p121 : 0 ≤ ((ji19) : Int) := of_decide_eq_true TA; have q121 : (ji19) < (l1.length : Int) := of_decide_eq_true TA; obtain ⟨ad121, e121, hx121_0⟩ := Kd.at_int HR1.out (ji19) p121 q121; cases e121; have hn121_0 : ad121.block ≠ gb120 := Nat.ne_of_lt (Nat.lt_of_lt_of_le (TL hx121_0) GW120.out); have hn121_1 : ad121.block ≠ gb120 := Nat.ne_of_lt (Nat.lt_of_lt_of_le (TL hx121_0) GW120.out); have hn121_2 : ad121.block ≠ gb120 := Nat.ne_of_lt (Nat.lt_of_lt_of_le (TL hx121_0) GW120.out); replace hx121_0 := hx HB.out hx121_0; replace hx121_0 := (cell_far (p := ⟨gb120, 0, none⟩) (TF hn121_0) (.int .i64 ((rd_T57 l0_0 x34_3).f0.f0))).trans hx121_0; replace hx121_0 := (cell_far (p := ⟨gb120, 1, none⟩) (TF hn121_1) (.int .i64 ((rd_T57 l0_0 x34_3).f0.f1))).trans hx121_0; replace hx121_0 := (cell_far (p := ⟨gb120, 2, none⟩) (TF hn121_2) (.int .i64 ((rd_T57 l0_0 x34_3).f1))).trans hx121_0; (try have hy121_0 := fun (n_ : Nat) => (show (((((w31.drewN n_).setCell ⟨gb120, 0, none⟩ (.int .i64 ((rd_T57 l0_0 x34_3).f0.f0))).setCell ⟨gb120, 1, none⟩ (.int .i64 ((rd_T57 l0_0 x34_3).f0.f1))).setCell ⟨gb120, 2, none⟩ (.int .i64 ((rd_T57 l0_0 x34_3).f1)))).cell? _ = some _ from hx121_0)); clear hn121_0; clear hn121_1; clear hn121_2; replace p121 := eq_true p121; replace q121 := eq_true q121; have p122 : 0 ≤ (x28_2 : Int) := of_decide_eq_true TA; have q122 : x28_2 < (l1.length : Int) := of_decide_eq_true TA; obtain ⟨ad122, e122, hx122_0⟩ := Kd.at_int HR1.out x28_2 p122 q122; obtain rfl : ad121 = ad122 := (by injection e122); have hn122_0 : ad121.block ≠ gb120 := Nat.ne_of_lt (Nat.lt_of_lt_of_le (TL hx122_0) GW120.out); have hn122_1 : ad121.block ≠ gb120 := Nat.ne_of_lt (Nat.lt_of_lt_of_le (TL hx122_0) GW120.out); have hn122_2 : ad121.block ≠ gb120 := Nat.ne_of_lt (Nat.lt_of_lt_of_le (TL hx122_0) GW120.out); replace hx122_0 := hx HB.out hx122_0; replace hx122_0 := (cell_far (p := ⟨gb120, 0, none⟩) (TF hn122_0) (.int .i64 ((rd_T57 l0_0 x34_3).f0.f0))).trans hx122_0; replace hx122_0 := (cell_far (p := ⟨gb120, 1, none⟩) (TF hn122_1) (.int .i64 ((rd_T57 l0_0 x34_3).f0.f1))).trans hx122_0; replace hx122_0 := (cell_far (p := ⟨gb120, 2, none⟩) (TF hn122_2) (.int .i64 ((rd_T57 l0_0 x34_3).f1))).trans hx122_0; (try have hy122_0 := fun (n_ : Nat) => (show (((((w31.drewN n_).setCell ⟨gb120, 0, none⟩ (.int .i64 ((rd_T57 l0_0 x34_3).f0.f0))).setCell ⟨gb120, 1, none⟩ (.int .i64 ((rd_T57 l0_0 x34_3).f0.f1))).setCell ⟨gb120, 2, none⟩ (.int .i64 ((rd_T57 l0_0 x34_3).f1)))).cell? _ = some _ from hx122_0)); clear hn122_0; clear hn122_1; clear hn122_2; replace p122 := eq_true p122; replace q122 := eq_true q122) | (go_at_call 58; (with_reducible refine (rasp_lies.calls (wrap64 ((rd l1 (ji19)) - (rd l1 x28_2))) ((rd_T57 l0_0 x34_3).f0.f0) ((rd_T57 l0_0 x34_3).f0.f1) false _ A24.out).mono ?_); rintro e w' ⟨rfl, ⟨nd, rfl⟩⟩; (try first | exact ⟨rfl, _, World.drewN_drewN _ _ _⟩ | exact ⟨rfl, _, Eq.trans (World.drewN_drewN _ _ _) (congrArg (World.drewN _) (Nat.add_assoc _ _ _))⟩)))
                  repeat (go_quiet (first | ((with_reducible refine gate_dst (N := 11) rfl ?_); refine box_event ?hg (N := 11) ?hd (cs := #[.int .i64 0, .int .i64 0, .int .i64 0]) (t := 57) ?hr ?_; (case hd => rfl); (case hg => rfl); (case hr => exact TS); intro gb120 hg w31 hbox hb; have BK120 := Aside0.mk (hbox); have GW120 := Aside0.mk ((TG1 GE113.out : w.heap.size ≤ gb120)); have GE120 := Aside0.mk ((TG1 GE113.out : w.heap.size ≤ gb120)); have NB113_120 := Aside0.mk ((by rw [hg]; exact Nat.ne_of_lt (blk_lt (g := gb113) (o := .cells #[.slice (some ad119) l0_0.length c0_0, .int .i64 a0_1, .int .i64 a0_2, .slice A0_3 l0_3.length c0_3] 27 (0, 0)) (TK BK113.out)) : gb113 ≠ gb120)); have NB120_113 := Aside0.mk ((by rw [hg]; exact Nat.ne_of_gt (blk_lt (g := gb113) (o := .cells #[.slice (some ad119) l0_0.length c0_0, .int .i64 a0_1, .int .i64 a0_2, .slice A0_3 l0_3.length c0_3] 27 (0, 0)) (TK BK113.out)) : gb120 ≠ gb113)); replace HO_7 := Aside0.mk (Kd.N_below (Kd.N_elderB (TNo HO_7.out) gb120 (Nat.le_of_eq hg.symm)) hb); replace HO_9 := Aside0.mk (Kd.R_below (TRo HO_9.out) hb); replace BK113 := Aside0.mk (TKb hb BK113.out); replace HB := Aside0.mk (below_step (TB1 GE113.out) hb); clear hb hbox hg; have hnb32 := NB120_113.out; have hnc32 := NB113_120.out; have hcz33_0 := cz BK120.out 0; have hcz33_1 := cz BK120.out 1; have hcz33_2 := cz BK120.out 2; have hfz33_0 := fz BK120.out 0; have hfz33_1 := fz BK120.out 1; have hfz33_2 := fz BK120.out 2; have p121 : 0 ≤ ((ji19) : Int) := of_decide_eq_true TA; have q121 : (ji19) < (l1.length : Int) := of_decide_eq_true TA; obtain ⟨ad121, e121, hx121_0⟩ := Kd.at_int HR1.out (ji19) p121 q121; cases e121; have hn121_0 : ad121.block ≠ gb120 := Nat.ne_of_lt (Nat.lt_of_lt_of_le (TL hx121_0) GW120.out); have hn121_1 : ad121.block ≠ gb120 := Nat.ne_of_lt (Nat.lt_of_lt_of_le (TL hx121_0) GW120.out); have hn121_2 : ad121.block ≠ gb120 := Nat.ne_of_lt (Nat.lt_of_lt_of_le (TL hx121_0) GW120.out); replace hx121_0 := hx HB.out hx121_0; replace hx121_0 := (cell_far (p := ⟨gb120, 0, none⟩) (TF hn121_0) (.int .i64 ((rd_T57 l0_0 x34_3).f0.f0))).trans hx121_0; replace hx121_0 := (cell_far (p := ⟨gb120, 1, none⟩) (TF hn121_1) (.int .i64 ((rd_T57 l0_0 x34_3).f0.f1))).trans hx121_0; replace hx121_0 := (cell_far (p := ⟨gb120, 2, none⟩) (TF hn121_2) (.int .i64 ((rd_T57 l0_0 x34_3).f1))).trans hx121_0; (try have hy121_0 := fun (n_ : Nat) => (show (((((w31.drewN n_).setCell ⟨gb120, 0, none⟩ (.int .i64 ((rd_T57 l0_0 x34_3).f0.f0))).setCell ⟨gb120, 1, none⟩ (.int .i64 ((rd_T57 l0_0 x34_3).f0.f1))).setCell ⟨gb120, 2, none⟩ (.int .i64 ((rd_T57 l0_0 x34_3).f1)))).cell? _ = some _ from hx121_0)); clear hn121_0; clear hn121_1; clear hn121_2; replace p121 := eq_true p121; replace q121 := eq_true q121; have p122 : 0 ≤ (x28_2 : Int) := of_decide_eq_true TA; have q122 : x28_2 < (l1.length : Int) := of_decide_eq_true TA; obtain ⟨ad122, e122, hx122_0⟩ := Kd.at_int HR1.out x28_2 p122 q122; obtain rfl : ad121 = ad122 := (by injection e122); have hn122_0 : ad121.block ≠ gb120 := Nat.ne_of_lt (Nat.lt_of_lt_of_le (TL hx122_0) GW120.out); have hn122_1 : ad121.block ≠ gb120 := Nat.ne_of_lt (Nat.lt_of_lt_of_le (TL hx122_0) GW120.out); have hn122_2 : ad121.block ≠ gb120 := Nat.ne_of_lt (Nat.lt_of_lt_of_le (TL hx122_0) GW120.out); replace hx122_0 := hx HB.out hx122_0; replace hx122_0 := (cell_far (p := ⟨gb120, 0, none⟩) (TF hn122_0) (.int .i64 ((rd_T57 l0_0 x34_3).f0.f0))).trans hx122_0; replace hx122_0 := (cell_far (p := ⟨gb120, 1, none⟩) (TF hn122_1) (.int .i64 ((rd_T57 l0_0 x34_3).f0.f1))).trans hx122_0; replace hx122_0 := (cell_far (p := ⟨gb120, 2, none⟩) (TF hn122_2) (.int .i64 ((rd_T57 l0_0 x34_3).f1))).trans hx122_0; (try have hy122_0 := fun (n_ : Nat) => (show (((((w31.drewN n_).setCell ⟨gb120, 0, none⟩ (.int .i64 ((rd_T57 l0_0 x34_3).f0.f0))).setCell ⟨gb120, 1, none⟩ (.int .i64 ((rd_T57 l0_0 x34_3).f0.f1))).setCell ⟨gb120, 2, none⟩ (.int .i64 ((rd_T57 l0_0 x34_3).f1)))).cell? _ = some _ from hx122_0)); clear hn122_0; clear hn122_1; clear hn122_2; replace p122 := eq_true p122; replace q122 := eq_true q122) | (go_at_call 58; (with_reducible refine (rasp_lies.calls (wrap64 ((rd l1 (ji19)) - (rd l1 x28_2))) ((rd_T57 l0_0 x34_3).f0.f0) ((rd_T57 l0_0 x34_3).f0.f1) false _ A24.out).mono ?_); rintro e w' ⟨rfl, ⟨nd, rfl⟩⟩; (try first | exact ⟨rfl, _, World.drewN_drewN _ _ _⟩ | exact ⟨rfl, _, Eq.trans (World.drewN_drewN _ _ _) (congrArg (World.drewN _) (Nat.add_assoc _ _ _))⟩))); try go_wp2_with (first | ((with_reducible refine gate_dst (N := 11) rfl ?_); refine box_event ?hg (N := 11) ?hd (cs := #[.int .i64 0, .int .i64 0, .int .i64 0]) (t := 57) ?hr ?_; (case hd => rfl); (case hg => rfl); (case hr => exact TS); intro gb120 hg w31 hbox hb; have BK120 := Aside0.mk (hbox); have GW120 := Aside0.mk ((TG1 GE113.out : w.heap.size ≤ gb120)); have GE120 := Aside0.mk ((TG1 GE113.out : w.heap.size ≤ gb120)); have NB113_120 := Aside0.mk ((by rw [hg]; exact Nat.ne_of_lt (blk_lt (g := gb113) (o := .cells #[.slice (some ad119) l0_0.length c0_0, .int .i64 a0_1, .int .i64 a0_2, .slice A0_3 l0_3.length c0_3] 27 (0, 0)) (TK BK113.out)) : gb113 ≠ gb120)); have NB120_113 := Aside0.mk ((by rw [hg]; exact Nat.ne_of_gt (blk_lt (g := gb113) (o := .cells #[.slice (some ad119) l0_0.length c0_0, .int .i64 a0_1, .int .i64 a0_2, .slice A0_3 l0_3.length c0_3] 27 (0, 0)) (TK BK113.out)) : gb120 ≠ gb113)); replace HO_7 := Aside0.mk (Kd.N_below (Kd.N_elderB (TNo HO_7.out) gb120 (Nat.le_of_eq hg.symm)) hb); replace HO_9 := Aside0.mk (Kd.R_below (TRo HO_9.out) hb); replace BK113 := Aside0.mk (TKb hb BK113.out); replace HB := Aside0.mk (below_step (TB1 GE113.out) hb); clear hb hbox hg; have hnb32 := NB120_113.out; have hnc32 := NB113_120.out; have hcz33_0 := cz BK120.out 0; have hcz33_1 := cz BK120.out 1; have hcz33_2 := cz BK120.out 2; have hfz33_0 := fz BK120.out 0; have hfz33_1 := fz BK120.out 1; have hfz33_2 := fz BK120.out 2; have p121 : 0 ≤ ((ji19) : Int) := of_decide_eq_true TA; have q121 : (ji19) < (l1.length : Int) := of_decide_eq_true TA; obtain ⟨ad121, e121, hx121_0⟩ := Kd.at_int HR1.out (ji19) p121 q121; cases e121; have hn121_0 : ad121.block ≠ gb120 := Nat.ne_of_lt (Nat.lt_of_lt_of_le (TL hx121_0) GW120.out); have hn121_1 : ad121.block ≠ gb120 := Nat.ne_of_lt (Nat.lt_of_lt_of_le (TL hx121_0) GW120.out); have hn121_2 : ad121.block ≠ gb120 := Nat.ne_of_lt (Nat.lt_of_lt_of_le (TL hx121_0) GW120.out); replace hx121_0 := hx HB.out hx121_0; replace hx121_0 := (cell_far (p := ⟨gb120, 0, none⟩) (TF hn121_0) (.int .i64 ((rd_T57 l0_0 x34_3).f0.f0))).trans hx121_0; replace hx121_0 := (cell_far (p := ⟨gb120, 1, none⟩) (TF hn121_1) (.int .i64 ((rd_T57 l0_0 x34_3).f0.f1))).trans hx121_0; replace hx121_0 := (cell_far (p := ⟨gb120, 2, none⟩) (TF hn121_2) (.int .i64 ((rd_T57 l0_0 x34_3).f1))).trans hx121_0; (try have hy121_0 := fun (n_ : Nat) => (show (((((w31.drewN n_).setCell ⟨gb120, 0, none⟩ (.int .i64 ((rd_T57 l0_0 x34_3).f0.f0))).setCell ⟨gb120, 1, none⟩ (.int .i64 ((rd_T57 l0_0 x34_3).f0.f1))).setCell ⟨gb120, 2, none⟩ (.int .i64 ((rd_T57 l0_0 x34_3).f1)))).cell? _ = some _ from hx121_0)); clear hn121_0; clear hn121_1; clear hn121_2; replace p121 := eq_true p121; replace q121 := eq_true q121; have p122 : 0 ≤ (x28_2 : Int) := of_decide_eq_true TA; have q122 : x28_2 < (l1.length : Int) := of_decide_eq_true TA; obtain ⟨ad122, e122, hx122_0⟩ := Kd.at_int HR1.out x28_2 p122 q122; obtain rfl : ad121 = ad122 := (by injection e122); have hn122_0 : ad121.block ≠ gb120 := Nat.ne_of_lt (Nat.lt_of_lt_of_le (TL hx122_0) GW120.out); have hn122_1 : ad121.block ≠ gb120 := Nat.ne_of_lt (Nat.lt_of_lt_of_le (TL hx122_0) GW120.out); have hn122_2 : ad121.block ≠ gb120 := Nat.ne_of_lt (Nat.lt_of_lt_of_le (TL hx122_0) GW120.out); replace hx122_0 := hx HB.out hx122_0; replace hx122_0 := (cell_far (p := ⟨gb120, 0, none⟩) (TF hn122_0) (.int .i64 ((rd_T57 l0_0 x34_3).f0.f0))).trans hx122_0; replace hx122_0 := (cell_far (p := ⟨gb120, 1, none⟩) (TF hn122_1) (.int .i64 ((rd_T57 l0_0 x34_3).f0.f1))).trans hx122_0; replace hx122_0 := (cell_far (p := ⟨gb120, 2, none⟩) (TF hn122_2) (.int .i64 ((rd_T57 l0_0 x34_3).f1))).trans hx122_0; (try have hy122_0 := fun (n_ : Nat) => (show (((((w31.drewN n_).setCell ⟨gb120, 0, none⟩ (.int .i64 ((rd_T57 l0_0 x34_3).f0.f0))).setCell ⟨gb120, 1, none⟩ (.int .i64 ((rd_T57 l0_0 x34_3).f0.f1))).setCell ⟨gb120, 2, none⟩ (.int .i64 ((rd_T57 l0_0 x34_3).f1)))).cell? _ = some _ from hx122_0)); clear hn122_0; clear hn122_1; clear hn122_2; replace p122 := eq_true p122; replace q122 := eq_true q122) | (go_at_call 58; (with_reducible refine (rasp_lies.calls (wrap64 ((rd l1 (ji19)) - (rd l1 x28_2))) ((rd_T57 l0_0 x34_3).f0.f0) ((rd_T57 l0_0 x34_3).f0.f1) false _ A24.out).mono ?_); rintro e w' ⟨rfl, ⟨nd, rfl⟩⟩; (try first | exact ⟨rfl, _, World.drewN_drewN _ _ _⟩ | exact ⟨rfl, _, Eq.trans (World.drewN_drewN _ _ _) (congrArg (World.drewN _) (Nat.add_assoc _ _ _))⟩))))
                  go_roundg k3
                  case measure => have := HJ4.out; have := HK2.out; have := HK3.out; omega
                  case rel => exact ⟨(x9_3), (wrap64 (x34_3 + 1)), TT, H', ⟨by have := HJ4.out; have := HK2.out; have := HK3.out; omega⟩, ⟨by (with_reducible repeat (first | apply Kd.N_alloc | apply Kd.N_drewN | apply Kd.N_drew)); exact Kd.N_mono (Kd.N_far (p := ⟨gb120, 2, none⟩) (Kd.N_far (p := ⟨gb120, 1, none⟩) (Kd.N_far (p := ⟨gb120, 0, none⟩) (Kd.N_mono HO_7.out (fun k_ hk => (⟨hk, hk.2⟩ : _ ∧ k_ ≠ gb120))) (fun _ hk => hk.2) (.int .i64 ((rd_T57 l0_0 x34_3).f0.f0))) (fun _ hk => hk.2) (.int .i64 ((rd_T57 l0_0 x34_3).f0.f1))) (fun _ hk => hk.2) (.int .i64 ((rd_T57 l0_0 x34_3).f1))) (fun _ hk => ⟨hk.1.1.1, ⟨hk.1.1.2.1, hk.1.1.2.2⟩⟩)⟩, ⟨by (with_reducible repeat (first | apply Kd.R_alloc | apply Kd.R_drewN | apply Kd.R_drew)); exact Kd.R_mono (Kd.R_far (p := ⟨gb120, 2, none⟩) (Kd.R_far (p := ⟨gb120, 1, none⟩) (Kd.R_far (p := ⟨gb120, 0, none⟩) (Kd.R_types HO_9.out BK120.out (by decide)) (fun _ hk => hk.2) (.int .i64 ((rd_T57 l0_0 x34_3).f0.f0))) (fun _ hk => hk.2) (.int .i64 ((rd_T57 l0_0 x34_3).f0.f1))) (fun _ hk => hk.2) (.int .i64 ((rd_T57 l0_0 x34_3).f1))) (fun _ hk => hk.1)⟩, ⟨by (with_reducible repeat (first | refine blk_drewN ?_ _ | refine blk_drew ?_ | refine blk_alloc ?_ _)); refine blk_far ?_ NB113_120.out _; (with_reducible repeat (first | refine blk_drewN ?_ _ | refine blk_drew ?_ | refine blk_alloc ?_ _)); refine blk_far ?_ NB113_120.out _; (with_reducible repeat (first | refine blk_drewN ?_ _ | refine blk_drew ?_ | refine blk_alloc ?_ _)); refine blk_far ?_ NB113_120.out _; (with_reducible repeat (first | refine blk_drewN ?_ _ | refine blk_drew ?_ | refine blk_alloc ?_ _)); exact BK113.out⟩, ⟨TB2 GE113.out GE120.out⟩⟩
                ·rw [if_neg c23] at H
                 exact absurd H (by simp)
               ·rw [if_neg c22] at H
                exact absurd H (by simp)
              ·rw [if_neg c21] at H
               exact absurd H (by simp)
             ·rw [if_neg c20] at H
              exact absurd H (by simp)
            ·rw [if_neg c18] at H
             exact absurd H (by simp)
           ·rw [if_neg c17] at H
            exact absurd H (by simp)
          ·rw [if_neg c16] at H
           have c16b0 : decide (x34_3 < (l0_0.length : Int)) = false := decide_eq_false c16
           clear c16
           by_cases c34 : (x9_3.length : Int) = 0
           ·rw [if_pos c34] at H
            have c34b0 : ((x9_3.length : Int) == 0) = true := beq_iff_eq.mpr c34
            have c34b1 : ((x9_3.length : Int) != 0) = false := bne_eq_false_iff_eq.mpr c34
            clear c34
            simp only [Option.some.injEq, Prod.mk.injEq] at H
            obtain ⟨rfl, rfl⟩ := H
            obtain ⟨Ao35, co35, eo35⟩ := Kd.R_slice HO_9.out
            subst eo35
            go_wp2
            repeat (go_quiet (fail); try go_wp2)
            go_ret2
            exact ⟨_, TR, Kd.V_nil _ _ _ _ _, TB1 GE113.out⟩
           ·rw [if_neg c34] at H
            have c34b0 : ((x9_3.length : Int) == 0) = false := beq_eq_false_iff_ne.mpr c34
            have c34b1 : ((x9_3.length : Int) != 0) = true := bne_iff_ne.mpr c34
            have c34b2 : ¬ (x9_3 = []) := fun h_ => c34 (by rw [h_]; rfl)
            by_cases c36 : x7_2.length < 5864062014805
            ·rw [if_pos c36] at H
             have LMc36 := Aside0.mk c36
             clear c36
             obtain ⟨y129, hy129⟩ : ∃ y_ : List (List Int), y_ = (x7_2 ++ [x9_3]) := ⟨_, rfl⟩
             replace H : (rasp_Told.l0 k3 l1 y129 (wrap64 ((l1.length : Int) - 1)) (wrap64 (x28_2 + 1)) l0_0 a0_1 a0_2 l0_3) = some (r1, r2) := by first | (rw [hy129]; with_reducible exact H) | (have H2_ := (Option.bind_some _ _).symm.trans H; rw [hy129]; with_reducible exact H2_) | (have H2_ := (Option.bind_some _ _).symm.trans H; with_reducible exact H2_) | with_reducible exact H | (rw [hy129]; exact H) | exact H
             have Ny129 := Aside0.mk hy129
             clear hy129
             have H' := Aside0.mk H
             clear H
             obtain ⟨Ao37, co37, eo37⟩ := Kd.R_slice HO_9.out
             subst eo37
             obtain ⟨i038, hi038, _, hsz38, _⟩ := info_parts info3
             have hcut38 := cut_max (P := Tryd.prog) 38 3 Tryd.underlying38 hi038 Ao37 x9_3.length co37 (V_cap (Kd.R_V (base' := w.heap.size) (Kd.R_types (Kd.R_apart' (HO_9.out) (Kd.N_typed HO_7.out) (by decide)) BK113.out (by decide))))
             have hr38 := (V_cut' (Kd.R_V (base' := w.heap.size) (Kd.R_types (Kd.R_apart' (HO_9.out) (Kd.N_typed HO_7.out) (by decide)) BK113.out (by decide))))
             clear hi038 hsz38 HO_9
             have HO128 := Aside0.mk hr38
             clear hr38
             go_wp2_with (first | ((with_reducible refine gate_builtin (b := .append) (xs := #[.tmp 64, .tmp 71]) rfl ?_); at_builtin; refine Kd.N_append (Kd.slice 3 (Kd.int .i64)) (w0 := w) w.heap.size rfl (.tmp 64) (.tmp 71) 46 38 (.slice none 0 0) 24 rfl Tryd.underlying46 info38 rfl (by decide) (by omega) u7 x7_2 x9_3 [.slice Ao37 x9_3.length x9_3.length] (fun k_ => (w.heap.size ≤ k_) ∧ k_ ≠ gb113) (fun k_ => ((fun k_ => (w.heap.size ≤ k_) ∧ k_ ≠ gb113)) k_ ∧ some k_ ≠ (u7 : Value).ownBlock) rfl rfl ?aP (fun _ hk => hk) ?aF ?aO ?aB ?aS ?aL ?_; (case aP => exact (Kd.FK_slice_mk (Kd.V_reads' (Kd.V_mono (ok' := (fun k_ => ((fun k_ => (w.heap.size ≤ k_) ∧ k_ ≠ gb113)) k_ ∧ some k_ ≠ (u7 : Value).ownBlock)) (HO128.out) (fun k_ hk => ⟨⟨hk.1.1, hk.2⟩, hk.1.2⟩))).2.1 (Kd.V_F (Kd.V_mono (ok' := (fun k_ => ((fun k_ => (w.heap.size ≤ k_) ∧ k_ ≠ gb113)) k_ ∧ some k_ ≠ (u7 : Value).ownBlock)) (HO128.out) (fun k_ hk => ⟨⟨hk.1.1, hk.2⟩, hk.1.2⟩))))); (case aB => exact (TB1 GE113.out)); (case aF => exact (fun k_ hk => ⟨(Nat.le_trans (below_size (TB1 GE113.out)) hk), Kd.freshB (g := gb113) (o := .cells #[.slice A0_0 l0_0.length c0_0, .int .i64 a0_1, .int .i64 a0_2, .slice A0_3 l0_3.length c0_3] 27 (0, 0)) (TK BK113.out) k_ hk⟩)); (case aO => exact (by (with_reducible repeat (first | apply Kd.N_alloc | apply Kd.N_drewN | apply Kd.N_drew)); exact Kd.N_mono HO_7.out (fun _ hk => ⟨hk.1, hk.2.2⟩))); (case aS => exact (below_size (TB1 GE113.out))); (case aL => have := LMc36.out; omega); intro v130 w39 ho hb hg hat; rw [← Ny129.out] at ho; have HO131 := Aside0.mk (ho); replace HO128 := Aside0.mk (Kd.V_afterv (ok := (fun k_ => (w.heap.size ≤ k_) ∧ k_ ≠ gb113)) (by (with_reducible repeat (first | apply Kd.V_alloc | apply Kd.V_drewN | apply Kd.V_drew)); exact Kd.V_mono HO128.out (fun _ hk => ⟨⟨hk.1.1, hk.2⟩, hk.1.2⟩)) hg hat); replace BK113 := Aside0.mk (blk_grown (g := gb113) (o := .cells #[.slice A0_0 l0_0.length c0_0, .int .i64 a0_1, .int .i64 a0_2, .slice A0_3 l0_3.length c0_3] 27 (0, 0)) (TK BK113.out) hg (Kd.N_ne HO_7.out BK113.out (by decide))); replace HB := Aside0.mk (hb); clear HO_7; clear ho hb hg hat))
             repeat (go_quiet (first | ((with_reducible refine gate_builtin (b := .append) (xs := #[.tmp 64, .tmp 71]) rfl ?_); at_builtin; refine Kd.N_append (Kd.slice 3 (Kd.int .i64)) (w0 := w) w.heap.size rfl (.tmp 64) (.tmp 71) 46 38 (.slice none 0 0) 24 rfl Tryd.underlying46 info38 rfl (by decide) (by omega) u7 x7_2 x9_3 [.slice Ao37 x9_3.length x9_3.length] (fun k_ => (w.heap.size ≤ k_) ∧ k_ ≠ gb113) (fun k_ => ((fun k_ => (w.heap.size ≤ k_) ∧ k_ ≠ gb113)) k_ ∧ some k_ ≠ (u7 : Value).ownBlock) rfl rfl ?aP (fun _ hk => hk) ?aF ?aO ?aB ?aS ?aL ?_; (case aP => exact (Kd.FK_slice_mk (Kd.V_reads' (Kd.V_mono (ok' := (fun k_ => ((fun k_ => (w.heap.size ≤ k_) ∧ k_ ≠ gb113)) k_ ∧ some k_ ≠ (u7 : Value).ownBlock)) (HO128.out) (fun k_ hk => ⟨⟨hk.1.1, hk.2⟩, hk.1.2⟩))).2.1 (Kd.V_F (Kd.V_mono (ok' := (fun k_ => ((fun k_ => (w.heap.size ≤ k_) ∧ k_ ≠ gb113)) k_ ∧ some k_ ≠ (u7 : Value).ownBlock)) (HO128.out) (fun k_ hk => ⟨⟨hk.1.1, hk.2⟩, hk.1.2⟩))))); (case aB => exact (TB1 GE113.out)); (case aF => exact (fun k_ hk => ⟨(Nat.le_trans (below_size (TB1 GE113.out)) hk), Kd.freshB (g := gb113) (o := .cells #[.slice A0_0 l0_0.length c0_0, .int .i64 a0_1, .int .i64 a0_2, .slice A0_3 l0_3.length c0_3] 27 (0, 0)) (TK BK113.out) k_ hk⟩)); (case aO => exact (by (with_reducible repeat (first | apply Kd.N_alloc | apply Kd.N_drewN | apply Kd.N_drew)); exact Kd.N_mono HO_7.out (fun _ hk => ⟨hk.1, hk.2.2⟩))); (case aS => exact (below_size (TB1 GE113.out))); (case aL => have := LMc36.out; omega); intro v130 w39 ho hb hg hat; rw [← Ny129.out] at ho; have HO131 := Aside0.mk (ho); replace HO128 := Aside0.mk (Kd.V_afterv (ok := (fun k_ => (w.heap.size ≤ k_) ∧ k_ ≠ gb113)) (by (with_reducible repeat (first | apply Kd.V_alloc | apply Kd.V_drewN | apply Kd.V_drew)); exact Kd.V_mono HO128.out (fun _ hk => ⟨⟨hk.1.1, hk.2⟩, hk.1.2⟩)) hg hat); replace BK113 := Aside0.mk (blk_grown (g := gb113) (o := .cells #[.slice A0_0 l0_0.length c0_0, .int .i64 a0_1, .int .i64 a0_2, .slice A0_3 l0_3.length c0_3] 27 (0, 0)) (TK BK113.out) hg (Kd.N_ne HO_7.out BK113.out (by decide))); replace HB := Aside0.mk (hb); clear HO_7; clear ho hb hg hat)); try go_wp2_with (first | ((with_reducible refine gate_builtin (b := .append) (xs := #[.tmp 64, .tmp 71]) rfl ?_); at_builtin; refine Kd.N_append (Kd.slice 3 (Kd.int .i64)) (w0 := w) w.heap.size rfl (.tmp 64) (.tmp 71) 46 38 (.slice none 0 0) 24 rfl Tryd.underlying46 info38 rfl (by decide) (by omega) u7 x7_2 x9_3 [.slice Ao37 x9_3.length x9_3.length] (fun k_ => (w.heap.size ≤ k_) ∧ k_ ≠ gb113) (fun k_ => ((fun k_ => (w.heap.size ≤ k_) ∧ k_ ≠ gb113)) k_ ∧ some k_ ≠ (u7 : Value).ownBlock) rfl rfl ?aP (fun _ hk => hk) ?aF ?aO ?aB ?aS ?aL ?_; (case aP => exact (Kd.FK_slice_mk (Kd.V_reads' (Kd.V_mono (ok' := (fun k_ => ((fun k_ => (w.heap.size ≤ k_) ∧ k_ ≠ gb113)) k_ ∧ some k_ ≠ (u7 : Value).ownBlock)) (HO128.out) (fun k_ hk => ⟨⟨hk.1.1, hk.2⟩, hk.1.2⟩))).2.1 (Kd.V_F (Kd.V_mono (ok' := (fun k_ => ((fun k_ => (w.heap.size ≤ k_) ∧ k_ ≠ gb113)) k_ ∧ some k_ ≠ (u7 : Value).ownBlock)) (HO128.out) (fun k_ hk => ⟨⟨hk.1.1, hk.2⟩, hk.1.2⟩))))); (case aB => exact (TB1 GE113.out)); (case aF => exact (fun k_ hk => ⟨(Nat.le_trans (below_size (TB1 GE113.out)) hk), Kd.freshB (g := gb113) (o := .cells #[.slice A0_0 l0_0.length c0_0, .int .i64 a0_1, .int .i64 a0_2, .slice A0_3 l0_3.length c0_3] 27 (0, 0)) (TK BK113.out) k_ hk⟩)); (case aO => exact (by (with_reducible repeat (first | apply Kd.N_alloc | apply Kd.N_drewN | apply Kd.N_drew)); exact Kd.N_mono HO_7.out (fun _ hk => ⟨hk.1, hk.2.2⟩))); (case aS => exact (below_size (TB1 GE113.out))); (case aL => have := LMc36.out; omega); intro v130 w39 ho hb hg hat; rw [← Ny129.out] at ho; have HO131 := Aside0.mk (ho); replace HO128 := Aside0.mk (Kd.V_afterv (ok := (fun k_ => (w.heap.size ≤ k_) ∧ k_ ≠ gb113)) (by (with_reducible repeat (first | apply Kd.V_alloc | apply Kd.V_drewN | apply Kd.V_drew)); exact Kd.V_mono HO128.out (fun _ hk => ⟨⟨hk.1.1, hk.2⟩, hk.1.2⟩)) hg hat); replace BK113 := Aside0.mk (blk_grown (g := gb113) (o := .cells #[.slice A0_0 l0_0.length c0_0, .int .i64 a0_1, .int .i64 a0_2, .slice A0_3 l0_3.length c0_3] 27 (0, 0)) (TK BK113.out) hg (Kd.N_ne HO_7.out BK113.out (by decide))); replace HB := Aside0.mk (hb); clear HO_7; clear ho hb hg hat)))
             go_roundg k3
             case measure => have := HJ4.out; have := HK2.out; have := HK3.out; omega
             case rel => exact ⟨(y129), (wrap64 (x28_2 + 1)), TT, H', ⟨by have := HJ4.out; have := HK2.out; have := HK3.out; omega⟩, ⟨by (with_reducible repeat (first | apply Kd.N_alloc | apply Kd.N_drewN | apply Kd.N_drew)); exact HO131.out⟩, ⟨TK BK113.out⟩, ⟨TB1 GE113.out⟩⟩
            ·rw [if_neg c36] at H
             exact absurd H (by simp)
       ·rw [if_neg c14] at H
        have c14b0 : decide (x28_2 < (wrap64 ((l1.length : Int) - 1))) = false := decide_eq_false c14
        clear c14
        simp only [Option.some.injEq, Prod.mk.injEq] at H
        obtain ⟨rfl, rfl⟩ := H
        obtain ⟨Ao40, co40, eo40⟩ := Kd.N_slice HO_7.out
        subst eo40
        obtain ⟨i041, hi041, _, hsz41, _⟩ := info_parts info38
        have hcut41 := cut_max (P := Tryd.prog) 46 38 Tryd.underlying46 hi041 Ao40 x7_2.length co40 (V_cap (Kd.N_V (base' := w.heap.size) (HO_7.out)))
        have hr41 := (V_cut' (Kd.N_V (base' := w.heap.size) (HO_7.out)))
        clear hi041 hsz41 HO_7
        have HO118 := Aside0.mk hr41
        clear hr41
        go_wp2
        repeat (go_quiet (fail); try go_wp2)
        go_ret2
        exact ⟨_, TR, by (with_reducible repeat (first | apply Kd.V_alloc | apply Kd.V_drewN | apply Kd.V_drew)); exact Kd.V_mono HO118.out (fun _ hk => hk.1), TB1 GE113.out⟩
 ·rw [if_neg c4] at H
  have c4b0 : (t114 == 0) = false := beq_eq_false_iff_ne.mpr c4
  have c4b1 : (t114 != 0) = true := bne_iff_ne.mpr c4
  simp only [Option.some.injEq, Prod.mk.injEq] at H
  obtain ⟨rfl, rfl⟩ := H
  go_enter Tryd.func34, Tryd.ntmps34
  go_wp2_with (first | ((with_reducible refine gate_dst (N := 2) rfl ?_); refine box_event ?hg (N := 2) ?hd (cs := #[.slice A0_0 l0_0.length c0_0, .int .i64 a0_1, .int .i64 a0_2, .slice A0_3 l0_3.length c0_3]) (t := 27) ?hr ?_; (case hd => rfl); (case hg => rfl); (case hr => exact TS); intro gb113 hg w42 hbox hb; have BK113 := Aside0.mk (hbox); have GW113 := Aside0.mk ((TG : w.heap.size ≤ gb113)); have GE113 := Aside0.mk ((TG : w.heap.size ≤ gb113)); replace HB := Aside0.mk (below_step TB hb); clear hb hbox hg; have hcz43_0 := cz BK113.out 0; have hcz43_1 := cz BK113.out 1; have hcz43_2 := cz BK113.out 2; have hcz43_3 := cz BK113.out 3; have hfz43_0 := fz BK113.out 0; have hfz43_1 := fz BK113.out 1; have hfz43_2 := fz BK113.out 2; have hfz43_3 := fz BK113.out 3) | (go_at_call 18; (with_reducible refine (rasp_Check.calls k _ _ l0_0 a0_1 a0_2 _ _ l0_3 t114 _ ?side1 ?side2 ?side3 ?side4 A3.out).mono ?_); (case side1 => exact TC HR0_0.out); (case side2 => exact HC0_0.out); (case side3 => exact TC HR0_3.out); (case side4 => exact HC0_3.out); rintro e w44 ⟨rfl, hb⟩; replace BK113 := Aside0.mk (TKb hb BK113.out); replace HB := Aside0.mk (below_step (TB1 GE113.out) hb); (try clear hb); (try clear hb2); (try clear hk); (try clear hi)))
  repeat (go_quiet (first | ((with_reducible refine gate_dst (N := 2) rfl ?_); refine box_event ?hg (N := 2) ?hd (cs := #[.slice A0_0 l0_0.length c0_0, .int .i64 a0_1, .int .i64 a0_2, .slice A0_3 l0_3.length c0_3]) (t := 27) ?hr ?_; (case hd => rfl); (case hg => rfl); (case hr => exact TS); intro gb113 hg w42 hbox hb; have BK113 := Aside0.mk (hbox); have GW113 := Aside0.mk ((TG : w.heap.size ≤ gb113)); have GE113 := Aside0.mk ((TG : w.heap.size ≤ gb113)); replace HB := Aside0.mk (below_step TB hb); clear hb hbox hg; have hcz43_0 := cz BK113.out 0; have hcz43_1 := cz BK113.out 1; have hcz43_2 := cz BK113.out 2; have hcz43_3 := cz BK113.out 3; have hfz43_0 := fz BK113.out 0; have hfz43_1 := fz BK113.out 1; have hfz43_2 := fz BK113.out 2; have hfz43_3 := fz BK113.out 3) | (go_at_call 18; (with_reducible refine (rasp_Check.calls k _ _ l0_0 a0_1 a0_2 _ _ l0_3 t114 _ ?side1 ?side2 ?side3 ?side4 A3.out).mono ?_); (case side1 => exact TC HR0_0.out); (case side2 => exact HC0_0.out); (case side3 => exact TC HR0_3.out); (case side4 => exact HC0_3.out); rintro e w44 ⟨rfl, hb⟩; replace BK113 := Aside0.mk (TKb hb BK113.out); replace HB := Aside0.mk (below_step (TB1 GE113.out) hb); (try clear hb); (try clear hb2); (try clear hk); (try clear hi))); try go_wp2_with (first | ((with_reducible refine gate_dst (N := 2) rfl ?_); refine box_event ?hg (N := 2) ?hd (cs := #[.slice A0_0 l0_0.length c0_0, .int .i64 a0_1, .int .i64 a0_2, .slice A0_3 l0_3.length c0_3]) (t := 27) ?hr ?_; (case hd => rfl); (case hg => rfl); (case hr => exact TS); intro gb113 hg w42 hbox hb; have BK113 := Aside0.mk (hbox); have GW113 := Aside0.mk ((TG : w.heap.size ≤ gb113)); have GE113 := Aside0.mk ((TG : w.heap.size ≤ gb113)); replace HB := Aside0.mk (below_step TB hb); clear hb hbox hg; have hcz43_0 := cz BK113.out 0; have hcz43_1 := cz BK113.out 1; have hcz43_2 := cz BK113.out 2; have hcz43_3 := cz BK113.out 3; have hfz43_0 := fz BK113.out 0; have hfz43_1 := fz BK113.out 1; have hfz43_2 := fz BK113.out 2; have hfz43_3 := fz BK113.out 3) | (go_at_call 18; (with_reducible refine (rasp_Check.calls k _ _ l0_0 a0_1 a0_2 _ _ l0_3 t114 _ ?side1 ?side2 ?side3 ?side4 A3.out).mono ?_); (case side1 => exact TC HR0_0.out); (case side2 => exact HC0_0.out); (case side3 => exact TC HR0_3.out); (case side4 => exact HC0_3.out); rintro e w44 ⟨rfl, hb⟩; replace BK113 := Aside0.mk (TKb hb BK113.out); replace HB := Aside0.mk (below_step (TB1 GE113.out) hb); (try clear hb); (try clear hb2); (try clear hk); (try clear hi))))
  go_ret2
  exact ⟨_, TR, Kd.V_nil _ _ _ _ _, TB1 GE113.out⟩
end Go.Proofs.YtfmpbkolpjlfbaaDoor.PRaspKeys
namespace Go.Proofs.YtfmpbkolpjlfbaaDoor.R
open Go.RowKit Go.Shelf Go.Proofs.YtfmpbkolpjlfbaaDoorW.PrintWords Go.Proofs.YtfmpbkolpjlfbaaDoorW.PrintLast Go.Proofs.YtfmpbkolpjlfbaaDoor.PRaspKeys Go.Proofs.YtfmpbkolpjlfbaaDoor.X Go.Proofs.YtfmpbkolpjlfbaaDoor.M
attribute [local go_sem] Oper.semAt_some
def tl : List S57 := [⟨⟨-6, -4⟩, 2⟩, ⟨⟨2, 3⟩, 1⟩]
def ks : List S69 := [⟨⟨5, 9⟩, 6⟩, ⟨⟨-7, -5⟩, 3⟩, ⟨⟨20, 21⟩, 6⟩]
theorem c_next : nextF tl (-2) 2 ks 7 6 = (0, 3, 0) := by kernel_rfl
theorem c_strokes : strokesF tl (-2) 2 ks 0 = (3, 0) := by kernel_rfl
theorem c_spoilt : spoiltF tl (-2) 2 ks = ([2], 0) := by kernel_rfl
theorem c_need : needF tl (-2) 2 ks 9 = (5, 0) := by kernel_rfl
theorem c_total : totalF tl (-2) 2 (ks.take 2) = (6, 0) := by kernel_rfl
theorem c_lucky : luckyF tl (-2) 2 ks 9 6 = (2, 0) := by kernel_rfl
theorem c_play : playF tl (-2) 2 ks 0 7 [-4, -6, 2] = ([0, 0, 1], -1, 0) := by kernel_rfl
theorem c_shop : saronlaw03_shop.f = some (tl, -2, 2, ks) := by kernel_rfl
/-- A row that was made, as one that is read. -/
theorem R_row {α : Type} {d : Kd α} {e : TypeId} {W : World} {base : Nat} {ok : Nat → Prop} {v : Value} {xs : List α} (h : Kd.R d e W base ok v xs) : ∃ A c, v = .slice A xs.length c ∧ xs.length ≤ c ∧ Kd.C d W A xs.length xs := by
 obtain ⟨A, c, hv, hc, hF⟩ := Kd.R_V (base' := 0) h
 exact ⟨A, c, hv, hc, hF W (fun _ _ _ => rfl)⟩
theorem shop_any (w : World) (hG : Glob w) : Calls Tryd.prog 50 #[] w fun e w' => ∃ A0 c0 A3 c3, e = .returned (bookV A0 c0 tl (-2) 2 A3 c3 ks) ∧ Book w' A0 c0 tl A3 c3 ks ∧ Fr0 w w' := by
 refine (saronlaw03_shop.calls tl (-2) 2 ks w c_shop).mono ?_
 rintro e w' ⟨v0, v3, rfl, h0, h3, hb⟩
 obtain ⟨A0, c0, rfl, hc0, hC0⟩ := R_row h0
 obtain ⟨A3, c3, rfl, hc3, hC3⟩ := R_row h3
 have hf : Fr0 w w' := X.Fr.of_below hb
 exact ⟨A0, c0, A3, c3, rfl, ⟨hC0, hc0, hC3, hc3, hG.fr hf⟩, hf⟩
end Go.Proofs.YtfmpbkolpjlfbaaDoor.R
namespace Go.Proofs.YtfmpbkolpjlfbaaDoor.R
open Go.RowKit Go.Shelf Go.Proofs.YtfmpbkolpjlfbaaDoorW.PrintWords Go.Proofs.YtfmpbkolpjlfbaaDoorW.PrintLast Go.Proofs.YtfmpbkolpjlfbaaDoor.PRaspKeys Go.Proofs.YtfmpbkolpjlfbaaDoor.X Go.Proofs.YtfmpbkolpjlfbaaDoor.M
attribute [local go_sem] Oper.semAt_some
theorem n_next (A0 : Option Addr) (c0 : Nat) (A3 : Option Addr) (c3 : Nat) (w : World) (hB : Book w A0 c0 tl A3 c3 ks) : Calls Tryd.prog 16 #[bookV A0 c0 tl (-2) 2 A3 c3 ks, .int .i64 7, .int .i64 6] w fun e w' => e = .returned (.tuple #[.int .i64 0, .int .i64 3, .int .i64 0]) ∧ Fr0 w w' := by
 have hc := next_any A0 c0 tl (-2) 2 A3 c3 ks 7 6 w hB
 rw [c_next] at hc
 refine hc.mono fun e w' h => ⟨?_, X.Fr.of_below h.2⟩
 exact h.1
theorem n_strokes (A0 : Option Addr) (c0 : Nat) (A3 : Option Addr) (c3 : Nat) (w : World) (hB : Book w A0 c0 tl A3 c3 ks) : Calls Tryd.prog 23 #[bookV A0 c0 tl (-2) 2 A3 c3 ks, .int .i64 0] w fun e w' => e = .returned (.tuple #[.int .i64 3, .int .i64 0]) ∧ Fr0 w w' := by
 have hc := strokes_of_any A0 c0 tl (-2) 2 A3 c3 ks 0 w hB
 rw [c_strokes] at hc
 refine hc.mono fun e w' h => ⟨?_, X.Fr.of_below h.2⟩
 exact h.1
theorem n_need (A0 : Option Addr) (c0 : Nat) (A3 : Option Addr) (c3 : Nat) (w : World) (hB : Book w A0 c0 tl A3 c3 ks) : Calls Tryd.prog 30 #[bookV A0 c0 tl (-2) 2 A3 c3 ks, .int .i64 9] w fun e w' => e = .returned (.tuple #[.int .i64 5, .int .i64 0]) ∧ Fr0 w w' := by
 have hc := need_any A0 c0 tl (-2) 2 A3 c3 ks 9 w hB
 rw [c_need] at hc
 refine hc.mono fun e w' h => ⟨?_, X.Fr.of_below h.2⟩
 exact h.1
theorem n_lucky (A0 : Option Addr) (c0 : Nat) (A3 : Option Addr) (c3 : Nat) (w : World) (hB : Book w A0 c0 tl A3 c3 ks) : Calls Tryd.prog 20 #[bookV A0 c0 tl (-2) 2 A3 c3 ks, .int .i64 9, .int .i64 6] w fun e w' => e = .returned (.tuple #[.int .i64 2, .int .i64 0]) ∧ Fr0 w w' := by
 have hc := lucky_any A0 c0 tl (-2) 2 A3 c3 ks 9 6 w hB
 rw [c_lucky] at hc
 refine hc.mono fun e w' h => ⟨?_, X.Fr.of_below h.2⟩
 exact h.1
theorem n_spoilt (A0 : Option Addr) (c0 : Nat) (A3 : Option Addr) (c3 : Nat) (w : World) (hB : Book w A0 c0 tl A3 c3 ks) : Calls Tryd.prog 25 #[bookV A0 c0 tl (-2) 2 A3 c3 ks] w fun e w' => ∃ A c, e = .returned (.tuple #[.slice A 1 c, .int .i64 0]) ∧ 1 ≤ c ∧ Kd.C (Kd.int .i64) w' A 1 [2] ∧ Fr0 w w' := by
 have hc := spoilts_any A0 c0 tl (-2) 2 A3 c3 ks w hB
 rw [c_spoilt] at hc
 refine hc.mono ?_
 rintro e w' ⟨v0, rfl, ⟨A, c, rfl, hle, hF⟩, hb⟩
 exact ⟨A, c, rfl, hle, hF w' (fun _ _ _ => rfl), X.Fr.of_below hb⟩
theorem C_take {α : Type} {d : Kd α} {w : World} {A : Option Addr} {n : Nat} {xs : List α} (h : Kd.C d w A n xs) (m : Nat) (hm : m ≤ n) : Kd.C d w A m (xs.take m) := by
 obtain ⟨h1, h2, h3⟩ := h
 refine ⟨by simp; omega, by omega, fun h0 => ?_⟩
 obtain ⟨ad, e, hr⟩ := h3 (by omega)
 refine ⟨ad, e, fun j p hp => hr j p ?_⟩
 have hj : j < m := by have := (List.getElem?_eq_some_iff.1 hp).1; simp at this; omega
 rwa [List.getElem?_take_of_lt hj] at hp
theorem n_total (A0 : Option Addr) (c0 : Nat) (A3 : Option Addr) (c3 : Nat) (w : World) (hB : Book w A0 c0 tl A3 c3 ks) : Calls Tryd.prog 28 #[.agg #[.slice A0 tl.length c0, .int .i64 (-2), .int .i64 2, .slice A3 2 c3]] w fun e w' => e = .returned (.tuple #[.int .i64 6, .int .i64 0]) ∧ Fr0 w w' := by
 have hc := total_any A0 c0 tl (-2) 2 A3 c3 (ks.take 2) w ⟨hB.r0, hB.c0, C_take hB.r3 2 (by simp [ks]), by have := hB.c3; simp [ks] at this ⊢; omega, hB.glob⟩
 rw [c_total] at hc
 refine hc.mono fun e w' h => ⟨?_, X.Fr.of_below h.2⟩
 exact h.1
theorem row_new (w : World) (l : List Int) (cs : Array Value) (hcs : cs = (l.map fun x => Value.int .i64 x).toArray) (hl : l.length ≤ 9223372036854775807) : Kd.C (Kd.int .i64) (w.alloc (.cells cs 3)) (some ⟨w.heap.size, 0, none⟩) l.length l := by
 subst hcs
 refine ⟨rfl, hl, fun _ => ⟨_, rfl, fun j p hp => ⟨[.int .i64 p], rfl, rfl, ?_⟩⟩⟩
 rintro (_ | i) u hu
 ·obtain rfl : (Value.int .i64 p) = u := by simpa using hu
  have := (Bx.new w 3 (l.map fun x => Value.int .i64 x).toArray).at_ j (v := .int .i64 p) (by simp [hp])
  by_cases hj : j = 0
  ·subst hj; simpa [Addr.add, Kd.int, Kd.scalar] using this
  ·simpa [Addr.add, Kd.int, Kd.scalar, hj] using this
 ·simp at hu
theorem n_play (A0 : Option Addr) (c0 : Nat) (A3 : Option Addr) (c3 : Nat) (w : World) (hB : Book w A0 c0 tl A3 c3 ks) : Calls Tryd.prog 32 #[bookV A0 c0 tl (-2) 2 A3 c3 ks, .int .i64 0, .int .i64 7, .slice (some ⟨w.heap.size, 0, none⟩) 3 3] (w.alloc (.cells #[.int .i64 (-4), .int .i64 (-6), .int .i64 2] 3)) fun e w' =>
  ∃ A c, e = .returned (.tuple #[.slice A 3 c, .int .i64 (-1), .int .i64 0]) ∧ 3 ≤ c ∧ Kd.C (Kd.int .i64) w' A 3 [0, 0, 1] ∧ Fr0 (w.alloc (.cells #[.int .i64 (-4), .int .i64 (-6), .int .i64 2] 3)) w' := by
 have hc := play_any A0 c0 tl (-2) 2 A3 c3 ks 0 7 (some ⟨w.heap.size, 0, none⟩) 3 [-4, -6, 2] (w.alloc (.cells #[.int .i64 (-4), .int .i64 (-6), .int .i64 2] 3)) (hB.fr ((Fr.refl _ _).alloc _)) (row_new w [-4, -6, 2] _ (by simp) (by simp)) (by simp)
 rw [c_play] at hc
 refine hc.mono ?_
 rintro e w' ⟨v0, rfl, ⟨A, c, rfl, hle, hF⟩, hb⟩
 exact ⟨A, c, rfl, hle, hF w' (fun _ _ _ => rfl), X.Fr.of_below hb⟩
theorem n_equal (A : Option Addr) (c : Nat) (w : World) (hC : Kd.C (Kd.int .i64) w A 1 [2]) (hc : 1 ≤ c) : Calls Tryd.prog 27 #[.slice A 1 c, .slice (some ⟨w.heap.size, 0, none⟩) 1 1] (w.alloc (.cells #[.int .i64 2] 3)) fun e w' => e = .returned (.bool true) ∧ Fr0 (w.alloc (.cells #[.int .i64 2] 3)) w' := by
 have hc := saronref00_Equal.calls 9 A c [2] (some ⟨w.heap.size, 0, none⟩) 1 [2] true (w.alloc (.cells #[.int .i64 2] 3)) (Kd.C_alloc hC _) hc (one_row w 3 2 _ rfl) (by simp) (by kernel_rfl)
 exact hc.mono fun e w' h => ⟨h.1, by obtain ⟨nd, rfl⟩ := h.2; exact (Fr.refl _ _).drewN _⟩
theorem n_equal3 (A : Option Addr) (c : Nat) (w : World) (hC : Kd.C (Kd.int .i64) w A 3 [0, 0, 1]) (hc : 3 ≤ c) : Calls Tryd.prog 27 #[.slice A 3 c, .slice (some ⟨w.heap.size, 0, none⟩) 3 3] (w.alloc (.cells #[.int .i64 0, .int .i64 0, .int .i64 1] 3)) fun e w' => e = .returned (.bool true) ∧ Fr0 (w.alloc (.cells #[.int .i64 0, .int .i64 0, .int .i64 1] 3)) w' := by
 have hc := saronref00_Equal.calls 9 A c [0, 0, 1] (some ⟨w.heap.size, 0, none⟩) 3 [0, 0, 1] true (w.alloc (.cells #[.int .i64 0, .int .i64 0, .int .i64 1] 3)) (Kd.C_alloc hC _) hc (row_new w [0, 0, 1] _ (by simp) (by simp)) (by simp) (by kernel_rfl)
 exact hc.mono fun e w' h => ⟨h.1, by obtain ⟨nd, rfl⟩ := h.2; exact (Fr.refl _ _).drewN _⟩
theorem c_told : rasp_Told.f 99 tl (-2) 2 ks [7, 3, -3, -1] = some ([[0], [0], [1]], 0) := by kernel_rfl
theorem n_told (A0 : Option Addr) (c0 : Nat) (A3 : Option Addr) (c3 : Nat) (w : World) (hB : Book w A0 c0 tl A3 c3 ks) : Calls Tryd.prog 34 #[bookV A0 c0 tl (-2) 2 A3 c3 ks, .slice (some ⟨w.heap.size, 0, none⟩) 4 4] (w.alloc (.cells #[.int .i64 7, .int .i64 3, .int .i64 (-3), .int .i64 (-1)] 3)) fun e w' =>
  ∃ A c, e = .returned (.tuple #[.slice A 3 c, .int .i64 0]) ∧ 3 ≤ c ∧ Kd.C (Kd.slice 3 (Kd.int .i64)) w' A 3 [[0], [0], [1]] ∧ Fr0 (w.alloc (.cells #[.int .i64 7, .int .i64 3, .int .i64 (-3), .int .i64 (-1)] 3)) w' := by
 have hB' : Book (w.alloc (.cells #[.int .i64 7, .int .i64 3, .int .i64 (-3), .int .i64 (-1)] 3)) A0 c0 tl A3 c3 ks := hB.fr ((Fr.refl _ _).alloc _)
 have hc := rasp_Told.calls 99 A0 c0 tl (-2) 2 A3 c3 ks (some ⟨w.heap.size, 0, none⟩) 4 [7, 3, -3, -1] [[0], [0], [1]] 0 (w.alloc (.cells #[.int .i64 7, .int .i64 3, .int .i64 (-3), .int .i64 (-1)] 3)) hB'.r0 hB'.c0 hB'.r3 hB'.c3 (row_new w [7, 3, -3, -1] _ (by simp) (by simp)) (by simp) hB'.glob c_told
 refine hc.mono ?_
 rintro e w' ⟨v0, rfl, ⟨A, c, rfl, hle, hF⟩, hb⟩
 exact ⟨A, c, rfl, hle, hF w' (fun _ _ _ => rfl), X.Fr.of_below hb⟩
theorem rows_new (w : World) : Kd.C (Kd.slice 3 (Kd.int .i64)) ((((w.alloc (.cells #[.int .i64 0] 3)).alloc (.cells #[.int .i64 0] 3)).alloc (.cells #[.int .i64 1] 3)).alloc (.cells #[.slice (some ⟨w.heap.size, 0, none⟩) 1 1, .slice (some ⟨w.heap.size + 1, 0, none⟩) 1 1, .slice (some ⟨w.heap.size + 1 + 1, 0, none⟩) 1 1] 38)) (some ⟨w.heap.size + 1 + 1 + 1, 0, none⟩) 3 [[0], [0], [1]] := by
 have c0 : Kd.C (Kd.int .i64) ((((w.alloc (.cells #[.int .i64 0] 3)).alloc (.cells #[.int .i64 0] 3)).alloc (.cells #[.int .i64 1] 3)).alloc (.cells #[.slice (some ⟨w.heap.size, 0, none⟩) 1 1, .slice (some ⟨w.heap.size + 1, 0, none⟩) 1 1, .slice (some ⟨w.heap.size + 1 + 1, 0, none⟩) 1 1] 38)) (some ⟨w.heap.size, 0, none⟩) [(0 : Int)].length [0] := Kd.C_alloc (Kd.C_alloc (Kd.C_alloc (one_row w 3 0 _ rfl) _) _) _
 have c1 : Kd.C (Kd.int .i64) ((((w.alloc (.cells #[.int .i64 0] 3)).alloc (.cells #[.int .i64 0] 3)).alloc (.cells #[.int .i64 1] 3)).alloc (.cells #[.slice (some ⟨w.heap.size, 0, none⟩) 1 1, .slice (some ⟨w.heap.size + 1, 0, none⟩) 1 1, .slice (some ⟨w.heap.size + 1 + 1, 0, none⟩) 1 1] 38)) (some ⟨w.heap.size + 1, 0, none⟩) [(0 : Int)].length [0] := Kd.C_alloc (Kd.C_alloc (one_row _ 3 0 _ (by simp)) _) _
 have c2 : Kd.C (Kd.int .i64) ((((w.alloc (.cells #[.int .i64 0] 3)).alloc (.cells #[.int .i64 0] 3)).alloc (.cells #[.int .i64 1] 3)).alloc (.cells #[.slice (some ⟨w.heap.size, 0, none⟩) 1 1, .slice (some ⟨w.heap.size + 1, 0, none⟩) 1 1, .slice (some ⟨w.heap.size + 1 + 1, 0, none⟩) 1 1] 38)) (some ⟨w.heap.size + 1 + 1, 0, none⟩) [(1 : Int)].length [1] := Kd.C_alloc (one_row _ 3 1 _ (by simp)) _
 have bx : Bx ((((w.alloc (.cells #[.int .i64 0] 3)).alloc (.cells #[.int .i64 0] 3)).alloc (.cells #[.int .i64 1] 3)).alloc (.cells #[.slice (some ⟨w.heap.size, 0, none⟩) 1 1, .slice (some ⟨w.heap.size + 1, 0, none⟩) 1 1, .slice (some ⟨w.heap.size + 1 + 1, 0, none⟩) 1 1] 38)) (w.heap.size + 1 + 1 + 1) 38 #[.slice (some ⟨w.heap.size, 0, none⟩) 1 1, .slice (some ⟨w.heap.size + 1, 0, none⟩) 1 1, .slice (some ⟨w.heap.size + 1 + 1, 0, none⟩) 1 1] := Bx.of_new (by simp)
 generalize ((((w.alloc (.cells #[.int .i64 0] 3)).alloc (.cells #[.int .i64 0] 3)).alloc (.cells #[.int .i64 1] 3)).alloc (.cells #[.slice (some ⟨w.heap.size, 0, none⟩) 1 1, .slice (some ⟨w.heap.size + 1, 0, none⟩) 1 1, .slice (some ⟨w.heap.size + 1 + 1, 0, none⟩) 1 1] 38)) = W at *
 have b0 := bx.at_ 0 rfl
 have b1 := bx.at_ 1 rfl
 have b2 := bx.at_ 2 rfl
 refine ⟨rfl, by simp, fun _ => ⟨_, rfl, ?_⟩⟩
 intro j p hp
 match j, hp with
 | 0, hp =>
  obtain rfl : ([0] : List Int) = p := by simpa using hp
  refine ⟨[_], rfl, ⟨_, 1, rfl, by simp, c0⟩, ?_⟩
  rintro (_ | i) u hu
  ·obtain rfl := Option.some.inj hu
   simpa [Addr.add, Kd.slice] using b0
  ·simp at hu
 | 1, hp =>
  obtain rfl : ([0] : List Int) = p := by simpa using hp
  refine ⟨[_], rfl, ⟨_, 1, rfl, by simp, c1⟩, ?_⟩
  rintro (_ | i) u hu
  ·obtain rfl := Option.some.inj hu
   simpa [Addr.add, Kd.slice] using b1
  ·simp at hu
 | 2, hp =>
  obtain rfl : ([1] : List Int) = p := by simpa using hp
  refine ⟨[_], rfl, ⟨_, 1, rfl, by simp, c2⟩, ?_⟩
  rintro (_ | i) u hu
  ·obtain rfl := Option.some.inj hu
   simpa [Addr.add, Kd.slice] using b2
  ·simp at hu
 | j + 3, hp => simp at hp
theorem n_rows (A : Option Addr) (c : Nat) (w : World) (hC : Kd.C (Kd.slice 3 (Kd.int .i64)) w A 3 [[0], [0], [1]]) (hc : 3 ≤ c) : Calls Tryd.prog 36 #[.slice A 3 c, .slice (some ⟨w.heap.size + 1 + 1 + 1, 0, none⟩) 3 3] ((((w.alloc (.cells #[.int .i64 0] 3)).alloc (.cells #[.int .i64 0] 3)).alloc (.cells #[.int .i64 1] 3)).alloc (.cells #[.slice (some ⟨w.heap.size, 0, none⟩) 1 1, .slice (some ⟨w.heap.size + 1, 0, none⟩) 1 1, .slice (some ⟨w.heap.size + 1 + 1, 0, none⟩) 1 1] 38)) fun e w' => e = .returned (.bool true) ∧ Fr0 ((((w.alloc (.cells #[.int .i64 0] 3)).alloc (.cells #[.int .i64 0] 3)).alloc (.cells #[.int .i64 1] 3)).alloc (.cells #[.slice (some ⟨w.heap.size, 0, none⟩) 1 1, .slice (some ⟨w.heap.size + 1, 0, none⟩) 1 1, .slice (some ⟨w.heap.size + 1 + 1, 0, none⟩) 1 1] 38)) w' := by
 have hc := saronref00_EqualRows.calls 9 A c [[0], [0], [1]] (some ⟨w.heap.size + 1 + 1 + 1, 0, none⟩) 3 [[0], [0], [1]] true ((((w.alloc (.cells #[.int .i64 0] 3)).alloc (.cells #[.int .i64 0] 3)).alloc (.cells #[.int .i64 1] 3)).alloc (.cells #[.slice (some ⟨w.heap.size, 0, none⟩) 1 1, .slice (some ⟨w.heap.size + 1, 0, none⟩) 1 1, .slice (some ⟨w.heap.size + 1 + 1, 0, none⟩) 1 1] 38)) (Kd.C_alloc (Kd.C_alloc (Kd.C_alloc (Kd.C_alloc hC _) _) _) _) hc (rows_new w) (by simp) (by kernel_rfl)
 exact hc.mono fun e w' h => ⟨h.1, by obtain ⟨nd, rfl⟩ := h.2; exact (Fr.refl _ _).drewN _⟩
set_option maxHeartbeats 8000000 in
set_option maxRecDepth 100000 in
theorem filed_any (w : World) (hG : Glob w) : Calls Tryd.prog 22 #[] w fun e w' => e = .returned (.bool true) ∧ Below w.heap.size w w' := by
 have HG := Lib.hid hG
 have HF := Lib.hid (Fr.refl (fun _ => False) w)
 clear hG
 go_enter Tryd.func22, Tryd.ntmps22
 go_wp2_with (first | (go_at_call 50; refine (shop_any _ (HG.out.fr TFr)).mono ?_; rintro e W ⟨A0, c0, A3, c3, rfl, hBk, hf⟩; (have HBK := Lib.hid hBk); (have hcap : 2 ≤ c3 := by have := hBk.c3; simp [ks] at this; omega); clear hBk; (have HG := Lib.hid (HG.out.fr (Fr.trans TFr hf))); (have HF := Lib.hid (Fr.trans (Fr.trans HF.out TFr) hf)); (try have HF2 := Lib.hid (Fr.trans (Fr.trans HF2.out TFr) hf)); (try have HF3 := Lib.hid (Fr.trans (Fr.trans HF3.out TFr) hf)); (try have HF4 := Lib.hid (Fr.trans (Fr.trans HF4.out TFr) hf)); clear hf) | (go_at_call 25; refine (n_spoilt _ _ _ _ _ (HBK.out.fr TFr)).mono ?_; rintro e W ⟨Al, cl, rfl, hcl, hCl, hf⟩; (have HG := Lib.hid (HG.out.fr (Fr.trans TFr hf))); (have HF := Lib.hid (Fr.trans (Fr.trans HF.out TFr) hf)); (try have HF2 := Lib.hid (Fr.trans (Fr.trans HF2.out TFr) hf)); (try have HF3 := Lib.hid (Fr.trans (Fr.trans HF3.out TFr) hf)); (try have HF4 := Lib.hid (Fr.trans (Fr.trans HF4.out TFr) hf)); clear hf; (have HCL := Lib.hid hCl); clear hCl; (have HF2 := Lib.hid (Fr.refl (fun _ => False) W))) | (go_at_call 27; (with_reducible refine (n_equal Al cl _ (Kd.C_below HCL.out (Fr.below HF2.out (Nat.le_refl _) (fun _ _ h => h))) hcl).mono ?_); rintro e W ⟨rfl, hf⟩; (have HG := Lib.hid (HG.out.fr (Fr.trans TFr hf))); (have HF := Lib.hid (Fr.trans (Fr.trans HF.out TFr) hf)); (try have HF2 := Lib.hid (Fr.trans (Fr.trans HF2.out TFr) hf)); (try have HF3 := Lib.hid (Fr.trans (Fr.trans HF3.out TFr) hf)); (try have HF4 := Lib.hid (Fr.trans (Fr.trans HF4.out TFr) hf)); clear hf) | (go_at_call 27; (with_reducible refine (n_equal3 Ap cp _ (Kd.C_below HCP.out (Fr.below HF3.out (Nat.le_refl _) (fun _ _ h => h))) hcp).mono ?_); rintro e W ⟨rfl, hf⟩; (have HG := Lib.hid (HG.out.fr (Fr.trans TFr hf))); (have HF := Lib.hid (Fr.trans (Fr.trans HF.out TFr) hf)); (try have HF2 := Lib.hid (Fr.trans (Fr.trans HF2.out TFr) hf)); (try have HF3 := Lib.hid (Fr.trans (Fr.trans HF3.out TFr) hf)); (try have HF4 := Lib.hid (Fr.trans (Fr.trans HF4.out TFr) hf)); clear hf) | (go_at_call 34; refine (n_told _ _ _ _ _ (HBK.out.fr TFr)).mono ?_; rintro e W ⟨At, ct, rfl, hct, hCt, hf⟩; (have HG := Lib.hid (HG.out.fr (Fr.trans TFr hf))); (have HF := Lib.hid (Fr.trans (Fr.trans HF.out TFr) hf)); (try have HF2 := Lib.hid (Fr.trans (Fr.trans HF2.out TFr) hf)); (try have HF3 := Lib.hid (Fr.trans (Fr.trans HF3.out TFr) hf)); (try have HF4 := Lib.hid (Fr.trans (Fr.trans HF4.out TFr) hf)); clear hf; (have HCT := Lib.hid hCt); clear hCt; (have HF4 := Lib.hid (Fr.refl (fun _ => False) W))) | (go_at_call 36; (with_reducible refine (n_rows At ct _ (Kd.C_below HCT.out (Fr.below HF4.out (Nat.le_refl _) (fun _ _ h => h))) hct).mono ?_); rintro e W ⟨rfl, hf⟩; (have HG := Lib.hid (HG.out.fr (Fr.trans TFr hf))); (have HF := Lib.hid (Fr.trans (Fr.trans HF.out TFr) hf)); (try have HF2 := Lib.hid (Fr.trans (Fr.trans HF2.out TFr) hf)); (try have HF3 := Lib.hid (Fr.trans (Fr.trans HF3.out TFr) hf)); (try have HF4 := Lib.hid (Fr.trans (Fr.trans HF4.out TFr) hf)); clear hf) | (go_at_call 28; refine (n_total _ _ _ _ _ (HBK.out.fr TFr)).mono ?_; rintro e W ⟨rfl, hf⟩; (have HG := Lib.hid (HG.out.fr (Fr.trans TFr hf))); (have HF := Lib.hid (Fr.trans (Fr.trans HF.out TFr) hf)); (try have HF2 := Lib.hid (Fr.trans (Fr.trans HF2.out TFr) hf)); (try have HF3 := Lib.hid (Fr.trans (Fr.trans HF3.out TFr) hf)); (try have HF4 := Lib.hid (Fr.trans (Fr.trans HF4.out TFr) hf)); clear hf) | (go_at_call 32; refine (n_play _ _ _ _ _ (HBK.out.fr TFr)).mono ?_; rintro e W ⟨Ap, cp, rfl, hcp, hCp, hf⟩; (have HG := Lib.hid (HG.out.fr (Fr.trans TFr hf))); (have HF := Lib.hid (Fr.trans (Fr.trans HF.out TFr) hf)); (try have HF2 := Lib.hid (Fr.trans (Fr.trans HF2.out TFr) hf)); (try have HF3 := Lib.hid (Fr.trans (Fr.trans HF3.out TFr) hf)); (try have HF4 := Lib.hid (Fr.trans (Fr.trans HF4.out TFr) hf)); clear hf; (have HCP := Lib.hid hCp); clear hCp; (have HF3 := Lib.hid (Fr.refl (fun _ => False) W))) | (go_at_call 16; refine (n_next _ _ _ _ _ (HBK.out.fr TFr)).mono ?_; rintro e W ⟨rfl, hf⟩; (have HG := Lib.hid (HG.out.fr (Fr.trans TFr hf))); (have HF := Lib.hid (Fr.trans (Fr.trans HF.out TFr) hf)); (try have HF2 := Lib.hid (Fr.trans (Fr.trans HF2.out TFr) hf)); (try have HF3 := Lib.hid (Fr.trans (Fr.trans HF3.out TFr) hf)); (try have HF4 := Lib.hid (Fr.trans (Fr.trans HF4.out TFr) hf)); clear hf) | (go_at_call 23; refine (n_strokes _ _ _ _ _ (HBK.out.fr TFr)).mono ?_; rintro e W ⟨rfl, hf⟩; (have HG := Lib.hid (HG.out.fr (Fr.trans TFr hf))); (have HF := Lib.hid (Fr.trans (Fr.trans HF.out TFr) hf)); (try have HF2 := Lib.hid (Fr.trans (Fr.trans HF2.out TFr) hf)); (try have HF3 := Lib.hid (Fr.trans (Fr.trans HF3.out TFr) hf)); (try have HF4 := Lib.hid (Fr.trans (Fr.trans HF4.out TFr) hf)); clear hf) | (go_at_call 30; refine (n_need _ _ _ _ _ (HBK.out.fr TFr)).mono ?_; rintro e W ⟨rfl, hf⟩; (have HG := Lib.hid (HG.out.fr (Fr.trans TFr hf))); (have HF := Lib.hid (Fr.trans (Fr.trans HF.out TFr) hf)); (try have HF2 := Lib.hid (Fr.trans (Fr.trans HF2.out TFr) hf)); (try have HF3 := Lib.hid (Fr.trans (Fr.trans HF3.out TFr) hf)); (try have HF4 := Lib.hid (Fr.trans (Fr.trans HF4.out TFr) hf)); clear hf) | (go_at_call 20; refine (n_lucky _ _ _ _ _ (HBK.out.fr TFr)).mono ?_; rintro e W ⟨rfl, hf⟩; (have HG := Lib.hid (HG.out.fr (Fr.trans TFr hf))); (have HF := Lib.hid (Fr.trans (Fr.trans HF.out TFr) hf)); (try have HF2 := Lib.hid (Fr.trans (Fr.trans HF2.out TFr) hf)); (try have HF3 := Lib.hid (Fr.trans (Fr.trans HF3.out TFr) hf)); (try have HF4 := Lib.hid (Fr.trans (Fr.trans HF4.out TFr) hf)); clear hf))
 refine bodyPost_ret (v := .bool true) (by simp [results, Tryd.results22, go_sem]) rfl ⟨rfl, ?_⟩
 exact Fr.below HF.out (Nat.le_refl _) (fun _ _ h => h)
end Go.Proofs.YtfmpbkolpjlfbaaDoor.R
namespace Go.Proofs.YtfmpbkolpjlfbaaDoor.PRaspKeys
open Go.RowKit Go.Proofs.YtfmpbkolpjlfbaaDoorW.PrintWords Go.Proofs.YtfmpbkolpjlfbaaDoorW.PrintLast Go.Proofs.YtfmpbkolpjlfbaaDoor.M
def saronlaw03_filed.f : Option (Bool) := some true
theorem saronlaw03_filed.calls (r : Bool) (w : World) (hG : Glob w) (h : saronlaw03_filed.f = some r) :
  Calls Tryd.prog 22 #[] w fun e w' => e = .returned (.bool r) ∧ Below w.heap.size w w' := by
 cases Option.some.inj h
 exact Go.Proofs.YtfmpbkolpjlfbaaDoor.R.filed_any w hG
end Go.Proofs.YtfmpbkolpjlfbaaDoor.PRaspKeys
namespace Go.Proofs.YtfmpbkolpjlfbaaDoor.OD
open Go.RowKit Go.Proofs.YtfmpbkolpjlfbaaDoorW.PrintWords Go.Proofs.YtfmpbkolpjlfbaaDoor.M
/-- Whatever a type's datum is read off is told by the kind d. -/
def Opn {α : Type} (P : Program) (t : TypeId) (d : Kd α) : Prop :=
 ∀ (W : World) (fuel : Nat) (cs : List Value) {H : Type} (enc : TypeId × Value → H) (sp : Nat → Bool) (held : Bool) (x : DataW H × List MemPlace), DataW.trod enc P W 0 sp held fuel t cs = some x → ∃ a : α, d.K W a cs
theorem opn_int {P : Program} {t : TypeId} {k : IntKind} (ht : P.underlying t = some (.int k)) : Opn P t (Kd.int k) := by
 intro W fuel cs H enc sp held x h
 obtain ⟨n, rfl, _, _⟩ := DataW.trod_int ht h
 exact ⟨n, rfl⟩
theorem pick_all {α : Type} {R : Nat → α → Prop} : ∀ (n : Nat), (∀ i, i < n → ∃ x, R i x) → ∃ xs : List α, xs.length = n ∧ ∀ i x, xs[i]? = some x → R i x
 | 0, _ => ⟨[], rfl, fun _ _ h => by simp at h⟩
 | n + 1, h => by
  obtain ⟨xs, hl, hx⟩ := pick_all n (fun i hi => h i (by omega))
  obtain ⟨y, hy⟩ := h n (by omega)
  refine ⟨xs ++ [y], by simp [hl], fun i x hi => ?_⟩
  by_cases hlt : i < n
  ·rw [List.getElem?_append_left (by omega)] at hi
   exact hx i x hi
  ·have : i = n := by
    have := (List.getElem?_eq_some_iff.1 hi).1
    simp at this
    omega
   subst this
   rw [List.getElem?_append_right (by omega)] at hi
   simp [hl] at hi
   subst hi
   exact hy
theorem mapM_get {w : World} {a : Addr} : ∀ (l : List Nat) (cs : List Value), List.mapM (m := Option) (fun i : Nat => w.cell? (a.add i)) l = some cs → cs.length = l.length ∧ ∀ (i k : Nat) (u : Value), l[i]? = some k → cs[i]? = some u → w.cell? (a.add k) = some u
 | [], cs, h => by
  obtain rfl : cs = [] := by simpa using h.symm
  exact ⟨rfl, fun _ _ _ h => by simp at h⟩
 | b :: l, cs, h => by
  rw [List.mapM_cons] at h
  obtain ⟨v, hv, h⟩ := Option.bind_eq_some_iff.1 h
  obtain ⟨vs, hvs, h⟩ := Option.bind_eq_some_iff.1 h
  obtain rfl : v :: vs = cs := by simpa using h
  obtain ⟨h1, h2⟩ := mapM_get l vs hvs
  refine ⟨by simp [h1], fun i k u hk hu => ?_⟩
  cases i with
  | zero =>
   simp only [List.getElem?_cons_zero, Option.some.injEq] at hk hu
   subst hk hu
   exact hv
  | succ i =>
   simp only [List.getElem?_cons_succ] at hk hu
   exact h2 i k u hk hu
theorem cells_get {w : World} {base n : Nat} {a : Addr} {cs : List Value} (h : w.cells? base a n = some cs) : cs.length = n ∧ ∀ i u, cs[i]? = some u → w.cell? (a.add i) = some u := by
 unfold World.cells? at h
 split at h
 ·obtain ⟨h1, h2⟩ := mapM_get _ _ h
  simp only [List.length_range] at h1
  refine ⟨h1, fun i u hu => h2 i i u ?_ hu⟩
  have := (List.getElem?_eq_some_iff.1 hu).1
  rw [List.getElem?_range (by omega)]
 ·cases h
theorem add_add (a : Addr) (x y : Nat) : (a.add x).add y = a.add (x + y) := by
 by_cases hx : x = 0 <;> by_cases hy : y = 0 <;> simp [Addr.add, hx, hy, Nat.add_assoc]
theorem open_slice {α : Type} {P : Program} {t e : TypeId} {d : Kd α} (ht : P.underlying t = some (.slice e)) (hc : P.cellsOf e = d.sz) (ho : Opn P e d)
  {W : World} {fuel : Nat} {cs : List Value} {H : Type} {enc : TypeId × Value → H} {sp : Nat → Bool} {held : Bool} {x : DataW H × List MemPlace} (h : DataW.trod enc P W 0 sp held fuel t cs = some x) :
  ∃ (A : Option Addr) (c : Nat) (xs : List α), cs = [.slice A xs.length c] ∧ xs.length ≤ c ∧ Kd.C d W A xs.length xs := by
 rcases DataW.trod_slice ht h with ⟨rfl, _⟩ | ⟨a, len, cap, elems, rest, n, _, rfl, _, _, hl, hm, hlen, hel, _⟩
 ·exact ⟨none, 0, [], rfl, Nat.le_refl _, rfl, by simp, fun h => by simp at h⟩
 ·have hR : ∀ i, i < len → ∃ y : α, ∃ c : List Value, c.length = d.sz ∧ d.K W y c ∧ ∀ j u, c[j]? = some u → W.cell? (a.add (i * d.sz + j)) = some u := by
   intro i hi
   have hi' := hel i hi
   rw [hc] at hi'
   rw [List.getElem?_eq_getElem (by omega)] at hi'
   obtain ⟨c, hcs, htr⟩ := Option.bind_eq_some_iff.1 hi'
   obtain ⟨y, hy⟩ := ho _ _ _ _ _ _ _ htr
   obtain ⟨h1, h2⟩ := cells_get hcs
   exact ⟨y, c, h1, hy, fun j u hu => by rw [← add_add]; exact h2 j u hu⟩
  obtain ⟨xs, hxl, hxs⟩ := pick_all len hR
  subst hxl
  refine ⟨some a, cap, xs, rfl, hl, rfl, ?_, fun _ => ⟨a, rfl, fun j p hp => hxs j p hp⟩⟩
  have : maxLen = 9223372036854775807 := by decide
  omega
end Go.Proofs.YtfmpbkolpjlfbaaDoor.OD
namespace Go.Proofs.YtfmpbkolpjlfbaaDoor.RK
open Go.ChangeShapes Go.WideShapes Go.ChangeAt Go.RowKit Go.Proofs.YtfmpbkolpjlfbaaDoorW.PrintWords Go.Proofs.YtfmpbkolpjlfbaaDoor.OD Go.Proofs.YtfmpbkolpjlfbaaDoor.PRaspKeys Go.Proofs.YtfmpbkolpjlfbaaDoor.M
theorem own : ownKnob Tryd.prog.godebug = none := by kernel_rfl
theorem laidOut : laidOutB Tryd.prog = true := by kernel_rfl
theorem gCounts : Tryd.prog.globalNamed "saron/rasp.counts" = some 0 := by kernel_rfl
theorem tCounts : (Tryd.prog.globals[0]?).map (·.type) = some 111 := by kernel_rfl
theorem c110 : Tryd.prog.cellsOf 110 = 1 := by kernel_rfl
theorem c111 : Tryd.prog.cellsOf 111 = 2 := by kernel_rfl
theorem c3 : Tryd.prog.cellsOf 3 = 1 := by kernel_rfl
theorem c24 : Tryd.prog.cellsOf 24 = 2 := by kernel_rfl
theorem c57 : Tryd.prog.cellsOf 57 = 3 := by kernel_rfl
theorem c69 : Tryd.prog.cellsOf 69 = 3 := by kernel_rfl
theorem c27 : Tryd.prog.cellsOf 27 = 4 := by kernel_rfl
theorem c28 : Tryd.prog.cellsOf 28 = 2 := by kernel_rfl
theorem c22 : Tryd.prog.cellsOf 22 = 1 := by kernel_rfl
theorem c25 : Tryd.prog.cellsOf 25 = 1 := by kernel_rfl
/-- The door's own heap meets the condition. -/
theorem door_met (os : Os) (args : Array Value) : laidMetH Tryd.prog [("saron/rasp.counts", Rows.laid_saron_rasp_counts)] ((World.doorLaid Tryd.prog 600 os).forCall (fun _ _ => 0) ⟨#[], args, []⟩).memory :=
 laidMetH_of_parts3 (fuel := 8) (laidMet_of_run' 8 (by kernel_rfl) (by kernel_rfl)) (by kernel_rfl) (by kernel_rfl)
set_option maxRecDepth 100000 in
theorem of_laid {W : World} (h : laidMetH Tryd.prog [("saron/rasp.counts", Rows.laid_saron_rasp_counts)] W) : Glob W := by
 obtain ⟨g, t, cs, fuel, p, hg, ht, hv, hd⟩ := h.funcs (List.mem_singleton.2 rfl)
 obtain rfl := Option.some.inj (gCounts.symm.trans hg)
 obtain rfl := Option.some.inj (tCounts.symm.trans ht)
 have hd' : DataW.trod (funcToken Tryd.prog) Tryd.prog W 0 (fun _ => true) true fuel 111 cs.toList = some (.agg [.held [40, 115, 97, 114, 111, 110, 47, 114, 97, 115, 112, 46, 115, 104, 111, 112, 41, 46, 119, 111, 114, 115, 116], .held [40, 115, 97, 114, 111, 110, 47, 114, 97, 115, 112, 46, 115, 104, 111, 112, 41, 46, 98, 101, 115, 116]], p) := hd
 obtain ⟨xs, m, _, hx, hl, hn, hel⟩ := DataW.trod_array Tryd.underlying111 hd'
 have h0 := hel 0 (by decide)
 have h1 := hel 1 (by decide)
 rw [c111] at hl
 rw [c110] at h0 h1
 have hc0 := World.var?_cell hg hv 0
 have hc1 := World.var?_cell hg hv 1
 clear hd hd' hv hel
 obtain ⟨cs⟩ := cs
 match cs, hl, xs, hn, hx, h0, h1, hc0, hc1 with
 | [a, b], _, [x0, x1], _, hx, h0, h1, hc0, hc1 =>
  obtain ⟨d0, q0⟩ := x0
  obtain ⟨d1, q1⟩ := x1
  simp only [Prod.mk.injEq, mC, mN, DataW.agg.injEq, List.cons.injEq, and_true] at hx
  obtain ⟨⟨rfl, rfl⟩, _⟩ := hx
  obtain rfl := func_of_trod (f0 := 92) Tryd.underlying110 (by kernel_rfl) (show DataW.trod _ _ _ _ _ _ _ _ [a] = some (.held [40, 115, 97, 114, 111, 110, 47, 114, 97, 115, 112, 46, 115, 104, 111, 112, 41, 46, 119, 111, 114, 115, 116], q0) from h0)
  obtain rfl := func_of_trod (f0 := 93) Tryd.underlying110 (by kernel_rfl) (show DataW.trod _ _ _ _ _ _ _ _ [b] = some (.held [40, 115, 97, 114, 111, 110, 47, 114, 97, 115, 112, 46, 115, 104, 111, 112, 41, 46, 98, 101, 115, 116], q1) from h1)
  exact ⟨by simpa using hc0, by simpa using hc1⟩
theorem some_of {α : Type} {xs : List α} {n i : Nat} (hn : xs.length = n) (hi : i < n) {o : Option α} (h : o = xs[i]?) : ∃ y, o = some y := by
 subst hn
 exact ⟨_, h.trans (List.getElem?_eq_getElem hi)⟩
theorem fld {H : Type} {enc : TypeId × Value → H} {P : Program} {W : World} {sp : Nat → Bool} {held : Bool} {fs : Array Field} {cs : List Value} {xs : List (DataW H × List MemPlace)} {n : Nat}
  (hf : ∀ (i : Nat) (f : Field), fs[i]? = some f → DataW.trod enc P W 0 sp held n f.type ((cs.drop f.offset).take (P.cellsOf f.type)) = xs[i]?) (hlen : xs.length = fs.size) (i : Nat) {t o k : Nat}
  (hi : (fs[i]?).map (fun f => (f.type, f.offset)) = some (t, o)) (hc : P.cellsOf t = k) : ∃ y, DataW.trod enc P W 0 sp held n t ((cs.drop o).take k) = some y := by
 cases hfi : fs[i]? with
 | none => rw [hfi] at hi; cases hi
 | some f =>
  rw [hfi] at hi
  have e : f.type = t ∧ f.offset = o := by simpa using hi
  obtain ⟨rfl, rfl⟩ := e
  obtain ⟨y, hy⟩ := some_of hlen (by exact (Array.getElem?_eq_some_iff.1 hfi).1) (hf i f hfi)
  rw [hc] at hy
  exact ⟨y, hy⟩
theorem opn3 : Opn Tryd.prog 3 (Kd.int .i64) := opn_int Tryd.underlying3
set_option maxRecDepth 100000 in
theorem opn24 : Opn Tryd.prog 24 k24 := by
 intro W fuel cs H enc sp held x h
 obtain ⟨xs, n, _, _, hl, hlen, hf⟩ := DataW.trod_struct Tryd.underlying24 h
 obtain ⟨y0, h0⟩ := fld hf hlen 0 rfl c3
 obtain ⟨y1, h1⟩ := fld hf hlen 1 rfl c3
 rw [c24] at hl
 match cs, hl with
 | [a, b], _ =>
  obtain ⟨n0, e0, _⟩ := DataW.trod_int Tryd.underlying3 h0
  obtain ⟨n1, e1, _⟩ := DataW.trod_int Tryd.underlying3 h1
  simp at e0 e1
  subst e0 e1
  exact ⟨⟨n0, n1⟩, k24_mk _ _⟩
set_option maxRecDepth 100000 in
theorem opn57 : Opn Tryd.prog 57 k57 := by
 intro W fuel cs H enc sp held x h
 obtain ⟨xs, n, _, _, hl, hlen, hf⟩ := DataW.trod_struct Tryd.underlying57 h
 obtain ⟨y0, h0⟩ := fld hf hlen 0 rfl c24
 obtain ⟨y1, h1⟩ := fld hf hlen 1 rfl c3
 rw [c57] at hl
 match cs, hl with
 | [a, b, c], _ =>
  obtain ⟨s, hs⟩ := opn24 _ _ _ _ _ _ _ h0
  have hs' := k24_open hs
  obtain ⟨n1, e1, _⟩ := DataW.trod_int Tryd.underlying3 h1
  simp at hs' e1
  obtain ⟨rfl, rfl⟩ := hs'
  subst e1
  exact ⟨⟨s, n1⟩, k57_mk _ _⟩
set_option maxRecDepth 100000 in
theorem opn69 : Opn Tryd.prog 69 k69 := by
 intro W fuel cs H enc sp held x h
 obtain ⟨xs, n, _, _, hl, hlen, hf⟩ := DataW.trod_struct Tryd.underlying69 h
 obtain ⟨y0, h0⟩ := fld hf hlen 0 rfl c24
 obtain ⟨y1, h1⟩ := fld hf hlen 1 rfl c3
 rw [c69] at hl
 match cs, hl with
 | [a, b, c], _ =>
  obtain ⟨s, hs⟩ := opn24 _ _ _ _ _ _ _ h0
  have hs' := k24_open hs
  obtain ⟨n1, e1, _⟩ := DataW.trod_int Tryd.underlying3 h1
  simp at hs' e1
  obtain ⟨rfl, rfl⟩ := hs'
  subst e1
  exact ⟨⟨s, n1⟩, k69_mk _ _⟩
set_option maxRecDepth 100000 in
/-- A shop's value, opened. -/
theorem open_book {W : World} {base : Nat} {v : Value} {H : Type} {enc : TypeId × Value → H} {sp : Nat → Bool} {held : Bool} {d : DataW H} {ps : List MemPlace} (hval : Value.okWide Tryd.prog W .any base 27 v) (h : DataW.Trod enc Tryd.prog W 0 sp held 27 v d ps) :
  ∃ (A0 : Option Addr) (c0 : Nat) (l0 : List S57) (lo hi : Int) (A3 : Option Addr) (c3 : Nat) (l3 : List S69), v = .agg #[.slice A0 l0.length c0, .int .i64 lo, .int .i64 hi, .slice A3 l3.length c3] ∧
   Kd.C k57 W A0 l0.length l0 ∧ l0.length ≤ c0 ∧ Kd.C k69 W A3 l3.length l3 ∧ l3.length ≤ c3 := by
 obtain ⟨cs, rfl, hsz⟩ := okWide_struct Tryd.underlying27 hval
 obtain ⟨fuel, h⟩ := h
 obtain ⟨xs, n, _, _, hl, hlen, hf⟩ := DataW.trod_struct Tryd.underlying27 h
 obtain ⟨y0, h0⟩ := fld hf hlen 0 rfl c22
 obtain ⟨y1, h1⟩ := fld hf hlen 1 rfl c24
 obtain ⟨y2, h2⟩ := fld hf hlen 2 rfl c25
 rw [c27] at hl
 obtain ⟨cs⟩ := cs
 simp only [Value.cells] at hl h0 h1 h2
 match cs, hl with
 | [a, b, c, e], _ =>
  obtain ⟨A0, c0, l0, e0, hc0, hC0⟩ := open_slice (d := k57) Tryd.underlying22 c57 opn57 h0
  obtain ⟨s, hs⟩ := opn24 _ _ _ _ _ _ _ h1
  have hs' := k24_open hs
  obtain ⟨A3, c3, l3, e3, hc3, hC3⟩ := open_slice (d := k69) Tryd.underlying25 c69 opn69 h2
  simp at e0 hs' e3
  obtain ⟨rfl, rfl⟩ := hs'
  subst e0 e3
  exact ⟨A0, c0, l0, s.f0, s.f1, A3, c3, l3, rfl, hC0, hc0, hC3, hc3⟩
set_option maxRecDepth 100000 in
theorem open_pair {W : World} {base : Nat} {v : Value} {H : Type} {enc : TypeId × Value → H} {sp : Nat → Bool} {held : Bool} {d : DataW H} {ps : List MemPlace} (hval : Value.okWide Tryd.prog W .any base 28 v) (h : DataW.Trod enc Tryd.prog W 0 sp held 28 v d ps) :
  ∃ a b : Int, v = .agg #[.int .i64 a, .int .i64 b] ∧ (Lit.int .i64 a).wf = true ∧ (Lit.int .i64 b).wf = true := by
 have hv2 := hval
 simp only [Value.okWide, Tryd.underlying28] at hv2
 obtain ⟨cs, rfl, hsz, _⟩ := hv2
 obtain ⟨fuel, h⟩ := h
 obtain ⟨xs, m, _, _, hl, hn, hel⟩ := DataW.trod_array Tryd.underlying28 h
 obtain ⟨y0, h0⟩ := some_of hn (by decide) (hel 0 (by decide))
 obtain ⟨y1, h1⟩ := some_of hn (by decide) (hel 1 (by decide))
 rw [c28] at hl
 rw [c3] at h0 h1
 obtain ⟨cs⟩ := cs
 simp only [Value.cells] at hl h0 h1
 match cs, hl with
 | [a, b], _ =>
  obtain ⟨n0, e0, _, w0⟩ := DataW.trod_int Tryd.underlying3 h0
  obtain ⟨n1, e1, _, w1⟩ := DataW.trod_int Tryd.underlying3 h1
  simp at e0 e1
  subst e0 e1
  exact ⟨n0, n1, rfl, w0, w1⟩
end Go.Proofs.YtfmpbkolpjlfbaaDoor.RK
