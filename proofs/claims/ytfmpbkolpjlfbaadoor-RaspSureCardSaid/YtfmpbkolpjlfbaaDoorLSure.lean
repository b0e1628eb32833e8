import Derived.Test.YtfmpbkolpjlfbaaDoorG5
import Derived.Test.YtfmpbkolpjlfbaaDoorCS
import Derived.Test.YtfmpbkolpjlfbaaDoorCH
import Derived.Test.YtfmpbkolpjlfbaaDoorM0
import Derived.Test.YtfmpbkolpjlfbaaDoorProg
import Derived.Below
import Derived.Deep.Draws
import Derived.Deep.AppendLies
import Derived.Maps.AppendAt
import Derived.OwnWalk
import Derived.Laws.BytesArg
import Derived.Laws.MakeOwn
import Derived.Laws.OwnMore
import Derived.Deep.OwnRows
import Derived.Tactics
import Derived.Lib.ConvBytes
import Derived.Laws.Slices
import Derived.WalkKit
import Derived.KernelRfl
import Derived.RowKit3
import Derived.Deep.LoopGhost
import Derived.Deep.QuietTactic
import Derived.BigQuiet
import Derived.WideLaws
import Derived.Deep.DeepCutAuto
import Derived.Deep.CutBlock
import Derived.Deep.RegionHeld3
import Derived.Laws.Rows
import Derived.Lib.AppendStr
import Derived.ArgAppend
import Derived.Laws.IdiomCopy
import Derived.OrdersHeld
import Derived.Laws.BitsLemmas
import Derived.RowKit
set_option linter.unusedVariables false
set_option linter.unusedSimpArgs false
namespace Go.Proofs.YtfmpbkolpjlfbaaDoor.M
open Go.RowKit Go.Proofs.YtfmpbkolpjlfbaaDoorW.PrintWords Go.Proofs.YtfmpbkolpjlfbaaDoorW.PrintLast
theorem czz {w : World} {g : Nat} {cs : Array Value} {t : TypeId} {v : Value} (h : w.heap[g]? = some (.cells cs t (0, 0))) (i : Nat) (hv : cs[i]? = some v := by (first | (simp only [List.getElem?_toArray, List.getElem?_cons_zero, List.getElem?_cons_succ]; rfl) | exact rfl)) : w.cell? ⟨g, i, none⟩ = some v := (blk_cell h i).trans hv
end Go.Proofs.YtfmpbkolpjlfbaaDoor.M
namespace Go.Proofs.YtfmpbkolpjlfbaaDoor.PRaspKeys
open Go.RowKit Go.Proofs.YtfmpbkolpjlfbaaDoorW.PrintWords Go.Proofs.YtfmpbkolpjlfbaaDoorW.PrintLast Go.Proofs.YtfmpbkolpjlfbaaDoorW.PrintMore Go.Proofs.YtfmpbkolpjlfbaaDoor.M
attribute [local go_sem] max2_int min2_int max_two min_two max_three min_three max_four min_four   -- for this text's walks alone
/-! #### struct type 24 -/
/-! #### struct type 57 -/
/-! #### struct type 69 -/
end Go.Proofs.YtfmpbkolpjlfbaaDoor.PRaspKeys
namespace Go.Proofs.YtfmpbkolpjlfbaaDoor.PRaspKeys
open Go.RowKit Go.Proofs.YtfmpbkolpjlfbaaDoorW.PrintWords Go.Proofs.YtfmpbkolpjlfbaaDoorW.PrintLast Go.Proofs.YtfmpbkolpjlfbaaDoorW.PrintMore Go.Proofs.YtfmpbkolpjlfbaaDoor.M
attribute [local go_sem] max2_int min2_int max_two min_two max_three min_three max_four min_four   -- for this text's walks alone
end Go.Proofs.YtfmpbkolpjlfbaaDoor.PRaspKeys
namespace Go.Proofs.YtfmpbkolpjlfbaaDoor.PRaspKeys
open Go.RowKit Go.Proofs.YtfmpbkolpjlfbaaDoorW.PrintWords Go.Proofs.YtfmpbkolpjlfbaaDoorW.PrintLast Go.Proofs.YtfmpbkolpjlfbaaDoorW.PrintMore Go.Proofs.YtfmpbkolpjlfbaaDoor.M
attribute [local go_sem] max2_int min2_int max_two min_two max_three min_three max_four min_four   -- for this text's walks alone
/-! ### saronlaw03_RaspSure: function 7 -/
mutual
def saronlaw03_RaspSure.j0 : Nat → List Int → Bool → List (S57) → Int → Int → List (S69) → Int → Int → Option (Bool)
 | 0, _, _, _, _, _, _, _, _ => none
 | k + 1, x2, x19, x189000, x189001, x189002, x189003, x190000, x190001 => if x19 = true then ((saronlaw03_filed.f).bind fun t191 => (some t191)) else ((saronlaw03_state.f x190000 x190001).bind fun bt192 => ((rasp_Next.f x189000 x189001 x189002 x189003 bt192.1 bt192.2).bind fun bt194 => (if bt194.2.2 = 0 then (saronlaw03_RaspSure.l0 k x2 bt192.1 bt192.2 bt194.2.1 0 x189000 x189001 x189002 x189003) else (if bt194.2.2 = 4 then (if bt194.2.1 = 0 then ((saronlaw03_filed.f).bind fun t197 => (some t197)) else (some false)) else (some false)))))
def saronlaw03_RaspSure.l0 : Nat → List Int → Int → Int → Int → Int → List (S57) → Int → Int → List (S69) → Option (Bool)
 | 0, _, _, _, _, _, _, _, _, _ => none
 | k + 1, x2, x7, x8, x10, x12, x189000, x189001, x189002, x189003 => (rasp_Next.f x189000 x189001 x189002 x189003 x7 x8).bind fun bt198 => (if bt198.2.2 = 0 then ((saronref00_Sits.f bt198.2.1 0 x10).bind fun t201 => (if t201 = true then ((saronref00_Bears.f x189001 x189002 x7).bind fun t202 => (if ((bt198.1 == (-1)) != t202) = true then (saronlaw03_RaspSure.j2 k x2 x7 x8 x12 bt198.1 bt198.2.1 true x189000 x189001 x189002 x189003) else (saronlaw03_RaspSure.j2 k x2 x7 x8 x12 bt198.1 bt198.2.1 ((bt198.2.1 == 0) != (bt198.1 == (-1))) x189000 x189001 x189002 x189003))) else (saronlaw03_RaspSure.j2 k x2 x7 x8 x12 bt198.1 bt198.2.1 true x189000 x189001 x189002 x189003))) else (saronlaw03_RaspSure.j2 k x2 x7 x8 x12 bt198.1 bt198.2.1 true x189000 x189001 x189002 x189003))
def saronlaw03_RaspSure.j2 : Nat → List Int → Int → Int → Int → Int → Int → Bool → List (S57) → Int → Int → List (S69) → Option (Bool)
 | 0, _, _, _, _, _, _, _, _, _, _, _ => none
 | k + 1, x2, x7, x8, x12, x13, x14, x78, x189000, x189001, x189002, x189003 => if x78 = true then (some false) else (if x13 = (-1) then ((saronlaw03_filed.f).bind fun t203 => (some t203)) else ((saronref00_Sits.f x13 0 (wrap64 ((x189000.length : Int) - 1))).bind fun t204 => (saronlaw03_RaspSure.j3 k x2 x7 x8 x12 x13 x14 (!t204) x189000 x189001 x189002 x189003)))
def saronlaw03_RaspSure.j3 : Nat → List Int → Int → Int → Int → Int → Int → Bool → List (S57) → Int → Int → List (S69) → Option (Bool)
 | 0, _, _, _, _, _, _, _, _, _, _, _ => none
 | k + 1, x2, x7, x8, x12, x13, x14, x88, x189000, x189001, x189002, x189003 => if x88 = true then (some false) else (if 0 ≤ x13 then (if x13 < (x189000.length : Int) then ((saronref00_Nth.f x2 x12).bind fun t207 => ((saronref00_Draw.f ((rd_T57 x189000 x13).f0.f0) ((rd_T57 x189000 x13).f0.f1) t207).bind fun t208 => (if (wrap64 (x8 - ((rd_T57 x189000 x13).f1))) < 0 then (saronlaw03_RaspSure.j4 k x2 (wrap64 (x7 + t208)) (wrap64 (x8 - ((rd_T57 x189000 x13).f1))) (wrap64 (x14 - 1)) x12 true x189000 x189001 x189002 x189003) else ((saronref00_Sits.f (wrap64 (x7 + t208)) (-60) 60).bind fun t209 => (saronlaw03_RaspSure.j4 k x2 (wrap64 (x7 + t208)) (wrap64 (x8 - ((rd_T57 x189000 x13).f1))) (wrap64 (x14 - 1)) x12 (!t209) x189000 x189001 x189002 x189003))))) else (none)) else (none))
def saronlaw03_RaspSure.j4 : Nat → List Int → Int → Int → Int → Int → Bool → List (S57) → Int → Int → List (S69) → Option (Bool)
 | 0, _, _, _, _, _, _, _, _, _, _ => none
 | k + 1, x2, x7, x8, x10, x12, x114, x189000, x189001, x189002, x189003 => if x114 = true then (some false) else (saronlaw03_RaspSure.l0 k x2 x7 x8 x10 (wrap64 (x12 + 1)) x189000 x189001 x189002 x189003)
end
def saronlaw03_RaspSure.f (k : Nat) (l0_0 : List (S57)) (a0_1 : Int) (a0_2 : Int) (l0_3 : List (S69)) (a1_0 : Int) (a1_1 : Int) (l2 : List Int) : Option (Bool) := (saronlaw03_sound.f k l0_0 a0_1 a0_2 l0_3).bind fun t190 => (saronlaw03_RaspSure.j0 k l2 (!t190) l0_0 a0_1 a0_2 l0_3 a1_0 a1_1)
theorem saronlaw03_RaspSure.mono_l : ∀ k, (∀ y0 y1 y2 y3 y4 y5 y6 y7, LeO (saronlaw03_RaspSure.j0 k y0 y1 y2 y3 y4 y5 y6 y7) (saronlaw03_RaspSure.j0 (k + 1) y0 y1 y2 y3 y4 y5 y6 y7)) ∧ (∀ y0 y1 y2 y3 y4 y5 y6 y7 y8, LeO (saronlaw03_RaspSure.l0 k y0 y1 y2 y3 y4 y5 y6 y7 y8) (saronlaw03_RaspSure.l0 (k + 1) y0 y1 y2 y3 y4 y5 y6 y7 y8)) ∧ (∀ y0 y1 y2 y3 y4 y5 y6 y7 y8 y9 y10, LeO (saronlaw03_RaspSure.j2 k y0 y1 y2 y3 y4 y5 y6 y7 y8 y9 y10) (saronlaw03_RaspSure.j2 (k + 1) y0 y1 y2 y3 y4 y5 y6 y7 y8 y9 y10)) ∧ (∀ y0 y1 y2 y3 y4 y5 y6 y7 y8 y9 y10, LeO (saronlaw03_RaspSure.j3 k y0 y1 y2 y3 y4 y5 y6 y7 y8 y9 y10) (saronlaw03_RaspSure.j3 (k + 1) y0 y1 y2 y3 y4 y5 y6 y7 y8 y9 y10)) ∧ (∀ y0 y1 y2 y3 y4 y5 y6 y7 y8 y9, LeO (saronlaw03_RaspSure.j4 k y0 y1 y2 y3 y4 y5 y6 y7 y8 y9) (saronlaw03_RaspSure.j4 (k + 1) y0 y1 y2 y3 y4 y5 y6 y7 y8 y9))
 | 0 => ⟨fun _ _ _ _ _ _ _ _ r h => by simp [saronlaw03_RaspSure.j0] at h, fun _ _ _ _ _ _ _ _ _ r h => by simp [saronlaw03_RaspSure.l0] at h, fun _ _ _ _ _ _ _ _ _ _ _ r h => by simp [saronlaw03_RaspSure.j2] at h, fun _ _ _ _ _ _ _ _ _ _ _ r h => by simp [saronlaw03_RaspSure.j3] at h, fun _ _ _ _ _ _ _ _ _ _ r h => by simp [saronlaw03_RaspSure.j4] at h⟩
 | k + 1 => by
  obtain ⟨ih0, ih1, ih2, ih3, ih4⟩ := saronlaw03_RaspSure.mono_l k
  refine ⟨?_, ?_, ?_, ?_, ?_⟩
  ·intro y0 y1 y2 y3 y4 y5 y6 y7
   unfold saronlaw03_RaspSure.j0
   repeat' first
   | (with_reducible exact ih0 _ _ _ _ _ _ _ _)
   | (with_reducible exact ih1 _ _ _ _ _ _ _ _ _)
   | (with_reducible exact ih2 _ _ _ _ _ _ _ _ _ _ _)
   | (with_reducible exact ih3 _ _ _ _ _ _ _ _ _ _ _)
   | (with_reducible exact ih4 _ _ _ _ _ _ _ _ _ _)
   | (with_reducible exact saronlaw03_sound.mono _ _ _ _ _)
   | (with_reducible exact LeO.refl _)
   | (with_reducible exact LeO.none _)
   | (with_reducible refine LeO.ite ?_ ?_)
   | (with_reducible refine LeO.bind ?_ (fun _ => ?_))
   | exact ih0 _ _ _ _ _ _ _ _
   | exact ih1 _ _ _ _ _ _ _ _ _
   | exact ih2 _ _ _ _ _ _ _ _ _ _ _
   | exact ih3 _ _ _ _ _ _ _ _ _ _ _
   | exact ih4 _ _ _ _ _ _ _ _ _ _
   | exact saronlaw03_sound.mono _ _ _ _ _
   | exact LeO.none _
   | refine LeO.ite ?_ ?_
   | refine LeO.bind ?_ (fun _ => ?_)
  ·intro y0 y1 y2 y3 y4 y5 y6 y7 y8
   unfold saronlaw03_RaspSure.l0
   repeat' first
   | (with_reducible exact ih0 _ _ _ _ _ _ _ _)
   | (with_reducible exact ih1 _ _ _ _ _ _ _ _ _)
   | (with_reducible exact ih2 _ _ _ _ _ _ _ _ _ _ _)
   | (with_reducible exact ih3 _ _ _ _ _ _ _ _ _ _ _)
   | (with_reducible exact ih4 _ _ _ _ _ _ _ _ _ _)
   | (with_reducible exact saronlaw03_sound.mono _ _ _ _ _)
   | (with_reducible exact LeO.refl _)
   | (with_reducible exact LeO.none _)
   | (with_reducible refine LeO.ite ?_ ?_)
   | (with_reducible refine LeO.bind ?_ (fun _ => ?_))
   | exact ih0 _ _ _ _ _ _ _ _
   | exact ih1 _ _ _ _ _ _ _ _ _
   | exact ih2 _ _ _ _ _ _ _ _ _ _ _
   | exact ih3 _ _ _ _ _ _ _ _ _ _ _
   | exact ih4 _ _ _ _ _ _ _ _ _ _
   | exact saronlaw03_sound.mono _ _ _ _ _
   | exact LeO.none _
   | refine LeO.ite ?_ ?_
   | refine LeO.bind ?_ (fun _ => ?_)
  ·intro y0 y1 y2 y3 y4 y5 y6 y7 y8 y9 y10
   unfold saronlaw03_RaspSure.j2
   repeat' first
   | (with_reducible exact ih0 _ _ _ _ _ _ _ _)
   | (with_reducible exact ih1 _ _ _ _ _ _ _ _ _)
   | (with_reducible exact ih2 _ _ _ _ _ _ _ _ _ _ _)
   | (with_reducible exact ih3 _ _ _ _ _ _ _ _ _ _ _)
   | (with_reducible exact ih4 _ _ _ _ _ _ _ _ _ _)
   | (with_reducible exact saronlaw03_sound.mono _ _ _ _ _)
   | (with_reducible exact LeO.refl _)
   | (with_reducible exact LeO.none _)
   | (with_reducible refine LeO.ite ?_ ?_)
   | (with_reducible refine LeO.bind ?_ (fun _ => ?_))
   | exact ih0 _ _ _ _ _ _ _ _
   | exact ih1 _ _ _ _ _ _ _ _ _
   | exact ih2 _ _ _ _ _ _ _ _ _ _ _
   | exact ih3 _ _ _ _ _ _ _ _ _ _ _
   | exact ih4 _ _ _ _ _ _ _ _ _ _
   | exact saronlaw03_sound.mono _ _ _ _ _
   | exact LeO.none _
   | refine LeO.ite ?_ ?_
   | refine LeO.bind ?_ (fun _ => ?_)
  ·intro y0 y1 y2 y3 y4 y5 y6 y7 y8 y9 y10
   unfold saronlaw03_RaspSure.j3
   repeat' first
   | (with_reducible exact ih0 _ _ _ _ _ _ _ _)
   | (with_reducible exact ih1 _ _ _ _ _ _ _ _ _)
   | (with_reducible exact ih2 _ _ _ _ _ _ _ _ _ _ _)
   | (with_reducible exact ih3 _ _ _ _ _ _ _ _ _ _ _)
   | (with_reducible exact ih4 _ _ _ _ _ _ _ _ _ _)
   | (with_reducible exact saronlaw03_sound.mono _ _ _ _ _)
   | (with_reducible exact LeO.refl _)
   | (with_reducible exact LeO.none _)
   | (with_reducible refine LeO.ite ?_ ?_)
   | (with_reducible refine LeO.bind ?_ (fun _ => ?_))
   | exact ih0 _ _ _ _ _ _ _ _
   | exact ih1 _ _ _ _ _ _ _ _ _
   | exact ih2 _ _ _ _ _ _ _ _ _ _ _
   | exact ih3 _ _ _ _ _ _ _ _ _ _ _
   | exact ih4 _ _ _ _ _ _ _ _ _ _
   | exact saronlaw03_sound.mono _ _ _ _ _
   | exact LeO.none _
   | refine LeO.ite ?_ ?_
   | refine LeO.bind ?_ (fun _ => ?_)
  ·intro y0 y1 y2 y3 y4 y5 y6 y7 y8 y9
   unfold saronlaw03_RaspSure.j4
   repeat' first
   | (with_reducible exact ih0 _ _ _ _ _ _ _ _)
   | (with_reducible exact ih1 _ _ _ _ _ _ _ _ _)
   | (with_reducible exact ih2 _ _ _ _ _ _ _ _ _ _ _)
   | (with_reducible exact ih3 _ _ _ _ _ _ _ _ _ _ _)
   | (with_reducible exact ih4 _ _ _ _ _ _ _ _ _ _)
   | (with_reducible exact saronlaw03_sound.mono _ _ _ _ _)
   | (with_reducible exact LeO.refl _)
   | (with_reducible exact LeO.none _)
   | (with_reducible refine LeO.ite ?_ ?_)
   | (with_reducible refine LeO.bind ?_ (fun _ => ?_))
   | exact ih0 _ _ _ _ _ _ _ _
   | exact ih1 _ _ _ _ _ _ _ _ _
   | exact ih2 _ _ _ _ _ _ _ _ _ _ _
   | exact ih3 _ _ _ _ _ _ _ _ _ _ _
   | exact ih4 _ _ _ _ _ _ _ _ _ _
   | exact saronlaw03_sound.mono _ _ _ _ _
   | exact LeO.none _
   | refine LeO.ite ?_ ?_
   | refine LeO.bind ?_ (fun _ => ?_)
theorem saronlaw03_RaspSure.mono : ∀ a0 a1 a2 a3 a4 a5 a6 k, LeO (saronlaw03_RaspSure.f k a0 a1 a2 a3 a4 a5 a6) (saronlaw03_RaspSure.f (k + 1) a0 a1 a2 a3 a4 a5 a6) := by
 intro a0 a1 a2 a3 a4 a5 a6 k
 obtain ⟨ih0, ih1, ih2, ih3, ih4⟩ := saronlaw03_RaspSure.mono_l k
 unfold saronlaw03_RaspSure.f
 repeat' first
   | (with_reducible exact ih0 _ _ _ _ _ _ _ _)
   | (with_reducible exact ih1 _ _ _ _ _ _ _ _ _)
   | (with_reducible exact ih2 _ _ _ _ _ _ _ _ _ _ _)
   | (with_reducible exact ih3 _ _ _ _ _ _ _ _ _ _ _)
   | (with_reducible exact ih4 _ _ _ _ _ _ _ _ _ _)
   | (with_reducible exact saronlaw03_sound.mono _ _ _ _ _)
   | (with_reducible exact LeO.refl _)
   | (with_reducible exact LeO.none _)
   | (with_reducible refine LeO.ite ?_ ?_)
   | (with_reducible refine LeO.bind ?_ (fun _ => ?_))
   | exact ih0 _ _ _ _ _ _ _ _
   | exact ih1 _ _ _ _ _ _ _ _ _
   | exact ih2 _ _ _ _ _ _ _ _ _ _ _
   | exact ih3 _ _ _ _ _ _ _ _ _ _ _
   | exact ih4 _ _ _ _ _ _ _ _ _ _
   | exact saronlaw03_sound.mono _ _ _ _ _
   | exact LeO.none _
   | refine LeO.ite ?_ ?_
   | refine LeO.bind ?_ (fun _ => ?_)
def saronlaw03_RaspSure.T17 : Bool × List (List Nat × List Nat) := (true, [([], []), ([], []), ([1], [1]), ([], []), ([], []), ([3, 4], [3, 4]), ([2, 5, 5], [2, 5]), ([0, 6], [0, 6]), ([], []), ([], []), ([9], [9]), ([8, 10], [8, 10]), ([], []), ([12], [12]), ([7, 6, 0, 1, 2, 3, 4, 5, 6, 7], [0, 7]), ([11, 14, 0, 1, 2, 3, 4, 5, 6, 7, 8, 9, 10, 11, 14], [8, 11]), ([13, 15, 0, 1, 2, 3, 4, 5, 6, 7, 8, 9, 10, 11, 12, 13, 14, 15], [13])])
def saronlaw03_RaspSure.B17 : List Nat := [0, 0, 2, 0, 0, 24, 62, 127, 0, 0, 512, 1792, 0, 4096, 255, 20479, 65535]
theorem saronlaw03_RaspSure.tab17 : rtab .any (opsOf Tryd.f7 17) = saronlaw03_RaspSure.T17 := by kernel_rfl
theorem saronlaw03_RaspSure.bits17 : waitsOk saronlaw03_RaspSure.T17.2 saronlaw03_RaspSure.B17 = true := by kernel_rfl
set_option maxHeartbeats 8000000 in
set_option maxRecDepth 100000 in
theorem saronlaw03_RaspSure.calls (k : Nat) (A0_0 : Option Addr) (c0_0 : Nat) (l0_0 : List (S57)) (a0_1 : Int) (a0_2 : Int) (A0_3 : Option Addr) (c0_3 : Nat) (l0_3 : List (S69)) (a1_0 : Int) (a1_1 : Int) (A2 : Option Addr) (c2 : Nat) (l2 : List Int) (r : Bool) (w : World) (hr0_0 : Kd.C k57 w A0_0 l0_0.length l0_0) (hc0_0 : l0_0.length ≤ c0_0) (hr0_3 : Kd.C k69 w A0_3 l0_3.length l0_3) (hc0_3 : l0_3.length ≤ c0_3) (hr2 : Kd.C (Kd.int .i64) w A2 l2.length l2) (hc2 : l2.length ≤ c2) (hG : Glob w) (h : saronlaw03_RaspSure.f k l0_0 a0_1 a0_2 l0_3 a1_0 a1_1 l2 = some r) :
  Calls Tryd.prog 7 #[.agg #[.slice A0_0 l0_0.length c0_0, .int .i64 a0_1, .int .i64 a0_2, .slice A0_3 l0_3.length c0_3], .agg #[.int .i64 a1_0, .int .i64 a1_1], .slice A2 l2.length c2] w fun e w' => e = .returned (.bool r) ∧ Below w.heap.size w w' := by
 have hu27 := Tryd.underlying27
 have hu28 := Tryd.underlying28
 have hu24 := Tryd.underlying24
 have hu57 := Tryd.underlying57
 have HR0_0 := Aside0.mk hr0_0
 have HC0_0 := Aside0.mk hc0_0
 clear hr0_0 hc0_0
 have HR0_3 := Aside0.mk hr0_3
 have HC0_3 := Aside0.mk hc0_3
 clear hr0_3 hc0_3
 have HR2 := Aside0.mk hr2
 have HC2 := Aside0.mk hc2
 clear hr2 hc2
 have HB := Aside0.mk (Below.refl w.heap.size w)
 have HG := Aside0.mk hG
 clear hG
 have H : ((saronlaw03_sound.f k l0_0 a0_1 a0_2 l0_3).bind fun t190 => (saronlaw03_RaspSure.j0 k l2 (!t190) l0_0 a0_1 a0_2 l0_3 a1_0 a1_1)) = some r := h
 clear h
 have HC4 := Aside0.mk H
 clear H
 go_enter Tryd.func7, Tryd.ntmps7
 go_upto_region 1 with (first | ((with_reducible refine gate_dst (N := 3) rfl ?_); refine box_event ?hg (N := 3) ?hd (cs := #[.slice A0_0 l0_0.length c0_0, .int .i64 a0_1, .int .i64 a0_2, .slice A0_3 l0_3.length c0_3]) (t := 27) ?hr ?_; (case hd => rfl); (case hg => rfl); (case hr => exact TS); intro gb188 hg w5 hbox hb; have BK188 := Aside0.mk (hbox); have GW188 := Aside0.mk ((TG : w.heap.size ≤ gb188)); have GE188 := Aside0.mk ((TG : w.heap.size ≤ gb188)); replace HB := Aside0.mk (below_step TB hb); clear hb hbox hg) | ((with_reducible refine gate_dst (N := 4) rfl ?_); refine box_event ?hg (N := 4) ?hd (cs := #[.int .i64 a1_0, .int .i64 a1_1]) (t := 28) ?hr ?_; (case hd => rfl); (case hg => rfl); (case hr => exact TS); intro gb189 hg w6 hbox hb; have BK189 := Aside0.mk (hbox); have GW189 := Aside0.mk ((TG1 GE188.out : w.heap.size ≤ gb189)); have GE189 := Aside0.mk ((TG1 GE188.out : w.heap.size ≤ gb189)); have NB188_189 := Aside0.mk ((by rw [hg]; exact Nat.ne_of_lt (blk_lt (g := gb188) (o := .cells #[.slice A0_0 l0_0.length c0_0, .int .i64 a0_1, .int .i64 a0_2, .slice A0_3 l0_3.length c0_3] 27 (0, 0)) (by (with_reducible repeat (first | refine blk_drewN ?_ _ | refine blk_drew ?_ | refine blk_alloc ?_ _)); exact BK188.out)) : gb188 ≠ gb189)); have NB189_188 := Aside0.mk ((by rw [hg]; exact Nat.ne_of_gt (blk_lt (g := gb188) (o := .cells #[.slice A0_0 l0_0.length c0_0, .int .i64 a0_1, .int .i64 a0_2, .slice A0_3 l0_3.length c0_3] 27 (0, 0)) (by (with_reducible repeat (first | refine blk_drewN ?_ _ | refine blk_drew ?_ | refine blk_alloc ?_ _)); exact BK188.out)) : gb189 ≠ gb188)); replace BK188 := Aside0.mk (blk_below (g := gb188) (o := .cells #[.slice A0_0 l0_0.length c0_0, .int .i64 a0_1, .int .i64 a0_2, .slice A0_3 l0_3.length c0_3] 27 (0, 0)) (by (with_reducible repeat (first | refine blk_drewN ?_ _ | refine blk_drew ?_ | refine blk_alloc ?_ _)); exact BK188.out) hb); replace HB := Aside0.mk (below_step (TB1 GE188.out) hb); clear hb hbox hg))
 (try simp only [Act.put, lA, lZ, lS])
 go_cut [19] (fun v19 wc => ∃ (kq : Nat) (x19_3 : Bool), v19 = .bool x19_3 ∧ Aside0 (saronlaw03_RaspSure.j0 kq l2 x19_3 l0_0 a0_1 a0_2 l0_3 a1_0 a1_1 = some r) ∧ Aside0 (kq ≤ k) ∧ Aside0 (wc.heap[gb188]? = some (.cells #[(.slice A0_0 l0_0.length c0_0), .int .i64 a0_1, .int .i64 a0_2, (.slice A0_3 l0_3.length c0_3)] 27 (0, 0))) ∧ Aside0 (wc.heap[gb189]? = some (.cells #[.int .i64 a1_0, .int .i64 a1_1] 28 (0, 0))) ∧ Aside0 (Below w.heap.size w wc))
 case first => as_aux_lemma =>
  have H := HC4.out
  clear HC4
  replace H := Option.bind_eq_some_iff.mp H
  obtain ⟨t190, A70, H⟩ := H
  replace H : (saronlaw03_RaspSure.j0 k l2 (!t190) l0_0 a0_1 a0_2 l0_3 a1_0 a1_1) = some r := H
  have A7 := Aside0.mk A70
  clear A70
  have H' := Aside0.mk H
  clear H
  have hnb8 := NB188_189.out
  have hnc8 := NB189_188.out
  have hcz9_0 := czz BK188.out 0
  have hcz9_1 := czz BK188.out 1
  have hcz9_2 := czz BK188.out 2
  have hcz9_3 := czz BK188.out 3
  have hfz9_0 := fz BK188.out 0
  have hfz9_1 := fz BK188.out 1
  have hfz9_2 := fz BK188.out 2
  have hfz9_3 := fz BK188.out 3
  go_wp2_with (first | ((with_reducible refine gate_callee (f := 37) rfl ?_); refine goesL_ (some 18) rfl rfl Tryd.func37 (by kernel_rfl) rfl #[.agg #[.slice A0_0 l0_0.length c0_0, .int .i64 a0_1, .int .i64 a0_2, .slice A0_3 l0_3.length c0_3]] rfl TM ?_; (with_reducible refine (saronlaw03_sound.calls k _ _ l0_0 a0_1 a0_2 _ _ l0_3 t190 _ ?side1 ?side2 ?side3 ?side4 A7.out).mono ?_); (case side1 => exact TC HR0_0.out); (case side2 => exact HC0_0.out); (case side3 => exact TC HR0_3.out); (case side4 => exact HC0_3.out); rintro e w10 ⟨rfl, hb⟩; refine ⟨_, rfl, ?_⟩; replace BK188 := Aside0.mk (blk_below (g := gb188) (o := .cells #[.slice A0_0 l0_0.length c0_0, .int .i64 a0_1, .int .i64 a0_2, .slice A0_3 l0_3.length c0_3] 27 (0, 0)) (by (with_reducible repeat (first | refine blk_drewN ?_ _ | refine blk_drew ?_ | refine blk_alloc ?_ _)); exact BK188.out) hb); replace BK189 := Aside0.mk (blk_below (g := gb189) (o := .cells #[.int .i64 a1_0, .int .i64 a1_1] 28 (0, 0)) (by (with_reducible repeat (first | refine blk_drewN ?_ _ | refine blk_drew ?_ | refine blk_alloc ?_ _)); exact BK189.out) hb); replace HB := Aside0.mk (below_step (TB2 GE188.out GE189.out) hb); (try clear hb); (try clear hb2); (try clear hk); (try clear hi)))
  go_meet
  case rel => exact ⟨_, (!t190), TT, H', ⟨by first | omega | exact Nat.le_refl _⟩, ⟨by (with_reducible repeat (first | refine blk_drewN ?_ _ | refine blk_drew ?_ | refine blk_alloc ?_ _)); exact BK188.out⟩, ⟨by (with_reducible repeat (first | refine blk_drewN ?_ _ | refine blk_drew ?_ | refine blk_alloc ?_ _)); exact BK189.out⟩, ⟨TB2 GE188.out GE189.out⟩⟩
 case rest => as_aux_lemma =>
  clear HC4
  try clear c2
  try clear p2
  try clear c3
  try clear c7
  try clear c8
  try clear hcz9_0 hcz9_1 hcz9_2 hcz9_3 hfz9_0 hfz9_1 hfz9_2 hfz9_3
  obtain ⟨kq, x19_3, rfl, HA, HJ3, BK188, BK189, HB⟩ := hcut
  cases kq with
  | zero => exact absurd HA.out (by simp [saronlaw03_RaspSure.j0])
  | succ kj3 =>
   have H := HA.out
   clear HA
   simp only [saronlaw03_RaspSure.j0] at H
   by_cases c11 : x19_3 = true
   ·subst c11
    have H1 : ((saronlaw03_filed.f).bind fun t191 => (some t191)) = some r := by rw [if_pos rfl] at H; exact H
    clear H
    have H := H1
    clear H1
    replace H := Option.bind_eq_some_iff.mp H
    obtain ⟨t191, A120, H⟩ := H
    replace H : (some t191) = some r := H
    have A12 := Aside0.mk A120
    clear A120
    obtain rfl := Option.some.inj H
    go_wp2_with (first | ((with_reducible refine gate_callee (f := 22) rfl ?_); refine goesL_ (some 20) rfl rfl Tryd.func22 (by kernel_rfl) rfl #[] rfl TM ?_; (with_reducible refine (saronlaw03_filed.calls  t191 _ ?side1 A12.out).mono ?_); (case side1 => exact Glob.fr HG.out (Fr.of_below (TB2 GE188.out GE189.out))); rintro e w13 ⟨rfl, hb⟩; refine ⟨_, rfl, ?_⟩; replace BK188 := Aside0.mk (blk_below (g := gb188) (o := .cells #[.slice A0_0 l0_0.length c0_0, .int .i64 a0_1, .int .i64 a0_2, .slice A0_3 l0_3.length c0_3] 27 (0, 0)) (by (with_reducible repeat (first | refine blk_drewN ?_ _ | refine blk_drew ?_ | refine blk_alloc ?_ _)); exact BK188.out) hb); replace BK189 := Aside0.mk (blk_below (g := gb189) (o := .cells #[.int .i64 a1_0, .int .i64 a1_1] 28 (0, 0)) (by (with_reducible repeat (first | refine blk_drewN ?_ _ | refine blk_drew ?_ | refine blk_alloc ?_ _)); exact BK189.out) hb); replace HB := Aside0.mk (below_step (TB2 GE188.out GE189.out) hb); (try clear hb); (try clear hb2); (try clear hk); (try clear hi)))
    go_ret
    exact ⟨TR, TB2 GE188.out GE189.out⟩
   ·replace c11 := Bool.eq_false_iff.mpr c11
    subst c11
    have H1 : ((saronlaw03_state.f a1_0 a1_1).bind fun bt192 => ((rasp_Next.f l0_0 a0_1 a0_2 l0_3 bt192.1 bt192.2).bind fun bt194 => (if bt194.2.2 = 0 then (saronlaw03_RaspSure.l0 kj3 l2 bt192.1 bt192.2 bt194.2.1 0 l0_0 a0_1 a0_2 l0_3) else (if bt194.2.2 = 4 then (if bt194.2.1 = 0 then ((saronlaw03_filed.f).bind fun t197 => (some t197)) else (some false)) else (some false))))) = some r := by rw [if_neg (show ¬ (false = true) by decide)] at H; exact H
    clear H
    have H := H1
    clear H1
    replace H := Option.bind_eq_some_iff.mp H
    obtain ⟨⟨t192, t193⟩, A140, H⟩ := H
    replace H : ((rasp_Next.f l0_0 a0_1 a0_2 l0_3 t192 t193).bind fun bt194 => (if bt194.2.2 = 0 then (saronlaw03_RaspSure.l0 kj3 l2 t192 t193 bt194.2.1 0 l0_0 a0_1 a0_2 l0_3) else (if bt194.2.2 = 4 then (if bt194.2.1 = 0 then ((saronlaw03_filed.f).bind fun t197 => (some t197)) else (some false)) else (some false)))) = some r := H
    have A14 := Aside0.mk A140
    clear A140
    replace H := Option.bind_eq_some_iff.mp H
    obtain ⟨⟨t194, t195, t196⟩, A150, H⟩ := H
    replace H : (if t196 = 0 then (saronlaw03_RaspSure.l0 kj3 l2 t192 t193 t195 0 l0_0 a0_1 a0_2 l0_3) else (if t196 = 4 then (if t195 = 0 then ((saronlaw03_filed.f).bind fun t197 => (some t197)) else (some false)) else (some false))) = some r := H
    have A15 := Aside0.mk A150
    clear A150
    by_cases c16 : t196 = 0
    ·rw [if_pos c16] at H
     have c16b0 : (t196 == 0) = true := beq_iff_eq.mpr c16
     have c16b1 : (t196 != 0) = false := bne_eq_false_iff_eq.mpr c16
     clear c16
     have H' := Aside0.mk H
     clear H
     have hnb17 := NB189_188.out
     have hnc17 := NB188_189.out
     have hcz18_0 := czz BK189.out 0
     have hcz18_1 := czz BK189.out 1
     have hfz18_0 := fz BK189.out 0
     have hfz18_1 := fz BK189.out 1
     go_wp2_with (first | ((with_reducible refine gate_callee (f := 38) rfl ?_); refine goesL_ (some 23) rfl rfl Tryd.func38 (by kernel_rfl) rfl #[.agg #[.int .i64 a1_0, .int .i64 a1_1]] rfl TM ?_; (with_reducible refine (saronlaw03_state.calls a1_0 a1_1 t192 t193 _ A14.out).mono ?_); rintro e w19 ⟨rfl, hb⟩; refine ⟨_, rfl, ?_⟩; replace BK188 := Aside0.mk (blk_below (g := gb188) (o := .cells #[.slice A0_0 l0_0.length c0_0, .int .i64 a0_1, .int .i64 a0_2, .slice A0_3 l0_3.length c0_3] 27 (0, 0)) (by (with_reducible repeat (first | refine blk_drewN ?_ _ | refine blk_drew ?_ | refine blk_alloc ?_ _)); exact BK188.out) hb); replace BK189 := Aside0.mk (blk_below (g := gb189) (o := .cells #[.int .i64 a1_0, .int .i64 a1_1] 28 (0, 0)) (by (with_reducible repeat (first | refine blk_drewN ?_ _ | refine blk_drew ?_ | refine blk_alloc ?_ _)); exact BK189.out) hb); replace HB := Aside0.mk (below_step (TB2 GE188.out GE189.out) hb); (try clear hb); (try clear hb2); (try clear hk); (try clear hi); have hcz20_0 := czz BK188.out 0; have hcz20_1 := czz BK188.out 1; have hcz20_2 := czz BK188.out 2; have hcz20_3 := czz BK188.out 3; have hfz20_0 := fz BK188.out 0; have hfz20_1 := fz BK188.out 1; have hfz20_2 := fz BK188.out 2; have hfz20_3 := fz BK188.out 3) | ((with_reducible refine gate_callee (f := 16) rfl ?_); refine goesL_ (some 30) rfl rfl Tryd.func16 (by kernel_rfl) rfl #[.agg #[.slice A0_0 l0_0.length c0_0, .int .i64 a0_1, .int .i64 a0_2, .slice A0_3 l0_3.length c0_3], .int .i64 t192, .int .i64 t193] rfl TM ?_; (with_reducible refine (rasp_Next.calls _ _ l0_0 a0_1 a0_2 _ _ l0_3 t192 t193 t194 t195 t196 _ ?side1 ?side2 ?side3 ?side4 ?side5 A15.out).mono ?_); (case side1 => exact TC HR0_0.out); (case side2 => exact HC0_0.out); (case side3 => exact TC HR0_3.out); (case side4 => exact HC0_3.out); (case side5 => exact Glob.fr HG.out (Fr.of_below (TB2 GE188.out GE189.out))); rintro e w21 ⟨rfl, hb⟩; refine ⟨_, rfl, ?_⟩; replace BK188 := Aside0.mk (blk_below (g := gb188) (o := .cells #[.slice A0_0 l0_0.length c0_0, .int .i64 a0_1, .int .i64 a0_2, .slice A0_3 l0_3.length c0_3] 27 (0, 0)) (by (with_reducible repeat (first | refine blk_drewN ?_ _ | refine blk_drew ?_ | refine blk_alloc ?_ _)); exact BK188.out) hb); replace BK189 := Aside0.mk (blk_below (g := gb189) (o := .cells #[.int .i64 a1_0, .int .i64 a1_1] 28 (0, 0)) (by (with_reducible repeat (first | refine blk_drewN ?_ _ | refine blk_drew ?_ | refine blk_alloc ?_ _)); exact BK189.out) hb); replace HB := Aside0.mk (below_step (TB2 GE188.out GE189.out) hb); (try clear hb); (try clear hb2); (try clear hk); (try clear hi)))
     go_loopg [7, 8, 10, 12] kj3 (fun kq v7 v8 v10 v12 w' => ∃ (x7_2 : Int) (x8_2 : Int) (x10_2 : Int) (x12_2 : Int), v7 = .int .i64 x7_2 ∧ v8 = .int .i64 x8_2 ∧ v10 = .int .i64 x10_2 ∧ v12 = .int .i64 x12_2 ∧ Aside0 (saronlaw03_RaspSure.l0 kq l2 x7_2 x8_2 x10_2 x12_2 l0_0 a0_1 a0_2 l0_3 = some r) ∧ Aside0 (kq ≤ kj3) ∧ Aside0 (w'.heap[gb188]? = some (.cells #[(.slice A0_0 l0_0.length c0_0), .int .i64 a0_1, .int .i64 a0_2, (.slice A0_3 l0_3.length c0_3)] 27 (0, 0))) ∧ Aside0 (w'.heap[gb189]? = some (.cells #[.int .i64 a1_0, .int .i64 a1_1] 28 (0, 0))) ∧ Aside0 (Below w.heap.size w w'))
     case atStart => exact ⟨(t192), (t193), (t195), (0), TT, TT, TT, TT, H', ⟨Nat.le_refl _⟩, ⟨by (with_reducible repeat (first | refine blk_drewN ?_ _ | refine blk_drew ?_ | refine blk_alloc ?_ _)); exact BK188.out⟩, ⟨by (with_reducible repeat (first | refine blk_drewN ?_ _ | refine blk_drew ?_ | refine blk_alloc ?_ _)); exact BK189.out⟩, ⟨TB2 GE188.out GE189.out⟩⟩
     case round => as_aux_lemma =>
      clear H'
      try clear c1
      try clear c2
      try clear p2
      try clear c3
      try clear c7
      try clear c8
      try clear c11
      try clear c16
      try clear c16b0
      try clear c16b1
      try clear c17
      try clear hcz18_0 hcz18_1
      try clear hcz20_0 hcz20_1 hcz20_2 hcz20_3
      try clear hcz9_0 hcz9_1 hcz9_2 hcz9_3
      try clear hfz18_0 hfz18_1
      try clear hfz20_0 hfz20_1 hfz20_2 hfz20_3
      try clear hfz9_0 hfz9_1 hfz9_2 hfz9_3
      try clear p2
      obtain ⟨x7_2, x8_2, x10_2, x12_2, rfl, rfl, rfl, rfl, HA, HK2, BK188, BK189, HB⟩ := hrel
      cases gk with
      | zero => exact absurd HA.out (by simp [saronlaw03_RaspSure.l0])
      | succ k2 =>
       have H := HA.out
       clear HA
       simp only [saronlaw03_RaspSure.l0] at H
       replace H := Option.bind_eq_some_iff.mp H
       obtain ⟨⟨t198, t199, t200⟩, A220, H⟩ := H
       replace H : (if t200 = 0 then ((saronref00_Sits.f t199 0 x10_2).bind fun t201 => (if t201 = true then ((saronref00_Bears.f a0_1 a0_2 x7_2).bind fun t202 => (if ((t198 == (-1)) != t202) = true then (saronlaw03_RaspSure.j2 k2 l2 x7_2 x8_2 x12_2 t198 t199 true l0_0 a0_1 a0_2 l0_3) else (saronlaw03_RaspSure.j2 k2 l2 x7_2 x8_2 x12_2 t198 t199 ((t199 == 0) != (t198 == (-1))) l0_0 a0_1 a0_2 l0_3))) else (saronlaw03_RaspSure.j2 k2 l2 x7_2 x8_2 x12_2 t198 t199 true l0_0 a0_1 a0_2 l0_3))) else (saronlaw03_RaspSure.j2 k2 l2 x7_2 x8_2 x12_2 t198 t199 true l0_0 a0_1 a0_2 l0_3)) = some r := H
       have A22 := Aside0.mk A220
       clear A220
       have HC23 := Aside0.mk H
       clear H
       have hnb24 := NB188_189.out
       have hnc24 := NB189_188.out
       have hcz25_0 := czz BK188.out 0
       have hcz25_1 := czz BK188.out 1
       have hcz25_2 := czz BK188.out 2
       have hcz25_3 := czz BK188.out 3
       have hfz25_0 := fz BK188.out 0
       have hfz25_1 := fz BK188.out 1
       have hfz25_2 := fz BK188.out 2
       have hfz25_3 := fz BK188.out 3
       go_upto_region 10 with (first | ((with_reducible refine gate_callee (f := 16) rfl ?_); refine goesL_ (some 51) rfl rfl Tryd.func16 (by kernel_rfl) rfl #[.agg #[.slice A0_0 l0_0.length c0_0, .int .i64 a0_1, .int .i64 a0_2, .slice A0_3 l0_3.length c0_3], .int .i64 x7_2, .int .i64 x8_2] rfl TM ?_; (with_reducible refine (rasp_Next.calls _ _ l0_0 a0_1 a0_2 _ _ l0_3 x7_2 x8_2 t198 t199 t200 _ ?side1 ?side2 ?side3 ?side4 ?side5 A22.out).mono ?_); (case side1 => exact TC HR0_0.out); (case side2 => exact HC0_0.out); (case side3 => exact TC HR0_3.out); (case side4 => exact HC0_3.out); (case side5 => exact Glob.fr HG.out (Fr.of_below (TB2 GE188.out GE189.out))); rintro e w26 ⟨rfl, hb⟩; refine ⟨_, rfl, ?_⟩; replace BK188 := Aside0.mk (blk_below (g := gb188) (o := .cells #[.slice A0_0 l0_0.length c0_0, .int .i64 a0_1, .int .i64 a0_2, .slice A0_3 l0_3.length c0_3] 27 (0, 0)) (by (with_reducible repeat (first | refine blk_drewN ?_ _ | refine blk_drew ?_ | refine blk_alloc ?_ _)); exact BK188.out) hb); replace BK189 := Aside0.mk (blk_below (g := gb189) (o := .cells #[.int .i64 a1_0, .int .i64 a1_1] 28 (0, 0)) (by (with_reducible repeat (first | refine blk_drewN ?_ _ | refine blk_drew ?_ | refine blk_alloc ?_ _)); exact BK189.out) hb); replace HB := Aside0.mk (below_step (TB2 GE188.out GE189.out) hb); (try clear hb); (try clear hb2); (try clear hk); (try clear hi)))
       (try simp only [Act.put, lA, lZ, lS])
       go_cut [78] (fun v78 wc => ∃ (kq : Nat) (x78_22 : Bool), v78 = .bool x78_22 ∧ Aside0 (saronlaw03_RaspSure.j2 kq l2 x7_2 x8_2 x12_2 t198 t199 x78_22 l0_0 a0_1 a0_2 l0_3 = some r) ∧ Aside0 (kq ≤ k2) ∧ Aside0 (wc.heap[gb188]? = some (.cells #[(.slice A0_0 l0_0.length c0_0), .int .i64 a0_1, .int .i64 a0_2, (.slice A0_3 l0_3.length c0_3)] 27 (0, 0))) ∧ Aside0 (wc.heap[gb189]? = some (.cells #[.int .i64 a1_0, .int .i64 a1_1] 28 (0, 0))) ∧ Aside0 (Below w.heap.size w wc))
       case first => as_aux_lemma =>
        have H := HC23.out
        clear HC23
        by_cases c27 : t200 = 0
        ·rw [if_pos c27] at H
         have c27b0 : (t200 == 0) = true := beq_iff_eq.mpr c27
         have c27b1 : (t200 != 0) = false := bne_eq_false_iff_eq.mpr c27
         clear c27
         (first | rw [c27b0] | (simp only [i64_w, i32_w]; rw [c27b0]) | skip)
         replace H := Option.bind_eq_some_iff.mp H
         obtain ⟨t201, A280, H⟩ := H
         replace H : (if t201 = true then ((saronref00_Bears.f a0_1 a0_2 x7_2).bind fun t202 => (if ((t198 == (-1)) != t202) = true then (saronlaw03_RaspSure.j2 k2 l2 x7_2 x8_2 x12_2 t198 t199 true l0_0 a0_1 a0_2 l0_3) else (saronlaw03_RaspSure.j2 k2 l2 x7_2 x8_2 x12_2 t198 t199 ((t199 == 0) != (t198 == (-1))) l0_0 a0_1 a0_2 l0_3))) else (saronlaw03_RaspSure.j2 k2 l2 x7_2 x8_2 x12_2 t198 t199 true l0_0 a0_1 a0_2 l0_3)) = some r := H
         have A28 := Aside0.mk A280
         clear A280
         by_cases c29 : t201 = true
         ·subst c29
          have H1 : ((saronref00_Bears.f a0_1 a0_2 x7_2).bind fun t202 => (if ((t198 == (-1)) != t202) = true then (saronlaw03_RaspSure.j2 k2 l2 x7_2 x8_2 x12_2 t198 t199 true l0_0 a0_1 a0_2 l0_3) else (saronlaw03_RaspSure.j2 k2 l2 x7_2 x8_2 x12_2 t198 t199 ((t199 == 0) != (t198 == (-1))) l0_0 a0_1 a0_2 l0_3))) = some r := by rw [if_pos rfl] at H; exact H
          clear H
          have H := H1
          clear H1
          replace H := Option.bind_eq_some_iff.mp H
          obtain ⟨t202, A300, H⟩ := H
          replace H : (if ((t198 == (-1)) != t202) = true then (saronlaw03_RaspSure.j2 k2 l2 x7_2 x8_2 x12_2 t198 t199 true l0_0 a0_1 a0_2 l0_3) else (saronlaw03_RaspSure.j2 k2 l2 x7_2 x8_2 x12_2 t198 t199 ((t199 == 0) != (t198 == (-1))) l0_0 a0_1 a0_2 l0_3)) = some r := H
          have A30 := Aside0.mk A300
          clear A300
          by_cases c31 : ((t198 == (-1)) != t202) = true
          ·rw [if_pos c31] at H
           have c31b0 : ((t198 == (-1)) != t202) = true := c31
           (try (have c31b1 : decide ((t198 == (-1)) = t202) = false := by simpa using c31))
           (try (have c31b2 : ((t198 == (-1)) == t202) = false := by simpa using c31))
           (try (have c31b3 : ¬ ((t198 == (-1)) = t202) := by simpa using c31))
           clear c31
           have H' := Aside0.mk H
           clear H
           go_wp2_with (first | (go_at_call 39; (with_reducible refine (saronref00_Sits.calls t199 0 x10_2 true _ A28.out).mono ?_); rintro e w' ⟨rfl, ⟨nd, rfl⟩⟩; have hnb32 := NB188_189.out; have hnc32 := NB189_188.out; have hcz33_0 := czz BK188.out 0; have hcz33_1 := czz BK188.out 1; have hcz33_2 := czz BK188.out 2; have hcz33_3 := czz BK188.out 3; have hfz33_0 := fz BK188.out 0; have hfz33_1 := fz BK188.out 1; have hfz33_2 := fz BK188.out 2; have hfz33_3 := fz BK188.out 3) | (go_at_call 40; (with_reducible refine (saronref00_Bears.calls a0_1 a0_2 x7_2 t202 _ A30.out).mono ?_); rintro e w34 ⟨rfl, hb⟩; replace BK188 := Aside0.mk (blk_below (g := gb188) (o := .cells #[.slice A0_0 l0_0.length c0_0, .int .i64 a0_1, .int .i64 a0_2, .slice A0_3 l0_3.length c0_3] 27 (0, 0)) (by (with_reducible repeat (first | refine blk_drewN ?_ _ | refine blk_drew ?_ | refine blk_alloc ?_ _)); exact BK188.out) hb); replace BK189 := Aside0.mk (blk_below (g := gb189) (o := .cells #[.int .i64 a1_0, .int .i64 a1_1] 28 (0, 0)) (by (with_reducible repeat (first | refine blk_drewN ?_ _ | refine blk_drew ?_ | refine blk_alloc ?_ _)); exact BK189.out) hb); replace HB := Aside0.mk (below_step (TB2 GE188.out GE189.out) hb); (try clear hb); (try clear hb2); (try clear hk); (try clear hi)))
           go_meet
           case rel => exact ⟨_, (true), TT, H', ⟨by have := HJ3.out; have := HK2.out; first | omega | exact Nat.le_refl _⟩, ⟨by (with_reducible repeat (first | refine blk_drewN ?_ _ | refine blk_drew ?_ | refine blk_alloc ?_ _)); exact BK188.out⟩, ⟨by (with_reducible repeat (first | refine blk_drewN ?_ _ | refine blk_drew ?_ | refine blk_alloc ?_ _)); exact BK189.out⟩, ⟨TB2 GE188.out GE189.out⟩⟩
          ·rw [if_neg c31] at H
           have c31b0 : ((t198 == (-1)) != t202) = false := by simpa using c31
           (try (have c31b1 : decide ((t198 == (-1)) = t202) = true := by simpa using c31))
           (try (have c31b2 : ((t198 == (-1)) == t202) = true := by simpa using c31))
           clear c31
           have H' := Aside0.mk H
           clear H
           go_wp2_with (first | (go_at_call 39; (with_reducible refine (saronref00_Sits.calls t199 0 x10_2 true _ A28.out).mono ?_); rintro e w' ⟨rfl, ⟨nd, rfl⟩⟩; have hnb35 := NB188_189.out; have hnc35 := NB189_188.out; have hcz36_0 := czz BK188.out 0; have hcz36_1 := czz BK188.out 1; have hcz36_2 := czz BK188.out 2; have hcz36_3 := czz BK188.out 3; have hfz36_0 := fz BK188.out 0; have hfz36_1 := fz BK188.out 1; have hfz36_2 := fz BK188.out 2; have hfz36_3 := fz BK188.out 3) | (go_at_call 40; (with_reducible refine (saronref00_Bears.calls a0_1 a0_2 x7_2 t202 _ A30.out).mono ?_); rintro e w37 ⟨rfl, hb⟩; replace BK188 := Aside0.mk (blk_below (g := gb188) (o := .cells #[.slice A0_0 l0_0.length c0_0, .int .i64 a0_1, .int .i64 a0_2, .slice A0_3 l0_3.length c0_3] 27 (0, 0)) (by (with_reducible repeat (first | refine blk_drewN ?_ _ | refine blk_drew ?_ | refine blk_alloc ?_ _)); exact BK188.out) hb); replace BK189 := Aside0.mk (blk_below (g := gb189) (o := .cells #[.int .i64 a1_0, .int .i64 a1_1] 28 (0, 0)) (by (with_reducible repeat (first | refine blk_drewN ?_ _ | refine blk_drew ?_ | refine blk_alloc ?_ _)); exact BK189.out) hb); replace HB := Aside0.mk (below_step (TB2 GE188.out GE189.out) hb); (try clear hb); (try clear hb2); (try clear hk); (try clear hi)))
           go_meet
           case rel => exact ⟨_, (((t199 == 0) != (t198 == (-1)))), TT, H', ⟨by have := HJ3.out; have := HK2.out; first | omega | exact Nat.le_refl _⟩, ⟨by (with_reducible repeat (first | refine blk_drewN ?_ _ | refine blk_drew ?_ | refine blk_alloc ?_ _)); exact BK188.out⟩, ⟨by (with_reducible repeat (first | refine blk_drewN ?_ _ | refine blk_drew ?_ | refine blk_alloc ?_ _)); exact BK189.out⟩, ⟨TB2 GE188.out GE189.out⟩⟩
         ·replace c29 := Bool.eq_false_iff.mpr c29
          subst c29
          have H1 : (saronlaw03_RaspSure.j2 k2 l2 x7_2 x8_2 x12_2 t198 t199 true l0_0 a0_1 a0_2 l0_3) = some r := by rw [if_neg (show ¬ (false = true) by decide)] at H; exact H
          clear H
          have H := H1
          clear H1
          have H' := Aside0.mk H
          clear H
          go_wp2_with (first | (go_at_call 39; (with_reducible refine (saronref00_Sits.calls t199 0 x10_2 false _ A28.out).mono ?_); rintro e w' ⟨rfl, ⟨nd, rfl⟩⟩))
          go_meet
          case rel => exact ⟨_, (true), TT, H', ⟨by have := HJ3.out; have := HK2.out; first | omega | exact Nat.le_refl _⟩, ⟨by (with_reducible repeat (first | refine blk_drewN ?_ _ | refine blk_drew ?_ | refine blk_alloc ?_ _)); exact BK188.out⟩, ⟨by (with_reducible repeat (first | refine blk_drewN ?_ _ | refine blk_drew ?_ | refine blk_alloc ?_ _)); exact BK189.out⟩, ⟨TB2 GE188.out GE189.out⟩⟩
        ·rw [if_neg c27] at H
         have c27b0 : (t200 == 0) = false := beq_eq_false_iff_ne.mpr c27
         have c27b1 : (t200 != 0) = true := bne_iff_ne.mpr c27
         (first | rw [c27b0] | (simp only [i64_w, i32_w]; rw [c27b0]) | skip)
         have H' := Aside0.mk H
         clear H
         go_wp2
         go_meet
         case rel => exact ⟨_, (true), TT, H', ⟨by have := HJ3.out; have := HK2.out; first | omega | exact Nat.le_refl _⟩, ⟨by (with_reducible repeat (first | refine blk_drewN ?_ _ | refine blk_drew ?_ | refine blk_alloc ?_ _)); exact BK188.out⟩, ⟨by (with_reducible repeat (first | refine blk_drewN ?_ _ | refine blk_drew ?_ | refine blk_alloc ?_ _)); exact BK189.out⟩, ⟨TB2 GE188.out GE189.out⟩⟩
       case rest => as_aux_lemma =>
        clear HC23
        try clear c1
        try clear c2
        try clear p2
        try clear c3
        try clear c7
        try clear c8
        try clear c11
        try clear c16
        try clear c16b0
        try clear c16b1
        try clear c17
        try clear c22
        try clear c24
        try clear c27
        try clear c27b0
        try clear c27b1
        try clear c29
        try clear c31
        try clear c31b0
        try clear c31b1
        try clear c31b2
        try clear c32
        try clear c35
        try clear c37
        try clear hcz18_0 hcz18_1
        try clear hcz20_0 hcz20_1 hcz20_2 hcz20_3
        try clear hcz25_0 hcz25_1 hcz25_2 hcz25_3
        try clear hcz33_0 hcz33_1 hcz33_2 hcz33_3
        try clear hcz36_0 hcz36_1 hcz36_2 hcz36_3
        try clear hcz9_0 hcz9_1 hcz9_2 hcz9_3
        try clear hfz18_0 hfz18_1
        try clear hfz20_0 hfz20_1 hfz20_2 hfz20_3
        try clear hfz25_0 hfz25_1 hfz25_2 hfz25_3
        try clear hfz33_0 hfz33_1 hfz33_2 hfz33_3
        try clear hfz36_0 hfz36_1 hfz36_2 hfz36_3
        try clear hfz9_0 hfz9_1 hfz9_2 hfz9_3
        try clear p2
        obtain ⟨kq, x78_22, rfl, HA, HJ22, BK188, BK189, HB⟩ := hcut
        cases kq with
        | zero => exact absurd HA.out (by simp [saronlaw03_RaspSure.j2])
        | succ kj22 =>
         have H := HA.out
         clear HA
         simp only [saronlaw03_RaspSure.j2] at H
         by_cases c38 : x78_22 = true
         ·subst c38
          have H1 : (some false) = some r := by rw [if_pos rfl] at H; exact H
          clear H
          have H := H1
          clear H1
          obtain rfl := Option.some.inj H
          go_wp2
          go_ret
          exact ⟨TR, TB2 GE188.out GE189.out⟩
         ·replace c38 := Bool.eq_false_iff.mpr c38
          subst c38
          have H1 : (if t198 = (-1) then ((saronlaw03_filed.f).bind fun t203 => (some t203)) else ((saronref00_Sits.f t198 0 (wrap64 ((l0_0.length : Int) - 1))).bind fun t204 => (saronlaw03_RaspSure.j3 kj22 l2 x7_2 x8_2 x12_2 t198 t199 (!t204) l0_0 a0_1 a0_2 l0_3))) = some r := by rw [if_neg (show ¬ (false = true) by decide)] at H; exact H
          clear H
          have H := H1
          clear H1
          by_cases c39 : t198 = (-1)
          ·rw [if_pos c39] at H
           have c39b0 : (t198 == (-1)) = true := beq_iff_eq.mpr c39
           have c39b1 : (t198 != (-1)) = false := bne_eq_false_iff_eq.mpr c39
           clear c39
           replace H := Option.bind_eq_some_iff.mp H
           obtain ⟨t203, A400, H⟩ := H
           replace H : (some t203) = some r := H
           have A40 := Aside0.mk A400
           clear A400
           obtain rfl := Option.some.inj H
           go_wp2_with (first | ((with_reducible refine gate_callee (f := 22) rfl ?_); refine goesL_ (some 81) rfl rfl Tryd.func22 (by kernel_rfl) rfl #[] rfl TM ?_; (with_reducible refine (saronlaw03_filed.calls  t203 _ ?side1 A40.out).mono ?_); (case side1 => exact Glob.fr HG.out (Fr.of_below (TB2 GE188.out GE189.out))); rintro e w41 ⟨rfl, hb⟩; refine ⟨_, rfl, ?_⟩; replace BK188 := Aside0.mk (blk_below (g := gb188) (o := .cells #[.slice A0_0 l0_0.length c0_0, .int .i64 a0_1, .int .i64 a0_2, .slice A0_3 l0_3.length c0_3] 27 (0, 0)) (by (with_reducible repeat (first | refine blk_drewN ?_ _ | refine blk_drew ?_ | refine blk_alloc ?_ _)); exact BK188.out) hb); replace BK189 := Aside0.mk (blk_below (g := gb189) (o := .cells #[.int .i64 a1_0, .int .i64 a1_1] 28 (0, 0)) (by (with_reducible repeat (first | refine blk_drewN ?_ _ | refine blk_drew ?_ | refine blk_alloc ?_ _)); exact BK189.out) hb); replace HB := Aside0.mk (below_step (TB2 GE188.out GE189.out) hb); (try clear hb); (try clear hb2); (try clear hk); (try clear hi)))
           go_ret
           exact ⟨TR, TB2 GE188.out GE189.out⟩
          ·rw [if_neg c39] at H
           have c39b0 : (t198 == (-1)) = false := beq_eq_false_iff_ne.mpr c39
           have c39b1 : (t198 != (-1)) = true := bne_iff_ne.mpr c39
           have HC42 := Aside0.mk H
           clear H
           go_upto_region 14 with (fail)
           go_cut [88] (fun v88 wc => ∃ (kq : Nat) (x88_41 : Bool), v88 = .bool x88_41 ∧ Aside0 (saronlaw03_RaspSure.j3 kq l2 x7_2 x8_2 x12_2 t198 t199 x88_41 l0_0 a0_1 a0_2 l0_3 = some r) ∧ Aside0 (kq ≤ kj22) ∧ Aside0 (wc.heap[gb188]? = some (.cells #[(.slice A0_0 l0_0.length c0_0), .int .i64 a0_1, .int .i64 a0_2, (.slice A0_3 l0_3.length c0_3)] 27 (0, 0))) ∧ Aside0 (wc.heap[gb189]? = some (.cells #[.int .i64 a1_0, .int .i64 a1_1] 28 (0, 0))) ∧ Aside0 (Below w.heap.size w wc))
           case first => as_aux_lemma =>
            have H := HC42.out
            clear HC42
            replace H := Option.bind_eq_some_iff.mp H
            obtain ⟨t204, A430, H⟩ := H
            replace H : (saronlaw03_RaspSure.j3 kj22 l2 x7_2 x8_2 x12_2 t198 t199 (!t204) l0_0 a0_1 a0_2 l0_3) = some r := H
            have A43 := Aside0.mk A430
            clear A430
            have H' := Aside0.mk H
            clear H
            have hnb44 := NB188_189.out
            have hnc44 := NB189_188.out
            have hcz45_0 := czz BK188.out 0
            have hcz45_1 := czz BK188.out 1
            have hcz45_2 := czz BK188.out 2
            have hcz45_3 := czz BK188.out 3
            have hfz45_0 := fz BK188.out 0
            have hfz45_1 := fz BK188.out 1
            have hfz45_2 := fz BK188.out 2
            have hfz45_3 := fz BK188.out 3
            go_wp2_with (first | ((with_reducible refine gate_callee (f := 39) rfl ?_); refine goesL_ (some 87) rfl rfl Tryd.func39 (by kernel_rfl) rfl #[.int .i64 t198, .int .i64 0, .int .i64 (wrap64 ((l0_0.length : Int) - 1))] rfl TM ?_; (with_reducible refine (saronref00_Sits.calls t198 0 (wrap64 ((l0_0.length : Int) - 1)) t204 _ A43.out).mono ?_); rintro e w' ⟨rfl, ⟨nd, rfl⟩⟩; refine ⟨_, rfl, ?_⟩))
            go_meet
            case rel => exact ⟨_, (!t204), TT, H', ⟨by have := HJ3.out; have := HK2.out; have := HJ22.out; first | omega | exact Nat.le_refl _⟩, ⟨by (with_reducible repeat (first | refine blk_drewN ?_ _ | refine blk_drew ?_ | refine blk_alloc ?_ _)); exact BK188.out⟩, ⟨by (with_reducible repeat (first | refine blk_drewN ?_ _ | refine blk_drew ?_ | refine blk_alloc ?_ _)); exact BK189.out⟩, ⟨TB2 GE188.out GE189.out⟩⟩
           case rest => as_aux_lemma =>
            clear HC42
            try clear c1
            try clear c2
            try clear p2
            try clear c3
            try clear c4
            try clear p6
            try clear c7
            try clear c8
            try clear c11
            try clear c16
            try clear c16b0
            try clear c16b1
            try clear c17
            try clear c22
            try clear c24
            try clear c27
            try clear c27b0
            try clear c27b1
            try clear c29
            try clear c31
            try clear c31b0
            try clear c31b1
            try clear c31b2
            try clear c32
            try clear c35
            try clear c37
            try clear c38
            try clear c39
            try clear c39b0
            try clear c39b1
            try clear c44
            try clear hcz18_0 hcz18_1
            try clear hcz20_0 hcz20_1 hcz20_2 hcz20_3
            try clear hcz25_0 hcz25_1 hcz25_2 hcz25_3
            try clear hcz33_0 hcz33_1 hcz33_2 hcz33_3
            try clear hcz36_0 hcz36_1 hcz36_2 hcz36_3
            try clear hcz45_0 hcz45_1 hcz45_2 hcz45_3
            try clear hcz9_0 hcz9_1 hcz9_2 hcz9_3
            try clear hfz18_0 hfz18_1
            try clear hfz20_0 hfz20_1 hfz20_2 hfz20_3
            try clear hfz25_0 hfz25_1 hfz25_2 hfz25_3
            try clear hfz33_0 hfz33_1 hfz33_2 hfz33_3
            try clear hfz36_0 hfz36_1 hfz36_2 hfz36_3
            try clear hfz45_0 hfz45_1 hfz45_2 hfz45_3
            try clear hfz9_0 hfz9_1 hfz9_2 hfz9_3
            try clear p2
            obtain ⟨kq, x88_41, rfl, HA, HJ41, BK188, BK189, HB⟩ := hcut
            cases kq with
            | zero => exact absurd HA.out (by simp [saronlaw03_RaspSure.j3])
            | succ kj41 =>
             have H := HA.out
             clear HA
             simp only [saronlaw03_RaspSure.j3] at H
             by_cases c46 : x88_41 = true
             ·subst c46
              have H1 : (some false) = some r := by rw [if_pos rfl] at H; exact H
              clear H
              have H := H1
              clear H1
              obtain rfl := Option.some.inj H
              go_wp2
              go_ret
              exact ⟨TR, TB2 GE188.out GE189.out⟩
             ·replace c46 := Bool.eq_false_iff.mpr c46
              subst c46
              have H1 : (if 0 ≤ t198 then (if t198 < (l0_0.length : Int) then ((saronref00_Nth.f l2 x12_2).bind fun t207 => ((saronref00_Draw.f ((rd_T57 l0_0 t198).f0.f0) ((rd_T57 l0_0 t198).f0.f1) t207).bind fun t208 => (if (wrap64 (x8_2 - ((rd_T57 l0_0 t198).f1))) < 0 then (saronlaw03_RaspSure.j4 kj41 l2 (wrap64 (x7_2 + t208)) (wrap64 (x8_2 - ((rd_T57 l0_0 t198).f1))) (wrap64 (t199 - 1)) x12_2 true l0_0 a0_1 a0_2 l0_3) else ((saronref00_Sits.f (wrap64 (x7_2 + t208)) (-60) 60).bind fun t209 => (saronlaw03_RaspSure.j4 kj41 l2 (wrap64 (x7_2 + t208)) (wrap64 (x8_2 - ((rd_T57 l0_0 t198).f1))) (wrap64 (t199 - 1)) x12_2 (!t209) l0_0 a0_1 a0_2 l0_3))))) else (none)) else (none)) = some r := by rw [if_neg (show ¬ (false = true) by decide)] at H; exact H
              clear H
              have H := H1
              clear H1
              by_cases c47 : 0 ≤ t198
              ·rw [if_pos c47] at H
               have c47b0 : decide (0 ≤ t198) = true := decide_eq_true c47
               clear c47
               by_cases c48 : t198 < (l0_0.length : Int)
               ·rw [if_pos c48] at H
                have c48b0 : decide (t198 < (l0_0.length : Int)) = true := decide_eq_true c48
                clear c48
                replace H := Option.bind_eq_some_iff.mp H
                obtain ⟨t207, A490, H⟩ := H
                replace H : ((saronref00_Draw.f ((rd_T57 l0_0 t198).f0.f0) ((rd_T57 l0_0 t198).f0.f1) t207).bind fun t208 => (if (wrap64 (x8_2 - ((rd_T57 l0_0 t198).f1))) < 0 then (saronlaw03_RaspSure.j4 kj41 l2 (wrap64 (x7_2 + t208)) (wrap64 (x8_2 - ((rd_T57 l0_0 t198).f1))) (wrap64 (t199 - 1)) x12_2 true l0_0 a0_1 a0_2 l0_3) else ((saronref00_Sits.f (wrap64 (x7_2 + t208)) (-60) 60).bind fun t209 => (saronlaw03_RaspSure.j4 kj41 l2 (wrap64 (x7_2 + t208)) (wrap64 (x8_2 - ((rd_T57 l0_0 t198).f1))) (wrap64 (t199 - 1)) x12_2 (!t209) l0_0 a0_1 a0_2 l0_3)))) = some r := H
                have A49 := Aside0.mk A490
                clear A490
                replace H := Option.bind_eq_some_iff.mp H
                obtain ⟨t208, A500, H⟩ := H
                replace H : (if (wrap64 (x8_2 - ((rd_T57 l0_0 t198).f1))) < 0 then (saronlaw03_RaspSure.j4 kj41 l2 (wrap64 (x7_2 + t208)) (wrap64 (x8_2 - ((rd_T57 l0_0 t198).f1))) (wrap64 (t199 - 1)) x12_2 true l0_0 a0_1 a0_2 l0_3) else ((saronref00_Sits.f (wrap64 (x7_2 + t208)) (-60) 60).bind fun t209 => (saronlaw03_RaspSure.j4 kj41 l2 (wrap64 (x7_2 + t208)) (wrap64 (x8_2 - ((rd_T57 l0_0 t198).f1))) (wrap64 (t199 - 1)) x12_2 (!t209) l0_0 a0_1 a0_2 l0_3))) = some r := H
                have A50 := Aside0.mk A500
                clear A500
                have HC51 := Aside0.mk H
                clear H
                have hnb52 := NB188_189.out
                have hnc52 := NB189_188.out
                have hcz53_0 := czz BK188.out 0
                have hcz53_1 := czz BK188.out 1
                have hcz53_2 := czz BK188.out 2
                have hcz53_3 := czz BK188.out 3
                have hfz53_0 := fz BK188.out 0
                have hfz53_1 := fz BK188.out 1
                have hfz53_2 := fz BK188.out 2
                have hfz53_3 := fz BK188.out 3
                have p205 : 0 ≤ (t198 : Int) := of_decide_eq_true TA
                have q205 : t198 < (l0_0.length : Int) := of_decide_eq_true TA
                obtain ⟨ad205, e205, hx205_0, hx205_1, hx205_2⟩ := at_T57 HR0_0.out t198 p205 q205
                cases e205
                replace hx205_0 := hx HB.out hx205_0
                replace hx205_1 := hx HB.out hx205_1
                replace hx205_2 := hx HB.out hx205_2
                replace p205 := eq_true p205
                replace q205 := eq_true q205
                try go_wp2_with (first | ((with_reducible refine gate_dst (N := 16) rfl ?_); refine box_event ?hg (N := 16) ?hd (cs := #[.int .i64 0, .int .i64 0, .int .i64 0]) (t := 57) ?hr ?_; (case hd => rfl); (case hg => rfl); (case hr => exact TS); intro gb206 hg w54 hbox hb; have BK206 := Aside0.mk (hbox); have GW206 := Aside0.mk ((TG2 GE188.out GE189.out : w.heap.size ≤ gb206)); have GE206 := Aside0.mk ((TG2 GE188.out GE189.out : w.heap.size ≤ gb206)); have NB188_206 := Aside0.mk ((by rw [hg]; exact Nat.ne_of_lt (blk_lt (g := gb188) (o := .cells #[.slice (some ad205) l0_0.length c0_0, .int .i64 a0_1, .int .i64 a0_2, .slice A0_3 l0_3.length c0_3] 27 (0, 0)) (by (with_reducible repeat (first | refine blk_drewN ?_ _ | refine blk_drew ?_ | refine blk_alloc ?_ _)); exact BK188.out)) : gb188 ≠ gb206)); have NB206_188 := Aside0.mk ((by rw [hg]; exact Nat.ne_of_gt (blk_lt (g := gb188) (o := .cells #[.slice (some ad205) l0_0.length c0_0, .int .i64 a0_1, .int .i64 a0_2, .slice A0_3 l0_3.length c0_3] 27 (0, 0)) (by (with_reducible repeat (first | refine blk_drewN ?_ _ | refine blk_drew ?_ | refine blk_alloc ?_ _)); exact BK188.out)) : gb206 ≠ gb188)); have NB189_206 := Aside0.mk ((by rw [hg]; exact Nat.ne_of_lt (blk_lt (g := gb189) (o := .cells #[.int .i64 a1_0, .int .i64 a1_1] 28 (0, 0)) (by (with_reducible repeat (first | refine blk_drewN ?_ _ | refine blk_drew ?_ | refine blk_alloc ?_ _)); exact BK189.out)) : gb189 ≠ gb206)); have NB206_189 := Aside0.mk ((by rw [hg]; exact Nat.ne_of_gt (blk_lt (g := gb189) (o := .cells #[.int .i64 a1_0, .int .i64 a1_1] 28 (0, 0)) (by (with_reducible repeat (first | refine blk_drewN ?_ _ | refine blk_drew ?_ | refine blk_alloc ?_ _)); exact BK189.out)) : gb206 ≠ gb189)); replace BK188 := Aside0.mk (blk_below (g := gb188) (o := .cells #[.slice (some ad205) l0_0.length c0_0, .int .i64 a0_1, .int .i64 a0_2, .slice A0_3 l0_3.length c0_3] 27 (0, 0)) (by (with_reducible repeat (first | refine blk_drewN ?_ _ | refine blk_drew ?_ | refine blk_alloc ?_ _)); exact BK188.out) hb); replace BK189 := Aside0.mk (blk_below (g := gb189) (o := .cells #[.int .i64 a1_0, .int .i64 a1_1] 28 (0, 0)) (by (with_reducible repeat (first | refine blk_drewN ?_ _ | refine blk_drew ?_ | refine blk_alloc ?_ _)); exact BK189.out) hb); replace HB := Aside0.mk (below_step (TB2 GE188.out GE189.out) hb); clear hb hbox hg; have hnb55 := NB206_188.out; have hnc55 := NB188_206.out; have hnb56 := NB206_189.out; have hnc56 := NB189_206.out; have hcz57_0 := czz BK206.out 0; have hcz57_1 := czz BK206.out 1; have hcz57_2 := czz BK206.out 2; have hfz57_0 := fz BK206.out 0; have hfz57_1 := fz BK206.out 1; have hfz57_2 := fz BK206.out 2))
                have n0_ : Aside0 ((((w54.setCell ⟨gb206, 0, none⟩ (.int .i64 ((rd_T57 l0_0 t198).f0.f0))).setCell ⟨gb206, 1, none⟩ (.int .i64 ((rd_T57 l0_0 t198).f0.f1))).setCell ⟨gb206, 2, none⟩ (.int .i64 ((rd_T57 l0_0 t198).f1))).heap[gb188]? = some (.cells #[.slice (some ad205) l0_0.length c0_0, .int .i64 a0_1, .int .i64 a0_2, .slice A0_3 l0_3.length c0_3] 27 (0, 0))) := ⟨by (with_reducible repeat (first | refine blk_drewN ?_ _ | refine blk_drew ?_ | refine blk_alloc ?_ _)); refine blk_far ?_ NB188_206.out _; (with_reducible repeat (first | refine blk_drewN ?_ _ | refine blk_drew ?_ | refine blk_alloc ?_ _)); refine blk_far ?_ NB188_206.out _; (with_reducible repeat (first | refine blk_drewN ?_ _ | refine blk_drew ?_ | refine blk_alloc ?_ _)); refine blk_far ?_ NB188_206.out _; (with_reducible repeat (first | refine blk_drewN ?_ _ | refine blk_drew ?_ | refine blk_alloc ?_ _)); exact BK188.out⟩
                have n1_ : Aside0 ((((w54.setCell ⟨gb206, 0, none⟩ (.int .i64 ((rd_T57 l0_0 t198).f0.f0))).setCell ⟨gb206, 1, none⟩ (.int .i64 ((rd_T57 l0_0 t198).f0.f1))).setCell ⟨gb206, 2, none⟩ (.int .i64 ((rd_T57 l0_0 t198).f1))).heap[gb189]? = some (.cells #[.int .i64 a1_0, .int .i64 a1_1] 28 (0, 0))) := ⟨by (with_reducible repeat (first | refine blk_drewN ?_ _ | refine blk_drew ?_ | refine blk_alloc ?_ _)); refine blk_far ?_ NB189_206.out _; (with_reducible repeat (first | refine blk_drewN ?_ _ | refine blk_drew ?_ | refine blk_alloc ?_ _)); refine blk_far ?_ NB189_206.out _; (with_reducible repeat (first | refine blk_drewN ?_ _ | refine blk_drew ?_ | refine blk_alloc ?_ _)); refine blk_far ?_ NB189_206.out _; (with_reducible repeat (first | refine blk_drewN ?_ _ | refine blk_drew ?_ | refine blk_alloc ?_ _)); exact BK189.out⟩
                have n2_ : Aside0 ((((w54.setCell ⟨gb206, 0, none⟩ (.int .i64 ((rd_T57 l0_0 t198).f0.f0))).setCell ⟨gb206, 1, none⟩ (.int .i64 ((rd_T57 l0_0 t198).f0.f1))).setCell ⟨gb206, 2, none⟩ (.int .i64 ((rd_T57 l0_0 t198).f1))).heap[gb206]? = some (.cells #[.int .i64 ((rd_T57 l0_0 t198).f0.f0), .int .i64 ((rd_T57 l0_0 t198).f0.f1), .int .i64 ((rd_T57 l0_0 t198).f1)] 57 (0, 0))) := ⟨by (with_reducible repeat (first | refine blk_drewN ?_ _ | refine blk_drew ?_ | refine blk_alloc ?_ _)); refine blk_put (cs := #[.int .i64 ((rd_T57 l0_0 t198).f0.f0), .int .i64 ((rd_T57 l0_0 t198).f0.f1), .int .i64 0]) ?_ 2 _ rfl; (with_reducible repeat (first | refine blk_drewN ?_ _ | refine blk_drew ?_ | refine blk_alloc ?_ _)); refine blk_put (cs := #[.int .i64 ((rd_T57 l0_0 t198).f0.f0), .int .i64 0, .int .i64 0]) ?_ 1 _ rfl; (with_reducible repeat (first | refine blk_drewN ?_ _ | refine blk_drew ?_ | refine blk_alloc ?_ _)); refine blk_put (cs := #[.int .i64 0, .int .i64 0, .int .i64 0]) ?_ 0 _ rfl; (with_reducible repeat (first | refine blk_drewN ?_ _ | refine blk_drew ?_ | refine blk_alloc ?_ _)); exact BK206.out⟩
                have n3_ : Aside0 (Below w.heap.size w (((w54.setCell ⟨gb206, 0, none⟩ (.int .i64 ((rd_T57 l0_0 t198).f0.f0))).setCell ⟨gb206, 1, none⟩ (.int .i64 ((rd_T57 l0_0 t198).f0.f1))).setCell ⟨gb206, 2, none⟩ (.int .i64 ((rd_T57 l0_0 t198).f1)))) := ⟨TB3 GE188.out GE189.out GE206.out⟩
                (try clear BK188)
                (try clear BK189)
                (try clear BK206)
                (try clear HB)
                generalize (((w54.setCell ⟨gb206, 0, none⟩ (.int .i64 ((rd_T57 l0_0 t198).f0.f0))).setCell ⟨gb206, 1, none⟩ (.int .i64 ((rd_T57 l0_0 t198).f0.f1))).setCell ⟨gb206, 2, none⟩ (.int .i64 ((rd_T57 l0_0 t198).f1))) = w58 at n0_ n1_ n2_ n3_ ⊢
                have BK188 := n0_
                have BK189 := n1_
                have BK206 := n2_
                have HB := n3_
                clear n0_ n1_ n2_ n3_
                have n0_ := Aside0.mk (blk_drew BK188.out)
                have n1_ := Aside0.mk (blk_drew BK189.out)
                have n2_ := Aside0.mk (blk_drew BK206.out)
                have n3_ := Aside0.mk (below_drew1 HB.out)
                clear BK188
                clear BK189
                clear BK206
                clear HB
                have BK188 := n0_
                have BK189 := n1_
                have BK206 := n2_
                have HB := n3_
                clear n0_ n1_ n2_ n3_
                refine start_ (n := 17) (S := fun w' => w'.cell? ⟨gb206, 0, none⟩ = some (.int .i64 ((rd_T57 l0_0 t198).f0.f0)) ∧ w'.cell? ⟨gb206, 1, none⟩ = some (.int .i64 ((rd_T57 l0_0 t198).f0.f1)) ∧ w'.cell? ⟨gb206, 2, none⟩ = some (.int .i64 ((rd_T57 l0_0 t198).f1))) (ds := []) (.replicate 17 false) (by kernel_rfl) rfl rfl ⟨czz BK206.out 0, czz BK206.out 1, czz BK206.out 2⟩ (fun hHeld => ?_); refine with_tabW saronlaw03_RaspSure.tab17 saronlaw03_RaspSure.bits17 (fun HT_ HW_ => ?_)
                generalize w58.drew = w59 at BK188 BK189 BK206 HB hHeld ⊢
                refine pT 0 94 (bt 17 1) (k := ?_)
                refine pT 1 95 (bt 17 3) (k := ?_)
                refine pT 3 97 (bt 17 11) (k := ?_)
                refine pT 4 98 (bt 17 27) (k := ?_)
                refine pT 8 102 (bt 17 283) (k := ?_)
                refine pT 9 103 (bt 17 795) (k := ?_)
                refine pT 12 106 (bt 17 4891) (k := ?_)
                refine pT 13 107 (bt 17 13083) (k := ?_)
                refine tT3 2 96 (bt 17 13087) hHeld (k := ?_)
                refine tT3 10 104 (bt 17 14111) hHeld (k := ?_)
                refine pT 11 105 (bt 17 16159) (k := ?_)
                refine one_ (i := 5) (N := some 99) (bt 17 16191) rfl rfl (one_of HT_.out (by kernel_rfl)) (by decide) (fun K hK => ?_)
                refine goes_ Tryd.func42 (by kernel_rfl) rfl #[.slice A2 l2.length c2, .int .i64 x12_2] (by rfl) rfl rfl TM ?_
                with_reducible refine (saronref00_Nth.calls _ _ l2 x12_2 t207 _ ?side1 ?side2 A49.out).mono ?_
                (case side1 => exact TC HR2.out)
                (case side2 => exact HC2.out)
                rintro e w' ⟨rfl, ⟨nd, rfl⟩⟩
                refine ⟨_, rfl, ?_⟩
                refine hK.out _ _ ⟨czz BK206.out 0, czz BK206.out 1, czz BK206.out 2⟩ (fun hHeld => ?_)
                clear hK K
                refine norm_ (a' := ?_) ?_ ?_
                rotate_left
                ·show Act.put _ (some 99) _ = _
                 simp only [Act.put, lA, lZ, lS, i64_w, i32_w]
                 rfl
                refine one_ (i := 6) (N := some 100) (bt 17 16255) rfl rfl (one_of HT_.out (by kernel_rfl)) (by decide) (fun K hK => ?_)
                refine goes_ Tryd.func41 (by kernel_rfl) rfl #[.agg #[.int .i64 ((rd_T57 l0_0 t198).f0.f0), .int .i64 ((rd_T57 l0_0 t198).f0.f1)], .int .i64 t207] (by rfl) rfl rfl TM ?_
                with_reducible refine (saronref00_Draw.calls ((rd_T57 l0_0 t198).f0.f0) ((rd_T57 l0_0 t198).f0.f1) t207 t208 _ A50.out).mono ?_
                rintro e w60 ⟨rfl, hb⟩
                refine ⟨_, rfl, ?_⟩
                have n0_ := Aside0.mk (blk_below (g := gb188) (o := .cells #[.slice (some ad205) l0_0.length c0_0, .int .i64 a0_1, .int .i64 a0_2, .slice A0_3 l0_3.length c0_3] 27 (0, 0)) (by (with_reducible repeat (first | refine blk_drewN ?_ _ | refine blk_drew ?_ | refine blk_alloc ?_ _)); exact BK188.out) hb)
                have n1_ := Aside0.mk (blk_below (g := gb189) (o := .cells #[.int .i64 a1_0, .int .i64 a1_1] 28 (0, 0)) (by (with_reducible repeat (first | refine blk_drewN ?_ _ | refine blk_drew ?_ | refine blk_alloc ?_ _)); exact BK189.out) hb)
                have n2_ := Aside0.mk (blk_below (g := gb206) (o := .cells #[.int .i64 ((rd_T57 l0_0 t198).f0.f0), .int .i64 ((rd_T57 l0_0 t198).f0.f1), .int .i64 ((rd_T57 l0_0 t198).f1)] 57 (0, 0)) (by (with_reducible repeat (first | refine blk_drewN ?_ _ | refine blk_drew ?_ | refine blk_alloc ?_ _)); exact BK206.out) hb)
                have n3_ := Aside0.mk (below_step (TB3 GE188.out GE189.out GE206.out) hb)
                clear BK188
                clear BK189
                clear BK206
                clear HB
                have BK188 := n0_
                have BK189 := n1_
                have BK206 := n2_
                have HB := n3_
                clear n0_ n1_ n2_ n3_
                (try clear hb)
                (try clear hb2)
                (try clear hk)
                (try clear hi)
                refine hK.out _ _ ⟨czz BK206.out 0, czz BK206.out 1, czz BK206.out 2⟩ (fun hHeld => ?_)
                clear hK K
                refine norm_ (a' := ?_) ?_ ?_
                rotate_left
                ·show Act.put _ (some 100) _ = _
                 simp only [Act.put, lA, lZ, lS, i64_w, i32_w]
                 rfl
                refine pT 7 101 (bt 17 16383) (k := ?_)
                refine pT 14 7 (bt 17 32767) (k := ?_)
                refine pT 15 8 (bt 17 65535) (k := ?_)
                refine pT 16 10 (bt 17 131071) (k := ?_)
                refine done_ (done_of HT_.out (by kernel_rfl)) ?_
                go_upto_region 18 with (fail)
                go_cut [114] (fun v114 wc => ∃ (kq : Nat) (x114_50 : Bool), v114 = .bool x114_50 ∧ Aside0 (saronlaw03_RaspSure.j4 kq l2 (wrap64 (x7_2 + t208)) (wrap64 (x8_2 - ((rd_T57 l0_0 t198).f1))) (wrap64 (t199 - 1)) x12_2 x114_50 l0_0 a0_1 a0_2 l0_3 = some r) ∧ Aside0 (kq ≤ kj41) ∧ Aside0 (wc.heap[gb188]? = some (.cells #[(.slice (some ad205) l0_0.length c0_0), .int .i64 a0_1, .int .i64 a0_2, (.slice A0_3 l0_3.length c0_3)] 27 (0, 0))) ∧ Aside0 (wc.heap[gb189]? = some (.cells #[.int .i64 a1_0, .int .i64 a1_1] 28 (0, 0))) ∧ Aside0 (wc.heap[gb206]? = some (.cells #[.int .i64 ((rd_T57 l0_0 t198).f0.f0), .int .i64 ((rd_T57 l0_0 t198).f0.f1), .int .i64 ((rd_T57 l0_0 t198).f1)] 57 (0, 0))) ∧ Aside0 (Below w.heap.size w wc))
                case first => as_aux_lemma =>
                 have H := HC51.out
                 clear HC51
                 by_cases c61 : (wrap64 (x8_2 - ((rd_T57 l0_0 t198).f1))) < 0
                 ·rw [if_pos c61] at H
                  have c61b0 : decide ((wrap64 (x8_2 - ((rd_T57 l0_0 t198).f1))) < 0) = true := decide_eq_true c61
                  clear c61
                  (first | rw [c61b0] | (simp only [i64_w, i32_w]; rw [c61b0]) | skip)
                  have H' := Aside0.mk H
                  clear H
                  go_wp2
                  go_meet
                  case rel => exact ⟨_, (true), TT, H', ⟨by have := HJ3.out; have := HK2.out; have := HJ22.out; have := HJ41.out; first | omega | exact Nat.le_refl _⟩, ⟨by (with_reducible repeat (first | refine blk_drewN ?_ _ | refine blk_drew ?_ | refine blk_alloc ?_ _)); exact BK188.out⟩, ⟨by (with_reducible repeat (first | refine blk_drewN ?_ _ | refine blk_drew ?_ | refine blk_alloc ?_ _)); exact BK189.out⟩, ⟨by (with_reducible repeat (first | refine blk_drewN ?_ _ | refine blk_drew ?_ | refine blk_alloc ?_ _)); exact BK206.out⟩, ⟨TB3 GE188.out GE189.out GE206.out⟩⟩
                 ·rw [if_neg c61] at H
                  have c61b0 : decide ((wrap64 (x8_2 - ((rd_T57 l0_0 t198).f1))) < 0) = false := decide_eq_false c61
                  clear c61
                  (first | rw [c61b0] | (simp only [i64_w, i32_w]; rw [c61b0]) | skip)
                  replace H := Option.bind_eq_some_iff.mp H
                  obtain ⟨t209, A620, H⟩ := H
                  replace H : (saronlaw03_RaspSure.j4 kj41 l2 (wrap64 (x7_2 + t208)) (wrap64 (x8_2 - ((rd_T57 l0_0 t198).f1))) (wrap64 (t199 - 1)) x12_2 (!t209) l0_0 a0_1 a0_2 l0_3) = some r := H
                  have A62 := Aside0.mk A620
                  clear A620
                  have H' := Aside0.mk H
                  clear H
                  go_wp2_with (first | (go_at_call 39; (with_reducible refine (saronref00_Sits.calls (wrap64 (x7_2 + t208)) (-60) 60 t209 _ A62.out).mono ?_); rintro e w' ⟨rfl, ⟨nd, rfl⟩⟩))
                  go_meet
                  case rel => exact ⟨_, (!t209), TT, H', ⟨by have := HJ3.out; have := HK2.out; have := HJ22.out; have := HJ41.out; first | omega | exact Nat.le_refl _⟩, ⟨by (with_reducible repeat (first | refine blk_drewN ?_ _ | refine blk_drew ?_ | refine blk_alloc ?_ _)); exact BK188.out⟩, ⟨by (with_reducible repeat (first | refine blk_drewN ?_ _ | refine blk_drew ?_ | refine blk_alloc ?_ _)); exact BK189.out⟩, ⟨by (with_reducible repeat (first | refine blk_drewN ?_ _ | refine blk_drew ?_ | refine blk_alloc ?_ _)); exact BK206.out⟩, ⟨TB3 GE188.out GE189.out GE206.out⟩⟩
                case rest => as_aux_lemma =>
                 clear HC51
                 try clear c1
                 try clear c2
                 try clear p2
                 try clear q2
                 try clear hx2
                 try clear c3
                 try clear c4
                 try clear c5
                 try clear c6
                 try clear p6
                 try clear c7
                 try clear c8
                 try clear c11
                 try clear c16
                 try clear c16b0
                 try clear c16b1
                 try clear c17
                 try clear p20
                 try clear q20
                 try clear hx20
                 try clear c22
                 try clear c24
                 try clear c27
                 try clear c27b0
                 try clear c27b1
                 try clear c29
                 try clear c31
                 try clear c31b0
                 try clear c31b1
                 try clear c31b2
                 try clear c32
                 try clear c35
                 try clear c37
                 try clear c38
                 try clear c39
                 try clear c39b0
                 try clear c39b1
                 try clear c41
                 try clear c42
                 try clear c44
                 try clear c46
                 try clear c47
                 try clear c47b0
                 try clear c48
                 try clear c48b0
                 try clear c52
                 try clear c55
                 try clear c56
                 try clear c61
                 try clear c61b0
                 try clear hcz18_0 hcz18_1
                 try clear hcz20_0 hcz20_1 hcz20_2 hcz20_3
                 try clear hcz25_0 hcz25_1 hcz25_2 hcz25_3
                 try clear hcz33_0 hcz33_1 hcz33_2 hcz33_3
                 try clear hcz36_0 hcz36_1 hcz36_2 hcz36_3
                 try clear hcz45_0 hcz45_1 hcz45_2 hcz45_3
                 try clear hcz53_0 hcz53_1 hcz53_2 hcz53_3
                 try clear hcz57_0 hcz57_1 hcz57_2
                 try clear hcz9_0 hcz9_1 hcz9_2 hcz9_3
                 try clear hfz18_0 hfz18_1
                 try clear hfz20_0 hfz20_1 hfz20_2 hfz20_3
                 try clear hfz25_0 hfz25_1 hfz25_2 hfz25_3
                 try clear hfz33_0 hfz33_1 hfz33_2 hfz33_3
                 try clear hfz36_0 hfz36_1 hfz36_2 hfz36_3
                 try clear hfz45_0 hfz45_1 hfz45_2 hfz45_3
                 try clear hfz53_0 hfz53_1 hfz53_2 hfz53_3
                 try clear hfz57_0 hfz57_1 hfz57_2
                 try clear hfz9_0 hfz9_1 hfz9_2 hfz9_3
                 try clear hx205_0
                 try clear hx205_1
                 try clear hx205_2
                 try clear p2
                 try clear p205
                 try clear p6
                 try clear q205
                 obtain ⟨kq, x114_50, rfl, HA, HJ50, BK188, BK189, BK206, HB⟩ := hcut
                 cases kq with
                 | zero => exact absurd HA.out (by simp [saronlaw03_RaspSure.j4])
                 | succ kj50 =>
                  have H := HA.out
                  clear HA
                  simp only [saronlaw03_RaspSure.j4] at H
                  by_cases c63 : x114_50 = true
                  ·subst c63
                   have H1 : (some false) = some r := by rw [if_pos rfl] at H; exact H
                   clear H
                   have H := H1
                   clear H1
                   obtain rfl := Option.some.inj H
                   go_wp2
                   go_ret
                   exact ⟨TR, TB3 GE188.out GE189.out GE206.out⟩
                  ·replace c63 := Bool.eq_false_iff.mpr c63
                   subst c63
                   have H1 : (saronlaw03_RaspSure.l0 kj50 l2 (wrap64 (x7_2 + t208)) (wrap64 (x8_2 - ((rd_T57 l0_0 t198).f1))) (wrap64 (t199 - 1)) (wrap64 (x12_2 + 1)) l0_0 a0_1 a0_2 l0_3) = some r := by rw [if_neg (show ¬ (false = true) by decide)] at H; exact H
                   clear H
                   have H := H1
                   clear H1
                   have H' := Aside0.mk H
                   clear H
                   go_wp2
                   go_roundg kj50
                   case measure => have := HJ3.out; have := HK2.out; have := HJ22.out; have := HJ41.out; have := HJ50.out; omega
                   case rel => exact ⟨((wrap64 (x7_2 + t208))), ((wrap64 (x8_2 - ((rd_T57 l0_0 t198).f1)))), ((wrap64 (t199 - 1))), (wrap64 (x12_2 + 1)), TT, TT, TT, TT, H', ⟨by have := HJ3.out; have := HK2.out; have := HJ22.out; have := HJ41.out; have := HJ50.out; omega⟩, ⟨by (with_reducible repeat (first | refine blk_drewN ?_ _ | refine blk_drew ?_ | refine blk_alloc ?_ _)); exact BK188.out⟩, ⟨by (with_reducible repeat (first | refine blk_drewN ?_ _ | refine blk_drew ?_ | refine blk_alloc ?_ _)); exact BK189.out⟩, ⟨TB3 GE188.out GE189.out GE206.out⟩⟩
               ·rw [if_neg c48] at H
                exact absurd H (by simp)
              ·rw [if_neg c47] at H
               exact absurd H (by simp)
    ·rw [if_neg c16] at H
     have c16b0 : (t196 == 0) = false := beq_eq_false_iff_ne.mpr c16
     have c16b1 : (t196 != 0) = true := bne_iff_ne.mpr c16
     by_cases c64 : t196 = 4
     ·rw [if_pos c64] at H
      have c64b0 : (t196 == 4) = true := beq_iff_eq.mpr c64
      have c64b1 : (t196 != 4) = false := bne_eq_false_iff_eq.mpr c64
      clear c64
      by_cases c65 : t195 = 0
      ·rw [if_pos c65] at H
       have c65b0 : (t195 == 0) = true := beq_iff_eq.mpr c65
       have c65b1 : (t195 != 0) = false := bne_eq_false_iff_eq.mpr c65
       clear c65
       replace H := Option.bind_eq_some_iff.mp H
       obtain ⟨t197, A660, H⟩ := H
       replace H : (some t197) = some r := H
       have A66 := Aside0.mk A660
       clear A660
       obtain rfl := Option.some.inj H
       have hnb67 := NB189_188.out
       have hnc67 := NB188_189.out
       have hcz68_0 := czz BK189.out 0
       have hcz68_1 := czz BK189.out 1
       have hfz68_0 := fz BK189.out 0
       have hfz68_1 := fz BK189.out 1
       go_wp2_with (first | ((with_reducible refine gate_callee (f := 38) rfl ?_); refine goesL_ (some 23) rfl rfl Tryd.func38 (by kernel_rfl) rfl #[.agg #[.int .i64 a1_0, .int .i64 a1_1]] rfl TM ?_; (with_reducible refine (saronlaw03_state.calls a1_0 a1_1 t192 t193 _ A14.out).mono ?_); rintro e w69 ⟨rfl, hb⟩; refine ⟨_, rfl, ?_⟩; replace BK188 := Aside0.mk (blk_below (g := gb188) (o := .cells #[.slice A0_0 l0_0.length c0_0, .int .i64 a0_1, .int .i64 a0_2, .slice A0_3 l0_3.length c0_3] 27 (0, 0)) (by (with_reducible repeat (first | refine blk_drewN ?_ _ | refine blk_drew ?_ | refine blk_alloc ?_ _)); exact BK188.out) hb); replace BK189 := Aside0.mk (blk_below (g := gb189) (o := .cells #[.int .i64 a1_0, .int .i64 a1_1] 28 (0, 0)) (by (with_reducible repeat (first | refine blk_drewN ?_ _ | refine blk_drew ?_ | refine blk_alloc ?_ _)); exact BK189.out) hb); replace HB := Aside0.mk (below_step (TB2 GE188.out GE189.out) hb); (try clear hb); (try clear hb2); (try clear hk); (try clear hi); have hcz70_0 := czz BK188.out 0; have hcz70_1 := czz BK188.out 1; have hcz70_2 := czz BK188.out 2; have hcz70_3 := czz BK188.out 3; have hfz70_0 := fz BK188.out 0; have hfz70_1 := fz BK188.out 1; have hfz70_2 := fz BK188.out 2; have hfz70_3 := fz BK188.out 3) | ((with_reducible refine gate_callee (f := 16) rfl ?_); refine goesL_ (some 30) rfl rfl Tryd.func16 (by kernel_rfl) rfl #[.agg #[.slice A0_0 l0_0.length c0_0, .int .i64 a0_1, .int .i64 a0_2, .slice A0_3 l0_3.length c0_3], .int .i64 t192, .int .i64 t193] rfl TM ?_; (with_reducible refine (rasp_Next.calls _ _ l0_0 a0_1 a0_2 _ _ l0_3 t192 t193 t194 t195 t196 _ ?side1 ?side2 ?side3 ?side4 ?side5 A15.out).mono ?_); (case side1 => exact TC HR0_0.out); (case side2 => exact HC0_0.out); (case side3 => exact TC HR0_3.out); (case side4 => exact HC0_3.out); (case side5 => exact Glob.fr HG.out (Fr.of_below (TB2 GE188.out GE189.out))); rintro e w71 ⟨rfl, hb⟩; refine ⟨_, rfl, ?_⟩; replace BK188 := Aside0.mk (blk_below (g := gb188) (o := .cells #[.slice A0_0 l0_0.length c0_0, .int .i64 a0_1, .int .i64 a0_2, .slice A0_3 l0_3.length c0_3] 27 (0, 0)) (by (with_reducible repeat (first | refine blk_drewN ?_ _ | refine blk_drew ?_ | refine blk_alloc ?_ _)); exact BK188.out) hb); replace BK189 := Aside0.mk (blk_below (g := gb189) (o := .cells #[.int .i64 a1_0, .int .i64 a1_1] 28 (0, 0)) (by (with_reducible repeat (first | refine blk_drewN ?_ _ | refine blk_drew ?_ | refine blk_alloc ?_ _)); exact BK189.out) hb); replace HB := Aside0.mk (below_step (TB2 GE188.out GE189.out) hb); (try clear hb); (try clear hb2); (try clear hk); (try clear hi)) | (go_at_call 22; (with_reducible refine (saronlaw03_filed.calls  t197 _ ?side1 A66.out).mono ?_); (case side1 => exact Glob.fr HG.out (Fr.of_below (TB2 GE188.out GE189.out))); rintro e w72 ⟨rfl, hb⟩; replace BK188 := Aside0.mk (blk_below (g := gb188) (o := .cells #[.slice A0_0 l0_0.length c0_0, .int .i64 a0_1, .int .i64 a0_2, .slice A0_3 l0_3.length c0_3] 27 (0, 0)) (by (with_reducible repeat (first | refine blk_drewN ?_ _ | refine blk_drew ?_ | refine blk_alloc ?_ _)); exact BK188.out) hb); replace BK189 := Aside0.mk (blk_below (g := gb189) (o := .cells #[.int .i64 a1_0, .int .i64 a1_1] 28 (0, 0)) (by (with_reducible repeat (first | refine blk_drewN ?_ _ | refine blk_drew ?_ | refine blk_alloc ?_ _)); exact BK189.out) hb); replace HB := Aside0.mk (below_step (TB2 GE188.out GE189.out) hb); (try clear hb); (try clear hb2); (try clear hk); (try clear hi)))
       go_ret
       exact ⟨TR, TB2 GE188.out GE189.out⟩
      ·rw [if_neg c65] at H
       have c65b0 : (t195 == 0) = false := beq_eq_false_iff_ne.mpr c65
       have c65b1 : (t195 != 0) = true := bne_iff_ne.mpr c65
       obtain rfl := Option.some.inj H
       have hnb73 := NB189_188.out
       have hnc73 := NB188_189.out
       have hcz74_0 := czz BK189.out 0
       have hcz74_1 := czz BK189.out 1
       have hfz74_0 := fz BK189.out 0
       have hfz74_1 := fz BK189.out 1
       go_wp2_with (first | ((with_reducible refine gate_callee (f := 38) rfl ?_); refine goesL_ (some 23) rfl rfl Tryd.func38 (by kernel_rfl) rfl #[.agg #[.int .i64 a1_0, .int .i64 a1_1]] rfl TM ?_; (with_reducible refine (saronlaw03_state.calls a1_0 a1_1 t192 t193 _ A14.out).mono ?_); rintro e w75 ⟨rfl, hb⟩; refine ⟨_, rfl, ?_⟩; replace BK188 := Aside0.mk (blk_below (g := gb188) (o := .cells #[.slice A0_0 l0_0.length c0_0, .int .i64 a0_1, .int .i64 a0_2, .slice A0_3 l0_3.length c0_3] 27 (0, 0)) (by (with_reducible repeat (first | refine blk_drewN ?_ _ | refine blk_drew ?_ | refine blk_alloc ?_ _)); exact BK188.out) hb); replace BK189 := Aside0.mk (blk_below (g := gb189) (o := .cells #[.int .i64 a1_0, .int .i64 a1_1] 28 (0, 0)) (by (with_reducible repeat (first | refine blk_drewN ?_ _ | refine blk_drew ?_ | refine blk_alloc ?_ _)); exact BK189.out) hb); replace HB := Aside0.mk (below_step (TB2 GE188.out GE189.out) hb); (try clear hb); (try clear hb2); (try clear hk); (try clear hi); have hcz76_0 := czz BK188.out 0; have hcz76_1 := czz BK188.out 1; have hcz76_2 := czz BK188.out 2; have hcz76_3 := czz BK188.out 3; have hfz76_0 := fz BK188.out 0; have hfz76_1 := fz BK188.out 1; have hfz76_2 := fz BK188.out 2; have hfz76_3 := fz BK188.out 3) | ((with_reducible refine gate_callee (f := 16) rfl ?_); refine goesL_ (some 30) rfl rfl Tryd.func16 (by kernel_rfl) rfl #[.agg #[.slice A0_0 l0_0.length c0_0, .int .i64 a0_1, .int .i64 a0_2, .slice A0_3 l0_3.length c0_3], .int .i64 t192, .int .i64 t193] rfl TM ?_; (with_reducible refine (rasp_Next.calls _ _ l0_0 a0_1 a0_2 _ _ l0_3 t192 t193 t194 t195 t196 _ ?side1 ?side2 ?side3 ?side4 ?side5 A15.out).mono ?_); (case side1 => exact TC HR0_0.out); (case side2 => exact HC0_0.out); (case side3 => exact TC HR0_3.out); (case side4 => exact HC0_3.out); (case side5 => exact Glob.fr HG.out (Fr.of_below (TB2 GE188.out GE189.out))); rintro e w77 ⟨rfl, hb⟩; refine ⟨_, rfl, ?_⟩; replace BK188 := Aside0.mk (blk_below (g := gb188) (o := .cells #[.slice A0_0 l0_0.length c0_0, .int .i64 a0_1, .int .i64 a0_2, .slice A0_3 l0_3.length c0_3] 27 (0, 0)) (by (with_reducible repeat (first | refine blk_drewN ?_ _ | refine blk_drew ?_ | refine blk_alloc ?_ _)); exact BK188.out) hb); replace BK189 := Aside0.mk (blk_below (g := gb189) (o := .cells #[.int .i64 a1_0, .int .i64 a1_1] 28 (0, 0)) (by (with_reducible repeat (first | refine blk_drewN ?_ _ | refine blk_drew ?_ | refine blk_alloc ?_ _)); exact BK189.out) hb); replace HB := Aside0.mk (below_step (TB2 GE188.out GE189.out) hb); (try clear hb); (try clear hb2); (try clear hk); (try clear hi)))
       go_ret
       exact ⟨TR, TB2 GE188.out GE189.out⟩
     ·rw [if_neg c64] at H
      have c64b0 : (t196 == 4) = false := beq_eq_false_iff_ne.mpr c64
      have c64b1 : (t196 != 4) = true := bne_iff_ne.mpr c64
      obtain rfl := Option.some.inj H
      have hnb78 := NB189_188.out
      have hnc78 := NB188_189.out
      have hcz79_0 := czz BK189.out 0
      have hcz79_1 := czz BK189.out 1
      have hfz79_0 := fz BK189.out 0
      have hfz79_1 := fz BK189.out 1
      go_wp2_with (first | ((with_reducible refine gate_callee (f := 38) rfl ?_); refine goesL_ (some 23) rfl rfl Tryd.func38 (by kernel_rfl) rfl #[.agg #[.int .i64 a1_0, .int .i64 a1_1]] rfl TM ?_; (with_reducible refine (saronlaw03_state.calls a1_0 a1_1 t192 t193 _ A14.out).mono ?_); rintro e w80 ⟨rfl, hb⟩; refine ⟨_, rfl, ?_⟩; replace BK188 := Aside0.mk (blk_below (g := gb188) (o := .cells #[.slice A0_0 l0_0.length c0_0, .int .i64 a0_1, .int .i64 a0_2, .slice A0_3 l0_3.length c0_3] 27 (0, 0)) (by (with_reducible repeat (first | refine blk_drewN ?_ _ | refine blk_drew ?_ | refine blk_alloc ?_ _)); exact BK188.out) hb); replace BK189 := Aside0.mk (blk_below (g := gb189) (o := .cells #[.int .i64 a1_0, .int .i64 a1_1] 28 (0, 0)) (by (with_reducible repeat (first | refine blk_drewN ?_ _ | refine blk_drew ?_ | refine blk_alloc ?_ _)); exact BK189.out) hb); replace HB := Aside0.mk (below_step (TB2 GE188.out GE189.out) hb); (try clear hb); (try clear hb2); (try clear hk); (try clear hi); have hcz81_0 := czz BK188.out 0; have hcz81_1 := czz BK188.out 1; have hcz81_2 := czz BK188.out 2; have hcz81_3 := czz BK188.out 3; have hfz81_0 := fz BK188.out 0; have hfz81_1 := fz BK188.out 1; have hfz81_2 := fz BK188.out 2; have hfz81_3 := fz BK188.out 3) | ((with_reducible refine gate_callee (f := 16) rfl ?_); refine goesL_ (some 30) rfl rfl Tryd.func16 (by kernel_rfl) rfl #[.agg #[.slice A0_0 l0_0.length c0_0, .int .i64 a0_1, .int .i64 a0_2, .slice A0_3 l0_3.length c0_3], .int .i64 t192, .int .i64 t193] rfl TM ?_; (with_reducible refine (rasp_Next.calls _ _ l0_0 a0_1 a0_2 _ _ l0_3 t192 t193 t194 t195 t196 _ ?side1 ?side2 ?side3 ?side4 ?side5 A15.out).mono ?_); (case side1 => exact TC HR0_0.out); (case side2 => exact HC0_0.out); (case side3 => exact TC HR0_3.out); (case side4 => exact HC0_3.out); (case side5 => exact Glob.fr HG.out (Fr.of_below (TB2 GE188.out GE189.out))); rintro e w82 ⟨rfl, hb⟩; refine ⟨_, rfl, ?_⟩; replace BK188 := Aside0.mk (blk_below (g := gb188) (o := .cells #[.slice A0_0 l0_0.length c0_0, .int .i64 a0_1, .int .i64 a0_2, .slice A0_3 l0_3.length c0_3] 27 (0, 0)) (by (with_reducible repeat (first | refine blk_drewN ?_ _ | refine blk_drew ?_ | refine blk_alloc ?_ _)); exact BK188.out) hb); replace BK189 := Aside0.mk (blk_below (g := gb189) (o := .cells #[.int .i64 a1_0, .int .i64 a1_1] 28 (0, 0)) (by (with_reducible repeat (first | refine blk_drewN ?_ _ | refine blk_drew ?_ | refine blk_alloc ?_ _)); exact BK189.out) hb); replace HB := Aside0.mk (below_step (TB2 GE188.out GE189.out) hb); (try clear hb); (try clear hb2); (try clear hk); (try clear hi)))
      go_ret
      exact ⟨TR, TB2 GE188.out GE189.out⟩
end Go.Proofs.YtfmpbkolpjlfbaaDoor.PRaspKeys
