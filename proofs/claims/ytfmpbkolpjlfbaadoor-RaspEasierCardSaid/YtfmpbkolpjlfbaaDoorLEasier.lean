import Derived.Test.YtfmpbkolpjlfbaaDoorG5
import Derived.Test.YtfmpbkolpjlfbaaDoorCS
import Derived.Test.YtfmpbkolpjlfbaaDoorCH
import Derived.Test.YtfmpbkolpjlfbaaDoorM0
import Derived.Test.YtfmpbkolpjlfbaaDoorProg
import Derived.Below
import Derived.Deep.Draws
import Derived.Deep.AppendLies
import Derived.Maps.AppendAt
import Derived.OwnWalk
import Derived.Laws.BytesArg
import Derived.Laws.MakeOwn
import Derived.Laws.OwnMore
import Derived.Deep.OwnRows
import Derived.Tactics
import Derived.Lib.ConvBytes
import Derived.Laws.Slices
import Derived.WalkKit
import Derived.KernelRfl
import Derived.RowKit3
import Derived.Deep.LoopGhost
import Derived.Deep.QuietTactic
import Derived.BigQuiet
import Derived.WideLaws
import Derived.Deep.DeepCutAuto
import Derived.Deep.CutBlock
import Derived.Deep.RegionHeld3
import Derived.Laws.Rows
import Derived.Lib.AppendStr
import Derived.ArgAppend
import Derived.Laws.IdiomCopy
import Derived.OrdersHeld
import Derived.Laws.BitsLemmas
import Derived.RowKit
import Derived.Test.YtfmpbkolpjlfbaaDoorVXA
set_option linter.unusedVariables false
set_option linter.unusedSimpArgs false
namespace Go.Proofs.YtfmpbkolpjlfbaaDoor.M
open Go.RowKit Go.Proofs.YtfmpbkolpjlfbaaDoorW.PrintWords Go.Proofs.YtfmpbkolpjlfbaaDoorW.PrintLast
theorem czz {w : World} {g : Nat} {cs : Array Value} {t : TypeId} {v : Value} (h : w.heap[g]? = some (.cells cs t (0, 0))) (i : Nat) (hv : cs[i]? = some v := by (first | (simp only [List.getElem?_toArray, List.getElem?_cons_zero, List.getElem?_cons_succ]; rfl) | exact rfl)) : w.cell? ⟨g, i, none⟩ = some v := (blk_cell h i).trans hv
end Go.Proofs.YtfmpbkolpjlfbaaDoor.M
namespace Go.Proofs.YtfmpbkolpjlfbaaDoor.M
open Go.RowKit Go.Proofs.YtfmpbkolpjlfbaaDoorW.PrintWords Go.Proofs.YtfmpbkolpjlfbaaDoorW.PrintLast
theorem TG3 {p q r s : Prop} (g : q) (g' : r) (g3 : s) (h : q → r → s → p := by (intro g g' g3; rw [hg]; exact (below_size (by repeat (first | (with_reducible first | exact HB.out | apply below_alloc | apply pw_below_drewN | apply below_drew1 | refine below_set ?_ g | refine below_set ?_ g' | refine below_set ?_ g3) | exact HB.out))))) : p := h g g' g3
end Go.Proofs.YtfmpbkolpjlfbaaDoor.M
namespace Go.Proofs.YtfmpbkolpjlfbaaDoor.PRaspKeys
open Go.RowKit Go.Proofs.YtfmpbkolpjlfbaaDoorW.PrintWords Go.Proofs.YtfmpbkolpjlfbaaDoorW.PrintLast Go.Proofs.YtfmpbkolpjlfbaaDoorW.PrintMore Go.Proofs.YtfmpbkolpjlfbaaDoor.M
attribute [local go_sem] max2_int min2_int max_two min_two max_three min_three max_four min_four   -- for this text's walks alone
/-! #### struct type 24 -/
/-! #### struct type 57 -/
/-! #### struct type 69 -/
end Go.Proofs.YtfmpbkolpjlfbaaDoor.PRaspKeys
namespace Go.Proofs.YtfmpbkolpjlfbaaDoor.PRaspKeys
open Go.RowKit Go.Proofs.YtfmpbkolpjlfbaaDoorW.PrintWords Go.Proofs.YtfmpbkolpjlfbaaDoorW.PrintLast Go.Proofs.YtfmpbkolpjlfbaaDoorW.PrintMore Go.Proofs.YtfmpbkolpjlfbaaDoor.M
attribute [local go_sem] max2_int min2_int max_two min_two max_three min_three max_four min_four   -- for this text's walks alone
end Go.Proofs.YtfmpbkolpjlfbaaDoor.PRaspKeys
namespace Go.Proofs.YtfmpbkolpjlfbaaDoor.PRaspKeys
open Go.RowKit Go.Proofs.YtfmpbkolpjlfbaaDoorW.PrintWords Go.Proofs.YtfmpbkolpjlfbaaDoorW.PrintLast Go.Proofs.YtfmpbkolpjlfbaaDoorW.PrintMore Go.Proofs.YtfmpbkolpjlfbaaDoor.M
attribute [local go_sem] max2_int min2_int max_two min_two max_three min_three max_four min_four   -- for this text's walks alone
/-! ### saronlaw03_RaspEasier: function 10 -/
mutual
def saronlaw03_RaspEasier.j0 : Nat → Int → Int → Int → Int → List (S57) → Int → Int → List (S69) → Int → Int → Int → List (S57) → Int → Int → List (S69) → List (S57) → Int → Int → List (S69) → Option (Bool)
 | 0, _, _, _, _, _, _, _, _, _, _, _, _, _, _, _, _, _, _, _ => none
 | k + 1, x7, x8, x10, x11, x185000, x185001, x185002, x185003, x187000, x187001, x187002, x195000, x195001, x195002, x195003, x196000, x196001, x196002, x196003 => (saronref00_Turn.f x187000 (x185000.length : Int)).bind fun t206 => (if 0 ≤ t206 then (if t206 < (x185000.length : Int) then ((saronref00_Draw.f ((rd_T57 x185000 t206).f0.f0) ((rd_T57 x185000 t206).f0.f1) x187001).bind fun t209 => ((saronref00_Band.f t209 ((rd_T57 x185000 t206).f0.f1)).bind fun bt210 => ((saronref00_Draw.f bt210.1 bt210.2 x187002).bind fun t212 => ((saronref00_Band.f t209 t212).bind fun bt213 => (if t206 < (x196000.length : Int) then ((rasp_Next.f x195000 x195001 x195002 x195003 x7 x8).bind fun bt216 => ((rasp_Next.f (x196000.set (t206 : Int).toNat (⟨(⟨bt213.1, bt213.2⟩ : S24), (rd_T57 x185000 t206).f1⟩ : S57)) x196001 x196002 x196003 x7 x8).bind fun bt219 => (saronlaw03_RaspEasier.j1 k x10 x11 bt216.2.1 bt216.2.2 bt219.2.1 bt219.2.2))) else (none)))))) else (none)) else (none))
def saronlaw03_RaspEasier.j1 : Nat → Int → Int → Int → Int → Int → Int → Option (Bool)
 | 0, _, _, _, _, _, _ => none
 | k + 1, x10, x11, x19, x20, x22, x23 => if x11 = 0 then (if x20 = 0 then (if x23 = 0 then (if x19 ≤ x10 then (if x22 ≤ x10 then ((saronlaw03_filed.f).bind fun t222 => (some t222)) else (some false)) else (some false)) else (some false)) else (some false)) else (if x11 = 4 then (if x20 = 0 then (if x23 = 0 then ((saronlaw03_filed.f).bind fun t223 => (some t223)) else (if x23 = x11 then ((saronlaw03_filed.f).bind fun t224 => (some t224)) else (some false))) else (if x20 = x11 then (if x23 = 0 then ((saronlaw03_filed.f).bind fun t225 => (some t225)) else (if x23 = x11 then ((saronlaw03_filed.f).bind fun t226 => (some t226)) else (some false))) else (some false))) else (some false))
end
def saronlaw03_RaspEasier.f (k : Nat) (l0_0 : List (S57)) (a0_1 : Int) (a0_2 : Int) (l0_3 : List (S69)) (a1_0 : Int) (a1_1 : Int) (a2_0 : Int) (a2_1 : Int) (a2_2 : Int) : Option (Bool) := (saronlaw03_sound.f k l0_0 a0_1 a0_2 l0_3).bind fun t187 => (if t187 = true then ((saronlaw03_state.f a1_0 a1_1).bind fun bt189 => ((rasp_Next.f l0_0 a0_1 a0_2 l0_3 bt189.1 bt189.2).bind fun bt191 => ((saronref00_Turn.f a2_1 12).bind fun t196 => ((saronref00_Turn.f a2_2 12).bind fun t197 => ((saronref00_Band.f (mx (-60) (wrap64 (a0_1 - t196))) (mn 60 (wrap64 (a0_2 + t197)))).bind fun bt198 => ((some (([] : List (S57)) : List (S57))).bind fun y200 => (if y200.length + l0_0.length < 5864062014805 then (saronlaw03_RaspEasier.j0 k bt189.1 bt189.2 bt191.2.1 bt191.2.2 l0_0 a0_1 a0_2 l0_3 a2_0 a2_1 a2_2 l0_0 bt198.1 bt198.2 l0_3 (y200 ++ l0_0) a0_1 a0_2 l0_3) else (none)))))))) else ((saronlaw03_filed.f).bind fun t188 => (some t188)))
theorem saronlaw03_RaspEasier.mono_l : ∀ k, (∀ y0 y1 y2 y3 y4 y5 y6 y7 y8 y9 y10 y11 y12 y13 y14 y15 y16 y17 y18, LeO (saronlaw03_RaspEasier.j0 k y0 y1 y2 y3 y4 y5 y6 y7 y8 y9 y10 y11 y12 y13 y14 y15 y16 y17 y18) (saronlaw03_RaspEasier.j0 (k + 1) y0 y1 y2 y3 y4 y5 y6 y7 y8 y9 y10 y11 y12 y13 y14 y15 y16 y17 y18)) ∧ (∀ y0 y1 y2 y3 y4 y5, LeO (saronlaw03_RaspEasier.j1 k y0 y1 y2 y3 y4 y5) (saronlaw03_RaspEasier.j1 (k + 1) y0 y1 y2 y3 y4 y5))
 | 0 => ⟨fun _ _ _ _ _ _ _ _ _ _ _ _ _ _ _ _ _ _ _ r h => by simp [saronlaw03_RaspEasier.j0] at h, fun _ _ _ _ _ _ r h => by simp [saronlaw03_RaspEasier.j1] at h⟩
 | k + 1 => by
  obtain ⟨ih0, ih1⟩ := saronlaw03_RaspEasier.mono_l k
  refine ⟨?_, ?_⟩
  ·intro y0 y1 y2 y3 y4 y5 y6 y7 y8 y9 y10 y11 y12 y13 y14 y15 y16 y17 y18
   unfold saronlaw03_RaspEasier.j0
   repeat' first
   | (with_reducible exact ih0 _ _ _ _ _ _ _ _ _ _ _ _ _ _ _ _ _ _ _)
   | (with_reducible exact ih1 _ _ _ _ _ _)
   | (with_reducible exact saronlaw03_sound.mono _ _ _ _ _)
   | (with_reducible exact LeO.refl _)
   | (with_reducible exact LeO.none _)
   | (with_reducible refine LeO.ite ?_ ?_)
   | (with_reducible refine LeO.bind ?_ (fun _ => ?_))
   | exact ih0 _ _ _ _ _ _ _ _ _ _ _ _ _ _ _ _ _ _ _
   | exact ih1 _ _ _ _ _ _
   | exact saronlaw03_sound.mono _ _ _ _ _
   | exact LeO.none _
   | refine LeO.ite ?_ ?_
   | refine LeO.bind ?_ (fun _ => ?_)
  ·intro y0 y1 y2 y3 y4 y5
   unfold saronlaw03_RaspEasier.j1
   repeat' first
   | (with_reducible exact ih0 _ _ _ _ _ _ _ _ _ _ _ _ _ _ _ _ _ _ _)
   | (with_reducible exact ih1 _ _ _ _ _ _)
   | (with_reducible exact saronlaw03_sound.mono _ _ _ _ _)
   | (with_reducible exact LeO.refl _)
   | (with_reducible exact LeO.none _)
   | (with_reducible refine LeO.ite ?_ ?_)
   | (with_reducible refine LeO.bind ?_ (fun _ => ?_))
   | exact ih0 _ _ _ _ _ _ _ _ _ _ _ _ _ _ _ _ _ _ _
   | exact ih1 _ _ _ _ _ _
   | exact saronlaw03_sound.mono _ _ _ _ _
   | exact LeO.none _
   | refine LeO.ite ?_ ?_
   | refine LeO.bind ?_ (fun _ => ?_)
theorem saronlaw03_RaspEasier.mono : ∀ a0 a1 a2 a3 a4 a5 a6 a7 a8 k, LeO (saronlaw03_RaspEasier.f k a0 a1 a2 a3 a4 a5 a6 a7 a8) (saronlaw03_RaspEasier.f (k + 1) a0 a1 a2 a3 a4 a5 a6 a7 a8) := by
 intro a0 a1 a2 a3 a4 a5 a6 a7 a8 k
 obtain ⟨ih0, ih1⟩ := saronlaw03_RaspEasier.mono_l k
 unfold saronlaw03_RaspEasier.f
 repeat' first
   | (with_reducible exact ih0 _ _ _ _ _ _ _ _ _ _ _ _ _ _ _ _ _ _ _)
   | (with_reducible exact ih1 _ _ _ _ _ _)
   | (with_reducible exact saronlaw03_sound.mono _ _ _ _ _)
   | (with_reducible exact LeO.refl _)
   | (with_reducible exact LeO.none _)
   | (with_reducible refine LeO.ite ?_ ?_)
   | (with_reducible refine LeO.bind ?_ (fun _ => ?_))
   | exact ih0 _ _ _ _ _ _ _ _ _ _ _ _ _ _ _ _ _ _ _
   | exact ih1 _ _ _ _ _ _
   | exact saronlaw03_sound.mono _ _ _ _ _
   | exact LeO.none _
   | refine LeO.ite ?_ ?_
   | refine LeO.bind ?_ (fun _ => ?_)
def saronlaw03_RaspEasier.T7 : Bool × List (List Nat × List Nat) := (true, [([], []), ([0], [0]), ([1], [1]), ([], []), ([2, 3], [2, 3]), ([4], [4]), ([], []), ([6], [6]), ([7], [7]), ([], []), ([9], [9]), ([10], [10]), ([8, 11], [8, 11]), ([12], [12]), ([5, 13, 11], [5, 13]), ([0, 1, 2, 3, 4, 5, 6, 7, 8, 9, 10, 11, 12, 13, 14], []), ([15, 14, 14, 0, 1, 2, 3, 4, 5, 6, 7, 8, 9, 10, 11, 12, 13, 14], [14, 15])])
def saronlaw03_RaspEasier.B7 : List Nat := [0, 1, 3, 0, 15, 31, 0, 64, 192, 0, 512, 1536, 4032, 8128, 16383, 32767, 65535]
theorem saronlaw03_RaspEasier.tab7 : rtab .any (opsOf Tryd.f10 7) = saronlaw03_RaspEasier.T7 := by kernel_rfl
theorem saronlaw03_RaspEasier.bits7 : waitsOk saronlaw03_RaspEasier.T7.2 saronlaw03_RaspEasier.B7 = true := by kernel_rfl
def saronlaw03_RaspEasier.T12 : Bool × List (List Nat × List Nat) := (true, [([], []), ([], []), ([], []), ([2], [2]), ([3], [3]), ([1, 4], [1, 4]), ([], []), ([6], [6]), ([5, 7, 5], [5, 7]), ([0, 8, 8], [0, 8]), ([0, 1, 2, 3, 4, 5, 6, 7, 8, 9], []), ([10, 9, 9, 0, 1, 2, 3, 4, 5, 6, 7, 8, 9], [9, 10])])
def saronlaw03_RaspEasier.B12 : List Nat := [0, 0, 0, 4, 12, 30, 0, 64, 254, 511, 1023, 2047]
theorem saronlaw03_RaspEasier.tab12 : rtab .any (opsOf Tryd.f10 12) = saronlaw03_RaspEasier.T12 := by kernel_rfl
theorem saronlaw03_RaspEasier.bits12 : waitsOk saronlaw03_RaspEasier.T12.2 saronlaw03_RaspEasier.B12 = true := by kernel_rfl
set_option maxHeartbeats 8000000 in
set_option maxRecDepth 100000 in
theorem saronlaw03_RaspEasier.calls (k : Nat) (A0_0 : Option Addr) (c0_0 : Nat) (l0_0 : List (S57)) (a0_1 : Int) (a0_2 : Int) (A0_3 : Option Addr) (c0_3 : Nat) (l0_3 : List (S69)) (a1_0 : Int) (a1_1 : Int) (a2_0 : Int) (a2_1 : Int) (a2_2 : Int) (r : Bool) (w : World) (hr0_0 : Kd.C k57 w A0_0 l0_0.length l0_0) (hc0_0 : l0_0.length ≤ c0_0) (hr0_3 : Kd.C k69 w A0_3 l0_3.length l0_3) (hc0_3 : l0_3.length ≤ c0_3) (hG : Glob w) (h : saronlaw03_RaspEasier.f k l0_0 a0_1 a0_2 l0_3 a1_0 a1_1 a2_0 a2_1 a2_2 = some r) :
  Calls Tryd.prog 10 #[.agg #[.slice A0_0 l0_0.length c0_0, .int .i64 a0_1, .int .i64 a0_2, .slice A0_3 l0_3.length c0_3], .agg #[.int .i64 a1_0, .int .i64 a1_1], .agg #[.int .i64 a2_0, .int .i64 a2_1, .int .i64 a2_2]] w fun e w' => e = .returned (.bool r) ∧ Below w.heap.size w w' := by
 have hu27 := Tryd.underlying27
 have hu28 := Tryd.underlying28
 have hu65 := Tryd.underlying65
 have hu24 := Tryd.underlying24
 have hu57 := Tryd.underlying57
 have HR0_0 := Aside0.mk hr0_0
 have HC0_0 := Aside0.mk hc0_0
 clear hr0_0 hc0_0
 have HR0_3 := Aside0.mk hr0_3
 have HC0_3 := Aside0.mk hc0_3
 clear hr0_3 hc0_3
 have HB := Aside0.mk (Below.refl w.heap.size w)
 have HG := Aside0.mk hG
 clear hG
 have H : ((saronlaw03_sound.f k l0_0 a0_1 a0_2 l0_3).bind fun t187 => (if t187 = true then ((saronlaw03_state.f a1_0 a1_1).bind fun bt189 => ((rasp_Next.f l0_0 a0_1 a0_2 l0_3 bt189.1 bt189.2).bind fun bt191 => ((saronref00_Turn.f a2_1 12).bind fun t196 => ((saronref00_Turn.f a2_2 12).bind fun t197 => ((saronref00_Band.f (mx (-60) (wrap64 (a0_1 - t196))) (mn 60 (wrap64 (a0_2 + t197)))).bind fun bt198 => ((some (([] : List (S57)) : List (S57))).bind fun y200 => (if y200.length + l0_0.length < 5864062014805 then (saronlaw03_RaspEasier.j0 k bt189.1 bt189.2 bt191.2.1 bt191.2.2 l0_0 a0_1 a0_2 l0_3 a2_0 a2_1 a2_2 l0_0 bt198.1 bt198.2 l0_3 (y200 ++ l0_0) a0_1 a0_2 l0_3) else (none)))))))) else ((saronlaw03_filed.f).bind fun t188 => (some t188)))) = some r := h
 clear h
 replace H := Option.bind_eq_some_iff.mp H
 obtain ⟨t187, A40, H⟩ := H
 replace H : (if t187 = true then ((saronlaw03_state.f a1_0 a1_1).bind fun bt189 => ((rasp_Next.f l0_0 a0_1 a0_2 l0_3 bt189.1 bt189.2).bind fun bt191 => ((saronref00_Turn.f a2_1 12).bind fun t196 => ((saronref00_Turn.f a2_2 12).bind fun t197 => ((saronref00_Band.f (mx (-60) (wrap64 (a0_1 - t196))) (mn 60 (wrap64 (a0_2 + t197)))).bind fun bt198 => ((some (([] : List (S57)) : List (S57))).bind fun y200 => (if y200.length + l0_0.length < 5864062014805 then (saronlaw03_RaspEasier.j0 k bt189.1 bt189.2 bt191.2.1 bt191.2.2 l0_0 a0_1 a0_2 l0_3 a2_0 a2_1 a2_2 l0_0 bt198.1 bt198.2 l0_3 (y200 ++ l0_0) a0_1 a0_2 l0_3) else (none)))))))) else ((saronlaw03_filed.f).bind fun t188 => (some t188))) = some r := H
 have A4 := Aside0.mk A40
 clear A40
 by_cases c5 : t187 = true
 ·subst c5
  have H1 : ((saronlaw03_state.f a1_0 a1_1).bind fun bt189 => ((rasp_Next.f l0_0 a0_1 a0_2 l0_3 bt189.1 bt189.2).bind fun bt191 => ((saronref00_Turn.f a2_1 12).bind fun t196 => ((saronref00_Turn.f a2_2 12).bind fun t197 => ((saronref00_Band.f (mx (-60) (wrap64 (a0_1 - t196))) (mn 60 (wrap64 (a0_2 + t197)))).bind fun bt198 => ((some (([] : List (S57)) : List (S57))).bind fun y200 => (if y200.length + l0_0.length < 5864062014805 then (saronlaw03_RaspEasier.j0 k bt189.1 bt189.2 bt191.2.1 bt191.2.2 l0_0 a0_1 a0_2 l0_3 a2_0 a2_1 a2_2 l0_0 bt198.1 bt198.2 l0_3 (y200 ++ l0_0) a0_1 a0_2 l0_3) else (none)))))))) = some r := by rw [if_pos rfl] at H; exact H
  clear H
  have H := H1
  clear H1
  replace H := Option.bind_eq_some_iff.mp H
  obtain ⟨⟨t189, t190⟩, A60, H⟩ := H
  replace H : ((rasp_Next.f l0_0 a0_1 a0_2 l0_3 t189 t190).bind fun bt191 => ((saronref00_Turn.f a2_1 12).bind fun t196 => ((saronref00_Turn.f a2_2 12).bind fun t197 => ((saronref00_Band.f (mx (-60) (wrap64 (a0_1 - t196))) (mn 60 (wrap64 (a0_2 + t197)))).bind fun bt198 => ((some (([] : List (S57)) : List (S57))).bind fun y200 => (if y200.length + l0_0.length < 5864062014805 then (saronlaw03_RaspEasier.j0 k t189 t190 bt191.2.1 bt191.2.2 l0_0 a0_1 a0_2 l0_3 a2_0 a2_1 a2_2 l0_0 bt198.1 bt198.2 l0_3 (y200 ++ l0_0) a0_1 a0_2 l0_3) else (none))))))) = some r := H
  have A6 := Aside0.mk A60
  clear A60
  replace H := Option.bind_eq_some_iff.mp H
  obtain ⟨⟨t191, t192, t193⟩, A70, H⟩ := H
  replace H : ((saronref00_Turn.f a2_1 12).bind fun t196 => ((saronref00_Turn.f a2_2 12).bind fun t197 => ((saronref00_Band.f (mx (-60) (wrap64 (a0_1 - t196))) (mn 60 (wrap64 (a0_2 + t197)))).bind fun bt198 => ((some (([] : List (S57)) : List (S57))).bind fun y200 => (if y200.length + l0_0.length < 5864062014805 then (saronlaw03_RaspEasier.j0 k t189 t190 t192 t193 l0_0 a0_1 a0_2 l0_3 a2_0 a2_1 a2_2 l0_0 bt198.1 bt198.2 l0_3 (y200 ++ l0_0) a0_1 a0_2 l0_3) else (none)))))) = some r := H
  have A7 := Aside0.mk A70
  clear A70
  replace H := Option.bind_eq_some_iff.mp H
  obtain ⟨t196, A80, H⟩ := H
  replace H : ((saronref00_Turn.f a2_2 12).bind fun t197 => ((saronref00_Band.f (mx (-60) (wrap64 (a0_1 - t196))) (mn 60 (wrap64 (a0_2 + t197)))).bind fun bt198 => ((some (([] : List (S57)) : List (S57))).bind fun y200 => (if y200.length + l0_0.length < 5864062014805 then (saronlaw03_RaspEasier.j0 k t189 t190 t192 t193 l0_0 a0_1 a0_2 l0_3 a2_0 a2_1 a2_2 l0_0 bt198.1 bt198.2 l0_3 (y200 ++ l0_0) a0_1 a0_2 l0_3) else (none))))) = some r := H
  have A8 := Aside0.mk A80
  clear A80
  obtain ⟨ji9, hji9⟩ : ∃ j_ : Int, (mx (-60) (wrap64 (a0_1 - t196))) = j_ := ⟨_, rfl⟩
  replace H : ((saronref00_Turn.f a2_2 12).bind fun t197 => ((saronref00_Band.f (ji9) (mn 60 (wrap64 (a0_2 + t197)))).bind fun bt198 => ((some (([] : List (S57)) : List (S57))).bind fun y200 => (if y200.length + l0_0.length < 5864062014805 then (saronlaw03_RaspEasier.j0 k t189 t190 t192 t193 l0_0 a0_1 a0_2 l0_3 a2_0 a2_1 a2_2 l0_0 bt198.1 bt198.2 l0_3 (y200 ++ l0_0) a0_1 a0_2 l0_3) else (none))))) = some r := by first | (rw [hji9] at H; exact H) | (simp only [hji9] at H ⊢; exact H)
  (try rw [hji9] at A4)
  (try rw [hji9] at A6)
  (try rw [hji9] at A7)
  (try rw [hji9] at A8)
  have hji9_ : (if (-60) < (wrap64 (a0_1 - t196)) then (wrap64 (a0_1 - t196)) else (-60)) = ji9 := hji9
  replace H := Option.bind_eq_some_iff.mp H
  obtain ⟨t197, A100, H⟩ := H
  replace H : ((saronref00_Band.f (ji9) (mn 60 (wrap64 (a0_2 + t197)))).bind fun bt198 => ((some (([] : List (S57)) : List (S57))).bind fun y200 => (if y200.length + l0_0.length < 5864062014805 then (saronlaw03_RaspEasier.j0 k t189 t190 t192 t193 l0_0 a0_1 a0_2 l0_3 a2_0 a2_1 a2_2 l0_0 bt198.1 bt198.2 l0_3 (y200 ++ l0_0) a0_1 a0_2 l0_3) else (none)))) = some r := H
  have A10 := Aside0.mk A100
  clear A100
  obtain ⟨ji11, hji11⟩ : ∃ j_ : Int, (mn 60 (wrap64 (a0_2 + t197))) = j_ := ⟨_, rfl⟩
  replace H : ((saronref00_Band.f (ji9) (ji11)).bind fun bt198 => ((some (([] : List (S57)) : List (S57))).bind fun y200 => (if y200.length + l0_0.length < 5864062014805 then (saronlaw03_RaspEasier.j0 k t189 t190 t192 t193 l0_0 a0_1 a0_2 l0_3 a2_0 a2_1 a2_2 l0_0 bt198.1 bt198.2 l0_3 (y200 ++ l0_0) a0_1 a0_2 l0_3) else (none)))) = some r := by first | (rw [hji11] at H; exact H) | (simp only [hji11] at H ⊢; exact H)
  (try rw [hji11] at A4)
  (try rw [hji11] at A6)
  (try rw [hji11] at A7)
  (try rw [hji11] at A8)
  (try rw [hji11] at A10)
  (try (have hji11h : ji11 ≤ 60 := by (rw [← hji11]; unfold mn; (repeat' split) <;> omega)))
  (try (have hji11g : ji11 ≤ 64 := by omega))
  have hji11_ : (if (wrap64 (a0_2 + t197)) < 60 then (wrap64 (a0_2 + t197)) else 60) = ji11 := hji11
  replace H := Option.bind_eq_some_iff.mp H
  obtain ⟨⟨t198, t199⟩, A120, H⟩ := H
  replace H : ((some (([] : List (S57)) : List (S57))).bind fun y200 => (if y200.length + l0_0.length < 5864062014805 then (saronlaw03_RaspEasier.j0 k t189 t190 t192 t193 l0_0 a0_1 a0_2 l0_3 a2_0 a2_1 a2_2 l0_0 t198 t199 l0_3 (y200 ++ l0_0) a0_1 a0_2 l0_3) else (none))) = some r := H
  have A12 := Aside0.mk A120
  clear A120
  have HC13 := Aside0.mk H
  clear H
  go_enter Tryd.func10, Tryd.ntmps10
  try go_wp2_with (first | ((with_reducible refine gate_dst (N := 3) rfl ?_); refine box_event ?hg (N := 3) ?hd (cs := #[.slice A0_0 l0_0.length c0_0, .int .i64 a0_1, .int .i64 a0_2, .slice A0_3 l0_3.length c0_3]) (t := 27) ?hr ?_; (case hd => rfl); (case hg => rfl); (case hr => exact TS); intro gb184 hg w14 hbox hb; have BK184 := Aside0.mk (hbox); have GW184 := Aside0.mk ((TG : w.heap.size ≤ gb184)); have GE184 := Aside0.mk ((TG : w.heap.size ≤ gb184)); replace HB := Aside0.mk (below_step TB hb); clear hb hbox hg) | ((with_reducible refine gate_dst (N := 4) rfl ?_); refine box_event ?hg (N := 4) ?hd (cs := #[.int .i64 a1_0, .int .i64 a1_1]) (t := 28) ?hr ?_; (case hd => rfl); (case hg => rfl); (case hr => exact TS); intro gb185 hg w15 hbox hb; have BK185 := Aside0.mk (hbox); have GW185 := Aside0.mk ((TG1 GE184.out : w.heap.size ≤ gb185)); have GE185 := Aside0.mk ((TG1 GE184.out : w.heap.size ≤ gb185)); have NB184_185 := Aside0.mk ((by rw [hg]; exact Nat.ne_of_lt (blk_lt (g := gb184) (o := .cells #[.slice A0_0 l0_0.length c0_0, .int .i64 a0_1, .int .i64 a0_2, .slice A0_3 l0_3.length c0_3] 27 (0, 0)) (by (with_reducible repeat (first | refine blk_drewN ?_ _ | refine blk_drew ?_ | refine blk_alloc ?_ _)); exact BK184.out)) : gb184 ≠ gb185)); have NB185_184 := Aside0.mk ((by rw [hg]; exact Nat.ne_of_gt (blk_lt (g := gb184) (o := .cells #[.slice A0_0 l0_0.length c0_0, .int .i64 a0_1, .int .i64 a0_2, .slice A0_3 l0_3.length c0_3] 27 (0, 0)) (by (with_reducible repeat (first | refine blk_drewN ?_ _ | refine blk_drew ?_ | refine blk_alloc ?_ _)); exact BK184.out)) : gb185 ≠ gb184)); replace BK184 := Aside0.mk (blk_below (g := gb184) (o := .cells #[.slice A0_0 l0_0.length c0_0, .int .i64 a0_1, .int .i64 a0_2, .slice A0_3 l0_3.length c0_3] 27 (0, 0)) (by (with_reducible repeat (first | refine blk_drewN ?_ _ | refine blk_drew ?_ | refine blk_alloc ?_ _)); exact BK184.out) hb); replace HB := Aside0.mk (below_step (TB1 GE184.out) hb); clear hb hbox hg) | ((with_reducible refine gate_dst (N := 5) rfl ?_); refine box_event ?hg (N := 5) ?hd (cs := #[.int .i64 a2_0, .int .i64 a2_1, .int .i64 a2_2]) (t := 65) ?hr ?_; (case hd => rfl); (case hg => rfl); (case hr => exact TS); intro gb186 hg w16 hbox hb; have BK186 := Aside0.mk (hbox); have GW186 := Aside0.mk ((TG2 GE184.out GE185.out : w.heap.size ≤ gb186)); have GE186 := Aside0.mk ((TG2 GE184.out GE185.out : w.heap.size ≤ gb186)); have NB184_186 := Aside0.mk ((by rw [hg]; exact Nat.ne_of_lt (blk_lt (g := gb184) (o := .cells #[.slice A0_0 l0_0.length c0_0, .int .i64 a0_1, .int .i64 a0_2, .slice A0_3 l0_3.length c0_3] 27 (0, 0)) (by (with_reducible repeat (first | refine blk_drewN ?_ _ | refine blk_drew ?_ | refine blk_alloc ?_ _)); exact BK184.out)) : gb184 ≠ gb186)); have NB186_184 := Aside0.mk ((by rw [hg]; exact Nat.ne_of_gt (blk_lt (g := gb184) (o := .cells #[.slice A0_0 l0_0.length c0_0, .int .i64 a0_1, .int .i64 a0_2, .slice A0_3 l0_3.length c0_3] 27 (0, 0)) (by (with_reducible repeat (first | refine blk_drewN ?_ _ | refine blk_drew ?_ | refine blk_alloc ?_ _)); exact BK184.out)) : gb186 ≠ gb184)); have NB185_186 := Aside0.mk ((by rw [hg]; exact Nat.ne_of_lt (blk_lt (g := gb185) (o := .cells #[.int .i64 a1_0, .int .i64 a1_1] 28 (0, 0)) (by (with_reducible repeat (first | refine blk_drewN ?_ _ | refine blk_drew ?_ | refine blk_alloc ?_ _)); exact BK185.out)) : gb185 ≠ gb186)); have NB186_185 := Aside0.mk ((by rw [hg]; exact Nat.ne_of_gt (blk_lt (g := gb185) (o := .cells #[.int .i64 a1_0, .int .i64 a1_1] 28 (0, 0)) (by (with_reducible repeat (first | refine blk_drewN ?_ _ | refine blk_drew ?_ | refine blk_alloc ?_ _)); exact BK185.out)) : gb186 ≠ gb185)); replace BK184 := Aside0.mk (blk_below (g := gb184) (o := .cells #[.slice A0_0 l0_0.length c0_0, .int .i64 a0_1, .int .i64 a0_2, .slice A0_3 l0_3.length c0_3] 27 (0, 0)) (by (with_reducible repeat (first | refine blk_drewN ?_ _ | refine blk_drew ?_ | refine blk_alloc ?_ _)); exact BK184.out) hb); replace BK185 := Aside0.mk (blk_below (g := gb185) (o := .cells #[.int .i64 a1_0, .int .i64 a1_1] 28 (0, 0)) (by (with_reducible repeat (first | refine blk_drewN ?_ _ | refine blk_drew ?_ | refine blk_alloc ?_ _)); exact BK185.out) hb); replace HB := Aside0.mk (below_step (TB2 GE184.out GE185.out) hb); clear hb hbox hg; have hnb17 := NB184_185.out; have hnc17 := NB185_184.out; have hnb18 := NB184_186.out; have hnc18 := NB186_184.out; have hcz19_0 := czz BK184.out 0; have hcz19_1 := czz BK184.out 1; have hcz19_2 := czz BK184.out 2; have hcz19_3 := czz BK184.out 3; have hfz19_0 := fz BK184.out 0; have hfz19_1 := fz BK184.out 1; have hfz19_2 := fz BK184.out 2; have hfz19_3 := fz BK184.out 3) | ((with_reducible refine gate_callee (f := 37) rfl ?_); refine goesL_ (some 25) rfl rfl Tryd.func37 (by kernel_rfl) rfl #[.agg #[.slice A0_0 l0_0.length c0_0, .int .i64 a0_1, .int .i64 a0_2, .slice A0_3 l0_3.length c0_3]] rfl TM ?_; (with_reducible refine (saronlaw03_sound.calls k _ _ l0_0 a0_1 a0_2 _ _ l0_3 true _ ?side1 ?side2 ?side3 ?side4 A4.out).mono ?_); (case side1 => exact TC HR0_0.out); (case side2 => exact HC0_0.out); (case side3 => exact TC HR0_3.out); (case side4 => exact HC0_3.out); rintro e w20 ⟨rfl, hb⟩; refine ⟨_, rfl, ?_⟩; replace BK184 := Aside0.mk (blk_below (g := gb184) (o := .cells #[.slice A0_0 l0_0.length c0_0, .int .i64 a0_1, .int .i64 a0_2, .slice A0_3 l0_3.length c0_3] 27 (0, 0)) (by (with_reducible repeat (first | refine blk_drewN ?_ _ | refine blk_drew ?_ | refine blk_alloc ?_ _)); exact BK184.out) hb); replace BK185 := Aside0.mk (blk_below (g := gb185) (o := .cells #[.int .i64 a1_0, .int .i64 a1_1] 28 (0, 0)) (by (with_reducible repeat (first | refine blk_drewN ?_ _ | refine blk_drew ?_ | refine blk_alloc ?_ _)); exact BK185.out) hb); replace BK186 := Aside0.mk (blk_below (g := gb186) (o := .cells #[.int .i64 a2_0, .int .i64 a2_1, .int .i64 a2_2] 65 (0, 0)) (by (with_reducible repeat (first | refine blk_drewN ?_ _ | refine blk_drew ?_ | refine blk_alloc ?_ _)); exact BK186.out) hb); replace HB := Aside0.mk (below_step (TB3 GE184.out GE185.out GE186.out) hb); (try clear hb); (try clear hb2); (try clear hk); (try clear hi); have hnb21 := NB185_186.out; have hnc21 := NB186_185.out; have hcz22_0 := czz BK185.out 0; have hcz22_1 := czz BK185.out 1; have hfz22_0 := fz BK185.out 0; have hfz22_1 := fz BK185.out 1) | ((with_reducible refine gate_callee (f := 38) rfl ?_); refine goesL_ (some 30) rfl rfl Tryd.func38 (by kernel_rfl) rfl #[.agg #[.int .i64 a1_0, .int .i64 a1_1]] rfl TM ?_; (with_reducible refine (saronlaw03_state.calls a1_0 a1_1 t189 t190 _ A6.out).mono ?_); rintro e w23 ⟨rfl, hb⟩; refine ⟨_, rfl, ?_⟩; replace BK184 := Aside0.mk (blk_below (g := gb184) (o := .cells #[.slice A0_0 l0_0.length c0_0, .int .i64 a0_1, .int .i64 a0_2, .slice A0_3 l0_3.length c0_3] 27 (0, 0)) (by (with_reducible repeat (first | refine blk_drewN ?_ _ | refine blk_drew ?_ | refine blk_alloc ?_ _)); exact BK184.out) hb); replace BK185 := Aside0.mk (blk_below (g := gb185) (o := .cells #[.int .i64 a1_0, .int .i64 a1_1] 28 (0, 0)) (by (with_reducible repeat (first | refine blk_drewN ?_ _ | refine blk_drew ?_ | refine blk_alloc ?_ _)); exact BK185.out) hb); replace BK186 := Aside0.mk (blk_below (g := gb186) (o := .cells #[.int .i64 a2_0, .int .i64 a2_1, .int .i64 a2_2] 65 (0, 0)) (by (with_reducible repeat (first | refine blk_drewN ?_ _ | refine blk_drew ?_ | refine blk_alloc ?_ _)); exact BK186.out) hb); replace HB := Aside0.mk (below_step (TB3 GE184.out GE185.out GE186.out) hb); (try clear hb); (try clear hb2); (try clear hk); (try clear hi); have hcz24_0 := czz BK184.out 0; have hcz24_1 := czz BK184.out 1; have hcz24_2 := czz BK184.out 2; have hcz24_3 := czz BK184.out 3; have hfz24_0 := fz BK184.out 0; have hfz24_1 := fz BK184.out 1; have hfz24_2 := fz BK184.out 2; have hfz24_3 := fz BK184.out 3) | ((with_reducible refine gate_callee (f := 16) rfl ?_); refine goesL_ (some 37) rfl rfl Tryd.func16 (by kernel_rfl) rfl #[.agg #[.slice A0_0 l0_0.length c0_0, .int .i64 a0_1, .int .i64 a0_2, .slice A0_3 l0_3.length c0_3], .int .i64 t189, .int .i64 t190] rfl TM ?_; (with_reducible refine (rasp_Next.calls _ _ l0_0 a0_1 a0_2 _ _ l0_3 t189 t190 t191 t192 t193 _ ?side1 ?side2 ?side3 ?side4 ?side5 A7.out).mono ?_); (case side1 => exact TC HR0_0.out); (case side2 => exact HC0_0.out); (case side3 => exact TC HR0_3.out); (case side4 => exact HC0_3.out); (case side5 => exact Glob.fr HG.out (Fr.of_below (TB3 GE184.out GE185.out GE186.out))); rintro e w25 ⟨rfl, hb⟩; refine ⟨_, rfl, ?_⟩; replace BK184 := Aside0.mk (blk_below (g := gb184) (o := .cells #[.slice A0_0 l0_0.length c0_0, .int .i64 a0_1, .int .i64 a0_2, .slice A0_3 l0_3.length c0_3] 27 (0, 0)) (by (with_reducible repeat (first | refine blk_drewN ?_ _ | refine blk_drew ?_ | refine blk_alloc ?_ _)); exact BK184.out) hb); replace BK185 := Aside0.mk (blk_below (g := gb185) (o := .cells #[.int .i64 a1_0, .int .i64 a1_1] 28 (0, 0)) (by (with_reducible repeat (first | refine blk_drewN ?_ _ | refine blk_drew ?_ | refine blk_alloc ?_ _)); exact BK185.out) hb); replace BK186 := Aside0.mk (blk_below (g := gb186) (o := .cells #[.int .i64 a2_0, .int .i64 a2_1, .int .i64 a2_2] 65 (0, 0)) (by (with_reducible repeat (first | refine blk_drewN ?_ _ | refine blk_drew ?_ | refine blk_alloc ?_ _)); exact BK186.out) hb); replace HB := Aside0.mk (below_step (TB3 GE184.out GE185.out GE186.out) hb); (try clear hb); (try clear hb2); (try clear hk); (try clear hi)))
  have n0_ := Aside0.mk (blk_drew BK184.out)
  have n1_ := Aside0.mk (blk_drew BK185.out)
  have n2_ := Aside0.mk (blk_drew BK186.out)
  have n3_ := Aside0.mk (below_drew1 HB.out)
  clear BK184
  clear BK185
  clear BK186
  clear HB
  have BK184 := n0_
  have BK185 := n1_
  have BK186 := n2_
  have HB := n3_
  clear n0_ n1_ n2_ n3_
  refine start_ (n := 6) (S := fun w' => w'.cell? ⟨gb184, 0, none⟩ = some (.slice A0_0 l0_0.length c0_0) ∧ w'.cell? ⟨gb184, 1, none⟩ = some (.int .i64 a0_1) ∧ w'.cell? ⟨gb184, 2, none⟩ = some (.int .i64 a0_2) ∧ w'.cell? ⟨gb184, 3, none⟩ = some (.slice A0_3 l0_3.length c0_3)) (ds := []) (.replicate 6 false) (by kernel_rfl) rfl rfl ⟨czz BK184.out 0, czz BK184.out 1, czz BK184.out 2, czz BK184.out 3⟩ (fun hHeld => ?_)
  generalize w25.drew = w26 at BK184 BK185 BK186 HB hHeld ⊢
  refine tk4 0 41 (bt 6 1) hHeld (k := ?_)
  refine tk4 1 42 (bt 6 3) hHeld (k := ?_)
  refine join_ (σ := Nat × Nat) 2 (bt 6 15) (fun s_ => [(12, .pointer (some ⟨s_.1, 0, none⟩)), (13, .pointer (some ⟨s_.2, 0, none⟩))]) (fun s_ w' => (w'.cell? ⟨gb184, 0, none⟩ = some (.slice A0_0 l0_0.length c0_0) ∧ w'.cell? ⟨gb184, 1, none⟩ = some (.int .i64 a0_1) ∧ w'.cell? ⟨gb184, 2, none⟩ = some (.int .i64 a0_2) ∧ w'.cell? ⟨gb184, 3, none⟩ = some (.slice A0_3 l0_3.length c0_3)) ∧ (w'.heap[gb184]? = some (.cells #[.slice A0_0 l0_0.length c0_0, .int .i64 a0_1, .int .i64 a0_2, .slice A0_3 l0_3.length c0_3] 27 (0, 0))) ∧ (w'.heap[gb185]? = some (.cells #[.int .i64 a1_0, .int .i64 a1_1] 28 (0, 0))) ∧ (w'.heap[gb186]? = some (.cells #[.int .i64 a2_0, .int .i64 a2_1, .int .i64 a2_2] 65 (0, 0))) ∧ (w'.heap[s_.1]? = some (.cells #[.slice none 0 0, .int .i64 0, .int .i64 0, .slice none 0 0] 27 (0, 0))) ∧ (w'.heap[s_.2]? = some (.cells #[.slice none 0 0, .int .i64 0, .int .i64 0, .slice none 0 0] 27 (0, 0))) ∧ (w.heap.size ≤ s_.1) ∧ (w.heap.size ≤ s_.1) ∧ (gb184 ≠ s_.1) ∧ (s_.1 ≠ gb184) ∧ (gb185 ≠ s_.1) ∧ (s_.1 ≠ gb185) ∧ (gb186 ≠ s_.1) ∧ (s_.1 ≠ gb186) ∧ (s_.2 ≠ s_.1) ∧ (s_.1 ≠ s_.2) ∧ (w.heap.size ≤ s_.2) ∧ (w.heap.size ≤ s_.2) ∧ (gb184 ≠ s_.2) ∧ (s_.2 ≠ gb184) ∧ (gb185 ≠ s_.2) ∧ (s_.2 ≠ gb185) ∧ (gb186 ≠ s_.2) ∧ (s_.2 ≠ gb186) ∧ (Below w.heap.size w w')) ?_ ?_
  rotate_left
  ·intro hCont
   refine two_ (i := 2) (j := 3) (Ni := some 12) (Nj := some 13) (bt 6 7) (bt 6 11) rfl rfl rfl rfl (by kernel_rfl) (by decide) (by decide) (fun K hK => ?_) (fun K hK => ?_)
   ·skip
    refine box_step ?hg (N := 12) ?hd (cs := #[.slice none 0 0, .int .i64 0, .int .i64 0, .slice none 0 0]) (t := 27) ?hr ?_; (case hd => rfl); (case hg => rfl); (case hr => exact TS)
    intro gb194 hg w27 hbox hb
    have n0_ := Aside0.mk (blk_below (g := gb184) (o := .cells #[.slice A0_0 l0_0.length c0_0, .int .i64 a0_1, .int .i64 a0_2, .slice A0_3 l0_3.length c0_3] 27 (0, 0)) (by (with_reducible repeat (first | refine blk_drewN ?_ _ | refine blk_drew ?_ | refine blk_alloc ?_ _)); exact BK184.out) hb)
    have n1_ := Aside0.mk (blk_below (g := gb185) (o := .cells #[.int .i64 a1_0, .int .i64 a1_1] 28 (0, 0)) (by (with_reducible repeat (first | refine blk_drewN ?_ _ | refine blk_drew ?_ | refine blk_alloc ?_ _)); exact BK185.out) hb)
    have n2_ := Aside0.mk (blk_below (g := gb186) (o := .cells #[.int .i64 a2_0, .int .i64 a2_1, .int .i64 a2_2] 65 (0, 0)) (by (with_reducible repeat (first | refine blk_drewN ?_ _ | refine blk_drew ?_ | refine blk_alloc ?_ _)); exact BK186.out) hb)
    have n3_ := Aside0.mk (below_step (TB3 GE184.out GE185.out GE186.out) hb)
    have n4_ := Aside0.mk (hbox)
    have n5_ := Aside0.mk ((TG3 GE184.out GE185.out GE186.out : w.heap.size ≤ gb194))
    have n6_ := Aside0.mk ((TG3 GE184.out GE185.out GE186.out : w.heap.size ≤ gb194))
    have n7_ := Aside0.mk ((by rw [hg]; exact Nat.ne_of_lt (blk_lt (g := gb184) (o := .cells #[.slice A0_0 l0_0.length c0_0, .int .i64 a0_1, .int .i64 a0_2, .slice A0_3 l0_3.length c0_3] 27 (0, 0)) (by (with_reducible repeat (first | refine blk_drewN ?_ _ | refine blk_drew ?_ | refine blk_alloc ?_ _)); exact BK184.out)) : gb184 ≠ gb194))
    have n8_ := Aside0.mk ((by rw [hg]; exact Nat.ne_of_gt (blk_lt (g := gb184) (o := .cells #[.slice A0_0 l0_0.length c0_0, .int .i64 a0_1, .int .i64 a0_2, .slice A0_3 l0_3.length c0_3] 27 (0, 0)) (by (with_reducible repeat (first | refine blk_drewN ?_ _ | refine blk_drew ?_ | refine blk_alloc ?_ _)); exact BK184.out)) : gb194 ≠ gb184))
    have n9_ := Aside0.mk ((by rw [hg]; exact Nat.ne_of_lt (blk_lt (g := gb185) (o := .cells #[.int .i64 a1_0, .int .i64 a1_1] 28 (0, 0)) (by (with_reducible repeat (first | refine blk_drewN ?_ _ | refine blk_drew ?_ | refine blk_alloc ?_ _)); exact BK185.out)) : gb185 ≠ gb194))
    have n10_ := Aside0.mk ((by rw [hg]; exact Nat.ne_of_gt (blk_lt (g := gb185) (o := .cells #[.int .i64 a1_0, .int .i64 a1_1] 28 (0, 0)) (by (with_reducible repeat (first | refine blk_drewN ?_ _ | refine blk_drew ?_ | refine blk_alloc ?_ _)); exact BK185.out)) : gb194 ≠ gb185))
    have n11_ := Aside0.mk ((by rw [hg]; exact Nat.ne_of_lt (blk_lt (g := gb186) (o := .cells #[.int .i64 a2_0, .int .i64 a2_1, .int .i64 a2_2] 65 (0, 0)) (by (with_reducible repeat (first | refine blk_drewN ?_ _ | refine blk_drew ?_ | refine blk_alloc ?_ _)); exact BK186.out)) : gb186 ≠ gb194))
    have n12_ := Aside0.mk ((by rw [hg]; exact Nat.ne_of_gt (blk_lt (g := gb186) (o := .cells #[.int .i64 a2_0, .int .i64 a2_1, .int .i64 a2_2] 65 (0, 0)) (by (with_reducible repeat (first | refine blk_drewN ?_ _ | refine blk_drew ?_ | refine blk_alloc ?_ _)); exact BK186.out)) : gb194 ≠ gb186))
    clear BK184
    clear BK185
    clear BK186
    clear HB
    have BK184 := n0_
    have BK185 := n1_
    have BK186 := n2_
    have HB := n3_
    have BK194 := n4_
    have GW194 := n5_
    have GE194 := n6_
    have NB184_194 := n7_
    have NB194_184 := n8_
    have NB185_194 := n9_
    have NB194_185 := n10_
    have NB186_194 := n11_
    have NB194_186 := n12_
    clear n0_ n1_ n2_ n3_ n4_ n5_ n6_ n7_ n8_ n9_ n10_ n11_ n12_
    clear hb hbox hg
    refine hK.out _ _ ⟨czz BK184.out 0, czz BK184.out 1, czz BK184.out 2, czz BK184.out 3⟩ (fun hHeld => ?_)
    clear hK K
    refine norm_ (a' := ?_) ?_ ?_
    rotate_left
    ·show Act.put _ (some 12) _ = _
     simp only [Act.put, lA, lZ, lS, i64_w, i32_w]
     rfl
    refine oN 3 13 (bt 6 15) (h := fun K hK => ?_)
    refine box_step ?hg (N := 13) ?hd (cs := #[.slice none 0 0, .int .i64 0, .int .i64 0, .slice none 0 0]) (t := 27) ?hr ?_; (case hd => rfl); (case hg => rfl); (case hr => exact TS)
    intro gb195 hg w28 hbox hb
    have n0_ := Aside0.mk (blk_below (g := gb184) (o := .cells #[.slice A0_0 l0_0.length c0_0, .int .i64 a0_1, .int .i64 a0_2, .slice A0_3 l0_3.length c0_3] 27 (0, 0)) (by (with_reducible repeat (first | refine blk_drewN ?_ _ | refine blk_drew ?_ | refine blk_alloc ?_ _)); exact BK184.out) hb)
    have n1_ := Aside0.mk (blk_below (g := gb185) (o := .cells #[.int .i64 a1_0, .int .i64 a1_1] 28 (0, 0)) (by (with_reducible repeat (first | refine blk_drewN ?_ _ | refine blk_drew ?_ | refine blk_alloc ?_ _)); exact BK185.out) hb)
    have n2_ := Aside0.mk (blk_below (g := gb186) (o := .cells #[.int .i64 a2_0, .int .i64 a2_1, .int .i64 a2_2] 65 (0, 0)) (by (with_reducible repeat (first | refine blk_drewN ?_ _ | refine blk_drew ?_ | refine blk_alloc ?_ _)); exact BK186.out) hb)
    have n3_ := Aside0.mk (blk_below (g := gb194) (o := .cells #[.slice none 0 0, .int .i64 0, .int .i64 0, .slice none 0 0] 27 (0, 0)) (by (with_reducible repeat (first | refine blk_drewN ?_ _ | refine blk_drew ?_ | refine blk_alloc ?_ _)); exact BK194.out) hb)
    have n4_ := Aside0.mk (below_step (by repeat (first | (with_reducible first | exact HB.out | apply below_alloc | apply pw_below_drewN | apply below_drew1 | refine below_set ?_ GE184.out | refine below_set ?_ GE185.out | refine below_set ?_ GE186.out | refine below_set ?_ GE194.out) | exact HB.out)) hb)
    have n5_ := Aside0.mk (hbox)
    have n6_ := Aside0.mk ((by rw [hg]; exact (below_size (by repeat (first | (with_reducible first | exact HB.out | apply below_alloc | apply pw_below_drewN | apply below_drew1 | refine below_set ?_ GE184.out | refine below_set ?_ GE185.out | refine below_set ?_ GE186.out | refine below_set ?_ GE194.out) | exact HB.out))) : w.heap.size ≤ gb195))
    have n7_ := Aside0.mk ((by rw [hg]; exact (below_size (by repeat (first | (with_reducible first | exact HB.out | apply below_alloc | apply pw_below_drewN | apply below_drew1 | refine below_set ?_ GE184.out | refine below_set ?_ GE185.out | refine below_set ?_ GE186.out | refine below_set ?_ GE194.out) | exact HB.out))) : w.heap.size ≤ gb195))
    have n8_ := Aside0.mk ((by rw [hg]; exact Nat.ne_of_lt (blk_lt (g := gb184) (o := .cells #[.slice A0_0 l0_0.length c0_0, .int .i64 a0_1, .int .i64 a0_2, .slice A0_3 l0_3.length c0_3] 27 (0, 0)) (by (with_reducible repeat (first | refine blk_drewN ?_ _ | refine blk_drew ?_ | refine blk_alloc ?_ _)); exact BK184.out)) : gb184 ≠ gb195))
    have n9_ := Aside0.mk ((by rw [hg]; exact Nat.ne_of_gt (blk_lt (g := gb184) (o := .cells #[.slice A0_0 l0_0.length c0_0, .int .i64 a0_1, .int .i64 a0_2, .slice A0_3 l0_3.length c0_3] 27 (0, 0)) (by (with_reducible repeat (first | refine blk_drewN ?_ _ | refine blk_drew ?_ | refine blk_alloc ?_ _)); exact BK184.out)) : gb195 ≠ gb184))
    have n10_ := Aside0.mk ((by rw [hg]; exact Nat.ne_of_lt (blk_lt (g := gb185) (o := .cells #[.int .i64 a1_0, .int .i64 a1_1] 28 (0, 0)) (by (with_reducible repeat (first | refine blk_drewN ?_ _ | refine blk_drew ?_ | refine blk_alloc ?_ _)); exact BK185.out)) : gb185 ≠ gb195))
    have n11_ := Aside0.mk ((by rw [hg]; exact Nat.ne_of_gt (blk_lt (g := gb185) (o := .cells #[.int .i64 a1_0, .int .i64 a1_1] 28 (0, 0)) (by (with_reducible repeat (first | refine blk_drewN ?_ _ | refine blk_drew ?_ | refine blk_alloc ?_ _)); exact BK185.out)) : gb195 ≠ gb185))
    have n12_ := Aside0.mk ((by rw [hg]; exact Nat.ne_of_lt (blk_lt (g := gb186) (o := .cells #[.int .i64 a2_0, .int .i64 a2_1, .int .i64 a2_2] 65 (0, 0)) (by (with_reducible repeat (first | refine blk_drewN ?_ _ | refine blk_drew ?_ | refine blk_alloc ?_ _)); exact BK186.out)) : gb186 ≠ gb195))
    have n13_ := Aside0.mk ((by rw [hg]; exact Nat.ne_of_gt (blk_lt (g := gb186) (o := .cells #[.int .i64 a2_0, .int .i64 a2_1, .int .i64 a2_2] 65 (0, 0)) (by (with_reducible repeat (first | refine blk_drewN ?_ _ | refine blk_drew ?_ | refine blk_alloc ?_ _)); exact BK186.out)) : gb195 ≠ gb186))
    have n14_ := Aside0.mk ((by rw [hg]; exact Nat.ne_of_lt (blk_lt (g := gb194) (o := .cells #[.slice none 0 0, .int .i64 0, .int .i64 0, .slice none 0 0] 27 (0, 0)) (by (with_reducible repeat (first | refine blk_drewN ?_ _ | refine blk_drew ?_ | refine blk_alloc ?_ _)); exact BK194.out)) : gb194 ≠ gb195))
    have n15_ := Aside0.mk ((by rw [hg]; exact Nat.ne_of_gt (blk_lt (g := gb194) (o := .cells #[.slice none 0 0, .int .i64 0, .int .i64 0, .slice none 0 0] 27 (0, 0)) (by (with_reducible repeat (first | refine blk_drewN ?_ _ | refine blk_drew ?_ | refine blk_alloc ?_ _)); exact BK194.out)) : gb195 ≠ gb194))
    clear BK184
    clear BK185
    clear BK186
    clear BK194
    clear HB
    have BK184 := n0_
    have BK185 := n1_
    have BK186 := n2_
    have BK194 := n3_
    have HB := n4_
    have BK195 := n5_
    have GW195 := n6_
    have GE195 := n7_
    have NB184_195 := n8_
    have NB195_184 := n9_
    have NB185_195 := n10_
    have NB195_185 := n11_
    have NB186_195 := n12_
    have NB195_186 := n13_
    have NB194_195 := n14_
    have NB195_194 := n15_
    clear n0_ n1_ n2_ n3_ n4_ n5_ n6_ n7_ n8_ n9_ n10_ n11_ n12_ n13_ n14_ n15_
    clear hb hbox hg
    refine hK.out _ _ ⟨czz BK184.out 0, czz BK184.out 1, czz BK184.out 2, czz BK184.out 3⟩ (fun hHeld => ?_)
    clear hK K
    refine norm_ (a' := ?_) ?_ ?_
    rotate_left
    ·show Act.put _ (some 13) _ = _
     simp only [Act.put, lA, lZ, lS, i64_w, i32_w]
     rfl
    exact norm_ (by simp only [putAll, Act.put, lA, lZ, lS]) (hCont (gb194, gb195) _ ⟨hHeld, (by (with_reducible repeat (first | refine blk_drewN ?_ _ | refine blk_drew ?_ | refine blk_alloc ?_ _)); exact BK184.out), (by (with_reducible repeat (first | refine blk_drewN ?_ _ | refine blk_drew ?_ | refine blk_alloc ?_ _)); exact BK185.out), (by (with_reducible repeat (first | refine blk_drewN ?_ _ | refine blk_drew ?_ | refine blk_alloc ?_ _)); exact BK186.out), (by (with_reducible repeat (first | refine blk_drewN ?_ _ | refine blk_drew ?_ | refine blk_alloc ?_ _)); exact BK194.out), (by (with_reducible repeat (first | refine blk_drewN ?_ _ | refine blk_drew ?_ | refine blk_alloc ?_ _)); exact BK195.out), GW194.out, GE194.out, NB184_194.out, NB194_184.out, NB185_194.out, NB194_185.out, NB186_194.out, NB194_186.out, NB195_194.out, NB194_195.out, GW195.out, GE195.out, NB184_195.out, NB195_184.out, NB185_195.out, NB195_185.out, NB186_195.out, NB195_186.out, (by repeat (first | (with_reducible first | exact HB.out | apply below_alloc | apply pw_below_drewN | apply below_drew1 | refine below_set ?_ GE184.out | refine below_set ?_ GE185.out | refine below_set ?_ GE186.out | refine below_set ?_ GE194.out | refine below_set ?_ GE195.out) | exact HB.out))⟩)
   ·skip
    refine box_step ?hg (N := 13) ?hd (cs := #[.slice none 0 0, .int .i64 0, .int .i64 0, .slice none 0 0]) (t := 27) ?hr ?_; (case hd => rfl); (case hg => rfl); (case hr => exact TS)
    intro gb195 hg w27 hbox hb
    have n0_ := Aside0.mk (blk_below (g := gb184) (o := .cells #[.slice A0_0 l0_0.length c0_0, .int .i64 a0_1, .int .i64 a0_2, .slice A0_3 l0_3.length c0_3] 27 (0, 0)) (by (with_reducible repeat (first | refine blk_drewN ?_ _ | refine blk_drew ?_ | refine blk_alloc ?_ _)); exact BK184.out) hb)
    have n1_ := Aside0.mk (blk_below (g := gb185) (o := .cells #[.int .i64 a1_0, .int .i64 a1_1] 28 (0, 0)) (by (with_reducible repeat (first | refine blk_drewN ?_ _ | refine blk_drew ?_ | refine blk_alloc ?_ _)); exact BK185.out) hb)
    have n2_ := Aside0.mk (blk_below (g := gb186) (o := .cells #[.int .i64 a2_0, .int .i64 a2_1, .int .i64 a2_2] 65 (0, 0)) (by (with_reducible repeat (first | refine blk_drewN ?_ _ | refine blk_drew ?_ | refine blk_alloc ?_ _)); exact BK186.out) hb)
    have n3_ := Aside0.mk (below_step (TB3 GE184.out GE185.out GE186.out) hb)
    have n4_ := Aside0.mk (hbox)
    have n5_ := Aside0.mk ((TG3 GE184.out GE185.out GE186.out : w.heap.size ≤ gb195))
    have n6_ := Aside0.mk ((TG3 GE184.out GE185.out GE186.out : w.heap.size ≤ gb195))
    have n7_ := Aside0.mk ((by rw [hg]; exact Nat.ne_of_lt (blk_lt (g := gb184) (o := .cells #[.slice A0_0 l0_0.length c0_0, .int .i64 a0_1, .int .i64 a0_2, .slice A0_3 l0_3.length c0_3] 27 (0, 0)) (by (with_reducible repeat (first | refine blk_drewN ?_ _ | refine blk_drew ?_ | refine blk_alloc ?_ _)); exact BK184.out)) : gb184 ≠ gb195))
    have n8_ := Aside0.mk ((by rw [hg]; exact Nat.ne_of_gt (blk_lt (g := gb184) (o := .cells #[.slice A0_0 l0_0.length c0_0, .int .i64 a0_1, .int .i64 a0_2, .slice A0_3 l0_3.length c0_3] 27 (0, 0)) (by (with_reducible repeat (first | refine blk_drewN ?_ _ | refine blk_drew ?_ | refine blk_alloc ?_ _)); exact BK184.out)) : gb195 ≠ gb184))
    have n9_ := Aside0.mk ((by rw [hg]; exact Nat.ne_of_lt (blk_lt (g := gb185) (o := .cells #[.int .i64 a1_0, .int .i64 a1_1] 28 (0, 0)) (by (with_reducible repeat (first | refine blk_drewN ?_ _ | refine blk_drew ?_ | refine blk_alloc ?_ _)); exact BK185.out)) : gb185 ≠ gb195))
    have n10_ := Aside0.mk ((by rw [hg]; exact Nat.ne_of_gt (blk_lt (g := gb185) (o := .cells #[.int .i64 a1_0, .int .i64 a1_1] 28 (0, 0)) (by (with_reducible repeat (first | refine blk_drewN ?_ _ | refine blk_drew ?_ | refine blk_alloc ?_ _)); exact BK185.out)) : gb195 ≠ gb185))
    have n11_ := Aside0.mk ((by rw [hg]; exact Nat.ne_of_lt (blk_lt (g := gb186) (o := .cells #[.int .i64 a2_0, .int .i64 a2_1, .int .i64 a2_2] 65 (0, 0)) (by (with_reducible repeat (first | refine blk_drewN ?_ _ | refine blk_drew ?_ | refine blk_alloc ?_ _)); exact BK186.out)) : gb186 ≠ gb195))
    have n12_ := Aside0.mk ((by rw [hg]; exact Nat.ne_of_gt (blk_lt (g := gb186) (o := .cells #[.int .i64 a2_0, .int .i64 a2_1, .int .i64 a2_2] 65 (0, 0)) (by (with_reducible repeat (first | refine blk_drewN ?_ _ | refine blk_drew ?_ | refine blk_alloc ?_ _)); exact BK186.out)) : gb195 ≠ gb186))
    clear BK184
    clear BK185
    clear BK186
    clear HB
    have BK184 := n0_
    have BK185 := n1_
    have BK186 := n2_
    have HB := n3_
    have BK195 := n4_
    have GW195 := n5_
    have GE195 := n6_
    have NB184_195 := n7_
    have NB195_184 := n8_
    have NB185_195 := n9_
    have NB195_185 := n10_
    have NB186_195 := n11_
    have NB195_186 := n12_
    clear n0_ n1_ n2_ n3_ n4_ n5_ n6_ n7_ n8_ n9_ n10_ n11_ n12_
    clear hb hbox hg
    refine hK.out _ _ ⟨czz BK184.out 0, czz BK184.out 1, czz BK184.out 2, czz BK184.out 3⟩ (fun hHeld => ?_)
    clear hK K
    refine norm_ (a' := ?_) ?_ ?_
    rotate_left
    ·show Act.put _ (some 13) _ = _
     simp only [Act.put, lA, lZ, lS, i64_w, i32_w]
     rfl
    refine oN 2 12 (bt 6 15) (h := fun K hK => ?_)
    refine box_step ?hg (N := 12) ?hd (cs := #[.slice none 0 0, .int .i64 0, .int .i64 0, .slice none 0 0]) (t := 27) ?hr ?_; (case hd => rfl); (case hg => rfl); (case hr => exact TS)
    intro gb194 hg w28 hbox hb
    have n0_ := Aside0.mk (blk_below (g := gb184) (o := .cells #[.slice A0_0 l0_0.length c0_0, .int .i64 a0_1, .int .i64 a0_2, .slice A0_3 l0_3.length c0_3] 27 (0, 0)) (by (with_reducible repeat (first | refine blk_drewN ?_ _ | refine blk_drew ?_ | refine blk_alloc ?_ _)); exact BK184.out) hb)
    have n1_ := Aside0.mk (blk_below (g := gb185) (o := .cells #[.int .i64 a1_0, .int .i64 a1_1] 28 (0, 0)) (by (with_reducible repeat (first | refine blk_drewN ?_ _ | refine blk_drew ?_ | refine blk_alloc ?_ _)); exact BK185.out) hb)
    have n2_ := Aside0.mk (blk_below (g := gb186) (o := .cells #[.int .i64 a2_0, .int .i64 a2_1, .int .i64 a2_2] 65 (0, 0)) (by (with_reducible repeat (first | refine blk_drewN ?_ _ | refine blk_drew ?_ | refine blk_alloc ?_ _)); exact BK186.out) hb)
    have n3_ := Aside0.mk (blk_below (g := gb195) (o := .cells #[.slice none 0 0, .int .i64 0, .int .i64 0, .slice none 0 0] 27 (0, 0)) (by (with_reducible repeat (first | refine blk_drewN ?_ _ | refine blk_drew ?_ | refine blk_alloc ?_ _)); exact BK195.out) hb)
    have n4_ := Aside0.mk (below_step (by repeat (first | (with_reducible first | exact HB.out | apply below_alloc | apply pw_below_drewN | apply below_drew1 | refine below_set ?_ GE184.out | refine below_set ?_ GE185.out | refine below_set ?_ GE186.out | refine below_set ?_ GE195.out) | exact HB.out)) hb)
    have n5_ := Aside0.mk (hbox)
    have n6_ := Aside0.mk ((by rw [hg]; exact (below_size (by repeat (first | (with_reducible first | exact HB.out | apply below_alloc | apply pw_below_drewN | apply below_drew1 | refine below_set ?_ GE184.out | refine below_set ?_ GE185.out | refine below_set ?_ GE186.out | refine below_set ?_ GE195.out) | exact HB.out))) : w.heap.size ≤ gb194))
    have n7_ := Aside0.mk ((by rw [hg]; exact (below_size (by repeat (first | (with_reducible first | exact HB.out | apply below_alloc | apply pw_below_drewN | apply below_drew1 | refine below_set ?_ GE184.out | refine below_set ?_ GE185.out | refine below_set ?_ GE186.out | refine below_set ?_ GE195.out) | exact HB.out))) : w.heap.size ≤ gb194))
    have n8_ := Aside0.mk ((by rw [hg]; exact Nat.ne_of_lt (blk_lt (g := gb184) (o := .cells #[.slice A0_0 l0_0.length c0_0, .int .i64 a0_1, .int .i64 a0_2, .slice A0_3 l0_3.length c0_3] 27 (0, 0)) (by (with_reducible repeat (first | refine blk_drewN ?_ _ | refine blk_drew ?_ | refine blk_alloc ?_ _)); exact BK184.out)) : gb184 ≠ gb194))
    have n9_ := Aside0.mk ((by rw [hg]; exact Nat.ne_of_gt (blk_lt (g := gb184) (o := .cells #[.slice A0_0 l0_0.length c0_0, .int .i64 a0_1, .int .i64 a0_2, .slice A0_3 l0_3.length c0_3] 27 (0, 0)) (by (with_reducible repeat (first | refine blk_drewN ?_ _ | refine blk_drew ?_ | refine blk_alloc ?_ _)); exact BK184.out)) : gb194 ≠ gb184))
    have n10_ := Aside0.mk ((by rw [hg]; exact Nat.ne_of_lt (blk_lt (g := gb185) (o := .cells #[.int .i64 a1_0, .int .i64 a1_1] 28 (0, 0)) (by (with_reducible repeat (first | refine blk_drewN ?_ _ | refine blk_drew ?_ | refine blk_alloc ?_ _)); exact BK185.out)) : gb185 ≠ gb194))
    have n11_ := Aside0.mk ((by rw [hg]; exact Nat.ne_of_gt (blk_lt (g := gb185) (o := .cells #[.int .i64 a1_0, .int .i64 a1_1] 28 (0, 0)) (by (with_reducible repeat (first | refine blk_drewN ?_ _ | refine blk_drew ?_ | refine blk_alloc ?_ _)); exact BK185.out)) : gb194 ≠ gb185))
    have n12_ := Aside0.mk ((by rw [hg]; exact Nat.ne_of_lt (blk_lt (g := gb186) (o := .cells #[.int .i64 a2_0, .int .i64 a2_1, .int .i64 a2_2] 65 (0, 0)) (by (with_reducible repeat (first | refine blk_drewN ?_ _ | refine blk_drew ?_ | refine blk_alloc ?_ _)); exact BK186.out)) : gb186 ≠ gb194))
    have n13_ := Aside0.mk ((by rw [hg]; exact Nat.ne_of_gt (blk_lt (g := gb186) (o := .cells #[.int .i64 a2_0, .int .i64 a2_1, .int .i64 a2_2] 65 (0, 0)) (by (with_reducible repeat (first | refine blk_drewN ?_ _ | refine blk_drew ?_ | refine blk_alloc ?_ _)); exact BK186.out)) : gb194 ≠ gb186))
    have n14_ := Aside0.mk ((by rw [hg]; exact Nat.ne_of_lt (blk_lt (g := gb195) (o := .cells #[.slice none 0 0, .int .i64 0, .int .i64 0, .slice none 0 0] 27 (0, 0)) (by (with_reducible repeat (first | refine blk_drewN ?_ _ | refine blk_drew ?_ | refine blk_alloc ?_ _)); exact BK195.out)) : gb195 ≠ gb194))
    have n15_ := Aside0.mk ((by rw [hg]; exact Nat.ne_of_gt (blk_lt (g := gb195) (o := .cells #[.slice none 0 0, .int .i64 0, .int .i64 0, .slice none 0 0] 27 (0, 0)) (by (with_reducible repeat (first | refine blk_drewN ?_ _ | refine blk_drew ?_ | refine blk_alloc ?_ _)); exact BK195.out)) : gb194 ≠ gb195))
    clear BK184
    clear BK185
    clear BK186
    clear BK195
    clear HB
    have BK184 := n0_
    have BK185 := n1_
    have BK186 := n2_
    have BK195 := n3_
    have HB := n4_
    have BK194 := n5_
    have GW194 := n6_
    have GE194 := n7_
    have NB184_194 := n8_
    have NB194_184 := n9_
    have NB185_194 := n10_
    have NB194_185 := n11_
    have NB186_194 := n12_
    have NB194_186 := n13_
    have NB195_194 := n14_
    have NB194_195 := n15_
    clear n0_ n1_ n2_ n3_ n4_ n5_ n6_ n7_ n8_ n9_ n10_ n11_ n12_ n13_ n14_ n15_
    clear hb hbox hg
    refine hK.out _ _ ⟨czz BK184.out 0, czz BK184.out 1, czz BK184.out 2, czz BK184.out 3⟩ (fun hHeld => ?_)
    clear hK K
    refine norm_ (a' := ?_) ?_ ?_
    rotate_left
    ·show Act.put _ (some 12) _ = _
     simp only [Act.put, lA, lZ, lS, i64_w, i32_w]
     rfl
    exact norm_ (by simp only [putAll, Act.put, lA, lZ, lS]) (hCont (gb194, gb195) _ ⟨hHeld, (by (with_reducible repeat (first | refine blk_drewN ?_ _ | refine blk_drew ?_ | refine blk_alloc ?_ _)); exact BK184.out), (by (with_reducible repeat (first | refine blk_drewN ?_ _ | refine blk_drew ?_ | refine blk_alloc ?_ _)); exact BK185.out), (by (with_reducible repeat (first | refine blk_drewN ?_ _ | refine blk_drew ?_ | refine blk_alloc ?_ _)); exact BK186.out), (by (with_reducible repeat (first | refine blk_drewN ?_ _ | refine blk_drew ?_ | refine blk_alloc ?_ _)); exact BK194.out), (by (with_reducible repeat (first | refine blk_drewN ?_ _ | refine blk_drew ?_ | refine blk_alloc ?_ _)); exact BK195.out), GW194.out, GE194.out, NB184_194.out, NB194_184.out, NB185_194.out, NB194_185.out, NB186_194.out, NB194_186.out, NB195_194.out, NB194_195.out, GW195.out, GE195.out, NB184_195.out, NB195_184.out, NB185_195.out, NB195_185.out, NB186_195.out, NB195_186.out, (by repeat (first | (with_reducible first | exact HB.out | apply below_alloc | apply pw_below_drewN | apply below_drew1 | refine below_set ?_ GE184.out | refine below_set ?_ GE185.out | refine below_set ?_ GE186.out | refine below_set ?_ GE195.out | refine below_set ?_ GE194.out) | exact HB.out))⟩)
  rintro ⟨gb194, gb195⟩ w29 ⟨hS_, h0_, h1_, h2_, h3_, h4_, h5_, h6_, h7_, h8_, h9_, h10_, h11_, h12_, h13_, h14_, h15_, h16_, h17_, h18_, h19_, h20_, h21_, h22_, h23_⟩
  have n0_ : Aside0 (w29.heap[gb184]? = some (.cells #[.slice A0_0 l0_0.length c0_0, .int .i64 a0_1, .int .i64 a0_2, .slice A0_3 l0_3.length c0_3] 27 (0, 0))) := ⟨h0_⟩
  have n1_ : Aside0 (w29.heap[gb185]? = some (.cells #[.int .i64 a1_0, .int .i64 a1_1] 28 (0, 0))) := ⟨h1_⟩
  have n2_ : Aside0 (w29.heap[gb186]? = some (.cells #[.int .i64 a2_0, .int .i64 a2_1, .int .i64 a2_2] 65 (0, 0))) := ⟨h2_⟩
  have n3_ : Aside0 (w29.heap[gb194]? = some (.cells #[.slice none 0 0, .int .i64 0, .int .i64 0, .slice none 0 0] 27 (0, 0))) := ⟨h3_⟩
  have n4_ : Aside0 (w29.heap[gb195]? = some (.cells #[.slice none 0 0, .int .i64 0, .int .i64 0, .slice none 0 0] 27 (0, 0))) := ⟨h4_⟩
  have n5_ : Aside0 (w.heap.size ≤ gb194) := ⟨h5_⟩
  have n6_ : Aside0 (w.heap.size ≤ gb194) := ⟨h6_⟩
  have n7_ : Aside0 (gb184 ≠ gb194) := ⟨h7_⟩
  have n8_ : Aside0 (gb194 ≠ gb184) := ⟨h8_⟩
  have n9_ : Aside0 (gb185 ≠ gb194) := ⟨h9_⟩
  have n10_ : Aside0 (gb194 ≠ gb185) := ⟨h10_⟩
  have n11_ : Aside0 (gb186 ≠ gb194) := ⟨h11_⟩
  have n12_ : Aside0 (gb194 ≠ gb186) := ⟨h12_⟩
  have n13_ : Aside0 (gb195 ≠ gb194) := ⟨h13_⟩
  have n14_ : Aside0 (gb194 ≠ gb195) := ⟨h14_⟩
  have n15_ : Aside0 (w.heap.size ≤ gb195) := ⟨h15_⟩
  have n16_ : Aside0 (w.heap.size ≤ gb195) := ⟨h16_⟩
  have n17_ : Aside0 (gb184 ≠ gb195) := ⟨h17_⟩
  have n18_ : Aside0 (gb195 ≠ gb184) := ⟨h18_⟩
  have n19_ : Aside0 (gb185 ≠ gb195) := ⟨h19_⟩
  have n20_ : Aside0 (gb195 ≠ gb185) := ⟨h20_⟩
  have n21_ : Aside0 (gb186 ≠ gb195) := ⟨h21_⟩
  have n22_ : Aside0 (gb195 ≠ gb186) := ⟨h22_⟩
  have n23_ : Aside0 (Below w.heap.size w w29) := ⟨h23_⟩
  clear BK184
  clear BK185
  clear BK186
  clear HB
  clear h0_ h1_ h2_ h3_ h4_ h5_ h6_ h7_ h8_ h9_ h10_ h11_ h12_ h13_ h14_ h15_ h16_ h17_ h18_ h19_ h20_ h21_ h22_ h23_
  have BK184 := n0_
  have BK185 := n1_
  have BK186 := n2_
  have BK194 := n3_
  have BK195 := n4_
  have GW194 := n5_
  have GE194 := n6_
  have NB184_194 := n7_
  have NB194_184 := n8_
  have NB185_194 := n9_
  have NB194_185 := n10_
  have NB186_194 := n11_
  have NB194_186 := n12_
  have NB195_194 := n13_
  have NB194_195 := n14_
  have GW195 := n15_
  have GE195 := n16_
  have NB184_195 := n17_
  have NB195_184 := n18_
  have NB185_195 := n19_
  have NB195_185 := n20_
  have NB186_195 := n21_
  have NB195_186 := n22_
  have HB := n23_
  clear n0_ n1_ n2_ n3_ n4_ n5_ n6_ n7_ n8_ n9_ n10_ n11_ n12_ n13_ n14_ n15_ n16_ n17_ n18_ n19_ n20_ n21_ n22_ n23_
  have hHeld : w29.cell? ⟨gb184, 0, none⟩ = some (.slice A0_0 l0_0.length c0_0) ∧ w29.cell? ⟨gb184, 1, none⟩ = some (.int .i64 a0_1) ∧ w29.cell? ⟨gb184, 2, none⟩ = some (.int .i64 a0_2) ∧ w29.cell? ⟨gb184, 3, none⟩ = some (.slice A0_3 l0_3.length c0_3) := hS_
  refine norm_ (a' := ?_) ?_ ?_
  rotate_left
  ·simp only [putAll, Act.put, lA, lZ, lS]
   rfl
  refine one_ (i := 4) (N := none) (bt 6 31) rfl rfl (by kernel_rfl) (by decide) (fun K hK => ?_)
  have hs30 : w29.cell? ⟨gb194, 0, none⟩ = some (.slice none 0 0) := czz BK194.out 0
  have hfs30 := fz BK194.out 0
  have hns30_0 := NB184_194.out
  have hns30_1 := NB185_194.out
  have hns30_2 := NB186_194.out
  have hns30_4 := NB195_194.out
  have hms30_0 := NB194_184.out
  have hms30_1 := NB194_185.out
  have hms30_2 := NB194_186.out
  have hms30_4 := NB194_195.out
  have hs31 : w29.cell? ⟨gb194, 1, none⟩ = some (.int .i64 0) := czz BK194.out 1
  have hfs31 := fz BK194.out 1
  have hns31_0 := NB184_194.out
  have hns31_1 := NB185_194.out
  have hns31_2 := NB186_194.out
  have hns31_4 := NB195_194.out
  have hms31_0 := NB194_184.out
  have hms31_1 := NB194_185.out
  have hms31_2 := NB194_186.out
  have hms31_4 := NB194_195.out
  have hs32 : w29.cell? ⟨gb194, 2, none⟩ = some (.int .i64 0) := czz BK194.out 2
  have hfs32 := fz BK194.out 2
  have hns32_0 := NB184_194.out
  have hns32_1 := NB185_194.out
  have hns32_2 := NB186_194.out
  have hns32_4 := NB195_194.out
  have hms32_0 := NB194_184.out
  have hms32_1 := NB194_185.out
  have hms32_2 := NB194_186.out
  have hms32_4 := NB194_195.out
  have hs33 : w29.cell? ⟨gb194, 3, none⟩ = some (.slice none 0 0) := czz BK194.out 3
  have hfs33 := fz BK194.out 3
  have hns33_0 := NB184_194.out
  have hns33_1 := NB185_194.out
  have hns33_2 := NB186_194.out
  have hns33_4 := NB195_194.out
  have hms33_0 := NB194_184.out
  have hms33_1 := NB194_185.out
  have hms33_2 := NB194_186.out
  have hms33_4 := NB194_195.out
  refine skip_ (w1 := ?_) (by rfl) rfl ?_ ?_
  rotate_left
  ·go_simp
   rfl
  refine hK.out _ _ ⟨((cell_far (p := ⟨gb194, _, none⟩) NB184_194.out _).trans (((cell_far (p := ⟨gb194, _, none⟩) NB184_194.out _).trans (((cell_far (p := ⟨gb194, _, none⟩) NB184_194.out _).trans (((cell_far (p := ⟨gb194, _, none⟩) NB184_194.out _).trans (hHeld.1)))))))), ((cell_far (p := ⟨gb194, _, none⟩) NB184_194.out _).trans (((cell_far (p := ⟨gb194, _, none⟩) NB184_194.out _).trans (((cell_far (p := ⟨gb194, _, none⟩) NB184_194.out _).trans (((cell_far (p := ⟨gb194, _, none⟩) NB184_194.out _).trans (hHeld.2.1)))))))), ((cell_far (p := ⟨gb194, _, none⟩) NB184_194.out _).trans (((cell_far (p := ⟨gb194, _, none⟩) NB184_194.out _).trans (((cell_far (p := ⟨gb194, _, none⟩) NB184_194.out _).trans (((cell_far (p := ⟨gb194, _, none⟩) NB184_194.out _).trans (hHeld.2.2.1)))))))), ((cell_far (p := ⟨gb194, _, none⟩) NB184_194.out _).trans (((cell_far (p := ⟨gb194, _, none⟩) NB184_194.out _).trans (((cell_far (p := ⟨gb194, _, none⟩) NB184_194.out _).trans (((cell_far (p := ⟨gb194, _, none⟩) NB184_194.out _).trans (hHeld.2.2.2))))))))⟩ (fun hHeld => ?_)
  clear hK K
  refine one_ (i := 5) (N := none) (bt 6 63) rfl rfl (by kernel_rfl) (by decide) (fun K hK => ?_)
  have hs34 : w29.cell? ⟨gb195, 0, none⟩ = some (.slice none 0 0) := czz BK195.out 0
  have hfs34 := fz BK195.out 0
  have hns34_0 := NB184_195.out
  have hns34_1 := NB185_195.out
  have hns34_2 := NB186_195.out
  have hns34_3 := NB194_195.out
  have hms34_0 := NB195_184.out
  have hms34_1 := NB195_185.out
  have hms34_2 := NB195_186.out
  have hms34_3 := NB195_194.out
  have hs35 : w29.cell? ⟨gb195, 1, none⟩ = some (.int .i64 0) := czz BK195.out 1
  have hfs35 := fz BK195.out 1
  have hns35_0 := NB184_195.out
  have hns35_1 := NB185_195.out
  have hns35_2 := NB186_195.out
  have hns35_3 := NB194_195.out
  have hms35_0 := NB195_184.out
  have hms35_1 := NB195_185.out
  have hms35_2 := NB195_186.out
  have hms35_3 := NB195_194.out
  have hs36 : w29.cell? ⟨gb195, 2, none⟩ = some (.int .i64 0) := czz BK195.out 2
  have hfs36 := fz BK195.out 2
  have hns36_0 := NB184_195.out
  have hns36_1 := NB185_195.out
  have hns36_2 := NB186_195.out
  have hns36_3 := NB194_195.out
  have hms36_0 := NB195_184.out
  have hms36_1 := NB195_185.out
  have hms36_2 := NB195_186.out
  have hms36_3 := NB195_194.out
  have hs37 : w29.cell? ⟨gb195, 3, none⟩ = some (.slice none 0 0) := czz BK195.out 3
  have hfs37 := fz BK195.out 3
  have hns37_0 := NB184_195.out
  have hns37_1 := NB185_195.out
  have hns37_2 := NB186_195.out
  have hns37_3 := NB194_195.out
  have hms37_0 := NB195_184.out
  have hms37_1 := NB195_185.out
  have hms37_2 := NB195_186.out
  have hms37_3 := NB195_194.out
  refine skip_ (w1 := ?_) (by rfl) rfl ?_ ?_
  rotate_left
  ·go_simp
   rfl
  refine hK.out _ _ ⟨((cell_far (p := ⟨gb195, _, none⟩) NB184_195.out _).trans (((cell_far (p := ⟨gb195, _, none⟩) NB184_195.out _).trans (((cell_far (p := ⟨gb195, _, none⟩) NB184_195.out _).trans (((cell_far (p := ⟨gb195, _, none⟩) NB184_195.out _).trans (hHeld.1)))))))), ((cell_far (p := ⟨gb195, _, none⟩) NB184_195.out _).trans (((cell_far (p := ⟨gb195, _, none⟩) NB184_195.out _).trans (((cell_far (p := ⟨gb195, _, none⟩) NB184_195.out _).trans (((cell_far (p := ⟨gb195, _, none⟩) NB184_195.out _).trans (hHeld.2.1)))))))), ((cell_far (p := ⟨gb195, _, none⟩) NB184_195.out _).trans (((cell_far (p := ⟨gb195, _, none⟩) NB184_195.out _).trans (((cell_far (p := ⟨gb195, _, none⟩) NB184_195.out _).trans (((cell_far (p := ⟨gb195, _, none⟩) NB184_195.out _).trans (hHeld.2.2.1)))))))), ((cell_far (p := ⟨gb195, _, none⟩) NB184_195.out _).trans (((cell_far (p := ⟨gb195, _, none⟩) NB184_195.out _).trans (((cell_far (p := ⟨gb195, _, none⟩) NB184_195.out _).trans (((cell_far (p := ⟨gb195, _, none⟩) NB184_195.out _).trans (hHeld.2.2.2))))))))⟩ (fun hHeld => ?_)
  clear hK K
  refine done_ (by kernel_rfl) ?_
  have hnb38 := NB186_194.out
  have hnc38 := NB194_186.out
  have hnb39 := NB186_195.out
  have hnc39 := NB195_186.out
  have hcz40_0 := czz BK186.out 0
  have hcz40_1 := czz BK186.out 1
  have hcz40_2 := czz BK186.out 2
  have hfz40_0 := fz BK186.out 0
  have hfz40_1 := fz BK186.out 1
  have hfz40_2 := fz BK186.out 2
  try go_wp2_with (first | ((with_reducible refine gate_callee (f := 45) rfl ?_); refine goesL_ (some 45) rfl rfl Tryd.func45 (by kernel_rfl) rfl #[.int .i64 a2_1, .int .i64 12] rfl TM ?_; (with_reducible refine (saronref00_Turn.calls a2_1 12 t196 _ A8.out).mono ?_); rintro e w' ⟨rfl, ⟨nd, rfl⟩⟩; refine ⟨_, rfl, ?_⟩))
  have n0_ : Aside0 (((((((((w29.setCell ⟨gb194, 0, none⟩ (.slice A0_0 l0_0.length c0_0)).setCell ⟨gb194, 1, none⟩ (.int .i64 a0_1)).setCell ⟨gb194, 2, none⟩ (.int .i64 a0_2)).setCell ⟨gb194, 3, none⟩ (.slice A0_3 l0_3.length c0_3)).setCell ⟨gb195, 0, none⟩ (.slice A0_0 l0_0.length c0_0)).setCell ⟨gb195, 1, none⟩ (.int .i64 a0_1)).setCell ⟨gb195, 2, none⟩ (.int .i64 a0_2)).setCell ⟨gb195, 3, none⟩ (.slice A0_3 l0_3.length c0_3)).heap[gb184]? = some (.cells #[.slice A0_0 l0_0.length c0_0, .int .i64 a0_1, .int .i64 a0_2, .slice A0_3 l0_3.length c0_3] 27 (0, 0))) := ⟨by (with_reducible repeat (first | refine blk_drewN ?_ _ | refine blk_drew ?_ | refine blk_alloc ?_ _)); refine blk_far ?_ NB184_195.out _; (with_reducible repeat (first | refine blk_drewN ?_ _ | refine blk_drew ?_ | refine blk_alloc ?_ _)); refine blk_far ?_ NB184_195.out _; (with_reducible repeat (first | refine blk_drewN ?_ _ | refine blk_drew ?_ | refine blk_alloc ?_ _)); refine blk_far ?_ NB184_195.out _; (with_reducible repeat (first | refine blk_drewN ?_ _ | refine blk_drew ?_ | refine blk_alloc ?_ _)); refine blk_far ?_ NB184_195.out _; (with_reducible repeat (first | refine blk_drewN ?_ _ | refine blk_drew ?_ | refine blk_alloc ?_ _)); refine blk_far ?_ NB184_194.out _; (with_reducible repeat (first | refine blk_drewN ?_ _ | refine blk_drew ?_ | refine blk_alloc ?_ _)); refine blk_far ?_ NB184_194.out _; (with_reducible repeat (first | refine blk_drewN ?_ _ | refine blk_drew ?_ | refine blk_alloc ?_ _)); refine blk_far ?_ NB184_194.out _; (with_reducible repeat (first | refine blk_drewN ?_ _ | refine blk_drew ?_ | refine blk_alloc ?_ _)); refine blk_far ?_ NB184_194.out _; (with_reducible repeat (first | refine blk_drewN ?_ _ | refine blk_drew ?_ | refine blk_alloc ?_ _)); exact BK184.out⟩
  have n1_ : Aside0 (((((((((w29.setCell ⟨gb194, 0, none⟩ (.slice A0_0 l0_0.length c0_0)).setCell ⟨gb194, 1, none⟩ (.int .i64 a0_1)).setCell ⟨gb194, 2, none⟩ (.int .i64 a0_2)).setCell ⟨gb194, 3, none⟩ (.slice A0_3 l0_3.length c0_3)).setCell ⟨gb195, 0, none⟩ (.slice A0_0 l0_0.length c0_0)).setCell ⟨gb195, 1, none⟩ (.int .i64 a0_1)).setCell ⟨gb195, 2, none⟩ (.int .i64 a0_2)).setCell ⟨gb195, 3, none⟩ (.slice A0_3 l0_3.length c0_3)).heap[gb185]? = some (.cells #[.int .i64 a1_0, .int .i64 a1_1] 28 (0, 0))) := ⟨by (with_reducible repeat (first | refine blk_drewN ?_ _ | refine blk_drew ?_ | refine blk_alloc ?_ _)); refine blk_far ?_ NB185_195.out _; (with_reducible repeat (first | refine blk_drewN ?_ _ | refine blk_drew ?_ | refine blk_alloc ?_ _)); refine blk_far ?_ NB185_195.out _; (with_reducible repeat (first | refine blk_drewN ?_ _ | refine blk_drew ?_ | refine blk_alloc ?_ _)); refine blk_far ?_ NB185_195.out _; (with_reducible repeat (first | refine blk_drewN ?_ _ | refine blk_drew ?_ | refine blk_alloc ?_ _)); refine blk_far ?_ NB185_195.out _; (with_reducible repeat (first | refine blk_drewN ?_ _ | refine blk_drew ?_ | refine blk_alloc ?_ _)); refine blk_far ?_ NB185_194.out _; (with_reducible repeat (first | refine blk_drewN ?_ _ | refine blk_drew ?_ | refine blk_alloc ?_ _)); refine blk_far ?_ NB185_194.out _; (with_reducible repeat (first | refine blk_drewN ?_ _ | refine blk_drew ?_ | refine blk_alloc ?_ _)); refine blk_far ?_ NB185_194.out _; (with_reducible repeat (first | refine blk_drewN ?_ _ | refine blk_drew ?_ | refine blk_alloc ?_ _)); refine blk_far ?_ NB185_194.out _; (with_reducible repeat (first | refine blk_drewN ?_ _ | refine blk_drew ?_ | refine blk_alloc ?_ _)); exact BK185.out⟩
  have n2_ : Aside0 (((((((((w29.setCell ⟨gb194, 0, none⟩ (.slice A0_0 l0_0.length c0_0)).setCell ⟨gb194, 1, none⟩ (.int .i64 a0_1)).setCell ⟨gb194, 2, none⟩ (.int .i64 a0_2)).setCell ⟨gb194, 3, none⟩ (.slice A0_3 l0_3.length c0_3)).setCell ⟨gb195, 0, none⟩ (.slice A0_0 l0_0.length c0_0)).setCell ⟨gb195, 1, none⟩ (.int .i64 a0_1)).setCell ⟨gb195, 2, none⟩ (.int .i64 a0_2)).setCell ⟨gb195, 3, none⟩ (.slice A0_3 l0_3.length c0_3)).heap[gb186]? = some (.cells #[.int .i64 a2_0, .int .i64 a2_1, .int .i64 a2_2] 65 (0, 0))) := ⟨by (with_reducible repeat (first | refine blk_drewN ?_ _ | refine blk_drew ?_ | refine blk_alloc ?_ _)); refine blk_far ?_ NB186_195.out _; (with_reducible repeat (first | refine blk_drewN ?_ _ | refine blk_drew ?_ | refine blk_alloc ?_ _)); refine blk_far ?_ NB186_195.out _; (with_reducible repeat (first | refine blk_drewN ?_ _ | refine blk_drew ?_ | refine blk_alloc ?_ _)); refine blk_far ?_ NB186_195.out _; (with_reducible repeat (first | refine blk_drewN ?_ _ | refine blk_drew ?_ | refine blk_alloc ?_ _)); refine blk_far ?_ NB186_195.out _; (with_reducible repeat (first | refine blk_drewN ?_ _ | refine blk_drew ?_ | refine blk_alloc ?_ _)); refine blk_far ?_ NB186_194.out _; (with_reducible repeat (first | refine blk_drewN ?_ _ | refine blk_drew ?_ | refine blk_alloc ?_ _)); refine blk_far ?_ NB186_194.out _; (with_reducible repeat (first | refine blk_drewN ?_ _ | refine blk_drew ?_ | refine blk_alloc ?_ _)); refine blk_far ?_ NB186_194.out _; (with_reducible repeat (first | refine blk_drewN ?_ _ | refine blk_drew ?_ | refine blk_alloc ?_ _)); refine blk_far ?_ NB186_194.out _; (with_reducible repeat (first | refine blk_drewN ?_ _ | refine blk_drew ?_ | refine blk_alloc ?_ _)); exact BK186.out⟩
  have n3_ : Aside0 (((((((((w29.setCell ⟨gb194, 0, none⟩ (.slice A0_0 l0_0.length c0_0)).setCell ⟨gb194, 1, none⟩ (.int .i64 a0_1)).setCell ⟨gb194, 2, none⟩ (.int .i64 a0_2)).setCell ⟨gb194, 3, none⟩ (.slice A0_3 l0_3.length c0_3)).setCell ⟨gb195, 0, none⟩ (.slice A0_0 l0_0.length c0_0)).setCell ⟨gb195, 1, none⟩ (.int .i64 a0_1)).setCell ⟨gb195, 2, none⟩ (.int .i64 a0_2)).setCell ⟨gb195, 3, none⟩ (.slice A0_3 l0_3.length c0_3)).heap[gb194]? = some (.cells #[.slice A0_0 l0_0.length c0_0, .int .i64 a0_1, .int .i64 a0_2, .slice A0_3 l0_3.length c0_3] 27 (0, 0))) := ⟨by (with_reducible repeat (first | refine blk_drewN ?_ _ | refine blk_drew ?_ | refine blk_alloc ?_ _)); refine blk_far ?_ NB194_195.out _; (with_reducible repeat (first | refine blk_drewN ?_ _ | refine blk_drew ?_ | refine blk_alloc ?_ _)); refine blk_far ?_ NB194_195.out _; (with_reducible repeat (first | refine blk_drewN ?_ _ | refine blk_drew ?_ | refine blk_alloc ?_ _)); refine blk_far ?_ NB194_195.out _; (with_reducible repeat (first | refine blk_drewN ?_ _ | refine blk_drew ?_ | refine blk_alloc ?_ _)); refine blk_far ?_ NB194_195.out _; (with_reducible repeat (first | refine blk_drewN ?_ _ | refine blk_drew ?_ | refine blk_alloc ?_ _)); refine blk_put (cs := #[.slice A0_0 l0_0.length c0_0, .int .i64 a0_1, .int .i64 a0_2, .slice none 0 0]) ?_ 3 _ rfl; (with_reducible repeat (first | refine blk_drewN ?_ _ | refine blk_drew ?_ | refine blk_alloc ?_ _)); refine blk_put (cs := #[.slice A0_0 l0_0.length c0_0, .int .i64 a0_1, .int .i64 0, .slice none 0 0]) ?_ 2 _ rfl; (with_reducible repeat (first | refine blk_drewN ?_ _ | refine blk_drew ?_ | refine blk_alloc ?_ _)); refine blk_put (cs := #[.slice A0_0 l0_0.length c0_0, .int .i64 0, .int .i64 0, .slice none 0 0]) ?_ 1 _ rfl; (with_reducible repeat (first | refine blk_drewN ?_ _ | refine blk_drew ?_ | refine blk_alloc ?_ _)); refine blk_put (cs := #[.slice none 0 0, .int .i64 0, .int .i64 0, .slice none 0 0]) ?_ 0 _ rfl; (with_reducible repeat (first | refine blk_drewN ?_ _ | refine blk_drew ?_ | refine blk_alloc ?_ _)); exact BK194.out⟩
  have n4_ : Aside0 (((((((((w29.setCell ⟨gb194, 0, none⟩ (.slice A0_0 l0_0.length c0_0)).setCell ⟨gb194, 1, none⟩ (.int .i64 a0_1)).setCell ⟨gb194, 2, none⟩ (.int .i64 a0_2)).setCell ⟨gb194, 3, none⟩ (.slice A0_3 l0_3.length c0_3)).setCell ⟨gb195, 0, none⟩ (.slice A0_0 l0_0.length c0_0)).setCell ⟨gb195, 1, none⟩ (.int .i64 a0_1)).setCell ⟨gb195, 2, none⟩ (.int .i64 a0_2)).setCell ⟨gb195, 3, none⟩ (.slice A0_3 l0_3.length c0_3)).heap[gb195]? = some (.cells #[.slice A0_0 l0_0.length c0_0, .int .i64 a0_1, .int .i64 a0_2, .slice A0_3 l0_3.length c0_3] 27 (0, 0))) := ⟨by (with_reducible repeat (first | refine blk_drewN ?_ _ | refine blk_drew ?_ | refine blk_alloc ?_ _)); refine blk_put (cs := #[.slice A0_0 l0_0.length c0_0, .int .i64 a0_1, .int .i64 a0_2, .slice none 0 0]) ?_ 3 _ rfl; (with_reducible repeat (first | refine blk_drewN ?_ _ | refine blk_drew ?_ | refine blk_alloc ?_ _)); refine blk_put (cs := #[.slice A0_0 l0_0.length c0_0, .int .i64 a0_1, .int .i64 0, .slice none 0 0]) ?_ 2 _ rfl; (with_reducible repeat (first | refine blk_drewN ?_ _ | refine blk_drew ?_ | refine blk_alloc ?_ _)); refine blk_put (cs := #[.slice A0_0 l0_0.length c0_0, .int .i64 0, .int .i64 0, .slice none 0 0]) ?_ 1 _ rfl; (with_reducible repeat (first | refine blk_drewN ?_ _ | refine blk_drew ?_ | refine blk_alloc ?_ _)); refine blk_put (cs := #[.slice none 0 0, .int .i64 0, .int .i64 0, .slice none 0 0]) ?_ 0 _ rfl; (with_reducible repeat (first | refine blk_drewN ?_ _ | refine blk_drew ?_ | refine blk_alloc ?_ _)); refine blk_far ?_ NB195_194.out _; (with_reducible repeat (first | refine blk_drewN ?_ _ | refine blk_drew ?_ | refine blk_alloc ?_ _)); refine blk_far ?_ NB195_194.out _; (with_reducible repeat (first | refine blk_drewN ?_ _ | refine blk_drew ?_ | refine blk_alloc ?_ _)); refine blk_far ?_ NB195_194.out _; (with_reducible repeat (first | refine blk_drewN ?_ _ | refine blk_drew ?_ | refine blk_alloc ?_ _)); refine blk_far ?_ NB195_194.out _; (with_reducible repeat (first | refine blk_drewN ?_ _ | refine blk_drew ?_ | refine blk_alloc ?_ _)); exact BK195.out⟩
  have n5_ : Aside0 (Below w.heap.size w ((((((((w29.setCell ⟨gb194, 0, none⟩ (.slice A0_0 l0_0.length c0_0)).setCell ⟨gb194, 1, none⟩ (.int .i64 a0_1)).setCell ⟨gb194, 2, none⟩ (.int .i64 a0_2)).setCell ⟨gb194, 3, none⟩ (.slice A0_3 l0_3.length c0_3)).setCell ⟨gb195, 0, none⟩ (.slice A0_0 l0_0.length c0_0)).setCell ⟨gb195, 1, none⟩ (.int .i64 a0_1)).setCell ⟨gb195, 2, none⟩ (.int .i64 a0_2)).setCell ⟨gb195, 3, none⟩ (.slice A0_3 l0_3.length c0_3))) := ⟨by repeat (first | (with_reducible first | exact HB.out | apply below_alloc | apply pw_below_drewN | apply below_drew1 | refine below_set ?_ GE184.out | refine below_set ?_ GE185.out | refine below_set ?_ GE186.out | refine below_set ?_ GE194.out | refine below_set ?_ GE195.out) | exact HB.out)⟩
  (try clear BK184)
  (try clear BK185)
  (try clear BK186)
  (try clear BK194)
  (try clear BK195)
  (try clear HB)
  generalize ((((((((w29.setCell ⟨gb194, 0, none⟩ (.slice A0_0 l0_0.length c0_0)).setCell ⟨gb194, 1, none⟩ (.int .i64 a0_1)).setCell ⟨gb194, 2, none⟩ (.int .i64 a0_2)).setCell ⟨gb194, 3, none⟩ (.slice A0_3 l0_3.length c0_3)).setCell ⟨gb195, 0, none⟩ (.slice A0_0 l0_0.length c0_0)).setCell ⟨gb195, 1, none⟩ (.int .i64 a0_1)).setCell ⟨gb195, 2, none⟩ (.int .i64 a0_2)).setCell ⟨gb195, 3, none⟩ (.slice A0_3 l0_3.length c0_3)) = w41 at n0_ n1_ n2_ n3_ n4_ n5_ ⊢
  have BK184 := n0_
  have BK185 := n1_
  have BK186 := n2_
  have BK194 := n3_
  have BK195 := n4_
  have HB := n5_
  clear n0_ n1_ n2_ n3_ n4_ n5_
  (try (rw [drewN_self w41]; generalize hq_ : World.drewN w41 _ = w41; have n0_ : Aside0 (w41.heap[gb184]? = some (.cells #[.slice A0_0 l0_0.length c0_0, .int .i64 a0_1, .int .i64 a0_2, .slice A0_3 l0_3.length c0_3] 27 (0, 0))) := ⟨by rw [← hq_]; exact (by (with_reducible repeat (first | refine blk_drewN ?_ _ | refine blk_drew ?_ | refine blk_alloc ?_ _)); exact BK184.out)⟩; have n1_ : Aside0 (w41.heap[gb185]? = some (.cells #[.int .i64 a1_0, .int .i64 a1_1] 28 (0, 0))) := ⟨by rw [← hq_]; exact (by (with_reducible repeat (first | refine blk_drewN ?_ _ | refine blk_drew ?_ | refine blk_alloc ?_ _)); exact BK185.out)⟩; have n2_ : Aside0 (w41.heap[gb186]? = some (.cells #[.int .i64 a2_0, .int .i64 a2_1, .int .i64 a2_2] 65 (0, 0))) := ⟨by rw [← hq_]; exact (by (with_reducible repeat (first | refine blk_drewN ?_ _ | refine blk_drew ?_ | refine blk_alloc ?_ _)); exact BK186.out)⟩; have n3_ : Aside0 (w41.heap[gb194]? = some (.cells #[.slice A0_0 l0_0.length c0_0, .int .i64 a0_1, .int .i64 a0_2, .slice A0_3 l0_3.length c0_3] 27 (0, 0))) := ⟨by rw [← hq_]; exact (by (with_reducible repeat (first | refine blk_drewN ?_ _ | refine blk_drew ?_ | refine blk_alloc ?_ _)); exact BK194.out)⟩; have n4_ : Aside0 (w41.heap[gb195]? = some (.cells #[.slice A0_0 l0_0.length c0_0, .int .i64 a0_1, .int .i64 a0_2, .slice A0_3 l0_3.length c0_3] 27 (0, 0))) := ⟨by rw [← hq_]; exact (by (with_reducible repeat (first | refine blk_drewN ?_ _ | refine blk_drew ?_ | refine blk_alloc ?_ _)); exact BK195.out)⟩; have n5_ : Aside0 (Below w.heap.size w w41) := ⟨by rw [← hq_]; exact (by repeat (first | (with_reducible first | exact HB.out | apply below_alloc | apply pw_below_drewN | apply below_drew1 | refine below_set ?_ GE184.out | refine below_set ?_ GE185.out | refine below_set ?_ GE186.out | refine below_set ?_ GE194.out | refine below_set ?_ GE195.out) | exact HB.out))⟩; clear BK184 BK185 BK186 BK194 BK195 HB hq_; have BK184 := n0_; have BK185 := n1_; have BK186 := n2_; have BK194 := n3_; have BK195 := n4_; have HB := n5_; clear n0_ n1_ n2_ n3_ n4_ n5_)); have hczq184_0 : w41.cell? ⟨gb184, 0, none⟩ = some (.slice A0_0 l0_0.length c0_0) := czz BK184.out 0; have hfzq184_0 := fz BK184.out 0; have hczq184_1 : w41.cell? ⟨gb184, 1, none⟩ = some (.int .i64 a0_1) := czz BK184.out 1; have hfzq184_1 := fz BK184.out 1; have hczq184_2 : w41.cell? ⟨gb184, 2, none⟩ = some (.int .i64 a0_2) := czz BK184.out 2; have hfzq184_2 := fz BK184.out 2; have hczq184_3 : w41.cell? ⟨gb184, 3, none⟩ = some (.slice A0_3 l0_3.length c0_3) := czz BK184.out 3; have hfzq184_3 := fz BK184.out 3; have hczq185_0 : w41.cell? ⟨gb185, 0, none⟩ = some (.int .i64 a1_0) := czz BK185.out 0; have hfzq185_0 := fz BK185.out 0; have hczq185_1 : w41.cell? ⟨gb185, 1, none⟩ = some (.int .i64 a1_1) := czz BK185.out 1; have hfzq185_1 := fz BK185.out 1; have hczq186_0 : w41.cell? ⟨gb186, 0, none⟩ = some (.int .i64 a2_0) := czz BK186.out 0; have hfzq186_0 := fz BK186.out 0; have hczq186_1 : w41.cell? ⟨gb186, 1, none⟩ = some (.int .i64 a2_1) := czz BK186.out 1; have hfzq186_1 := fz BK186.out 1; have hczq186_2 : w41.cell? ⟨gb186, 2, none⟩ = some (.int .i64 a2_2) := czz BK186.out 2; have hfzq186_2 := fz BK186.out 2; have hczq194_0 : w41.cell? ⟨gb194, 0, none⟩ = some (.slice A0_0 l0_0.length c0_0) := czz BK194.out 0; have hfzq194_0 := fz BK194.out 0; have hczq194_1 : w41.cell? ⟨gb194, 1, none⟩ = some (.int .i64 a0_1) := czz BK194.out 1; have hfzq194_1 := fz BK194.out 1; have hczq194_2 : w41.cell? ⟨gb194, 2, none⟩ = some (.int .i64 a0_2) := czz BK194.out 2; have hfzq194_2 := fz BK194.out 2; have hczq194_3 : w41.cell? ⟨gb194, 3, none⟩ = some (.slice A0_3 l0_3.length c0_3) := czz BK194.out 3; have hfzq194_3 := fz BK194.out 3; have hczq195_0 : w41.cell? ⟨gb195, 0, none⟩ = some (.slice A0_0 l0_0.length c0_0) := czz BK195.out 0; have hfzq195_0 := fz BK195.out 0; have hczq195_1 : w41.cell? ⟨gb195, 1, none⟩ = some (.int .i64 a0_1) := czz BK195.out 1; have hfzq195_1 := fz BK195.out 1; have hczq195_2 : w41.cell? ⟨gb195, 2, none⟩ = some (.int .i64 a0_2) := czz BK195.out 2; have hfzq195_2 := fz BK195.out 2; have hczq195_3 : w41.cell? ⟨gb195, 3, none⟩ = some (.slice A0_3 l0_3.length c0_3) := czz BK195.out 3; have hfzq195_3 := fz BK195.out 3
  have n0_ := Aside0.mk (blk_drew BK184.out)
  have n1_ := Aside0.mk (blk_drew BK185.out)
  have n2_ := Aside0.mk (blk_drew BK186.out)
  have n3_ := Aside0.mk (blk_drew BK194.out)
  have n4_ := Aside0.mk (blk_drew BK195.out)
  have n5_ := Aside0.mk (below_drew1 HB.out)
  clear BK184
  clear BK185
  clear BK186
  clear BK194
  clear BK195
  clear HB
  have BK184 := n0_
  have BK185 := n1_
  have BK186 := n2_
  have BK194 := n3_
  have BK195 := n4_
  have HB := n5_
  clear n0_ n1_ n2_ n3_ n4_ n5_
  refine start_ (n := 17) (S := fun w' => w'.cell? ⟨gb184, 0, none⟩ = some (.slice A0_0 l0_0.length c0_0) ∧ w'.cell? ⟨gb184, 1, none⟩ = some (.int .i64 a0_1) ∧ w'.cell? ⟨gb184, 2, none⟩ = some (.int .i64 a0_2) ∧ w'.cell? ⟨gb184, 3, none⟩ = some (.slice A0_3 l0_3.length c0_3) ∧ w'.cell? ⟨gb186, 0, none⟩ = some (.int .i64 a2_0) ∧ w'.cell? ⟨gb186, 1, none⟩ = some (.int .i64 a2_1) ∧ w'.cell? ⟨gb186, 2, none⟩ = some (.int .i64 a2_2)) (ds := []) (.replicate 17 false) (by kernel_rfl) rfl rfl ⟨czz BK184.out 0, czz BK184.out 1, czz BK184.out 2, czz BK184.out 3, czz BK186.out 0, czz BK186.out 1, czz BK186.out 2⟩ (fun hHeld => ?_); refine with_tabW saronlaw03_RaspEasier.tab7 saronlaw03_RaspEasier.bits7 (fun HT_ HW_ => ?_)
  generalize w41.drew = w42 at BK184 BK185 BK186 BK194 BK195 HB hHeld ⊢
  refine pT 0 46 (bt 17 1) (k := ?_)
  refine pT 1 47 (bt 17 3) (k := ?_)
  refine pT 3 49 (bt 17 11) (k := ?_)
  refine pT 6 52 (bt 17 75) (k := ?_)
  refine pT 7 53 (bt 17 203) (k := ?_)
  refine pT 9 55 (bt 17 715) (k := ?_)
  refine tT7 2 48 (bt 17 719) hHeld (k := ?_)
  refine pT 4 50 (bt 17 735) (k := ?_)
  refine pT 5 51 (bt 17 767) (k := ?_)
  refine tT7 8 54 (bt 17 1023) hHeld (k := ?_)
  refine tT7 10 56 (bt 17 2047) hHeld (k := ?_)
  refine one_ (i := 11) (N := some 57) (bt 17 4095) rfl rfl (one_of HT_.out (by kernel_rfl)) (by decide) (fun K hK => ?_)
  refine goes_ Tryd.func45 (by kernel_rfl) rfl #[.int .i64 a2_2, .int .i64 12] (by rfl) rfl rfl TM ?_
  with_reducible refine (saronref00_Turn.calls a2_2 12 t197 _ A10.out).mono ?_
  rintro e w' ⟨rfl, ⟨nd, rfl⟩⟩
  refine ⟨_, rfl, ?_⟩
  refine hK.out _ _ ⟨czz BK184.out 0, czz BK184.out 1, czz BK184.out 2, czz BK184.out 3, czz BK186.out 0, czz BK186.out 1, czz BK186.out 2⟩ (fun hHeld => ?_)
  clear hK K
  refine norm_ (a' := ?_) ?_ ?_
  rotate_left
  ·show Act.put _ (some 57) _ = _
   simp only [Act.put, lA, lZ, lS, i64_w, i32_w]
   rfl
  refine pT 12 58 (bt 17 8191) (k := ?_)
  refine pT 13 59 (bt 17 16383) (k := ?_)
  refine one_ (i := 14) (N := some 60) (bt 17 32767) rfl rfl (one_of HT_.out (by kernel_rfl)) (by decide) (fun K hK => ?_)
  refine goes_ Tryd.func44 (by kernel_rfl) rfl #[.int .i64 ji9, .int .i64 ji11] (by rfl) rfl rfl (by (try simp only [lM, mC, mN]); first | done | (simp only [hji11, hji9]; rfl) | rfl | (simp only [List.length_drop, List.length_take]; rfl)) ?_
  with_reducible refine (saronref00_Band.calls ji9 ji11 t198 t199 _ A12.out).mono ?_
  rintro e w43 ⟨rfl, hb⟩
  refine ⟨_, rfl, ?_⟩
  have n0_ := Aside0.mk (blk_below (g := gb184) (o := .cells #[.slice A0_0 l0_0.length c0_0, .int .i64 a0_1, .int .i64 a0_2, .slice A0_3 l0_3.length c0_3] 27 (0, 0)) (by (with_reducible repeat (first | refine blk_drewN ?_ _ | refine blk_drew ?_ | refine blk_alloc ?_ _)); exact BK184.out) hb)
  have n1_ := Aside0.mk (blk_below (g := gb185) (o := .cells #[.int .i64 a1_0, .int .i64 a1_1] 28 (0, 0)) (by (with_reducible repeat (first | refine blk_drewN ?_ _ | refine blk_drew ?_ | refine blk_alloc ?_ _)); exact BK185.out) hb)
  have n2_ := Aside0.mk (blk_below (g := gb186) (o := .cells #[.int .i64 a2_0, .int .i64 a2_1, .int .i64 a2_2] 65 (0, 0)) (by (with_reducible repeat (first | refine blk_drewN ?_ _ | refine blk_drew ?_ | refine blk_alloc ?_ _)); exact BK186.out) hb)
  have n3_ := Aside0.mk (blk_below (g := gb194) (o := .cells #[.slice A0_0 l0_0.length c0_0, .int .i64 a0_1, .int .i64 a0_2, .slice A0_3 l0_3.length c0_3] 27 (0, 0)) (by (with_reducible repeat (first | refine blk_drewN ?_ _ | refine blk_drew ?_ | refine blk_alloc ?_ _)); exact BK194.out) hb)
  have n4_ := Aside0.mk (blk_below (g := gb195) (o := .cells #[.slice A0_0 l0_0.length c0_0, .int .i64 a0_1, .int .i64 a0_2, .slice A0_3 l0_3.length c0_3] 27 (0, 0)) (by (with_reducible repeat (first | refine blk_drewN ?_ _ | refine blk_drew ?_ | refine blk_alloc ?_ _)); exact BK195.out) hb)
  have n5_ := Aside0.mk (below_step (by repeat (first | (with_reducible first | exact HB.out | apply below_alloc | apply pw_below_drewN | apply below_drew1 | refine below_set ?_ GE184.out | refine below_set ?_ GE185.out | refine below_set ?_ GE186.out | refine below_set ?_ GE194.out | refine below_set ?_ GE195.out) | exact HB.out)) hb)
  clear BK184
  clear BK185
  clear BK186
  clear BK194
  clear BK195
  clear HB
  have BK184 := n0_
  have BK185 := n1_
  have BK186 := n2_
  have BK194 := n3_
  have BK195 := n4_
  have HB := n5_
  clear n0_ n1_ n2_ n3_ n4_ n5_
  (try clear hb)
  (try clear hb2)
  (try clear hk)
  (try clear hi)
  refine hK.out _ _ ⟨czz BK184.out 0, czz BK184.out 1, czz BK184.out 2, czz BK184.out 3, czz BK186.out 0, czz BK186.out 1, czz BK186.out 2⟩ (fun hHeld => ?_)
  clear hK K
  refine norm_ (a' := ?_) ?_ ?_
  rotate_left
  ·show Act.put _ (some 60) _ = _
   simp only [Act.put, lA, lZ, lS, i64_w, i32_w]
   rfl
  refine pT 15 61 (bt 17 65535) (k := ?_)
  refine one_ (i := 16) (N := none) (bt 17 131071) rfl rfl (one_of HT_.out (by kernel_rfl)) (by decide) (fun K hK => ?_)
  have hs44 : w43.cell? ⟨gb194, 1, none⟩ = some (.int .i64 a0_1) := czz BK194.out 1
  have hfs44 := fz BK194.out 1
  have hns44_0 := NB184_194.out
  have hns44_1 := NB185_194.out
  have hns44_2 := NB186_194.out
  have hns44_4 := NB195_194.out
  have hms44_0 := NB194_184.out
  have hms44_1 := NB194_185.out
  have hms44_2 := NB194_186.out
  have hms44_4 := NB194_195.out
  have hs45 : w43.cell? ⟨gb194, 2, none⟩ = some (.int .i64 a0_2) := czz BK194.out 2
  have hfs45 := fz BK194.out 2
  have hns45_0 := NB184_194.out
  have hns45_1 := NB185_194.out
  have hns45_2 := NB186_194.out
  have hns45_4 := NB195_194.out
  have hms45_0 := NB194_184.out
  have hms45_1 := NB194_185.out
  have hms45_2 := NB194_186.out
  have hms45_4 := NB194_195.out
  refine skip_ (w1 := ?_) (by rfl) rfl ?_ ?_
  rotate_left
  ·go_simp
   rfl
  refine hK.out _ _ ⟨((cell_far (p := ⟨gb194, _, none⟩) NB184_194.out _).trans (((cell_far (p := ⟨gb194, _, none⟩) NB184_194.out _).trans (hHeld.1)))), ((cell_far (p := ⟨gb194, _, none⟩) NB184_194.out _).trans (((cell_far (p := ⟨gb194, _, none⟩) NB184_194.out _).trans (hHeld.2.1)))), ((cell_far (p := ⟨gb194, _, none⟩) NB184_194.out _).trans (((cell_far (p := ⟨gb194, _, none⟩) NB184_194.out _).trans (hHeld.2.2.1)))), ((cell_far (p := ⟨gb194, _, none⟩) NB184_194.out _).trans (((cell_far (p := ⟨gb194, _, none⟩) NB184_194.out _).trans (hHeld.2.2.2.1)))), ((cell_far (p := ⟨gb194, _, none⟩) NB186_194.out _).trans (((cell_far (p := ⟨gb194, _, none⟩) NB186_194.out _).trans (hHeld.2.2.2.2.1)))), ((cell_far (p := ⟨gb194, _, none⟩) NB186_194.out _).trans (((cell_far (p := ⟨gb194, _, none⟩) NB186_194.out _).trans (hHeld.2.2.2.2.2.1)))), ((cell_far (p := ⟨gb194, _, none⟩) NB186_194.out _).trans (((cell_far (p := ⟨gb194, _, none⟩) NB186_194.out _).trans (hHeld.2.2.2.2.2.2))))⟩ (fun hHeld => ?_)
  clear hK K
  refine done_ (done_of HT_.out (by kernel_rfl)) ?_
  go_upto_region 8 with (fail)
  go_cut [] (fun wc => ∃ (kq : Nat) (x196000_12 : List (S57)) (u196000 : Value), Aside0 (saronlaw03_RaspEasier.j0 kq t189 t190 t192 t193 l0_0 a0_1 a0_2 l0_3 a2_0 a2_1 a2_2 l0_0 t198 t199 l0_3 x196000_12 a0_1 a0_2 l0_3 = some r) ∧ Aside0 (kq ≤ k) ∧ Aside0 (Kd.R k57 57 wc w.heap.size (fun _ => True) u196000 x196000_12) ∧ Aside0 (wc.heap[gb184]? = some (.cells #[(.slice A0_0 l0_0.length c0_0), .int .i64 a0_1, .int .i64 a0_2, (.slice A0_3 l0_3.length c0_3)] 27 (0, 0))) ∧ Aside0 (wc.heap[gb185]? = some (.cells #[.int .i64 a1_0, .int .i64 a1_1] 28 (0, 0))) ∧ Aside0 (wc.heap[gb186]? = some (.cells #[.int .i64 a2_0, .int .i64 a2_1, .int .i64 a2_2] 65 (0, 0))) ∧ Aside0 (wc.heap[gb194]? = some (.cells #[(.slice A0_0 l0_0.length c0_0), .int .i64 t198, .int .i64 t199, (.slice A0_3 l0_3.length c0_3)] 27 (0, 0))) ∧ Aside0 (wc.heap[gb195]? = some (.cells #[u196000, .int .i64 a0_1, .int .i64 a0_2, (.slice A0_3 l0_3.length c0_3)] 27 (0, 0))) ∧ Aside0 (Below w.heap.size w wc))
  case first => as_aux_lemma =>
   have H := HC13.out
   clear HC13
   obtain ⟨y200, hy200⟩ : ∃ y_ : List (S57), y_ = (([] : List (S57))) := ⟨_, rfl⟩
   replace H : (if y200.length + l0_0.length < 5864062014805 then (saronlaw03_RaspEasier.j0 k t189 t190 t192 t193 l0_0 a0_1 a0_2 l0_3 a2_0 a2_1 a2_2 l0_0 t198 t199 l0_3 (y200 ++ l0_0) a0_1 a0_2 l0_3) else (none)) = some r := by first | (rw [hy200]; with_reducible exact H) | (have H2_ := (Option.bind_some _ _).symm.trans H; rw [hy200]; with_reducible exact H2_) | (have H2_ := (Option.bind_some _ _).symm.trans H; with_reducible exact H2_) | with_reducible exact H | (rw [hy200]; exact H) | exact H
   have Ny200 := Aside0.mk hy200
   clear hy200
   by_cases c46 : y200.length + l0_0.length < 5864062014805
   ·rw [if_pos c46] at H
    have LMc46 := Aside0.mk c46
    clear c46
    obtain ⟨y203, hy203⟩ : ∃ y_ : List (S57), y_ = (y200 ++ l0_0) := ⟨_, rfl⟩
    replace H : (saronlaw03_RaspEasier.j0 k t189 t190 t192 t193 l0_0 a0_1 a0_2 l0_3 a2_0 a2_1 a2_2 l0_0 t198 t199 l0_3 y203 a0_1 a0_2 l0_3) = some r := by first | (rw [hy203]; with_reducible exact H) | (have H2_ := (Option.bind_some _ _).symm.trans H; rw [hy203]; with_reducible exact H2_) | (have H2_ := (Option.bind_some _ _).symm.trans H; with_reducible exact H2_) | with_reducible exact H | (rw [hy203]; exact H) | exact H
    have Ny203 := Aside0.mk hy203
    clear hy203
    have H' := Aside0.mk H
    clear H
    go_wp2_with (first | ((with_reducible refine gate_dst (N := 62) rfl ?_); refine Kd.R_lit k57 _ 57 ?hg (N := 62) ?hd (xs := ([] : List (S57))) (inner := []) (ok := fun _ => True) (okp := fun _ => True) ?hr ?hp (fun _ hk => hk) trivial (Below.refl _ _) (Nat.le_refl _) (by simp) ?_; (case hd => rfl); (case hg => rfl); (case hr => exact TS); (case hp => exact (Reps.none _ _)); intro v201 w47 ho48 hb hg_ hnew_; clear hg_ hnew_; (first | rw [← Ny200.out] at ho48 | (simp only [Int.reduceToNat] at ho48; rw [← Ny200.out] at ho48)); have HO202 := Aside0.mk (Kd.R_lower ho48 (below_size (by repeat (first | (with_reducible first | exact HB.out | apply below_alloc | apply pw_below_drewN | apply below_drew1 | refine below_set ?_ GE184.out | refine below_set ?_ GE185.out | refine below_set ?_ GE186.out | refine below_set ?_ GE194.out | refine below_set ?_ GE195.out) | exact HB.out)))); replace BK184 := Aside0.mk (blk_below (g := gb184) (o := .cells #[.slice A0_0 l0_0.length c0_0, .int .i64 a0_1, .int .i64 a0_2, .slice A0_3 l0_3.length c0_3] 27 (0, 0)) (by (with_reducible repeat (first | refine blk_drewN ?_ _ | refine blk_drew ?_ | refine blk_alloc ?_ _)); refine blk_far ?_ NB184_194.out _; (with_reducible repeat (first | refine blk_drewN ?_ _ | refine blk_drew ?_ | refine blk_alloc ?_ _)); refine blk_far ?_ NB184_194.out _; (with_reducible repeat (first | refine blk_drewN ?_ _ | refine blk_drew ?_ | refine blk_alloc ?_ _)); exact BK184.out) hb); replace BK185 := Aside0.mk (blk_below (g := gb185) (o := .cells #[.int .i64 a1_0, .int .i64 a1_1] 28 (0, 0)) (by (with_reducible repeat (first | refine blk_drewN ?_ _ | refine blk_drew ?_ | refine blk_alloc ?_ _)); refine blk_far ?_ NB185_194.out _; (with_reducible repeat (first | refine blk_drewN ?_ _ | refine blk_drew ?_ | refine blk_alloc ?_ _)); refine blk_far ?_ NB185_194.out _; (with_reducible repeat (first | refine blk_drewN ?_ _ | refine blk_drew ?_ | refine blk_alloc ?_ _)); exact BK185.out) hb); replace BK186 := Aside0.mk (blk_below (g := gb186) (o := .cells #[.int .i64 a2_0, .int .i64 a2_1, .int .i64 a2_2] 65 (0, 0)) (by (with_reducible repeat (first | refine blk_drewN ?_ _ | refine blk_drew ?_ | refine blk_alloc ?_ _)); refine blk_far ?_ NB186_194.out _; (with_reducible repeat (first | refine blk_drewN ?_ _ | refine blk_drew ?_ | refine blk_alloc ?_ _)); refine blk_far ?_ NB186_194.out _; (with_reducible repeat (first | refine blk_drewN ?_ _ | refine blk_drew ?_ | refine blk_alloc ?_ _)); exact BK186.out) hb); replace BK194 := Aside0.mk (blk_below (g := gb194) (o := .cells #[.slice A0_0 l0_0.length c0_0, .int .i64 t198, .int .i64 t199, .slice A0_3 l0_3.length c0_3] 27 (0, 0)) (by (with_reducible repeat (first | refine blk_drewN ?_ _ | refine blk_drew ?_ | refine blk_alloc ?_ _)); refine blk_put (cs := #[.slice A0_0 l0_0.length c0_0, .int .i64 t198, .int .i64 a0_2, .slice A0_3 l0_3.length c0_3]) ?_ 2 _ rfl; (with_reducible repeat (first | refine blk_drewN ?_ _ | refine blk_drew ?_ | refine blk_alloc ?_ _)); refine blk_put (cs := #[.slice A0_0 l0_0.length c0_0, .int .i64 a0_1, .int .i64 a0_2, .slice A0_3 l0_3.length c0_3]) ?_ 1 _ rfl; (with_reducible repeat (first | refine blk_drewN ?_ _ | refine blk_drew ?_ | refine blk_alloc ?_ _)); exact BK194.out) hb); replace BK195 := Aside0.mk (blk_below (g := gb195) (o := .cells #[.slice A0_0 l0_0.length c0_0, .int .i64 a0_1, .int .i64 a0_2, .slice A0_3 l0_3.length c0_3] 27 (0, 0)) (by (with_reducible repeat (first | refine blk_drewN ?_ _ | refine blk_drew ?_ | refine blk_alloc ?_ _)); refine blk_far ?_ NB195_194.out _; (with_reducible repeat (first | refine blk_drewN ?_ _ | refine blk_drew ?_ | refine blk_alloc ?_ _)); refine blk_far ?_ NB195_194.out _; (with_reducible repeat (first | refine blk_drewN ?_ _ | refine blk_drew ?_ | refine blk_alloc ?_ _)); exact BK195.out) hb); replace HB := Aside0.mk (below_step (by repeat (first | (with_reducible first | exact HB.out | apply below_alloc | apply pw_below_drewN | apply below_drew1 | refine below_set ?_ GE184.out | refine below_set ?_ GE185.out | refine below_set ?_ GE186.out | refine below_set ?_ GE194.out | refine below_set ?_ GE195.out) | exact HB.out)) hb); clear hb ho48; have hnb49 := NB184_185.out; have hnc49 := NB185_184.out; have hnb50 := NB184_186.out; have hnc50 := NB186_184.out; have hnb51 := NB184_194.out; have hnc51 := NB194_184.out; have hnb52 := NB184_195.out; have hnc52 := NB195_184.out; have hcz53_0 := czz BK184.out 0; have hcz53_1 := czz BK184.out 1; have hcz53_2 := czz BK184.out 2; have hcz53_3 := czz BK184.out 3; have hfz53_0 := fz BK184.out 0; have hfz53_1 := fz BK184.out 1; have hfz53_2 := fz BK184.out 2; have hfz53_3 := fz BK184.out 3) | ((with_reducible refine gate_builtin (b := .append) (xs := #[.tmp 62, .tmp 64]) rfl ?_); at_builtin; refine Kd.R_append_rows k57 (w0 := w) w.heap.size rfl (.tmp 62) (.tmp 64) 22 57 (.agg #[(.int .i64 0), (.int .i64 0), (.int .i64 0)]) 24 rfl Tryd.underlying22 info57 rfl (by decide) (by omega) v201 y200 l0_0 _ _ _ (fun _ => True) (fun _ => False) rfl rfl ?aO ?aR (fun _ _ h => h) (fun _ h => h.elim) ?aF ?aB ?aS ?aL ?_; (case aR => exact TC HR0_0.out); (case aB => exact (by repeat (first | (with_reducible first | exact HB.out | apply below_alloc | apply pw_below_drewN | apply below_drew1 | refine below_set ?_ GE184.out | refine below_set ?_ GE185.out | refine below_set ?_ GE186.out | refine below_set ?_ GE194.out | refine below_set ?_ GE195.out) | exact HB.out))); (case aF => exact (fun _ _ => trivial)); (case aO => exact (TRo HO202.out)); (case aS => exact (below_size (by repeat (first | (with_reducible first | exact HB.out | apply below_alloc | apply pw_below_drewN | apply below_drew1 | refine below_set ?_ GE184.out | refine below_set ?_ GE185.out | refine below_set ?_ GE186.out | refine below_set ?_ GE194.out | refine below_set ?_ GE195.out) | exact HB.out)))); (case aL => have := LMc46.out; omega); intro v204 w54 ho hb hg hat; rw [← Ny203.out] at ho; have HO205 := Aside0.mk (ho); replace BK184 := Aside0.mk (blk_grown (g := gb184) (o := .cells #[.slice A0_0 l0_0.length c0_0, .int .i64 a0_1, .int .i64 a0_2, .slice A0_3 l0_3.length c0_3] 27 (0, 0)) (by (with_reducible repeat (first | refine blk_drewN ?_ _ | refine blk_drew ?_ | refine blk_alloc ?_ _)); exact BK184.out) hg (Kd.R_ne HO202.out BK184.out (by decide))); replace BK185 := Aside0.mk (blk_grown (g := gb185) (o := .cells #[.int .i64 a1_0, .int .i64 a1_1] 28 (0, 0)) (by (with_reducible repeat (first | refine blk_drewN ?_ _ | refine blk_drew ?_ | refine blk_alloc ?_ _)); exact BK185.out) hg (Kd.R_ne HO202.out BK185.out (by decide))); replace BK186 := Aside0.mk (blk_grown (g := gb186) (o := .cells #[.int .i64 a2_0, .int .i64 a2_1, .int .i64 a2_2] 65 (0, 0)) (by (with_reducible repeat (first | refine blk_drewN ?_ _ | refine blk_drew ?_ | refine blk_alloc ?_ _)); exact BK186.out) hg (Kd.R_ne HO202.out BK186.out (by decide))); replace BK194 := Aside0.mk (blk_grown (g := gb194) (o := .cells #[.slice A0_0 l0_0.length c0_0, .int .i64 t198, .int .i64 t199, .slice A0_3 l0_3.length c0_3] 27 (0, 0)) (by (with_reducible repeat (first | refine blk_drewN ?_ _ | refine blk_drew ?_ | refine blk_alloc ?_ _)); exact BK194.out) hg (Kd.R_ne HO202.out BK194.out (by decide))); replace BK195 := Aside0.mk (blk_grown (g := gb195) (o := .cells #[.slice A0_0 l0_0.length c0_0, .int .i64 a0_1, .int .i64 a0_2, .slice A0_3 l0_3.length c0_3] 27 (0, 0)) (by (with_reducible repeat (first | refine blk_drewN ?_ _ | refine blk_drew ?_ | refine blk_alloc ?_ _)); exact BK195.out) hg (Kd.R_ne HO202.out BK195.out (by decide))); replace HB := Aside0.mk (hb); clear HO202; clear ho hb hg hat; obtain ⟨Ao55, co55, eo55⟩ := Kd.R_slice HO205.out; subst eo55; have hnb56 := NB195_185.out; have hnc56 := NB185_195.out; have hnb57 := NB195_186.out; have hnc57 := NB186_195.out; have hnb58 := NB195_194.out; have hnc58 := NB194_195.out; have hcz59_0 := czz BK195.out 0; have hcz59_1 := czz BK195.out 1; have hcz59_2 := czz BK195.out 2; have hcz59_3 := czz BK195.out 3; have hfz59_0 := fz BK195.out 0; have hfz59_1 := fz BK195.out 1; have hfz59_2 := fz BK195.out 2; have hfz59_3 := fz BK195.out 3))
    go_meet
    case rel => exact ⟨_, (y203), (.slice Ao55 y203.length co55), H', ⟨by first | omega | exact Nat.le_refl _⟩, ⟨by (with_reducible repeat (first | apply Kd.R_alloc | apply Kd.R_drewN | apply Kd.R_drew)); exact Kd.R_mono (Kd.R_far (p := ⟨gb195, 0, none⟩) (Kd.R_types HO205.out BK195.out (by decide)) (fun _ hk => hk.2) (.slice Ao55 y203.length co55)) (fun _ hk => trivial)⟩, ⟨by (with_reducible repeat (first | refine blk_drewN ?_ _ | refine blk_drew ?_ | refine blk_alloc ?_ _)); refine blk_far ?_ NB184_195.out _; (with_reducible repeat (first | refine blk_drewN ?_ _ | refine blk_drew ?_ | refine blk_alloc ?_ _)); exact BK184.out⟩, ⟨by (with_reducible repeat (first | refine blk_drewN ?_ _ | refine blk_drew ?_ | refine blk_alloc ?_ _)); refine blk_far ?_ NB185_195.out _; (with_reducible repeat (first | refine blk_drewN ?_ _ | refine blk_drew ?_ | refine blk_alloc ?_ _)); exact BK185.out⟩, ⟨by (with_reducible repeat (first | refine blk_drewN ?_ _ | refine blk_drew ?_ | refine blk_alloc ?_ _)); refine blk_far ?_ NB186_195.out _; (with_reducible repeat (first | refine blk_drewN ?_ _ | refine blk_drew ?_ | refine blk_alloc ?_ _)); exact BK186.out⟩, ⟨by (with_reducible repeat (first | refine blk_drewN ?_ _ | refine blk_drew ?_ | refine blk_alloc ?_ _)); refine blk_far ?_ NB194_195.out _; (with_reducible repeat (first | refine blk_drewN ?_ _ | refine blk_drew ?_ | refine blk_alloc ?_ _)); exact BK194.out⟩, ⟨by (with_reducible repeat (first | refine blk_drewN ?_ _ | refine blk_drew ?_ | refine blk_alloc ?_ _)); refine blk_put (cs := #[.slice A0_0 l0_0.length c0_0, .int .i64 a0_1, .int .i64 a0_2, .slice A0_3 l0_3.length c0_3]) ?_ 0 _ rfl; (with_reducible repeat (first | refine blk_drewN ?_ _ | refine blk_drew ?_ | refine blk_alloc ?_ _)); exact BK195.out⟩, ⟨by repeat (first | (with_reducible first | exact HB.out | apply below_alloc | apply pw_below_drewN | apply below_drew1 | refine below_set ?_ GE184.out | refine below_set ?_ GE185.out | refine below_set ?_ GE186.out | refine below_set ?_ GE194.out | refine below_set ?_ GE195.out) | exact HB.out)⟩⟩
   ·rw [if_neg c46] at H
    exact absurd H (by simp)
  case rest => as_aux_lemma =>
   clear HC13
   try clear p2
   try clear c3
   try clear c4
   try clear c5
   try clear c38
   try clear c39
   try clear c44
   try clear c45
   try clear c46
   try clear c49
   try clear c50
   try clear c51
   try clear c52
   try clear c56
   try clear c57
   try clear c58
   try clear hcz40_0 hcz40_1 hcz40_2
   try clear hcz53_0 hcz53_1 hcz53_2 hcz53_3
   try clear hcz59_0 hcz59_1 hcz59_2 hcz59_3
   try clear hfz40_0 hfz40_1 hfz40_2
   try clear hfz53_0 hfz53_1 hfz53_2 hfz53_3
   try clear hfz59_0 hfz59_1 hfz59_2 hfz59_3
   try clear HO_196000
   try clear BK184
   try clear BK185
   try clear BK186
   try clear BK194
   try clear BK195
   try clear HB
   obtain ⟨kq, x196000_12, u196000, HA, HJ12, HO_196000, BK184, BK185, BK186, BK194, BK195, HB⟩ := hcut
   cases kq with
   | zero => exact absurd HA.out (by simp [saronlaw03_RaspEasier.j0])
   | succ kj12 =>
    have H := HA.out
    clear HA
    simp only [saronlaw03_RaspEasier.j0] at H
    replace H := Option.bind_eq_some_iff.mp H
    obtain ⟨t206, A600, H⟩ := H
    replace H : (if 0 ≤ t206 then (if t206 < (l0_0.length : Int) then ((saronref00_Draw.f ((rd_T57 l0_0 t206).f0.f0) ((rd_T57 l0_0 t206).f0.f1) a2_1).bind fun t209 => ((saronref00_Band.f t209 ((rd_T57 l0_0 t206).f0.f1)).bind fun bt210 => ((saronref00_Draw.f bt210.1 bt210.2 a2_2).bind fun t212 => ((saronref00_Band.f t209 t212).bind fun bt213 => (if t206 < (x196000_12.length : Int) then ((rasp_Next.f l0_0 t198 t199 l0_3 t189 t190).bind fun bt216 => ((rasp_Next.f (x196000_12.set (t206 : Int).toNat (⟨(⟨bt213.1, bt213.2⟩ : S24), (rd_T57 l0_0 t206).f1⟩ : S57)) a0_1 a0_2 l0_3 t189 t190).bind fun bt219 => (saronlaw03_RaspEasier.j1 kj12 t192 t193 bt216.2.1 bt216.2.2 bt219.2.1 bt219.2.2))) else (none)))))) else (none)) else (none)) = some r := H
    have A60 := Aside0.mk A600
    clear A600
    by_cases c61 : 0 ≤ t206
    ·rw [if_pos c61] at H
     have c61b0 : decide (0 ≤ t206) = true := decide_eq_true c61
     clear c61
     by_cases c62 : t206 < (l0_0.length : Int)
     ·rw [if_pos c62] at H
      have c62b0 : decide (t206 < (l0_0.length : Int)) = true := decide_eq_true c62
      clear c62
      replace H := Option.bind_eq_some_iff.mp H
      obtain ⟨t209, A630, H⟩ := H
      replace H : ((saronref00_Band.f t209 ((rd_T57 l0_0 t206).f0.f1)).bind fun bt210 => ((saronref00_Draw.f bt210.1 bt210.2 a2_2).bind fun t212 => ((saronref00_Band.f t209 t212).bind fun bt213 => (if t206 < (x196000_12.length : Int) then ((rasp_Next.f l0_0 t198 t199 l0_3 t189 t190).bind fun bt216 => ((rasp_Next.f (x196000_12.set (t206 : Int).toNat (⟨(⟨bt213.1, bt213.2⟩ : S24), (rd_T57 l0_0 t206).f1⟩ : S57)) a0_1 a0_2 l0_3 t189 t190).bind fun bt219 => (saronlaw03_RaspEasier.j1 kj12 t192 t193 bt216.2.1 bt216.2.2 bt219.2.1 bt219.2.2))) else (none))))) = some r := H
      have A63 := Aside0.mk A630
      clear A630
      replace H := Option.bind_eq_some_iff.mp H
      obtain ⟨⟨t210, t211⟩, A640, H⟩ := H
      replace H : ((saronref00_Draw.f t210 t211 a2_2).bind fun t212 => ((saronref00_Band.f t209 t212).bind fun bt213 => (if t206 < (x196000_12.length : Int) then ((rasp_Next.f l0_0 t198 t199 l0_3 t189 t190).bind fun bt216 => ((rasp_Next.f (x196000_12.set (t206 : Int).toNat (⟨(⟨bt213.1, bt213.2⟩ : S24), (rd_T57 l0_0 t206).f1⟩ : S57)) a0_1 a0_2 l0_3 t189 t190).bind fun bt219 => (saronlaw03_RaspEasier.j1 kj12 t192 t193 bt216.2.1 bt216.2.2 bt219.2.1 bt219.2.2))) else (none)))) = some r := H
      have A64 := Aside0.mk A640
      clear A640
      replace H := Option.bind_eq_some_iff.mp H
      obtain ⟨t212, A650, H⟩ := H
      replace H : ((saronref00_Band.f t209 t212).bind fun bt213 => (if t206 < (x196000_12.length : Int) then ((rasp_Next.f l0_0 t198 t199 l0_3 t189 t190).bind fun bt216 => ((rasp_Next.f (x196000_12.set (t206 : Int).toNat (⟨(⟨bt213.1, bt213.2⟩ : S24), (rd_T57 l0_0 t206).f1⟩ : S57)) a0_1 a0_2 l0_3 t189 t190).bind fun bt219 => (saronlaw03_RaspEasier.j1 kj12 t192 t193 bt216.2.1 bt216.2.2 bt219.2.1 bt219.2.2))) else (none))) = some r := H
      have A65 := Aside0.mk A650
      clear A650
      replace H := Option.bind_eq_some_iff.mp H
      obtain ⟨⟨t213, t214⟩, A660, H⟩ := H
      replace H : (if t206 < (x196000_12.length : Int) then ((rasp_Next.f l0_0 t198 t199 l0_3 t189 t190).bind fun bt216 => ((rasp_Next.f (x196000_12.set (t206 : Int).toNat (⟨(⟨t213, t214⟩ : S24), (rd_T57 l0_0 t206).f1⟩ : S57)) a0_1 a0_2 l0_3 t189 t190).bind fun bt219 => (saronlaw03_RaspEasier.j1 kj12 t192 t193 bt216.2.1 bt216.2.2 bt219.2.1 bt219.2.2))) else (none)) = some r := H
      have A66 := Aside0.mk A660
      clear A660
      by_cases c67 : t206 < (x196000_12.length : Int)
      ·rw [if_pos c67] at H
       have c67b0 : decide (t206 < (x196000_12.length : Int)) = true := decide_eq_true c67
       clear c67
       obtain ⟨y215, hy215⟩ : ∃ y_ : List (S57), y_ = (x196000_12.set (t206 : Int).toNat (⟨(⟨t213, t214⟩ : S24), (rd_T57 l0_0 t206).f1⟩ : S57)) := ⟨_, rfl⟩
       replace H : ((rasp_Next.f l0_0 t198 t199 l0_3 t189 t190).bind fun bt216 => ((rasp_Next.f y215 a0_1 a0_2 l0_3 t189 t190).bind fun bt219 => (saronlaw03_RaspEasier.j1 kj12 t192 t193 bt216.2.1 bt216.2.2 bt219.2.1 bt219.2.2))) = some r := by first | (rw [hy215]; with_reducible exact H) | (have H2_ := (Option.bind_some _ _).symm.trans H; rw [hy215]; with_reducible exact H2_) | (have H2_ := (Option.bind_some _ _).symm.trans H; with_reducible exact H2_) | with_reducible exact H | (rw [hy215]; exact H) | exact H
       have Ny215 := Aside0.mk hy215
       clear hy215
       replace H := Option.bind_eq_some_iff.mp H
       obtain ⟨⟨t216, t217, t218⟩, A690, H⟩ := H
       replace H : ((rasp_Next.f y215 a0_1 a0_2 l0_3 t189 t190).bind fun bt219 => (saronlaw03_RaspEasier.j1 kj12 t192 t193 t217 t218 bt219.2.1 bt219.2.2)) = some r := H
       have A69 := Aside0.mk A690
       clear A690
       have HC70 := Aside0.mk H
       clear H
       have hnb71 := NB186_184.out
       have hnc71 := NB184_186.out
       have hnb72 := NB186_185.out
       have hnc72 := NB185_186.out
       have hnb73 := NB186_194.out
       have hnc73 := NB194_186.out
       have hnb74 := NB186_195.out
       have hnc74 := NB195_186.out
       have hcz75_0 := czz BK186.out 0
       have hcz75_1 := czz BK186.out 1
       have hcz75_2 := czz BK186.out 2
       have hfz75_0 := fz BK186.out 0
       have hfz75_1 := fz BK186.out 1
       have hfz75_2 := fz BK186.out 2
       have hnb76 := NB184_185.out
       have hnc76 := NB185_184.out
       have hnb77 := NB184_194.out
       have hnc77 := NB194_184.out
       have hnb78 := NB184_195.out
       have hnc78 := NB195_184.out
       have hcz79_0 := czz BK184.out 0
       have hcz79_1 := czz BK184.out 1
       have hcz79_2 := czz BK184.out 2
       have hcz79_3 := czz BK184.out 3
       have hfz79_0 := fz BK184.out 0
       have hfz79_1 := fz BK184.out 1
       have hfz79_2 := fz BK184.out 2
       have hfz79_3 := fz BK184.out 3
       try go_wp2_with (first | ((with_reducible refine gate_callee (f := 45) rfl ?_); refine goesL_ (some 72) rfl rfl Tryd.func45 (by kernel_rfl) rfl #[.int .i64 a2_0, .int .i64 (l0_0.length : Int)] rfl TM ?_; (with_reducible refine (saronref00_Turn.calls a2_0 (l0_0.length : Int) t206 _ A60.out).mono ?_); rintro e w' ⟨rfl, ⟨nd, rfl⟩⟩; refine ⟨_, rfl, ?_⟩; (try (rw [drewN_self wc]; generalize hq_ : World.drewN wc _ = wc; have n0_ : Aside0 (Kd.R k57 57 wc w.heap.size (fun _ => True) u196000 x196000_12) := ⟨by rw [← hq_]; exact (TRo HO_196000.out)⟩; have n1_ : Aside0 (wc.heap[gb184]? = some (.cells #[.slice A0_0 l0_0.length c0_0, .int .i64 a0_1, .int .i64 a0_2, .slice A0_3 l0_3.length c0_3] 27 (0, 0))) := ⟨by rw [← hq_]; exact (by (with_reducible repeat (first | refine blk_drewN ?_ _ | refine blk_drew ?_ | refine blk_alloc ?_ _)); exact BK184.out)⟩; have n2_ : Aside0 (wc.heap[gb185]? = some (.cells #[.int .i64 a1_0, .int .i64 a1_1] 28 (0, 0))) := ⟨by rw [← hq_]; exact (by (with_reducible repeat (first | refine blk_drewN ?_ _ | refine blk_drew ?_ | refine blk_alloc ?_ _)); exact BK185.out)⟩; have n3_ : Aside0 (wc.heap[gb186]? = some (.cells #[.int .i64 a2_0, .int .i64 a2_1, .int .i64 a2_2] 65 (0, 0))) := ⟨by rw [← hq_]; exact (by (with_reducible repeat (first | refine blk_drewN ?_ _ | refine blk_drew ?_ | refine blk_alloc ?_ _)); exact BK186.out)⟩; have n4_ : Aside0 (wc.heap[gb194]? = some (.cells #[.slice A0_0 l0_0.length c0_0, .int .i64 t198, .int .i64 t199, .slice A0_3 l0_3.length c0_3] 27 (0, 0))) := ⟨by rw [← hq_]; exact (by (with_reducible repeat (first | refine blk_drewN ?_ _ | refine blk_drew ?_ | refine blk_alloc ?_ _)); exact BK194.out)⟩; have n5_ : Aside0 (wc.heap[gb195]? = some (.cells #[u196000, .int .i64 a0_1, .int .i64 a0_2, .slice A0_3 l0_3.length c0_3] 27 (0, 0))) := ⟨by rw [← hq_]; exact (by (with_reducible repeat (first | refine blk_drewN ?_ _ | refine blk_drew ?_ | refine blk_alloc ?_ _)); exact BK195.out)⟩; have n6_ : Aside0 (Below w.heap.size w wc) := ⟨by rw [← hq_]; exact (by repeat (first | (with_reducible first | exact HB.out | apply below_alloc | apply pw_below_drewN | apply below_drew1 | refine below_set ?_ GE184.out | refine below_set ?_ GE185.out | refine below_set ?_ GE186.out | refine below_set ?_ GE194.out | refine below_set ?_ GE195.out) | exact HB.out))⟩; clear HO_196000 BK184 BK185 BK186 BK194 BK195 HB hq_; have HO_196000 := n0_; have BK184 := n1_; have BK185 := n2_; have BK186 := n3_; have BK194 := n4_; have BK195 := n5_; have HB := n6_; clear n0_ n1_ n2_ n3_ n4_ n5_ n6_)); have hczq184_0 : wc.cell? ⟨gb184, 0, none⟩ = some (.slice A0_0 l0_0.length c0_0) := czz BK184.out 0; have hfzq184_0 := fz BK184.out 0; have hczq184_1 : wc.cell? ⟨gb184, 1, none⟩ = some (.int .i64 a0_1) := czz BK184.out 1; have hfzq184_1 := fz BK184.out 1; have hczq184_2 : wc.cell? ⟨gb184, 2, none⟩ = some (.int .i64 a0_2) := czz BK184.out 2; have hfzq184_2 := fz BK184.out 2; have hczq184_3 : wc.cell? ⟨gb184, 3, none⟩ = some (.slice A0_3 l0_3.length c0_3) := czz BK184.out 3; have hfzq184_3 := fz BK184.out 3; have hczq185_0 : wc.cell? ⟨gb185, 0, none⟩ = some (.int .i64 a1_0) := czz BK185.out 0; have hfzq185_0 := fz BK185.out 0; have hczq185_1 : wc.cell? ⟨gb185, 1, none⟩ = some (.int .i64 a1_1) := czz BK185.out 1; have hfzq185_1 := fz BK185.out 1; have hczq186_0 : wc.cell? ⟨gb186, 0, none⟩ = some (.int .i64 a2_0) := czz BK186.out 0; have hfzq186_0 := fz BK186.out 0; have hczq186_1 : wc.cell? ⟨gb186, 1, none⟩ = some (.int .i64 a2_1) := czz BK186.out 1; have hfzq186_1 := fz BK186.out 1; have hczq186_2 : wc.cell? ⟨gb186, 2, none⟩ = some (.int .i64 a2_2) := czz BK186.out 2; have hfzq186_2 := fz BK186.out 2; have hczq194_0 : wc.cell? ⟨gb194, 0, none⟩ = some (.slice A0_0 l0_0.length c0_0) := czz BK194.out 0; have hfzq194_0 := fz BK194.out 0; have hczq194_1 : wc.cell? ⟨gb194, 1, none⟩ = some (.int .i64 t198) := czz BK194.out 1; have hfzq194_1 := fz BK194.out 1; have hczq194_2 : wc.cell? ⟨gb194, 2, none⟩ = some (.int .i64 t199) := czz BK194.out 2; have hfzq194_2 := fz BK194.out 2; have hczq194_3 : wc.cell? ⟨gb194, 3, none⟩ = some (.slice A0_3 l0_3.length c0_3) := czz BK194.out 3; have hfzq194_3 := fz BK194.out 3; have hczq195_0 : wc.cell? ⟨gb195, 0, none⟩ = some (u196000) := czz BK195.out 0; have hfzq195_0 := fz BK195.out 0; have hczq195_1 : wc.cell? ⟨gb195, 1, none⟩ = some (.int .i64 a0_1) := czz BK195.out 1; have hfzq195_1 := fz BK195.out 1; have hczq195_2 : wc.cell? ⟨gb195, 2, none⟩ = some (.int .i64 a0_2) := czz BK195.out 2; have hfzq195_2 := fz BK195.out 2; have hczq195_3 : wc.cell? ⟨gb195, 3, none⟩ = some (.slice A0_3 l0_3.length c0_3) := czz BK195.out 3; have hfzq195_3 := fz BK195.out 3; have p207 : 0 ≤ (t206 : Int) := of_decide_eq_true TA; have q207 : t206 < (l0_0.length : Int) := of_decide_eq_true TA; obtain ⟨ad207, e207, hx207_0, hx207_1, hx207_2⟩ := at_T57 HR0_0.out t206 p207 q207; cases e207; replace hx207_0 := (HB.out.cell  (World.block_lt_of_cell? w _ hx207_0)).trans hx207_0; replace hx207_1 := (HB.out.cell  (World.block_lt_of_cell? w _ hx207_1)).trans hx207_1; replace hx207_2 := (HB.out.cell  (World.block_lt_of_cell? w _ hx207_2)).trans hx207_2; replace p207 := eq_true p207; replace q207 := eq_true q207) | ((with_reducible refine gate_dst (N := 16) rfl ?_); refine box_event ?hg (N := 16) ?hd (cs := #[.int .i64 0, .int .i64 0, .int .i64 0]) (t := 57) ?hr ?_; (case hd => rfl); (case hg => rfl); (case hr => exact TS); intro gb208 hg w80 hbox hb; have BK208 := Aside0.mk (hbox); have GW208 := Aside0.mk ((by rw [hg]; exact (below_size (by repeat (first | (with_reducible first | exact HB.out | apply below_alloc | apply pw_below_drewN | apply below_drew1 | refine below_set ?_ GE184.out | refine below_set ?_ GE185.out | refine below_set ?_ GE186.out | refine below_set ?_ GE194.out | refine below_set ?_ GE195.out) | exact HB.out))) : w.heap.size ≤ gb208)); have GE208 := Aside0.mk ((by rw [hg]; exact (below_size (by repeat (first | (with_reducible first | exact HB.out | apply below_alloc | apply pw_below_drewN | apply below_drew1 | refine below_set ?_ GE184.out | refine below_set ?_ GE185.out | refine below_set ?_ GE186.out | refine below_set ?_ GE194.out | refine below_set ?_ GE195.out) | exact HB.out))) : w.heap.size ≤ gb208)); have NB184_208 := Aside0.mk ((by rw [hg]; exact Nat.ne_of_lt (blk_lt (g := gb184) (o := .cells #[.slice (some ad207) l0_0.length c0_0, .int .i64 a0_1, .int .i64 a0_2, .slice A0_3 l0_3.length c0_3] 27 (0, 0)) (by (with_reducible repeat (first | refine blk_drewN ?_ _ | refine blk_drew ?_ | refine blk_alloc ?_ _)); exact BK184.out)) : gb184 ≠ gb208)); have NB208_184 := Aside0.mk ((by rw [hg]; exact Nat.ne_of_gt (blk_lt (g := gb184) (o := .cells #[.slice (some ad207) l0_0.length c0_0, .int .i64 a0_1, .int .i64 a0_2, .slice A0_3 l0_3.length c0_3] 27 (0, 0)) (by (with_reducible repeat (first | refine blk_drewN ?_ _ | refine blk_drew ?_ | refine blk_alloc ?_ _)); exact BK184.out)) : gb208 ≠ gb184)); have NB185_208 := Aside0.mk ((by rw [hg]; exact Nat.ne_of_lt (blk_lt (g := gb185) (o := .cells #[.int .i64 a1_0, .int .i64 a1_1] 28 (0, 0)) (by (with_reducible repeat (first | refine blk_drewN ?_ _ | refine blk_drew ?_ | refine blk_alloc ?_ _)); exact BK185.out)) : gb185 ≠ gb208)); have NB208_185 := Aside0.mk ((by rw [hg]; exact Nat.ne_of_gt (blk_lt (g := gb185) (o := .cells #[.int .i64 a1_0, .int .i64 a1_1] 28 (0, 0)) (by (with_reducible repeat (first | refine blk_drewN ?_ _ | refine blk_drew ?_ | refine blk_alloc ?_ _)); exact BK185.out)) : gb208 ≠ gb185)); have NB186_208 := Aside0.mk ((by rw [hg]; exact Nat.ne_of_lt (blk_lt (g := gb186) (o := .cells #[.int .i64 a2_0, .int .i64 a2_1, .int .i64 a2_2] 65 (0, 0)) (by (with_reducible repeat (first | refine blk_drewN ?_ _ | refine blk_drew ?_ | refine blk_alloc ?_ _)); exact BK186.out)) : gb186 ≠ gb208)); have NB208_186 := Aside0.mk ((by rw [hg]; exact Nat.ne_of_gt (blk_lt (g := gb186) (o := .cells #[.int .i64 a2_0, .int .i64 a2_1, .int .i64 a2_2] 65 (0, 0)) (by (with_reducible repeat (first | refine blk_drewN ?_ _ | refine blk_drew ?_ | refine blk_alloc ?_ _)); exact BK186.out)) : gb208 ≠ gb186)); have NB194_208 := Aside0.mk ((by rw [hg]; exact Nat.ne_of_lt (blk_lt (g := gb194) (o := .cells #[.slice (some ad207) l0_0.length c0_0, .int .i64 t198, .int .i64 t199, .slice A0_3 l0_3.length c0_3] 27 (0, 0)) (by (with_reducible repeat (first | refine blk_drewN ?_ _ | refine blk_drew ?_ | refine blk_alloc ?_ _)); exact BK194.out)) : gb194 ≠ gb208)); have NB208_194 := Aside0.mk ((by rw [hg]; exact Nat.ne_of_gt (blk_lt (g := gb194) (o := .cells #[.slice (some ad207) l0_0.length c0_0, .int .i64 t198, .int .i64 t199, .slice A0_3 l0_3.length c0_3] 27 (0, 0)) (by (with_reducible repeat (first | refine blk_drewN ?_ _ | refine blk_drew ?_ | refine blk_alloc ?_ _)); exact BK194.out)) : gb208 ≠ gb194)); have NB195_208 := Aside0.mk ((by rw [hg]; exact Nat.ne_of_lt (blk_lt (g := gb195) (o := .cells #[u196000, .int .i64 a0_1, .int .i64 a0_2, .slice A0_3 l0_3.length c0_3] 27 (0, 0)) (by (with_reducible repeat (first | refine blk_drewN ?_ _ | refine blk_drew ?_ | refine blk_alloc ?_ _)); exact BK195.out)) : gb195 ≠ gb208)); have NB208_195 := Aside0.mk ((by rw [hg]; exact Nat.ne_of_gt (blk_lt (g := gb195) (o := .cells #[u196000, .int .i64 a0_1, .int .i64 a0_2, .slice A0_3 l0_3.length c0_3] 27 (0, 0)) (by (with_reducible repeat (first | refine blk_drewN ?_ _ | refine blk_drew ?_ | refine blk_alloc ?_ _)); exact BK195.out)) : gb208 ≠ gb195)); replace HO_196000 := Aside0.mk (Kd.R_below (Kd.R_elderB (TRo HO_196000.out) gb208 (Nat.le_of_eq hg.symm)) hb); replace BK184 := Aside0.mk (blk_below (g := gb184) (o := .cells #[.slice (some ad207) l0_0.length c0_0, .int .i64 a0_1, .int .i64 a0_2, .slice A0_3 l0_3.length c0_3] 27 (0, 0)) (by (with_reducible repeat (first | refine blk_drewN ?_ _ | refine blk_drew ?_ | refine blk_alloc ?_ _)); exact BK184.out) hb); replace BK185 := Aside0.mk (blk_below (g := gb185) (o := .cells #[.int .i64 a1_0, .int .i64 a1_1] 28 (0, 0)) (by (with_reducible repeat (first | refine blk_drewN ?_ _ | refine blk_drew ?_ | refine blk_alloc ?_ _)); exact BK185.out) hb); replace BK186 := Aside0.mk (blk_below (g := gb186) (o := .cells #[.int .i64 a2_0, .int .i64 a2_1, .int .i64 a2_2] 65 (0, 0)) (by (with_reducible repeat (first | refine blk_drewN ?_ _ | refine blk_drew ?_ | refine blk_alloc ?_ _)); exact BK186.out) hb); replace BK194 := Aside0.mk (blk_below (g := gb194) (o := .cells #[.slice (some ad207) l0_0.length c0_0, .int .i64 t198, .int .i64 t199, .slice A0_3 l0_3.length c0_3] 27 (0, 0)) (by (with_reducible repeat (first | refine blk_drewN ?_ _ | refine blk_drew ?_ | refine blk_alloc ?_ _)); exact BK194.out) hb); replace BK195 := Aside0.mk (blk_below (g := gb195) (o := .cells #[u196000, .int .i64 a0_1, .int .i64 a0_2, .slice A0_3 l0_3.length c0_3] 27 (0, 0)) (by (with_reducible repeat (first | refine blk_drewN ?_ _ | refine blk_drew ?_ | refine blk_alloc ?_ _)); exact BK195.out) hb); replace HB := Aside0.mk (below_step (by repeat (first | (with_reducible first | exact HB.out | apply below_alloc | apply pw_below_drewN | apply below_drew1 | refine below_set ?_ GE184.out | refine below_set ?_ GE185.out | refine below_set ?_ GE186.out | refine below_set ?_ GE194.out | refine below_set ?_ GE195.out) | exact HB.out)) hb); clear hb hbox hg; have hnb81 := NB208_184.out; have hnc81 := NB184_208.out; have hnb82 := NB208_185.out; have hnc82 := NB185_208.out; have hnb83 := NB208_186.out; have hnc83 := NB186_208.out; have hnb84 := NB208_194.out; have hnc84 := NB194_208.out; have hnb85 := NB208_195.out; have hnc85 := NB195_208.out; have hcz86_0 := czz BK208.out 0; have hcz86_1 := czz BK208.out 1; have hcz86_2 := czz BK208.out 2; have hfz86_0 := fz BK208.out 0; have hfz86_1 := fz BK208.out 1; have hfz86_2 := fz BK208.out 2; have hcz87_0 := czz BK186.out 0; have hcz87_1 := czz BK186.out 1; have hcz87_2 := czz BK186.out 2; have hfz87_0 := fz BK186.out 0; have hfz87_1 := fz BK186.out 1; have hfz87_2 := fz BK186.out 2) | ((with_reducible refine gate_callee (f := 41) rfl ?_); refine goesL_ (some 82) rfl rfl Tryd.func41 (by kernel_rfl) rfl #[.agg #[.int .i64 ((rd_T57 l0_0 t206).f0.f0), .int .i64 ((rd_T57 l0_0 t206).f0.f1)], .int .i64 a2_1] rfl TM ?_; (with_reducible refine (saronref00_Draw.calls ((rd_T57 l0_0 t206).f0.f0) ((rd_T57 l0_0 t206).f0.f1) a2_1 t209 _ A63.out).mono ?_); rintro e w88 ⟨rfl, hb⟩; refine ⟨_, rfl, ?_⟩; replace HO_196000 := Aside0.mk (Kd.R_below (by (with_reducible repeat (first | apply Kd.R_alloc | apply Kd.R_drewN | apply Kd.R_drew)); exact (Kd.R_mono (Kd.R_far (p := ⟨gb208, 2, none⟩) (Kd.R_far (p := ⟨gb208, 1, none⟩) (Kd.R_far (p := ⟨gb208, 0, none⟩) (Kd.R_mono HO_196000.out (fun k_ hk => (⟨hk, hk.2⟩ : _ ∧ k_ ≠ gb208))) (fun _ hk => hk.2) (.int .i64 ((rd_T57 l0_0 t206).f0.f0))) (fun _ hk => hk.2) (.int .i64 ((rd_T57 l0_0 t206).f0.f1))) (fun _ hk => hk.2) (.int .i64 ((rd_T57 l0_0 t206).f1))) (fun _ h_ => h_.1))) hb); replace BK184 := Aside0.mk (blk_below (g := gb184) (o := .cells #[.slice (some ad207) l0_0.length c0_0, .int .i64 a0_1, .int .i64 a0_2, .slice A0_3 l0_3.length c0_3] 27 (0, 0)) (by (with_reducible repeat (first | refine blk_drewN ?_ _ | refine blk_drew ?_ | refine blk_alloc ?_ _)); refine blk_far ?_ NB184_208.out _; (with_reducible repeat (first | refine blk_drewN ?_ _ | refine blk_drew ?_ | refine blk_alloc ?_ _)); refine blk_far ?_ NB184_208.out _; (with_reducible repeat (first | refine blk_drewN ?_ _ | refine blk_drew ?_ | refine blk_alloc ?_ _)); refine blk_far ?_ NB184_208.out _; (with_reducible repeat (first | refine blk_drewN ?_ _ | refine blk_drew ?_ | refine blk_alloc ?_ _)); exact BK184.out) hb); replace BK185 := Aside0.mk (blk_below (g := gb185) (o := .cells #[.int .i64 a1_0, .int .i64 a1_1] 28 (0, 0)) (by (with_reducible repeat (first | refine blk_drewN ?_ _ | refine blk_drew ?_ | refine blk_alloc ?_ _)); refine blk_far ?_ NB185_208.out _; (with_reducible repeat (first | refine blk_drewN ?_ _ | refine blk_drew ?_ | refine blk_alloc ?_ _)); refine blk_far ?_ NB185_208.out _; (with_reducible repeat (first | refine blk_drewN ?_ _ | refine blk_drew ?_ | refine blk_alloc ?_ _)); refine blk_far ?_ NB185_208.out _; (with_reducible repeat (first | refine blk_drewN ?_ _ | refine blk_drew ?_ | refine blk_alloc ?_ _)); exact BK185.out) hb); replace BK186 := Aside0.mk (blk_below (g := gb186) (o := .cells #[.int .i64 a2_0, .int .i64 a2_1, .int .i64 a2_2] 65 (0, 0)) (by (with_reducible repeat (first | refine blk_drewN ?_ _ | refine blk_drew ?_ | refine blk_alloc ?_ _)); refine blk_far ?_ NB186_208.out _; (with_reducible repeat (first | refine blk_drewN ?_ _ | refine blk_drew ?_ | refine blk_alloc ?_ _)); refine blk_far ?_ NB186_208.out _; (with_reducible repeat (first | refine blk_drewN ?_ _ | refine blk_drew ?_ | refine blk_alloc ?_ _)); refine blk_far ?_ NB186_208.out _; (with_reducible repeat (first | refine blk_drewN ?_ _ | refine blk_drew ?_ | refine blk_alloc ?_ _)); exact BK186.out) hb); replace BK194 := Aside0.mk (blk_below (g := gb194) (o := .cells #[.slice (some ad207) l0_0.length c0_0, .int .i64 t198, .int .i64 t199, .slice A0_3 l0_3.length c0_3] 27 (0, 0)) (by (with_reducible repeat (first | refine blk_drewN ?_ _ | refine blk_drew ?_ | refine blk_alloc ?_ _)); refine blk_far ?_ NB194_208.out _; (with_reducible repeat (first | refine blk_drewN ?_ _ | refine blk_drew ?_ | refine blk_alloc ?_ _)); refine blk_far ?_ NB194_208.out _; (with_reducible repeat (first | refine blk_drewN ?_ _ | refine blk_drew ?_ | refine blk_alloc ?_ _)); refine blk_far ?_ NB194_208.out _; (with_reducible repeat (first | refine blk_drewN ?_ _ | refine blk_drew ?_ | refine blk_alloc ?_ _)); exact BK194.out) hb); replace BK195 := Aside0.mk (blk_below (g := gb195) (o := .cells #[u196000, .int .i64 a0_1, .int .i64 a0_2, .slice A0_3 l0_3.length c0_3] 27 (0, 0)) (by (with_reducible repeat (first | refine blk_drewN ?_ _ | refine blk_drew ?_ | refine blk_alloc ?_ _)); refine blk_far ?_ NB195_208.out _; (with_reducible repeat (first | refine blk_drewN ?_ _ | refine blk_drew ?_ | refine blk_alloc ?_ _)); refine blk_far ?_ NB195_208.out _; (with_reducible repeat (first | refine blk_drewN ?_ _ | refine blk_drew ?_ | refine blk_alloc ?_ _)); refine blk_far ?_ NB195_208.out _; (with_reducible repeat (first | refine blk_drewN ?_ _ | refine blk_drew ?_ | refine blk_alloc ?_ _)); exact BK195.out) hb); replace BK208 := Aside0.mk (blk_below (g := gb208) (o := .cells #[.int .i64 ((rd_T57 l0_0 t206).f0.f0), .int .i64 ((rd_T57 l0_0 t206).f0.f1), .int .i64 ((rd_T57 l0_0 t206).f1)] 57 (0, 0)) (by (with_reducible repeat (first | refine blk_drewN ?_ _ | refine blk_drew ?_ | refine blk_alloc ?_ _)); refine blk_put (cs := #[.int .i64 ((rd_T57 l0_0 t206).f0.f0), .int .i64 ((rd_T57 l0_0 t206).f0.f1), .int .i64 0]) ?_ 2 _ rfl; (with_reducible repeat (first | refine blk_drewN ?_ _ | refine blk_drew ?_ | refine blk_alloc ?_ _)); refine blk_put (cs := #[.int .i64 ((rd_T57 l0_0 t206).f0.f0), .int .i64 0, .int .i64 0]) ?_ 1 _ rfl; (with_reducible repeat (first | refine blk_drewN ?_ _ | refine blk_drew ?_ | refine blk_alloc ?_ _)); refine blk_put (cs := #[.int .i64 0, .int .i64 0, .int .i64 0]) ?_ 0 _ rfl; (with_reducible repeat (first | refine blk_drewN ?_ _ | refine blk_drew ?_ | refine blk_alloc ?_ _)); exact BK208.out) hb); replace HB := Aside0.mk (below_step (by repeat (first | (with_reducible first | exact HB.out | apply below_alloc | apply pw_below_drewN | apply below_drew1 | refine below_set ?_ GE184.out | refine below_set ?_ GE185.out | refine below_set ?_ GE186.out | refine below_set ?_ GE194.out | refine below_set ?_ GE195.out | refine below_set ?_ GE208.out) | exact HB.out)) hb); (try clear hb); (try clear hb2); (try clear hk); (try clear hi)))
       have n0_ := Aside0.mk (Kd.R_drew HO_196000.out)
       have n1_ := Aside0.mk (blk_drew BK184.out)
       have n2_ := Aside0.mk (blk_drew BK185.out)
       have n3_ := Aside0.mk (blk_drew BK186.out)
       have n4_ := Aside0.mk (blk_drew BK194.out)
       have n5_ := Aside0.mk (blk_drew BK195.out)
       have n6_ := Aside0.mk (blk_drew BK208.out)
       have n7_ := Aside0.mk (below_drew1 HB.out)
       clear HO_196000
       clear BK184
       clear BK185
       clear BK186
       clear BK194
       clear BK195
       clear BK208
       clear HB
       have HO_196000 := n0_
       have BK184 := n1_
       have BK185 := n2_
       have BK186 := n3_
       have BK194 := n4_
       have BK195 := n5_
       have BK208 := n6_
       have HB := n7_
       clear n0_ n1_ n2_ n3_ n4_ n5_ n6_ n7_
       refine start_ (n := 12) (S := fun w' => w'.cell? ⟨gb208, 0, none⟩ = some (.int .i64 ((rd_T57 l0_0 t206).f0.f0)) ∧ w'.cell? ⟨gb208, 1, none⟩ = some (.int .i64 ((rd_T57 l0_0 t206).f0.f1)) ∧ w'.cell? ⟨gb208, 2, none⟩ = some (.int .i64 ((rd_T57 l0_0 t206).f1)) ∧ w'.cell? ⟨gb186, 0, none⟩ = some (.int .i64 a2_0) ∧ w'.cell? ⟨gb186, 1, none⟩ = some (.int .i64 a2_1) ∧ w'.cell? ⟨gb186, 2, none⟩ = some (.int .i64 a2_2)) (ds := [11]) (.replicate 12 false) (by kernel_rfl) rfl rfl ⟨czz BK208.out 0, czz BK208.out 1, czz BK208.out 2, czz BK186.out 0, czz BK186.out 1, czz BK186.out 2⟩ (fun hHeld => ?_); refine with_tabW saronlaw03_RaspEasier.tab12 saronlaw03_RaspEasier.bits12 (fun HT_ HW_ => ?_)
       generalize w88.drew = w89 at HO_196000 BK184 BK185 BK186 BK194 BK195 BK208 HB hHeld ⊢
       refine pT 0 83 (bt 12 1) (k := ?_)
       refine pT 1 84 (bt 12 3) (k := ?_)
       refine pT 2 85 (bt 12 7) (k := ?_)
       refine pT 3 86 (bt 12 15) (k := ?_)
       refine pT 6 89 (bt 12 79) (k := ?_)
       refine tT6 4 87 (bt 12 95) hHeld (k := ?_)
       refine tT6 7 90 (bt 12 223) hHeld (k := ?_)
       refine one_ (i := 5) (N := some 88) (bt 12 255) rfl rfl (one_of HT_.out (by kernel_rfl)) (by decide) (fun K hK => ?_)
       refine goes_ Tryd.func44 (by kernel_rfl) rfl #[.int .i64 t209, .int .i64 ((rd_T57 l0_0 t206).f0.f1)] (by rfl) rfl rfl TM ?_
       with_reducible refine (saronref00_Band.calls t209 ((rd_T57 l0_0 t206).f0.f1) t210 t211 _ A64.out).mono ?_
       rintro e w90 ⟨rfl, hb⟩
       refine ⟨_, rfl, ?_⟩
       have n0_ := Aside0.mk (Kd.R_below (TRo HO_196000.out) hb)
       have n1_ := Aside0.mk (blk_below (g := gb184) (o := .cells #[.slice (some ad207) l0_0.length c0_0, .int .i64 a0_1, .int .i64 a0_2, .slice A0_3 l0_3.length c0_3] 27 (0, 0)) (by (with_reducible repeat (first | refine blk_drewN ?_ _ | refine blk_drew ?_ | refine blk_alloc ?_ _)); exact BK184.out) hb)
       have n2_ := Aside0.mk (blk_below (g := gb185) (o := .cells #[.int .i64 a1_0, .int .i64 a1_1] 28 (0, 0)) (by (with_reducible repeat (first | refine blk_drewN ?_ _ | refine blk_drew ?_ | refine blk_alloc ?_ _)); exact BK185.out) hb)
       have n3_ := Aside0.mk (blk_below (g := gb186) (o := .cells #[.int .i64 a2_0, .int .i64 a2_1, .int .i64 a2_2] 65 (0, 0)) (by (with_reducible repeat (first | refine blk_drewN ?_ _ | refine blk_drew ?_ | refine blk_alloc ?_ _)); exact BK186.out) hb)
       have n4_ := Aside0.mk (blk_below (g := gb194) (o := .cells #[.slice (some ad207) l0_0.length c0_0, .int .i64 t198, .int .i64 t199, .slice A0_3 l0_3.length c0_3] 27 (0, 0)) (by (with_reducible repeat (first | refine blk_drewN ?_ _ | refine blk_drew ?_ | refine blk_alloc ?_ _)); exact BK194.out) hb)
       have n5_ := Aside0.mk (blk_below (g := gb195) (o := .cells #[u196000, .int .i64 a0_1, .int .i64 a0_2, .slice A0_3 l0_3.length c0_3] 27 (0, 0)) (by (with_reducible repeat (first | refine blk_drewN ?_ _ | refine blk_drew ?_ | refine blk_alloc ?_ _)); exact BK195.out) hb)
       have n6_ := Aside0.mk (blk_below (g := gb208) (o := .cells #[.int .i64 ((rd_T57 l0_0 t206).f0.f0), .int .i64 ((rd_T57 l0_0 t206).f0.f1), .int .i64 ((rd_T57 l0_0 t206).f1)] 57 (0, 0)) (by (with_reducible repeat (first | refine blk_drewN ?_ _ | refine blk_drew ?_ | refine blk_alloc ?_ _)); exact BK208.out) hb)
       have n7_ := Aside0.mk (below_step (by repeat (first | (with_reducible first | exact HB.out | apply below_alloc | apply pw_below_drewN | apply below_drew1 | refine below_set ?_ GE184.out | refine below_set ?_ GE185.out | refine below_set ?_ GE186.out | refine below_set ?_ GE194.out | refine below_set ?_ GE195.out | refine below_set ?_ GE208.out) | exact HB.out)) hb)
       clear HO_196000
       clear BK184
       clear BK185
       clear BK186
       clear BK194
       clear BK195
       clear BK208
       clear HB
       have HO_196000 := n0_
       have BK184 := n1_
       have BK185 := n2_
       have BK186 := n3_
       have BK194 := n4_
       have BK195 := n5_
       have BK208 := n6_
       have HB := n7_
       clear n0_ n1_ n2_ n3_ n4_ n5_ n6_ n7_
       (try clear hb)
       (try clear hb2)
       (try clear hk)
       (try clear hi)
       refine hK.out _ _ ⟨czz BK208.out 0, czz BK208.out 1, czz BK208.out 2, czz BK186.out 0, czz BK186.out 1, czz BK186.out 2⟩ (fun hHeld => ?_)
       clear hK K
       refine norm_ (a' := ?_) ?_ ?_
       rotate_left
       ·show Act.put _ (some 88) _ = _
        simp only [Act.put, lA, lZ, lS, i64_w, i32_w]
        rfl
       refine one_ (i := 8) (N := some 91) (bt 12 511) rfl rfl (one_of HT_.out (by kernel_rfl)) (by decide) (fun K hK => ?_)
       refine goes_ Tryd.func41 (by kernel_rfl) rfl #[.agg #[.int .i64 t210, .int .i64 t211], .int .i64 a2_2] (by rfl) rfl rfl TM ?_
       with_reducible refine (saronref00_Draw.calls t210 t211 a2_2 t212 _ A65.out).mono ?_
       rintro e w91 ⟨rfl, hb⟩
       refine ⟨_, rfl, ?_⟩
       have n0_ := Aside0.mk (Kd.R_below (TRo HO_196000.out) hb)
       have n1_ := Aside0.mk (blk_below (g := gb184) (o := .cells #[.slice (some ad207) l0_0.length c0_0, .int .i64 a0_1, .int .i64 a0_2, .slice A0_3 l0_3.length c0_3] 27 (0, 0)) (by (with_reducible repeat (first | refine blk_drewN ?_ _ | refine blk_drew ?_ | refine blk_alloc ?_ _)); exact BK184.out) hb)
       have n2_ := Aside0.mk (blk_below (g := gb185) (o := .cells #[.int .i64 a1_0, .int .i64 a1_1] 28 (0, 0)) (by (with_reducible repeat (first | refine blk_drewN ?_ _ | refine blk_drew ?_ | refine blk_alloc ?_ _)); exact BK185.out) hb)
       have n3_ := Aside0.mk (blk_below (g := gb186) (o := .cells #[.int .i64 a2_0, .int .i64 a2_1, .int .i64 a2_2] 65 (0, 0)) (by (with_reducible repeat (first | refine blk_drewN ?_ _ | refine blk_drew ?_ | refine blk_alloc ?_ _)); exact BK186.out) hb)
       have n4_ := Aside0.mk (blk_below (g := gb194) (o := .cells #[.slice (some ad207) l0_0.length c0_0, .int .i64 t198, .int .i64 t199, .slice A0_3 l0_3.length c0_3] 27 (0, 0)) (by (with_reducible repeat (first | refine blk_drewN ?_ _ | refine blk_drew ?_ | refine blk_alloc ?_ _)); exact BK194.out) hb)
       have n5_ := Aside0.mk (blk_below (g := gb195) (o := .cells #[u196000, .int .i64 a0_1, .int .i64 a0_2, .slice A0_3 l0_3.length c0_3] 27 (0, 0)) (by (with_reducible repeat (first | refine blk_drewN ?_ _ | refine blk_drew ?_ | refine blk_alloc ?_ _)); exact BK195.out) hb)
       have n6_ := Aside0.mk (blk_below (g := gb208) (o := .cells #[.int .i64 ((rd_T57 l0_0 t206).f0.f0), .int .i64 ((rd_T57 l0_0 t206).f0.f1), .int .i64 ((rd_T57 l0_0 t206).f1)] 57 (0, 0)) (by (with_reducible repeat (first | refine blk_drewN ?_ _ | refine blk_drew ?_ | refine blk_alloc ?_ _)); exact BK208.out) hb)
       have n7_ := Aside0.mk (below_step (by repeat (first | (with_reducible first | exact HB.out | apply below_alloc | apply pw_below_drewN | apply below_drew1 | refine below_set ?_ GE184.out | refine below_set ?_ GE185.out | refine below_set ?_ GE186.out | refine below_set ?_ GE194.out | refine below_set ?_ GE195.out | refine below_set ?_ GE208.out) | exact HB.out)) hb)
       clear HO_196000
       clear BK184
       clear BK185
       clear BK186
       clear BK194
       clear BK195
       clear BK208
       clear HB
       have HO_196000 := n0_
       have BK184 := n1_
       have BK185 := n2_
       have BK186 := n3_
       have BK194 := n4_
       have BK195 := n5_
       have BK208 := n6_
       have HB := n7_
       clear n0_ n1_ n2_ n3_ n4_ n5_ n6_ n7_
       (try clear hb)
       (try clear hb2)
       (try clear hk)
       (try clear hi)
       refine hK.out _ _ ⟨czz BK208.out 0, czz BK208.out 1, czz BK208.out 2, czz BK186.out 0, czz BK186.out 1, czz BK186.out 2⟩ (fun hHeld => ?_)
       clear hK K
       refine norm_ (a' := ?_) ?_ ?_
       rotate_left
       ·show Act.put _ (some 91) _ = _
        simp only [Act.put, lA, lZ, lS, i64_w, i32_w]
        rfl
       refine one_ (i := 9) (N := some 92) (bt 12 1023) rfl rfl (one_of HT_.out (by kernel_rfl)) (by decide) (fun K hK => ?_)
       refine goes_ Tryd.func44 (by kernel_rfl) rfl #[.int .i64 t209, .int .i64 t212] (by rfl) rfl rfl TM ?_
       with_reducible refine (saronref00_Band.calls t209 t212 t213 t214 _ A66.out).mono ?_
       rintro e w92 ⟨rfl, hb⟩
       refine ⟨_, rfl, ?_⟩
       have n0_ := Aside0.mk (Kd.R_below (TRo HO_196000.out) hb)
       have n1_ := Aside0.mk (blk_below (g := gb184) (o := .cells #[.slice (some ad207) l0_0.length c0_0, .int .i64 a0_1, .int .i64 a0_2, .slice A0_3 l0_3.length c0_3] 27 (0, 0)) (by (with_reducible repeat (first | refine blk_drewN ?_ _ | refine blk_drew ?_ | refine blk_alloc ?_ _)); exact BK184.out) hb)
       have n2_ := Aside0.mk (blk_below (g := gb185) (o := .cells #[.int .i64 a1_0, .int .i64 a1_1] 28 (0, 0)) (by (with_reducible repeat (first | refine blk_drewN ?_ _ | refine blk_drew ?_ | refine blk_alloc ?_ _)); exact BK185.out) hb)
       have n3_ := Aside0.mk (blk_below (g := gb186) (o := .cells #[.int .i64 a2_0, .int .i64 a2_1, .int .i64 a2_2] 65 (0, 0)) (by (with_reducible repeat (first | refine blk_drewN ?_ _ | refine blk_drew ?_ | refine blk_alloc ?_ _)); exact BK186.out) hb)
       have n4_ := Aside0.mk (blk_below (g := gb194) (o := .cells #[.slice (some ad207) l0_0.length c0_0, .int .i64 t198, .int .i64 t199, .slice A0_3 l0_3.length c0_3] 27 (0, 0)) (by (with_reducible repeat (first | refine blk_drewN ?_ _ | refine blk_drew ?_ | refine blk_alloc ?_ _)); exact BK194.out) hb)
       have n5_ := Aside0.mk (blk_below (g := gb195) (o := .cells #[u196000, .int .i64 a0_1, .int .i64 a0_2, .slice A0_3 l0_3.length c0_3] 27 (0, 0)) (by (with_reducible repeat (first | refine blk_drewN ?_ _ | refine blk_drew ?_ | refine blk_alloc ?_ _)); exact BK195.out) hb)
       have n6_ := Aside0.mk (blk_below (g := gb208) (o := .cells #[.int .i64 ((rd_T57 l0_0 t206).f0.f0), .int .i64 ((rd_T57 l0_0 t206).f0.f1), .int .i64 ((rd_T57 l0_0 t206).f1)] 57 (0, 0)) (by (with_reducible repeat (first | refine blk_drewN ?_ _ | refine blk_drew ?_ | refine blk_alloc ?_ _)); exact BK208.out) hb)
       have n7_ := Aside0.mk (below_step (by repeat (first | (with_reducible first | exact HB.out | apply below_alloc | apply pw_below_drewN | apply below_drew1 | refine below_set ?_ GE184.out | refine below_set ?_ GE185.out | refine below_set ?_ GE186.out | refine below_set ?_ GE194.out | refine below_set ?_ GE195.out | refine below_set ?_ GE208.out) | exact HB.out)) hb)
       clear HO_196000
       clear BK184
       clear BK185
       clear BK186
       clear BK194
       clear BK195
       clear BK208
       clear HB
       have HO_196000 := n0_
       have BK184 := n1_
       have BK185 := n2_
       have BK186 := n3_
       have BK194 := n4_
       have BK195 := n5_
       have BK208 := n6_
       have HB := n7_
       clear n0_ n1_ n2_ n3_ n4_ n5_ n6_ n7_
       (try clear hb)
       (try clear hb2)
       (try clear hk)
       (try clear hi)
       refine hK.out _ _ ⟨czz BK208.out 0, czz BK208.out 1, czz BK208.out 2, czz BK186.out 0, czz BK186.out 1, czz BK186.out 2⟩ (fun hHeld => ?_)
       clear hK K
       refine norm_ (a' := ?_) ?_ ?_
       rotate_left
       ·show Act.put _ (some 92) _ = _
        simp only [Act.put, lA, lZ, lS, i64_w, i32_w]
        rfl
       refine pT 10 93 (bt 12 2047) (k := ?_)
       refine last_ (i := 11) (N := none) (bt 12 4095) rfl rfl (one_of HT_.out (by kernel_rfl)) (by decide) (fun K hK => ?_)
       have hs93 : w92.cell? ⟨gb208, 0, none⟩ = some (.int .i64 ((rd_T57 l0_0 t206).f0.f0)) := czz BK208.out 0
       have hfs93 := fz BK208.out 0
       have hns93_0 := NB184_208.out
       have hns93_1 := NB185_208.out
       have hns93_2 := NB186_208.out
       have hns93_3 := NB194_208.out
       have hns93_4 := NB195_208.out
       have hms93_0 := NB208_184.out
       have hms93_1 := NB208_185.out
       have hms93_2 := NB208_186.out
       have hms93_3 := NB208_194.out
       have hms93_4 := NB208_195.out
       have hs94 : w92.cell? ⟨gb208, 1, none⟩ = some (.int .i64 ((rd_T57 l0_0 t206).f0.f1)) := czz BK208.out 1
       have hfs94 := fz BK208.out 1
       have hns94_0 := NB184_208.out
       have hns94_1 := NB185_208.out
       have hns94_2 := NB186_208.out
       have hns94_3 := NB194_208.out
       have hns94_4 := NB195_208.out
       have hms94_0 := NB208_184.out
       have hms94_1 := NB208_185.out
       have hms94_2 := NB208_186.out
       have hms94_3 := NB208_194.out
       have hms94_4 := NB208_195.out
       refine skip_ (w1 := ?_) (by rfl) rfl ?_ ?_
       rotate_left
       ·go_simp
        rfl
       refine hK.out _ _ ?_
       clear hK K
       refine done_ (done_of HT_.out (by kernel_rfl)) ?_
       have n0_ : Aside0 (Kd.R k57 57 ((w92.setCell ⟨gb208, 0, none⟩ (.int .i64 t213)).setCell ⟨gb208, 1, none⟩ (.int .i64 t214)) w.heap.size (fun k_ => k_ ≠ gb208) u196000 x196000_12) := ⟨by (with_reducible repeat (first | apply Kd.R_alloc | apply Kd.R_drewN | apply Kd.R_drew)); exact Kd.R_mono (Kd.R_far (p := ⟨gb208, 1, none⟩) (Kd.R_far (p := ⟨gb208, 0, none⟩) (Kd.R_mono HO_196000.out (fun k_ hk => (⟨hk, hk.2⟩ : _ ∧ k_ ≠ gb208))) (fun _ hk => hk.2) (.int .i64 t213)) (fun _ hk => hk.2) (.int .i64 t214)) (fun _ hk => hk.1.2)⟩
       have n1_ : Aside0 (((w92.setCell ⟨gb208, 0, none⟩ (.int .i64 t213)).setCell ⟨gb208, 1, none⟩ (.int .i64 t214)).heap[gb184]? = some (.cells #[.slice (some ad207) l0_0.length c0_0, .int .i64 a0_1, .int .i64 a0_2, .slice A0_3 l0_3.length c0_3] 27 (0, 0))) := ⟨by (with_reducible repeat (first | refine blk_drewN ?_ _ | refine blk_drew ?_ | refine blk_alloc ?_ _)); refine blk_far ?_ NB184_208.out _; (with_reducible repeat (first | refine blk_drewN ?_ _ | refine blk_drew ?_ | refine blk_alloc ?_ _)); refine blk_far ?_ NB184_208.out _; (with_reducible repeat (first | refine blk_drewN ?_ _ | refine blk_drew ?_ | refine blk_alloc ?_ _)); exact BK184.out⟩
       have n2_ : Aside0 (((w92.setCell ⟨gb208, 0, none⟩ (.int .i64 t213)).setCell ⟨gb208, 1, none⟩ (.int .i64 t214)).heap[gb185]? = some (.cells #[.int .i64 a1_0, .int .i64 a1_1] 28 (0, 0))) := ⟨by (with_reducible repeat (first | refine blk_drewN ?_ _ | refine blk_drew ?_ | refine blk_alloc ?_ _)); refine blk_far ?_ NB185_208.out _; (with_reducible repeat (first | refine blk_drewN ?_ _ | refine blk_drew ?_ | refine blk_alloc ?_ _)); refine blk_far ?_ NB185_208.out _; (with_reducible repeat (first | refine blk_drewN ?_ _ | refine blk_drew ?_ | refine blk_alloc ?_ _)); exact BK185.out⟩
       have n3_ : Aside0 (((w92.setCell ⟨gb208, 0, none⟩ (.int .i64 t213)).setCell ⟨gb208, 1, none⟩ (.int .i64 t214)).heap[gb186]? = some (.cells #[.int .i64 a2_0, .int .i64 a2_1, .int .i64 a2_2] 65 (0, 0))) := ⟨by (with_reducible repeat (first | refine blk_drewN ?_ _ | refine blk_drew ?_ | refine blk_alloc ?_ _)); refine blk_far ?_ NB186_208.out _; (with_reducible repeat (first | refine blk_drewN ?_ _ | refine blk_drew ?_ | refine blk_alloc ?_ _)); refine blk_far ?_ NB186_208.out _; (with_reducible repeat (first | refine blk_drewN ?_ _ | refine blk_drew ?_ | refine blk_alloc ?_ _)); exact BK186.out⟩
       have n4_ : Aside0 (((w92.setCell ⟨gb208, 0, none⟩ (.int .i64 t213)).setCell ⟨gb208, 1, none⟩ (.int .i64 t214)).heap[gb194]? = some (.cells #[.slice (some ad207) l0_0.length c0_0, .int .i64 t198, .int .i64 t199, .slice A0_3 l0_3.length c0_3] 27 (0, 0))) := ⟨by (with_reducible repeat (first | refine blk_drewN ?_ _ | refine blk_drew ?_ | refine blk_alloc ?_ _)); refine blk_far ?_ NB194_208.out _; (with_reducible repeat (first | refine blk_drewN ?_ _ | refine blk_drew ?_ | refine blk_alloc ?_ _)); refine blk_far ?_ NB194_208.out _; (with_reducible repeat (first | refine blk_drewN ?_ _ | refine blk_drew ?_ | refine blk_alloc ?_ _)); exact BK194.out⟩
       have n5_ : Aside0 (((w92.setCell ⟨gb208, 0, none⟩ (.int .i64 t213)).setCell ⟨gb208, 1, none⟩ (.int .i64 t214)).heap[gb195]? = some (.cells #[u196000, .int .i64 a0_1, .int .i64 a0_2, .slice A0_3 l0_3.length c0_3] 27 (0, 0))) := ⟨by (with_reducible repeat (first | refine blk_drewN ?_ _ | refine blk_drew ?_ | refine blk_alloc ?_ _)); refine blk_far ?_ NB195_208.out _; (with_reducible repeat (first | refine blk_drewN ?_ _ | refine blk_drew ?_ | refine blk_alloc ?_ _)); refine blk_far ?_ NB195_208.out _; (with_reducible repeat (first | refine blk_drewN ?_ _ | refine blk_drew ?_ | refine blk_alloc ?_ _)); exact BK195.out⟩
       have n6_ : Aside0 (((w92.setCell ⟨gb208, 0, none⟩ (.int .i64 t213)).setCell ⟨gb208, 1, none⟩ (.int .i64 t214)).heap[gb208]? = some (.cells #[.int .i64 t213, .int .i64 t214, .int .i64 ((rd_T57 l0_0 t206).f1)] 57 (0, 0))) := ⟨by (with_reducible repeat (first | refine blk_drewN ?_ _ | refine blk_drew ?_ | refine blk_alloc ?_ _)); refine blk_put (cs := #[.int .i64 t213, .int .i64 ((rd_T57 l0_0 t206).f0.f1), .int .i64 ((rd_T57 l0_0 t206).f1)]) ?_ 1 _ rfl; (with_reducible repeat (first | refine blk_drewN ?_ _ | refine blk_drew ?_ | refine blk_alloc ?_ _)); refine blk_put (cs := #[.int .i64 ((rd_T57 l0_0 t206).f0.f0), .int .i64 ((rd_T57 l0_0 t206).f0.f1), .int .i64 ((rd_T57 l0_0 t206).f1)]) ?_ 0 _ rfl; (with_reducible repeat (first | refine blk_drewN ?_ _ | refine blk_drew ?_ | refine blk_alloc ?_ _)); exact BK208.out⟩
       have n7_ : Aside0 (Below w.heap.size w ((w92.setCell ⟨gb208, 0, none⟩ (.int .i64 t213)).setCell ⟨gb208, 1, none⟩ (.int .i64 t214))) := ⟨by repeat (first | (with_reducible first | exact HB.out | apply below_alloc | apply pw_below_drewN | apply below_drew1 | refine below_set ?_ GE184.out | refine below_set ?_ GE185.out | refine below_set ?_ GE186.out | refine below_set ?_ GE194.out | refine below_set ?_ GE195.out | refine below_set ?_ GE208.out) | exact HB.out)⟩
       (try clear HO_196000)
       (try clear BK184)
       (try clear BK185)
       (try clear BK186)
       (try clear BK194)
       (try clear BK195)
       (try clear BK208)
       (try clear HB)
       generalize ((w92.setCell ⟨gb208, 0, none⟩ (.int .i64 t213)).setCell ⟨gb208, 1, none⟩ (.int .i64 t214)) = w95 at n0_ n1_ n2_ n3_ n4_ n5_ n6_ n7_ ⊢
       have HO_196000 := n0_
       have BK184 := n1_
       have BK185 := n2_
       have BK186 := n3_
       have BK194 := n4_
       have BK195 := n5_
       have BK208 := n6_
       have HB := n7_
       clear n0_ n1_ n2_ n3_ n4_ n5_ n6_ n7_
       have hnb96 := NB195_185.out
       have hnc96 := NB185_195.out
       have hnb97 := NB195_194.out
       have hnc97 := NB194_195.out
       have hcz98_0 := czz BK195.out 0
       have hcz98_1 := czz BK195.out 1
       have hcz98_2 := czz BK195.out 2
       have hcz98_3 := czz BK195.out 3
       have hfz98_0 := fz BK195.out 0
       have hfz98_1 := fz BK195.out 1
       have hfz98_2 := fz BK195.out 2
       have hfz98_3 := fz BK195.out 3
       have hcz99_0 := czz BK208.out 0
       have hcz99_1 := czz BK208.out 1
       have hcz99_2 := czz BK208.out 2
       have hfz99_0 := fz BK208.out 0
       have hfz99_1 := fz BK208.out 1
       have hfz99_2 := fz BK208.out 2
       have p68 : 0 ≤ (t206 : Int) := of_decide_eq_true TA
       have q68 : (t206 : Int) < ((x196000_12.length : Int) : Int) := of_decide_eq_true TA
       obtain ⟨go68, co68, eo68, gb68, gl68, cl68, HG68⟩ := Kd.R_form HO_196000.out (by omega)
       (first | cases eo68 | (injection eo68 with ea_ en_ ec_; (first | subst ea_ | (injection ea_ with ea_; subst ea_)); subst ec_; clear en_))
       have GB68 := Aside0.mk gb68
       have GG68 := Aside0.mk HG68
       clear gb68 gl68 HG68
       obtain ⟨ce68, hcl68, hM68, hcc68, hfr68⟩ := Kd.R_elem HO_196000.out z57 (t206 : Int) p68 q68
       obtain rfl := k57_openM hM68
       have hx68_0 : w95.cell? ⟨go68, (t206 : Int).toNat * 3, none⟩ = some (.int .i64 ((rd_T57 x196000_12 t206).f0.f0)) := hcc68 0 _ rfl
       have hx68_1 : w95.cell? ⟨go68, (t206 : Int).toNat * 3 + 1, none⟩ = some (.int .i64 ((rd_T57 x196000_12 t206).f0.f1)) := hcc68 1 _ rfl
       have hx68_2 : w95.cell? ⟨go68, (t206 : Int).toNat * 3 + 2, none⟩ = some (.int .i64 ((rd_T57 x196000_12 t206).f1)) := hcc68 2 _ rfl
       have hf68_0 : w95.frozen? ⟨go68, (t206 : Int).toNat * 3, none⟩ = false := hfr68 0
       have hf68_1 : w95.frozen? ⟨go68, (t206 : Int).toNat * 3 + 1, none⟩ = false := hfr68 1
       have hf68_2 : w95.frozen? ⟨go68, (t206 : Int).toNat * 3 + 2, none⟩ = false := hfr68 2
       clear hcl68 hcc68 hfr68 hM68
       replace p68 := eq_true p68
       replace q68 := eq_true q68
       have HX100 := Aside0.mk (show Kd.R k57 57 w95 w.heap.size (fun k_ => k_ ≠ gb208) (.slice (some ⟨go68, 0, none⟩) x196000_12.length co68) x196000_12 from (TRo HO_196000.out))
       obtain ⟨ce100, hcl100, hM100, hcc100, hfr100⟩ := Kd.R_elem HX100.out z57 (t206 : Int) (of_decide_eq_true TA) (by have h_ : (t206 : Int) < ((x196000_12.length : Int) : Int) := of_decide_eq_true TA; first | exact h_ | (have e_ := (Kd.R_reads' HO_196000.out).1; omega) | simpa using h_)
       obtain rfl := k57_openM hM100
       have HP100 := Kd.R_seg HX100.out (t206 : Int) (of_decide_eq_true TA) (by have h_ : (t206 : Int) < ((x196000_12.length : Int) : Int) := of_decide_eq_true TA; first | exact h_ | (have e_ := (Kd.R_reads' HO_196000.out).1; omega) | simpa using h_) (seg := [.int .i64 t213, .int .i64 t214, .int .i64 ((rd_T57 l0_0 t206).f1)]) (j := 0) hcl100 hcc100 (show 3 ≤ 3 from by decide) (x' := (⟨(⟨t213, t214⟩ : S24), (rd_T57 l0_0 t206).f1⟩ : S57)) (k57_mkM _ _ _ (⟨(⟨t213, t214⟩ : S24), (rd_T57 l0_0 t206).f1⟩ : S57) ) (fun _ hk => hk)
       have hx100_0 := hcc100 0 _ rfl
       (try simp only [show (k57).sz = 3 from rfl, Nat.mul_one, Nat.add_zero] at hx100_0)
       have hf100_0 := hfr100 0
       (try simp only [show (k57).sz = 3 from rfl, Nat.mul_one, Nat.add_zero] at hf100_0)
       have hx100_1 := hcc100 1 _ rfl
       (try simp only [show (k57).sz = 3 from rfl, Nat.mul_one, Nat.add_zero] at hx100_1)
       have hf100_1 := hfr100 1
       (try simp only [show (k57).sz = 3 from rfl, Nat.mul_one, Nat.add_zero] at hf100_1)
       have hx100_2 := hcc100 2 _ rfl
       (try simp only [show (k57).sz = 3 from rfl, Nat.mul_one, Nat.add_zero] at hx100_2)
       have hf100_2 := hfr100 2
       (try simp only [show (k57).sz = 3 from rfl, Nat.mul_one, Nat.add_zero] at hf100_2)
       clear hcl100 hcc100 hfr100 hM100
       go_upto_region 15 with (first | ((with_reducible refine gate_store (t := 57) (p := 98) rfl ?_); refine store_event (t := 57) (p := 98) (v := ?vo_w101) (w1 := (((w95.setCell ⟨go68, (t206 : Int).toNat * 3, none⟩ (.int .i64 t213)).setCell ⟨go68, (t206 : Int).toNat * 3 + 1, none⟩ (.int .i64 t214)).setCell ⟨go68, (t206 : Int).toNat * 3 + 2, none⟩ (.int .i64 ((rd_T57 l0_0 t206).f1)))) ?hg ?ho ?hn ?hr ?_; (case ho => rfl); (case hg => rfl); (case hn => rfl); (case hr => exact TS); intro w101 hw; have hg : w95.grownBy w101 (some go68) := (by rw [hw]; exact HP100.2); have hp_ : Kd.R k57 57 w101 w.heap.size (fun k_ => k_ ≠ gb208) (.slice (some ⟨go68, 0, none⟩) x196000_12.length co68) y215 := (by rw [hw, Ny215.out]; exact HP100.1); clear HP100; replace BK184 := Aside0.mk (blk_grown (g := gb184) (o := .cells #[.slice (some ad207) l0_0.length c0_0, .int .i64 a0_1, .int .i64 a0_2, .slice A0_3 l0_3.length c0_3] 27 (0, 0)) (by (with_reducible repeat (first | refine blk_drewN ?_ _ | refine blk_drew ?_ | refine blk_alloc ?_ _)); exact BK184.out) hg (Kd.R_ne HO_196000.out BK184.out (by decide))); replace BK185 := Aside0.mk (blk_grown (g := gb185) (o := .cells #[.int .i64 a1_0, .int .i64 a1_1] 28 (0, 0)) (by (with_reducible repeat (first | refine blk_drewN ?_ _ | refine blk_drew ?_ | refine blk_alloc ?_ _)); exact BK185.out) hg (Kd.R_ne HO_196000.out BK185.out (by decide))); replace BK186 := Aside0.mk (blk_grown (g := gb186) (o := .cells #[.int .i64 a2_0, .int .i64 a2_1, .int .i64 a2_2] 65 (0, 0)) (by (with_reducible repeat (first | refine blk_drewN ?_ _ | refine blk_drew ?_ | refine blk_alloc ?_ _)); exact BK186.out) hg (Kd.R_ne HO_196000.out BK186.out (by decide))); replace BK194 := Aside0.mk (blk_grown (g := gb194) (o := .cells #[.slice (some ad207) l0_0.length c0_0, .int .i64 t198, .int .i64 t199, .slice A0_3 l0_3.length c0_3] 27 (0, 0)) (by (with_reducible repeat (first | refine blk_drewN ?_ _ | refine blk_drew ?_ | refine blk_alloc ?_ _)); exact BK194.out) hg (Kd.R_ne HO_196000.out BK194.out (by decide))); replace BK195 := Aside0.mk (blk_grown (g := gb195) (o := .cells #[.slice (some ⟨go68, 0, none⟩) x196000_12.length co68, .int .i64 a0_1, .int .i64 a0_2, .slice A0_3 l0_3.length c0_3] 27 (0, 0)) (by (with_reducible repeat (first | refine blk_drewN ?_ _ | refine blk_drew ?_ | refine blk_alloc ?_ _)); exact BK195.out) hg (Kd.R_ne HO_196000.out BK195.out (by decide))); replace BK208 := Aside0.mk (blk_grown (g := gb208) (o := .cells #[.int .i64 t213, .int .i64 t214, .int .i64 ((rd_T57 l0_0 t206).f1)] 57 (0, 0)) (by (with_reducible repeat (first | refine blk_drewN ?_ _ | refine blk_drew ?_ | refine blk_alloc ?_ _)); exact BK208.out) hg (Kd.R_away HO_196000.out (fun _ hk => hk))); replace HO_196000 := Aside0.mk (hp_); replace HB := Aside0.mk ((by rw [hw]; exact below_set (below_set (below_set (HB.out) GB68.out) GB68.out) GB68.out : Below w.heap.size w w101)); clear hg hw hp_; have hnb102 := NB194_185.out; have hnc102 := NB185_194.out; have hcz103_0 := czz BK194.out 0; have hcz103_1 := czz BK194.out 1; have hcz103_2 := czz BK194.out 2; have hcz103_3 := czz BK194.out 3; have hfz103_0 := fz BK194.out 0; have hfz103_1 := fz BK194.out 1; have hfz103_2 := fz BK194.out 2; have hfz103_3 := fz BK194.out 3) | ((with_reducible refine gate_callee (f := 16) rfl ?_); refine goesL_ (some 103) rfl rfl Tryd.func16 (by kernel_rfl) rfl #[.agg #[.slice (some ad207) l0_0.length c0_0, .int .i64 t198, .int .i64 t199, .slice A0_3 l0_3.length c0_3], .int .i64 t189, .int .i64 t190] rfl TM ?_; (with_reducible refine (rasp_Next.calls _ _ l0_0 t198 t199 _ _ l0_3 t189 t190 t216 t217 t218 _ ?side1 ?side2 ?side3 ?side4 ?side5 A69.out).mono ?_); (case side1 => exact TC HR0_0.out); (case side2 => exact HC0_0.out); (case side3 => exact TC HR0_3.out); (case side4 => exact HC0_3.out); (case side5 => exact Glob.fr HG.out (Fr.of_below (by repeat (first | (with_reducible first | exact HB.out | apply below_alloc | apply pw_below_drewN | apply below_drew1 | refine below_set ?_ GE184.out | refine below_set ?_ GE185.out | refine below_set ?_ GE186.out | refine below_set ?_ GE194.out | refine below_set ?_ GE195.out | refine below_set ?_ GE208.out) | exact HB.out)))); rintro e w104 ⟨rfl, hb⟩; refine ⟨_, rfl, ?_⟩; replace HO_196000 := Aside0.mk (Kd.R_below (TRo HO_196000.out) hb); replace BK184 := Aside0.mk (blk_below (g := gb184) (o := .cells #[.slice (some ad207) l0_0.length c0_0, .int .i64 a0_1, .int .i64 a0_2, .slice A0_3 l0_3.length c0_3] 27 (0, 0)) (by (with_reducible repeat (first | refine blk_drewN ?_ _ | refine blk_drew ?_ | refine blk_alloc ?_ _)); exact BK184.out) hb); replace BK185 := Aside0.mk (blk_below (g := gb185) (o := .cells #[.int .i64 a1_0, .int .i64 a1_1] 28 (0, 0)) (by (with_reducible repeat (first | refine blk_drewN ?_ _ | refine blk_drew ?_ | refine blk_alloc ?_ _)); exact BK185.out) hb); replace BK186 := Aside0.mk (blk_below (g := gb186) (o := .cells #[.int .i64 a2_0, .int .i64 a2_1, .int .i64 a2_2] 65 (0, 0)) (by (with_reducible repeat (first | refine blk_drewN ?_ _ | refine blk_drew ?_ | refine blk_alloc ?_ _)); exact BK186.out) hb); replace BK194 := Aside0.mk (blk_below (g := gb194) (o := .cells #[.slice (some ad207) l0_0.length c0_0, .int .i64 t198, .int .i64 t199, .slice A0_3 l0_3.length c0_3] 27 (0, 0)) (by (with_reducible repeat (first | refine blk_drewN ?_ _ | refine blk_drew ?_ | refine blk_alloc ?_ _)); exact BK194.out) hb); replace BK195 := Aside0.mk (blk_below (g := gb195) (o := .cells #[.slice (some ⟨go68, 0, none⟩) x196000_12.length co68, .int .i64 a0_1, .int .i64 a0_2, .slice A0_3 l0_3.length c0_3] 27 (0, 0)) (by (with_reducible repeat (first | refine blk_drewN ?_ _ | refine blk_drew ?_ | refine blk_alloc ?_ _)); exact BK195.out) hb); replace BK208 := Aside0.mk (blk_below (g := gb208) (o := .cells #[.int .i64 t213, .int .i64 t214, .int .i64 ((rd_T57 l0_0 t206).f1)] 57 (0, 0)) (by (with_reducible repeat (first | refine blk_drewN ?_ _ | refine blk_drew ?_ | refine blk_alloc ?_ _)); exact BK208.out) hb); replace HB := Aside0.mk (below_step (by repeat (first | (with_reducible first | exact HB.out | apply below_alloc | apply pw_below_drewN | apply below_drew1 | refine below_set ?_ GE184.out | refine below_set ?_ GE185.out | refine below_set ?_ GE186.out | refine below_set ?_ GE194.out | refine below_set ?_ GE195.out | refine below_set ?_ GE208.out) | exact HB.out)) hb); (try clear hb); (try clear hb2); (try clear hk); (try clear hi)))
       (try simp only [Act.put, lA, lZ, lS])
       go_cut [22, 23] (fun v22 v23 wc => ∃ (kq : Nat) (x22_69 : Int) (x23_69 : Int), v22 = .int .i64 x22_69 ∧ v23 = .int .i64 x23_69 ∧ Aside0 (saronlaw03_RaspEasier.j1 kq t192 t193 t217 t218 x22_69 x23_69 = some r) ∧ Aside0 (kq ≤ kj12) ∧ Aside0 (Kd.R k57 57 wc w.heap.size (fun k_ => k_ ≠ gb208) (.slice (some ⟨go68, 0, none⟩) x196000_12.length co68) y215) ∧ Aside0 (wc.heap[gb184]? = some (.cells #[(.slice (some ad207) l0_0.length c0_0), .int .i64 a0_1, .int .i64 a0_2, (.slice A0_3 l0_3.length c0_3)] 27 (0, 0))) ∧ Aside0 (wc.heap[gb185]? = some (.cells #[.int .i64 a1_0, .int .i64 a1_1] 28 (0, 0))) ∧ Aside0 (wc.heap[gb186]? = some (.cells #[.int .i64 a2_0, .int .i64 a2_1, .int .i64 a2_2] 65 (0, 0))) ∧ Aside0 (wc.heap[gb194]? = some (.cells #[(.slice (some ad207) l0_0.length c0_0), .int .i64 t198, .int .i64 t199, (.slice A0_3 l0_3.length c0_3)] 27 (0, 0))) ∧ Aside0 (wc.heap[gb195]? = some (.cells #[(.slice (some ⟨go68, 0, none⟩) x196000_12.length co68), .int .i64 a0_1, .int .i64 a0_2, (.slice A0_3 l0_3.length c0_3)] 27 (0, 0))) ∧ Aside0 (wc.heap[gb208]? = some (.cells #[.int .i64 t213, .int .i64 t214, .int .i64 ((rd_T57 l0_0 t206).f1)] 57 (0, 0))) ∧ Aside0 (Below w.heap.size w wc))
       case first => as_aux_lemma =>
        have H := HC70.out
        clear HC70
        replace H := Option.bind_eq_some_iff.mp H
        obtain ⟨⟨t219, t220, t221⟩, A1050, H⟩ := H
        replace H : (saronlaw03_RaspEasier.j1 kj12 t192 t193 t217 t218 t220 t221) = some r := H
        have A105 := Aside0.mk A1050
        clear A1050
        have H' := Aside0.mk H
        clear H
        have hnb106 := NB195_184.out
        have hnc106 := NB184_195.out
        have hnb107 := NB195_185.out
        have hnc107 := NB185_195.out
        have hnb108 := NB195_186.out
        have hnc108 := NB186_195.out
        have hnb109 := NB195_194.out
        have hnc109 := NB194_195.out
        have hnb110 := NB195_208.out
        have hnc110 := NB208_195.out
        have hcz111_0 := czz BK195.out 0
        have hcz111_1 := czz BK195.out 1
        have hcz111_2 := czz BK195.out 2
        have hcz111_3 := czz BK195.out 3
        have hfz111_0 := fz BK195.out 0
        have hfz111_1 := fz BK195.out 1
        have hfz111_2 := fz BK195.out 2
        have hfz111_3 := fz BK195.out 3
        go_wp2_with (first | ((with_reducible refine gate_callee (f := 16) rfl ?_); refine goesL_ (some 111) rfl rfl Tryd.func16 (by kernel_rfl) rfl #[.agg #[.slice (some ⟨go68, 0, none⟩) y215.length co68, .int .i64 a0_1, .int .i64 a0_2, .slice A0_3 l0_3.length c0_3], .int .i64 t189, .int .i64 t190] rfl (by (try simp only [lM, mC, mN]); first | done | (rw [show y215.length = x196000_12.length from (Kd.R_reads' HO_196000.out).1.symm] <;> rfl) | rfl | (simp only [List.length_drop, List.length_take]; rfl)) ?_; (with_reducible refine (rasp_Next.calls _ _ y215 a0_1 a0_2 _ _ l0_3 t189 t190 t219 t220 t221 _ ?side1 ?side2 ?side3 ?side4 ?side5 A105.out).mono ?_); (case side1 => repeat (first | exact (Kd.R_reads' HO_196000.out).2.2 | (with_reducible refine Kd.C_alloc ?_ _) | (with_reducible refine Kd.C_drewN ?_ _) | (with_reducible refine Kd.C_drew ?_))); (case side2 => rw [show y215.length = x196000_12.length from (Kd.R_reads' HO_196000.out).1.symm]; exact (Kd.R_reads' HO_196000.out).2.1); (case side3 => exact TC HR0_3.out); (case side4 => exact HC0_3.out); (case side5 => exact Glob.fr HG.out (Fr.of_below (by repeat (first | (with_reducible first | exact HB.out | apply below_alloc | apply pw_below_drewN | apply below_drew1 | refine below_set ?_ GE184.out | refine below_set ?_ GE185.out | refine below_set ?_ GE186.out | refine below_set ?_ GE194.out | refine below_set ?_ GE195.out | refine below_set ?_ GE208.out) | exact HB.out)))); rintro e w112 ⟨rfl, hb⟩; refine ⟨_, rfl, ?_⟩; replace HO_196000 := Aside0.mk (Kd.R_below (TRo HO_196000.out) hb); replace BK184 := Aside0.mk (blk_below (g := gb184) (o := .cells #[.slice (some ad207) l0_0.length c0_0, .int .i64 a0_1, .int .i64 a0_2, .slice A0_3 l0_3.length c0_3] 27 (0, 0)) (by (with_reducible repeat (first | refine blk_drewN ?_ _ | refine blk_drew ?_ | refine blk_alloc ?_ _)); exact BK184.out) hb); replace BK185 := Aside0.mk (blk_below (g := gb185) (o := .cells #[.int .i64 a1_0, .int .i64 a1_1] 28 (0, 0)) (by (with_reducible repeat (first | refine blk_drewN ?_ _ | refine blk_drew ?_ | refine blk_alloc ?_ _)); exact BK185.out) hb); replace BK186 := Aside0.mk (blk_below (g := gb186) (o := .cells #[.int .i64 a2_0, .int .i64 a2_1, .int .i64 a2_2] 65 (0, 0)) (by (with_reducible repeat (first | refine blk_drewN ?_ _ | refine blk_drew ?_ | refine blk_alloc ?_ _)); exact BK186.out) hb); replace BK194 := Aside0.mk (blk_below (g := gb194) (o := .cells #[.slice (some ad207) l0_0.length c0_0, .int .i64 t198, .int .i64 t199, .slice A0_3 l0_3.length c0_3] 27 (0, 0)) (by (with_reducible repeat (first | refine blk_drewN ?_ _ | refine blk_drew ?_ | refine blk_alloc ?_ _)); exact BK194.out) hb); replace BK195 := Aside0.mk (blk_below (g := gb195) (o := .cells #[.slice (some ⟨go68, 0, none⟩) x196000_12.length co68, .int .i64 a0_1, .int .i64 a0_2, .slice A0_3 l0_3.length c0_3] 27 (0, 0)) (by (with_reducible repeat (first | refine blk_drewN ?_ _ | refine blk_drew ?_ | refine blk_alloc ?_ _)); exact BK195.out) hb); replace BK208 := Aside0.mk (blk_below (g := gb208) (o := .cells #[.int .i64 t213, .int .i64 t214, .int .i64 ((rd_T57 l0_0 t206).f1)] 57 (0, 0)) (by (with_reducible repeat (first | refine blk_drewN ?_ _ | refine blk_drew ?_ | refine blk_alloc ?_ _)); exact BK208.out) hb); replace HB := Aside0.mk (below_step (by repeat (first | (with_reducible first | exact HB.out | apply below_alloc | apply pw_below_drewN | apply below_drew1 | refine below_set ?_ GE184.out | refine below_set ?_ GE185.out | refine below_set ?_ GE186.out | refine below_set ?_ GE194.out | refine below_set ?_ GE195.out | refine below_set ?_ GE208.out) | exact HB.out)) hb); (try clear hb); (try clear hb2); (try clear hk); (try clear hi)))
        go_meet
        case rel => exact ⟨_, (t220), (t221), TT, TT, H', ⟨by have := HJ12.out; first | omega | exact Nat.le_refl _⟩, ⟨by (with_reducible repeat (first | apply Kd.R_alloc | apply Kd.R_drewN | apply Kd.R_drew)); exact HO_196000.out⟩, ⟨by (with_reducible repeat (first | refine blk_drewN ?_ _ | refine blk_drew ?_ | refine blk_alloc ?_ _)); exact BK184.out⟩, ⟨by (with_reducible repeat (first | refine blk_drewN ?_ _ | refine blk_drew ?_ | refine blk_alloc ?_ _)); exact BK185.out⟩, ⟨by (with_reducible repeat (first | refine blk_drewN ?_ _ | refine blk_drew ?_ | refine blk_alloc ?_ _)); exact BK186.out⟩, ⟨by (with_reducible repeat (first | refine blk_drewN ?_ _ | refine blk_drew ?_ | refine blk_alloc ?_ _)); exact BK194.out⟩, ⟨by (with_reducible repeat (first | refine blk_drewN ?_ _ | refine blk_drew ?_ | refine blk_alloc ?_ _)); exact BK195.out⟩, ⟨by (with_reducible repeat (first | refine blk_drewN ?_ _ | refine blk_drew ?_ | refine blk_alloc ?_ _)); exact BK208.out⟩, ⟨by repeat (first | (with_reducible first | exact HB.out | apply below_alloc | apply pw_below_drewN | apply below_drew1 | refine below_set ?_ GE184.out | refine below_set ?_ GE185.out | refine below_set ?_ GE186.out | refine below_set ?_ GE194.out | refine below_set ?_ GE195.out | refine below_set ?_ GE208.out) | exact HB.out)⟩⟩
       case rest => as_aux_lemma =>
        clear HC70
        try clear c1
        try clear hx1
        try clear p2
        try clear q2
        try clear hx2
        try clear c3
        try clear c4
        try clear c5
        try clear c6
        try clear p6
        try clear q6
        try clear hx6
        try clear hf6
        try clear c7
        try clear c8
        try clear c9
        try clear c10
        try clear hx10
        try clear hf10
        try clear c11
        try clear c16
        try clear p20
        try clear q20
        try clear hx20
        try clear c38
        try clear c39
        try clear c41
        try clear c44
        try clear c45
        try clear c46
        try clear c49
        try clear c50
        try clear c51
        try clear c52
        try clear c56
        try clear c57
        try clear c58
        try clear c61
        try clear c61b0
        try clear c62
        try clear c62b0
        try clear c67
        try clear c67b0
        try clear c68
        try clear p68
        try clear q68
        try clear hx68
        try clear hf68
        try clear c71
        try clear c72
        try clear c73
        try clear c74
        try clear c76
        try clear c77
        try clear c78
        try clear c81
        try clear c82
        try clear c83
        try clear c84
        try clear c85
        try clear c96
        try clear c97
        try clear c100
        try clear hx100
        try clear hf100
        try clear c102
        try clear c106
        try clear c107
        try clear c108
        try clear c109
        try clear c110
        try clear hcz103_0 hcz103_1 hcz103_2 hcz103_3
        try clear hcz111_0 hcz111_1 hcz111_2 hcz111_3
        try clear hcz40_0 hcz40_1 hcz40_2
        try clear hcz53_0 hcz53_1 hcz53_2 hcz53_3
        try clear hcz59_0 hcz59_1 hcz59_2 hcz59_3
        try clear hcz75_0 hcz75_1 hcz75_2
        try clear hcz79_0 hcz79_1 hcz79_2 hcz79_3
        try clear hcz86_0 hcz86_1 hcz86_2
        try clear hcz87_0 hcz87_1 hcz87_2
        try clear hcz98_0 hcz98_1 hcz98_2 hcz98_3
        try clear hcz99_0 hcz99_1 hcz99_2
        try clear hfz103_0 hfz103_1 hfz103_2 hfz103_3
        try clear hfz111_0 hfz111_1 hfz111_2 hfz111_3
        try clear hfz40_0 hfz40_1 hfz40_2
        try clear hfz53_0 hfz53_1 hfz53_2 hfz53_3
        try clear hfz59_0 hfz59_1 hfz59_2 hfz59_3
        try clear hfz75_0 hfz75_1 hfz75_2
        try clear hfz79_0 hfz79_1 hfz79_2 hfz79_3
        try clear hfz86_0 hfz86_1 hfz86_2
        try clear hfz87_0 hfz87_1 hfz87_2
        try clear hfz98_0 hfz98_1 hfz98_2 hfz98_3
        try clear hfz99_0 hfz99_1 hfz99_2
        try clear hx100_0
        try clear hx100_1
        try clear hx100_2
        try clear hx207_0
        try clear hx207_1
        try clear hx207_2
        try clear hx68_0
        try clear hx68_1
        try clear hx68_2
        try clear p2
        try clear p207
        try clear p68
        try clear q207
        try clear q68
        try clear HO_196000
        try clear BK184
        try clear BK185
        try clear BK186
        try clear BK194
        try clear BK195
        try clear BK208
        try clear HB
        obtain ⟨kq, x22_69, x23_69, rfl, rfl, HA, HJ69, HO_196000, BK184, BK185, BK186, BK194, BK195, BK208, HB⟩ := hcut
        have hl196000_69 := (Kd.R_reads' HO_196000.out).1
        rw [hl196000_69] at HO_196000
        (try simp only [hl196000_69])
        (try simp only [hl196000_69] at BK184)
        (try simp only [hl196000_69] at BK185)
        (try simp only [hl196000_69] at BK186)
        (try simp only [hl196000_69] at BK194)
        (try simp only [hl196000_69] at BK195)
        (try simp only [hl196000_69] at BK208)
        cases kq with
        | zero => exact absurd HA.out (by simp [saronlaw03_RaspEasier.j1])
        | succ kj69 =>
         have H := HA.out
         clear HA
         simp only [saronlaw03_RaspEasier.j1] at H
         by_cases c113 : t193 = 0
         ·rw [if_pos c113] at H
          have c113b0 : (t193 == 0) = true := beq_iff_eq.mpr c113
          have c113b1 : (t193 != 0) = false := bne_eq_false_iff_eq.mpr c113
          clear c113
          by_cases c114 : t218 = 0
          ·rw [if_pos c114] at H
           have c114b0 : (t218 == 0) = true := beq_iff_eq.mpr c114
           have c114b1 : (t218 != 0) = false := bne_eq_false_iff_eq.mpr c114
           clear c114
           by_cases c115 : x23_69 = 0
           ·rw [if_pos c115] at H
            have c115b0 : (x23_69 == 0) = true := beq_iff_eq.mpr c115
            have c115b1 : (x23_69 != 0) = false := bne_eq_false_iff_eq.mpr c115
            clear c115
            by_cases c116 : t217 ≤ t192
            ·rw [if_pos c116] at H
             have c116b0 : decide (t217 ≤ t192) = true := decide_eq_true c116
             clear c116
             by_cases c117 : x22_69 ≤ t192
             ·rw [if_pos c117] at H
              have c117b0 : decide (x22_69 ≤ t192) = true := decide_eq_true c117
              clear c117
              replace H := Option.bind_eq_some_iff.mp H
              obtain ⟨t222, A1180, H⟩ := H
              replace H : (some t222) = some r := H
              have A118 := Aside0.mk A1180
              clear A1180
              obtain rfl := Option.some.inj H
              go_wp2_with (first | (go_at_call 22; (with_reducible refine (saronlaw03_filed.calls  t222 _ ?side1 A118.out).mono ?_); (case side1 => exact Glob.fr HG.out (Fr.of_below (by repeat (first | (with_reducible first | exact HB.out | apply below_alloc | apply pw_below_drewN | apply below_drew1 | refine below_set ?_ GE184.out | refine below_set ?_ GE185.out | refine below_set ?_ GE186.out | refine below_set ?_ GE194.out | refine below_set ?_ GE195.out | refine below_set ?_ GE208.out) | exact HB.out)))); rintro e w119 ⟨rfl, hb⟩; replace HO_196000 := Aside0.mk (Kd.R_below (TRo HO_196000.out) hb); replace BK184 := Aside0.mk (blk_below (g := gb184) (o := .cells #[.slice (some ad207) l0_0.length c0_0, .int .i64 a0_1, .int .i64 a0_2, .slice A0_3 l0_3.length c0_3] 27 (0, 0)) (by (with_reducible repeat (first | refine blk_drewN ?_ _ | refine blk_drew ?_ | refine blk_alloc ?_ _)); exact BK184.out) hb); replace BK185 := Aside0.mk (blk_below (g := gb185) (o := .cells #[.int .i64 a1_0, .int .i64 a1_1] 28 (0, 0)) (by (with_reducible repeat (first | refine blk_drewN ?_ _ | refine blk_drew ?_ | refine blk_alloc ?_ _)); exact BK185.out) hb); replace BK186 := Aside0.mk (blk_below (g := gb186) (o := .cells #[.int .i64 a2_0, .int .i64 a2_1, .int .i64 a2_2] 65 (0, 0)) (by (with_reducible repeat (first | refine blk_drewN ?_ _ | refine blk_drew ?_ | refine blk_alloc ?_ _)); exact BK186.out) hb); replace BK194 := Aside0.mk (blk_below (g := gb194) (o := .cells #[.slice (some ad207) l0_0.length c0_0, .int .i64 t198, .int .i64 t199, .slice A0_3 l0_3.length c0_3] 27 (0, 0)) (by (with_reducible repeat (first | refine blk_drewN ?_ _ | refine blk_drew ?_ | refine blk_alloc ?_ _)); exact BK194.out) hb); replace BK195 := Aside0.mk (blk_below (g := gb195) (o := .cells #[.slice (some ⟨go68, 0, none⟩) y215.length co68, .int .i64 a0_1, .int .i64 a0_2, .slice A0_3 l0_3.length c0_3] 27 (0, 0)) (by (with_reducible repeat (first | refine blk_drewN ?_ _ | refine blk_drew ?_ | refine blk_alloc ?_ _)); exact BK195.out) hb); replace BK208 := Aside0.mk (blk_below (g := gb208) (o := .cells #[.int .i64 t213, .int .i64 t214, .int .i64 ((rd_T57 l0_0 t206).f1)] 57 (0, 0)) (by (with_reducible repeat (first | refine blk_drewN ?_ _ | refine blk_drew ?_ | refine blk_alloc ?_ _)); exact BK208.out) hb); replace HB := Aside0.mk (below_step (by repeat (first | (with_reducible first | exact HB.out | apply below_alloc | apply pw_below_drewN | apply below_drew1 | refine below_set ?_ GE184.out | refine below_set ?_ GE185.out | refine below_set ?_ GE186.out | refine below_set ?_ GE194.out | refine below_set ?_ GE195.out | refine below_set ?_ GE208.out) | exact HB.out)) hb); (try clear hb); (try clear hb2); (try clear hk); (try clear hi)))
              go_ret
              exact ⟨by first | rfl | (simp [errW_none, errW_some] <;> rfl) | (simp only [← hji9, ← hji11]; first | rfl | (simp [errW_none, errW_some] <;> rfl)) | (simp [*, errW_none, errW_some] <;> rfl), by repeat (first | (with_reducible first | exact HB.out | apply below_alloc | apply pw_below_drewN | apply below_drew1 | refine below_set ?_ GE184.out | refine below_set ?_ GE185.out | refine below_set ?_ GE186.out | refine below_set ?_ GE194.out | refine below_set ?_ GE195.out | refine below_set ?_ GE208.out) | exact HB.out)⟩
             ·rw [if_neg c117] at H
              have c117b0 : decide (x22_69 ≤ t192) = false := decide_eq_false c117
              clear c117
              obtain rfl := Option.some.inj H
              go_wp2
              go_ret
              exact ⟨by first | rfl | (simp [errW_none, errW_some] <;> rfl) | (simp only [← hji9, ← hji11]; first | rfl | (simp [errW_none, errW_some] <;> rfl)) | (simp [*, errW_none, errW_some] <;> rfl), by repeat (first | (with_reducible first | exact HB.out | apply below_alloc | apply pw_below_drewN | apply below_drew1 | refine below_set ?_ GE184.out | refine below_set ?_ GE185.out | refine below_set ?_ GE186.out | refine below_set ?_ GE194.out | refine below_set ?_ GE195.out | refine below_set ?_ GE208.out) | exact HB.out)⟩
            ·rw [if_neg c116] at H
             have c116b0 : decide (t217 ≤ t192) = false := decide_eq_false c116
             clear c116
             obtain rfl := Option.some.inj H
             go_wp2
             go_ret
             exact ⟨by first | rfl | (simp [errW_none, errW_some] <;> rfl) | (simp only [← hji9, ← hji11]; first | rfl | (simp [errW_none, errW_some] <;> rfl)) | (simp [*, errW_none, errW_some] <;> rfl), by repeat (first | (with_reducible first | exact HB.out | apply below_alloc | apply pw_below_drewN | apply below_drew1 | refine below_set ?_ GE184.out | refine below_set ?_ GE185.out | refine below_set ?_ GE186.out | refine below_set ?_ GE194.out | refine below_set ?_ GE195.out | refine below_set ?_ GE208.out) | exact HB.out)⟩
           ·rw [if_neg c115] at H
            have c115b0 : (x23_69 == 0) = false := beq_eq_false_iff_ne.mpr c115
            have c115b1 : (x23_69 != 0) = true := bne_iff_ne.mpr c115
            obtain rfl := Option.some.inj H
            go_wp2
            go_ret
            exact ⟨by first | rfl | (simp [errW_none, errW_some] <;> rfl) | (simp only [← hji9, ← hji11]; first | rfl | (simp [errW_none, errW_some] <;> rfl)) | (simp [*, errW_none, errW_some] <;> rfl), by repeat (first | (with_reducible first | exact HB.out | apply below_alloc | apply pw_below_drewN | apply below_drew1 | refine below_set ?_ GE184.out | refine below_set ?_ GE185.out | refine below_set ?_ GE186.out | refine below_set ?_ GE194.out | refine below_set ?_ GE195.out | refine below_set ?_ GE208.out) | exact HB.out)⟩
          ·rw [if_neg c114] at H
           have c114b0 : (t218 == 0) = false := beq_eq_false_iff_ne.mpr c114
           have c114b1 : (t218 != 0) = true := bne_iff_ne.mpr c114
           obtain rfl := Option.some.inj H
           go_wp2
           go_ret
           exact ⟨by first | rfl | (simp [errW_none, errW_some] <;> rfl) | (simp only [← hji9, ← hji11]; first | rfl | (simp [errW_none, errW_some] <;> rfl)) | (simp [*, errW_none, errW_some] <;> rfl), by repeat (first | (with_reducible first | exact HB.out | apply below_alloc | apply pw_below_drewN | apply below_drew1 | refine below_set ?_ GE184.out | refine below_set ?_ GE185.out | refine below_set ?_ GE186.out | refine below_set ?_ GE194.out | refine below_set ?_ GE195.out | refine below_set ?_ GE208.out) | exact HB.out)⟩
         ·rw [if_neg c113] at H
          have c113b0 : (t193 == 0) = false := beq_eq_false_iff_ne.mpr c113
          have c113b1 : (t193 != 0) = true := bne_iff_ne.mpr c113
          by_cases c120 : t193 = 4
          ·rw [if_pos c120] at H
           have c120b0 : (t193 == 4) = true := beq_iff_eq.mpr c120
           have c120b1 : (t193 != 4) = false := bne_eq_false_iff_eq.mpr c120
           clear c120
           by_cases c121 : t218 = 0
           ·rw [if_pos c121] at H
            have c121b0 : (t218 == 0) = true := beq_iff_eq.mpr c121
            have c121b1 : (t218 != 0) = false := bne_eq_false_iff_eq.mpr c121
            clear c121
            by_cases c122 : x23_69 = 0
            ·rw [if_pos c122] at H
             have c122b0 : (x23_69 == 0) = true := beq_iff_eq.mpr c122
             have c122b1 : (x23_69 != 0) = false := bne_eq_false_iff_eq.mpr c122
             clear c122
             replace H := Option.bind_eq_some_iff.mp H
             obtain ⟨t223, A1230, H⟩ := H
             replace H : (some t223) = some r := H
             have A123 := Aside0.mk A1230
             clear A1230
             obtain rfl := Option.some.inj H
             go_wp2_with (first | (go_at_call 22; (with_reducible refine (saronlaw03_filed.calls  t223 _ ?side1 A123.out).mono ?_); (case side1 => exact Glob.fr HG.out (Fr.of_below (by repeat (first | (with_reducible first | exact HB.out | apply below_alloc | apply pw_below_drewN | apply below_drew1 | refine below_set ?_ GE184.out | refine below_set ?_ GE185.out | refine below_set ?_ GE186.out | refine below_set ?_ GE194.out | refine below_set ?_ GE195.out | refine below_set ?_ GE208.out) | exact HB.out)))); rintro e w124 ⟨rfl, hb⟩; replace HO_196000 := Aside0.mk (Kd.R_below (TRo HO_196000.out) hb); replace BK184 := Aside0.mk (blk_below (g := gb184) (o := .cells #[.slice (some ad207) l0_0.length c0_0, .int .i64 a0_1, .int .i64 a0_2, .slice A0_3 l0_3.length c0_3] 27 (0, 0)) (by (with_reducible repeat (first | refine blk_drewN ?_ _ | refine blk_drew ?_ | refine blk_alloc ?_ _)); exact BK184.out) hb); replace BK185 := Aside0.mk (blk_below (g := gb185) (o := .cells #[.int .i64 a1_0, .int .i64 a1_1] 28 (0, 0)) (by (with_reducible repeat (first | refine blk_drewN ?_ _ | refine blk_drew ?_ | refine blk_alloc ?_ _)); exact BK185.out) hb); replace BK186 := Aside0.mk (blk_below (g := gb186) (o := .cells #[.int .i64 a2_0, .int .i64 a2_1, .int .i64 a2_2] 65 (0, 0)) (by (with_reducible repeat (first | refine blk_drewN ?_ _ | refine blk_drew ?_ | refine blk_alloc ?_ _)); exact BK186.out) hb); replace BK194 := Aside0.mk (blk_below (g := gb194) (o := .cells #[.slice (some ad207) l0_0.length c0_0, .int .i64 t198, .int .i64 t199, .slice A0_3 l0_3.length c0_3] 27 (0, 0)) (by (with_reducible repeat (first | refine blk_drewN ?_ _ | refine blk_drew ?_ | refine blk_alloc ?_ _)); exact BK194.out) hb); replace BK195 := Aside0.mk (blk_below (g := gb195) (o := .cells #[.slice (some ⟨go68, 0, none⟩) y215.length co68, .int .i64 a0_1, .int .i64 a0_2, .slice A0_3 l0_3.length c0_3] 27 (0, 0)) (by (with_reducible repeat (first | refine blk_drewN ?_ _ | refine blk_drew ?_ | refine blk_alloc ?_ _)); exact BK195.out) hb); replace BK208 := Aside0.mk (blk_below (g := gb208) (o := .cells #[.int .i64 t213, .int .i64 t214, .int .i64 ((rd_T57 l0_0 t206).f1)] 57 (0, 0)) (by (with_reducible repeat (first | refine blk_drewN ?_ _ | refine blk_drew ?_ | refine blk_alloc ?_ _)); exact BK208.out) hb); replace HB := Aside0.mk (below_step (by repeat (first | (with_reducible first | exact HB.out | apply below_alloc | apply pw_below_drewN | apply below_drew1 | refine below_set ?_ GE184.out | refine below_set ?_ GE185.out | refine below_set ?_ GE186.out | refine below_set ?_ GE194.out | refine below_set ?_ GE195.out | refine below_set ?_ GE208.out) | exact HB.out)) hb); (try clear hb); (try clear hb2); (try clear hk); (try clear hi)))
             go_ret
             exact ⟨by first | rfl | (simp [errW_none, errW_some] <;> rfl) | (simp only [← hji9, ← hji11]; first | rfl | (simp [errW_none, errW_some] <;> rfl)) | (simp [*, errW_none, errW_some] <;> rfl), by repeat (first | (with_reducible first | exact HB.out | apply below_alloc | apply pw_below_drewN | apply below_drew1 | refine below_set ?_ GE184.out | refine below_set ?_ GE185.out | refine below_set ?_ GE186.out | refine below_set ?_ GE194.out | refine below_set ?_ GE195.out | refine below_set ?_ GE208.out) | exact HB.out)⟩
            ·rw [if_neg c122] at H
             have c122b0 : (x23_69 == 0) = false := beq_eq_false_iff_ne.mpr c122
             have c122b1 : (x23_69 != 0) = true := bne_iff_ne.mpr c122
             by_cases c125 : x23_69 = t193
             ·rw [if_pos c125] at H
              have c125b0 : (x23_69 == t193) = true := beq_iff_eq.mpr c125
              have c125b1 : (x23_69 != t193) = false := bne_eq_false_iff_eq.mpr c125
              clear c125
              replace H := Option.bind_eq_some_iff.mp H
              obtain ⟨t224, A1260, H⟩ := H
              replace H : (some t224) = some r := H
              have A126 := Aside0.mk A1260
              clear A1260
              obtain rfl := Option.some.inj H
              go_wp2_with (first | (go_at_call 22; (with_reducible refine (saronlaw03_filed.calls  t224 _ ?side1 A126.out).mono ?_); (case side1 => exact Glob.fr HG.out (Fr.of_below (by repeat (first | (with_reducible first | exact HB.out | apply below_alloc | apply pw_below_drewN | apply below_drew1 | refine below_set ?_ GE184.out | refine below_set ?_ GE185.out | refine below_set ?_ GE186.out | refine below_set ?_ GE194.out | refine below_set ?_ GE195.out | refine below_set ?_ GE208.out) | exact HB.out)))); rintro e w127 ⟨rfl, hb⟩; replace HO_196000 := Aside0.mk (Kd.R_below (TRo HO_196000.out) hb); replace BK184 := Aside0.mk (blk_below (g := gb184) (o := .cells #[.slice (some ad207) l0_0.length c0_0, .int .i64 a0_1, .int .i64 a0_2, .slice A0_3 l0_3.length c0_3] 27 (0, 0)) (by (with_reducible repeat (first | refine blk_drewN ?_ _ | refine blk_drew ?_ | refine blk_alloc ?_ _)); exact BK184.out) hb); replace BK185 := Aside0.mk (blk_below (g := gb185) (o := .cells #[.int .i64 a1_0, .int .i64 a1_1] 28 (0, 0)) (by (with_reducible repeat (first | refine blk_drewN ?_ _ | refine blk_drew ?_ | refine blk_alloc ?_ _)); exact BK185.out) hb); replace BK186 := Aside0.mk (blk_below (g := gb186) (o := .cells #[.int .i64 a2_0, .int .i64 a2_1, .int .i64 a2_2] 65 (0, 0)) (by (with_reducible repeat (first | refine blk_drewN ?_ _ | refine blk_drew ?_ | refine blk_alloc ?_ _)); exact BK186.out) hb); replace BK194 := Aside0.mk (blk_below (g := gb194) (o := .cells #[.slice (some ad207) l0_0.length c0_0, .int .i64 t198, .int .i64 t199, .slice A0_3 l0_3.length c0_3] 27 (0, 0)) (by (with_reducible repeat (first | refine blk_drewN ?_ _ | refine blk_drew ?_ | refine blk_alloc ?_ _)); exact BK194.out) hb); replace BK195 := Aside0.mk (blk_below (g := gb195) (o := .cells #[.slice (some ⟨go68, 0, none⟩) y215.length co68, .int .i64 a0_1, .int .i64 a0_2, .slice A0_3 l0_3.length c0_3] 27 (0, 0)) (by (with_reducible repeat (first | refine blk_drewN ?_ _ | refine blk_drew ?_ | refine blk_alloc ?_ _)); exact BK195.out) hb); replace BK208 := Aside0.mk (blk_below (g := gb208) (o := .cells #[.int .i64 t213, .int .i64 t214, .int .i64 ((rd_T57 l0_0 t206).f1)] 57 (0, 0)) (by (with_reducible repeat (first | refine blk_drewN ?_ _ | refine blk_drew ?_ | refine blk_alloc ?_ _)); exact BK208.out) hb); replace HB := Aside0.mk (below_step (by repeat (first | (with_reducible first | exact HB.out | apply below_alloc | apply pw_below_drewN | apply below_drew1 | refine below_set ?_ GE184.out | refine below_set ?_ GE185.out | refine below_set ?_ GE186.out | refine below_set ?_ GE194.out | refine below_set ?_ GE195.out | refine below_set ?_ GE208.out) | exact HB.out)) hb); (try clear hb); (try clear hb2); (try clear hk); (try clear hi)))
              go_ret
              exact ⟨by first | rfl | (simp [errW_none, errW_some] <;> rfl) | (simp only [← hji9, ← hji11]; first | rfl | (simp [errW_none, errW_some] <;> rfl)) | (simp [*, errW_none, errW_some] <;> rfl), by repeat (first | (with_reducible first | exact HB.out | apply below_alloc | apply pw_below_drewN | apply below_drew1 | refine below_set ?_ GE184.out | refine below_set ?_ GE185.out | refine below_set ?_ GE186.out | refine below_set ?_ GE194.out | refine below_set ?_ GE195.out | refine below_set ?_ GE208.out) | exact HB.out)⟩
             ·rw [if_neg c125] at H
              have c125b0 : (x23_69 == t193) = false := beq_eq_false_iff_ne.mpr c125
              have c125b1 : (x23_69 != t193) = true := bne_iff_ne.mpr c125
              obtain rfl := Option.some.inj H
              go_wp2
              go_ret
              exact ⟨by first | rfl | (simp [errW_none, errW_some] <;> rfl) | (simp only [← hji9, ← hji11]; first | rfl | (simp [errW_none, errW_some] <;> rfl)) | (simp [*, errW_none, errW_some] <;> rfl), by repeat (first | (with_reducible first | exact HB.out | apply below_alloc | apply pw_below_drewN | apply below_drew1 | refine below_set ?_ GE184.out | refine below_set ?_ GE185.out | refine below_set ?_ GE186.out | refine below_set ?_ GE194.out | refine below_set ?_ GE195.out | refine below_set ?_ GE208.out) | exact HB.out)⟩
           ·rw [if_neg c121] at H
            have c121b0 : (t218 == 0) = false := beq_eq_false_iff_ne.mpr c121
            have c121b1 : (t218 != 0) = true := bne_iff_ne.mpr c121
            by_cases c128 : t218 = t193
            ·rw [if_pos c128] at H
             have c128b0 : (t218 == t193) = true := beq_iff_eq.mpr c128
             have c128b1 : (t218 != t193) = false := bne_eq_false_iff_eq.mpr c128
             clear c128
             by_cases c129 : x23_69 = 0
             ·rw [if_pos c129] at H
              have c129b0 : (x23_69 == 0) = true := beq_iff_eq.mpr c129
              have c129b1 : (x23_69 != 0) = false := bne_eq_false_iff_eq.mpr c129
              clear c129
              replace H := Option.bind_eq_some_iff.mp H
              obtain ⟨t225, A1300, H⟩ := H
              replace H : (some t225) = some r := H
              have A130 := Aside0.mk A1300
              clear A1300
              obtain rfl := Option.some.inj H
              go_wp2_with (first | (go_at_call 22; (with_reducible refine (saronlaw03_filed.calls  t225 _ ?side1 A130.out).mono ?_); (case side1 => exact Glob.fr HG.out (Fr.of_below (by repeat (first | (with_reducible first | exact HB.out | apply below_alloc | apply pw_below_drewN | apply below_drew1 | refine below_set ?_ GE184.out | refine below_set ?_ GE185.out | refine below_set ?_ GE186.out | refine below_set ?_ GE194.out | refine below_set ?_ GE195.out | refine below_set ?_ GE208.out) | exact HB.out)))); rintro e w131 ⟨rfl, hb⟩; replace HO_196000 := Aside0.mk (Kd.R_below (TRo HO_196000.out) hb); replace BK184 := Aside0.mk (blk_below (g := gb184) (o := .cells #[.slice (some ad207) l0_0.length c0_0, .int .i64 a0_1, .int .i64 a0_2, .slice A0_3 l0_3.length c0_3] 27 (0, 0)) (by (with_reducible repeat (first | refine blk_drewN ?_ _ | refine blk_drew ?_ | refine blk_alloc ?_ _)); exact BK184.out) hb); replace BK185 := Aside0.mk (blk_below (g := gb185) (o := .cells #[.int .i64 a1_0, .int .i64 a1_1] 28 (0, 0)) (by (with_reducible repeat (first | refine blk_drewN ?_ _ | refine blk_drew ?_ | refine blk_alloc ?_ _)); exact BK185.out) hb); replace BK186 := Aside0.mk (blk_below (g := gb186) (o := .cells #[.int .i64 a2_0, .int .i64 a2_1, .int .i64 a2_2] 65 (0, 0)) (by (with_reducible repeat (first | refine blk_drewN ?_ _ | refine blk_drew ?_ | refine blk_alloc ?_ _)); exact BK186.out) hb); replace BK194 := Aside0.mk (blk_below (g := gb194) (o := .cells #[.slice (some ad207) l0_0.length c0_0, .int .i64 t198, .int .i64 t199, .slice A0_3 l0_3.length c0_3] 27 (0, 0)) (by (with_reducible repeat (first | refine blk_drewN ?_ _ | refine blk_drew ?_ | refine blk_alloc ?_ _)); exact BK194.out) hb); replace BK195 := Aside0.mk (blk_below (g := gb195) (o := .cells #[.slice (some ⟨go68, 0, none⟩) y215.length co68, .int .i64 a0_1, .int .i64 a0_2, .slice A0_3 l0_3.length c0_3] 27 (0, 0)) (by (with_reducible repeat (first | refine blk_drewN ?_ _ | refine blk_drew ?_ | refine blk_alloc ?_ _)); exact BK195.out) hb); replace BK208 := Aside0.mk (blk_below (g := gb208) (o := .cells #[.int .i64 t213, .int .i64 t214, .int .i64 ((rd_T57 l0_0 t206).f1)] 57 (0, 0)) (by (with_reducible repeat (first | refine blk_drewN ?_ _ | refine blk_drew ?_ | refine blk_alloc ?_ _)); exact BK208.out) hb); replace HB := Aside0.mk (below_step (by repeat (first | (with_reducible first | exact HB.out | apply below_alloc | apply pw_below_drewN | apply below_drew1 | refine below_set ?_ GE184.out | refine below_set ?_ GE185.out | refine below_set ?_ GE186.out | refine below_set ?_ GE194.out | refine below_set ?_ GE195.out | refine below_set ?_ GE208.out) | exact HB.out)) hb); (try clear hb); (try clear hb2); (try clear hk); (try clear hi)))
              go_ret
              exact ⟨by first | rfl | (simp [errW_none, errW_some] <;> rfl) | (simp only [← hji9, ← hji11]; first | rfl | (simp [errW_none, errW_some] <;> rfl)) | (simp [*, errW_none, errW_some] <;> rfl), by repeat (first | (with_reducible first | exact HB.out | apply below_alloc | apply pw_below_drewN | apply below_drew1 | refine below_set ?_ GE184.out | refine below_set ?_ GE185.out | refine below_set ?_ GE186.out | refine below_set ?_ GE194.out | refine below_set ?_ GE195.out | refine below_set ?_ GE208.out) | exact HB.out)⟩
             ·rw [if_neg c129] at H
              have c129b0 : (x23_69 == 0) = false := beq_eq_false_iff_ne.mpr c129
              have c129b1 : (x23_69 != 0) = true := bne_iff_ne.mpr c129
              by_cases c132 : x23_69 = t193
              ·rw [if_pos c132] at H
               have c132b0 : (x23_69 == t193) = true := beq_iff_eq.mpr c132
               have c132b1 : (x23_69 != t193) = false := bne_eq_false_iff_eq.mpr c132
               clear c132
               replace H := Option.bind_eq_some_iff.mp H
               obtain ⟨t226, A1330, H⟩ := H
               replace H : (some t226) = some r := H
               have A133 := Aside0.mk A1330
               clear A1330
               obtain rfl := Option.some.inj H
               go_wp2_with (first | (go_at_call 22; (with_reducible refine (saronlaw03_filed.calls  t226 _ ?side1 A133.out).mono ?_); (case side1 => exact Glob.fr HG.out (Fr.of_below (by repeat (first | (with_reducible first | exact HB.out | apply below_alloc | apply pw_below_drewN | apply below_drew1 | refine below_set ?_ GE184.out | refine below_set ?_ GE185.out | refine below_set ?_ GE186.out | refine below_set ?_ GE194.out | refine below_set ?_ GE195.out | refine below_set ?_ GE208.out) | exact HB.out)))); rintro e w134 ⟨rfl, hb⟩; replace HO_196000 := Aside0.mk (Kd.R_below (TRo HO_196000.out) hb); replace BK184 := Aside0.mk (blk_below (g := gb184) (o := .cells #[.slice (some ad207) l0_0.length c0_0, .int .i64 a0_1, .int .i64 a0_2, .slice A0_3 l0_3.length c0_3] 27 (0, 0)) (by (with_reducible repeat (first | refine blk_drewN ?_ _ | refine blk_drew ?_ | refine blk_alloc ?_ _)); exact BK184.out) hb); replace BK185 := Aside0.mk (blk_below (g := gb185) (o := .cells #[.int .i64 a1_0, .int .i64 a1_1] 28 (0, 0)) (by (with_reducible repeat (first | refine blk_drewN ?_ _ | refine blk_drew ?_ | refine blk_alloc ?_ _)); exact BK185.out) hb); replace BK186 := Aside0.mk (blk_below (g := gb186) (o := .cells #[.int .i64 a2_0, .int .i64 a2_1, .int .i64 a2_2] 65 (0, 0)) (by (with_reducible repeat (first | refine blk_drewN ?_ _ | refine blk_drew ?_ | refine blk_alloc ?_ _)); exact BK186.out) hb); replace BK194 := Aside0.mk (blk_below (g := gb194) (o := .cells #[.slice (some ad207) l0_0.length c0_0, .int .i64 t198, .int .i64 t199, .slice A0_3 l0_3.length c0_3] 27 (0, 0)) (by (with_reducible repeat (first | refine blk_drewN ?_ _ | refine blk_drew ?_ | refine blk_alloc ?_ _)); exact BK194.out) hb); replace BK195 := Aside0.mk (blk_below (g := gb195) (o := .cells #[.slice (some ⟨go68, 0, none⟩) y215.length co68, .int .i64 a0_1, .int .i64 a0_2, .slice A0_3 l0_3.length c0_3] 27 (0, 0)) (by (with_reducible repeat (first | refine blk_drewN ?_ _ | refine blk_drew ?_ | refine blk_alloc ?_ _)); exact BK195.out) hb); replace BK208 := Aside0.mk (blk_below (g := gb208) (o := .cells #[.int .i64 t213, .int .i64 t214, .int .i64 ((rd_T57 l0_0 t206).f1)] 57 (0, 0)) (by (with_reducible repeat (first | refine blk_drewN ?_ _ | refine blk_drew ?_ | refine blk_alloc ?_ _)); exact BK208.out) hb); replace HB := Aside0.mk (below_step (by repeat (first | (with_reducible first | exact HB.out | apply below_alloc | apply pw_below_drewN | apply below_drew1 | refine below_set ?_ GE184.out | refine below_set ?_ GE185.out | refine below_set ?_ GE186.out | refine below_set ?_ GE194.out | refine below_set ?_ GE195.out | refine below_set ?_ GE208.out) | exact HB.out)) hb); (try clear hb); (try clear hb2); (try clear hk); (try clear hi)))
               go_ret
               exact ⟨by first | rfl | (simp [errW_none, errW_some] <;> rfl) | (simp only [← hji9, ← hji11]; first | rfl | (simp [errW_none, errW_some] <;> rfl)) | (simp [*, errW_none, errW_some] <;> rfl), by repeat (first | (with_reducible first | exact HB.out | apply below_alloc | apply pw_below_drewN | apply below_drew1 | refine below_set ?_ GE184.out | refine below_set ?_ GE185.out | refine below_set ?_ GE186.out | refine below_set ?_ GE194.out | refine below_set ?_ GE195.out | refine below_set ?_ GE208.out) | exact HB.out)⟩
              ·rw [if_neg c132] at H
               have c132b0 : (x23_69 == t193) = false := beq_eq_false_iff_ne.mpr c132
               have c132b1 : (x23_69 != t193) = true := bne_iff_ne.mpr c132
               obtain rfl := Option.some.inj H
               go_wp2
               go_ret
               exact ⟨by first | rfl | (simp [errW_none, errW_some] <;> rfl) | (simp only [← hji9, ← hji11]; first | rfl | (simp [errW_none, errW_some] <;> rfl)) | (simp [*, errW_none, errW_some] <;> rfl), by repeat (first | (with_reducible first | exact HB.out | apply below_alloc | apply pw_below_drewN | apply below_drew1 | refine below_set ?_ GE184.out | refine below_set ?_ GE185.out | refine below_set ?_ GE186.out | refine below_set ?_ GE194.out | refine below_set ?_ GE195.out | refine below_set ?_ GE208.out) | exact HB.out)⟩
            ·rw [if_neg c128] at H
             have c128b0 : (t218 == t193) = false := beq_eq_false_iff_ne.mpr c128
             have c128b1 : (t218 != t193) = true := bne_iff_ne.mpr c128
             obtain rfl := Option.some.inj H
             go_wp2
             go_ret
             exact ⟨by first | rfl | (simp [errW_none, errW_some] <;> rfl) | (simp only [← hji9, ← hji11]; first | rfl | (simp [errW_none, errW_some] <;> rfl)) | (simp [*, errW_none, errW_some] <;> rfl), by repeat (first | (with_reducible first | exact HB.out | apply below_alloc | apply pw_below_drewN | apply below_drew1 | refine below_set ?_ GE184.out | refine below_set ?_ GE185.out | refine below_set ?_ GE186.out | refine below_set ?_ GE194.out | refine below_set ?_ GE195.out | refine below_set ?_ GE208.out) | exact HB.out)⟩
          ·rw [if_neg c120] at H
           have c120b0 : (t193 == 4) = false := beq_eq_false_iff_ne.mpr c120
           have c120b1 : (t193 != 4) = true := bne_iff_ne.mpr c120
           obtain rfl := Option.some.inj H
           go_wp2
           go_ret
           exact ⟨by first | rfl | (simp [errW_none, errW_some] <;> rfl) | (simp only [← hji9, ← hji11]; first | rfl | (simp [errW_none, errW_some] <;> rfl)) | (simp [*, errW_none, errW_some] <;> rfl), by repeat (first | (with_reducible first | exact HB.out | apply below_alloc | apply pw_below_drewN | apply below_drew1 | refine below_set ?_ GE184.out | refine below_set ?_ GE185.out | refine below_set ?_ GE186.out | refine below_set ?_ GE194.out | refine below_set ?_ GE195.out | refine below_set ?_ GE208.out) | exact HB.out)⟩
      ·rw [if_neg c67] at H
       exact absurd H (by simp)
     ·rw [if_neg c62] at H
      exact absurd H (by simp)
    ·rw [if_neg c61] at H
     exact absurd H (by simp)
 ·replace c5 := Bool.eq_false_iff.mpr c5
  subst c5
  have H1 : ((saronlaw03_filed.f).bind fun t188 => (some t188)) = some r := by rw [if_neg (show ¬ (false = true) by decide)] at H; exact H
  clear H
  have H := H1
  clear H1
  replace H := Option.bind_eq_some_iff.mp H
  obtain ⟨t188, A1350, H⟩ := H
  replace H : (some t188) = some r := H
  have A135 := Aside0.mk A1350
  clear A1350
  obtain rfl := Option.some.inj H
  go_enter Tryd.func10, Tryd.ntmps10
  go_wp2_with (first | ((with_reducible refine gate_dst (N := 3) rfl ?_); refine box_event ?hg (N := 3) ?hd (cs := #[.slice A0_0 l0_0.length c0_0, .int .i64 a0_1, .int .i64 a0_2, .slice A0_3 l0_3.length c0_3]) (t := 27) ?hr ?_; (case hd => rfl); (case hg => rfl); (case hr => exact TS); intro gb184 hg w136 hbox hb; have BK184 := Aside0.mk (hbox); have GW184 := Aside0.mk ((TG : w.heap.size ≤ gb184)); have GE184 := Aside0.mk ((TG : w.heap.size ≤ gb184)); replace HB := Aside0.mk (below_step TB hb); clear hb hbox hg) | ((with_reducible refine gate_dst (N := 4) rfl ?_); refine box_event ?hg (N := 4) ?hd (cs := #[.int .i64 a1_0, .int .i64 a1_1]) (t := 28) ?hr ?_; (case hd => rfl); (case hg => rfl); (case hr => exact TS); intro gb185 hg w137 hbox hb; have BK185 := Aside0.mk (hbox); have GW185 := Aside0.mk ((TG1 GE184.out : w.heap.size ≤ gb185)); have GE185 := Aside0.mk ((TG1 GE184.out : w.heap.size ≤ gb185)); have NB184_185 := Aside0.mk ((by rw [hg]; exact Nat.ne_of_lt (blk_lt (g := gb184) (o := .cells #[.slice A0_0 l0_0.length c0_0, .int .i64 a0_1, .int .i64 a0_2, .slice A0_3 l0_3.length c0_3] 27 (0, 0)) (by (with_reducible repeat (first | refine blk_drewN ?_ _ | refine blk_drew ?_ | refine blk_alloc ?_ _)); exact BK184.out)) : gb184 ≠ gb185)); have NB185_184 := Aside0.mk ((by rw [hg]; exact Nat.ne_of_gt (blk_lt (g := gb184) (o := .cells #[.slice A0_0 l0_0.length c0_0, .int .i64 a0_1, .int .i64 a0_2, .slice A0_3 l0_3.length c0_3] 27 (0, 0)) (by (with_reducible repeat (first | refine blk_drewN ?_ _ | refine blk_drew ?_ | refine blk_alloc ?_ _)); exact BK184.out)) : gb185 ≠ gb184)); replace BK184 := Aside0.mk (blk_below (g := gb184) (o := .cells #[.slice A0_0 l0_0.length c0_0, .int .i64 a0_1, .int .i64 a0_2, .slice A0_3 l0_3.length c0_3] 27 (0, 0)) (by (with_reducible repeat (first | refine blk_drewN ?_ _ | refine blk_drew ?_ | refine blk_alloc ?_ _)); exact BK184.out) hb); replace HB := Aside0.mk (below_step (TB1 GE184.out) hb); clear hb hbox hg) | ((with_reducible refine gate_dst (N := 5) rfl ?_); refine box_event ?hg (N := 5) ?hd (cs := #[.int .i64 a2_0, .int .i64 a2_1, .int .i64 a2_2]) (t := 65) ?hr ?_; (case hd => rfl); (case hg => rfl); (case hr => exact TS); intro gb186 hg w138 hbox hb; have BK186 := Aside0.mk (hbox); have GW186 := Aside0.mk ((TG2 GE184.out GE185.out : w.heap.size ≤ gb186)); have GE186 := Aside0.mk ((TG2 GE184.out GE185.out : w.heap.size ≤ gb186)); have NB184_186 := Aside0.mk ((by rw [hg]; exact Nat.ne_of_lt (blk_lt (g := gb184) (o := .cells #[.slice A0_0 l0_0.length c0_0, .int .i64 a0_1, .int .i64 a0_2, .slice A0_3 l0_3.length c0_3] 27 (0, 0)) (by (with_reducible repeat (first | refine blk_drewN ?_ _ | refine blk_drew ?_ | refine blk_alloc ?_ _)); exact BK184.out)) : gb184 ≠ gb186)); have NB186_184 := Aside0.mk ((by rw [hg]; exact Nat.ne_of_gt (blk_lt (g := gb184) (o := .cells #[.slice A0_0 l0_0.length c0_0, .int .i64 a0_1, .int .i64 a0_2, .slice A0_3 l0_3.length c0_3] 27 (0, 0)) (by (with_reducible repeat (first | refine blk_drewN ?_ _ | refine blk_drew ?_ | refine blk_alloc ?_ _)); exact BK184.out)) : gb186 ≠ gb184)); have NB185_186 := Aside0.mk ((by rw [hg]; exact Nat.ne_of_lt (blk_lt (g := gb185) (o := .cells #[.int .i64 a1_0, .int .i64 a1_1] 28 (0, 0)) (by (with_reducible repeat (first | refine blk_drewN ?_ _ | refine blk_drew ?_ | refine blk_alloc ?_ _)); exact BK185.out)) : gb185 ≠ gb186)); have NB186_185 := Aside0.mk ((by rw [hg]; exact Nat.ne_of_gt (blk_lt (g := gb185) (o := .cells #[.int .i64 a1_0, .int .i64 a1_1] 28 (0, 0)) (by (with_reducible repeat (first | refine blk_drewN ?_ _ | refine blk_drew ?_ | refine blk_alloc ?_ _)); exact BK185.out)) : gb186 ≠ gb185)); replace BK184 := Aside0.mk (blk_below (g := gb184) (o := .cells #[.slice A0_0 l0_0.length c0_0, .int .i64 a0_1, .int .i64 a0_2, .slice A0_3 l0_3.length c0_3] 27 (0, 0)) (by (with_reducible repeat (first | refine blk_drewN ?_ _ | refine blk_drew ?_ | refine blk_alloc ?_ _)); exact BK184.out) hb); replace BK185 := Aside0.mk (blk_below (g := gb185) (o := .cells #[.int .i64 a1_0, .int .i64 a1_1] 28 (0, 0)) (by (with_reducible repeat (first | refine blk_drewN ?_ _ | refine blk_drew ?_ | refine blk_alloc ?_ _)); exact BK185.out) hb); replace HB := Aside0.mk (below_step (TB2 GE184.out GE185.out) hb); clear hb hbox hg; have hnb139 := NB184_185.out; have hnc139 := NB185_184.out; have hnb140 := NB184_186.out; have hnc140 := NB186_184.out; have hcz141_0 := czz BK184.out 0; have hcz141_1 := czz BK184.out 1; have hcz141_2 := czz BK184.out 2; have hcz141_3 := czz BK184.out 3; have hfz141_0 := fz BK184.out 0; have hfz141_1 := fz BK184.out 1; have hfz141_2 := fz BK184.out 2; have hfz141_3 := fz BK184.out 3) | ((with_reducible refine gate_callee (f := 37) rfl ?_); refine goesL_ (some 25) rfl rfl Tryd.func37 (by kernel_rfl) rfl #[.agg #[.slice A0_0 l0_0.length c0_0, .int .i64 a0_1, .int .i64 a0_2, .slice A0_3 l0_3.length c0_3]] rfl TM ?_; (with_reducible refine (saronlaw03_sound.calls k _ _ l0_0 a0_1 a0_2 _ _ l0_3 false _ ?side1 ?side2 ?side3 ?side4 A4.out).mono ?_); (case side1 => exact TC HR0_0.out); (case side2 => exact HC0_0.out); (case side3 => exact TC HR0_3.out); (case side4 => exact HC0_3.out); rintro e w142 ⟨rfl, hb⟩; refine ⟨_, rfl, ?_⟩; replace BK184 := Aside0.mk (blk_below (g := gb184) (o := .cells #[.slice A0_0 l0_0.length c0_0, .int .i64 a0_1, .int .i64 a0_2, .slice A0_3 l0_3.length c0_3] 27 (0, 0)) (by (with_reducible repeat (first | refine blk_drewN ?_ _ | refine blk_drew ?_ | refine blk_alloc ?_ _)); exact BK184.out) hb); replace BK185 := Aside0.mk (blk_below (g := gb185) (o := .cells #[.int .i64 a1_0, .int .i64 a1_1] 28 (0, 0)) (by (with_reducible repeat (first | refine blk_drewN ?_ _ | refine blk_drew ?_ | refine blk_alloc ?_ _)); exact BK185.out) hb); replace BK186 := Aside0.mk (blk_below (g := gb186) (o := .cells #[.int .i64 a2_0, .int .i64 a2_1, .int .i64 a2_2] 65 (0, 0)) (by (with_reducible repeat (first | refine blk_drewN ?_ _ | refine blk_drew ?_ | refine blk_alloc ?_ _)); exact BK186.out) hb); replace HB := Aside0.mk (below_step (TB3 GE184.out GE185.out GE186.out) hb); (try clear hb); (try clear hb2); (try clear hk); (try clear hi)) | ((with_reducible refine gate_callee (f := 22) rfl ?_); refine goesL_ (some 27) rfl rfl Tryd.func22 (by kernel_rfl) rfl #[] rfl TM ?_; (with_reducible refine (saronlaw03_filed.calls  t188 _ ?side1 A135.out).mono ?_); (case side1 => exact Glob.fr HG.out (Fr.of_below (TB3 GE184.out GE185.out GE186.out))); rintro e w143 ⟨rfl, hb⟩; refine ⟨_, rfl, ?_⟩; replace BK184 := Aside0.mk (blk_below (g := gb184) (o := .cells #[.slice A0_0 l0_0.length c0_0, .int .i64 a0_1, .int .i64 a0_2, .slice A0_3 l0_3.length c0_3] 27 (0, 0)) (by (with_reducible repeat (first | refine blk_drewN ?_ _ | refine blk_drew ?_ | refine blk_alloc ?_ _)); exact BK184.out) hb); replace BK185 := Aside0.mk (blk_below (g := gb185) (o := .cells #[.int .i64 a1_0, .int .i64 a1_1] 28 (0, 0)) (by (with_reducible repeat (first | refine blk_drewN ?_ _ | refine blk_drew ?_ | refine blk_alloc ?_ _)); exact BK185.out) hb); replace BK186 := Aside0.mk (blk_below (g := gb186) (o := .cells #[.int .i64 a2_0, .int .i64 a2_1, .int .i64 a2_2] 65 (0, 0)) (by (with_reducible repeat (first | refine blk_drewN ?_ _ | refine blk_drew ?_ | refine blk_alloc ?_ _)); exact BK186.out) hb); replace HB := Aside0.mk (below_step (TB3 GE184.out GE185.out GE186.out) hb); (try clear hb); (try clear hb2); (try clear hk); (try clear hi)))
  go_ret
  exact ⟨TR, TB3 GE184.out GE185.out GE186.out⟩
end Go.Proofs.YtfmpbkolpjlfbaaDoor.PRaspKeys
