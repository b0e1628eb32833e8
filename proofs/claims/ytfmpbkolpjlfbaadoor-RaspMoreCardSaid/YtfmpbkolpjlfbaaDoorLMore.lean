import Derived.Test.YtfmpbkolpjlfbaaDoorG5
import Derived.Test.YtfmpbkolpjlfbaaDoorCS
import Derived.Test.YtfmpbkolpjlfbaaDoorCH
import Derived.Test.YtfmpbkolpjlfbaaDoorM0
import Derived.Test.YtfmpbkolpjlfbaaDoorProg
import Derived.Below
import Derived.Deep.Draws
import Derived.Deep.AppendLies
import Derived.Maps.AppendAt
import Derived.OwnWalk
import Derived.Laws.BytesArg
import Derived.Laws.MakeOwn
import Derived.Laws.OwnMore
import Derived.Deep.OwnRows
import Derived.Tactics
import Derived.Lib.ConvBytes
import Derived.Laws.Slices
import Derived.WalkKit
import Derived.KernelRfl
import Derived.RowKit3
import Derived.Deep.LoopGhost
import Derived.Deep.QuietTactic
import Derived.BigQuiet
import Derived.WideLaws
import Derived.Deep.DeepCutAuto
import Derived.Deep.CutBlock
import Derived.Deep.RegionHeld3
import Derived.Laws.Rows
import Derived.Lib.AppendStr
import Derived.ArgAppend
import Derived.Laws.IdiomCopy
import Derived.OrdersHeld
import Derived.Laws.BitsLemmas
import Derived.RowKit
set_option linter.unusedVariables false
set_option linter.unusedSimpArgs false
namespace Go.Proofs.YtfmpbkolpjlfbaaDoor.M
open Go.RowKit Go.Proofs.YtfmpbkolpjlfbaaDoorW.PrintWords Go.Proofs.YtfmpbkolpjlfbaaDoorW.PrintLast
theorem czz {w : World} {g : Nat} {cs : Array Value} {t : TypeId} {v : Value} (h : w.heap[g]? = some (.cells cs t (0, 0))) (i : Nat) (hv : cs[i]? = some v := by (first | (simp only [List.getElem?_toArray, List.getElem?_cons_zero, List.getElem?_cons_succ]; rfl) | exact rfl)) : w.cell? ⟨g, i, none⟩ = some v := (blk_cell h i).trans hv
end Go.Proofs.YtfmpbkolpjlfbaaDoor.M
namespace Go.Proofs.YtfmpbkolpjlfbaaDoor.M
open Go.RowKit Go.Proofs.YtfmpbkolpjlfbaaDoorW.PrintWords Go.Proofs.YtfmpbkolpjlfbaaDoorW.PrintLast
theorem TG3 {p q r s : Prop} (g : q) (g' : r) (g3 : s) (h : q → r → s → p := by (intro g g' g3; rw [hg]; exact (below_size (by repeat (first | (with_reducible first | exact HB.out | apply below_alloc | apply pw_below_drewN | apply below_drew1 | refine below_set ?_ g | refine below_set ?_ g' | refine below_set ?_ g3) | exact HB.out))))) : p := h g g' g3
end Go.Proofs.YtfmpbkolpjlfbaaDoor.M
namespace Go.Proofs.YtfmpbkolpjlfbaaDoor.PRaspKeys
open Go.RowKit Go.Proofs.YtfmpbkolpjlfbaaDoorW.PrintWords Go.Proofs.YtfmpbkolpjlfbaaDoorW.PrintLast Go.Proofs.YtfmpbkolpjlfbaaDoorW.PrintMore Go.Proofs.YtfmpbkolpjlfbaaDoor.M
attribute [local go_sem] max2_int min2_int max_two min_two max_three min_three max_four min_four   -- for this text's walks alone
/-! #### struct type 24 -/
/-! #### struct type 57 -/
/-! #### struct type 69 -/
end Go.Proofs.YtfmpbkolpjlfbaaDoor.PRaspKeys
namespace Go.Proofs.YtfmpbkolpjlfbaaDoor.PRaspKeys
open Go.RowKit Go.Proofs.YtfmpbkolpjlfbaaDoorW.PrintWords Go.Proofs.YtfmpbkolpjlfbaaDoorW.PrintLast Go.Proofs.YtfmpbkolpjlfbaaDoorW.PrintMore Go.Proofs.YtfmpbkolpjlfbaaDoor.M
attribute [local go_sem] max2_int min2_int max_two min_two max_three min_three max_four min_four   -- for this text's walks alone
end Go.Proofs.YtfmpbkolpjlfbaaDoor.PRaspKeys
namespace Go.Proofs.YtfmpbkolpjlfbaaDoor.PRaspKeys
open Go.RowKit Go.Proofs.YtfmpbkolpjlfbaaDoorW.PrintWords Go.Proofs.YtfmpbkolpjlfbaaDoorW.PrintLast Go.Proofs.YtfmpbkolpjlfbaaDoorW.PrintMore Go.Proofs.YtfmpbkolpjlfbaaDoor.M
attribute [local go_sem] max2_int min2_int max_two min_two max_three min_three max_four min_four   -- for this text's walks alone
/-! ### saronlaw03_RaspMore: function 9 -/
mutual
def saronlaw03_RaspMore.j0 : Nat → Int → Int → Int → Int → Int → Bool → List (S57) → Int → Int → List (S69) → Int → Int → Int → Option (Bool)
 | 0, _, _, _, _, _, _, _, _, _, _, _, _, _ => none
 | k + 1, x3, x9, x10, x13, x14, x104, x185000, x185001, x185002, x185003, x186000, x186001, x186002 => if x104 = true then (some false) else ((some (([] : List (S57)) : List (S57))).bind fun y205 => (if y205.length + x185000.length < 5864062014805 then ((some (y205 ++ x185000 : List (S57))).bind fun y208 => ((saronref00_Turn.f x3 (x185000.length : Int)).bind fun t211 => (if 0 ≤ t211 then (if t211 < (x185000.length : Int) then ((saronref00_Band.f 1 ((rd_T57 x185000 t211).f1)).bind fun bt214 => ((saronref00_Draw.f bt214.1 bt214.2 x3).bind fun t216 => (if t211 < (y208.length : Int) then ((rasp_Next.f (y208.set (t211 : Int).toNat (⟨(⟨(rd_T57 x185000 t211).f0.f0, (rd_T57 x185000 t211).f0.f1⟩ : S24), t216⟩ : S57)) x185001 x185002 x185003 x9 x10).bind fun bt218 => (if x14 = 0 then (if bt218.2.2 = 0 then (saronlaw03_RaspMore.j1 k x9 x10 x13 x14 (decide (bt218.2.1 > x13)) x185000 x185001 x185002 x185003 x186000 x186001 x186002) else (saronlaw03_RaspMore.j1 k x9 x10 x13 x14 true x185000 x185001 x185002 x185003 x186000 x186001 x186002)) else (saronlaw03_RaspMore.j1 k x9 x10 x13 x14 false x185000 x185001 x185002 x185003 x186000 x186001 x186002))) else (none)))) else (none)) else (none)))) else (none)))
def saronlaw03_RaspMore.j1 : Nat → Int → Int → Int → Int → Bool → List (S57) → Int → Int → List (S69) → Int → Int → Int → Option (Bool)
 | 0, _, _, _, _, _, _, _, _, _, _, _, _ => none
 | k + 1, x9, x10, x13, x14, x150, x185000, x185001, x185002, x185003, x186000, x186001, x186002 => if x150 = true then (some false) else (if (x185000.length : Int) = 4 then ((saronlaw03_filed.f).bind fun t221 => (some t221)) else ((some (([] : List (S57)) : List (S57))).bind fun y222 => (if y222.length + x185000.length < 5864062014805 then ((some (y222 ++ x185000 : List (S57))).bind fun y225 => ((some (([(⟨(⟨x186000, x186001⟩ : S24), x186002⟩ : S57)] : List (S57)) : List (S57))).bind fun y228 => (if y225.length + y228.length < 5864062014805 then (saronlaw03_RaspMore.j2 k x9 x10 x13 x14 (y225 ++ y228) x185001 x185002 x185003) else (none)))) else (none))))
def saronlaw03_RaspMore.j2 : Nat → Int → Int → Int → Int → List (S57) → Int → Int → List (S69) → Option (Bool)
 | 0, _, _, _, _, _, _, _, _ => none
 | k + 1, x9, x10, x13, x14, x205000, x205001, x205002, x205003 => (rasp_Next.f x205000 x205001 x205002 x205003 x9 x10).bind fun bt234 => (saronlaw03_RaspMore.j3 k x13 x14 bt234.2.1 bt234.2.2)
def saronlaw03_RaspMore.j3 : Nat → Int → Int → Int → Int → Option (Bool)
 | 0, _, _, _, _ => none
 | k + 1, x13, x14, x16, x17 => if x17 = 30 then (if x17 = 0 then ((saronlaw03_filed.f).bind fun t237 => (some t237)) else ((saronlaw03_filed.f).bind fun t238 => (some t238))) else (if x14 = 0 then (if x17 = 0 then (if x16 ≤ x13 then ((saronlaw03_filed.f).bind fun t239 => (some t239)) else (some false)) else (some false)) else (if x17 = 0 then ((saronlaw03_filed.f).bind fun t240 => (some t240)) else (if x17 = 4 then ((saronlaw03_filed.f).bind fun t241 => (some t241)) else (some false))))
end
def saronlaw03_RaspMore.f (k : Nat) (l0_0 : List (S57)) (a0_1 : Int) (a0_2 : Int) (l0_3 : List (S69)) (a1_0 : Int) (a1_1 : Int) (a1_2 : Int) (a2_0 : Int) (a2_1 : Int) (a3 : Int) : Option (Bool) := (saronlaw03_sound.f k l0_0 a0_1 a0_2 l0_3).bind fun t187 => (if t187 = true then ((saronlaw03_state.f a2_0 a2_1).bind fun bt189 => ((saronref00_Band.f bt189.2 30).bind fun bt191 => ((saronref00_Draw.f bt191.1 bt191.2 a3).bind fun t193 => ((rasp_Next.f l0_0 a0_1 a0_2 l0_3 bt189.1 bt189.2).bind fun bt194 => ((rasp_Next.f l0_0 a0_1 a0_2 l0_3 bt189.1 t193).bind fun bt197 => ((rasp_Lucky.f l0_0 a0_1 a0_2 l0_3 bt189.1 bt189.2).bind fun bt200 => ((rasp_Lucky.f l0_0 a0_1 a0_2 l0_3 bt189.1 t193).bind fun bt202 => (if bt194.2.2 = 0 then (if bt197.2.2 = 0 then (if bt197.2.1 > bt194.2.1 then (saronlaw03_RaspMore.j0 k a3 bt189.1 bt189.2 bt194.2.1 bt194.2.2 true l0_0 a0_1 a0_2 l0_3 a1_0 a1_1 a1_2) else (if bt200.2 = 0 then (if bt202.2 = 0 then (if bt202.1 > bt200.1 then (saronlaw03_RaspMore.j0 k a3 bt189.1 bt189.2 bt194.2.1 bt194.2.2 true l0_0 a0_1 a0_2 l0_3 a1_0 a1_1 a1_2) else (saronlaw03_RaspMore.j0 k a3 bt189.1 bt189.2 bt194.2.1 bt194.2.2 (decide (bt200.1 > bt194.2.1)) l0_0 a0_1 a0_2 l0_3 a1_0 a1_1 a1_2)) else (saronlaw03_RaspMore.j0 k a3 bt189.1 bt189.2 bt194.2.1 bt194.2.2 true l0_0 a0_1 a0_2 l0_3 a1_0 a1_1 a1_2)) else (saronlaw03_RaspMore.j0 k a3 bt189.1 bt189.2 bt194.2.1 bt194.2.2 true l0_0 a0_1 a0_2 l0_3 a1_0 a1_1 a1_2))) else (saronlaw03_RaspMore.j0 k a3 bt189.1 bt189.2 bt194.2.1 bt194.2.2 true l0_0 a0_1 a0_2 l0_3 a1_0 a1_1 a1_2)) else (if bt200.2 = 0 then (if bt202.2 = 0 then (if bt202.1 > bt200.1 then (saronlaw03_RaspMore.j0 k a3 bt189.1 bt189.2 bt194.2.1 bt194.2.2 true l0_0 a0_1 a0_2 l0_3 a1_0 a1_1 a1_2) else (saronlaw03_RaspMore.j0 k a3 bt189.1 bt189.2 bt194.2.1 bt194.2.2 false l0_0 a0_1 a0_2 l0_3 a1_0 a1_1 a1_2)) else (saronlaw03_RaspMore.j0 k a3 bt189.1 bt189.2 bt194.2.1 bt194.2.2 true l0_0 a0_1 a0_2 l0_3 a1_0 a1_1 a1_2)) else (saronlaw03_RaspMore.j0 k a3 bt189.1 bt189.2 bt194.2.1 bt194.2.2 false l0_0 a0_1 a0_2 l0_3 a1_0 a1_1 a1_2)))))))))) else ((saronlaw03_filed.f).bind fun t188 => (some t188)))
theorem saronlaw03_RaspMore.mono_l : ∀ k, (∀ y0 y1 y2 y3 y4 y5 y6 y7 y8 y9 y10 y11 y12, LeO (saronlaw03_RaspMore.j0 k y0 y1 y2 y3 y4 y5 y6 y7 y8 y9 y10 y11 y12) (saronlaw03_RaspMore.j0 (k + 1) y0 y1 y2 y3 y4 y5 y6 y7 y8 y9 y10 y11 y12)) ∧ (∀ y0 y1 y2 y3 y4 y5 y6 y7 y8 y9 y10 y11, LeO (saronlaw03_RaspMore.j1 k y0 y1 y2 y3 y4 y5 y6 y7 y8 y9 y10 y11) (saronlaw03_RaspMore.j1 (k + 1) y0 y1 y2 y3 y4 y5 y6 y7 y8 y9 y10 y11)) ∧ (∀ y0 y1 y2 y3 y4 y5 y6 y7, LeO (saronlaw03_RaspMore.j2 k y0 y1 y2 y3 y4 y5 y6 y7) (saronlaw03_RaspMore.j2 (k + 1) y0 y1 y2 y3 y4 y5 y6 y7)) ∧ (∀ y0 y1 y2 y3, LeO (saronlaw03_RaspMore.j3 k y0 y1 y2 y3) (saronlaw03_RaspMore.j3 (k + 1) y0 y1 y2 y3))
 | 0 => ⟨fun _ _ _ _ _ _ _ _ _ _ _ _ _ r h => by simp [saronlaw03_RaspMore.j0] at h, fun _ _ _ _ _ _ _ _ _ _ _ _ r h => by simp [saronlaw03_RaspMore.j1] at h, fun _ _ _ _ _ _ _ _ r h => by simp [saronlaw03_RaspMore.j2] at h, fun _ _ _ _ r h => by simp [saronlaw03_RaspMore.j3] at h⟩
 | k + 1 => by
  obtain ⟨ih0, ih1, ih2, ih3⟩ := saronlaw03_RaspMore.mono_l k
  refine ⟨?_, ?_, ?_, ?_⟩
  ·intro y0 y1 y2 y3 y4 y5 y6 y7 y8 y9 y10 y11 y12
   unfold saronlaw03_RaspMore.j0
   repeat' first
   | (with_reducible exact ih0 _ _ _ _ _ _ _ _ _ _ _ _ _)
   | (with_reducible exact ih1 _ _ _ _ _ _ _ _ _ _ _ _)
   | (with_reducible exact ih2 _ _ _ _ _ _ _ _)
   | (with_reducible exact ih3 _ _ _ _)
   | (with_reducible exact saronlaw03_sound.mono _ _ _ _ _)
   | (with_reducible exact LeO.refl _)
   | (with_reducible exact LeO.none _)
   | (with_reducible refine LeO.ite ?_ ?_)
   | (with_reducible refine LeO.bind ?_ (fun _ => ?_))
   | exact ih0 _ _ _ _ _ _ _ _ _ _ _ _ _
   | exact ih1 _ _ _ _ _ _ _ _ _ _ _ _
   | exact ih2 _ _ _ _ _ _ _ _
   | exact ih3 _ _ _ _
   | exact saronlaw03_sound.mono _ _ _ _ _
   | exact LeO.none _
   | refine LeO.ite ?_ ?_
   | refine LeO.bind ?_ (fun _ => ?_)
  ·intro y0 y1 y2 y3 y4 y5 y6 y7 y8 y9 y10 y11
   unfold saronlaw03_RaspMore.j1
   repeat' first
   | (with_reducible exact ih0 _ _ _ _ _ _ _ _ _ _ _ _ _)
   | (with_reducible exact ih1 _ _ _ _ _ _ _ _ _ _ _ _)
   | (with_reducible exact ih2 _ _ _ _ _ _ _ _)
   | (with_reducible exact ih3 _ _ _ _)
   | (with_reducible exact saronlaw03_sound.mono _ _ _ _ _)
   | (with_reducible exact LeO.refl _)
   | (with_reducible exact LeO.none _)
   | (with_reducible refine LeO.ite ?_ ?_)
   | (with_reducible refine LeO.bind ?_ (fun _ => ?_))
   | exact ih0 _ _ _ _ _ _ _ _ _ _ _ _ _
   | exact ih1 _ _ _ _ _ _ _ _ _ _ _ _
   | exact ih2 _ _ _ _ _ _ _ _
   | exact ih3 _ _ _ _
   | exact saronlaw03_sound.mono _ _ _ _ _
   | exact LeO.none _
   | refine LeO.ite ?_ ?_
   | refine LeO.bind ?_ (fun _ => ?_)
  ·intro y0 y1 y2 y3 y4 y5 y6 y7
   unfold saronlaw03_RaspMore.j2
   repeat' first
   | (with_reducible exact ih0 _ _ _ _ _ _ _ _ _ _ _ _ _)
   | (with_reducible exact ih1 _ _ _ _ _ _ _ _ _ _ _ _)
   | (with_reducible exact ih2 _ _ _ _ _ _ _ _)
   | (with_reducible exact ih3 _ _ _ _)
   | (with_reducible exact saronlaw03_sound.mono _ _ _ _ _)
   | (with_reducible exact LeO.refl _)
   | (with_reducible exact LeO.none _)
   | (with_reducible refine LeO.ite ?_ ?_)
   | (with_reducible refine LeO.bind ?_ (fun _ => ?_))
   | exact ih0 _ _ _ _ _ _ _ _ _ _ _ _ _
   | exact ih1 _ _ _ _ _ _ _ _ _ _ _ _
   | exact ih2 _ _ _ _ _ _ _ _
   | exact ih3 _ _ _ _
   | exact saronlaw03_sound.mono _ _ _ _ _
   | exact LeO.none _
   | refine LeO.ite ?_ ?_
   | refine LeO.bind ?_ (fun _ => ?_)
  ·intro y0 y1 y2 y3
   unfold saronlaw03_RaspMore.j3
   repeat' first
   | (with_reducible exact ih0 _ _ _ _ _ _ _ _ _ _ _ _ _)
   | (with_reducible exact ih1 _ _ _ _ _ _ _ _ _ _ _ _)
   | (with_reducible exact ih2 _ _ _ _ _ _ _ _)
   | (with_reducible exact ih3 _ _ _ _)
   | (with_reducible exact saronlaw03_sound.mono _ _ _ _ _)
   | (with_reducible exact LeO.refl _)
   | (with_reducible exact LeO.none _)
   | (with_reducible refine LeO.ite ?_ ?_)
   | (with_reducible refine LeO.bind ?_ (fun _ => ?_))
   | exact ih0 _ _ _ _ _ _ _ _ _ _ _ _ _
   | exact ih1 _ _ _ _ _ _ _ _ _ _ _ _
   | exact ih2 _ _ _ _ _ _ _ _
   | exact ih3 _ _ _ _
   | exact saronlaw03_sound.mono _ _ _ _ _
   | exact LeO.none _
   | refine LeO.ite ?_ ?_
   | refine LeO.bind ?_ (fun _ => ?_)
theorem saronlaw03_RaspMore.mono : ∀ a0 a1 a2 a3 a4 a5 a6 a7 a8 a9 k, LeO (saronlaw03_RaspMore.f k a0 a1 a2 a3 a4 a5 a6 a7 a8 a9) (saronlaw03_RaspMore.f (k + 1) a0 a1 a2 a3 a4 a5 a6 a7 a8 a9) := by
 intro a0 a1 a2 a3 a4 a5 a6 a7 a8 a9 k
 obtain ⟨ih0, ih1, ih2, ih3⟩ := saronlaw03_RaspMore.mono_l k
 unfold saronlaw03_RaspMore.f
 repeat' first
   | (with_reducible exact ih0 _ _ _ _ _ _ _ _ _ _ _ _ _)
   | (with_reducible exact ih1 _ _ _ _ _ _ _ _ _ _ _ _)
   | (with_reducible exact ih2 _ _ _ _ _ _ _ _)
   | (with_reducible exact ih3 _ _ _ _)
   | (with_reducible exact saronlaw03_sound.mono _ _ _ _ _)
   | (with_reducible exact LeO.refl _)
   | (with_reducible exact LeO.none _)
   | (with_reducible refine LeO.ite ?_ ?_)
   | (with_reducible refine LeO.bind ?_ (fun _ => ?_))
   | exact ih0 _ _ _ _ _ _ _ _ _ _ _ _ _
   | exact ih1 _ _ _ _ _ _ _ _ _ _ _ _
   | exact ih2 _ _ _ _ _ _ _ _
   | exact ih3 _ _ _ _
   | exact saronlaw03_sound.mono _ _ _ _ _
   | exact LeO.none _
   | refine LeO.ite ?_ ?_
   | refine LeO.bind ?_ (fun _ => ?_)
def saronlaw03_RaspMore.T23 : Bool × List (List Nat × List Nat) := (true, [([], []), ([], []), ([1], [1]), ([0, 2], [0, 2]), ([], []), ([4], [4]), ([3, 5, 3], [3, 5]), ([0, 1, 2, 3, 4, 5, 6], []), ([7, 6, 6, 0, 1, 2, 3, 4, 5, 6], [6, 7])])
def saronlaw03_RaspMore.B23 : List Nat := [0, 0, 2, 7, 0, 16, 63, 127, 255]
theorem saronlaw03_RaspMore.tab23 : rtab .any (opsOf Tryd.f9 23) = saronlaw03_RaspMore.T23 := by kernel_rfl
theorem saronlaw03_RaspMore.bits23 : waitsOk saronlaw03_RaspMore.T23.2 saronlaw03_RaspMore.B23 = true := by kernel_rfl
set_option maxHeartbeats 8000000 in
set_option maxRecDepth 100000 in
theorem saronlaw03_RaspMore.calls (k : Nat) (A0_0 : Option Addr) (c0_0 : Nat) (l0_0 : List (S57)) (a0_1 : Int) (a0_2 : Int) (A0_3 : Option Addr) (c0_3 : Nat) (l0_3 : List (S69)) (a1_0 : Int) (a1_1 : Int) (a1_2 : Int) (a2_0 : Int) (a2_1 : Int) (a3 : Int) (r : Bool) (w : World) (hr0_0 : Kd.C k57 w A0_0 l0_0.length l0_0) (hc0_0 : l0_0.length ≤ c0_0) (hr0_3 : Kd.C k69 w A0_3 l0_3.length l0_3) (hc0_3 : l0_3.length ≤ c0_3) (hG : Glob w) (h : saronlaw03_RaspMore.f k l0_0 a0_1 a0_2 l0_3 a1_0 a1_1 a1_2 a2_0 a2_1 a3 = some r) :
  Calls Tryd.prog 9 #[.agg #[.slice A0_0 l0_0.length c0_0, .int .i64 a0_1, .int .i64 a0_2, .slice A0_3 l0_3.length c0_3], .agg #[.int .i64 a1_0, .int .i64 a1_1, .int .i64 a1_2], .agg #[.int .i64 a2_0, .int .i64 a2_1], .int .i64 a3] w fun e w' => e = .returned (.bool r) ∧ Below w.heap.size w w' := by
 have hu27 := Tryd.underlying27
 have hu57 := Tryd.underlying57
 have hu28 := Tryd.underlying28
 have HR0_0 := Aside0.mk hr0_0
 have HC0_0 := Aside0.mk hc0_0
 clear hr0_0 hc0_0
 have HR0_3 := Aside0.mk hr0_3
 have HC0_3 := Aside0.mk hc0_3
 clear hr0_3 hc0_3
 have HB := Aside0.mk (Below.refl w.heap.size w)
 have HG := Aside0.mk hG
 clear hG
 have H : ((saronlaw03_sound.f k l0_0 a0_1 a0_2 l0_3).bind fun t187 => (if t187 = true then ((saronlaw03_state.f a2_0 a2_1).bind fun bt189 => ((saronref00_Band.f bt189.2 30).bind fun bt191 => ((saronref00_Draw.f bt191.1 bt191.2 a3).bind fun t193 => ((rasp_Next.f l0_0 a0_1 a0_2 l0_3 bt189.1 bt189.2).bind fun bt194 => ((rasp_Next.f l0_0 a0_1 a0_2 l0_3 bt189.1 t193).bind fun bt197 => ((rasp_Lucky.f l0_0 a0_1 a0_2 l0_3 bt189.1 bt189.2).bind fun bt200 => ((rasp_Lucky.f l0_0 a0_1 a0_2 l0_3 bt189.1 t193).bind fun bt202 => (if bt194.2.2 = 0 then (if bt197.2.2 = 0 then (if bt197.2.1 > bt194.2.1 then (saronlaw03_RaspMore.j0 k a3 bt189.1 bt189.2 bt194.2.1 bt194.2.2 true l0_0 a0_1 a0_2 l0_3 a1_0 a1_1 a1_2) else (if bt200.2 = 0 then (if bt202.2 = 0 then (if bt202.1 > bt200.1 then (saronlaw03_RaspMore.j0 k a3 bt189.1 bt189.2 bt194.2.1 bt194.2.2 true l0_0 a0_1 a0_2 l0_3 a1_0 a1_1 a1_2) else (saronlaw03_RaspMore.j0 k a3 bt189.1 bt189.2 bt194.2.1 bt194.2.2 (decide (bt200.1 > bt194.2.1)) l0_0 a0_1 a0_2 l0_3 a1_0 a1_1 a1_2)) else (saronlaw03_RaspMore.j0 k a3 bt189.1 bt189.2 bt194.2.1 bt194.2.2 true l0_0 a0_1 a0_2 l0_3 a1_0 a1_1 a1_2)) else (saronlaw03_RaspMore.j0 k a3 bt189.1 bt189.2 bt194.2.1 bt194.2.2 true l0_0 a0_1 a0_2 l0_3 a1_0 a1_1 a1_2))) else (saronlaw03_RaspMore.j0 k a3 bt189.1 bt189.2 bt194.2.1 bt194.2.2 true l0_0 a0_1 a0_2 l0_3 a1_0 a1_1 a1_2)) else (if bt200.2 = 0 then (if bt202.2 = 0 then (if bt202.1 > bt200.1 then (saronlaw03_RaspMore.j0 k a3 bt189.1 bt189.2 bt194.2.1 bt194.2.2 true l0_0 a0_1 a0_2 l0_3 a1_0 a1_1 a1_2) else (saronlaw03_RaspMore.j0 k a3 bt189.1 bt189.2 bt194.2.1 bt194.2.2 false l0_0 a0_1 a0_2 l0_3 a1_0 a1_1 a1_2)) else (saronlaw03_RaspMore.j0 k a3 bt189.1 bt189.2 bt194.2.1 bt194.2.2 true l0_0 a0_1 a0_2 l0_3 a1_0 a1_1 a1_2)) else (saronlaw03_RaspMore.j0 k a3 bt189.1 bt189.2 bt194.2.1 bt194.2.2 false l0_0 a0_1 a0_2 l0_3 a1_0 a1_1 a1_2)))))))))) else ((saronlaw03_filed.f).bind fun t188 => (some t188)))) = some r := h
 clear h
 replace H := Option.bind_eq_some_iff.mp H
 obtain ⟨t187, A50, H⟩ := H
 replace H : (if t187 = true then ((saronlaw03_state.f a2_0 a2_1).bind fun bt189 => ((saronref00_Band.f bt189.2 30).bind fun bt191 => ((saronref00_Draw.f bt191.1 bt191.2 a3).bind fun t193 => ((rasp_Next.f l0_0 a0_1 a0_2 l0_3 bt189.1 bt189.2).bind fun bt194 => ((rasp_Next.f l0_0 a0_1 a0_2 l0_3 bt189.1 t193).bind fun bt197 => ((rasp_Lucky.f l0_0 a0_1 a0_2 l0_3 bt189.1 bt189.2).bind fun bt200 => ((rasp_Lucky.f l0_0 a0_1 a0_2 l0_3 bt189.1 t193).bind fun bt202 => (if bt194.2.2 = 0 then (if bt197.2.2 = 0 then (if bt197.2.1 > bt194.2.1 then (saronlaw03_RaspMore.j0 k a3 bt189.1 bt189.2 bt194.2.1 bt194.2.2 true l0_0 a0_1 a0_2 l0_3 a1_0 a1_1 a1_2) else (if bt200.2 = 0 then (if bt202.2 = 0 then (if bt202.1 > bt200.1 then (saronlaw03_RaspMore.j0 k a3 bt189.1 bt189.2 bt194.2.1 bt194.2.2 true l0_0 a0_1 a0_2 l0_3 a1_0 a1_1 a1_2) else (saronlaw03_RaspMore.j0 k a3 bt189.1 bt189.2 bt194.2.1 bt194.2.2 (decide (bt200.1 > bt194.2.1)) l0_0 a0_1 a0_2 l0_3 a1_0 a1_1 a1_2)) else (saronlaw03_RaspMore.j0 k a3 bt189.1 bt189.2 bt194.2.1 bt194.2.2 true l0_0 a0_1 a0_2 l0_3 a1_0 a1_1 a1_2)) else (saronlaw03_RaspMore.j0 k a3 bt189.1 bt189.2 bt194.2.1 bt194.2.2 true l0_0 a0_1 a0_2 l0_3 a1_0 a1_1 a1_2))) else (saronlaw03_RaspMore.j0 k a3 bt189.1 bt189.2 bt194.2.1 bt194.2.2 true l0_0 a0_1 a0_2 l0_3 a1_0 a1_1 a1_2)) else (if bt200.2 = 0 then (if bt202.2 = 0 then (if bt202.1 > bt200.1 then (saronlaw03_RaspMore.j0 k a3 bt189.1 bt189.2 bt194.2.1 bt194.2.2 true l0_0 a0_1 a0_2 l0_3 a1_0 a1_1 a1_2) else (saronlaw03_RaspMore.j0 k a3 bt189.1 bt189.2 bt194.2.1 bt194.2.2 false l0_0 a0_1 a0_2 l0_3 a1_0 a1_1 a1_2)) else (saronlaw03_RaspMore.j0 k a3 bt189.1 bt189.2 bt194.2.1 bt194.2.2 true l0_0 a0_1 a0_2 l0_3 a1_0 a1_1 a1_2)) else (saronlaw03_RaspMore.j0 k a3 bt189.1 bt189.2 bt194.2.1 bt194.2.2 false l0_0 a0_1 a0_2 l0_3 a1_0 a1_1 a1_2)))))))))) else ((saronlaw03_filed.f).bind fun t188 => (some t188))) = some r := H
 have A5 := Aside0.mk A50
 clear A50
 by_cases c6 : t187 = true
 ·subst c6
  have H1 : ((saronlaw03_state.f a2_0 a2_1).bind fun bt189 => ((saronref00_Band.f bt189.2 30).bind fun bt191 => ((saronref00_Draw.f bt191.1 bt191.2 a3).bind fun t193 => ((rasp_Next.f l0_0 a0_1 a0_2 l0_3 bt189.1 bt189.2).bind fun bt194 => ((rasp_Next.f l0_0 a0_1 a0_2 l0_3 bt189.1 t193).bind fun bt197 => ((rasp_Lucky.f l0_0 a0_1 a0_2 l0_3 bt189.1 bt189.2).bind fun bt200 => ((rasp_Lucky.f l0_0 a0_1 a0_2 l0_3 bt189.1 t193).bind fun bt202 => (if bt194.2.2 = 0 then (if bt197.2.2 = 0 then (if bt197.2.1 > bt194.2.1 then (saronlaw03_RaspMore.j0 k a3 bt189.1 bt189.2 bt194.2.1 bt194.2.2 true l0_0 a0_1 a0_2 l0_3 a1_0 a1_1 a1_2) else (if bt200.2 = 0 then (if bt202.2 = 0 then (if bt202.1 > bt200.1 then (saronlaw03_RaspMore.j0 k a3 bt189.1 bt189.2 bt194.2.1 bt194.2.2 true l0_0 a0_1 a0_2 l0_3 a1_0 a1_1 a1_2) else (saronlaw03_RaspMore.j0 k a3 bt189.1 bt189.2 bt194.2.1 bt194.2.2 (decide (bt200.1 > bt194.2.1)) l0_0 a0_1 a0_2 l0_3 a1_0 a1_1 a1_2)) else (saronlaw03_RaspMore.j0 k a3 bt189.1 bt189.2 bt194.2.1 bt194.2.2 true l0_0 a0_1 a0_2 l0_3 a1_0 a1_1 a1_2)) else (saronlaw03_RaspMore.j0 k a3 bt189.1 bt189.2 bt194.2.1 bt194.2.2 true l0_0 a0_1 a0_2 l0_3 a1_0 a1_1 a1_2))) else (saronlaw03_RaspMore.j0 k a3 bt189.1 bt189.2 bt194.2.1 bt194.2.2 true l0_0 a0_1 a0_2 l0_3 a1_0 a1_1 a1_2)) else (if bt200.2 = 0 then (if bt202.2 = 0 then (if bt202.1 > bt200.1 then (saronlaw03_RaspMore.j0 k a3 bt189.1 bt189.2 bt194.2.1 bt194.2.2 true l0_0 a0_1 a0_2 l0_3 a1_0 a1_1 a1_2) else (saronlaw03_RaspMore.j0 k a3 bt189.1 bt189.2 bt194.2.1 bt194.2.2 false l0_0 a0_1 a0_2 l0_3 a1_0 a1_1 a1_2)) else (saronlaw03_RaspMore.j0 k a3 bt189.1 bt189.2 bt194.2.1 bt194.2.2 true l0_0 a0_1 a0_2 l0_3 a1_0 a1_1 a1_2)) else (saronlaw03_RaspMore.j0 k a3 bt189.1 bt189.2 bt194.2.1 bt194.2.2 false l0_0 a0_1 a0_2 l0_3 a1_0 a1_1 a1_2)))))))))) = some r := by rw [if_pos rfl] at H; exact H
  clear H
  have H := H1
  clear H1
  replace H := Option.bind_eq_some_iff.mp H
  obtain ⟨⟨t189, t190⟩, A70, H⟩ := H
  replace H : ((saronref00_Band.f t190 30).bind fun bt191 => ((saronref00_Draw.f bt191.1 bt191.2 a3).bind fun t193 => ((rasp_Next.f l0_0 a0_1 a0_2 l0_3 t189 t190).bind fun bt194 => ((rasp_Next.f l0_0 a0_1 a0_2 l0_3 t189 t193).bind fun bt197 => ((rasp_Lucky.f l0_0 a0_1 a0_2 l0_3 t189 t190).bind fun bt200 => ((rasp_Lucky.f l0_0 a0_1 a0_2 l0_3 t189 t193).bind fun bt202 => (if bt194.2.2 = 0 then (if bt197.2.2 = 0 then (if bt197.2.1 > bt194.2.1 then (saronlaw03_RaspMore.j0 k a3 t189 t190 bt194.2.1 bt194.2.2 true l0_0 a0_1 a0_2 l0_3 a1_0 a1_1 a1_2) else (if bt200.2 = 0 then (if bt202.2 = 0 then (if bt202.1 > bt200.1 then (saronlaw03_RaspMore.j0 k a3 t189 t190 bt194.2.1 bt194.2.2 true l0_0 a0_1 a0_2 l0_3 a1_0 a1_1 a1_2) else (saronlaw03_RaspMore.j0 k a3 t189 t190 bt194.2.1 bt194.2.2 (decide (bt200.1 > bt194.2.1)) l0_0 a0_1 a0_2 l0_3 a1_0 a1_1 a1_2)) else (saronlaw03_RaspMore.j0 k a3 t189 t190 bt194.2.1 bt194.2.2 true l0_0 a0_1 a0_2 l0_3 a1_0 a1_1 a1_2)) else (saronlaw03_RaspMore.j0 k a3 t189 t190 bt194.2.1 bt194.2.2 true l0_0 a0_1 a0_2 l0_3 a1_0 a1_1 a1_2))) else (saronlaw03_RaspMore.j0 k a3 t189 t190 bt194.2.1 bt194.2.2 true l0_0 a0_1 a0_2 l0_3 a1_0 a1_1 a1_2)) else (if bt200.2 = 0 then (if bt202.2 = 0 then (if bt202.1 > bt200.1 then (saronlaw03_RaspMore.j0 k a3 t189 t190 bt194.2.1 bt194.2.2 true l0_0 a0_1 a0_2 l0_3 a1_0 a1_1 a1_2) else (saronlaw03_RaspMore.j0 k a3 t189 t190 bt194.2.1 bt194.2.2 false l0_0 a0_1 a0_2 l0_3 a1_0 a1_1 a1_2)) else (saronlaw03_RaspMore.j0 k a3 t189 t190 bt194.2.1 bt194.2.2 true l0_0 a0_1 a0_2 l0_3 a1_0 a1_1 a1_2)) else (saronlaw03_RaspMore.j0 k a3 t189 t190 bt194.2.1 bt194.2.2 false l0_0 a0_1 a0_2 l0_3 a1_0 a1_1 a1_2))))))))) = some r := H
  have A7 := Aside0.mk A70
  clear A70
  replace H := Option.bind_eq_some_iff.mp H
  obtain ⟨⟨t191, t192⟩, A80, H⟩ := H
  replace H : ((saronref00_Draw.f t191 t192 a3).bind fun t193 => ((rasp_Next.f l0_0 a0_1 a0_2 l0_3 t189 t190).bind fun bt194 => ((rasp_Next.f l0_0 a0_1 a0_2 l0_3 t189 t193).bind fun bt197 => ((rasp_Lucky.f l0_0 a0_1 a0_2 l0_3 t189 t190).bind fun bt200 => ((rasp_Lucky.f l0_0 a0_1 a0_2 l0_3 t189 t193).bind fun bt202 => (if bt194.2.2 = 0 then (if bt197.2.2 = 0 then (if bt197.2.1 > bt194.2.1 then (saronlaw03_RaspMore.j0 k a3 t189 t190 bt194.2.1 bt194.2.2 true l0_0 a0_1 a0_2 l0_3 a1_0 a1_1 a1_2) else (if bt200.2 = 0 then (if bt202.2 = 0 then (if bt202.1 > bt200.1 then (saronlaw03_RaspMore.j0 k a3 t189 t190 bt194.2.1 bt194.2.2 true l0_0 a0_1 a0_2 l0_3 a1_0 a1_1 a1_2) else (saronlaw03_RaspMore.j0 k a3 t189 t190 bt194.2.1 bt194.2.2 (decide (bt200.1 > bt194.2.1)) l0_0 a0_1 a0_2 l0_3 a1_0 a1_1 a1_2)) else (saronlaw03_RaspMore.j0 k a3 t189 t190 bt194.2.1 bt194.2.2 true l0_0 a0_1 a0_2 l0_3 a1_0 a1_1 a1_2)) else (saronlaw03_RaspMore.j0 k a3 t189 t190 bt194.2.1 bt194.2.2 true l0_0 a0_1 a0_2 l0_3 a1_0 a1_1 a1_2))) else (saronlaw03_RaspMore.j0 k a3 t189 t190 bt194.2.1 bt194.2.2 true l0_0 a0_1 a0_2 l0_3 a1_0 a1_1 a1_2)) else (if bt200.2 = 0 then (if bt202.2 = 0 then (if bt202.1 > bt200.1 then (saronlaw03_RaspMore.j0 k a3 t189 t190 bt194.2.1 bt194.2.2 true l0_0 a0_1 a0_2 l0_3 a1_0 a1_1 a1_2) else (saronlaw03_RaspMore.j0 k a3 t189 t190 bt194.2.1 bt194.2.2 false l0_0 a0_1 a0_2 l0_3 a1_0 a1_1 a1_2)) else (saronlaw03_RaspMore.j0 k a3 t189 t190 bt194.2.1 bt194.2.2 true l0_0 a0_1 a0_2 l0_3 a1_0 a1_1 a1_2)) else (saronlaw03_RaspMore.j0 k a3 t189 t190 bt194.2.1 bt194.2.2 false l0_0 a0_1 a0_2 l0_3 a1_0 a1_1 a1_2)))))))) = some r := H
  have A8 := Aside0.mk A80
  clear A80
  replace H := Option.bind_eq_some_iff.mp H
  obtain ⟨t193, A90, H⟩ := H
  replace H : ((rasp_Next.f l0_0 a0_1 a0_2 l0_3 t189 t190).bind fun bt194 => ((rasp_Next.f l0_0 a0_1 a0_2 l0_3 t189 t193).bind fun bt197 => ((rasp_Lucky.f l0_0 a0_1 a0_2 l0_3 t189 t190).bind fun bt200 => ((rasp_Lucky.f l0_0 a0_1 a0_2 l0_3 t189 t193).bind fun bt202 => (if bt194.2.2 = 0 then (if bt197.2.2 = 0 then (if bt197.2.1 > bt194.2.1 then (saronlaw03_RaspMore.j0 k a3 t189 t190 bt194.2.1 bt194.2.2 true l0_0 a0_1 a0_2 l0_3 a1_0 a1_1 a1_2) else (if bt200.2 = 0 then (if bt202.2 = 0 then (if bt202.1 > bt200.1 then (saronlaw03_RaspMore.j0 k a3 t189 t190 bt194.2.1 bt194.2.2 true l0_0 a0_1 a0_2 l0_3 a1_0 a1_1 a1_2) else (saronlaw03_RaspMore.j0 k a3 t189 t190 bt194.2.1 bt194.2.2 (decide (bt200.1 > bt194.2.1)) l0_0 a0_1 a0_2 l0_3 a1_0 a1_1 a1_2)) else (saronlaw03_RaspMore.j0 k a3 t189 t190 bt194.2.1 bt194.2.2 true l0_0 a0_1 a0_2 l0_3 a1_0 a1_1 a1_2)) else (saronlaw03_RaspMore.j0 k a3 t189 t190 bt194.2.1 bt194.2.2 true l0_0 a0_1 a0_2 l0_3 a1_0 a1_1 a1_2))) else (saronlaw03_RaspMore.j0 k a3 t189 t190 bt194.2.1 bt194.2.2 true l0_0 a0_1 a0_2 l0_3 a1_0 a1_1 a1_2)) else (if bt200.2 = 0 then (if bt202.2 = 0 then (if bt202.1 > bt200.1 then (saronlaw03_RaspMore.j0 k a3 t189 t190 bt194.2.1 bt194.2.2 true l0_0 a0_1 a0_2 l0_3 a1_0 a1_1 a1_2) else (saronlaw03_RaspMore.j0 k a3 t189 t190 bt194.2.1 bt194.2.2 false l0_0 a0_1 a0_2 l0_3 a1_0 a1_1 a1_2)) else (saronlaw03_RaspMore.j0 k a3 t189 t190 bt194.2.1 bt194.2.2 true l0_0 a0_1 a0_2 l0_3 a1_0 a1_1 a1_2)) else (saronlaw03_RaspMore.j0 k a3 t189 t190 bt194.2.1 bt194.2.2 false l0_0 a0_1 a0_2 l0_3 a1_0 a1_1 a1_2))))))) = some r := H
  have A9 := Aside0.mk A90
  clear A90
  replace H := Option.bind_eq_some_iff.mp H
  obtain ⟨⟨t194, t195, t196⟩, A100, H⟩ := H
  replace H : ((rasp_Next.f l0_0 a0_1 a0_2 l0_3 t189 t193).bind fun bt197 => ((rasp_Lucky.f l0_0 a0_1 a0_2 l0_3 t189 t190).bind fun bt200 => ((rasp_Lucky.f l0_0 a0_1 a0_2 l0_3 t189 t193).bind fun bt202 => (if t196 = 0 then (if bt197.2.2 = 0 then (if bt197.2.1 > t195 then (saronlaw03_RaspMore.j0 k a3 t189 t190 t195 t196 true l0_0 a0_1 a0_2 l0_3 a1_0 a1_1 a1_2) else (if bt200.2 = 0 then (if bt202.2 = 0 then (if bt202.1 > bt200.1 then (saronlaw03_RaspMore.j0 k a3 t189 t190 t195 t196 true l0_0 a0_1 a0_2 l0_3 a1_0 a1_1 a1_2) else (saronlaw03_RaspMore.j0 k a3 t189 t190 t195 t196 (decide (bt200.1 > t195)) l0_0 a0_1 a0_2 l0_3 a1_0 a1_1 a1_2)) else (saronlaw03_RaspMore.j0 k a3 t189 t190 t195 t196 true l0_0 a0_1 a0_2 l0_3 a1_0 a1_1 a1_2)) else (saronlaw03_RaspMore.j0 k a3 t189 t190 t195 t196 true l0_0 a0_1 a0_2 l0_3 a1_0 a1_1 a1_2))) else (saronlaw03_RaspMore.j0 k a3 t189 t190 t195 t196 true l0_0 a0_1 a0_2 l0_3 a1_0 a1_1 a1_2)) else (if bt200.2 = 0 then (if bt202.2 = 0 then (if bt202.1 > bt200.1 then (saronlaw03_RaspMore.j0 k a3 t189 t190 t195 t196 true l0_0 a0_1 a0_2 l0_3 a1_0 a1_1 a1_2) else (saronlaw03_RaspMore.j0 k a3 t189 t190 t195 t196 false l0_0 a0_1 a0_2 l0_3 a1_0 a1_1 a1_2)) else (saronlaw03_RaspMore.j0 k a3 t189 t190 t195 t196 true l0_0 a0_1 a0_2 l0_3 a1_0 a1_1 a1_2)) else (saronlaw03_RaspMore.j0 k a3 t189 t190 t195 t196 false l0_0 a0_1 a0_2 l0_3 a1_0 a1_1 a1_2)))))) = some r := H
  have A10 := Aside0.mk A100
  clear A100
  replace H := Option.bind_eq_some_iff.mp H
  obtain ⟨⟨t197, t198, t199⟩, A110, H⟩ := H
  replace H : ((rasp_Lucky.f l0_0 a0_1 a0_2 l0_3 t189 t190).bind fun bt200 => ((rasp_Lucky.f l0_0 a0_1 a0_2 l0_3 t189 t193).bind fun bt202 => (if t196 = 0 then (if t199 = 0 then (if t198 > t195 then (saronlaw03_RaspMore.j0 k a3 t189 t190 t195 t196 true l0_0 a0_1 a0_2 l0_3 a1_0 a1_1 a1_2) else (if bt200.2 = 0 then (if bt202.2 = 0 then (if bt202.1 > bt200.1 then (saronlaw03_RaspMore.j0 k a3 t189 t190 t195 t196 true l0_0 a0_1 a0_2 l0_3 a1_0 a1_1 a1_2) else (saronlaw03_RaspMore.j0 k a3 t189 t190 t195 t196 (decide (bt200.1 > t195)) l0_0 a0_1 a0_2 l0_3 a1_0 a1_1 a1_2)) else (saronlaw03_RaspMore.j0 k a3 t189 t190 t195 t196 true l0_0 a0_1 a0_2 l0_3 a1_0 a1_1 a1_2)) else (saronlaw03_RaspMore.j0 k a3 t189 t190 t195 t196 true l0_0 a0_1 a0_2 l0_3 a1_0 a1_1 a1_2))) else (saronlaw03_RaspMore.j0 k a3 t189 t190 t195 t196 true l0_0 a0_1 a0_2 l0_3 a1_0 a1_1 a1_2)) else (if bt200.2 = 0 then (if bt202.2 = 0 then (if bt202.1 > bt200.1 then (saronlaw03_RaspMore.j0 k a3 t189 t190 t195 t196 true l0_0 a0_1 a0_2 l0_3 a1_0 a1_1 a1_2) else (saronlaw03_RaspMore.j0 k a3 t189 t190 t195 t196 false l0_0 a0_1 a0_2 l0_3 a1_0 a1_1 a1_2)) else (saronlaw03_RaspMore.j0 k a3 t189 t190 t195 t196 true l0_0 a0_1 a0_2 l0_3 a1_0 a1_1 a1_2)) else (saronlaw03_RaspMore.j0 k a3 t189 t190 t195 t196 false l0_0 a0_1 a0_2 l0_3 a1_0 a1_1 a1_2))))) = some r := H
  have A11 := Aside0.mk A110
  clear A110
  replace H := Option.bind_eq_some_iff.mp H
  obtain ⟨⟨t200, t201⟩, A120, H⟩ := H
  replace H : ((rasp_Lucky.f l0_0 a0_1 a0_2 l0_3 t189 t193).bind fun bt202 => (if t196 = 0 then (if t199 = 0 then (if t198 > t195 then (saronlaw03_RaspMore.j0 k a3 t189 t190 t195 t196 true l0_0 a0_1 a0_2 l0_3 a1_0 a1_1 a1_2) else (if t201 = 0 then (if bt202.2 = 0 then (if bt202.1 > t200 then (saronlaw03_RaspMore.j0 k a3 t189 t190 t195 t196 true l0_0 a0_1 a0_2 l0_3 a1_0 a1_1 a1_2) else (saronlaw03_RaspMore.j0 k a3 t189 t190 t195 t196 (decide (t200 > t195)) l0_0 a0_1 a0_2 l0_3 a1_0 a1_1 a1_2)) else (saronlaw03_RaspMore.j0 k a3 t189 t190 t195 t196 true l0_0 a0_1 a0_2 l0_3 a1_0 a1_1 a1_2)) else (saronlaw03_RaspMore.j0 k a3 t189 t190 t195 t196 true l0_0 a0_1 a0_2 l0_3 a1_0 a1_1 a1_2))) else (saronlaw03_RaspMore.j0 k a3 t189 t190 t195 t196 true l0_0 a0_1 a0_2 l0_3 a1_0 a1_1 a1_2)) else (if t201 = 0 then (if bt202.2 = 0 then (if bt202.1 > t200 then (saronlaw03_RaspMore.j0 k a3 t189 t190 t195 t196 true l0_0 a0_1 a0_2 l0_3 a1_0 a1_1 a1_2) else (saronlaw03_RaspMore.j0 k a3 t189 t190 t195 t196 false l0_0 a0_1 a0_2 l0_3 a1_0 a1_1 a1_2)) else (saronlaw03_RaspMore.j0 k a3 t189 t190 t195 t196 true l0_0 a0_1 a0_2 l0_3 a1_0 a1_1 a1_2)) else (saronlaw03_RaspMore.j0 k a3 t189 t190 t195 t196 false l0_0 a0_1 a0_2 l0_3 a1_0 a1_1 a1_2)))) = some r := H
  have A12 := Aside0.mk A120
  clear A120
  replace H := Option.bind_eq_some_iff.mp H
  obtain ⟨⟨t202, t203⟩, A130, H⟩ := H
  replace H : (if t196 = 0 then (if t199 = 0 then (if t198 > t195 then (saronlaw03_RaspMore.j0 k a3 t189 t190 t195 t196 true l0_0 a0_1 a0_2 l0_3 a1_0 a1_1 a1_2) else (if t201 = 0 then (if t203 = 0 then (if t202 > t200 then (saronlaw03_RaspMore.j0 k a3 t189 t190 t195 t196 true l0_0 a0_1 a0_2 l0_3 a1_0 a1_1 a1_2) else (saronlaw03_RaspMore.j0 k a3 t189 t190 t195 t196 (decide (t200 > t195)) l0_0 a0_1 a0_2 l0_3 a1_0 a1_1 a1_2)) else (saronlaw03_RaspMore.j0 k a3 t189 t190 t195 t196 true l0_0 a0_1 a0_2 l0_3 a1_0 a1_1 a1_2)) else (saronlaw03_RaspMore.j0 k a3 t189 t190 t195 t196 true l0_0 a0_1 a0_2 l0_3 a1_0 a1_1 a1_2))) else (saronlaw03_RaspMore.j0 k a3 t189 t190 t195 t196 true l0_0 a0_1 a0_2 l0_3 a1_0 a1_1 a1_2)) else (if t201 = 0 then (if t203 = 0 then (if t202 > t200 then (saronlaw03_RaspMore.j0 k a3 t189 t190 t195 t196 true l0_0 a0_1 a0_2 l0_3 a1_0 a1_1 a1_2) else (saronlaw03_RaspMore.j0 k a3 t189 t190 t195 t196 false l0_0 a0_1 a0_2 l0_3 a1_0 a1_1 a1_2)) else (saronlaw03_RaspMore.j0 k a3 t189 t190 t195 t196 true l0_0 a0_1 a0_2 l0_3 a1_0 a1_1 a1_2)) else (saronlaw03_RaspMore.j0 k a3 t189 t190 t195 t196 false l0_0 a0_1 a0_2 l0_3 a1_0 a1_1 a1_2))) = some r := H
  have A13 := Aside0.mk A130
  clear A130
  have HC14 := Aside0.mk H
  clear H
  go_enter Tryd.func9, Tryd.ntmps9
  go_upto_region 9 with (first | ((with_reducible refine gate_dst (N := 4) rfl ?_); refine box_event ?hg (N := 4) ?hd (cs := #[.slice A0_0 l0_0.length c0_0, .int .i64 a0_1, .int .i64 a0_2, .slice A0_3 l0_3.length c0_3]) (t := 27) ?hr ?_; (case hd => rfl); (case hg => rfl); (case hr => exact TS); intro gb184 hg w15 hbox hb; have BK184 := Aside0.mk (hbox); have GW184 := Aside0.mk ((TG : w.heap.size ≤ gb184)); have GE184 := Aside0.mk ((TG : w.heap.size ≤ gb184)); replace HB := Aside0.mk (below_step TB hb); clear hb hbox hg) | ((with_reducible refine gate_dst (N := 5) rfl ?_); refine box_event ?hg (N := 5) ?hd (cs := #[.int .i64 a1_0, .int .i64 a1_1, .int .i64 a1_2]) (t := 57) ?hr ?_; (case hd => rfl); (case hg => rfl); (case hr => exact TS); intro gb185 hg w16 hbox hb; have BK185 := Aside0.mk (hbox); have GW185 := Aside0.mk ((TG1 GE184.out : w.heap.size ≤ gb185)); have GE185 := Aside0.mk ((TG1 GE184.out : w.heap.size ≤ gb185)); have NB184_185 := Aside0.mk ((by rw [hg]; exact Nat.ne_of_lt (blk_lt (g := gb184) (o := .cells #[.slice A0_0 l0_0.length c0_0, .int .i64 a0_1, .int .i64 a0_2, .slice A0_3 l0_3.length c0_3] 27 (0, 0)) (by (with_reducible repeat (first | refine blk_drewN ?_ _ | refine blk_drew ?_ | refine blk_alloc ?_ _)); exact BK184.out)) : gb184 ≠ gb185)); have NB185_184 := Aside0.mk ((by rw [hg]; exact Nat.ne_of_gt (blk_lt (g := gb184) (o := .cells #[.slice A0_0 l0_0.length c0_0, .int .i64 a0_1, .int .i64 a0_2, .slice A0_3 l0_3.length c0_3] 27 (0, 0)) (by (with_reducible repeat (first | refine blk_drewN ?_ _ | refine blk_drew ?_ | refine blk_alloc ?_ _)); exact BK184.out)) : gb185 ≠ gb184)); replace BK184 := Aside0.mk (blk_below (g := gb184) (o := .cells #[.slice A0_0 l0_0.length c0_0, .int .i64 a0_1, .int .i64 a0_2, .slice A0_3 l0_3.length c0_3] 27 (0, 0)) (by (with_reducible repeat (first | refine blk_drewN ?_ _ | refine blk_drew ?_ | refine blk_alloc ?_ _)); exact BK184.out) hb); replace HB := Aside0.mk (below_step (TB1 GE184.out) hb); clear hb hbox hg) | ((with_reducible refine gate_dst (N := 6) rfl ?_); refine box_event ?hg (N := 6) ?hd (cs := #[.int .i64 a2_0, .int .i64 a2_1]) (t := 28) ?hr ?_; (case hd => rfl); (case hg => rfl); (case hr => exact TS); intro gb186 hg w17 hbox hb; have BK186 := Aside0.mk (hbox); have GW186 := Aside0.mk ((TG2 GE184.out GE185.out : w.heap.size ≤ gb186)); have GE186 := Aside0.mk ((TG2 GE184.out GE185.out : w.heap.size ≤ gb186)); have NB184_186 := Aside0.mk ((by rw [hg]; exact Nat.ne_of_lt (blk_lt (g := gb184) (o := .cells #[.slice A0_0 l0_0.length c0_0, .int .i64 a0_1, .int .i64 a0_2, .slice A0_3 l0_3.length c0_3] 27 (0, 0)) (by (with_reducible repeat (first | refine blk_drewN ?_ _ | refine blk_drew ?_ | refine blk_alloc ?_ _)); exact BK184.out)) : gb184 ≠ gb186)); have NB186_184 := Aside0.mk ((by rw [hg]; exact Nat.ne_of_gt (blk_lt (g := gb184) (o := .cells #[.slice A0_0 l0_0.length c0_0, .int .i64 a0_1, .int .i64 a0_2, .slice A0_3 l0_3.length c0_3] 27 (0, 0)) (by (with_reducible repeat (first | refine blk_drewN ?_ _ | refine blk_drew ?_ | refine blk_alloc ?_ _)); exact BK184.out)) : gb186 ≠ gb184)); have NB185_186 := Aside0.mk ((by rw [hg]; exact Nat.ne_of_lt (blk_lt (g := gb185) (o := .cells #[.int .i64 a1_0, .int .i64 a1_1, .int .i64 a1_2] 57 (0, 0)) (by (with_reducible repeat (first | refine blk_drewN ?_ _ | refine blk_drew ?_ | refine blk_alloc ?_ _)); exact BK185.out)) : gb185 ≠ gb186)); have NB186_185 := Aside0.mk ((by rw [hg]; exact Nat.ne_of_gt (blk_lt (g := gb185) (o := .cells #[.int .i64 a1_0, .int .i64 a1_1, .int .i64 a1_2] 57 (0, 0)) (by (with_reducible repeat (first | refine blk_drewN ?_ _ | refine blk_drew ?_ | refine blk_alloc ?_ _)); exact BK185.out)) : gb186 ≠ gb185)); replace BK184 := Aside0.mk (blk_below (g := gb184) (o := .cells #[.slice A0_0 l0_0.length c0_0, .int .i64 a0_1, .int .i64 a0_2, .slice A0_3 l0_3.length c0_3] 27 (0, 0)) (by (with_reducible repeat (first | refine blk_drewN ?_ _ | refine blk_drew ?_ | refine blk_alloc ?_ _)); exact BK184.out) hb); replace BK185 := Aside0.mk (blk_below (g := gb185) (o := .cells #[.int .i64 a1_0, .int .i64 a1_1, .int .i64 a1_2] 57 (0, 0)) (by (with_reducible repeat (first | refine blk_drewN ?_ _ | refine blk_drew ?_ | refine blk_alloc ?_ _)); exact BK185.out) hb); replace HB := Aside0.mk (below_step (TB2 GE184.out GE185.out) hb); clear hb hbox hg; have hnb18 := NB184_185.out; have hnc18 := NB185_184.out; have hnb19 := NB184_186.out; have hnc19 := NB186_184.out; have hcz20_0 := czz BK184.out 0; have hcz20_1 := czz BK184.out 1; have hcz20_2 := czz BK184.out 2; have hcz20_3 := czz BK184.out 3; have hfz20_0 := fz BK184.out 0; have hfz20_1 := fz BK184.out 1; have hfz20_2 := fz BK184.out 2; have hfz20_3 := fz BK184.out 3) | ((with_reducible refine gate_callee (f := 37) rfl ?_); refine goesL_ (some 26) rfl rfl Tryd.func37 (by kernel_rfl) rfl #[.agg #[.slice A0_0 l0_0.length c0_0, .int .i64 a0_1, .int .i64 a0_2, .slice A0_3 l0_3.length c0_3]] rfl TM ?_; (with_reducible refine (saronlaw03_sound.calls k _ _ l0_0 a0_1 a0_2 _ _ l0_3 true _ ?side1 ?side2 ?side3 ?side4 A5.out).mono ?_); (case side1 => exact TC HR0_0.out); (case side2 => exact HC0_0.out); (case side3 => exact TC HR0_3.out); (case side4 => exact HC0_3.out); rintro e w21 ⟨rfl, hb⟩; refine ⟨_, rfl, ?_⟩; replace BK184 := Aside0.mk (blk_below (g := gb184) (o := .cells #[.slice A0_0 l0_0.length c0_0, .int .i64 a0_1, .int .i64 a0_2, .slice A0_3 l0_3.length c0_3] 27 (0, 0)) (by (with_reducible repeat (first | refine blk_drewN ?_ _ | refine blk_drew ?_ | refine blk_alloc ?_ _)); exact BK184.out) hb); replace BK185 := Aside0.mk (blk_below (g := gb185) (o := .cells #[.int .i64 a1_0, .int .i64 a1_1, .int .i64 a1_2] 57 (0, 0)) (by (with_reducible repeat (first | refine blk_drewN ?_ _ | refine blk_drew ?_ | refine blk_alloc ?_ _)); exact BK185.out) hb); replace BK186 := Aside0.mk (blk_below (g := gb186) (o := .cells #[.int .i64 a2_0, .int .i64 a2_1] 28 (0, 0)) (by (with_reducible repeat (first | refine blk_drewN ?_ _ | refine blk_drew ?_ | refine blk_alloc ?_ _)); exact BK186.out) hb); replace HB := Aside0.mk (below_step (TB3 GE184.out GE185.out GE186.out) hb); (try clear hb); (try clear hb2); (try clear hk); (try clear hi); have hnb22 := NB186_185.out; have hnc22 := NB185_186.out; have hcz23_0 := czz BK186.out 0; have hcz23_1 := czz BK186.out 1; have hfz23_0 := fz BK186.out 0; have hfz23_1 := fz BK186.out 1) | ((with_reducible refine gate_callee (f := 38) rfl ?_); refine goesL_ (some 31) rfl rfl Tryd.func38 (by kernel_rfl) rfl #[.agg #[.int .i64 a2_0, .int .i64 a2_1]] rfl TM ?_; (with_reducible refine (saronlaw03_state.calls a2_0 a2_1 t189 t190 _ A7.out).mono ?_); rintro e w24 ⟨rfl, hb⟩; refine ⟨_, rfl, ?_⟩; replace BK184 := Aside0.mk (blk_below (g := gb184) (o := .cells #[.slice A0_0 l0_0.length c0_0, .int .i64 a0_1, .int .i64 a0_2, .slice A0_3 l0_3.length c0_3] 27 (0, 0)) (by (with_reducible repeat (first | refine blk_drewN ?_ _ | refine blk_drew ?_ | refine blk_alloc ?_ _)); exact BK184.out) hb); replace BK185 := Aside0.mk (blk_below (g := gb185) (o := .cells #[.int .i64 a1_0, .int .i64 a1_1, .int .i64 a1_2] 57 (0, 0)) (by (with_reducible repeat (first | refine blk_drewN ?_ _ | refine blk_drew ?_ | refine blk_alloc ?_ _)); exact BK185.out) hb); replace BK186 := Aside0.mk (blk_below (g := gb186) (o := .cells #[.int .i64 a2_0, .int .i64 a2_1] 28 (0, 0)) (by (with_reducible repeat (first | refine blk_drewN ?_ _ | refine blk_drew ?_ | refine blk_alloc ?_ _)); exact BK186.out) hb); replace HB := Aside0.mk (below_step (TB3 GE184.out GE185.out GE186.out) hb); (try clear hb); (try clear hb2); (try clear hk); (try clear hi)) | ((with_reducible refine gate_callee (f := 44) rfl ?_); refine goesL_ (some 35) rfl rfl Tryd.func44 (by kernel_rfl) rfl #[.int .i64 t190, .int .i64 30] rfl TM ?_; (with_reducible refine (saronref00_Band.calls t190 30 t191 t192 _ A8.out).mono ?_); rintro e w25 ⟨rfl, hb⟩; refine ⟨_, rfl, ?_⟩; replace BK184 := Aside0.mk (blk_below (g := gb184) (o := .cells #[.slice A0_0 l0_0.length c0_0, .int .i64 a0_1, .int .i64 a0_2, .slice A0_3 l0_3.length c0_3] 27 (0, 0)) (by (with_reducible repeat (first | refine blk_drewN ?_ _ | refine blk_drew ?_ | refine blk_alloc ?_ _)); exact BK184.out) hb); replace BK185 := Aside0.mk (blk_below (g := gb185) (o := .cells #[.int .i64 a1_0, .int .i64 a1_1, .int .i64 a1_2] 57 (0, 0)) (by (with_reducible repeat (first | refine blk_drewN ?_ _ | refine blk_drew ?_ | refine blk_alloc ?_ _)); exact BK185.out) hb); replace BK186 := Aside0.mk (blk_below (g := gb186) (o := .cells #[.int .i64 a2_0, .int .i64 a2_1] 28 (0, 0)) (by (with_reducible repeat (first | refine blk_drewN ?_ _ | refine blk_drew ?_ | refine blk_alloc ?_ _)); exact BK186.out) hb); replace HB := Aside0.mk (below_step (TB3 GE184.out GE185.out GE186.out) hb); (try clear hb); (try clear hb2); (try clear hk); (try clear hi)) | ((with_reducible refine gate_callee (f := 41) rfl ?_); refine goesL_ (some 37) rfl rfl Tryd.func41 (by kernel_rfl) rfl #[.agg #[.int .i64 t191, .int .i64 t192], .int .i64 a3] rfl TM ?_; (with_reducible refine (saronref00_Draw.calls t191 t192 a3 t193 _ A9.out).mono ?_); rintro e w26 ⟨rfl, hb⟩; refine ⟨_, rfl, ?_⟩; replace BK184 := Aside0.mk (blk_below (g := gb184) (o := .cells #[.slice A0_0 l0_0.length c0_0, .int .i64 a0_1, .int .i64 a0_2, .slice A0_3 l0_3.length c0_3] 27 (0, 0)) (by (with_reducible repeat (first | refine blk_drewN ?_ _ | refine blk_drew ?_ | refine blk_alloc ?_ _)); exact BK184.out) hb); replace BK185 := Aside0.mk (blk_below (g := gb185) (o := .cells #[.int .i64 a1_0, .int .i64 a1_1, .int .i64 a1_2] 57 (0, 0)) (by (with_reducible repeat (first | refine blk_drewN ?_ _ | refine blk_drew ?_ | refine blk_alloc ?_ _)); exact BK185.out) hb); replace BK186 := Aside0.mk (blk_below (g := gb186) (o := .cells #[.int .i64 a2_0, .int .i64 a2_1] 28 (0, 0)) (by (with_reducible repeat (first | refine blk_drewN ?_ _ | refine blk_drew ?_ | refine blk_alloc ?_ _)); exact BK186.out) hb); replace HB := Aside0.mk (below_step (TB3 GE184.out GE185.out GE186.out) hb); (try clear hb); (try clear hb2); (try clear hk); (try clear hi); have hcz27_0 := czz BK184.out 0; have hcz27_1 := czz BK184.out 1; have hcz27_2 := czz BK184.out 2; have hcz27_3 := czz BK184.out 3; have hfz27_0 := fz BK184.out 0; have hfz27_1 := fz BK184.out 1; have hfz27_2 := fz BK184.out 2; have hfz27_3 := fz BK184.out 3) | ((with_reducible refine gate_callee (f := 16) rfl ?_); refine goesL_ (some 42) rfl rfl Tryd.func16 (by kernel_rfl) rfl #[.agg #[.slice A0_0 l0_0.length c0_0, .int .i64 a0_1, .int .i64 a0_2, .slice A0_3 l0_3.length c0_3], .int .i64 t189, .int .i64 t190] rfl TM ?_; (with_reducible refine (rasp_Next.calls _ _ l0_0 a0_1 a0_2 _ _ l0_3 t189 t190 t194 t195 t196 _ ?side1 ?side2 ?side3 ?side4 ?side5 A10.out).mono ?_); (case side1 => exact TC HR0_0.out); (case side2 => exact HC0_0.out); (case side3 => exact TC HR0_3.out); (case side4 => exact HC0_3.out); (case side5 => exact Glob.fr HG.out (Fr.of_below (TB3 GE184.out GE185.out GE186.out))); rintro e w28 ⟨rfl, hb⟩; refine ⟨_, rfl, ?_⟩; replace BK184 := Aside0.mk (blk_below (g := gb184) (o := .cells #[.slice A0_0 l0_0.length c0_0, .int .i64 a0_1, .int .i64 a0_2, .slice A0_3 l0_3.length c0_3] 27 (0, 0)) (by (with_reducible repeat (first | refine blk_drewN ?_ _ | refine blk_drew ?_ | refine blk_alloc ?_ _)); exact BK184.out) hb); replace BK185 := Aside0.mk (blk_below (g := gb185) (o := .cells #[.int .i64 a1_0, .int .i64 a1_1, .int .i64 a1_2] 57 (0, 0)) (by (with_reducible repeat (first | refine blk_drewN ?_ _ | refine blk_drew ?_ | refine blk_alloc ?_ _)); exact BK185.out) hb); replace BK186 := Aside0.mk (blk_below (g := gb186) (o := .cells #[.int .i64 a2_0, .int .i64 a2_1] 28 (0, 0)) (by (with_reducible repeat (first | refine blk_drewN ?_ _ | refine blk_drew ?_ | refine blk_alloc ?_ _)); exact BK186.out) hb); replace HB := Aside0.mk (below_step (TB3 GE184.out GE185.out GE186.out) hb); (try clear hb); (try clear hb2); (try clear hk); (try clear hi); have hcz29_0 := czz BK184.out 0; have hcz29_1 := czz BK184.out 1; have hcz29_2 := czz BK184.out 2; have hcz29_3 := czz BK184.out 3; have hfz29_0 := fz BK184.out 0; have hfz29_1 := fz BK184.out 1; have hfz29_2 := fz BK184.out 2; have hfz29_3 := fz BK184.out 3) | ((with_reducible refine gate_callee (f := 16) rfl ?_); refine goesL_ (some 50) rfl rfl Tryd.func16 (by kernel_rfl) rfl #[.agg #[.slice A0_0 l0_0.length c0_0, .int .i64 a0_1, .int .i64 a0_2, .slice A0_3 l0_3.length c0_3], .int .i64 t189, .int .i64 t193] rfl TM ?_; (with_reducible refine (rasp_Next.calls _ _ l0_0 a0_1 a0_2 _ _ l0_3 t189 t193 t197 t198 t199 _ ?side1 ?side2 ?side3 ?side4 ?side5 A11.out).mono ?_); (case side1 => exact TC HR0_0.out); (case side2 => exact HC0_0.out); (case side3 => exact TC HR0_3.out); (case side4 => exact HC0_3.out); (case side5 => exact Glob.fr HG.out (Fr.of_below (TB3 GE184.out GE185.out GE186.out))); rintro e w30 ⟨rfl, hb⟩; refine ⟨_, rfl, ?_⟩; replace BK184 := Aside0.mk (blk_below (g := gb184) (o := .cells #[.slice A0_0 l0_0.length c0_0, .int .i64 a0_1, .int .i64 a0_2, .slice A0_3 l0_3.length c0_3] 27 (0, 0)) (by (with_reducible repeat (first | refine blk_drewN ?_ _ | refine blk_drew ?_ | refine blk_alloc ?_ _)); exact BK184.out) hb); replace BK185 := Aside0.mk (blk_below (g := gb185) (o := .cells #[.int .i64 a1_0, .int .i64 a1_1, .int .i64 a1_2] 57 (0, 0)) (by (with_reducible repeat (first | refine blk_drewN ?_ _ | refine blk_drew ?_ | refine blk_alloc ?_ _)); exact BK185.out) hb); replace BK186 := Aside0.mk (blk_below (g := gb186) (o := .cells #[.int .i64 a2_0, .int .i64 a2_1] 28 (0, 0)) (by (with_reducible repeat (first | refine blk_drewN ?_ _ | refine blk_drew ?_ | refine blk_alloc ?_ _)); exact BK186.out) hb); replace HB := Aside0.mk (below_step (TB3 GE184.out GE185.out GE186.out) hb); (try clear hb); (try clear hb2); (try clear hk); (try clear hi); have hcz31_0 := czz BK184.out 0; have hcz31_1 := czz BK184.out 1; have hcz31_2 := czz BK184.out 2; have hcz31_3 := czz BK184.out 3; have hfz31_0 := fz BK184.out 0; have hfz31_1 := fz BK184.out 1; have hfz31_2 := fz BK184.out 2; have hfz31_3 := fz BK184.out 3) | ((with_reducible refine gate_callee (f := 20) rfl ?_); refine goesL_ (some 58) rfl rfl Tryd.func20 (by kernel_rfl) rfl #[.agg #[.slice A0_0 l0_0.length c0_0, .int .i64 a0_1, .int .i64 a0_2, .slice A0_3 l0_3.length c0_3], .int .i64 t189, .int .i64 t190] rfl TM ?_; (with_reducible refine (rasp_Lucky.calls _ _ l0_0 a0_1 a0_2 _ _ l0_3 t189 t190 t200 t201 _ ?side1 ?side2 ?side3 ?side4 ?side5 A12.out).mono ?_); (case side1 => exact TC HR0_0.out); (case side2 => exact HC0_0.out); (case side3 => exact TC HR0_3.out); (case side4 => exact HC0_3.out); (case side5 => exact Glob.fr HG.out (Fr.of_below (TB3 GE184.out GE185.out GE186.out))); rintro e w32 ⟨rfl, hb⟩; refine ⟨_, rfl, ?_⟩; replace BK184 := Aside0.mk (blk_below (g := gb184) (o := .cells #[.slice A0_0 l0_0.length c0_0, .int .i64 a0_1, .int .i64 a0_2, .slice A0_3 l0_3.length c0_3] 27 (0, 0)) (by (with_reducible repeat (first | refine blk_drewN ?_ _ | refine blk_drew ?_ | refine blk_alloc ?_ _)); exact BK184.out) hb); replace BK185 := Aside0.mk (blk_below (g := gb185) (o := .cells #[.int .i64 a1_0, .int .i64 a1_1, .int .i64 a1_2] 57 (0, 0)) (by (with_reducible repeat (first | refine blk_drewN ?_ _ | refine blk_drew ?_ | refine blk_alloc ?_ _)); exact BK185.out) hb); replace BK186 := Aside0.mk (blk_below (g := gb186) (o := .cells #[.int .i64 a2_0, .int .i64 a2_1] 28 (0, 0)) (by (with_reducible repeat (first | refine blk_drewN ?_ _ | refine blk_drew ?_ | refine blk_alloc ?_ _)); exact BK186.out) hb); replace HB := Aside0.mk (below_step (TB3 GE184.out GE185.out GE186.out) hb); (try clear hb); (try clear hb2); (try clear hk); (try clear hi); have hcz33_0 := czz BK184.out 0; have hcz33_1 := czz BK184.out 1; have hcz33_2 := czz BK184.out 2; have hcz33_3 := czz BK184.out 3; have hfz33_0 := fz BK184.out 0; have hfz33_1 := fz BK184.out 1; have hfz33_2 := fz BK184.out 2; have hfz33_3 := fz BK184.out 3) | ((with_reducible refine gate_callee (f := 20) rfl ?_); refine goesL_ (some 65) rfl rfl Tryd.func20 (by kernel_rfl) rfl #[.agg #[.slice A0_0 l0_0.length c0_0, .int .i64 a0_1, .int .i64 a0_2, .slice A0_3 l0_3.length c0_3], .int .i64 t189, .int .i64 t193] rfl TM ?_; (with_reducible refine (rasp_Lucky.calls _ _ l0_0 a0_1 a0_2 _ _ l0_3 t189 t193 t202 t203 _ ?side1 ?side2 ?side3 ?side4 ?side5 A13.out).mono ?_); (case side1 => exact TC HR0_0.out); (case side2 => exact HC0_0.out); (case side3 => exact TC HR0_3.out); (case side4 => exact HC0_3.out); (case side5 => exact Glob.fr HG.out (Fr.of_below (TB3 GE184.out GE185.out GE186.out))); rintro e w34 ⟨rfl, hb⟩; refine ⟨_, rfl, ?_⟩; replace BK184 := Aside0.mk (blk_below (g := gb184) (o := .cells #[.slice A0_0 l0_0.length c0_0, .int .i64 a0_1, .int .i64 a0_2, .slice A0_3 l0_3.length c0_3] 27 (0, 0)) (by (with_reducible repeat (first | refine blk_drewN ?_ _ | refine blk_drew ?_ | refine blk_alloc ?_ _)); exact BK184.out) hb); replace BK185 := Aside0.mk (blk_below (g := gb185) (o := .cells #[.int .i64 a1_0, .int .i64 a1_1, .int .i64 a1_2] 57 (0, 0)) (by (with_reducible repeat (first | refine blk_drewN ?_ _ | refine blk_drew ?_ | refine blk_alloc ?_ _)); exact BK185.out) hb); replace BK186 := Aside0.mk (blk_below (g := gb186) (o := .cells #[.int .i64 a2_0, .int .i64 a2_1] 28 (0, 0)) (by (with_reducible repeat (first | refine blk_drewN ?_ _ | refine blk_drew ?_ | refine blk_alloc ?_ _)); exact BK186.out) hb); replace HB := Aside0.mk (below_step (TB3 GE184.out GE185.out GE186.out) hb); (try clear hb); (try clear hb2); (try clear hk); (try clear hi)))
  (try simp only [Act.put, lA, lZ, lS])
  go_cut [104] (fun v104 wc => ∃ (kq : Nat) (x104_13 : Bool), v104 = .bool x104_13 ∧ Aside0 (saronlaw03_RaspMore.j0 kq a3 t189 t190 t195 t196 x104_13 l0_0 a0_1 a0_2 l0_3 a1_0 a1_1 a1_2 = some r) ∧ Aside0 (kq ≤ k) ∧ Aside0 (wc.heap[gb184]? = some (.cells #[(.slice A0_0 l0_0.length c0_0), .int .i64 a0_1, .int .i64 a0_2, (.slice A0_3 l0_3.length c0_3)] 27 (0, 0))) ∧ Aside0 (wc.heap[gb185]? = some (.cells #[.int .i64 a1_0, .int .i64 a1_1, .int .i64 a1_2] 57 (0, 0))) ∧ Aside0 (wc.heap[gb186]? = some (.cells #[.int .i64 a2_0, .int .i64 a2_1] 28 (0, 0))) ∧ Aside0 (Below w.heap.size w wc))
  case first => as_aux_lemma =>
   have H := HC14.out
   clear HC14
   by_cases c35 : t196 = 0
   ·rw [if_pos c35] at H
    have c35b0 : (t196 == 0) = true := beq_iff_eq.mpr c35
    have c35b1 : (t196 != 0) = false := bne_eq_false_iff_eq.mpr c35
    clear c35
    (first | rw [c35b0] | (simp only [i64_w, i32_w]; rw [c35b0]) | skip)
    by_cases c36 : t199 = 0
    ·rw [if_pos c36] at H
     have c36b0 : (t199 == 0) = true := beq_iff_eq.mpr c36
     have c36b1 : (t199 != 0) = false := bne_eq_false_iff_eq.mpr c36
     clear c36
     by_cases c37 : t198 > t195
     ·rw [if_pos c37] at H
      have c37b0 : decide (t195 < t198) = true := decide_eq_true c37
      clear c37
      have H' := Aside0.mk H
      clear H
      go_wp2
      go_meet
      case rel => exact ⟨_, (true), TT, H', ⟨by first | omega | exact Nat.le_refl _⟩, ⟨by (with_reducible repeat (first | refine blk_drewN ?_ _ | refine blk_drew ?_ | refine blk_alloc ?_ _)); exact BK184.out⟩, ⟨by (with_reducible repeat (first | refine blk_drewN ?_ _ | refine blk_drew ?_ | refine blk_alloc ?_ _)); exact BK185.out⟩, ⟨by (with_reducible repeat (first | refine blk_drewN ?_ _ | refine blk_drew ?_ | refine blk_alloc ?_ _)); exact BK186.out⟩, ⟨TB3 GE184.out GE185.out GE186.out⟩⟩
     ·rw [if_neg c37] at H
      have c37b0 : decide (t195 < t198) = false := decide_eq_false c37
      clear c37
      by_cases c38 : t201 = 0
      ·rw [if_pos c38] at H
       have c38b0 : (t201 == 0) = true := beq_iff_eq.mpr c38
       have c38b1 : (t201 != 0) = false := bne_eq_false_iff_eq.mpr c38
       clear c38
       by_cases c39 : t203 = 0
       ·rw [if_pos c39] at H
        have c39b0 : (t203 == 0) = true := beq_iff_eq.mpr c39
        have c39b1 : (t203 != 0) = false := bne_eq_false_iff_eq.mpr c39
        clear c39
        by_cases c40 : t202 > t200
        ·rw [if_pos c40] at H
         have c40b0 : decide (t200 < t202) = true := decide_eq_true c40
         clear c40
         have H' := Aside0.mk H
         clear H
         go_wp2
         go_meet
         case rel => exact ⟨_, (true), TT, H', ⟨by first | omega | exact Nat.le_refl _⟩, ⟨by (with_reducible repeat (first | refine blk_drewN ?_ _ | refine blk_drew ?_ | refine blk_alloc ?_ _)); exact BK184.out⟩, ⟨by (with_reducible repeat (first | refine blk_drewN ?_ _ | refine blk_drew ?_ | refine blk_alloc ?_ _)); exact BK185.out⟩, ⟨by (with_reducible repeat (first | refine blk_drewN ?_ _ | refine blk_drew ?_ | refine blk_alloc ?_ _)); exact BK186.out⟩, ⟨TB3 GE184.out GE185.out GE186.out⟩⟩
        ·rw [if_neg c40] at H
         have c40b0 : decide (t200 < t202) = false := decide_eq_false c40
         clear c40
         have H' := Aside0.mk H
         clear H
         go_wp2
         go_meet
         case rel => exact ⟨_, (decide (t200 > t195)), TT, H', ⟨by first | omega | exact Nat.le_refl _⟩, ⟨by (with_reducible repeat (first | refine blk_drewN ?_ _ | refine blk_drew ?_ | refine blk_alloc ?_ _)); exact BK184.out⟩, ⟨by (with_reducible repeat (first | refine blk_drewN ?_ _ | refine blk_drew ?_ | refine blk_alloc ?_ _)); exact BK185.out⟩, ⟨by (with_reducible repeat (first | refine blk_drewN ?_ _ | refine blk_drew ?_ | refine blk_alloc ?_ _)); exact BK186.out⟩, ⟨TB3 GE184.out GE185.out GE186.out⟩⟩
       ·rw [if_neg c39] at H
        have c39b0 : (t203 == 0) = false := beq_eq_false_iff_ne.mpr c39
        have c39b1 : (t203 != 0) = true := bne_iff_ne.mpr c39
        have H' := Aside0.mk H
        clear H
        go_wp2
        go_meet
        case rel => exact ⟨_, (true), TT, H', ⟨by first | omega | exact Nat.le_refl _⟩, ⟨by (with_reducible repeat (first | refine blk_drewN ?_ _ | refine blk_drew ?_ | refine blk_alloc ?_ _)); exact BK184.out⟩, ⟨by (with_reducible repeat (first | refine blk_drewN ?_ _ | refine blk_drew ?_ | refine blk_alloc ?_ _)); exact BK185.out⟩, ⟨by (with_reducible repeat (first | refine blk_drewN ?_ _ | refine blk_drew ?_ | refine blk_alloc ?_ _)); exact BK186.out⟩, ⟨TB3 GE184.out GE185.out GE186.out⟩⟩
      ·rw [if_neg c38] at H
       have c38b0 : (t201 == 0) = false := beq_eq_false_iff_ne.mpr c38
       have c38b1 : (t201 != 0) = true := bne_iff_ne.mpr c38
       have H' := Aside0.mk H
       clear H
       go_wp2
       go_meet
       case rel => exact ⟨_, (true), TT, H', ⟨by first | omega | exact Nat.le_refl _⟩, ⟨by (with_reducible repeat (first | refine blk_drewN ?_ _ | refine blk_drew ?_ | refine blk_alloc ?_ _)); exact BK184.out⟩, ⟨by (with_reducible repeat (first | refine blk_drewN ?_ _ | refine blk_drew ?_ | refine blk_alloc ?_ _)); exact BK185.out⟩, ⟨by (with_reducible repeat (first | refine blk_drewN ?_ _ | refine blk_drew ?_ | refine blk_alloc ?_ _)); exact BK186.out⟩, ⟨TB3 GE184.out GE185.out GE186.out⟩⟩
    ·rw [if_neg c36] at H
     have c36b0 : (t199 == 0) = false := beq_eq_false_iff_ne.mpr c36
     have c36b1 : (t199 != 0) = true := bne_iff_ne.mpr c36
     have H' := Aside0.mk H
     clear H
     go_wp2
     go_meet
     case rel => exact ⟨_, (true), TT, H', ⟨by first | omega | exact Nat.le_refl _⟩, ⟨by (with_reducible repeat (first | refine blk_drewN ?_ _ | refine blk_drew ?_ | refine blk_alloc ?_ _)); exact BK184.out⟩, ⟨by (with_reducible repeat (first | refine blk_drewN ?_ _ | refine blk_drew ?_ | refine blk_alloc ?_ _)); exact BK185.out⟩, ⟨by (with_reducible repeat (first | refine blk_drewN ?_ _ | refine blk_drew ?_ | refine blk_alloc ?_ _)); exact BK186.out⟩, ⟨TB3 GE184.out GE185.out GE186.out⟩⟩
   ·rw [if_neg c35] at H
    have c35b0 : (t196 == 0) = false := beq_eq_false_iff_ne.mpr c35
    have c35b1 : (t196 != 0) = true := bne_iff_ne.mpr c35
    (first | rw [c35b0] | (simp only [i64_w, i32_w]; rw [c35b0]) | skip)
    by_cases c41 : t201 = 0
    ·rw [if_pos c41] at H
     have c41b0 : (t201 == 0) = true := beq_iff_eq.mpr c41
     have c41b1 : (t201 != 0) = false := bne_eq_false_iff_eq.mpr c41
     clear c41
     by_cases c42 : t203 = 0
     ·rw [if_pos c42] at H
      have c42b0 : (t203 == 0) = true := beq_iff_eq.mpr c42
      have c42b1 : (t203 != 0) = false := bne_eq_false_iff_eq.mpr c42
      clear c42
      by_cases c43 : t202 > t200
      ·rw [if_pos c43] at H
       have c43b0 : decide (t200 < t202) = true := decide_eq_true c43
       clear c43
       have H' := Aside0.mk H
       clear H
       go_wp2
       go_meet
       case rel => exact ⟨_, (true), TT, H', ⟨by first | omega | exact Nat.le_refl _⟩, ⟨by (with_reducible repeat (first | refine blk_drewN ?_ _ | refine blk_drew ?_ | refine blk_alloc ?_ _)); exact BK184.out⟩, ⟨by (with_reducible repeat (first | refine blk_drewN ?_ _ | refine blk_drew ?_ | refine blk_alloc ?_ _)); exact BK185.out⟩, ⟨by (with_reducible repeat (first | refine blk_drewN ?_ _ | refine blk_drew ?_ | refine blk_alloc ?_ _)); exact BK186.out⟩, ⟨TB3 GE184.out GE185.out GE186.out⟩⟩
      ·rw [if_neg c43] at H
       have c43b0 : decide (t200 < t202) = false := decide_eq_false c43
       clear c43
       have H' := Aside0.mk H
       clear H
       go_wp2
       go_meet
       case rel => exact ⟨_, (false), TT, H', ⟨by first | omega | exact Nat.le_refl _⟩, ⟨by (with_reducible repeat (first | refine blk_drewN ?_ _ | refine blk_drew ?_ | refine blk_alloc ?_ _)); exact BK184.out⟩, ⟨by (with_reducible repeat (first | refine blk_drewN ?_ _ | refine blk_drew ?_ | refine blk_alloc ?_ _)); exact BK185.out⟩, ⟨by (with_reducible repeat (first | refine blk_drewN ?_ _ | refine blk_drew ?_ | refine blk_alloc ?_ _)); exact BK186.out⟩, ⟨TB3 GE184.out GE185.out GE186.out⟩⟩
     ·rw [if_neg c42] at H
      have c42b0 : (t203 == 0) = false := beq_eq_false_iff_ne.mpr c42
      have c42b1 : (t203 != 0) = true := bne_iff_ne.mpr c42
      have H' := Aside0.mk H
      clear H
      go_wp2
      go_meet
      case rel => exact ⟨_, (true), TT, H', ⟨by first | omega | exact Nat.le_refl _⟩, ⟨by (with_reducible repeat (first | refine blk_drewN ?_ _ | refine blk_drew ?_ | refine blk_alloc ?_ _)); exact BK184.out⟩, ⟨by (with_reducible repeat (first | refine blk_drewN ?_ _ | refine blk_drew ?_ | refine blk_alloc ?_ _)); exact BK185.out⟩, ⟨by (with_reducible repeat (first | refine blk_drewN ?_ _ | refine blk_drew ?_ | refine blk_alloc ?_ _)); exact BK186.out⟩, ⟨TB3 GE184.out GE185.out GE186.out⟩⟩
    ·rw [if_neg c41] at H
     have c41b0 : (t201 == 0) = false := beq_eq_false_iff_ne.mpr c41
     have c41b1 : (t201 != 0) = true := bne_iff_ne.mpr c41
     have H' := Aside0.mk H
     clear H
     go_wp2
     go_meet
     case rel => exact ⟨_, (false), TT, H', ⟨by first | omega | exact Nat.le_refl _⟩, ⟨by (with_reducible repeat (first | refine blk_drewN ?_ _ | refine blk_drew ?_ | refine blk_alloc ?_ _)); exact BK184.out⟩, ⟨by (with_reducible repeat (first | refine blk_drewN ?_ _ | refine blk_drew ?_ | refine blk_alloc ?_ _)); exact BK185.out⟩, ⟨by (with_reducible repeat (first | refine blk_drewN ?_ _ | refine blk_drew ?_ | refine blk_alloc ?_ _)); exact BK186.out⟩, ⟨TB3 GE184.out GE185.out GE186.out⟩⟩
  case rest => as_aux_lemma =>
   clear HC14
   try clear c1
   try clear c2
   try clear p2
   try clear c3
   try clear c4
   try clear c6
   try clear c9
   try clear c16
   try clear c18
   try clear c19
   try clear c20
   try clear c22
   try clear c35
   try clear c35b0
   try clear c35b1
   try clear c36
   try clear c36b0
   try clear c36b1
   try clear c37
   try clear c37b0
   try clear c38
   try clear c38b0
   try clear c38b1
   try clear c39
   try clear c39b0
   try clear c39b1
   try clear c40
   try clear c40b0
   try clear c41
   try clear c41b0
   try clear c41b1
   try clear c42
   try clear c42b0
   try clear c42b1
   try clear c43
   try clear c43b0
   try clear hcz20_0 hcz20_1 hcz20_2 hcz20_3
   try clear hcz23_0 hcz23_1
   try clear hcz27_0 hcz27_1 hcz27_2 hcz27_3
   try clear hcz29_0 hcz29_1 hcz29_2 hcz29_3
   try clear hcz31_0 hcz31_1 hcz31_2 hcz31_3
   try clear hcz33_0 hcz33_1 hcz33_2 hcz33_3
   try clear hfz20_0 hfz20_1 hfz20_2 hfz20_3
   try clear hfz23_0 hfz23_1
   try clear hfz27_0 hfz27_1 hfz27_2 hfz27_3
   try clear hfz29_0 hfz29_1 hfz29_2 hfz29_3
   try clear hfz31_0 hfz31_1 hfz31_2 hfz31_3
   try clear hfz33_0 hfz33_1 hfz33_2 hfz33_3
   obtain ⟨kq, x104_13, rfl, HA, HJ13, BK184, BK185, BK186, HB⟩ := hcut
   cases kq with
   | zero => exact absurd HA.out (by simp [saronlaw03_RaspMore.j0])
   | succ kj13 =>
    have H := HA.out
    clear HA
    simp only [saronlaw03_RaspMore.j0] at H
    by_cases c44 : x104_13 = true
    ·subst c44
     have H1 : (some false) = some r := by rw [if_pos rfl] at H; exact H
     clear H
     have H := H1
     clear H1
     obtain rfl := Option.some.inj H
     go_wp2
     go_ret
     exact ⟨TR, TB3 GE184.out GE185.out GE186.out⟩
    ·replace c44 := Bool.eq_false_iff.mpr c44
     subst c44
     have H1 : ((some (([] : List (S57)) : List (S57))).bind fun y205 => (if y205.length + l0_0.length < 5864062014805 then ((some (y205 ++ l0_0 : List (S57))).bind fun y208 => ((saronref00_Turn.f a3 (l0_0.length : Int)).bind fun t211 => (if 0 ≤ t211 then (if t211 < (l0_0.length : Int) then ((saronref00_Band.f 1 ((rd_T57 l0_0 t211).f1)).bind fun bt214 => ((saronref00_Draw.f bt214.1 bt214.2 a3).bind fun t216 => (if t211 < (y208.length : Int) then ((rasp_Next.f (y208.set (t211 : Int).toNat (⟨(⟨(rd_T57 l0_0 t211).f0.f0, (rd_T57 l0_0 t211).f0.f1⟩ : S24), t216⟩ : S57)) a0_1 a0_2 l0_3 t189 t190).bind fun bt218 => (if t196 = 0 then (if bt218.2.2 = 0 then (saronlaw03_RaspMore.j1 kj13 t189 t190 t195 t196 (decide (bt218.2.1 > t195)) l0_0 a0_1 a0_2 l0_3 a1_0 a1_1 a1_2) else (saronlaw03_RaspMore.j1 kj13 t189 t190 t195 t196 true l0_0 a0_1 a0_2 l0_3 a1_0 a1_1 a1_2)) else (saronlaw03_RaspMore.j1 kj13 t189 t190 t195 t196 false l0_0 a0_1 a0_2 l0_3 a1_0 a1_1 a1_2))) else (none)))) else (none)) else (none)))) else (none))) = some r := by rw [if_neg (show ¬ (false = true) by decide)] at H; exact H
     clear H
     have H := H1
     clear H1
     obtain ⟨y205, hy205⟩ : ∃ y_ : List (S57), y_ = (([] : List (S57))) := ⟨_, rfl⟩
     replace H : (if y205.length + l0_0.length < 5864062014805 then ((some (y205 ++ l0_0 : List (S57))).bind fun y208 => ((saronref00_Turn.f a3 (l0_0.length : Int)).bind fun t211 => (if 0 ≤ t211 then (if t211 < (l0_0.length : Int) then ((saronref00_Band.f 1 ((rd_T57 l0_0 t211).f1)).bind fun bt214 => ((saronref00_Draw.f bt214.1 bt214.2 a3).bind fun t216 => (if t211 < (y208.length : Int) then ((rasp_Next.f (y208.set (t211 : Int).toNat (⟨(⟨(rd_T57 l0_0 t211).f0.f0, (rd_T57 l0_0 t211).f0.f1⟩ : S24), t216⟩ : S57)) a0_1 a0_2 l0_3 t189 t190).bind fun bt218 => (if t196 = 0 then (if bt218.2.2 = 0 then (saronlaw03_RaspMore.j1 kj13 t189 t190 t195 t196 (decide (bt218.2.1 > t195)) l0_0 a0_1 a0_2 l0_3 a1_0 a1_1 a1_2) else (saronlaw03_RaspMore.j1 kj13 t189 t190 t195 t196 true l0_0 a0_1 a0_2 l0_3 a1_0 a1_1 a1_2)) else (saronlaw03_RaspMore.j1 kj13 t189 t190 t195 t196 false l0_0 a0_1 a0_2 l0_3 a1_0 a1_1 a1_2))) else (none)))) else (none)) else (none)))) else (none)) = some r := by first | (rw [hy205]; with_reducible exact H) | (have H2_ := (Option.bind_some _ _).symm.trans H; rw [hy205]; with_reducible exact H2_) | (have H2_ := (Option.bind_some _ _).symm.trans H; with_reducible exact H2_) | with_reducible exact H | (rw [hy205]; exact H) | exact H
     have Ny205 := Aside0.mk hy205
     clear hy205
     by_cases c45 : y205.length + l0_0.length < 5864062014805
     ·rw [if_pos c45] at H
      have LMc45 := Aside0.mk c45
      clear c45
      obtain ⟨y208, hy208⟩ : ∃ y_ : List (S57), y_ = (y205 ++ l0_0) := ⟨_, rfl⟩
      replace H : ((saronref00_Turn.f a3 (l0_0.length : Int)).bind fun t211 => (if 0 ≤ t211 then (if t211 < (l0_0.length : Int) then ((saronref00_Band.f 1 ((rd_T57 l0_0 t211).f1)).bind fun bt214 => ((saronref00_Draw.f bt214.1 bt214.2 a3).bind fun t216 => (if t211 < (y208.length : Int) then ((rasp_Next.f (y208.set (t211 : Int).toNat (⟨(⟨(rd_T57 l0_0 t211).f0.f0, (rd_T57 l0_0 t211).f0.f1⟩ : S24), t216⟩ : S57)) a0_1 a0_2 l0_3 t189 t190).bind fun bt218 => (if t196 = 0 then (if bt218.2.2 = 0 then (saronlaw03_RaspMore.j1 kj13 t189 t190 t195 t196 (decide (bt218.2.1 > t195)) l0_0 a0_1 a0_2 l0_3 a1_0 a1_1 a1_2) else (saronlaw03_RaspMore.j1 kj13 t189 t190 t195 t196 true l0_0 a0_1 a0_2 l0_3 a1_0 a1_1 a1_2)) else (saronlaw03_RaspMore.j1 kj13 t189 t190 t195 t196 false l0_0 a0_1 a0_2 l0_3 a1_0 a1_1 a1_2))) else (none)))) else (none)) else (none))) = some r := by first | (rw [hy208]; with_reducible exact H) | (have H2_ := (Option.bind_some _ _).symm.trans H; rw [hy208]; with_reducible exact H2_) | (have H2_ := (Option.bind_some _ _).symm.trans H; with_reducible exact H2_) | with_reducible exact H | (rw [hy208]; exact H) | exact H
      have Ny208 := Aside0.mk hy208
      clear hy208
      replace H := Option.bind_eq_some_iff.mp H
      obtain ⟨t211, A460, H⟩ := H
      replace H : (if 0 ≤ t211 then (if t211 < (l0_0.length : Int) then ((saronref00_Band.f 1 ((rd_T57 l0_0 t211).f1)).bind fun bt214 => ((saronref00_Draw.f bt214.1 bt214.2 a3).bind fun t216 => (if t211 < (y208.length : Int) then ((rasp_Next.f (y208.set (t211 : Int).toNat (⟨(⟨(rd_T57 l0_0 t211).f0.f0, (rd_T57 l0_0 t211).f0.f1⟩ : S24), t216⟩ : S57)) a0_1 a0_2 l0_3 t189 t190).bind fun bt218 => (if t196 = 0 then (if bt218.2.2 = 0 then (saronlaw03_RaspMore.j1 kj13 t189 t190 t195 t196 (decide (bt218.2.1 > t195)) l0_0 a0_1 a0_2 l0_3 a1_0 a1_1 a1_2) else (saronlaw03_RaspMore.j1 kj13 t189 t190 t195 t196 true l0_0 a0_1 a0_2 l0_3 a1_0 a1_1 a1_2)) else (saronlaw03_RaspMore.j1 kj13 t189 t190 t195 t196 false l0_0 a0_1 a0_2 l0_3 a1_0 a1_1 a1_2))) else (none)))) else (none)) else (none)) = some r := H
      have A46 := Aside0.mk A460
      clear A460
      by_cases c47 : 0 ≤ t211
      ·rw [if_pos c47] at H
       have c47b0 : decide (0 ≤ t211) = true := decide_eq_true c47
       clear c47
       by_cases c48 : t211 < (l0_0.length : Int)
       ·rw [if_pos c48] at H
        have c48b0 : decide (t211 < (l0_0.length : Int)) = true := decide_eq_true c48
        clear c48
        replace H := Option.bind_eq_some_iff.mp H
        obtain ⟨⟨t214, t215⟩, A490, H⟩ := H
        replace H : ((saronref00_Draw.f t214 t215 a3).bind fun t216 => (if t211 < (y208.length : Int) then ((rasp_Next.f (y208.set (t211 : Int).toNat (⟨(⟨(rd_T57 l0_0 t211).f0.f0, (rd_T57 l0_0 t211).f0.f1⟩ : S24), t216⟩ : S57)) a0_1 a0_2 l0_3 t189 t190).bind fun bt218 => (if t196 = 0 then (if bt218.2.2 = 0 then (saronlaw03_RaspMore.j1 kj13 t189 t190 t195 t196 (decide (bt218.2.1 > t195)) l0_0 a0_1 a0_2 l0_3 a1_0 a1_1 a1_2) else (saronlaw03_RaspMore.j1 kj13 t189 t190 t195 t196 true l0_0 a0_1 a0_2 l0_3 a1_0 a1_1 a1_2)) else (saronlaw03_RaspMore.j1 kj13 t189 t190 t195 t196 false l0_0 a0_1 a0_2 l0_3 a1_0 a1_1 a1_2))) else (none))) = some r := H
        have A49 := Aside0.mk A490
        clear A490
        replace H := Option.bind_eq_some_iff.mp H
        obtain ⟨t216, A500, H⟩ := H
        replace H : (if t211 < (y208.length : Int) then ((rasp_Next.f (y208.set (t211 : Int).toNat (⟨(⟨(rd_T57 l0_0 t211).f0.f0, (rd_T57 l0_0 t211).f0.f1⟩ : S24), t216⟩ : S57)) a0_1 a0_2 l0_3 t189 t190).bind fun bt218 => (if t196 = 0 then (if bt218.2.2 = 0 then (saronlaw03_RaspMore.j1 kj13 t189 t190 t195 t196 (decide (bt218.2.1 > t195)) l0_0 a0_1 a0_2 l0_3 a1_0 a1_1 a1_2) else (saronlaw03_RaspMore.j1 kj13 t189 t190 t195 t196 true l0_0 a0_1 a0_2 l0_3 a1_0 a1_1 a1_2)) else (saronlaw03_RaspMore.j1 kj13 t189 t190 t195 t196 false l0_0 a0_1 a0_2 l0_3 a1_0 a1_1 a1_2))) else (none)) = some r := H
        have A50 := Aside0.mk A500
        clear A500
        by_cases c51 : t211 < (y208.length : Int)
        ·rw [if_pos c51] at H
         have c51b0 : decide (t211 < (y208.length : Int)) = true := decide_eq_true c51
         clear c51
         obtain ⟨y217, hy217⟩ : ∃ y_ : List (S57), y_ = (y208.set (t211 : Int).toNat (⟨(⟨(rd_T57 l0_0 t211).f0.f0, (rd_T57 l0_0 t211).f0.f1⟩ : S24), t216⟩ : S57)) := ⟨_, rfl⟩
         replace H : ((rasp_Next.f y217 a0_1 a0_2 l0_3 t189 t190).bind fun bt218 => (if t196 = 0 then (if bt218.2.2 = 0 then (saronlaw03_RaspMore.j1 kj13 t189 t190 t195 t196 (decide (bt218.2.1 > t195)) l0_0 a0_1 a0_2 l0_3 a1_0 a1_1 a1_2) else (saronlaw03_RaspMore.j1 kj13 t189 t190 t195 t196 true l0_0 a0_1 a0_2 l0_3 a1_0 a1_1 a1_2)) else (saronlaw03_RaspMore.j1 kj13 t189 t190 t195 t196 false l0_0 a0_1 a0_2 l0_3 a1_0 a1_1 a1_2))) = some r := by first | (rw [hy217]; with_reducible exact H) | (have H2_ := (Option.bind_some _ _).symm.trans H; rw [hy217]; with_reducible exact H2_) | (have H2_ := (Option.bind_some _ _).symm.trans H; with_reducible exact H2_) | with_reducible exact H | (rw [hy217]; exact H) | exact H
         have Ny217 := Aside0.mk hy217
         clear hy217
         replace H := Option.bind_eq_some_iff.mp H
         obtain ⟨⟨t218, t219, t220⟩, A530, H⟩ := H
         replace H : (if t196 = 0 then (if t220 = 0 then (saronlaw03_RaspMore.j1 kj13 t189 t190 t195 t196 (decide (t219 > t195)) l0_0 a0_1 a0_2 l0_3 a1_0 a1_1 a1_2) else (saronlaw03_RaspMore.j1 kj13 t189 t190 t195 t196 true l0_0 a0_1 a0_2 l0_3 a1_0 a1_1 a1_2)) else (saronlaw03_RaspMore.j1 kj13 t189 t190 t195 t196 false l0_0 a0_1 a0_2 l0_3 a1_0 a1_1 a1_2)) = some r := H
         have A53 := Aside0.mk A530
         clear A530
         have HC54 := Aside0.mk H
         clear H
         have hnb55 := NB184_185.out
         have hnc55 := NB185_184.out
         have hnb56 := NB184_186.out
         have hnc56 := NB186_184.out
         have hcz57_0 := czz BK184.out 0
         have hcz57_1 := czz BK184.out 1
         have hcz57_2 := czz BK184.out 2
         have hcz57_3 := czz BK184.out 3
         have hfz57_0 := fz BK184.out 0
         have hfz57_1 := fz BK184.out 1
         have hfz57_2 := fz BK184.out 2
         have hfz57_3 := fz BK184.out 3
         go_upto_region 18 with (first | ((with_reducible refine gate_dst (N := 22) rfl ?_); refine box_event ?hg (N := 22) ?hd (cs := #[.slice none 0 0, .int .i64 0, .int .i64 0, .slice none 0 0]) (t := 27) ?hr ?_; (case hd => rfl); (case hg => rfl); (case hr => exact TS); intro gb204 hg w58 hbox hb; have BK204 := Aside0.mk (hbox); have GW204 := Aside0.mk ((TG3 GE184.out GE185.out GE186.out : w.heap.size ≤ gb204)); have GE204 := Aside0.mk ((TG3 GE184.out GE185.out GE186.out : w.heap.size ≤ gb204)); have NB184_204 := Aside0.mk ((by rw [hg]; exact Nat.ne_of_lt (blk_lt (g := gb184) (o := .cells #[.slice A0_0 l0_0.length c0_0, .int .i64 a0_1, .int .i64 a0_2, .slice A0_3 l0_3.length c0_3] 27 (0, 0)) (by (with_reducible repeat (first | refine blk_drewN ?_ _ | refine blk_drew ?_ | refine blk_alloc ?_ _)); exact BK184.out)) : gb184 ≠ gb204)); have NB204_184 := Aside0.mk ((by rw [hg]; exact Nat.ne_of_gt (blk_lt (g := gb184) (o := .cells #[.slice A0_0 l0_0.length c0_0, .int .i64 a0_1, .int .i64 a0_2, .slice A0_3 l0_3.length c0_3] 27 (0, 0)) (by (with_reducible repeat (first | refine blk_drewN ?_ _ | refine blk_drew ?_ | refine blk_alloc ?_ _)); exact BK184.out)) : gb204 ≠ gb184)); have NB185_204 := Aside0.mk ((by rw [hg]; exact Nat.ne_of_lt (blk_lt (g := gb185) (o := .cells #[.int .i64 a1_0, .int .i64 a1_1, .int .i64 a1_2] 57 (0, 0)) (by (with_reducible repeat (first | refine blk_drewN ?_ _ | refine blk_drew ?_ | refine blk_alloc ?_ _)); exact BK185.out)) : gb185 ≠ gb204)); have NB204_185 := Aside0.mk ((by rw [hg]; exact Nat.ne_of_gt (blk_lt (g := gb185) (o := .cells #[.int .i64 a1_0, .int .i64 a1_1, .int .i64 a1_2] 57 (0, 0)) (by (with_reducible repeat (first | refine blk_drewN ?_ _ | refine blk_drew ?_ | refine blk_alloc ?_ _)); exact BK185.out)) : gb204 ≠ gb185)); have NB186_204 := Aside0.mk ((by rw [hg]; exact Nat.ne_of_lt (blk_lt (g := gb186) (o := .cells #[.int .i64 a2_0, .int .i64 a2_1] 28 (0, 0)) (by (with_reducible repeat (first | refine blk_drewN ?_ _ | refine blk_drew ?_ | refine blk_alloc ?_ _)); exact BK186.out)) : gb186 ≠ gb204)); have NB204_186 := Aside0.mk ((by rw [hg]; exact Nat.ne_of_gt (blk_lt (g := gb186) (o := .cells #[.int .i64 a2_0, .int .i64 a2_1] 28 (0, 0)) (by (with_reducible repeat (first | refine blk_drewN ?_ _ | refine blk_drew ?_ | refine blk_alloc ?_ _)); exact BK186.out)) : gb204 ≠ gb186)); replace BK184 := Aside0.mk (blk_below (g := gb184) (o := .cells #[.slice A0_0 l0_0.length c0_0, .int .i64 a0_1, .int .i64 a0_2, .slice A0_3 l0_3.length c0_3] 27 (0, 0)) (by (with_reducible repeat (first | refine blk_drewN ?_ _ | refine blk_drew ?_ | refine blk_alloc ?_ _)); exact BK184.out) hb); replace BK185 := Aside0.mk (blk_below (g := gb185) (o := .cells #[.int .i64 a1_0, .int .i64 a1_1, .int .i64 a1_2] 57 (0, 0)) (by (with_reducible repeat (first | refine blk_drewN ?_ _ | refine blk_drew ?_ | refine blk_alloc ?_ _)); exact BK185.out) hb); replace BK186 := Aside0.mk (blk_below (g := gb186) (o := .cells #[.int .i64 a2_0, .int .i64 a2_1] 28 (0, 0)) (by (with_reducible repeat (first | refine blk_drewN ?_ _ | refine blk_drew ?_ | refine blk_alloc ?_ _)); exact BK186.out) hb); replace HB := Aside0.mk (below_step (TB3 GE184.out GE185.out GE186.out) hb); clear hb hbox hg; have hnb59 := NB204_184.out; have hnc59 := NB184_204.out; have hnb60 := NB204_185.out; have hnc60 := NB185_204.out; have hnb61 := NB204_186.out; have hnc61 := NB186_204.out; have hcz62_0 := czz BK204.out 0; have hcz62_1 := czz BK204.out 1; have hcz62_2 := czz BK204.out 2; have hcz62_3 := czz BK204.out 3; have hfz62_0 := fz BK204.out 0; have hfz62_1 := fz BK204.out 1; have hfz62_2 := fz BK204.out 2; have hfz62_3 := fz BK204.out 3) | ((with_reducible refine gate_dst (N := 106) rfl ?_); refine Kd.R_lit k57 _ 57 ?hg (N := 106) ?hd (xs := ([] : List (S57))) (inner := []) (ok := fun _ => True) (okp := fun _ => True) ?hr ?hp (fun _ hk => hk) trivial (Below.refl _ _) (Nat.le_refl _) (by simp) ?_; (case hd => rfl); (case hg => rfl); (case hr => exact TS); (case hp => exact (Reps.none _ _)); intro v206 w63 ho64 hb hg_ hnew_; clear hg_ hnew_; (first | rw [← Ny205.out] at ho64 | (simp only [Int.reduceToNat] at ho64; rw [← Ny205.out] at ho64)); have HO207 := Aside0.mk (Kd.R_lower (Kd.R_newB ho64 (g := gb185) (o := .cells #[.int .i64 a1_0, .int .i64 a1_1, .int .i64 a1_2] 57 (0, 0)) (by (with_reducible repeat (first | refine blk_drewN ?_ _ | refine blk_drew ?_ | refine blk_alloc ?_ _)); refine blk_far ?_ NB185_204.out _; (with_reducible repeat (first | refine blk_drewN ?_ _ | refine blk_drew ?_ | refine blk_alloc ?_ _)); refine blk_far ?_ NB185_204.out _; (with_reducible repeat (first | refine blk_drewN ?_ _ | refine blk_drew ?_ | refine blk_alloc ?_ _)); refine blk_far ?_ NB185_204.out _; (with_reducible repeat (first | refine blk_drewN ?_ _ | refine blk_drew ?_ | refine blk_alloc ?_ _)); refine blk_far ?_ NB185_204.out _; (with_reducible repeat (first | refine blk_drewN ?_ _ | refine blk_drew ?_ | refine blk_alloc ?_ _)); exact BK185.out)) (below_size (by repeat (first | (with_reducible first | exact HB.out | apply below_alloc | apply pw_below_drewN | apply below_drew1 | refine below_set ?_ GE184.out | refine below_set ?_ GE185.out | refine below_set ?_ GE186.out | refine below_set ?_ GE204.out) | exact HB.out)))); replace BK184 := Aside0.mk (blk_below (g := gb184) (o := .cells #[.slice A0_0 l0_0.length c0_0, .int .i64 a0_1, .int .i64 a0_2, .slice A0_3 l0_3.length c0_3] 27 (0, 0)) (by (with_reducible repeat (first | refine blk_drewN ?_ _ | refine blk_drew ?_ | refine blk_alloc ?_ _)); refine blk_far ?_ NB184_204.out _; (with_reducible repeat (first | refine blk_drewN ?_ _ | refine blk_drew ?_ | refine blk_alloc ?_ _)); refine blk_far ?_ NB184_204.out _; (with_reducible repeat (first | refine blk_drewN ?_ _ | refine blk_drew ?_ | refine blk_alloc ?_ _)); refine blk_far ?_ NB184_204.out _; (with_reducible repeat (first | refine blk_drewN ?_ _ | refine blk_drew ?_ | refine blk_alloc ?_ _)); refine blk_far ?_ NB184_204.out _; (with_reducible repeat (first | refine blk_drewN ?_ _ | refine blk_drew ?_ | refine blk_alloc ?_ _)); exact BK184.out) hb); replace BK185 := Aside0.mk (blk_below (g := gb185) (o := .cells #[.int .i64 a1_0, .int .i64 a1_1, .int .i64 a1_2] 57 (0, 0)) (by (with_reducible repeat (first | refine blk_drewN ?_ _ | refine blk_drew ?_ | refine blk_alloc ?_ _)); refine blk_far ?_ NB185_204.out _; (with_reducible repeat (first | refine blk_drewN ?_ _ | refine blk_drew ?_ | refine blk_alloc ?_ _)); refine blk_far ?_ NB185_204.out _; (with_reducible repeat (first | refine blk_drewN ?_ _ | refine blk_drew ?_ | refine blk_alloc ?_ _)); refine blk_far ?_ NB185_204.out _; (with_reducible repeat (first | refine blk_drewN ?_ _ | refine blk_drew ?_ | refine blk_alloc ?_ _)); refine blk_far ?_ NB185_204.out _; (with_reducible repeat (first | refine blk_drewN ?_ _ | refine blk_drew ?_ | refine blk_alloc ?_ _)); exact BK185.out) hb); replace BK186 := Aside0.mk (blk_below (g := gb186) (o := .cells #[.int .i64 a2_0, .int .i64 a2_1] 28 (0, 0)) (by (with_reducible repeat (first | refine blk_drewN ?_ _ | refine blk_drew ?_ | refine blk_alloc ?_ _)); refine blk_far ?_ NB186_204.out _; (with_reducible repeat (first | refine blk_drewN ?_ _ | refine blk_drew ?_ | refine blk_alloc ?_ _)); refine blk_far ?_ NB186_204.out _; (with_reducible repeat (first | refine blk_drewN ?_ _ | refine blk_drew ?_ | refine blk_alloc ?_ _)); refine blk_far ?_ NB186_204.out _; (with_reducible repeat (first | refine blk_drewN ?_ _ | refine blk_drew ?_ | refine blk_alloc ?_ _)); refine blk_far ?_ NB186_204.out _; (with_reducible repeat (first | refine blk_drewN ?_ _ | refine blk_drew ?_ | refine blk_alloc ?_ _)); exact BK186.out) hb); replace BK204 := Aside0.mk (blk_below (g := gb204) (o := .cells #[.slice A0_0 l0_0.length c0_0, .int .i64 a0_1, .int .i64 a0_2, .slice A0_3 l0_3.length c0_3] 27 (0, 0)) (by (with_reducible repeat (first | refine blk_drewN ?_ _ | refine blk_drew ?_ | refine blk_alloc ?_ _)); refine blk_put (cs := #[.slice A0_0 l0_0.length c0_0, .int .i64 a0_1, .int .i64 a0_2, .slice none 0 0]) ?_ 3 _ rfl; (with_reducible repeat (first | refine blk_drewN ?_ _ | refine blk_drew ?_ | refine blk_alloc ?_ _)); refine blk_put (cs := #[.slice A0_0 l0_0.length c0_0, .int .i64 a0_1, .int .i64 0, .slice none 0 0]) ?_ 2 _ rfl; (with_reducible repeat (first | refine blk_drewN ?_ _ | refine blk_drew ?_ | refine blk_alloc ?_ _)); refine blk_put (cs := #[.slice A0_0 l0_0.length c0_0, .int .i64 0, .int .i64 0, .slice none 0 0]) ?_ 1 _ rfl; (with_reducible repeat (first | refine blk_drewN ?_ _ | refine blk_drew ?_ | refine blk_alloc ?_ _)); refine blk_put (cs := #[.slice none 0 0, .int .i64 0, .int .i64 0, .slice none 0 0]) ?_ 0 _ rfl; (with_reducible repeat (first | refine blk_drewN ?_ _ | refine blk_drew ?_ | refine blk_alloc ?_ _)); exact BK204.out) hb); replace HB := Aside0.mk (below_step (by repeat (first | (with_reducible first | exact HB.out | apply below_alloc | apply pw_below_drewN | apply below_drew1 | refine below_set ?_ GE184.out | refine below_set ?_ GE185.out | refine below_set ?_ GE186.out | refine below_set ?_ GE204.out) | exact HB.out)) hb); clear hb ho64; have hcz65_0 := czz BK184.out 0; have hcz65_1 := czz BK184.out 1; have hcz65_2 := czz BK184.out 2; have hcz65_3 := czz BK184.out 3; have hfz65_0 := fz BK184.out 0; have hfz65_1 := fz BK184.out 1; have hfz65_2 := fz BK184.out 2; have hfz65_3 := fz BK184.out 3) | ((with_reducible refine gate_builtin (b := .append) (xs := #[.tmp 106, .tmp 108]) rfl ?_); at_builtin; refine Kd.R_append_rows k57 (w0 := w) w.heap.size rfl (.tmp 106) (.tmp 108) 22 57 (.agg #[(.int .i64 0), (.int .i64 0), (.int .i64 0)]) 24 rfl Tryd.underlying22 info57 rfl (by decide) (by omega) v206 y205 l0_0 _ _ _ (fun k_ => k_ ≠ gb185) (fun _ => False) rfl rfl ?aO ?aR (fun _ _ h => h) (fun _ h => h.elim) ?aF ?aB ?aS ?aL ?_; (case aR => exact TC HR0_0.out); (case aB => exact (by repeat (first | (with_reducible first | exact HB.out | apply below_alloc | apply pw_below_drewN | apply below_drew1 | refine below_set ?_ GE184.out | refine below_set ?_ GE185.out | refine below_set ?_ GE186.out | refine below_set ?_ GE204.out) | exact HB.out))); (case aF => exact (fun k_ hk => Kd.freshB (g := gb185) (o := .cells #[.int .i64 a1_0, .int .i64 a1_1, .int .i64 a1_2] 57 (0, 0)) (by (with_reducible repeat (first | refine blk_drewN ?_ _ | refine blk_drew ?_ | refine blk_alloc ?_ _)); exact BK185.out) k_ hk)); (case aO => exact (by (with_reducible repeat (first | apply Kd.R_alloc | apply Kd.R_drewN | apply Kd.R_drew)); exact Kd.R_mono HO207.out (fun _ hk => hk.2))); (case aS => exact (below_size (by repeat (first | (with_reducible first | exact HB.out | apply below_alloc | apply pw_below_drewN | apply below_drew1 | refine below_set ?_ GE184.out | refine below_set ?_ GE185.out | refine below_set ?_ GE186.out | refine below_set ?_ GE204.out) | exact HB.out)))); (case aL => have := LMc45.out; omega); intro v209 w66 ho hb hg hat; rw [← Ny208.out] at ho; have HO210 := Aside0.mk (ho); replace BK184 := Aside0.mk (blk_grown (g := gb184) (o := .cells #[.slice A0_0 l0_0.length c0_0, .int .i64 a0_1, .int .i64 a0_2, .slice A0_3 l0_3.length c0_3] 27 (0, 0)) (by (with_reducible repeat (first | refine blk_drewN ?_ _ | refine blk_drew ?_ | refine blk_alloc ?_ _)); exact BK184.out) hg (Kd.R_ne HO207.out BK184.out (by decide))); replace BK185 := Aside0.mk (blk_grown (g := gb185) (o := .cells #[.int .i64 a1_0, .int .i64 a1_1, .int .i64 a1_2] 57 (0, 0)) (by (with_reducible repeat (first | refine blk_drewN ?_ _ | refine blk_drew ?_ | refine blk_alloc ?_ _)); exact BK185.out) hg (Kd.R_away HO207.out (fun _ hk => hk.2))); replace BK186 := Aside0.mk (blk_grown (g := gb186) (o := .cells #[.int .i64 a2_0, .int .i64 a2_1] 28 (0, 0)) (by (with_reducible repeat (first | refine blk_drewN ?_ _ | refine blk_drew ?_ | refine blk_alloc ?_ _)); exact BK186.out) hg (Kd.R_ne HO207.out BK186.out (by decide))); replace BK204 := Aside0.mk (blk_grown (g := gb204) (o := .cells #[.slice A0_0 l0_0.length c0_0, .int .i64 a0_1, .int .i64 a0_2, .slice A0_3 l0_3.length c0_3] 27 (0, 0)) (by (with_reducible repeat (first | refine blk_drewN ?_ _ | refine blk_drew ?_ | refine blk_alloc ?_ _)); exact BK204.out) hg (Kd.R_ne HO207.out BK204.out (by decide))); replace HB := Aside0.mk (hb); clear HO207; clear ho hb hg hat; obtain ⟨Ao67, co67, eo67⟩ := Kd.R_slice HO210.out; subst eo67; have hcz68_0 := czz BK204.out 0; have hcz68_1 := czz BK204.out 1; have hcz68_2 := czz BK204.out 2; have hcz68_3 := czz BK204.out 3; have hfz68_0 := fz BK204.out 0; have hfz68_1 := fz BK204.out 1; have hfz68_2 := fz BK204.out 2; have hfz68_3 := fz BK204.out 3; have hcz69_0 := czz BK184.out 0; have hcz69_1 := czz BK184.out 1; have hcz69_2 := czz BK184.out 2; have hcz69_3 := czz BK184.out 3; have hfz69_0 := fz BK184.out 0; have hfz69_1 := fz BK184.out 1; have hfz69_2 := fz BK184.out 2; have hfz69_3 := fz BK184.out 3) | ((with_reducible refine gate_callee (f := 45) rfl ?_); refine goesL_ (some 115) rfl rfl Tryd.func45 (by kernel_rfl) rfl #[.int .i64 a3, .int .i64 (l0_0.length : Int)] rfl TM ?_; (with_reducible refine (saronref00_Turn.calls a3 (l0_0.length : Int) t211 _ A46.out).mono ?_); rintro e w' ⟨rfl, ⟨nd, rfl⟩⟩; refine ⟨_, rfl, ?_⟩; have p212 : 0 ≤ (t211 : Int) := of_decide_eq_true TA; have q212 : t211 < (l0_0.length : Int) := of_decide_eq_true TA; obtain ⟨ad212, e212, hx212_0, hx212_1, hx212_2⟩ := at_T57 HR0_0.out t211 p212 q212; cases e212; have hn212_0 : ad212.block ≠ gb204 := Nat.ne_of_lt (Nat.lt_of_lt_of_le (TL hx212_0) GW204.out); replace hx212_0 := hx HB.out hx212_0; replace hx212_1 := hx HB.out hx212_1; replace hx212_2 := hx HB.out hx212_2; replace hx212_0 := (cell_far (p := ⟨gb204, 0, none⟩) (TF hn212_0) (.slice Ao67 y208.length co67)).trans hx212_0; replace hx212_1 := (cell_far (p := ⟨gb204, 0, none⟩) (TF hn212_0) (.slice Ao67 y208.length co67)).trans hx212_1; replace hx212_2 := (cell_far (p := ⟨gb204, 0, none⟩) (TF hn212_0) (.slice Ao67 y208.length co67)).trans hx212_2; clear hn212_0; replace p212 := eq_true p212; replace q212 := eq_true q212) | ((with_reducible refine gate_dst (N := 24) rfl ?_); refine box_event ?hg (N := 24) ?hd (cs := #[.int .i64 0, .int .i64 0, .int .i64 0]) (t := 57) ?hr ?_; (case hd => rfl); (case hg => rfl); (case hr => exact TS); intro gb213 hg w70 hbox hb; have BK213 := Aside0.mk (hbox); have GW213 := Aside0.mk ((by rw [hg]; exact (below_size (by repeat (first | (with_reducible first | exact HB.out | apply below_alloc | apply pw_below_drewN | apply below_drew1 | refine below_set ?_ GE184.out | refine below_set ?_ GE185.out | refine below_set ?_ GE186.out | refine below_set ?_ GE204.out) | exact HB.out))) : w.heap.size ≤ gb213)); have GE213 := Aside0.mk ((by rw [hg]; exact (below_size (by repeat (first | (with_reducible first | exact HB.out | apply below_alloc | apply pw_below_drewN | apply below_drew1 | refine below_set ?_ GE184.out | refine below_set ?_ GE185.out | refine below_set ?_ GE186.out | refine below_set ?_ GE204.out) | exact HB.out))) : w.heap.size ≤ gb213)); have NB184_213 := Aside0.mk ((by rw [hg]; exact Nat.ne_of_lt (blk_lt (g := gb184) (o := .cells #[.slice (some ad212) l0_0.length c0_0, .int .i64 a0_1, .int .i64 a0_2, .slice A0_3 l0_3.length c0_3] 27 (0, 0)) (by (with_reducible repeat (first | refine blk_drewN ?_ _ | refine blk_drew ?_ | refine blk_alloc ?_ _)); refine blk_far ?_ NB184_204.out _; (with_reducible repeat (first | refine blk_drewN ?_ _ | refine blk_drew ?_ | refine blk_alloc ?_ _)); exact BK184.out)) : gb184 ≠ gb213)); have NB213_184 := Aside0.mk ((by rw [hg]; exact Nat.ne_of_gt (blk_lt (g := gb184) (o := .cells #[.slice (some ad212) l0_0.length c0_0, .int .i64 a0_1, .int .i64 a0_2, .slice A0_3 l0_3.length c0_3] 27 (0, 0)) (by (with_reducible repeat (first | refine blk_drewN ?_ _ | refine blk_drew ?_ | refine blk_alloc ?_ _)); refine blk_far ?_ NB184_204.out _; (with_reducible repeat (first | refine blk_drewN ?_ _ | refine blk_drew ?_ | refine blk_alloc ?_ _)); exact BK184.out)) : gb213 ≠ gb184)); have NB185_213 := Aside0.mk ((by rw [hg]; exact Nat.ne_of_lt (blk_lt (g := gb185) (o := .cells #[.int .i64 a1_0, .int .i64 a1_1, .int .i64 a1_2] 57 (0, 0)) (by (with_reducible repeat (first | refine blk_drewN ?_ _ | refine blk_drew ?_ | refine blk_alloc ?_ _)); refine blk_far ?_ NB185_204.out _; (with_reducible repeat (first | refine blk_drewN ?_ _ | refine blk_drew ?_ | refine blk_alloc ?_ _)); exact BK185.out)) : gb185 ≠ gb213)); have NB213_185 := Aside0.mk ((by rw [hg]; exact Nat.ne_of_gt (blk_lt (g := gb185) (o := .cells #[.int .i64 a1_0, .int .i64 a1_1, .int .i64 a1_2] 57 (0, 0)) (by (with_reducible repeat (first | refine blk_drewN ?_ _ | refine blk_drew ?_ | refine blk_alloc ?_ _)); refine blk_far ?_ NB185_204.out _; (with_reducible repeat (first | refine blk_drewN ?_ _ | refine blk_drew ?_ | refine blk_alloc ?_ _)); exact BK185.out)) : gb213 ≠ gb185)); have NB186_213 := Aside0.mk ((by rw [hg]; exact Nat.ne_of_lt (blk_lt (g := gb186) (o := .cells #[.int .i64 a2_0, .int .i64 a2_1] 28 (0, 0)) (by (with_reducible repeat (first | refine blk_drewN ?_ _ | refine blk_drew ?_ | refine blk_alloc ?_ _)); refine blk_far ?_ NB186_204.out _; (with_reducible repeat (first | refine blk_drewN ?_ _ | refine blk_drew ?_ | refine blk_alloc ?_ _)); exact BK186.out)) : gb186 ≠ gb213)); have NB213_186 := Aside0.mk ((by rw [hg]; exact Nat.ne_of_gt (blk_lt (g := gb186) (o := .cells #[.int .i64 a2_0, .int .i64 a2_1] 28 (0, 0)) (by (with_reducible repeat (first | refine blk_drewN ?_ _ | refine blk_drew ?_ | refine blk_alloc ?_ _)); refine blk_far ?_ NB186_204.out _; (with_reducible repeat (first | refine blk_drewN ?_ _ | refine blk_drew ?_ | refine blk_alloc ?_ _)); exact BK186.out)) : gb213 ≠ gb186)); have NB204_213 := Aside0.mk ((by rw [hg]; exact Nat.ne_of_lt (blk_lt (g := gb204) (o := .cells #[.slice Ao67 y208.length co67, .int .i64 a0_1, .int .i64 a0_2, .slice A0_3 l0_3.length c0_3] 27 (0, 0)) (by (with_reducible repeat (first | refine blk_drewN ?_ _ | refine blk_drew ?_ | refine blk_alloc ?_ _)); refine blk_put (cs := #[.slice (some ad212) l0_0.length c0_0, .int .i64 a0_1, .int .i64 a0_2, .slice A0_3 l0_3.length c0_3]) ?_ 0 _ rfl; (with_reducible repeat (first | refine blk_drewN ?_ _ | refine blk_drew ?_ | refine blk_alloc ?_ _)); exact BK204.out)) : gb204 ≠ gb213)); have NB213_204 := Aside0.mk ((by rw [hg]; exact Nat.ne_of_gt (blk_lt (g := gb204) (o := .cells #[.slice Ao67 y208.length co67, .int .i64 a0_1, .int .i64 a0_2, .slice A0_3 l0_3.length c0_3] 27 (0, 0)) (by (with_reducible repeat (first | refine blk_drewN ?_ _ | refine blk_drew ?_ | refine blk_alloc ?_ _)); refine blk_put (cs := #[.slice (some ad212) l0_0.length c0_0, .int .i64 a0_1, .int .i64 a0_2, .slice A0_3 l0_3.length c0_3]) ?_ 0 _ rfl; (with_reducible repeat (first | refine blk_drewN ?_ _ | refine blk_drew ?_ | refine blk_alloc ?_ _)); exact BK204.out)) : gb213 ≠ gb204)); replace HO210 := Aside0.mk (Kd.R_below (Kd.R_elderB (by (with_reducible repeat (first | apply Kd.R_alloc | apply Kd.R_drewN | apply Kd.R_drew)); exact (Kd.R_mono (Kd.R_far (p := ⟨gb204, 0, none⟩) (Kd.R_types HO210.out BK204.out (by decide)) (fun _ hk => hk.2) (.slice Ao67 y208.length co67)) (fun _ h_ => h_.1))) gb213 (Nat.le_of_eq hg.symm)) hb); replace BK184 := Aside0.mk (blk_below (g := gb184) (o := .cells #[.slice (some ad212) l0_0.length c0_0, .int .i64 a0_1, .int .i64 a0_2, .slice A0_3 l0_3.length c0_3] 27 (0, 0)) (by (with_reducible repeat (first | refine blk_drewN ?_ _ | refine blk_drew ?_ | refine blk_alloc ?_ _)); refine blk_far ?_ NB184_204.out _; (with_reducible repeat (first | refine blk_drewN ?_ _ | refine blk_drew ?_ | refine blk_alloc ?_ _)); exact BK184.out) hb); replace BK185 := Aside0.mk (blk_below (g := gb185) (o := .cells #[.int .i64 a1_0, .int .i64 a1_1, .int .i64 a1_2] 57 (0, 0)) (by (with_reducible repeat (first | refine blk_drewN ?_ _ | refine blk_drew ?_ | refine blk_alloc ?_ _)); refine blk_far ?_ NB185_204.out _; (with_reducible repeat (first | refine blk_drewN ?_ _ | refine blk_drew ?_ | refine blk_alloc ?_ _)); exact BK185.out) hb); replace BK186 := Aside0.mk (blk_below (g := gb186) (o := .cells #[.int .i64 a2_0, .int .i64 a2_1] 28 (0, 0)) (by (with_reducible repeat (first | refine blk_drewN ?_ _ | refine blk_drew ?_ | refine blk_alloc ?_ _)); refine blk_far ?_ NB186_204.out _; (with_reducible repeat (first | refine blk_drewN ?_ _ | refine blk_drew ?_ | refine blk_alloc ?_ _)); exact BK186.out) hb); replace BK204 := Aside0.mk (blk_below (g := gb204) (o := .cells #[.slice Ao67 y208.length co67, .int .i64 a0_1, .int .i64 a0_2, .slice A0_3 l0_3.length c0_3] 27 (0, 0)) (by (with_reducible repeat (first | refine blk_drewN ?_ _ | refine blk_drew ?_ | refine blk_alloc ?_ _)); refine blk_put (cs := #[.slice (some ad212) l0_0.length c0_0, .int .i64 a0_1, .int .i64 a0_2, .slice A0_3 l0_3.length c0_3]) ?_ 0 _ rfl; (with_reducible repeat (first | refine blk_drewN ?_ _ | refine blk_drew ?_ | refine blk_alloc ?_ _)); exact BK204.out) hb); replace HB := Aside0.mk (below_step (by repeat (first | (with_reducible first | exact HB.out | apply below_alloc | apply pw_below_drewN | apply below_drew1 | refine below_set ?_ GE184.out | refine below_set ?_ GE185.out | refine below_set ?_ GE186.out | refine below_set ?_ GE204.out) | exact HB.out)) hb); clear hb hbox hg; have hnb71 := NB213_184.out; have hnc71 := NB184_213.out; have hnb72 := NB213_185.out; have hnc72 := NB185_213.out; have hnb73 := NB213_186.out; have hnc73 := NB186_213.out; have hnb74 := NB213_204.out; have hnc74 := NB204_213.out; have hcz75_0 := czz BK213.out 0; have hcz75_1 := czz BK213.out 1; have hcz75_2 := czz BK213.out 2; have hfz75_0 := fz BK213.out 0; have hfz75_1 := fz BK213.out 1; have hfz75_2 := fz BK213.out 2) | ((with_reducible refine gate_callee (f := 44) rfl ?_); refine goesL_ (some 123) rfl rfl Tryd.func44 (by kernel_rfl) rfl #[.int .i64 1, .int .i64 ((rd_T57 l0_0 t211).f1)] rfl TM ?_; (with_reducible refine (saronref00_Band.calls 1 ((rd_T57 l0_0 t211).f1) t214 t215 _ A49.out).mono ?_); rintro e w76 ⟨rfl, hb⟩; refine ⟨_, rfl, ?_⟩; replace HO210 := Aside0.mk (Kd.R_below (by (with_reducible repeat (first | apply Kd.R_alloc | apply Kd.R_drewN | apply Kd.R_drew)); exact (Kd.R_mono (Kd.R_far (p := ⟨gb213, 2, none⟩) (Kd.R_far (p := ⟨gb213, 1, none⟩) (Kd.R_far (p := ⟨gb213, 0, none⟩) (Kd.R_mono HO210.out (fun k_ hk => (⟨hk, hk.2⟩ : _ ∧ k_ ≠ gb213))) (fun _ hk => hk.2) (.int .i64 ((rd_T57 l0_0 t211).f0.f0))) (fun _ hk => hk.2) (.int .i64 ((rd_T57 l0_0 t211).f0.f1))) (fun _ hk => hk.2) (.int .i64 ((rd_T57 l0_0 t211).f1))) (fun _ h_ => h_.1))) hb); replace BK184 := Aside0.mk (blk_below (g := gb184) (o := .cells #[.slice (some ad212) l0_0.length c0_0, .int .i64 a0_1, .int .i64 a0_2, .slice A0_3 l0_3.length c0_3] 27 (0, 0)) (by (with_reducible repeat (first | refine blk_drewN ?_ _ | refine blk_drew ?_ | refine blk_alloc ?_ _)); refine blk_far ?_ NB184_213.out _; (with_reducible repeat (first | refine blk_drewN ?_ _ | refine blk_drew ?_ | refine blk_alloc ?_ _)); refine blk_far ?_ NB184_213.out _; (with_reducible repeat (first | refine blk_drewN ?_ _ | refine blk_drew ?_ | refine blk_alloc ?_ _)); refine blk_far ?_ NB184_213.out _; (with_reducible repeat (first | refine blk_drewN ?_ _ | refine blk_drew ?_ | refine blk_alloc ?_ _)); exact BK184.out) hb); replace BK185 := Aside0.mk (blk_below (g := gb185) (o := .cells #[.int .i64 a1_0, .int .i64 a1_1, .int .i64 a1_2] 57 (0, 0)) (by (with_reducible repeat (first | refine blk_drewN ?_ _ | refine blk_drew ?_ | refine blk_alloc ?_ _)); refine blk_far ?_ NB185_213.out _; (with_reducible repeat (first | refine blk_drewN ?_ _ | refine blk_drew ?_ | refine blk_alloc ?_ _)); refine blk_far ?_ NB185_213.out _; (with_reducible repeat (first | refine blk_drewN ?_ _ | refine blk_drew ?_ | refine blk_alloc ?_ _)); refine blk_far ?_ NB185_213.out _; (with_reducible repeat (first | refine blk_drewN ?_ _ | refine blk_drew ?_ | refine blk_alloc ?_ _)); exact BK185.out) hb); replace BK186 := Aside0.mk (blk_below (g := gb186) (o := .cells #[.int .i64 a2_0, .int .i64 a2_1] 28 (0, 0)) (by (with_reducible repeat (first | refine blk_drewN ?_ _ | refine blk_drew ?_ | refine blk_alloc ?_ _)); refine blk_far ?_ NB186_213.out _; (with_reducible repeat (first | refine blk_drewN ?_ _ | refine blk_drew ?_ | refine blk_alloc ?_ _)); refine blk_far ?_ NB186_213.out _; (with_reducible repeat (first | refine blk_drewN ?_ _ | refine blk_drew ?_ | refine blk_alloc ?_ _)); refine blk_far ?_ NB186_213.out _; (with_reducible repeat (first | refine blk_drewN ?_ _ | refine blk_drew ?_ | refine blk_alloc ?_ _)); exact BK186.out) hb); replace BK204 := Aside0.mk (blk_below (g := gb204) (o := .cells #[.slice Ao67 y208.length co67, .int .i64 a0_1, .int .i64 a0_2, .slice A0_3 l0_3.length c0_3] 27 (0, 0)) (by (with_reducible repeat (first | refine blk_drewN ?_ _ | refine blk_drew ?_ | refine blk_alloc ?_ _)); refine blk_far ?_ NB204_213.out _; (with_reducible repeat (first | refine blk_drewN ?_ _ | refine blk_drew ?_ | refine blk_alloc ?_ _)); refine blk_far ?_ NB204_213.out _; (with_reducible repeat (first | refine blk_drewN ?_ _ | refine blk_drew ?_ | refine blk_alloc ?_ _)); refine blk_far ?_ NB204_213.out _; (with_reducible repeat (first | refine blk_drewN ?_ _ | refine blk_drew ?_ | refine blk_alloc ?_ _)); exact BK204.out) hb); replace BK213 := Aside0.mk (blk_below (g := gb213) (o := .cells #[.int .i64 ((rd_T57 l0_0 t211).f0.f0), .int .i64 ((rd_T57 l0_0 t211).f0.f1), .int .i64 ((rd_T57 l0_0 t211).f1)] 57 (0, 0)) (by (with_reducible repeat (first | refine blk_drewN ?_ _ | refine blk_drew ?_ | refine blk_alloc ?_ _)); refine blk_put (cs := #[.int .i64 ((rd_T57 l0_0 t211).f0.f0), .int .i64 ((rd_T57 l0_0 t211).f0.f1), .int .i64 0]) ?_ 2 _ rfl; (with_reducible repeat (first | refine blk_drewN ?_ _ | refine blk_drew ?_ | refine blk_alloc ?_ _)); refine blk_put (cs := #[.int .i64 ((rd_T57 l0_0 t211).f0.f0), .int .i64 0, .int .i64 0]) ?_ 1 _ rfl; (with_reducible repeat (first | refine blk_drewN ?_ _ | refine blk_drew ?_ | refine blk_alloc ?_ _)); refine blk_put (cs := #[.int .i64 0, .int .i64 0, .int .i64 0]) ?_ 0 _ rfl; (with_reducible repeat (first | refine blk_drewN ?_ _ | refine blk_drew ?_ | refine blk_alloc ?_ _)); exact BK213.out) hb); replace HB := Aside0.mk (below_step (by repeat (first | (with_reducible first | exact HB.out | apply below_alloc | apply pw_below_drewN | apply below_drew1 | refine below_set ?_ GE184.out | refine below_set ?_ GE185.out | refine below_set ?_ GE186.out | refine below_set ?_ GE204.out | refine below_set ?_ GE213.out) | exact HB.out)) hb); (try clear hb); (try clear hb2); (try clear hk); (try clear hi)) | ((with_reducible refine gate_callee (f := 41) rfl ?_); refine goesL_ (some 125) rfl rfl Tryd.func41 (by kernel_rfl) rfl #[.agg #[.int .i64 t214, .int .i64 t215], .int .i64 a3] rfl TM ?_; (with_reducible refine (saronref00_Draw.calls t214 t215 a3 t216 _ A50.out).mono ?_); rintro e w77 ⟨rfl, hb⟩; refine ⟨_, rfl, ?_⟩; replace HO210 := Aside0.mk (Kd.R_below (TRo HO210.out) hb); replace BK184 := Aside0.mk (blk_below (g := gb184) (o := .cells #[.slice (some ad212) l0_0.length c0_0, .int .i64 a0_1, .int .i64 a0_2, .slice A0_3 l0_3.length c0_3] 27 (0, 0)) (by (with_reducible repeat (first | refine blk_drewN ?_ _ | refine blk_drew ?_ | refine blk_alloc ?_ _)); exact BK184.out) hb); replace BK185 := Aside0.mk (blk_below (g := gb185) (o := .cells #[.int .i64 a1_0, .int .i64 a1_1, .int .i64 a1_2] 57 (0, 0)) (by (with_reducible repeat (first | refine blk_drewN ?_ _ | refine blk_drew ?_ | refine blk_alloc ?_ _)); exact BK185.out) hb); replace BK186 := Aside0.mk (blk_below (g := gb186) (o := .cells #[.int .i64 a2_0, .int .i64 a2_1] 28 (0, 0)) (by (with_reducible repeat (first | refine blk_drewN ?_ _ | refine blk_drew ?_ | refine blk_alloc ?_ _)); exact BK186.out) hb); replace BK204 := Aside0.mk (blk_below (g := gb204) (o := .cells #[.slice Ao67 y208.length co67, .int .i64 a0_1, .int .i64 a0_2, .slice A0_3 l0_3.length c0_3] 27 (0, 0)) (by (with_reducible repeat (first | refine blk_drewN ?_ _ | refine blk_drew ?_ | refine blk_alloc ?_ _)); exact BK204.out) hb); replace BK213 := Aside0.mk (blk_below (g := gb213) (o := .cells #[.int .i64 ((rd_T57 l0_0 t211).f0.f0), .int .i64 ((rd_T57 l0_0 t211).f0.f1), .int .i64 ((rd_T57 l0_0 t211).f1)] 57 (0, 0)) (by (with_reducible repeat (first | refine blk_drewN ?_ _ | refine blk_drew ?_ | refine blk_alloc ?_ _)); exact BK213.out) hb); replace HB := Aside0.mk (below_step (by repeat (first | (with_reducible first | exact HB.out | apply below_alloc | apply pw_below_drewN | apply below_drew1 | refine below_set ?_ GE184.out | refine below_set ?_ GE185.out | refine below_set ?_ GE186.out | refine below_set ?_ GE204.out | refine below_set ?_ GE213.out) | exact HB.out)) hb); (try clear hb); (try clear hb2); (try clear hk); (try clear hi); have hcz78_0 := czz BK213.out 0; have hcz78_1 := czz BK213.out 1; have hcz78_2 := czz BK213.out 2; have hfz78_0 := fz BK213.out 0; have hfz78_1 := fz BK213.out 1; have hfz78_2 := fz BK213.out 2) | ((with_reducible refine gate_store (t := 3) (p := 126) rfl ?_); refine store_event (t := 3) (p := 126) (v := ?vo_w79) (w1 := (w77.setCell ⟨gb213, 2, none⟩ (.int .i64 t216))) ?hg ?ho ?hn ?hr ?_; (case ho => rfl); (case hg => rfl); (case hn => rfl); (case hr => exact TS); intro w79 hw; have n0_ : Aside0 (Kd.R k57 57 w79 w.heap.size (fun k_ => k_ ≠ gb185 ∧ k_ ≠ gb213) (.slice Ao67 y208.length co67) y208) := ⟨(by rw [hw]; exact (by (with_reducible repeat (first | apply Kd.R_alloc | apply Kd.R_drewN | apply Kd.R_drew)); exact Kd.R_mono (Kd.R_far (p := ⟨gb213, 2, none⟩) (Kd.R_mono HO210.out (fun k_ hk => (⟨hk, hk.2⟩ : _ ∧ k_ ≠ gb213))) (fun _ hk => hk.2) (.int .i64 t216)) (fun _ hk => ⟨hk.1.1, hk.1.2⟩)))⟩; have n1_ : Aside0 (w79.heap[gb184]? = some (.cells #[.slice (some ad212) l0_0.length c0_0, .int .i64 a0_1, .int .i64 a0_2, .slice A0_3 l0_3.length c0_3] 27 (0, 0))) := ⟨(by rw [hw]; exact (by (with_reducible repeat (first | refine blk_drewN ?_ _ | refine blk_drew ?_ | refine blk_alloc ?_ _)); refine blk_far ?_ NB184_213.out _; (with_reducible repeat (first | refine blk_drewN ?_ _ | refine blk_drew ?_ | refine blk_alloc ?_ _)); exact BK184.out))⟩; have n2_ : Aside0 (w79.heap[gb185]? = some (.cells #[.int .i64 a1_0, .int .i64 a1_1, .int .i64 a1_2] 57 (0, 0))) := ⟨(by rw [hw]; exact (by (with_reducible repeat (first | refine blk_drewN ?_ _ | refine blk_drew ?_ | refine blk_alloc ?_ _)); refine blk_far ?_ NB185_213.out _; (with_reducible repeat (first | refine blk_drewN ?_ _ | refine blk_drew ?_ | refine blk_alloc ?_ _)); exact BK185.out))⟩; have n3_ : Aside0 (w79.heap[gb186]? = some (.cells #[.int .i64 a2_0, .int .i64 a2_1] 28 (0, 0))) := ⟨(by rw [hw]; exact (by (with_reducible repeat (first | refine blk_drewN ?_ _ | refine blk_drew ?_ | refine blk_alloc ?_ _)); refine blk_far ?_ NB186_213.out _; (with_reducible repeat (first | refine blk_drewN ?_ _ | refine blk_drew ?_ | refine blk_alloc ?_ _)); exact BK186.out))⟩; have n4_ : Aside0 (w79.heap[gb204]? = some (.cells #[.slice Ao67 y208.length co67, .int .i64 a0_1, .int .i64 a0_2, .slice A0_3 l0_3.length c0_3] 27 (0, 0))) := ⟨(by rw [hw]; exact (by (with_reducible repeat (first | refine blk_drewN ?_ _ | refine blk_drew ?_ | refine blk_alloc ?_ _)); refine blk_far ?_ NB204_213.out _; (with_reducible repeat (first | refine blk_drewN ?_ _ | refine blk_drew ?_ | refine blk_alloc ?_ _)); exact BK204.out))⟩; have n5_ : Aside0 (w79.heap[gb213]? = some (.cells #[.int .i64 ((rd_T57 l0_0 t211).f0.f0), .int .i64 ((rd_T57 l0_0 t211).f0.f1), .int .i64 t216] 57 (0, 0))) := ⟨(by rw [hw]; exact (by (with_reducible repeat (first | refine blk_drewN ?_ _ | refine blk_drew ?_ | refine blk_alloc ?_ _)); refine blk_put (cs := #[.int .i64 ((rd_T57 l0_0 t211).f0.f0), .int .i64 ((rd_T57 l0_0 t211).f0.f1), .int .i64 ((rd_T57 l0_0 t211).f1)]) ?_ 2 _ rfl; (with_reducible repeat (first | refine blk_drewN ?_ _ | refine blk_drew ?_ | refine blk_alloc ?_ _)); exact BK213.out))⟩; have n6_ : Aside0 (Below w.heap.size w w79) := ⟨(by rw [hw]; exact (by repeat (first | (with_reducible first | exact HB.out | apply below_alloc | apply pw_below_drewN | apply below_drew1 | refine below_set ?_ GE184.out | refine below_set ?_ GE185.out | refine below_set ?_ GE186.out | refine below_set ?_ GE204.out | refine below_set ?_ GE213.out) | exact HB.out)))⟩; clear hw; clear HO210; clear BK184; clear BK185; clear BK186; clear BK204; clear BK213; clear HB; have HO210 := n0_; have BK184 := n1_; have BK185 := n2_; have BK186 := n3_; have BK204 := n4_; have BK213 := n5_; have HB := n6_; clear n0_ n1_ n2_ n3_ n4_ n5_ n6_; have hcz80_0 := czz BK204.out 0; have hcz80_1 := czz BK204.out 1; have hcz80_2 := czz BK204.out 2; have hcz80_3 := czz BK204.out 3; have hfz80_0 := fz BK204.out 0; have hfz80_1 := fz BK204.out 1; have hfz80_2 := fz BK204.out 2; have hfz80_3 := fz BK204.out 3; have hcz81_0 := czz BK213.out 0; have hcz81_1 := czz BK213.out 1; have hcz81_2 := czz BK213.out 2; have hfz81_0 := fz BK213.out 0; have hfz81_1 := fz BK213.out 1; have hfz81_2 := fz BK213.out 2; have p52 : 0 ≤ (t211 : Int) := of_decide_eq_true TA; have q52 : (t211 : Int) < ((y208.length : Int) : Int) := of_decide_eq_true TA; obtain ⟨go52, co52, eo52, gb52, gl52, cl52, HG52⟩ := Kd.R_form HO210.out (by omega); (first | cases eo52 | (injection eo52 with ea_ en_ ec_; (first | subst ea_ | (injection ea_ with ea_; subst ea_)); subst ec_; clear en_)); have GB52 := Aside0.mk gb52; have GG52 := Aside0.mk HG52; clear gb52 gl52 HG52; obtain ⟨ce52, hcl52, hM52, hcc52, hfr52⟩ := Kd.R_elem HO210.out z57 (t211 : Int) p52 q52; obtain rfl := k57_openM hM52; have hx52_0 : w79.cell? ⟨go52, (t211 : Int).toNat * 3, none⟩ = some (.int .i64 ((rd_T57 y208 t211).f0.f0)) := hcc52 0 _ rfl; have hx52_1 : w79.cell? ⟨go52, (t211 : Int).toNat * 3 + 1, none⟩ = some (.int .i64 ((rd_T57 y208 t211).f0.f1)) := hcc52 1 _ rfl; have hx52_2 : w79.cell? ⟨go52, (t211 : Int).toNat * 3 + 2, none⟩ = some (.int .i64 ((rd_T57 y208 t211).f1)) := hcc52 2 _ rfl; have hf52_0 : w79.frozen? ⟨go52, (t211 : Int).toNat * 3, none⟩ = false := hfr52 0; have hf52_1 : w79.frozen? ⟨go52, (t211 : Int).toNat * 3 + 1, none⟩ = false := hfr52 1; have hf52_2 : w79.frozen? ⟨go52, (t211 : Int).toNat * 3 + 2, none⟩ = false := hfr52 2; clear hcl52 hcc52 hfr52 hM52; replace p52 := eq_true p52; replace q52 := eq_true q52; have HX82 := Aside0.mk (show Kd.R k57 57 w79 w.heap.size (fun k_ => k_ ≠ gb185 ∧ k_ ≠ gb213) (.slice (some ⟨go52, 0, none⟩) y208.length co67) y208 from (TRo HO210.out)); obtain ⟨ce82, hcl82, hM82, hcc82, hfr82⟩ := Kd.R_elem HX82.out z57 (t211 : Int) (of_decide_eq_true TA) (by have h_ : (t211 : Int) < ((y208.length : Int) : Int) := of_decide_eq_true TA; first | exact h_ | (have e_ := (Kd.R_reads' HO210.out).1; omega) | simpa using h_); obtain rfl := k57_openM hM82; have HP82 := Kd.R_seg HX82.out (t211 : Int) (of_decide_eq_true TA) (by have h_ : (t211 : Int) < ((y208.length : Int) : Int) := of_decide_eq_true TA; first | exact h_ | (have e_ := (Kd.R_reads' HO210.out).1; omega) | simpa using h_) (seg := [.int .i64 ((rd_T57 l0_0 t211).f0.f0), .int .i64 ((rd_T57 l0_0 t211).f0.f1), .int .i64 t216]) (j := 0) hcl82 hcc82 (show 3 ≤ 3 from by decide) (x' := (⟨(⟨(rd_T57 l0_0 t211).f0.f0, (rd_T57 l0_0 t211).f0.f1⟩ : S24), t216⟩ : S57)) (k57_mkM _ _ _ (⟨(⟨(rd_T57 l0_0 t211).f0.f0, (rd_T57 l0_0 t211).f0.f1⟩ : S24), t216⟩ : S57) ) (fun _ hk => hk); have hx82_0 := hcc82 0 _ rfl; (try simp only [show (k57).sz = 3 from rfl, Nat.mul_one, Nat.add_zero] at hx82_0); have hf82_0 := hfr82 0; (try simp only [show (k57).sz = 3 from rfl, Nat.mul_one, Nat.add_zero] at hf82_0); have hx82_1 := hcc82 1 _ rfl; (try simp only [show (k57).sz = 3 from rfl, Nat.mul_one, Nat.add_zero] at hx82_1); have hf82_1 := hfr82 1; (try simp only [show (k57).sz = 3 from rfl, Nat.mul_one, Nat.add_zero] at hf82_1); have hx82_2 := hcc82 2 _ rfl; (try simp only [show (k57).sz = 3 from rfl, Nat.mul_one, Nat.add_zero] at hx82_2); have hf82_2 := hfr82 2; (try simp only [show (k57).sz = 3 from rfl, Nat.mul_one, Nat.add_zero] at hf82_2); clear hcl82 hcc82 hfr82 hM82) | ((with_reducible refine gate_store (t := 57) (p := 131) rfl ?_); refine store_event (t := 57) (p := 131) (v := ?vo_w83) (w1 := (((w79.setCell ⟨go52, (t211 : Int).toNat * 3, none⟩ (.int .i64 ((rd_T57 l0_0 t211).f0.f0))).setCell ⟨go52, (t211 : Int).toNat * 3 + 1, none⟩ (.int .i64 ((rd_T57 l0_0 t211).f0.f1))).setCell ⟨go52, (t211 : Int).toNat * 3 + 2, none⟩ (.int .i64 t216))) ?hg ?ho ?hn ?hr ?_; (case ho => rfl); (case hg => rfl); (case hn => rfl); (case hr => exact TS); intro w83 hw; have hg : w79.grownBy w83 (some go52) := (by rw [hw]; exact HP82.2); have hp_ : Kd.R k57 57 w83 w.heap.size (fun k_ => k_ ≠ gb185 ∧ k_ ≠ gb213) (.slice (some ⟨go52, 0, none⟩) y208.length co67) y217 := (by rw [hw, Ny217.out]; exact HP82.1); clear HP82; replace BK184 := Aside0.mk (blk_grown (g := gb184) (o := .cells #[.slice (some ad212) l0_0.length c0_0, .int .i64 a0_1, .int .i64 a0_2, .slice A0_3 l0_3.length c0_3] 27 (0, 0)) (by (with_reducible repeat (first | refine blk_drewN ?_ _ | refine blk_drew ?_ | refine blk_alloc ?_ _)); exact BK184.out) hg (Kd.R_ne HO210.out BK184.out (by decide))); replace BK185 := Aside0.mk (blk_grown (g := gb185) (o := .cells #[.int .i64 a1_0, .int .i64 a1_1, .int .i64 a1_2] 57 (0, 0)) (by (with_reducible repeat (first | refine blk_drewN ?_ _ | refine blk_drew ?_ | refine blk_alloc ?_ _)); exact BK185.out) hg (Kd.R_away HO210.out (fun _ hk => hk.1))); replace BK186 := Aside0.mk (blk_grown (g := gb186) (o := .cells #[.int .i64 a2_0, .int .i64 a2_1] 28 (0, 0)) (by (with_reducible repeat (first | refine blk_drewN ?_ _ | refine blk_drew ?_ | refine blk_alloc ?_ _)); exact BK186.out) hg (Kd.R_ne HO210.out BK186.out (by decide))); replace BK204 := Aside0.mk (blk_grown (g := gb204) (o := .cells #[.slice (some ⟨go52, 0, none⟩) y208.length co67, .int .i64 a0_1, .int .i64 a0_2, .slice A0_3 l0_3.length c0_3] 27 (0, 0)) (by (with_reducible repeat (first | refine blk_drewN ?_ _ | refine blk_drew ?_ | refine blk_alloc ?_ _)); exact BK204.out) hg (Kd.R_ne HO210.out BK204.out (by decide))); replace BK213 := Aside0.mk (blk_grown (g := gb213) (o := .cells #[.int .i64 ((rd_T57 l0_0 t211).f0.f0), .int .i64 ((rd_T57 l0_0 t211).f0.f1), .int .i64 t216] 57 (0, 0)) (by (with_reducible repeat (first | refine blk_drewN ?_ _ | refine blk_drew ?_ | refine blk_alloc ?_ _)); exact BK213.out) hg (Kd.R_away HO210.out (fun _ hk => hk.2))); replace HO210 := Aside0.mk (hp_); replace HB := Aside0.mk ((by rw [hw]; exact below_set (below_set (below_set (HB.out) GB52.out) GB52.out) GB52.out : Below w.heap.size w w83)); clear hg hw hp_; have hcz84_0 := czz BK204.out 0; have hcz84_1 := czz BK204.out 1; have hcz84_2 := czz BK204.out 2; have hcz84_3 := czz BK204.out 3; have hfz84_0 := fz BK204.out 0; have hfz84_1 := fz BK204.out 1; have hfz84_2 := fz BK204.out 2; have hfz84_3 := fz BK204.out 3) | ((with_reducible refine gate_callee (f := 16) rfl ?_); refine goesL_ (some 136) rfl rfl Tryd.func16 (by kernel_rfl) rfl #[.agg #[.slice (some ⟨go52, 0, none⟩) y217.length co67, .int .i64 a0_1, .int .i64 a0_2, .slice A0_3 l0_3.length c0_3], .int .i64 t189, .int .i64 t190] rfl (by (try simp only [lM, mC, mN]); first | done | (rw [show y217.length = y208.length from (Kd.R_reads' HO210.out).1.symm] <;> rfl) | rfl | (simp only [List.length_drop, List.length_take]; rfl)) ?_; (with_reducible refine (rasp_Next.calls _ _ y217 a0_1 a0_2 _ _ l0_3 t189 t190 t218 t219 t220 _ ?side1 ?side2 ?side3 ?side4 ?side5 A53.out).mono ?_); (case side1 => repeat (first | exact (Kd.R_reads' HO210.out).2.2 | (with_reducible refine Kd.C_alloc ?_ _) | (with_reducible refine Kd.C_drewN ?_ _) | (with_reducible refine Kd.C_drew ?_))); (case side2 => rw [show y217.length = y208.length from (Kd.R_reads' HO210.out).1.symm]; exact (Kd.R_reads' HO210.out).2.1); (case side3 => exact TC HR0_3.out); (case side4 => exact HC0_3.out); (case side5 => exact Glob.fr HG.out (Fr.of_below (by repeat (first | (with_reducible first | exact HB.out | apply below_alloc | apply pw_below_drewN | apply below_drew1 | refine below_set ?_ GE184.out | refine below_set ?_ GE185.out | refine below_set ?_ GE186.out | refine below_set ?_ GE204.out | refine below_set ?_ GE213.out) | exact HB.out)))); rintro e w85 ⟨rfl, hb⟩; refine ⟨_, rfl, ?_⟩; replace HO210 := Aside0.mk (Kd.R_below (TRo HO210.out) hb); replace BK184 := Aside0.mk (blk_below (g := gb184) (o := .cells #[.slice (some ad212) l0_0.length c0_0, .int .i64 a0_1, .int .i64 a0_2, .slice A0_3 l0_3.length c0_3] 27 (0, 0)) (by (with_reducible repeat (first | refine blk_drewN ?_ _ | refine blk_drew ?_ | refine blk_alloc ?_ _)); exact BK184.out) hb); replace BK185 := Aside0.mk (blk_below (g := gb185) (o := .cells #[.int .i64 a1_0, .int .i64 a1_1, .int .i64 a1_2] 57 (0, 0)) (by (with_reducible repeat (first | refine blk_drewN ?_ _ | refine blk_drew ?_ | refine blk_alloc ?_ _)); exact BK185.out) hb); replace BK186 := Aside0.mk (blk_below (g := gb186) (o := .cells #[.int .i64 a2_0, .int .i64 a2_1] 28 (0, 0)) (by (with_reducible repeat (first | refine blk_drewN ?_ _ | refine blk_drew ?_ | refine blk_alloc ?_ _)); exact BK186.out) hb); replace BK204 := Aside0.mk (blk_below (g := gb204) (o := .cells #[.slice (some ⟨go52, 0, none⟩) y208.length co67, .int .i64 a0_1, .int .i64 a0_2, .slice A0_3 l0_3.length c0_3] 27 (0, 0)) (by (with_reducible repeat (first | refine blk_drewN ?_ _ | refine blk_drew ?_ | refine blk_alloc ?_ _)); exact BK204.out) hb); replace BK213 := Aside0.mk (blk_below (g := gb213) (o := .cells #[.int .i64 ((rd_T57 l0_0 t211).f0.f0), .int .i64 ((rd_T57 l0_0 t211).f0.f1), .int .i64 t216] 57 (0, 0)) (by (with_reducible repeat (first | refine blk_drewN ?_ _ | refine blk_drew ?_ | refine blk_alloc ?_ _)); exact BK213.out) hb); replace HB := Aside0.mk (below_step (by repeat (first | (with_reducible first | exact HB.out | apply below_alloc | apply pw_below_drewN | apply below_drew1 | refine below_set ?_ GE184.out | refine below_set ?_ GE185.out | refine below_set ?_ GE186.out | refine below_set ?_ GE204.out | refine below_set ?_ GE213.out) | exact HB.out)) hb); (try clear hb); (try clear hb2); (try clear hk); (try clear hi)))
         (try simp only [Act.put, lA, lZ, lS])
         go_cut [150] (fun v150 wc => ∃ (kq : Nat) (x150_53 : Bool), v150 = .bool x150_53 ∧ Aside0 (saronlaw03_RaspMore.j1 kq t189 t190 t195 t196 x150_53 l0_0 a0_1 a0_2 l0_3 a1_0 a1_1 a1_2 = some r) ∧ Aside0 (kq ≤ kj13) ∧ Aside0 (Kd.R k57 57 wc w.heap.size (fun k_ => k_ ≠ gb185 ∧ k_ ≠ gb213) (.slice (some ⟨go52, 0, none⟩) y208.length co67) y217) ∧ Aside0 (wc.heap[gb184]? = some (.cells #[(.slice (some ad212) l0_0.length c0_0), .int .i64 a0_1, .int .i64 a0_2, (.slice A0_3 l0_3.length c0_3)] 27 (0, 0))) ∧ Aside0 (wc.heap[gb185]? = some (.cells #[.int .i64 a1_0, .int .i64 a1_1, .int .i64 a1_2] 57 (0, 0))) ∧ Aside0 (wc.heap[gb186]? = some (.cells #[.int .i64 a2_0, .int .i64 a2_1] 28 (0, 0))) ∧ Aside0 (wc.heap[gb204]? = some (.cells #[(.slice (some ⟨go52, 0, none⟩) y208.length co67), .int .i64 a0_1, .int .i64 a0_2, (.slice A0_3 l0_3.length c0_3)] 27 (0, 0))) ∧ Aside0 (wc.heap[gb213]? = some (.cells #[.int .i64 ((rd_T57 l0_0 t211).f0.f0), .int .i64 ((rd_T57 l0_0 t211).f0.f1), .int .i64 t216] 57 (0, 0))) ∧ Aside0 (Below w.heap.size w wc))
         case first => as_aux_lemma =>
          have H := HC54.out
          clear HC54
          by_cases c86 : t196 = 0
          ·rw [if_pos c86] at H
           have c86b0 : (t196 == 0) = true := beq_iff_eq.mpr c86
           have c86b1 : (t196 != 0) = false := bne_eq_false_iff_eq.mpr c86
           clear c86
           (first | rw [c86b0] | (simp only [i64_w, i32_w]; rw [c86b0]) | skip)
           by_cases c87 : t220 = 0
           ·rw [if_pos c87] at H
            have c87b0 : (t220 == 0) = true := beq_iff_eq.mpr c87
            have c87b1 : (t220 != 0) = false := bne_eq_false_iff_eq.mpr c87
            clear c87
            have H' := Aside0.mk H
            clear H
            go_wp2
            go_meet
            case rel => exact ⟨_, (decide (t219 > t195)), TT, H', ⟨by have := HJ13.out; first | omega | exact Nat.le_refl _⟩, ⟨by (with_reducible repeat (first | apply Kd.R_alloc | apply Kd.R_drewN | apply Kd.R_drew)); exact HO210.out⟩, ⟨by (with_reducible repeat (first | refine blk_drewN ?_ _ | refine blk_drew ?_ | refine blk_alloc ?_ _)); exact BK184.out⟩, ⟨by (with_reducible repeat (first | refine blk_drewN ?_ _ | refine blk_drew ?_ | refine blk_alloc ?_ _)); exact BK185.out⟩, ⟨by (with_reducible repeat (first | refine blk_drewN ?_ _ | refine blk_drew ?_ | refine blk_alloc ?_ _)); exact BK186.out⟩, ⟨by (with_reducible repeat (first | refine blk_drewN ?_ _ | refine blk_drew ?_ | refine blk_alloc ?_ _)); exact BK204.out⟩, ⟨by (with_reducible repeat (first | refine blk_drewN ?_ _ | refine blk_drew ?_ | refine blk_alloc ?_ _)); exact BK213.out⟩, ⟨by repeat (first | (with_reducible first | exact HB.out | apply below_alloc | apply pw_below_drewN | apply below_drew1 | refine below_set ?_ GE184.out | refine below_set ?_ GE185.out | refine below_set ?_ GE186.out | refine below_set ?_ GE204.out | refine below_set ?_ GE213.out) | exact HB.out)⟩⟩
           ·rw [if_neg c87] at H
            have c87b0 : (t220 == 0) = false := beq_eq_false_iff_ne.mpr c87
            have c87b1 : (t220 != 0) = true := bne_iff_ne.mpr c87
            have H' := Aside0.mk H
            clear H
            go_wp2
            go_meet
            case rel => exact ⟨_, (true), TT, H', ⟨by have := HJ13.out; first | omega | exact Nat.le_refl _⟩, ⟨by (with_reducible repeat (first | apply Kd.R_alloc | apply Kd.R_drewN | apply Kd.R_drew)); exact HO210.out⟩, ⟨by (with_reducible repeat (first | refine blk_drewN ?_ _ | refine blk_drew ?_ | refine blk_alloc ?_ _)); exact BK184.out⟩, ⟨by (with_reducible repeat (first | refine blk_drewN ?_ _ | refine blk_drew ?_ | refine blk_alloc ?_ _)); exact BK185.out⟩, ⟨by (with_reducible repeat (first | refine blk_drewN ?_ _ | refine blk_drew ?_ | refine blk_alloc ?_ _)); exact BK186.out⟩, ⟨by (with_reducible repeat (first | refine blk_drewN ?_ _ | refine blk_drew ?_ | refine blk_alloc ?_ _)); exact BK204.out⟩, ⟨by (with_reducible repeat (first | refine blk_drewN ?_ _ | refine blk_drew ?_ | refine blk_alloc ?_ _)); exact BK213.out⟩, ⟨by repeat (first | (with_reducible first | exact HB.out | apply below_alloc | apply pw_below_drewN | apply below_drew1 | refine below_set ?_ GE184.out | refine below_set ?_ GE185.out | refine below_set ?_ GE186.out | refine below_set ?_ GE204.out | refine below_set ?_ GE213.out) | exact HB.out)⟩⟩
          ·rw [if_neg c86] at H
           have c86b0 : (t196 == 0) = false := beq_eq_false_iff_ne.mpr c86
           have c86b1 : (t196 != 0) = true := bne_iff_ne.mpr c86
           (first | rw [c86b0] | (simp only [i64_w, i32_w]; rw [c86b0]) | skip)
           have H' := Aside0.mk H
           clear H
           go_wp2
           go_meet
           case rel => exact ⟨_, (false), TT, H', ⟨by have := HJ13.out; first | omega | exact Nat.le_refl _⟩, ⟨by (with_reducible repeat (first | apply Kd.R_alloc | apply Kd.R_drewN | apply Kd.R_drew)); exact HO210.out⟩, ⟨by (with_reducible repeat (first | refine blk_drewN ?_ _ | refine blk_drew ?_ | refine blk_alloc ?_ _)); exact BK184.out⟩, ⟨by (with_reducible repeat (first | refine blk_drewN ?_ _ | refine blk_drew ?_ | refine blk_alloc ?_ _)); exact BK185.out⟩, ⟨by (with_reducible repeat (first | refine blk_drewN ?_ _ | refine blk_drew ?_ | refine blk_alloc ?_ _)); exact BK186.out⟩, ⟨by (with_reducible repeat (first | refine blk_drewN ?_ _ | refine blk_drew ?_ | refine blk_alloc ?_ _)); exact BK204.out⟩, ⟨by (with_reducible repeat (first | refine blk_drewN ?_ _ | refine blk_drew ?_ | refine blk_alloc ?_ _)); exact BK213.out⟩, ⟨by repeat (first | (with_reducible first | exact HB.out | apply below_alloc | apply pw_below_drewN | apply below_drew1 | refine below_set ?_ GE184.out | refine below_set ?_ GE185.out | refine below_set ?_ GE186.out | refine below_set ?_ GE204.out | refine below_set ?_ GE213.out) | exact HB.out)⟩⟩
         case rest => as_aux_lemma =>
          clear HC54
          try clear c1
          try clear c2
          try clear p2
          try clear q2
          try clear hx2
          try clear c3
          try clear c4
          try clear c5
          try clear p5
          try clear q5
          try clear hx5
          try clear hf5
          try clear c6
          try clear c7
          try clear c8
          try clear hx8
          try clear hf8
          try clear c9
          try clear c16
          try clear c18
          try clear c19
          try clear c20
          try clear p21
          try clear q21
          try clear hx21
          try clear c22
          try clear c35
          try clear c35b0
          try clear c35b1
          try clear c36
          try clear c36b0
          try clear c36b1
          try clear c37
          try clear c37b0
          try clear c38
          try clear c38b0
          try clear c38b1
          try clear c39
          try clear c39b0
          try clear c39b1
          try clear c40
          try clear c40b0
          try clear c41
          try clear c41b0
          try clear c41b1
          try clear c42
          try clear c42b0
          try clear c42b1
          try clear c43
          try clear c43b0
          try clear c44
          try clear c45
          try clear c47
          try clear c47b0
          try clear c48
          try clear c48b0
          try clear c51
          try clear c51b0
          try clear c52
          try clear p52
          try clear q52
          try clear hx52
          try clear hf52
          try clear c55
          try clear c56
          try clear c59
          try clear c60
          try clear c61
          try clear c71
          try clear c72
          try clear c73
          try clear c74
          try clear c82
          try clear hx82
          try clear hf82
          try clear c86
          try clear c86b0
          try clear c86b1
          try clear c87
          try clear c87b0
          try clear c87b1
          try clear hcz20_0 hcz20_1 hcz20_2 hcz20_3
          try clear hcz23_0 hcz23_1
          try clear hcz27_0 hcz27_1 hcz27_2 hcz27_3
          try clear hcz29_0 hcz29_1 hcz29_2 hcz29_3
          try clear hcz31_0 hcz31_1 hcz31_2 hcz31_3
          try clear hcz33_0 hcz33_1 hcz33_2 hcz33_3
          try clear hcz57_0 hcz57_1 hcz57_2 hcz57_3
          try clear hcz62_0 hcz62_1 hcz62_2 hcz62_3
          try clear hcz65_0 hcz65_1 hcz65_2 hcz65_3
          try clear hcz68_0 hcz68_1 hcz68_2 hcz68_3
          try clear hcz69_0 hcz69_1 hcz69_2 hcz69_3
          try clear hcz75_0 hcz75_1 hcz75_2
          try clear hcz78_0 hcz78_1 hcz78_2
          try clear hcz80_0 hcz80_1 hcz80_2 hcz80_3
          try clear hcz81_0 hcz81_1 hcz81_2
          try clear hcz84_0 hcz84_1 hcz84_2 hcz84_3
          try clear hfz20_0 hfz20_1 hfz20_2 hfz20_3
          try clear hfz23_0 hfz23_1
          try clear hfz27_0 hfz27_1 hfz27_2 hfz27_3
          try clear hfz29_0 hfz29_1 hfz29_2 hfz29_3
          try clear hfz31_0 hfz31_1 hfz31_2 hfz31_3
          try clear hfz33_0 hfz33_1 hfz33_2 hfz33_3
          try clear hfz57_0 hfz57_1 hfz57_2 hfz57_3
          try clear hfz62_0 hfz62_1 hfz62_2 hfz62_3
          try clear hfz65_0 hfz65_1 hfz65_2 hfz65_3
          try clear hfz68_0 hfz68_1 hfz68_2 hfz68_3
          try clear hfz69_0 hfz69_1 hfz69_2 hfz69_3
          try clear hfz75_0 hfz75_1 hfz75_2
          try clear hfz78_0 hfz78_1 hfz78_2
          try clear hfz80_0 hfz80_1 hfz80_2 hfz80_3
          try clear hfz81_0 hfz81_1 hfz81_2
          try clear hfz84_0 hfz84_1 hfz84_2 hfz84_3
          try clear hx212_0
          try clear hx212_1
          try clear hx212_2
          try clear hx52_0
          try clear hx52_1
          try clear hx52_2
          try clear hx82_0
          try clear hx82_1
          try clear hx82_2
          try clear p2
          try clear p212
          try clear p52
          try clear q212
          try clear q52
          obtain ⟨kq, x150_53, rfl, HA, HJ53, HO_205000, BK184, BK185, BK186, BK204, BK213, HB⟩ := hcut
          have hl205000_53 := (Kd.R_reads' HO_205000.out).1
          rw [hl205000_53] at HO_205000
          (try simp only [hl205000_53])
          (try simp only [hl205000_53] at BK184)
          (try simp only [hl205000_53] at BK185)
          (try simp only [hl205000_53] at BK186)
          (try simp only [hl205000_53] at BK204)
          (try simp only [hl205000_53] at BK213)
          cases kq with
          | zero => exact absurd HA.out (by simp [saronlaw03_RaspMore.j1])
          | succ kj53 =>
           have H := HA.out
           clear HA
           simp only [saronlaw03_RaspMore.j1] at H
           by_cases c88 : x150_53 = true
           ·subst c88
            have H1 : (some false) = some r := by rw [if_pos rfl] at H; exact H
            clear H
            have H := H1
            clear H1
            obtain rfl := Option.some.inj H
            go_wp2
            go_ret
            exact ⟨TR, by repeat (first | (with_reducible first | exact HB.out | apply below_alloc | apply pw_below_drewN | apply below_drew1 | refine below_set ?_ GE184.out | refine below_set ?_ GE185.out | refine below_set ?_ GE186.out | refine below_set ?_ GE204.out | refine below_set ?_ GE213.out) | exact HB.out)⟩
           ·replace c88 := Bool.eq_false_iff.mpr c88
            subst c88
            have H1 : (if (l0_0.length : Int) = 4 then ((saronlaw03_filed.f).bind fun t221 => (some t221)) else ((some (([] : List (S57)) : List (S57))).bind fun y222 => (if y222.length + l0_0.length < 5864062014805 then ((some (y222 ++ l0_0 : List (S57))).bind fun y225 => ((some (([(⟨(⟨a1_0, a1_1⟩ : S24), a1_2⟩ : S57)] : List (S57)) : List (S57))).bind fun y228 => (if y225.length + y228.length < 5864062014805 then (saronlaw03_RaspMore.j2 kj53 t189 t190 t195 t196 (y225 ++ y228) a0_1 a0_2 l0_3) else (none)))) else (none)))) = some r := by rw [if_neg (show ¬ (false = true) by decide)] at H; exact H
            clear H
            have H := H1
            clear H1
            by_cases c89 : (l0_0.length : Int) = 4
            ·rw [if_pos c89] at H
             have c89b0 : ((l0_0.length : Int) == 4) = true := beq_iff_eq.mpr c89
             have c89b1 : ((l0_0.length : Int) != 4) = false := bne_eq_false_iff_eq.mpr c89
             clear c89
             replace H := Option.bind_eq_some_iff.mp H
             obtain ⟨t221, A900, H⟩ := H
             replace H : (some t221) = some r := H
             have A90 := Aside0.mk A900
             clear A900
             obtain rfl := Option.some.inj H
             have hnb91 := NB184_185.out
             have hnc91 := NB185_184.out
             have hnb92 := NB184_186.out
             have hnc92 := NB186_184.out
             have hnb93 := NB184_204.out
             have hnc93 := NB204_184.out
             have hnb94 := NB184_213.out
             have hnc94 := NB213_184.out
             have hcz95_0 := czz BK184.out 0
             have hcz95_1 := czz BK184.out 1
             have hcz95_2 := czz BK184.out 2
             have hcz95_3 := czz BK184.out 3
             have hfz95_0 := fz BK184.out 0
             have hfz95_1 := fz BK184.out 1
             have hfz95_2 := fz BK184.out 2
             have hfz95_3 := fz BK184.out 3
             go_wp2_with (first | ((with_reducible refine gate_callee (f := 22) rfl ?_); refine goesL_ (some 155) rfl rfl Tryd.func22 (by kernel_rfl) rfl #[] rfl TM ?_; (with_reducible refine (saronlaw03_filed.calls  t221 _ ?side1 A90.out).mono ?_); (case side1 => exact Glob.fr HG.out (Fr.of_below (by repeat (first | (with_reducible first | exact HB.out | apply below_alloc | apply pw_below_drewN | apply below_drew1 | refine below_set ?_ GE184.out | refine below_set ?_ GE185.out | refine below_set ?_ GE186.out | refine below_set ?_ GE204.out | refine below_set ?_ GE213.out) | exact HB.out)))); rintro e w96 ⟨rfl, hb⟩; refine ⟨_, rfl, ?_⟩; replace HO_205000 := Aside0.mk (Kd.R_below (TRo HO_205000.out) hb); replace BK184 := Aside0.mk (blk_below (g := gb184) (o := .cells #[.slice (some ad212) l0_0.length c0_0, .int .i64 a0_1, .int .i64 a0_2, .slice A0_3 l0_3.length c0_3] 27 (0, 0)) (by (with_reducible repeat (first | refine blk_drewN ?_ _ | refine blk_drew ?_ | refine blk_alloc ?_ _)); exact BK184.out) hb); replace BK185 := Aside0.mk (blk_below (g := gb185) (o := .cells #[.int .i64 a1_0, .int .i64 a1_1, .int .i64 a1_2] 57 (0, 0)) (by (with_reducible repeat (first | refine blk_drewN ?_ _ | refine blk_drew ?_ | refine blk_alloc ?_ _)); exact BK185.out) hb); replace BK186 := Aside0.mk (blk_below (g := gb186) (o := .cells #[.int .i64 a2_0, .int .i64 a2_1] 28 (0, 0)) (by (with_reducible repeat (first | refine blk_drewN ?_ _ | refine blk_drew ?_ | refine blk_alloc ?_ _)); exact BK186.out) hb); replace BK204 := Aside0.mk (blk_below (g := gb204) (o := .cells #[.slice (some ⟨go52, 0, none⟩) y217.length co67, .int .i64 a0_1, .int .i64 a0_2, .slice A0_3 l0_3.length c0_3] 27 (0, 0)) (by (with_reducible repeat (first | refine blk_drewN ?_ _ | refine blk_drew ?_ | refine blk_alloc ?_ _)); exact BK204.out) hb); replace BK213 := Aside0.mk (blk_below (g := gb213) (o := .cells #[.int .i64 ((rd_T57 l0_0 t211).f0.f0), .int .i64 ((rd_T57 l0_0 t211).f0.f1), .int .i64 t216] 57 (0, 0)) (by (with_reducible repeat (first | refine blk_drewN ?_ _ | refine blk_drew ?_ | refine blk_alloc ?_ _)); exact BK213.out) hb); replace HB := Aside0.mk (below_step (by repeat (first | (with_reducible first | exact HB.out | apply below_alloc | apply pw_below_drewN | apply below_drew1 | refine below_set ?_ GE184.out | refine below_set ?_ GE185.out | refine below_set ?_ GE186.out | refine below_set ?_ GE204.out | refine below_set ?_ GE213.out) | exact HB.out)) hb); (try clear hb); (try clear hb2); (try clear hk); (try clear hi)))
             go_ret
             exact ⟨TR, by repeat (first | (with_reducible first | exact HB.out | apply below_alloc | apply pw_below_drewN | apply below_drew1 | refine below_set ?_ GE184.out | refine below_set ?_ GE185.out | refine below_set ?_ GE186.out | refine below_set ?_ GE204.out | refine below_set ?_ GE213.out) | exact HB.out)⟩
            ·rw [if_neg c89] at H
             have c89b0 : ((l0_0.length : Int) == 4) = false := beq_eq_false_iff_ne.mpr c89
             have c89b1 : ((l0_0.length : Int) != 4) = true := bne_iff_ne.mpr c89
             have HC97 := Aside0.mk H
             clear H
             have hnb98 := NB184_185.out
             have hnc98 := NB185_184.out
             have hnb99 := NB184_186.out
             have hnc99 := NB186_184.out
             have hnb100 := NB184_204.out
             have hnc100 := NB204_184.out
             have hnb101 := NB184_213.out
             have hnc101 := NB213_184.out
             have hcz102_0 := czz BK184.out 0
             have hcz102_1 := czz BK184.out 1
             have hcz102_2 := czz BK184.out 2
             have hcz102_3 := czz BK184.out 3
             have hfz102_0 := fz BK184.out 0
             have hfz102_1 := fz BK184.out 1
             have hfz102_2 := fz BK184.out 2
             have hfz102_3 := fz BK184.out 3
             have hnb103 := NB204_185.out
             have hnc103 := NB185_204.out
             have hnb104 := NB204_186.out
             have hnc104 := NB186_204.out
             have hnb105 := NB204_213.out
             have hnc105 := NB213_204.out
             have hcz106_0 := czz BK204.out 0
             have hcz106_1 := czz BK204.out 1
             have hcz106_2 := czz BK204.out 2
             have hcz106_3 := czz BK204.out 3
             have hfz106_0 := fz BK204.out 0
             have hfz106_1 := fz BK204.out 1
             have hfz106_2 := fz BK204.out 2
             have hfz106_3 := fz BK204.out 3
             go_upto_region 23 with (fail)
             go_cut [] (fun wc => ∃ (kq : Nat) (x205000_96 : List (S57)) (u205000 : Value), Aside0 (saronlaw03_RaspMore.j2 kq t189 t190 t195 t196 x205000_96 a0_1 a0_2 l0_3 = some r) ∧ Aside0 (kq ≤ kj53) ∧ Aside0 (Kd.R k57 57 wc w.heap.size (fun k_ => k_ ≠ gb185 ∧ k_ ≠ gb213) u205000 x205000_96) ∧ Aside0 (wc.heap[gb184]? = some (.cells #[(.slice (some ad212) l0_0.length c0_0), .int .i64 a0_1, .int .i64 a0_2, (.slice A0_3 l0_3.length c0_3)] 27 (0, 0))) ∧ Aside0 (wc.heap[gb185]? = some (.cells #[.int .i64 a1_0, .int .i64 a1_1, .int .i64 a1_2] 57 (0, 0))) ∧ Aside0 (wc.heap[gb186]? = some (.cells #[.int .i64 a2_0, .int .i64 a2_1] 28 (0, 0))) ∧ Aside0 (wc.heap[gb204]? = some (.cells #[u205000, .int .i64 a0_1, .int .i64 a0_2, (.slice A0_3 l0_3.length c0_3)] 27 (0, 0))) ∧ Aside0 (wc.heap[gb213]? = some (.cells #[.int .i64 ((rd_T57 l0_0 t211).f0.f0), .int .i64 ((rd_T57 l0_0 t211).f0.f1), .int .i64 t216] 57 (0, 0))) ∧ Aside0 (Below w.heap.size w wc))
             case first => as_aux_lemma =>
              have H := HC97.out
              clear HC97
              obtain ⟨y222, hy222⟩ : ∃ y_ : List (S57), y_ = (([] : List (S57))) := ⟨_, rfl⟩
              replace H : (if y222.length + l0_0.length < 5864062014805 then ((some (y222 ++ l0_0 : List (S57))).bind fun y225 => ((some (([(⟨(⟨a1_0, a1_1⟩ : S24), a1_2⟩ : S57)] : List (S57)) : List (S57))).bind fun y228 => (if y225.length + y228.length < 5864062014805 then (saronlaw03_RaspMore.j2 kj53 t189 t190 t195 t196 (y225 ++ y228) a0_1 a0_2 l0_3) else (none)))) else (none)) = some r := by first | (rw [hy222]; with_reducible exact H) | (have H2_ := (Option.bind_some _ _).symm.trans H; rw [hy222]; with_reducible exact H2_) | (have H2_ := (Option.bind_some _ _).symm.trans H; with_reducible exact H2_) | with_reducible exact H | (rw [hy222]; exact H) | exact H
              have Ny222 := Aside0.mk hy222
              clear hy222
              by_cases c107 : y222.length + l0_0.length < 5864062014805
              ·rw [if_pos c107] at H
               have LMc107 := Aside0.mk c107
               clear c107
               obtain ⟨y225, hy225⟩ : ∃ y_ : List (S57), y_ = (y222 ++ l0_0) := ⟨_, rfl⟩
               replace H : ((some (([(⟨(⟨a1_0, a1_1⟩ : S24), a1_2⟩ : S57)] : List (S57)) : List (S57))).bind fun y228 => (if y225.length + y228.length < 5864062014805 then (saronlaw03_RaspMore.j2 kj53 t189 t190 t195 t196 (y225 ++ y228) a0_1 a0_2 l0_3) else (none))) = some r := by first | (rw [hy225]; with_reducible exact H) | (have H2_ := (Option.bind_some _ _).symm.trans H; rw [hy225]; with_reducible exact H2_) | (have H2_ := (Option.bind_some _ _).symm.trans H; with_reducible exact H2_) | with_reducible exact H | (rw [hy225]; exact H) | exact H
               have Ny225 := Aside0.mk hy225
               clear hy225
               obtain ⟨y228, hy228⟩ : ∃ y_ : List (S57), y_ = (([(⟨(⟨a1_0, a1_1⟩ : S24), a1_2⟩ : S57)] : List (S57))) := ⟨_, rfl⟩
               replace H : (if y225.length + y228.length < 5864062014805 then (saronlaw03_RaspMore.j2 kj53 t189 t190 t195 t196 (y225 ++ y228) a0_1 a0_2 l0_3) else (none)) = some r := by first | (rw [hy228]; with_reducible exact H) | (have H2_ := (Option.bind_some _ _).symm.trans H; rw [hy228]; with_reducible exact H2_) | (have H2_ := (Option.bind_some _ _).symm.trans H; with_reducible exact H2_) | with_reducible exact H | (rw [hy228]; exact H) | exact H
               have Ny228 := Aside0.mk hy228
               clear hy228
               by_cases c108 : y225.length + y228.length < 5864062014805
               ·rw [if_pos c108] at H
                have LMc108 := Aside0.mk c108
                clear c108
                obtain ⟨y231, hy231⟩ : ∃ y_ : List (S57), y_ = (y225 ++ y228) := ⟨_, rfl⟩
                replace H : (saronlaw03_RaspMore.j2 kj53 t189 t190 t195 t196 y231 a0_1 a0_2 l0_3) = some r := by first | (rw [hy231]; with_reducible exact H) | (have H2_ := (Option.bind_some _ _).symm.trans H; rw [hy231]; with_reducible exact H2_) | (have H2_ := (Option.bind_some _ _).symm.trans H; with_reducible exact H2_) | with_reducible exact H | (rw [hy231]; exact H) | exact H
                have Ny231 := Aside0.mk hy231
                clear hy231
                have H' := Aside0.mk H
                clear H
                try go_wp2
                have n0_ : Aside0 (Kd.R k57 57 ((((wc.setCell ⟨gb204, 0, none⟩ (.slice (some ad212) l0_0.length c0_0)).setCell ⟨gb204, 1, none⟩ (.int .i64 a0_1)).setCell ⟨gb204, 2, none⟩ (.int .i64 a0_2)).setCell ⟨gb204, 3, none⟩ (.slice A0_3 l0_3.length c0_3)) w.heap.size (fun k_ => k_ ≠ gb185 ∧ k_ ≠ gb213) (.slice (some ⟨go52, 0, none⟩) y217.length co67) y217) := ⟨by (with_reducible repeat (first | apply Kd.R_alloc | apply Kd.R_drewN | apply Kd.R_drew)); exact Kd.R_mono (Kd.R_far (p := ⟨gb204, 3, none⟩) (Kd.R_far (p := ⟨gb204, 2, none⟩) (Kd.R_far (p := ⟨gb204, 1, none⟩) (Kd.R_far (p := ⟨gb204, 0, none⟩) (Kd.R_types HO_205000.out BK204.out (by decide)) (fun _ hk => hk.2) (.slice (some ad212) l0_0.length c0_0)) (fun _ hk => hk.2) (.int .i64 a0_1)) (fun _ hk => hk.2) (.int .i64 a0_2)) (fun _ hk => hk.2) (.slice A0_3 l0_3.length c0_3)) (fun _ hk => ⟨hk.1.1, hk.1.2⟩)⟩
                have n1_ : Aside0 (((((wc.setCell ⟨gb204, 0, none⟩ (.slice (some ad212) l0_0.length c0_0)).setCell ⟨gb204, 1, none⟩ (.int .i64 a0_1)).setCell ⟨gb204, 2, none⟩ (.int .i64 a0_2)).setCell ⟨gb204, 3, none⟩ (.slice A0_3 l0_3.length c0_3)).heap[gb184]? = some (.cells #[.slice (some ad212) l0_0.length c0_0, .int .i64 a0_1, .int .i64 a0_2, .slice A0_3 l0_3.length c0_3] 27 (0, 0))) := ⟨by (with_reducible repeat (first | refine blk_drewN ?_ _ | refine blk_drew ?_ | refine blk_alloc ?_ _)); refine blk_far ?_ NB184_204.out _; (with_reducible repeat (first | refine blk_drewN ?_ _ | refine blk_drew ?_ | refine blk_alloc ?_ _)); refine blk_far ?_ NB184_204.out _; (with_reducible repeat (first | refine blk_drewN ?_ _ | refine blk_drew ?_ | refine blk_alloc ?_ _)); refine blk_far ?_ NB184_204.out _; (with_reducible repeat (first | refine blk_drewN ?_ _ | refine blk_drew ?_ | refine blk_alloc ?_ _)); refine blk_far ?_ NB184_204.out _; (with_reducible repeat (first | refine blk_drewN ?_ _ | refine blk_drew ?_ | refine blk_alloc ?_ _)); exact BK184.out⟩
                have n2_ : Aside0 (((((wc.setCell ⟨gb204, 0, none⟩ (.slice (some ad212) l0_0.length c0_0)).setCell ⟨gb204, 1, none⟩ (.int .i64 a0_1)).setCell ⟨gb204, 2, none⟩ (.int .i64 a0_2)).setCell ⟨gb204, 3, none⟩ (.slice A0_3 l0_3.length c0_3)).heap[gb185]? = some (.cells #[.int .i64 a1_0, .int .i64 a1_1, .int .i64 a1_2] 57 (0, 0))) := ⟨by (with_reducible repeat (first | refine blk_drewN ?_ _ | refine blk_drew ?_ | refine blk_alloc ?_ _)); refine blk_far ?_ NB185_204.out _; (with_reducible repeat (first | refine blk_drewN ?_ _ | refine blk_drew ?_ | refine blk_alloc ?_ _)); refine blk_far ?_ NB185_204.out _; (with_reducible repeat (first | refine blk_drewN ?_ _ | refine blk_drew ?_ | refine blk_alloc ?_ _)); refine blk_far ?_ NB185_204.out _; (with_reducible repeat (first | refine blk_drewN ?_ _ | refine blk_drew ?_ | refine blk_alloc ?_ _)); refine blk_far ?_ NB185_204.out _; (with_reducible repeat (first | refine blk_drewN ?_ _ | refine blk_drew ?_ | refine blk_alloc ?_ _)); exact BK185.out⟩
                have n3_ : Aside0 (((((wc.setCell ⟨gb204, 0, none⟩ (.slice (some ad212) l0_0.length c0_0)).setCell ⟨gb204, 1, none⟩ (.int .i64 a0_1)).setCell ⟨gb204, 2, none⟩ (.int .i64 a0_2)).setCell ⟨gb204, 3, none⟩ (.slice A0_3 l0_3.length c0_3)).heap[gb186]? = some (.cells #[.int .i64 a2_0, .int .i64 a2_1] 28 (0, 0))) := ⟨by (with_reducible repeat (first | refine blk_drewN ?_ _ | refine blk_drew ?_ | refine blk_alloc ?_ _)); refine blk_far ?_ NB186_204.out _; (with_reducible repeat (first | refine blk_drewN ?_ _ | refine blk_drew ?_ | refine blk_alloc ?_ _)); refine blk_far ?_ NB186_204.out _; (with_reducible repeat (first | refine blk_drewN ?_ _ | refine blk_drew ?_ | refine blk_alloc ?_ _)); refine blk_far ?_ NB186_204.out _; (with_reducible repeat (first | refine blk_drewN ?_ _ | refine blk_drew ?_ | refine blk_alloc ?_ _)); refine blk_far ?_ NB186_204.out _; (with_reducible repeat (first | refine blk_drewN ?_ _ | refine blk_drew ?_ | refine blk_alloc ?_ _)); exact BK186.out⟩
                have n4_ : Aside0 (((((wc.setCell ⟨gb204, 0, none⟩ (.slice (some ad212) l0_0.length c0_0)).setCell ⟨gb204, 1, none⟩ (.int .i64 a0_1)).setCell ⟨gb204, 2, none⟩ (.int .i64 a0_2)).setCell ⟨gb204, 3, none⟩ (.slice A0_3 l0_3.length c0_3)).heap[gb204]? = some (.cells #[.slice (some ad212) l0_0.length c0_0, .int .i64 a0_1, .int .i64 a0_2, .slice A0_3 l0_3.length c0_3] 27 (0, 0))) := ⟨by (with_reducible repeat (first | refine blk_drewN ?_ _ | refine blk_drew ?_ | refine blk_alloc ?_ _)); refine blk_put (cs := #[.slice (some ad212) l0_0.length c0_0, .int .i64 a0_1, .int .i64 a0_2, .slice A0_3 l0_3.length c0_3]) ?_ 3 _ rfl; (with_reducible repeat (first | refine blk_drewN ?_ _ | refine blk_drew ?_ | refine blk_alloc ?_ _)); refine blk_put (cs := #[.slice (some ad212) l0_0.length c0_0, .int .i64 a0_1, .int .i64 a0_2, .slice A0_3 l0_3.length c0_3]) ?_ 2 _ rfl; (with_reducible repeat (first | refine blk_drewN ?_ _ | refine blk_drew ?_ | refine blk_alloc ?_ _)); refine blk_put (cs := #[.slice (some ad212) l0_0.length c0_0, .int .i64 a0_1, .int .i64 a0_2, .slice A0_3 l0_3.length c0_3]) ?_ 1 _ rfl; (with_reducible repeat (first | refine blk_drewN ?_ _ | refine blk_drew ?_ | refine blk_alloc ?_ _)); refine blk_put (cs := #[.slice (some ⟨go52, 0, none⟩) y217.length co67, .int .i64 a0_1, .int .i64 a0_2, .slice A0_3 l0_3.length c0_3]) ?_ 0 _ rfl; (with_reducible repeat (first | refine blk_drewN ?_ _ | refine blk_drew ?_ | refine blk_alloc ?_ _)); exact BK204.out⟩
                have n5_ : Aside0 (((((wc.setCell ⟨gb204, 0, none⟩ (.slice (some ad212) l0_0.length c0_0)).setCell ⟨gb204, 1, none⟩ (.int .i64 a0_1)).setCell ⟨gb204, 2, none⟩ (.int .i64 a0_2)).setCell ⟨gb204, 3, none⟩ (.slice A0_3 l0_3.length c0_3)).heap[gb213]? = some (.cells #[.int .i64 ((rd_T57 l0_0 t211).f0.f0), .int .i64 ((rd_T57 l0_0 t211).f0.f1), .int .i64 t216] 57 (0, 0))) := ⟨by (with_reducible repeat (first | refine blk_drewN ?_ _ | refine blk_drew ?_ | refine blk_alloc ?_ _)); refine blk_far ?_ NB213_204.out _; (with_reducible repeat (first | refine blk_drewN ?_ _ | refine blk_drew ?_ | refine blk_alloc ?_ _)); refine blk_far ?_ NB213_204.out _; (with_reducible repeat (first | refine blk_drewN ?_ _ | refine blk_drew ?_ | refine blk_alloc ?_ _)); refine blk_far ?_ NB213_204.out _; (with_reducible repeat (first | refine blk_drewN ?_ _ | refine blk_drew ?_ | refine blk_alloc ?_ _)); refine blk_far ?_ NB213_204.out _; (with_reducible repeat (first | refine blk_drewN ?_ _ | refine blk_drew ?_ | refine blk_alloc ?_ _)); exact BK213.out⟩
                have n6_ : Aside0 (Below w.heap.size w ((((wc.setCell ⟨gb204, 0, none⟩ (.slice (some ad212) l0_0.length c0_0)).setCell ⟨gb204, 1, none⟩ (.int .i64 a0_1)).setCell ⟨gb204, 2, none⟩ (.int .i64 a0_2)).setCell ⟨gb204, 3, none⟩ (.slice A0_3 l0_3.length c0_3))) := ⟨by repeat (first | (with_reducible first | exact HB.out | apply below_alloc | apply pw_below_drewN | apply below_drew1 | refine below_set ?_ GE184.out | refine below_set ?_ GE185.out | refine below_set ?_ GE186.out | refine below_set ?_ GE204.out | refine below_set ?_ GE213.out) | exact HB.out)⟩
                (try clear HO_205000)
                (try clear BK184)
                (try clear BK185)
                (try clear BK186)
                (try clear BK204)
                (try clear BK213)
                (try clear HB)
                generalize ((((wc.setCell ⟨gb204, 0, none⟩ (.slice (some ad212) l0_0.length c0_0)).setCell ⟨gb204, 1, none⟩ (.int .i64 a0_1)).setCell ⟨gb204, 2, none⟩ (.int .i64 a0_2)).setCell ⟨gb204, 3, none⟩ (.slice A0_3 l0_3.length c0_3)) = w109 at n0_ n1_ n2_ n3_ n4_ n5_ n6_ ⊢
                have HO_205000 := n0_
                have BK184 := n1_
                have BK185 := n2_
                have BK186 := n3_
                have BK204 := n4_
                have BK213 := n5_
                have HB := n6_
                clear n0_ n1_ n2_ n3_ n4_ n5_ n6_
                have n0_ := Aside0.mk (Kd.R_drew HO_205000.out)
                have n1_ := Aside0.mk (blk_drew BK184.out)
                have n2_ := Aside0.mk (blk_drew BK185.out)
                have n3_ := Aside0.mk (blk_drew BK186.out)
                have n4_ := Aside0.mk (blk_drew BK204.out)
                have n5_ := Aside0.mk (blk_drew BK213.out)
                have n6_ := Aside0.mk (below_drew1 HB.out)
                clear HO_205000
                clear BK184
                clear BK185
                clear BK186
                clear BK204
                clear BK213
                clear HB
                have HO_205000 := n0_
                have BK184 := n1_
                have BK185 := n2_
                have BK186 := n3_
                have BK204 := n4_
                have BK213 := n5_
                have HB := n6_
                clear n0_ n1_ n2_ n3_ n4_ n5_ n6_
                refine start_ (n := 9) (S := fun w' => w'.cell? ⟨gb184, 0, none⟩ = some (.slice (some ad212) l0_0.length c0_0) ∧ w'.cell? ⟨gb184, 1, none⟩ = some (.int .i64 a0_1) ∧ w'.cell? ⟨gb184, 2, none⟩ = some (.int .i64 a0_2) ∧ w'.cell? ⟨gb184, 3, none⟩ = some (.slice A0_3 l0_3.length c0_3) ∧ w'.cell? ⟨gb185, 0, none⟩ = some (.int .i64 a1_0) ∧ w'.cell? ⟨gb185, 1, none⟩ = some (.int .i64 a1_1) ∧ w'.cell? ⟨gb185, 2, none⟩ = some (.int .i64 a1_2)) (ds := []) (.replicate 9 false) (by kernel_rfl) rfl rfl ⟨czz BK184.out 0, czz BK184.out 1, czz BK184.out 2, czz BK184.out 3, czz BK185.out 0, czz BK185.out 1, czz BK185.out 2⟩ (fun hHeld => ?_); refine with_tabW saronlaw03_RaspMore.tab23 saronlaw03_RaspMore.bits23 (fun HT_ HW_ => ?_)
                generalize w109.drew = w110 at HO_205000 BK184 BK185 BK186 BK204 BK213 HB hHeld ⊢
                refine pT 1 158 (bt 9 2) (k := ?_)
                refine tT7 2 159 (bt 9 6) hHeld (k := ?_)
                refine tT7 4 161 (bt 9 22) hHeld (k := ?_)
                refine join_ (σ := Value × Value × Value) 3 (bt 9 63) (fun s_ => [(157, s_.1), (160, s_.2.1), (162, s_.2.2)]) (fun s_ w' => (w'.cell? ⟨gb184, 0, none⟩ = some (.slice (some ad212) l0_0.length c0_0) ∧ w'.cell? ⟨gb184, 1, none⟩ = some (.int .i64 a0_1) ∧ w'.cell? ⟨gb184, 2, none⟩ = some (.int .i64 a0_2) ∧ w'.cell? ⟨gb184, 3, none⟩ = some (.slice A0_3 l0_3.length c0_3) ∧ w'.cell? ⟨gb185, 0, none⟩ = some (.int .i64 a1_0) ∧ w'.cell? ⟨gb185, 1, none⟩ = some (.int .i64 a1_1) ∧ w'.cell? ⟨gb185, 2, none⟩ = some (.int .i64 a1_2)) ∧ (Kd.R k57 57 w' w.heap.size (fun k_ => some k_ ≠ (s_.2.2 : Value).ownBlock ∧ some k_ ≠ (.slice (some ⟨go52, 0, none⟩) y217.length co67 : Value).ownBlock ∧ k_ ≠ gb185 ∧ k_ ≠ gb213) s_.2.1 y225) ∧ (Kd.R k57 57 w' w.heap.size (fun k_ => some k_ ≠ (s_.2.1 : Value).ownBlock ∧ some k_ ≠ (.slice (some ⟨go52, 0, none⟩) y217.length co67 : Value).ownBlock ∧ k_ ≠ gb185 ∧ k_ ≠ gb213) s_.2.2 y228) ∧ (Kd.R k57 57 w' w.heap.size (fun k_ => some k_ ≠ (s_.2.1 : Value).ownBlock ∧ some k_ ≠ (s_.2.2 : Value).ownBlock ∧ k_ ≠ gb185 ∧ k_ ≠ gb213) (.slice (some ⟨go52, 0, none⟩) y217.length co67) y217) ∧ (w'.heap[gb184]? = some (.cells #[.slice (some ad212) l0_0.length c0_0, .int .i64 a0_1, .int .i64 a0_2, .slice A0_3 l0_3.length c0_3] 27 (0, 0))) ∧ (w'.heap[gb185]? = some (.cells #[.int .i64 a1_0, .int .i64 a1_1, .int .i64 a1_2] 57 (0, 0))) ∧ (w'.heap[gb186]? = some (.cells #[.int .i64 a2_0, .int .i64 a2_1] 28 (0, 0))) ∧ (w'.heap[gb204]? = some (.cells #[.slice (some ad212) l0_0.length c0_0, .int .i64 a0_1, .int .i64 a0_2, .slice A0_3 l0_3.length c0_3] 27 (0, 0))) ∧ (w'.heap[gb213]? = some (.cells #[.int .i64 ((rd_T57 l0_0 t211).f0.f0), .int .i64 ((rd_T57 l0_0 t211).f0.f1), .int .i64 t216] 57 (0, 0))) ∧ (Below w.heap.size w w')) ?_ ?_
                rotate_left
                ·intro hCont
                 refine two_ (i := 0) (j := 5) (Ni := some 157) (Nj := some 162) (bt 9 23) (bt 9 54) rfl rfl rfl rfl (two_of HT_.out (by kernel_rfl)) (by decide) (by decide) (fun K hK => ?_) (fun K hK => ?_)
                 ·skip
                  refine Kd.R_lit_step k57 _ 57 ?hg (N := 157) ?hd (xs := ([] : List (S57))) (inner := []) (ok := fun _ => True) (okp := fun _ => True) ?hr ?hp (fun _ hk => hk) trivial (Below.refl _ _) (Nat.le_refl _) (by simp) ?_; (case hd => rfl); (case hg => rfl); (case hr => exact TS); (case hp => exact (Reps.none _ _))
                  intro v223 w111 ho112 hb hg_ hnew_
                  clear hg_ hnew_
                  (first | rw [← Ny222.out] at ho112 | (simp only [Int.reduceToNat] at ho112; rw [← Ny222.out] at ho112))
                  have n0_ := Aside0.mk (Kd.R_elder' (TRo HO_205000.out) (Kd.R_base ho112) hb)
                  have n1_ := Aside0.mk (Kd.R_lower (Kd.R_newB (Kd.R_newB (Kd.R_new' ho112 (Kd.R_lt (TRo HO_205000.out))) (g := gb185) (o := .cells #[.int .i64 a1_0, .int .i64 a1_1, .int .i64 a1_2] 57 (0, 0)) (by (with_reducible repeat (first | refine blk_drewN ?_ _ | refine blk_drew ?_ | refine blk_alloc ?_ _)); exact BK185.out)) (g := gb213) (o := .cells #[.int .i64 ((rd_T57 l0_0 t211).f0.f0), .int .i64 ((rd_T57 l0_0 t211).f0.f1), .int .i64 t216] 57 (0, 0)) (by (with_reducible repeat (first | refine blk_drewN ?_ _ | refine blk_drew ?_ | refine blk_alloc ?_ _)); exact BK213.out)) (below_size (by repeat (first | (with_reducible first | exact HB.out | apply below_alloc | apply pw_below_drewN | apply below_drew1 | refine below_set ?_ GE184.out | refine below_set ?_ GE185.out | refine below_set ?_ GE186.out | refine below_set ?_ GE204.out | refine below_set ?_ GE213.out) | exact HB.out))))
                  have n2_ := Aside0.mk (blk_below (g := gb184) (o := .cells #[.slice (some ad212) l0_0.length c0_0, .int .i64 a0_1, .int .i64 a0_2, .slice A0_3 l0_3.length c0_3] 27 (0, 0)) (by (with_reducible repeat (first | refine blk_drewN ?_ _ | refine blk_drew ?_ | refine blk_alloc ?_ _)); exact BK184.out) hb)
                  have n3_ := Aside0.mk (blk_below (g := gb185) (o := .cells #[.int .i64 a1_0, .int .i64 a1_1, .int .i64 a1_2] 57 (0, 0)) (by (with_reducible repeat (first | refine blk_drewN ?_ _ | refine blk_drew ?_ | refine blk_alloc ?_ _)); exact BK185.out) hb)
                  have n4_ := Aside0.mk (blk_below (g := gb186) (o := .cells #[.int .i64 a2_0, .int .i64 a2_1] 28 (0, 0)) (by (with_reducible repeat (first | refine blk_drewN ?_ _ | refine blk_drew ?_ | refine blk_alloc ?_ _)); exact BK186.out) hb)
                  have n5_ := Aside0.mk (blk_below (g := gb204) (o := .cells #[.slice (some ad212) l0_0.length c0_0, .int .i64 a0_1, .int .i64 a0_2, .slice A0_3 l0_3.length c0_3] 27 (0, 0)) (by (with_reducible repeat (first | refine blk_drewN ?_ _ | refine blk_drew ?_ | refine blk_alloc ?_ _)); exact BK204.out) hb)
                  have n6_ := Aside0.mk (blk_below (g := gb213) (o := .cells #[.int .i64 ((rd_T57 l0_0 t211).f0.f0), .int .i64 ((rd_T57 l0_0 t211).f0.f1), .int .i64 t216] 57 (0, 0)) (by (with_reducible repeat (first | refine blk_drewN ?_ _ | refine blk_drew ?_ | refine blk_alloc ?_ _)); exact BK213.out) hb)
                  have n7_ := Aside0.mk (below_step (by repeat (first | (with_reducible first | exact HB.out | apply below_alloc | apply pw_below_drewN | apply below_drew1 | refine below_set ?_ GE184.out | refine below_set ?_ GE185.out | refine below_set ?_ GE186.out | refine below_set ?_ GE204.out | refine below_set ?_ GE213.out) | exact HB.out)) hb)
                  clear HO_205000
                  clear BK184
                  clear BK185
                  clear BK186
                  clear BK204
                  clear BK213
                  clear HB
                  have HO_205000 := n0_
                  have HO224 := n1_
                  have BK184 := n2_
                  have BK185 := n3_
                  have BK186 := n4_
                  have BK204 := n5_
                  have BK213 := n6_
                  have HB := n7_
                  clear n0_ n1_ n2_ n3_ n4_ n5_ n6_ n7_
                  clear hb ho112
                  refine hK.out _ _ ⟨czz BK184.out 0, czz BK184.out 1, czz BK184.out 2, czz BK184.out 3, czz BK185.out 0, czz BK185.out 1, czz BK185.out 2⟩ (fun hHeld => ?_)
                  clear hK K
                  refine norm_ (a' := ?_) ?_ ?_
                  rotate_left
                  ·show Act.put _ (some 157) _ = _
                   simp only [Act.put, lA, lZ, lS, i64_w, i32_w]
                   rfl
                  refine two_ (i := 3) (j := 5) (Ni := some 160) (Nj := some 162) (bt 9 31) (bt 9 55) rfl rfl rfl rfl (two_of HT_.out (by kernel_rfl)) (by decide) (by decide) (fun K hK => ?_) (fun K hK => ?_)
                  ·skip
                   refine Kd.R_append_rows_step k57 (w0 := w) w.heap.size (by rfl) (.tmp 157) (.tmp 159) 22 57 (.agg #[(.int .i64 0), (.int .i64 0), (.int .i64 0)]) 24 rfl Tryd.underlying22 info57 rfl (by decide) (by omega) v223 y222 l0_0 _ _ _ (fun k_ => some k_ ≠ (.slice (some ⟨go52, 0, none⟩) y217.length co67 : Value).ownBlock ∧ k_ ≠ gb185 ∧ k_ ≠ gb213) (fun _ => False) rfl rfl ?aO ?aR (fun _ _ h => h) (fun _ h => h.elim) ?aF ?aB ?aS ?aL ?_
                   (case aR => exact TC HR0_0.out)
                   (case aB => exact (by repeat (first | (with_reducible first | exact HB.out | apply below_alloc | apply pw_below_drewN | apply below_drew1 | refine below_set ?_ GE184.out | refine below_set ?_ GE185.out | refine below_set ?_ GE186.out | refine below_set ?_ GE204.out | refine below_set ?_ GE213.out) | exact HB.out)))
                   (case aF => exact (fun k_ hk => ⟨Kd.fresh' (Kd.R_lt (TRo HO_205000.out)) k_ hk, Kd.freshB (g := gb185) (o := .cells #[.int .i64 a1_0, .int .i64 a1_1, .int .i64 a1_2] 57 (0, 0)) (by (with_reducible repeat (first | refine blk_drewN ?_ _ | refine blk_drew ?_ | refine blk_alloc ?_ _)); exact BK185.out) k_ hk, Kd.freshB (g := gb213) (o := .cells #[.int .i64 ((rd_T57 l0_0 t211).f0.f0), .int .i64 ((rd_T57 l0_0 t211).f0.f1), .int .i64 t216] 57 (0, 0)) (by (with_reducible repeat (first | refine blk_drewN ?_ _ | refine blk_drew ?_ | refine blk_alloc ?_ _)); exact BK213.out) k_ hk⟩))
                   (case aO => exact (by (with_reducible repeat (first | apply Kd.R_alloc | apply Kd.R_drewN | apply Kd.R_drew)); exact Kd.R_mono HO224.out (fun _ hk => ⟨hk.1.1.2, ⟨hk.1.2, hk.2⟩⟩)))
                   (case aS => exact (below_size (by repeat (first | (with_reducible first | exact HB.out | apply below_alloc | apply pw_below_drewN | apply below_drew1 | refine below_set ?_ GE184.out | refine below_set ?_ GE185.out | refine below_set ?_ GE186.out | refine below_set ?_ GE204.out | refine below_set ?_ GE213.out) | exact HB.out))))
                   (case aL => have := LMc107.out; omega)
                   intro v226 w113 ho hb hg hat
                   rw [← Ny225.out] at ho
                   have n0_ := Aside0.mk (Kd.R_after (ok := (fun k_ => k_ ≠ gb185 ∧ k_ ≠ gb213)) (TRo HO_205000.out) hg hat)
                   have n1_ := Aside0.mk (blk_grown (g := gb184) (o := .cells #[.slice (some ad212) l0_0.length c0_0, .int .i64 a0_1, .int .i64 a0_2, .slice A0_3 l0_3.length c0_3] 27 (0, 0)) (by (with_reducible repeat (first | refine blk_drewN ?_ _ | refine blk_drew ?_ | refine blk_alloc ?_ _)); exact BK184.out) hg (Kd.R_ne HO224.out BK184.out (by decide)))
                   have n2_ := Aside0.mk (blk_grown (g := gb185) (o := .cells #[.int .i64 a1_0, .int .i64 a1_1, .int .i64 a1_2] 57 (0, 0)) (by (with_reducible repeat (first | refine blk_drewN ?_ _ | refine blk_drew ?_ | refine blk_alloc ?_ _)); exact BK185.out) hg (Kd.R_away HO224.out (fun _ hk => hk.1.2)))
                   have n3_ := Aside0.mk (blk_grown (g := gb186) (o := .cells #[.int .i64 a2_0, .int .i64 a2_1] 28 (0, 0)) (by (with_reducible repeat (first | refine blk_drewN ?_ _ | refine blk_drew ?_ | refine blk_alloc ?_ _)); exact BK186.out) hg (Kd.R_ne HO224.out BK186.out (by decide)))
                   have n4_ := Aside0.mk (blk_grown (g := gb204) (o := .cells #[.slice (some ad212) l0_0.length c0_0, .int .i64 a0_1, .int .i64 a0_2, .slice A0_3 l0_3.length c0_3] 27 (0, 0)) (by (with_reducible repeat (first | refine blk_drewN ?_ _ | refine blk_drew ?_ | refine blk_alloc ?_ _)); exact BK204.out) hg (Kd.R_ne HO224.out BK204.out (by decide)))
                   have n5_ := Aside0.mk (blk_grown (g := gb213) (o := .cells #[.int .i64 ((rd_T57 l0_0 t211).f0.f0), .int .i64 ((rd_T57 l0_0 t211).f0.f1), .int .i64 t216] 57 (0, 0)) (by (with_reducible repeat (first | refine blk_drewN ?_ _ | refine blk_drew ?_ | refine blk_alloc ?_ _)); exact BK213.out) hg (Kd.R_away HO224.out (fun _ hk => hk.2)))
                   have n6_ := Aside0.mk (hb)
                   have n7_ := Aside0.mk (ho)
                   clear HO_205000
                   clear BK184
                   clear BK185
                   clear BK186
                   clear BK204
                   clear BK213
                   clear HB
                   clear HO224
                   have HO_205000 := n0_
                   have BK184 := n1_
                   have BK185 := n2_
                   have BK186 := n3_
                   have BK204 := n4_
                   have BK213 := n5_
                   have HB := n6_
                   have HO227 := n7_
                   clear n0_ n1_ n2_ n3_ n4_ n5_ n6_ n7_
                   clear ho hb hg hat
                   refine hK.out _ _ ⟨czz BK184.out 0, czz BK184.out 1, czz BK184.out 2, czz BK184.out 3, czz BK185.out 0, czz BK185.out 1, czz BK185.out 2⟩ (fun hHeld => ?_)
                   clear hK K
                   refine norm_ (a' := ?_) ?_ ?_
                   rotate_left
                   ·show Act.put _ (some 160) _ = _
                    simp only [Act.put, lA, lZ, lS, i64_w, i32_w]
                    rfl
                   refine one_ (i := 5) (N := some 162) (bt 9 63) rfl rfl (one_of HT_.out (by kernel_rfl)) (by decide) (fun K hK => ?_)
                   refine Kd.R_lit_step k57 _ 57 ?hg (N := 162) ?hd (xs := ([(⟨(⟨a1_0, a1_1⟩ : S24), a1_2⟩ : S57)] : List (S57))) (inner := [.int .i64 a1_0, .int .i64 a1_1, .int .i64 a1_2]) (ok := fun _ => True) (okp := fun _ => True) ?hr ?hp (fun _ hk => hk) trivial (Below.refl _ _) (Nat.le_refl _) (by simp) ?_; (case hd => rfl); (case hg => rfl); (case hr => exact TS); (case hp => exact (Reps.c3 (show Kd.M k57 _ _ _ (⟨(⟨a1_0, a1_1⟩ : S24), a1_2⟩ : S57) [.int .i64 a1_0, .int .i64 a1_1, .int .i64 a1_2] from (k57_mkM _ _ _ (⟨(⟨a1_0, a1_1⟩ : S24), a1_2⟩ : S57) )) (Reps.none _ _)))
                   intro v229 w114 ho115 hb hg_ hnew_
                   clear hg_ hnew_
                   (first | rw [← Ny228.out] at ho115 | (simp only [Int.reduceToNat] at ho115; rw [← Ny228.out] at ho115))
                   have n0_ := Aside0.mk (Kd.R_elder' (TRo HO_205000.out) (Kd.R_base ho115) hb)
                   have n1_ := Aside0.mk (Kd.R_elder' (TRo HO227.out) (Kd.R_base ho115) hb)
                   have n2_ := Aside0.mk (Kd.R_lower (Kd.R_newB (Kd.R_newB (Kd.R_new' (Kd.R_new' ho115 (Kd.R_lt (TRo HO_205000.out))) (Kd.R_lt (TRo HO227.out))) (g := gb185) (o := .cells #[.int .i64 a1_0, .int .i64 a1_1, .int .i64 a1_2] 57 (0, 0)) (by (with_reducible repeat (first | refine blk_drewN ?_ _ | refine blk_drew ?_ | refine blk_alloc ?_ _)); exact BK185.out)) (g := gb213) (o := .cells #[.int .i64 ((rd_T57 l0_0 t211).f0.f0), .int .i64 ((rd_T57 l0_0 t211).f0.f1), .int .i64 t216] 57 (0, 0)) (by (with_reducible repeat (first | refine blk_drewN ?_ _ | refine blk_drew ?_ | refine blk_alloc ?_ _)); exact BK213.out)) (below_size (by repeat (first | (with_reducible first | exact HB.out | apply below_alloc | apply pw_below_drewN | apply below_drew1 | refine below_set ?_ GE184.out | refine below_set ?_ GE185.out | refine below_set ?_ GE186.out | refine below_set ?_ GE204.out | refine below_set ?_ GE213.out) | exact HB.out))))
                   have n3_ := Aside0.mk (blk_below (g := gb184) (o := .cells #[.slice (some ad212) l0_0.length c0_0, .int .i64 a0_1, .int .i64 a0_2, .slice A0_3 l0_3.length c0_3] 27 (0, 0)) (by (with_reducible repeat (first | refine blk_drewN ?_ _ | refine blk_drew ?_ | refine blk_alloc ?_ _)); exact BK184.out) hb)
                   have n4_ := Aside0.mk (blk_below (g := gb185) (o := .cells #[.int .i64 a1_0, .int .i64 a1_1, .int .i64 a1_2] 57 (0, 0)) (by (with_reducible repeat (first | refine blk_drewN ?_ _ | refine blk_drew ?_ | refine blk_alloc ?_ _)); exact BK185.out) hb)
                   have n5_ := Aside0.mk (blk_below (g := gb186) (o := .cells #[.int .i64 a2_0, .int .i64 a2_1] 28 (0, 0)) (by (with_reducible repeat (first | refine blk_drewN ?_ _ | refine blk_drew ?_ | refine blk_alloc ?_ _)); exact BK186.out) hb)
                   have n6_ := Aside0.mk (blk_below (g := gb204) (o := .cells #[.slice (some ad212) l0_0.length c0_0, .int .i64 a0_1, .int .i64 a0_2, .slice A0_3 l0_3.length c0_3] 27 (0, 0)) (by (with_reducible repeat (first | refine blk_drewN ?_ _ | refine blk_drew ?_ | refine blk_alloc ?_ _)); exact BK204.out) hb)
                   have n7_ := Aside0.mk (blk_below (g := gb213) (o := .cells #[.int .i64 ((rd_T57 l0_0 t211).f0.f0), .int .i64 ((rd_T57 l0_0 t211).f0.f1), .int .i64 t216] 57 (0, 0)) (by (with_reducible repeat (first | refine blk_drewN ?_ _ | refine blk_drew ?_ | refine blk_alloc ?_ _)); exact BK213.out) hb)
                   have n8_ := Aside0.mk (below_step (by repeat (first | (with_reducible first | exact HB.out | apply below_alloc | apply pw_below_drewN | apply below_drew1 | refine below_set ?_ GE184.out | refine below_set ?_ GE185.out | refine below_set ?_ GE186.out | refine below_set ?_ GE204.out | refine below_set ?_ GE213.out) | exact HB.out)) hb)
                   clear HO_205000
                   clear HO227
                   clear BK184
                   clear BK185
                   clear BK186
                   clear BK204
                   clear BK213
                   clear HB
                   have HO_205000 := n0_
                   have HO227 := n1_
                   have HO230 := n2_
                   have BK184 := n3_
                   have BK185 := n4_
                   have BK186 := n5_
                   have BK204 := n6_
                   have BK213 := n7_
                   have HB := n8_
                   clear n0_ n1_ n2_ n3_ n4_ n5_ n6_ n7_ n8_
                   clear hb ho115
                   refine hK.out _ _ ⟨czz BK184.out 0, czz BK184.out 1, czz BK184.out 2, czz BK184.out 3, czz BK185.out 0, czz BK185.out 1, czz BK185.out 2⟩ (fun hHeld => ?_)
                   clear hK K
                   refine norm_ (a' := ?_) ?_ ?_
                   rotate_left
                   ·show Act.put _ (some 162) _ = _
                    simp only [Act.put, lA, lZ, lS, i64_w, i32_w]
                    rfl
                   exact norm_ (by simp only [putAll, Act.put, lA, lZ, lS]) (hCont (v223, v226, v229) _ ⟨hHeld, (by (with_reducible repeat (first | apply Kd.R_alloc | apply Kd.R_drewN | apply Kd.R_drew)); exact Kd.R_mono HO227.out (fun _ hk => ⟨hk.2, ⟨hk.1.1, ⟨hk.1.2.1, hk.1.2.2⟩⟩⟩)), (by (with_reducible repeat (first | apply Kd.R_alloc | apply Kd.R_drewN | apply Kd.R_drew)); exact Kd.R_mono HO230.out (fun _ hk => ⟨hk.1.1.2, ⟨hk.1.1.1.2, ⟨hk.1.2, hk.2⟩⟩⟩)), (by (with_reducible repeat (first | apply Kd.R_alloc | apply Kd.R_drewN | apply Kd.R_drew)); exact Kd.R_mono HO_205000.out (fun _ hk => ⟨hk.1.2, ⟨hk.2, ⟨hk.1.1.1, hk.1.1.2⟩⟩⟩)), (by (with_reducible repeat (first | refine blk_drewN ?_ _ | refine blk_drew ?_ | refine blk_alloc ?_ _)); exact BK184.out), (by (with_reducible repeat (first | refine blk_drewN ?_ _ | refine blk_drew ?_ | refine blk_alloc ?_ _)); exact BK185.out), (by (with_reducible repeat (first | refine blk_drewN ?_ _ | refine blk_drew ?_ | refine blk_alloc ?_ _)); exact BK186.out), (by (with_reducible repeat (first | refine blk_drewN ?_ _ | refine blk_drew ?_ | refine blk_alloc ?_ _)); exact BK204.out), (by (with_reducible repeat (first | refine blk_drewN ?_ _ | refine blk_drew ?_ | refine blk_alloc ?_ _)); exact BK213.out), (by repeat (first | (with_reducible first | exact HB.out | apply below_alloc | apply pw_below_drewN | apply below_drew1 | refine below_set ?_ GE184.out | refine below_set ?_ GE185.out | refine below_set ?_ GE186.out | refine below_set ?_ GE204.out | refine below_set ?_ GE213.out) | exact HB.out))⟩)
                  ·skip
                   refine Kd.R_lit_step k57 _ 57 ?hg (N := 162) ?hd (xs := ([(⟨(⟨a1_0, a1_1⟩ : S24), a1_2⟩ : S57)] : List (S57))) (inner := [.int .i64 a1_0, .int .i64 a1_1, .int .i64 a1_2]) (ok := fun _ => True) (okp := fun _ => True) ?hr ?hp (fun _ hk => hk) trivial (Below.refl _ _) (Nat.le_refl _) (by simp) ?_; (case hd => rfl); (case hg => rfl); (case hr => exact TS); (case hp => exact (Reps.c3 (show Kd.M k57 _ _ _ (⟨(⟨a1_0, a1_1⟩ : S24), a1_2⟩ : S57) [.int .i64 a1_0, .int .i64 a1_1, .int .i64 a1_2] from (k57_mkM _ _ _ (⟨(⟨a1_0, a1_1⟩ : S24), a1_2⟩ : S57) )) (Reps.none _ _)))
                   intro v229 w113 ho114 hb hg_ hnew_
                   clear hg_ hnew_
                   (first | rw [← Ny228.out] at ho114 | (simp only [Int.reduceToNat] at ho114; rw [← Ny228.out] at ho114))
                   have n0_ := Aside0.mk (Kd.R_elder' (TRo HO_205000.out) (Kd.R_base ho114) hb)
                   have n1_ := Aside0.mk (Kd.R_elder' (TRo HO224.out) (Kd.R_base ho114) hb)
                   have n2_ := Aside0.mk (Kd.R_lower (Kd.R_newB (Kd.R_newB (Kd.R_new' (Kd.R_new' ho114 (Kd.R_lt (TRo HO_205000.out))) (Kd.R_lt (TRo HO224.out))) (g := gb185) (o := .cells #[.int .i64 a1_0, .int .i64 a1_1, .int .i64 a1_2] 57 (0, 0)) (by (with_reducible repeat (first | refine blk_drewN ?_ _ | refine blk_drew ?_ | refine blk_alloc ?_ _)); exact BK185.out)) (g := gb213) (o := .cells #[.int .i64 ((rd_T57 l0_0 t211).f0.f0), .int .i64 ((rd_T57 l0_0 t211).f0.f1), .int .i64 t216] 57 (0, 0)) (by (with_reducible repeat (first | refine blk_drewN ?_ _ | refine blk_drew ?_ | refine blk_alloc ?_ _)); exact BK213.out)) (below_size (by repeat (first | (with_reducible first | exact HB.out | apply below_alloc | apply pw_below_drewN | apply below_drew1 | refine below_set ?_ GE184.out | refine below_set ?_ GE185.out | refine below_set ?_ GE186.out | refine below_set ?_ GE204.out | refine below_set ?_ GE213.out) | exact HB.out))))
                   have n3_ := Aside0.mk (blk_below (g := gb184) (o := .cells #[.slice (some ad212) l0_0.length c0_0, .int .i64 a0_1, .int .i64 a0_2, .slice A0_3 l0_3.length c0_3] 27 (0, 0)) (by (with_reducible repeat (first | refine blk_drewN ?_ _ | refine blk_drew ?_ | refine blk_alloc ?_ _)); exact BK184.out) hb)
                   have n4_ := Aside0.mk (blk_below (g := gb185) (o := .cells #[.int .i64 a1_0, .int .i64 a1_1, .int .i64 a1_2] 57 (0, 0)) (by (with_reducible repeat (first | refine blk_drewN ?_ _ | refine blk_drew ?_ | refine blk_alloc ?_ _)); exact BK185.out) hb)
                   have n5_ := Aside0.mk (blk_below (g := gb186) (o := .cells #[.int .i64 a2_0, .int .i64 a2_1] 28 (0, 0)) (by (with_reducible repeat (first | refine blk_drewN ?_ _ | refine blk_drew ?_ | refine blk_alloc ?_ _)); exact BK186.out) hb)
                   have n6_ := Aside0.mk (blk_below (g := gb204) (o := .cells #[.slice (some ad212) l0_0.length c0_0, .int .i64 a0_1, .int .i64 a0_2, .slice A0_3 l0_3.length c0_3] 27 (0, 0)) (by (with_reducible repeat (first | refine blk_drewN ?_ _ | refine blk_drew ?_ | refine blk_alloc ?_ _)); exact BK204.out) hb)
                   have n7_ := Aside0.mk (blk_below (g := gb213) (o := .cells #[.int .i64 ((rd_T57 l0_0 t211).f0.f0), .int .i64 ((rd_T57 l0_0 t211).f0.f1), .int .i64 t216] 57 (0, 0)) (by (with_reducible repeat (first | refine blk_drewN ?_ _ | refine blk_drew ?_ | refine blk_alloc ?_ _)); exact BK213.out) hb)
                   have n8_ := Aside0.mk (below_step (by repeat (first | (with_reducible first | exact HB.out | apply below_alloc | apply pw_below_drewN | apply below_drew1 | refine below_set ?_ GE184.out | refine below_set ?_ GE185.out | refine below_set ?_ GE186.out | refine below_set ?_ GE204.out | refine below_set ?_ GE213.out) | exact HB.out)) hb)
                   clear HO_205000
                   clear HO224
                   clear BK184
                   clear BK185
                   clear BK186
                   clear BK204
                   clear BK213
                   clear HB
                   have HO_205000 := n0_
                   have HO224 := n1_
                   have HO230 := n2_
                   have BK184 := n3_
                   have BK185 := n4_
                   have BK186 := n5_
                   have BK204 := n6_
                   have BK213 := n7_
                   have HB := n8_
                   clear n0_ n1_ n2_ n3_ n4_ n5_ n6_ n7_ n8_
                   clear hb ho114
                   refine hK.out _ _ ⟨czz BK184.out 0, czz BK184.out 1, czz BK184.out 2, czz BK184.out 3, czz BK185.out 0, czz BK185.out 1, czz BK185.out 2⟩ (fun hHeld => ?_)
                   clear hK K
                   refine norm_ (a' := ?_) ?_ ?_
                   rotate_left
                   ·show Act.put _ (some 162) _ = _
                    simp only [Act.put, lA, lZ, lS, i64_w, i32_w]
                    rfl
                   refine one_ (i := 3) (N := some 160) (bt 9 63) rfl rfl (one_of HT_.out (by kernel_rfl)) (by decide) (fun K hK => ?_)
                   refine Kd.R_append_rows_step k57 (w0 := w) w.heap.size (by rfl) (.tmp 157) (.tmp 159) 22 57 (.agg #[(.int .i64 0), (.int .i64 0), (.int .i64 0)]) 24 rfl Tryd.underlying22 info57 rfl (by decide) (by omega) v223 y222 l0_0 _ _ _ (fun k_ => some k_ ≠ (.slice (some ⟨go52, 0, none⟩) y217.length co67 : Value).ownBlock ∧ some k_ ≠ (v229 : Value).ownBlock ∧ k_ ≠ gb185 ∧ k_ ≠ gb213) (fun _ => False) rfl rfl ?aO ?aR (fun _ _ h => h) (fun _ h => h.elim) ?aF ?aB ?aS ?aL ?_
                   (case aR => exact TC HR0_0.out)
                   (case aB => exact (by repeat (first | (with_reducible first | exact HB.out | apply below_alloc | apply pw_below_drewN | apply below_drew1 | refine below_set ?_ GE184.out | refine below_set ?_ GE185.out | refine below_set ?_ GE186.out | refine below_set ?_ GE204.out | refine below_set ?_ GE213.out) | exact HB.out)))
                   (case aF => exact (fun k_ hk => ⟨Kd.fresh' (Kd.R_lt (TRo HO_205000.out)) k_ hk, Kd.fresh' (Kd.R_lt (TRo HO230.out)) k_ hk, Kd.freshB (g := gb185) (o := .cells #[.int .i64 a1_0, .int .i64 a1_1, .int .i64 a1_2] 57 (0, 0)) (by (with_reducible repeat (first | refine blk_drewN ?_ _ | refine blk_drew ?_ | refine blk_alloc ?_ _)); exact BK185.out) k_ hk, Kd.freshB (g := gb213) (o := .cells #[.int .i64 ((rd_T57 l0_0 t211).f0.f0), .int .i64 ((rd_T57 l0_0 t211).f0.f1), .int .i64 t216] 57 (0, 0)) (by (with_reducible repeat (first | refine blk_drewN ?_ _ | refine blk_drew ?_ | refine blk_alloc ?_ _)); exact BK213.out) k_ hk⟩))
                   (case aO => exact (by (with_reducible repeat (first | apply Kd.R_alloc | apply Kd.R_drewN | apply Kd.R_drew)); exact Kd.R_mono HO224.out (fun _ hk => ⟨hk.1.1.1.2, ⟨hk.2, ⟨hk.1.1.2, hk.1.2⟩⟩⟩)))
                   (case aS => exact (below_size (by repeat (first | (with_reducible first | exact HB.out | apply below_alloc | apply pw_below_drewN | apply below_drew1 | refine below_set ?_ GE184.out | refine below_set ?_ GE185.out | refine below_set ?_ GE186.out | refine below_set ?_ GE204.out | refine below_set ?_ GE213.out) | exact HB.out))))
                   (case aL => have := LMc107.out; omega)
                   intro v226 w115 ho hb hg hat
                   rw [← Ny225.out] at ho
                   have n0_ := Aside0.mk (Kd.R_after (ok := (fun k_ => some k_ ≠ (v229 : Value).ownBlock ∧ k_ ≠ gb185 ∧ k_ ≠ gb213)) (by (with_reducible repeat (first | apply Kd.R_alloc | apply Kd.R_drewN | apply Kd.R_drew)); exact Kd.R_mono HO_205000.out (fun _ hk => ⟨⟨hk.2, ⟨hk.1.1.1, hk.1.1.2⟩⟩, hk.1.2⟩)) hg hat)
                   have n1_ := Aside0.mk (blk_grown (g := gb184) (o := .cells #[.slice (some ad212) l0_0.length c0_0, .int .i64 a0_1, .int .i64 a0_2, .slice A0_3 l0_3.length c0_3] 27 (0, 0)) (by (with_reducible repeat (first | refine blk_drewN ?_ _ | refine blk_drew ?_ | refine blk_alloc ?_ _)); exact BK184.out) hg (Kd.R_ne HO224.out BK184.out (by decide)))
                   have n2_ := Aside0.mk (blk_grown (g := gb185) (o := .cells #[.int .i64 a1_0, .int .i64 a1_1, .int .i64 a1_2] 57 (0, 0)) (by (with_reducible repeat (first | refine blk_drewN ?_ _ | refine blk_drew ?_ | refine blk_alloc ?_ _)); exact BK185.out) hg (Kd.R_away HO224.out (fun _ hk => hk.1.1.2)))
                   have n3_ := Aside0.mk (blk_grown (g := gb186) (o := .cells #[.int .i64 a2_0, .int .i64 a2_1] 28 (0, 0)) (by (with_reducible repeat (first | refine blk_drewN ?_ _ | refine blk_drew ?_ | refine blk_alloc ?_ _)); exact BK186.out) hg (Kd.R_ne HO224.out BK186.out (by decide)))
                   have n4_ := Aside0.mk (blk_grown (g := gb204) (o := .cells #[.slice (some ad212) l0_0.length c0_0, .int .i64 a0_1, .int .i64 a0_2, .slice A0_3 l0_3.length c0_3] 27 (0, 0)) (by (with_reducible repeat (first | refine blk_drewN ?_ _ | refine blk_drew ?_ | refine blk_alloc ?_ _)); exact BK204.out) hg (Kd.R_ne HO224.out BK204.out (by decide)))
                   have n5_ := Aside0.mk (blk_grown (g := gb213) (o := .cells #[.int .i64 ((rd_T57 l0_0 t211).f0.f0), .int .i64 ((rd_T57 l0_0 t211).f0.f1), .int .i64 t216] 57 (0, 0)) (by (with_reducible repeat (first | refine blk_drewN ?_ _ | refine blk_drew ?_ | refine blk_alloc ?_ _)); exact BK213.out) hg (Kd.R_away HO224.out (fun _ hk => hk.1.2)))
                   have n6_ := Aside0.mk (Kd.R_after (ok := (fun k_ => some k_ ≠ (.slice (some ⟨go52, 0, none⟩) y217.length co67 : Value).ownBlock ∧ k_ ≠ gb185 ∧ k_ ≠ gb213)) (by (with_reducible repeat (first | apply Kd.R_alloc | apply Kd.R_drewN | apply Kd.R_drew)); exact Kd.R_mono HO230.out (fun _ hk => ⟨⟨hk.1.1.1.2, ⟨hk.1.2, hk.2⟩⟩, hk.1.1.2⟩)) hg hat)
                   have n7_ := Aside0.mk (hb)
                   have n8_ := Aside0.mk (ho)
                   clear HO_205000
                   clear BK184
                   clear BK185
                   clear BK186
                   clear BK204
                   clear BK213
                   clear HO230
                   clear HB
                   clear HO224
                   have HO_205000 := n0_
                   have BK184 := n1_
                   have BK185 := n2_
                   have BK186 := n3_
                   have BK204 := n4_
                   have BK213 := n5_
                   have HO230 := n6_
                   have HB := n7_
                   have HO227 := n8_
                   clear n0_ n1_ n2_ n3_ n4_ n5_ n6_ n7_ n8_
                   clear ho hb hg hat
                   refine hK.out _ _ ⟨czz BK184.out 0, czz BK184.out 1, czz BK184.out 2, czz BK184.out 3, czz BK185.out 0, czz BK185.out 1, czz BK185.out 2⟩ (fun hHeld => ?_)
                   clear hK K
                   refine norm_ (a' := ?_) ?_ ?_
                   rotate_left
                   ·show Act.put _ (some 160) _ = _
                    simp only [Act.put, lA, lZ, lS, i64_w, i32_w]
                    rfl
                   exact norm_ (by simp only [putAll, Act.put, lA, lZ, lS]) (hCont (v223, v226, v229) _ ⟨hHeld, (by (with_reducible repeat (first | apply Kd.R_alloc | apply Kd.R_drewN | apply Kd.R_drew)); exact Kd.R_mono HO227.out (fun _ hk => ⟨hk.2.1, ⟨hk.1, ⟨hk.2.2.1, hk.2.2.2⟩⟩⟩)), (by (with_reducible repeat (first | apply Kd.R_alloc | apply Kd.R_drewN | apply Kd.R_drew)); exact Kd.R_mono HO230.out (fun _ hk => ⟨hk.2, ⟨hk.1.1, ⟨hk.1.2.1, hk.1.2.2⟩⟩⟩)), (by (with_reducible repeat (first | apply Kd.R_alloc | apply Kd.R_drewN | apply Kd.R_drew)); exact Kd.R_mono HO_205000.out (fun _ hk => ⟨hk.2, ⟨hk.1.1, ⟨hk.1.2.1, hk.1.2.2⟩⟩⟩)), (by (with_reducible repeat (first | refine blk_drewN ?_ _ | refine blk_drew ?_ | refine blk_alloc ?_ _)); exact BK184.out), (by (with_reducible repeat (first | refine blk_drewN ?_ _ | refine blk_drew ?_ | refine blk_alloc ?_ _)); exact BK185.out), (by (with_reducible repeat (first | refine blk_drewN ?_ _ | refine blk_drew ?_ | refine blk_alloc ?_ _)); exact BK186.out), (by (with_reducible repeat (first | refine blk_drewN ?_ _ | refine blk_drew ?_ | refine blk_alloc ?_ _)); exact BK204.out), (by (with_reducible repeat (first | refine blk_drewN ?_ _ | refine blk_drew ?_ | refine blk_alloc ?_ _)); exact BK213.out), (by repeat (first | (with_reducible first | exact HB.out | apply below_alloc | apply pw_below_drewN | apply below_drew1 | refine below_set ?_ GE184.out | refine below_set ?_ GE185.out | refine below_set ?_ GE186.out | refine below_set ?_ GE204.out | refine below_set ?_ GE213.out) | exact HB.out))⟩)
                 ·skip
                  refine Kd.R_lit_step k57 _ 57 ?hg (N := 162) ?hd (xs := ([(⟨(⟨a1_0, a1_1⟩ : S24), a1_2⟩ : S57)] : List (S57))) (inner := [.int .i64 a1_0, .int .i64 a1_1, .int .i64 a1_2]) (ok := fun _ => True) (okp := fun _ => True) ?hr ?hp (fun _ hk => hk) trivial (Below.refl _ _) (Nat.le_refl _) (by simp) ?_; (case hd => rfl); (case hg => rfl); (case hr => exact TS); (case hp => exact (Reps.c3 (show Kd.M k57 _ _ _ (⟨(⟨a1_0, a1_1⟩ : S24), a1_2⟩ : S57) [.int .i64 a1_0, .int .i64 a1_1, .int .i64 a1_2] from (k57_mkM _ _ _ (⟨(⟨a1_0, a1_1⟩ : S24), a1_2⟩ : S57) )) (Reps.none _ _)))
                  intro v229 w111 ho112 hb hg_ hnew_
                  clear hg_ hnew_
                  (first | rw [← Ny228.out] at ho112 | (simp only [Int.reduceToNat] at ho112; rw [← Ny228.out] at ho112))
                  have n0_ := Aside0.mk (Kd.R_elder' (TRo HO_205000.out) (Kd.R_base ho112) hb)
                  have n1_ := Aside0.mk (Kd.R_lower (Kd.R_newB (Kd.R_newB (Kd.R_new' ho112 (Kd.R_lt (TRo HO_205000.out))) (g := gb185) (o := .cells #[.int .i64 a1_0, .int .i64 a1_1, .int .i64 a1_2] 57 (0, 0)) (by (with_reducible repeat (first | refine blk_drewN ?_ _ | refine blk_drew ?_ | refine blk_alloc ?_ _)); exact BK185.out)) (g := gb213) (o := .cells #[.int .i64 ((rd_T57 l0_0 t211).f0.f0), .int .i64 ((rd_T57 l0_0 t211).f0.f1), .int .i64 t216] 57 (0, 0)) (by (with_reducible repeat (first | refine blk_drewN ?_ _ | refine blk_drew ?_ | refine blk_alloc ?_ _)); exact BK213.out)) (below_size (by repeat (first | (with_reducible first | exact HB.out | apply below_alloc | apply pw_below_drewN | apply below_drew1 | refine below_set ?_ GE184.out | refine below_set ?_ GE185.out | refine below_set ?_ GE186.out | refine below_set ?_ GE204.out | refine below_set ?_ GE213.out) | exact HB.out))))
                  have n2_ := Aside0.mk (blk_below (g := gb184) (o := .cells #[.slice (some ad212) l0_0.length c0_0, .int .i64 a0_1, .int .i64 a0_2, .slice A0_3 l0_3.length c0_3] 27 (0, 0)) (by (with_reducible repeat (first | refine blk_drewN ?_ _ | refine blk_drew ?_ | refine blk_alloc ?_ _)); exact BK184.out) hb)
                  have n3_ := Aside0.mk (blk_below (g := gb185) (o := .cells #[.int .i64 a1_0, .int .i64 a1_1, .int .i64 a1_2] 57 (0, 0)) (by (with_reducible repeat (first | refine blk_drewN ?_ _ | refine blk_drew ?_ | refine blk_alloc ?_ _)); exact BK185.out) hb)
                  have n4_ := Aside0.mk (blk_below (g := gb186) (o := .cells #[.int .i64 a2_0, .int .i64 a2_1] 28 (0, 0)) (by (with_reducible repeat (first | refine blk_drewN ?_ _ | refine blk_drew ?_ | refine blk_alloc ?_ _)); exact BK186.out) hb)
                  have n5_ := Aside0.mk (blk_below (g := gb204) (o := .cells #[.slice (some ad212) l0_0.length c0_0, .int .i64 a0_1, .int .i64 a0_2, .slice A0_3 l0_3.length c0_3] 27 (0, 0)) (by (with_reducible repeat (first | refine blk_drewN ?_ _ | refine blk_drew ?_ | refine blk_alloc ?_ _)); exact BK204.out) hb)
                  have n6_ := Aside0.mk (blk_below (g := gb213) (o := .cells #[.int .i64 ((rd_T57 l0_0 t211).f0.f0), .int .i64 ((rd_T57 l0_0 t211).f0.f1), .int .i64 t216] 57 (0, 0)) (by (with_reducible repeat (first | refine blk_drewN ?_ _ | refine blk_drew ?_ | refine blk_alloc ?_ _)); exact BK213.out) hb)
                  have n7_ := Aside0.mk (below_step (by repeat (first | (with_reducible first | exact HB.out | apply below_alloc | apply pw_below_drewN | apply below_drew1 | refine below_set ?_ GE184.out | refine below_set ?_ GE185.out | refine below_set ?_ GE186.out | refine below_set ?_ GE204.out | refine below_set ?_ GE213.out) | exact HB.out)) hb)
                  clear HO_205000
                  clear BK184
                  clear BK185
                  clear BK186
                  clear BK204
                  clear BK213
                  clear HB
                  have HO_205000 := n0_
                  have HO230 := n1_
                  have BK184 := n2_
                  have BK185 := n3_
                  have BK186 := n4_
                  have BK204 := n5_
                  have BK213 := n6_
                  have HB := n7_
                  clear n0_ n1_ n2_ n3_ n4_ n5_ n6_ n7_
                  clear hb ho112
                  refine hK.out _ _ ⟨czz BK184.out 0, czz BK184.out 1, czz BK184.out 2, czz BK184.out 3, czz BK185.out 0, czz BK185.out 1, czz BK185.out 2⟩ (fun hHeld => ?_)
                  clear hK K
                  refine norm_ (a' := ?_) ?_ ?_
                  rotate_left
                  ·show Act.put _ (some 162) _ = _
                   simp only [Act.put, lA, lZ, lS, i64_w, i32_w]
                   rfl
                  refine one_ (i := 0) (N := some 157) (bt 9 55) rfl rfl (one_of HT_.out (by kernel_rfl)) (by decide) (fun K hK => ?_)
                  refine Kd.R_lit_step k57 _ 57 ?hg (N := 157) ?hd (xs := ([] : List (S57))) (inner := []) (ok := fun _ => True) (okp := fun _ => True) ?hr ?hp (fun _ hk => hk) trivial (Below.refl _ _) (Nat.le_refl _) (by simp) ?_; (case hd => rfl); (case hg => rfl); (case hr => exact TS); (case hp => exact (Reps.none _ _))
                  intro v223 w113 ho114 hb hg_ hnew_
                  clear hg_ hnew_
                  (first | rw [← Ny222.out] at ho114 | (simp only [Int.reduceToNat] at ho114; rw [← Ny222.out] at ho114))
                  have n0_ := Aside0.mk (Kd.R_elder' (TRo HO_205000.out) (Kd.R_base ho114) hb)
                  have n1_ := Aside0.mk (Kd.R_elder' (TRo HO230.out) (Kd.R_base ho114) hb)
                  have n2_ := Aside0.mk (Kd.R_lower (Kd.R_newB (Kd.R_newB (Kd.R_new' (Kd.R_new' ho114 (Kd.R_lt (TRo HO_205000.out))) (Kd.R_lt (TRo HO230.out))) (g := gb185) (o := .cells #[.int .i64 a1_0, .int .i64 a1_1, .int .i64 a1_2] 57 (0, 0)) (by (with_reducible repeat (first | refine blk_drewN ?_ _ | refine blk_drew ?_ | refine blk_alloc ?_ _)); exact BK185.out)) (g := gb213) (o := .cells #[.int .i64 ((rd_T57 l0_0 t211).f0.f0), .int .i64 ((rd_T57 l0_0 t211).f0.f1), .int .i64 t216] 57 (0, 0)) (by (with_reducible repeat (first | refine blk_drewN ?_ _ | refine blk_drew ?_ | refine blk_alloc ?_ _)); exact BK213.out)) (below_size (by repeat (first | (with_reducible first | exact HB.out | apply below_alloc | apply pw_below_drewN | apply below_drew1 | refine below_set ?_ GE184.out | refine below_set ?_ GE185.out | refine below_set ?_ GE186.out | refine below_set ?_ GE204.out | refine below_set ?_ GE213.out) | exact HB.out))))
                  have n3_ := Aside0.mk (blk_below (g := gb184) (o := .cells #[.slice (some ad212) l0_0.length c0_0, .int .i64 a0_1, .int .i64 a0_2, .slice A0_3 l0_3.length c0_3] 27 (0, 0)) (by (with_reducible repeat (first | refine blk_drewN ?_ _ | refine blk_drew ?_ | refine blk_alloc ?_ _)); exact BK184.out) hb)
                  have n4_ := Aside0.mk (blk_below (g := gb185) (o := .cells #[.int .i64 a1_0, .int .i64 a1_1, .int .i64 a1_2] 57 (0, 0)) (by (with_reducible repeat (first | refine blk_drewN ?_ _ | refine blk_drew ?_ | refine blk_alloc ?_ _)); exact BK185.out) hb)
                  have n5_ := Aside0.mk (blk_below (g := gb186) (o := .cells #[.int .i64 a2_0, .int .i64 a2_1] 28 (0, 0)) (by (with_reducible repeat (first | refine blk_drewN ?_ _ | refine blk_drew ?_ | refine blk_alloc ?_ _)); exact BK186.out) hb)
                  have n6_ := Aside0.mk (blk_below (g := gb204) (o := .cells #[.slice (some ad212) l0_0.length c0_0, .int .i64 a0_1, .int .i64 a0_2, .slice A0_3 l0_3.length c0_3] 27 (0, 0)) (by (with_reducible repeat (first | refine blk_drewN ?_ _ | refine blk_drew ?_ | refine blk_alloc ?_ _)); exact BK204.out) hb)
                  have n7_ := Aside0.mk (blk_below (g := gb213) (o := .cells #[.int .i64 ((rd_T57 l0_0 t211).f0.f0), .int .i64 ((rd_T57 l0_0 t211).f0.f1), .int .i64 t216] 57 (0, 0)) (by (with_reducible repeat (first | refine blk_drewN ?_ _ | refine blk_drew ?_ | refine blk_alloc ?_ _)); exact BK213.out) hb)
                  have n8_ := Aside0.mk (below_step (by repeat (first | (with_reducible first | exact HB.out | apply below_alloc | apply pw_below_drewN | apply below_drew1 | refine below_set ?_ GE184.out | refine below_set ?_ GE185.out | refine below_set ?_ GE186.out | refine below_set ?_ GE204.out | refine below_set ?_ GE213.out) | exact HB.out)) hb)
                  clear HO_205000
                  clear HO230
                  clear BK184
                  clear BK185
                  clear BK186
                  clear BK204
                  clear BK213
                  clear HB
                  have HO_205000 := n0_
                  have HO230 := n1_
                  have HO224 := n2_
                  have BK184 := n3_
                  have BK185 := n4_
                  have BK186 := n5_
                  have BK204 := n6_
                  have BK213 := n7_
                  have HB := n8_
                  clear n0_ n1_ n2_ n3_ n4_ n5_ n6_ n7_ n8_
                  clear hb ho114
                  refine hK.out _ _ ⟨czz BK184.out 0, czz BK184.out 1, czz BK184.out 2, czz BK184.out 3, czz BK185.out 0, czz BK185.out 1, czz BK185.out 2⟩ (fun hHeld => ?_)
                  clear hK K
                  refine norm_ (a' := ?_) ?_ ?_
                  rotate_left
                  ·show Act.put _ (some 157) _ = _
                   simp only [Act.put, lA, lZ, lS, i64_w, i32_w]
                   rfl
                  refine one_ (i := 3) (N := some 160) (bt 9 63) rfl rfl (one_of HT_.out (by kernel_rfl)) (by decide) (fun K hK => ?_)
                  refine Kd.R_append_rows_step k57 (w0 := w) w.heap.size (by rfl) (.tmp 157) (.tmp 159) 22 57 (.agg #[(.int .i64 0), (.int .i64 0), (.int .i64 0)]) 24 rfl Tryd.underlying22 info57 rfl (by decide) (by omega) v223 y222 l0_0 _ _ _ (fun k_ => some k_ ≠ (.slice (some ⟨go52, 0, none⟩) y217.length co67 : Value).ownBlock ∧ some k_ ≠ (v229 : Value).ownBlock ∧ k_ ≠ gb185 ∧ k_ ≠ gb213) (fun _ => False) rfl rfl ?aO ?aR (fun _ _ h => h) (fun _ h => h.elim) ?aF ?aB ?aS ?aL ?_
                  (case aR => exact TC HR0_0.out)
                  (case aB => exact (by repeat (first | (with_reducible first | exact HB.out | apply below_alloc | apply pw_below_drewN | apply below_drew1 | refine below_set ?_ GE184.out | refine below_set ?_ GE185.out | refine below_set ?_ GE186.out | refine below_set ?_ GE204.out | refine below_set ?_ GE213.out) | exact HB.out)))
                  (case aF => exact (fun k_ hk => ⟨Kd.fresh' (Kd.R_lt (TRo HO_205000.out)) k_ hk, Kd.fresh' (Kd.R_lt (TRo HO230.out)) k_ hk, Kd.freshB (g := gb185) (o := .cells #[.int .i64 a1_0, .int .i64 a1_1, .int .i64 a1_2] 57 (0, 0)) (by (with_reducible repeat (first | refine blk_drewN ?_ _ | refine blk_drew ?_ | refine blk_alloc ?_ _)); exact BK185.out) k_ hk, Kd.freshB (g := gb213) (o := .cells #[.int .i64 ((rd_T57 l0_0 t211).f0.f0), .int .i64 ((rd_T57 l0_0 t211).f0.f1), .int .i64 t216] 57 (0, 0)) (by (with_reducible repeat (first | refine blk_drewN ?_ _ | refine blk_drew ?_ | refine blk_alloc ?_ _)); exact BK213.out) k_ hk⟩))
                  (case aO => exact (by (with_reducible repeat (first | apply Kd.R_alloc | apply Kd.R_drewN | apply Kd.R_drew)); exact Kd.R_mono HO224.out (fun _ hk => ⟨hk.1.1.1.2, ⟨hk.1.1.2, ⟨hk.1.2, hk.2⟩⟩⟩)))
                  (case aS => exact (below_size (by repeat (first | (with_reducible first | exact HB.out | apply below_alloc | apply pw_below_drewN | apply below_drew1 | refine below_set ?_ GE184.out | refine below_set ?_ GE185.out | refine below_set ?_ GE186.out | refine below_set ?_ GE204.out | refine below_set ?_ GE213.out) | exact HB.out))))
                  (case aL => have := LMc107.out; omega)
                  intro v226 w115 ho hb hg hat
                  rw [← Ny225.out] at ho
                  have n0_ := Aside0.mk (Kd.R_after (ok := (fun k_ => some k_ ≠ (v229 : Value).ownBlock ∧ k_ ≠ gb185 ∧ k_ ≠ gb213)) (by (with_reducible repeat (first | apply Kd.R_alloc | apply Kd.R_drewN | apply Kd.R_drew)); exact Kd.R_mono HO_205000.out (fun _ hk => ⟨⟨hk.1.2, ⟨hk.1.1.1, hk.1.1.2⟩⟩, hk.2⟩)) hg hat)
                  have n1_ := Aside0.mk (blk_grown (g := gb184) (o := .cells #[.slice (some ad212) l0_0.length c0_0, .int .i64 a0_1, .int .i64 a0_2, .slice A0_3 l0_3.length c0_3] 27 (0, 0)) (by (with_reducible repeat (first | refine blk_drewN ?_ _ | refine blk_drew ?_ | refine blk_alloc ?_ _)); exact BK184.out) hg (Kd.R_ne HO224.out BK184.out (by decide)))
                  have n2_ := Aside0.mk (blk_grown (g := gb185) (o := .cells #[.int .i64 a1_0, .int .i64 a1_1, .int .i64 a1_2] 57 (0, 0)) (by (with_reducible repeat (first | refine blk_drewN ?_ _ | refine blk_drew ?_ | refine blk_alloc ?_ _)); exact BK185.out) hg (Kd.R_away HO224.out (fun _ hk => hk.1.2)))
                  have n3_ := Aside0.mk (blk_grown (g := gb186) (o := .cells #[.int .i64 a2_0, .int .i64 a2_1] 28 (0, 0)) (by (with_reducible repeat (first | refine blk_drewN ?_ _ | refine blk_drew ?_ | refine blk_alloc ?_ _)); exact BK186.out) hg (Kd.R_ne HO224.out BK186.out (by decide)))
                  have n4_ := Aside0.mk (blk_grown (g := gb204) (o := .cells #[.slice (some ad212) l0_0.length c0_0, .int .i64 a0_1, .int .i64 a0_2, .slice A0_3 l0_3.length c0_3] 27 (0, 0)) (by (with_reducible repeat (first | refine blk_drewN ?_ _ | refine blk_drew ?_ | refine blk_alloc ?_ _)); exact BK204.out) hg (Kd.R_ne HO224.out BK204.out (by decide)))
                  have n5_ := Aside0.mk (blk_grown (g := gb213) (o := .cells #[.int .i64 ((rd_T57 l0_0 t211).f0.f0), .int .i64 ((rd_T57 l0_0 t211).f0.f1), .int .i64 t216] 57 (0, 0)) (by (with_reducible repeat (first | refine blk_drewN ?_ _ | refine blk_drew ?_ | refine blk_alloc ?_ _)); exact BK213.out) hg (Kd.R_away HO224.out (fun _ hk => hk.2)))
                  have n6_ := Aside0.mk (Kd.R_after (ok := (fun k_ => some k_ ≠ (.slice (some ⟨go52, 0, none⟩) y217.length co67 : Value).ownBlock ∧ k_ ≠ gb185 ∧ k_ ≠ gb213)) (by (with_reducible repeat (first | apply Kd.R_alloc | apply Kd.R_drewN | apply Kd.R_drew)); exact Kd.R_mono HO230.out (fun _ hk => ⟨⟨hk.1.1.1.2, ⟨hk.1.1.2, hk.1.2⟩⟩, hk.2⟩)) hg hat)
                  have n7_ := Aside0.mk (hb)
                  have n8_ := Aside0.mk (ho)
                  clear HO_205000
                  clear BK184
                  clear BK185
                  clear BK186
                  clear BK204
                  clear BK213
                  clear HO230
                  clear HB
                  clear HO224
                  have HO_205000 := n0_
                  have BK184 := n1_
                  have BK185 := n2_
                  have BK186 := n3_
                  have BK204 := n4_
                  have BK213 := n5_
                  have HO230 := n6_
                  have HB := n7_
                  have HO227 := n8_
                  clear n0_ n1_ n2_ n3_ n4_ n5_ n6_ n7_ n8_
                  clear ho hb hg hat
                  refine hK.out _ _ ⟨czz BK184.out 0, czz BK184.out 1, czz BK184.out 2, czz BK184.out 3, czz BK185.out 0, czz BK185.out 1, czz BK185.out 2⟩ (fun hHeld => ?_)
                  clear hK K
                  refine norm_ (a' := ?_) ?_ ?_
                  rotate_left
                  ·show Act.put _ (some 160) _ = _
                   simp only [Act.put, lA, lZ, lS, i64_w, i32_w]
                   rfl
                  exact norm_ (by simp only [putAll, Act.put, lA, lZ, lS]) (hCont (v223, v226, v229) _ ⟨hHeld, (by (with_reducible repeat (first | apply Kd.R_alloc | apply Kd.R_drewN | apply Kd.R_drew)); exact Kd.R_mono HO227.out (fun _ hk => ⟨hk.2.1, ⟨hk.1, ⟨hk.2.2.1, hk.2.2.2⟩⟩⟩)), (by (with_reducible repeat (first | apply Kd.R_alloc | apply Kd.R_drewN | apply Kd.R_drew)); exact Kd.R_mono HO230.out (fun _ hk => ⟨hk.2, ⟨hk.1.1, ⟨hk.1.2.1, hk.1.2.2⟩⟩⟩)), (by (with_reducible repeat (first | apply Kd.R_alloc | apply Kd.R_drewN | apply Kd.R_drew)); exact Kd.R_mono HO_205000.out (fun _ hk => ⟨hk.2, ⟨hk.1.1, ⟨hk.1.2.1, hk.1.2.2⟩⟩⟩)), (by (with_reducible repeat (first | refine blk_drewN ?_ _ | refine blk_drew ?_ | refine blk_alloc ?_ _)); exact BK184.out), (by (with_reducible repeat (first | refine blk_drewN ?_ _ | refine blk_drew ?_ | refine blk_alloc ?_ _)); exact BK185.out), (by (with_reducible repeat (first | refine blk_drewN ?_ _ | refine blk_drew ?_ | refine blk_alloc ?_ _)); exact BK186.out), (by (with_reducible repeat (first | refine blk_drewN ?_ _ | refine blk_drew ?_ | refine blk_alloc ?_ _)); exact BK204.out), (by (with_reducible repeat (first | refine blk_drewN ?_ _ | refine blk_drew ?_ | refine blk_alloc ?_ _)); exact BK213.out), (by repeat (first | (with_reducible first | exact HB.out | apply below_alloc | apply pw_below_drewN | apply below_drew1 | refine below_set ?_ GE184.out | refine below_set ?_ GE185.out | refine below_set ?_ GE186.out | refine below_set ?_ GE204.out | refine below_set ?_ GE213.out) | exact HB.out))⟩)
                rintro ⟨v223, v226, v229⟩ w116 ⟨hS_, h0_, h1_, h2_, h3_, h4_, h5_, h6_, h7_, h8_⟩
                have n0_ : Aside0 (Kd.R k57 57 w116 w.heap.size (fun k_ => some k_ ≠ (v229 : Value).ownBlock ∧ some k_ ≠ (.slice (some ⟨go52, 0, none⟩) y217.length co67 : Value).ownBlock ∧ k_ ≠ gb185 ∧ k_ ≠ gb213) v226 y225) := ⟨h0_⟩
                have n1_ : Aside0 (Kd.R k57 57 w116 w.heap.size (fun k_ => some k_ ≠ (v226 : Value).ownBlock ∧ some k_ ≠ (.slice (some ⟨go52, 0, none⟩) y217.length co67 : Value).ownBlock ∧ k_ ≠ gb185 ∧ k_ ≠ gb213) v229 y228) := ⟨h1_⟩
                have n2_ : Aside0 (Kd.R k57 57 w116 w.heap.size (fun k_ => some k_ ≠ (v226 : Value).ownBlock ∧ some k_ ≠ (v229 : Value).ownBlock ∧ k_ ≠ gb185 ∧ k_ ≠ gb213) (.slice (some ⟨go52, 0, none⟩) y217.length co67) y217) := ⟨h2_⟩
                have n3_ : Aside0 (w116.heap[gb184]? = some (.cells #[.slice (some ad212) l0_0.length c0_0, .int .i64 a0_1, .int .i64 a0_2, .slice A0_3 l0_3.length c0_3] 27 (0, 0))) := ⟨h3_⟩
                have n4_ : Aside0 (w116.heap[gb185]? = some (.cells #[.int .i64 a1_0, .int .i64 a1_1, .int .i64 a1_2] 57 (0, 0))) := ⟨h4_⟩
                have n5_ : Aside0 (w116.heap[gb186]? = some (.cells #[.int .i64 a2_0, .int .i64 a2_1] 28 (0, 0))) := ⟨h5_⟩
                have n6_ : Aside0 (w116.heap[gb204]? = some (.cells #[.slice (some ad212) l0_0.length c0_0, .int .i64 a0_1, .int .i64 a0_2, .slice A0_3 l0_3.length c0_3] 27 (0, 0))) := ⟨h6_⟩
                have n7_ : Aside0 (w116.heap[gb213]? = some (.cells #[.int .i64 ((rd_T57 l0_0 t211).f0.f0), .int .i64 ((rd_T57 l0_0 t211).f0.f1), .int .i64 t216] 57 (0, 0))) := ⟨h7_⟩
                have n8_ : Aside0 (Below w.heap.size w w116) := ⟨h8_⟩
                clear HO_205000
                clear BK184
                clear BK185
                clear BK186
                clear BK204
                clear BK213
                clear HB
                clear h0_ h1_ h2_ h3_ h4_ h5_ h6_ h7_ h8_
                have HO227 := n0_
                have HO230 := n1_
                have HO_205000 := n2_
                have BK184 := n3_
                have BK185 := n4_
                have BK186 := n5_
                have BK204 := n6_
                have BK213 := n7_
                have HB := n8_
                clear n0_ n1_ n2_ n3_ n4_ n5_ n6_ n7_ n8_
                have hHeld : w116.cell? ⟨gb184, 0, none⟩ = some (.slice (some ad212) l0_0.length c0_0) ∧ w116.cell? ⟨gb184, 1, none⟩ = some (.int .i64 a0_1) ∧ w116.cell? ⟨gb184, 2, none⟩ = some (.int .i64 a0_2) ∧ w116.cell? ⟨gb184, 3, none⟩ = some (.slice A0_3 l0_3.length c0_3) ∧ w116.cell? ⟨gb185, 0, none⟩ = some (.int .i64 a1_0) ∧ w116.cell? ⟨gb185, 1, none⟩ = some (.int .i64 a1_1) ∧ w116.cell? ⟨gb185, 2, none⟩ = some (.int .i64 a1_2) := hS_
                obtain ⟨Ao118, co118, eo118⟩ := Kd.R_slice HO230.out
                (first | subst eo118 | (injection eo118 with f1_ f2_ f3_; have f4_ := f1_.symm; have f5_ := f3_.symm; clear f1_ f2_ f3_; subst f4_; subst f5_))
                refine norm_ (a' := ?_) ?_ ?_
                rotate_left
                ·simp only [putAll, Act.put, lA, lZ, lS]
                 rfl
                refine one_ (i := 6) (N := some 163) (bt 9 127) rfl rfl (one_of HT_.out (by kernel_rfl)) (by decide) (fun K hK => ?_)
                refine Kd.R_append_rows_step k57 (w0 := w) w.heap.size (by rfl) (.tmp 160) (.tmp 162) 22 57 (.agg #[(.int .i64 0), (.int .i64 0), (.int .i64 0)]) 24 rfl Tryd.underlying22 info57 rfl (by decide) (by omega) v226 y225 y228 _ _ _ (fun k_ => some k_ ≠ (.slice (some ⟨go52, 0, none⟩) y217.length co67 : Value).ownBlock ∧ some k_ ≠ (.slice Ao118 y228.length co118 : Value).ownBlock ∧ k_ ≠ gb185 ∧ k_ ≠ gb213) (fun _ => False) rfl rfl ?aO ?aR (fun _ _ h => h) (fun _ h => h.elim) ?aF ?aB ?aS ?aL ?_
                (case aR => repeat (first | exact (Kd.R_reads' HO230.out).2.2 | (with_reducible refine Kd.C_alloc ?_ _) | (with_reducible refine Kd.C_drewN ?_ _) | (with_reducible refine Kd.C_drew ?_)))
                (case aB => exact (by repeat (first | (with_reducible first | exact HB.out | apply below_alloc | apply pw_below_drewN | apply below_drew1 | refine below_set ?_ GE184.out | refine below_set ?_ GE185.out | refine below_set ?_ GE186.out | refine below_set ?_ GE204.out | refine below_set ?_ GE213.out) | exact HB.out)))
                (case aF => exact (fun k_ hk => ⟨Kd.fresh' (Kd.R_lt (TRo HO_205000.out)) k_ hk, Kd.fresh' (Kd.R_lt (TRo HO230.out)) k_ hk, Kd.freshB (g := gb185) (o := .cells #[.int .i64 a1_0, .int .i64 a1_1, .int .i64 a1_2] 57 (0, 0)) (by (with_reducible repeat (first | refine blk_drewN ?_ _ | refine blk_drew ?_ | refine blk_alloc ?_ _)); exact BK185.out) k_ hk, Kd.freshB (g := gb213) (o := .cells #[.int .i64 ((rd_T57 l0_0 t211).f0.f0), .int .i64 ((rd_T57 l0_0 t211).f0.f1), .int .i64 t216] 57 (0, 0)) (by (with_reducible repeat (first | refine blk_drewN ?_ _ | refine blk_drew ?_ | refine blk_alloc ?_ _)); exact BK213.out) k_ hk⟩))
                (case aO => exact (by (with_reducible repeat (first | apply Kd.R_alloc | apply Kd.R_drewN | apply Kd.R_drew)); exact Kd.R_mono HO227.out (fun _ hk => ⟨hk.2.1, ⟨hk.1, ⟨hk.2.2.1, hk.2.2.2⟩⟩⟩)))
                (case aS => exact (below_size (by repeat (first | (with_reducible first | exact HB.out | apply below_alloc | apply pw_below_drewN | apply below_drew1 | refine below_set ?_ GE184.out | refine below_set ?_ GE185.out | refine below_set ?_ GE186.out | refine below_set ?_ GE204.out | refine below_set ?_ GE213.out) | exact HB.out))))
                (case aL => have := LMc108.out; omega)
                intro v232 w117 ho hb hg hat
                rw [← Ny231.out] at ho
                have n0_ := Aside0.mk (Kd.R_after (ok := (fun k_ => some k_ ≠ (.slice Ao118 y228.length co118 : Value).ownBlock ∧ k_ ≠ gb185 ∧ k_ ≠ gb213)) (by (with_reducible repeat (first | apply Kd.R_alloc | apply Kd.R_drewN | apply Kd.R_drew)); exact Kd.R_mono HO_205000.out (fun _ hk => ⟨⟨hk.2.1, ⟨hk.2.2.1, hk.2.2.2⟩⟩, hk.1⟩)) hg hat)
                have n1_ := Aside0.mk (blk_grown (g := gb184) (o := .cells #[.slice (some ad212) l0_0.length c0_0, .int .i64 a0_1, .int .i64 a0_2, .slice A0_3 l0_3.length c0_3] 27 (0, 0)) (by (with_reducible repeat (first | refine blk_drewN ?_ _ | refine blk_drew ?_ | refine blk_alloc ?_ _)); exact BK184.out) hg (Kd.R_ne HO227.out BK184.out (by decide)))
                have n2_ := Aside0.mk (blk_grown (g := gb185) (o := .cells #[.int .i64 a1_0, .int .i64 a1_1, .int .i64 a1_2] 57 (0, 0)) (by (with_reducible repeat (first | refine blk_drewN ?_ _ | refine blk_drew ?_ | refine blk_alloc ?_ _)); exact BK185.out) hg (Kd.R_away HO227.out (fun _ hk => hk.2.2.1)))
                have n3_ := Aside0.mk (blk_grown (g := gb186) (o := .cells #[.int .i64 a2_0, .int .i64 a2_1] 28 (0, 0)) (by (with_reducible repeat (first | refine blk_drewN ?_ _ | refine blk_drew ?_ | refine blk_alloc ?_ _)); exact BK186.out) hg (Kd.R_ne HO227.out BK186.out (by decide)))
                have n4_ := Aside0.mk (blk_grown (g := gb204) (o := .cells #[.slice (some ad212) l0_0.length c0_0, .int .i64 a0_1, .int .i64 a0_2, .slice A0_3 l0_3.length c0_3] 27 (0, 0)) (by (with_reducible repeat (first | refine blk_drewN ?_ _ | refine blk_drew ?_ | refine blk_alloc ?_ _)); exact BK204.out) hg (Kd.R_ne HO227.out BK204.out (by decide)))
                have n5_ := Aside0.mk (blk_grown (g := gb213) (o := .cells #[.int .i64 ((rd_T57 l0_0 t211).f0.f0), .int .i64 ((rd_T57 l0_0 t211).f0.f1), .int .i64 t216] 57 (0, 0)) (by (with_reducible repeat (first | refine blk_drewN ?_ _ | refine blk_drew ?_ | refine blk_alloc ?_ _)); exact BK213.out) hg (Kd.R_away HO227.out (fun _ hk => hk.2.2.2)))
                have n6_ := Aside0.mk (Kd.R_after (ok := (fun k_ => some k_ ≠ (.slice (some ⟨go52, 0, none⟩) y217.length co67 : Value).ownBlock ∧ k_ ≠ gb185 ∧ k_ ≠ gb213)) (by (with_reducible repeat (first | apply Kd.R_alloc | apply Kd.R_drewN | apply Kd.R_drew)); exact Kd.R_mono HO230.out (fun _ hk => ⟨⟨hk.2.1, ⟨hk.2.2.1, hk.2.2.2⟩⟩, hk.1⟩)) hg hat)
                have n7_ := Aside0.mk (hb)
                have n8_ := Aside0.mk (ho)
                clear HO_205000
                clear BK184
                clear BK185
                clear BK186
                clear BK204
                clear BK213
                clear HO230
                clear HB
                clear HO227
                have HO_205000 := n0_
                have BK184 := n1_
                have BK185 := n2_
                have BK186 := n3_
                have BK204 := n4_
                have BK213 := n5_
                have HO230 := n6_
                have HB := n7_
                have HO233 := n8_
                clear n0_ n1_ n2_ n3_ n4_ n5_ n6_ n7_ n8_
                clear ho hb hg hat
                obtain ⟨Ao119, co119, eo119⟩ := Kd.R_slice HO233.out
                (first | subst eo119 | (injection eo119 with f1_ f2_ f3_; have f4_ := f1_.symm; have f5_ := f3_.symm; clear f1_ f2_ f3_; subst f4_; subst f5_))
                refine hK.out _ _ ⟨czz BK184.out 0, czz BK184.out 1, czz BK184.out 2, czz BK184.out 3, czz BK185.out 0, czz BK185.out 1, czz BK185.out 2⟩ (fun hHeld => ?_)
                clear hK K
                refine norm_ (a' := ?_) ?_ ?_
                rotate_left
                ·show Act.put _ (some 163) _ = _
                 simp only [Act.put, lA, lZ, lS, i64_w, i32_w]
                 rfl
                refine pT 7 164 (bt 9 255) (k := ?_)
                refine one_ (i := 8) (N := none) (bt 9 511) rfl rfl (one_of HT_.out (by kernel_rfl)) (by decide) (fun K hK => ?_)
                have hs120 : w117.cell? ⟨gb204, 0, none⟩ = some (.slice (some ad212) l0_0.length c0_0) := czz BK204.out 0
                have hfs120 := fz BK204.out 0
                have hns120_0 := NB184_204.out
                have hns120_1 := NB185_204.out
                have hns120_2 := NB186_204.out
                have hns120_4 := NB213_204.out
                have hms120_0 := NB204_184.out
                have hms120_1 := NB204_185.out
                have hms120_2 := NB204_186.out
                have hms120_4 := NB204_213.out
                refine skip_ (w1 := ?_) (by rfl) rfl ?_ ?_
                rotate_left
                ·go_simp
                 rfl
                refine hK.out _ _ ⟨((cell_far (p := ⟨gb204, _, none⟩) NB184_204.out _).trans (hHeld.1)), ((cell_far (p := ⟨gb204, _, none⟩) NB184_204.out _).trans (hHeld.2.1)), ((cell_far (p := ⟨gb204, _, none⟩) NB184_204.out _).trans (hHeld.2.2.1)), ((cell_far (p := ⟨gb204, _, none⟩) NB184_204.out _).trans (hHeld.2.2.2.1)), ((cell_far (p := ⟨gb204, _, none⟩) NB185_204.out _).trans (hHeld.2.2.2.2.1)), ((cell_far (p := ⟨gb204, _, none⟩) NB185_204.out _).trans (hHeld.2.2.2.2.2.1)), ((cell_far (p := ⟨gb204, _, none⟩) NB185_204.out _).trans (hHeld.2.2.2.2.2.2))⟩ (fun hHeld => ?_)
                clear hK K
                refine done_ (done_of HT_.out (by kernel_rfl)) ?_
                try go_wp2
                go_meet
                case rel => exact ⟨_, (y231), (.slice Ao119 y231.length co119), H', ⟨by have := HJ13.out; have := HJ53.out; first | omega | exact Nat.le_refl _⟩, ⟨by (try simp only [hl205000_53]); (with_reducible repeat (first | apply Kd.R_alloc | apply Kd.R_drewN | apply Kd.R_drew)); exact Kd.R_mono (Kd.R_far (p := ⟨gb204, 0, none⟩) (Kd.R_types HO233.out BK204.out (by decide)) (fun _ hk => hk.2) (.slice Ao119 y231.length co119)) (fun _ hk => ⟨hk.1.2.2.1, hk.1.2.2.2⟩)⟩, ⟨by (try simp only [hl205000_53]); (with_reducible repeat (first | refine blk_drewN ?_ _ | refine blk_drew ?_ | refine blk_alloc ?_ _)); refine blk_far ?_ NB184_204.out _; (with_reducible repeat (first | refine blk_drewN ?_ _ | refine blk_drew ?_ | refine blk_alloc ?_ _)); exact BK184.out⟩, ⟨by (try simp only [hl205000_53]); (with_reducible repeat (first | refine blk_drewN ?_ _ | refine blk_drew ?_ | refine blk_alloc ?_ _)); refine blk_far ?_ NB185_204.out _; (with_reducible repeat (first | refine blk_drewN ?_ _ | refine blk_drew ?_ | refine blk_alloc ?_ _)); exact BK185.out⟩, ⟨by (try simp only [hl205000_53]); (with_reducible repeat (first | refine blk_drewN ?_ _ | refine blk_drew ?_ | refine blk_alloc ?_ _)); refine blk_far ?_ NB186_204.out _; (with_reducible repeat (first | refine blk_drewN ?_ _ | refine blk_drew ?_ | refine blk_alloc ?_ _)); exact BK186.out⟩, ⟨by (try simp only [hl205000_53]); (with_reducible repeat (first | refine blk_drewN ?_ _ | refine blk_drew ?_ | refine blk_alloc ?_ _)); refine blk_put (cs := #[.slice (some ad212) l0_0.length c0_0, .int .i64 a0_1, .int .i64 a0_2, .slice A0_3 l0_3.length c0_3]) ?_ 0 _ rfl; (with_reducible repeat (first | refine blk_drewN ?_ _ | refine blk_drew ?_ | refine blk_alloc ?_ _)); exact BK204.out⟩, ⟨by (try simp only [hl205000_53]); (with_reducible repeat (first | refine blk_drewN ?_ _ | refine blk_drew ?_ | refine blk_alloc ?_ _)); refine blk_far ?_ NB213_204.out _; (with_reducible repeat (first | refine blk_drewN ?_ _ | refine blk_drew ?_ | refine blk_alloc ?_ _)); exact BK213.out⟩, ⟨by repeat (first | (with_reducible first | exact HB.out | apply below_alloc | apply pw_below_drewN | apply below_drew1 | refine below_set ?_ GE184.out | refine below_set ?_ GE185.out | refine below_set ?_ GE186.out | refine below_set ?_ GE204.out | refine below_set ?_ GE213.out) | exact HB.out)⟩⟩
               ·rw [if_neg c108] at H
                exact absurd H (by simp)
              ·rw [if_neg c107] at H
               exact absurd H (by simp)
             case rest => as_aux_lemma =>
              clear HC97
              try clear c1
              try clear c2
              try clear p2
              try clear c3
              try clear c8
              try clear c9
              try clear c10
              try clear c22
              try clear c89
              try clear c89b0
              try clear c89b1
              try clear c98
              try clear c99
              try clear c100
              try clear c101
              try clear c103
              try clear c104
              try clear c105
              try clear c107
              try clear c108
              try clear hcz102_0 hcz102_1 hcz102_2 hcz102_3
              try clear hcz106_0 hcz106_1 hcz106_2 hcz106_3
              try clear hfz102_0 hfz102_1 hfz102_2 hfz102_3
              try clear hfz106_0 hfz106_1 hfz106_2 hfz106_3
              try clear hfz95_0 hfz95_1 hfz95_2 hfz95_3
              obtain ⟨kq, x205000_96, u205000, HA, HJ96, HO_205000, BK184, BK185, BK186, BK204, BK213, HB⟩ := hcut
              cases kq with
              | zero => exact absurd HA.out (by simp [saronlaw03_RaspMore.j2])
              | succ kj96 =>
               have H := HA.out
               clear HA
               simp only [saronlaw03_RaspMore.j2] at H
               have HC121 := Aside0.mk H
               clear H
               go_upto_region 24 with (fail)
               go_cut [16, 17] (fun v16 v17 wc => ∃ (kq : Nat) (x16_120 : Int) (x17_120 : Int), v16 = .int .i64 x16_120 ∧ v17 = .int .i64 x17_120 ∧ Aside0 (saronlaw03_RaspMore.j3 kq t195 t196 x16_120 x17_120 = some r) ∧ Aside0 (kq ≤ kj96) ∧ Aside0 (Kd.R k57 57 wc w.heap.size (fun k_ => k_ ≠ gb185 ∧ k_ ≠ gb213) u205000 x205000_96) ∧ Aside0 (wc.heap[gb184]? = some (.cells #[(.slice (some ad212) l0_0.length c0_0), .int .i64 a0_1, .int .i64 a0_2, (.slice A0_3 l0_3.length c0_3)] 27 (0, 0))) ∧ Aside0 (wc.heap[gb185]? = some (.cells #[.int .i64 a1_0, .int .i64 a1_1, .int .i64 a1_2] 57 (0, 0))) ∧ Aside0 (wc.heap[gb186]? = some (.cells #[.int .i64 a2_0, .int .i64 a2_1] 28 (0, 0))) ∧ Aside0 (wc.heap[gb204]? = some (.cells #[u205000, .int .i64 a0_1, .int .i64 a0_2, (.slice A0_3 l0_3.length c0_3)] 27 (0, 0))) ∧ Aside0 (wc.heap[gb213]? = some (.cells #[.int .i64 ((rd_T57 l0_0 t211).f0.f0), .int .i64 ((rd_T57 l0_0 t211).f0.f1), .int .i64 t216] 57 (0, 0))) ∧ Aside0 (Below w.heap.size w wc))
               case first => as_aux_lemma =>
                have H := HC121.out
                clear HC121
                replace H := Option.bind_eq_some_iff.mp H
                obtain ⟨⟨t234, t235, t236⟩, A1220, H⟩ := H
                replace H : (saronlaw03_RaspMore.j3 kj96 t195 t196 t235 t236) = some r := H
                have A122 := Aside0.mk A1220
                clear A1220
                have H' := Aside0.mk H
                clear H
                have hnb123 := NB204_184.out
                have hnc123 := NB184_204.out
                have hnb124 := NB204_185.out
                have hnc124 := NB185_204.out
                have hnb125 := NB204_186.out
                have hnc125 := NB186_204.out
                have hnb126 := NB204_213.out
                have hnc126 := NB213_204.out
                have hcz127_0 := czz BK204.out 0
                have hcz127_1 := czz BK204.out 1
                have hcz127_2 := czz BK204.out 2
                have hcz127_3 := czz BK204.out 3
                have hfz127_0 := fz BK204.out 0
                have hfz127_1 := fz BK204.out 1
                have hfz127_2 := fz BK204.out 2
                have hfz127_3 := fz BK204.out 3
                obtain ⟨Ao128, co128, eo128⟩ := Kd.R_slice HO_205000.out
                subst eo128
                go_wp2_with (first | ((with_reducible refine gate_callee (f := 16) rfl ?_); refine goesL_ (some 169) rfl rfl Tryd.func16 (by kernel_rfl) rfl #[.agg #[.slice Ao128 x205000_96.length co128, .int .i64 a0_1, .int .i64 a0_2, .slice A0_3 l0_3.length c0_3], .int .i64 t189, .int .i64 t190] rfl TM ?_; (with_reducible refine (rasp_Next.calls _ _ x205000_96 a0_1 a0_2 _ _ l0_3 t189 t190 t234 t235 t236 _ ?side1 ?side2 ?side3 ?side4 ?side5 A122.out).mono ?_); (case side1 => repeat (first | exact (Kd.R_reads' HO_205000.out).2.2 | (with_reducible refine Kd.C_alloc ?_ _) | (with_reducible refine Kd.C_drewN ?_ _) | (with_reducible refine Kd.C_drew ?_))); (case side2 => exact (Kd.R_reads' HO_205000.out).2.1); (case side3 => exact TC HR0_3.out); (case side4 => exact HC0_3.out); (case side5 => exact Glob.fr HG.out (Fr.of_below (by repeat (first | (with_reducible first | exact HB.out | apply below_alloc | apply pw_below_drewN | apply below_drew1 | refine below_set ?_ GE184.out | refine below_set ?_ GE185.out | refine below_set ?_ GE186.out | refine below_set ?_ GE204.out | refine below_set ?_ GE213.out) | exact HB.out)))); rintro e w129 ⟨rfl, hb⟩; refine ⟨_, rfl, ?_⟩; replace HO_205000 := Aside0.mk (Kd.R_below (TRo HO_205000.out) hb); replace BK184 := Aside0.mk (blk_below (g := gb184) (o := .cells #[.slice (some ad212) l0_0.length c0_0, .int .i64 a0_1, .int .i64 a0_2, .slice A0_3 l0_3.length c0_3] 27 (0, 0)) (by (with_reducible repeat (first | refine blk_drewN ?_ _ | refine blk_drew ?_ | refine blk_alloc ?_ _)); exact BK184.out) hb); replace BK185 := Aside0.mk (blk_below (g := gb185) (o := .cells #[.int .i64 a1_0, .int .i64 a1_1, .int .i64 a1_2] 57 (0, 0)) (by (with_reducible repeat (first | refine blk_drewN ?_ _ | refine blk_drew ?_ | refine blk_alloc ?_ _)); exact BK185.out) hb); replace BK186 := Aside0.mk (blk_below (g := gb186) (o := .cells #[.int .i64 a2_0, .int .i64 a2_1] 28 (0, 0)) (by (with_reducible repeat (first | refine blk_drewN ?_ _ | refine blk_drew ?_ | refine blk_alloc ?_ _)); exact BK186.out) hb); replace BK204 := Aside0.mk (blk_below (g := gb204) (o := .cells #[.slice Ao128 x205000_96.length co128, .int .i64 a0_1, .int .i64 a0_2, .slice A0_3 l0_3.length c0_3] 27 (0, 0)) (by (with_reducible repeat (first | refine blk_drewN ?_ _ | refine blk_drew ?_ | refine blk_alloc ?_ _)); exact BK204.out) hb); replace BK213 := Aside0.mk (blk_below (g := gb213) (o := .cells #[.int .i64 ((rd_T57 l0_0 t211).f0.f0), .int .i64 ((rd_T57 l0_0 t211).f0.f1), .int .i64 t216] 57 (0, 0)) (by (with_reducible repeat (first | refine blk_drewN ?_ _ | refine blk_drew ?_ | refine blk_alloc ?_ _)); exact BK213.out) hb); replace HB := Aside0.mk (below_step (by repeat (first | (with_reducible first | exact HB.out | apply below_alloc | apply pw_below_drewN | apply below_drew1 | refine below_set ?_ GE184.out | refine below_set ?_ GE185.out | refine below_set ?_ GE186.out | refine below_set ?_ GE204.out | refine below_set ?_ GE213.out) | exact HB.out)) hb); (try clear hb); (try clear hb2); (try clear hk); (try clear hi)))
                go_meet
                case rel => exact ⟨_, (t235), (t236), TT, TT, H', ⟨by have := HJ13.out; have := HJ53.out; have := HJ96.out; first | omega | exact Nat.le_refl _⟩, ⟨by (try simp only [hl205000_53]); (with_reducible repeat (first | apply Kd.R_alloc | apply Kd.R_drewN | apply Kd.R_drew)); exact HO_205000.out⟩, ⟨by (try simp only [hl205000_53]); (with_reducible repeat (first | refine blk_drewN ?_ _ | refine blk_drew ?_ | refine blk_alloc ?_ _)); exact BK184.out⟩, ⟨by (try simp only [hl205000_53]); (with_reducible repeat (first | refine blk_drewN ?_ _ | refine blk_drew ?_ | refine blk_alloc ?_ _)); exact BK185.out⟩, ⟨by (try simp only [hl205000_53]); (with_reducible repeat (first | refine blk_drewN ?_ _ | refine blk_drew ?_ | refine blk_alloc ?_ _)); exact BK186.out⟩, ⟨by (try simp only [hl205000_53]); (with_reducible repeat (first | refine blk_drewN ?_ _ | refine blk_drew ?_ | refine blk_alloc ?_ _)); exact BK204.out⟩, ⟨by (try simp only [hl205000_53]); (with_reducible repeat (first | refine blk_drewN ?_ _ | refine blk_drew ?_ | refine blk_alloc ?_ _)); exact BK213.out⟩, ⟨by repeat (first | (with_reducible first | exact HB.out | apply below_alloc | apply pw_below_drewN | apply below_drew1 | refine below_set ?_ GE184.out | refine below_set ?_ GE185.out | refine below_set ?_ GE186.out | refine below_set ?_ GE204.out | refine below_set ?_ GE213.out) | exact HB.out)⟩⟩
               case rest => as_aux_lemma =>
                clear HC121
                try clear c1
                try clear c2
                try clear p2
                try clear c3
                try clear c8
                try clear c9
                try clear c10
                try clear c12
                try clear c16
                try clear c22
                try clear c89
                try clear c89b0
                try clear c89b1
                try clear c98
                try clear c99
                try clear c100
                try clear c101
                try clear c103
                try clear c104
                try clear c105
                try clear c107
                try clear c108
                try clear c123
                try clear c124
                try clear c125
                try clear c126
                try clear hcz102_0 hcz102_1 hcz102_2 hcz102_3
                try clear hcz106_0 hcz106_1 hcz106_2 hcz106_3
                try clear hcz127_0 hcz127_1 hcz127_2 hcz127_3
                try clear hfz102_0 hfz102_1 hfz102_2 hfz102_3
                try clear hfz106_0 hfz106_1 hfz106_2 hfz106_3
                try clear hfz127_0 hfz127_1 hfz127_2 hfz127_3
                try clear hfz95_0 hfz95_1 hfz95_2 hfz95_3
                try clear p2
                obtain ⟨kq, x16_120, x17_120, rfl, rfl, HA, HJ120, HO_205000, BK184, BK185, BK186, BK204, BK213, HB⟩ := hcut
                cases kq with
                | zero => exact absurd HA.out (by simp [saronlaw03_RaspMore.j3])
                | succ kj120 =>
                 have H := HA.out
                 clear HA
                 simp only [saronlaw03_RaspMore.j3] at H
                 by_cases c130 : x17_120 = 30
                 ·rw [if_pos c130] at H
                  have c130b0 : (x17_120 == 30) = true := beq_iff_eq.mpr c130
                  have c130b1 : (x17_120 != 30) = false := bne_eq_false_iff_eq.mpr c130
                  clear c130
                  by_cases c131 : x17_120 = 0
                  ·rw [if_pos c131] at H
                   have c131b0 : (x17_120 == 0) = true := beq_iff_eq.mpr c131
                   have c131b1 : (x17_120 != 0) = false := bne_eq_false_iff_eq.mpr c131
                   clear c131
                   replace H := Option.bind_eq_some_iff.mp H
                   obtain ⟨t237, A1320, H⟩ := H
                   replace H : (some t237) = some r := H
                   have A132 := Aside0.mk A1320
                   clear A1320
                   obtain rfl := Option.some.inj H
                   go_wp2_with (first | (go_at_call 22; (with_reducible refine (saronlaw03_filed.calls  t237 _ ?side1 A132.out).mono ?_); (case side1 => exact Glob.fr HG.out (Fr.of_below (by repeat (first | (with_reducible first | exact HB.out | apply below_alloc | apply pw_below_drewN | apply below_drew1 | refine below_set ?_ GE184.out | refine below_set ?_ GE185.out | refine below_set ?_ GE186.out | refine below_set ?_ GE204.out | refine below_set ?_ GE213.out) | exact HB.out)))); rintro e w133 ⟨rfl, hb⟩; replace HO_205000 := Aside0.mk (Kd.R_below (TRo HO_205000.out) hb); replace BK184 := Aside0.mk (blk_below (g := gb184) (o := .cells #[.slice (some ad212) l0_0.length c0_0, .int .i64 a0_1, .int .i64 a0_2, .slice A0_3 l0_3.length c0_3] 27 (0, 0)) (by (with_reducible repeat (first | refine blk_drewN ?_ _ | refine blk_drew ?_ | refine blk_alloc ?_ _)); exact BK184.out) hb); replace BK185 := Aside0.mk (blk_below (g := gb185) (o := .cells #[.int .i64 a1_0, .int .i64 a1_1, .int .i64 a1_2] 57 (0, 0)) (by (with_reducible repeat (first | refine blk_drewN ?_ _ | refine blk_drew ?_ | refine blk_alloc ?_ _)); exact BK185.out) hb); replace BK186 := Aside0.mk (blk_below (g := gb186) (o := .cells #[.int .i64 a2_0, .int .i64 a2_1] 28 (0, 0)) (by (with_reducible repeat (first | refine blk_drewN ?_ _ | refine blk_drew ?_ | refine blk_alloc ?_ _)); exact BK186.out) hb); replace BK204 := Aside0.mk (blk_below (g := gb204) (o := .cells #[u205000, .int .i64 a0_1, .int .i64 a0_2, .slice A0_3 l0_3.length c0_3] 27 (0, 0)) (by (with_reducible repeat (first | refine blk_drewN ?_ _ | refine blk_drew ?_ | refine blk_alloc ?_ _)); exact BK204.out) hb); replace BK213 := Aside0.mk (blk_below (g := gb213) (o := .cells #[.int .i64 ((rd_T57 l0_0 t211).f0.f0), .int .i64 ((rd_T57 l0_0 t211).f0.f1), .int .i64 t216] 57 (0, 0)) (by (with_reducible repeat (first | refine blk_drewN ?_ _ | refine blk_drew ?_ | refine blk_alloc ?_ _)); exact BK213.out) hb); replace HB := Aside0.mk (below_step (by repeat (first | (with_reducible first | exact HB.out | apply below_alloc | apply pw_below_drewN | apply below_drew1 | refine below_set ?_ GE184.out | refine below_set ?_ GE185.out | refine below_set ?_ GE186.out | refine below_set ?_ GE204.out | refine below_set ?_ GE213.out) | exact HB.out)) hb); (try clear hb); (try clear hb2); (try clear hk); (try clear hi)))
                   go_ret
                   exact ⟨TR, by repeat (first | (with_reducible first | exact HB.out | apply below_alloc | apply pw_below_drewN | apply below_drew1 | refine below_set ?_ GE184.out | refine below_set ?_ GE185.out | refine below_set ?_ GE186.out | refine below_set ?_ GE204.out | refine below_set ?_ GE213.out) | exact HB.out)⟩
                  ·rw [if_neg c131] at H
                   have c131b0 : (x17_120 == 0) = false := beq_eq_false_iff_ne.mpr c131
                   have c131b1 : (x17_120 != 0) = true := bne_iff_ne.mpr c131
                   replace H := Option.bind_eq_some_iff.mp H
                   obtain ⟨t238, A1340, H⟩ := H
                   replace H : (some t238) = some r := H
                   have A134 := Aside0.mk A1340
                   clear A1340
                   obtain rfl := Option.some.inj H
                   go_wp2_with (first | (go_at_call 22; (with_reducible refine (saronlaw03_filed.calls  t238 _ ?side1 A134.out).mono ?_); (case side1 => exact Glob.fr HG.out (Fr.of_below (by repeat (first | (with_reducible first | exact HB.out | apply below_alloc | apply pw_below_drewN | apply below_drew1 | refine below_set ?_ GE184.out | refine below_set ?_ GE185.out | refine below_set ?_ GE186.out | refine below_set ?_ GE204.out | refine below_set ?_ GE213.out) | exact HB.out)))); rintro e w135 ⟨rfl, hb⟩; replace HO_205000 := Aside0.mk (Kd.R_below (TRo HO_205000.out) hb); replace BK184 := Aside0.mk (blk_below (g := gb184) (o := .cells #[.slice (some ad212) l0_0.length c0_0, .int .i64 a0_1, .int .i64 a0_2, .slice A0_3 l0_3.length c0_3] 27 (0, 0)) (by (with_reducible repeat (first | refine blk_drewN ?_ _ | refine blk_drew ?_ | refine blk_alloc ?_ _)); exact BK184.out) hb); replace BK185 := Aside0.mk (blk_below (g := gb185) (o := .cells #[.int .i64 a1_0, .int .i64 a1_1, .int .i64 a1_2] 57 (0, 0)) (by (with_reducible repeat (first | refine blk_drewN ?_ _ | refine blk_drew ?_ | refine blk_alloc ?_ _)); exact BK185.out) hb); replace BK186 := Aside0.mk (blk_below (g := gb186) (o := .cells #[.int .i64 a2_0, .int .i64 a2_1] 28 (0, 0)) (by (with_reducible repeat (first | refine blk_drewN ?_ _ | refine blk_drew ?_ | refine blk_alloc ?_ _)); exact BK186.out) hb); replace BK204 := Aside0.mk (blk_below (g := gb204) (o := .cells #[u205000, .int .i64 a0_1, .int .i64 a0_2, .slice A0_3 l0_3.length c0_3] 27 (0, 0)) (by (with_reducible repeat (first | refine blk_drewN ?_ _ | refine blk_drew ?_ | refine blk_alloc ?_ _)); exact BK204.out) hb); replace BK213 := Aside0.mk (blk_below (g := gb213) (o := .cells #[.int .i64 ((rd_T57 l0_0 t211).f0.f0), .int .i64 ((rd_T57 l0_0 t211).f0.f1), .int .i64 t216] 57 (0, 0)) (by (with_reducible repeat (first | refine blk_drewN ?_ _ | refine blk_drew ?_ | refine blk_alloc ?_ _)); exact BK213.out) hb); replace HB := Aside0.mk (below_step (by repeat (first | (with_reducible first | exact HB.out | apply below_alloc | apply pw_below_drewN | apply below_drew1 | refine below_set ?_ GE184.out | refine below_set ?_ GE185.out | refine below_set ?_ GE186.out | refine below_set ?_ GE204.out | refine below_set ?_ GE213.out) | exact HB.out)) hb); (try clear hb); (try clear hb2); (try clear hk); (try clear hi)))
                   go_ret
                   exact ⟨TR, by repeat (first | (with_reducible first | exact HB.out | apply below_alloc | apply pw_below_drewN | apply below_drew1 | refine below_set ?_ GE184.out | refine below_set ?_ GE185.out | refine below_set ?_ GE186.out | refine below_set ?_ GE204.out | refine below_set ?_ GE213.out) | exact HB.out)⟩
                 ·rw [if_neg c130] at H
                  have c130b0 : (x17_120 == 30) = false := beq_eq_false_iff_ne.mpr c130
                  have c130b1 : (x17_120 != 30) = true := bne_iff_ne.mpr c130
                  by_cases c136 : t196 = 0
                  ·rw [if_pos c136] at H
                   have c136b0 : (t196 == 0) = true := beq_iff_eq.mpr c136
                   have c136b1 : (t196 != 0) = false := bne_eq_false_iff_eq.mpr c136
                   clear c136
                   by_cases c137 : x17_120 = 0
                   ·rw [if_pos c137] at H
                    have c137b0 : (x17_120 == 0) = true := beq_iff_eq.mpr c137
                    have c137b1 : (x17_120 != 0) = false := bne_eq_false_iff_eq.mpr c137
                    clear c137
                    by_cases c138 : x16_120 ≤ t195
                    ·rw [if_pos c138] at H
                     have c138b0 : decide (x16_120 ≤ t195) = true := decide_eq_true c138
                     clear c138
                     replace H := Option.bind_eq_some_iff.mp H
                     obtain ⟨t239, A1390, H⟩ := H
                     replace H : (some t239) = some r := H
                     have A139 := Aside0.mk A1390
                     clear A1390
                     obtain rfl := Option.some.inj H
                     go_wp2_with (first | (go_at_call 22; (with_reducible refine (saronlaw03_filed.calls  t239 _ ?side1 A139.out).mono ?_); (case side1 => exact Glob.fr HG.out (Fr.of_below (by repeat (first | (with_reducible first | exact HB.out | apply below_alloc | apply pw_below_drewN | apply below_drew1 | refine below_set ?_ GE184.out | refine below_set ?_ GE185.out | refine below_set ?_ GE186.out | refine below_set ?_ GE204.out | refine below_set ?_ GE213.out) | exact HB.out)))); rintro e w140 ⟨rfl, hb⟩; replace HO_205000 := Aside0.mk (Kd.R_below (TRo HO_205000.out) hb); replace BK184 := Aside0.mk (blk_below (g := gb184) (o := .cells #[.slice (some ad212) l0_0.length c0_0, .int .i64 a0_1, .int .i64 a0_2, .slice A0_3 l0_3.length c0_3] 27 (0, 0)) (by (with_reducible repeat (first | refine blk_drewN ?_ _ | refine blk_drew ?_ | refine blk_alloc ?_ _)); exact BK184.out) hb); replace BK185 := Aside0.mk (blk_below (g := gb185) (o := .cells #[.int .i64 a1_0, .int .i64 a1_1, .int .i64 a1_2] 57 (0, 0)) (by (with_reducible repeat (first | refine blk_drewN ?_ _ | refine blk_drew ?_ | refine blk_alloc ?_ _)); exact BK185.out) hb); replace BK186 := Aside0.mk (blk_below (g := gb186) (o := .cells #[.int .i64 a2_0, .int .i64 a2_1] 28 (0, 0)) (by (with_reducible repeat (first | refine blk_drewN ?_ _ | refine blk_drew ?_ | refine blk_alloc ?_ _)); exact BK186.out) hb); replace BK204 := Aside0.mk (blk_below (g := gb204) (o := .cells #[u205000, .int .i64 a0_1, .int .i64 a0_2, .slice A0_3 l0_3.length c0_3] 27 (0, 0)) (by (with_reducible repeat (first | refine blk_drewN ?_ _ | refine blk_drew ?_ | refine blk_alloc ?_ _)); exact BK204.out) hb); replace BK213 := Aside0.mk (blk_below (g := gb213) (o := .cells #[.int .i64 ((rd_T57 l0_0 t211).f0.f0), .int .i64 ((rd_T57 l0_0 t211).f0.f1), .int .i64 t216] 57 (0, 0)) (by (with_reducible repeat (first | refine blk_drewN ?_ _ | refine blk_drew ?_ | refine blk_alloc ?_ _)); exact BK213.out) hb); replace HB := Aside0.mk (below_step (by repeat (first | (with_reducible first | exact HB.out | apply below_alloc | apply pw_below_drewN | apply below_drew1 | refine below_set ?_ GE184.out | refine below_set ?_ GE185.out | refine below_set ?_ GE186.out | refine below_set ?_ GE204.out | refine below_set ?_ GE213.out) | exact HB.out)) hb); (try clear hb); (try clear hb2); (try clear hk); (try clear hi)))
                     go_ret
                     exact ⟨TR, by repeat (first | (with_reducible first | exact HB.out | apply below_alloc | apply pw_below_drewN | apply below_drew1 | refine below_set ?_ GE184.out | refine below_set ?_ GE185.out | refine below_set ?_ GE186.out | refine below_set ?_ GE204.out | refine below_set ?_ GE213.out) | exact HB.out)⟩
                    ·rw [if_neg c138] at H
                     have c138b0 : decide (x16_120 ≤ t195) = false := decide_eq_false c138
                     clear c138
                     obtain rfl := Option.some.inj H
                     go_wp2
                     go_ret
                     exact ⟨TR, by repeat (first | (with_reducible first | exact HB.out | apply below_alloc | apply pw_below_drewN | apply below_drew1 | refine below_set ?_ GE184.out | refine below_set ?_ GE185.out | refine below_set ?_ GE186.out | refine below_set ?_ GE204.out | refine below_set ?_ GE213.out) | exact HB.out)⟩
                   ·rw [if_neg c137] at H
                    have c137b0 : (x17_120 == 0) = false := beq_eq_false_iff_ne.mpr c137
                    have c137b1 : (x17_120 != 0) = true := bne_iff_ne.mpr c137
                    obtain rfl := Option.some.inj H
                    go_wp2
                    go_ret
                    exact ⟨TR, by repeat (first | (with_reducible first | exact HB.out | apply below_alloc | apply pw_below_drewN | apply below_drew1 | refine below_set ?_ GE184.out | refine below_set ?_ GE185.out | refine below_set ?_ GE186.out | refine below_set ?_ GE204.out | refine below_set ?_ GE213.out) | exact HB.out)⟩
                  ·rw [if_neg c136] at H
                   have c136b0 : (t196 == 0) = false := beq_eq_false_iff_ne.mpr c136
                   have c136b1 : (t196 != 0) = true := bne_iff_ne.mpr c136
                   by_cases c141 : x17_120 = 0
                   ·rw [if_pos c141] at H
                    have c141b0 : (x17_120 == 0) = true := beq_iff_eq.mpr c141
                    have c141b1 : (x17_120 != 0) = false := bne_eq_false_iff_eq.mpr c141
                    clear c141
                    replace H := Option.bind_eq_some_iff.mp H
                    obtain ⟨t240, A1420, H⟩ := H
                    replace H : (some t240) = some r := H
                    have A142 := Aside0.mk A1420
                    clear A1420
                    obtain rfl := Option.some.inj H
                    go_wp2_with (first | (go_at_call 22; (with_reducible refine (saronlaw03_filed.calls  t240 _ ?side1 A142.out).mono ?_); (case side1 => exact Glob.fr HG.out (Fr.of_below (by repeat (first | (with_reducible first | exact HB.out | apply below_alloc | apply pw_below_drewN | apply below_drew1 | refine below_set ?_ GE184.out | refine below_set ?_ GE185.out | refine below_set ?_ GE186.out | refine below_set ?_ GE204.out | refine below_set ?_ GE213.out) | exact HB.out)))); rintro e w143 ⟨rfl, hb⟩; replace HO_205000 := Aside0.mk (Kd.R_below (TRo HO_205000.out) hb); replace BK184 := Aside0.mk (blk_below (g := gb184) (o := .cells #[.slice (some ad212) l0_0.length c0_0, .int .i64 a0_1, .int .i64 a0_2, .slice A0_3 l0_3.length c0_3] 27 (0, 0)) (by (with_reducible repeat (first | refine blk_drewN ?_ _ | refine blk_drew ?_ | refine blk_alloc ?_ _)); exact BK184.out) hb); replace BK185 := Aside0.mk (blk_below (g := gb185) (o := .cells #[.int .i64 a1_0, .int .i64 a1_1, .int .i64 a1_2] 57 (0, 0)) (by (with_reducible repeat (first | refine blk_drewN ?_ _ | refine blk_drew ?_ | refine blk_alloc ?_ _)); exact BK185.out) hb); replace BK186 := Aside0.mk (blk_below (g := gb186) (o := .cells #[.int .i64 a2_0, .int .i64 a2_1] 28 (0, 0)) (by (with_reducible repeat (first | refine blk_drewN ?_ _ | refine blk_drew ?_ | refine blk_alloc ?_ _)); exact BK186.out) hb); replace BK204 := Aside0.mk (blk_below (g := gb204) (o := .cells #[u205000, .int .i64 a0_1, .int .i64 a0_2, .slice A0_3 l0_3.length c0_3] 27 (0, 0)) (by (with_reducible repeat (first | refine blk_drewN ?_ _ | refine blk_drew ?_ | refine blk_alloc ?_ _)); exact BK204.out) hb); replace BK213 := Aside0.mk (blk_below (g := gb213) (o := .cells #[.int .i64 ((rd_T57 l0_0 t211).f0.f0), .int .i64 ((rd_T57 l0_0 t211).f0.f1), .int .i64 t216] 57 (0, 0)) (by (with_reducible repeat (first | refine blk_drewN ?_ _ | refine blk_drew ?_ | refine blk_alloc ?_ _)); exact BK213.out) hb); replace HB := Aside0.mk (below_step (by repeat (first | (with_reducible first | exact HB.out | apply below_alloc | apply pw_below_drewN | apply below_drew1 | refine below_set ?_ GE184.out | refine below_set ?_ GE185.out | refine below_set ?_ GE186.out | refine below_set ?_ GE204.out | refine below_set ?_ GE213.out) | exact HB.out)) hb); (try clear hb); (try clear hb2); (try clear hk); (try clear hi)))
                    go_ret
                    exact ⟨TR, by repeat (first | (with_reducible first | exact HB.out | apply below_alloc | apply pw_below_drewN | apply below_drew1 | refine below_set ?_ GE184.out | refine below_set ?_ GE185.out | refine below_set ?_ GE186.out | refine below_set ?_ GE204.out | refine below_set ?_ GE213.out) | exact HB.out)⟩
                   ·rw [if_neg c141] at H
                    have c141b0 : (x17_120 == 0) = false := beq_eq_false_iff_ne.mpr c141
                    have c141b1 : (x17_120 != 0) = true := bne_iff_ne.mpr c141
                    by_cases c144 : x17_120 = 4
                    ·rw [if_pos c144] at H
                     have c144b0 : (x17_120 == 4) = true := beq_iff_eq.mpr c144
                     have c144b1 : (x17_120 != 4) = false := bne_eq_false_iff_eq.mpr c144
                     clear c144
                     replace H := Option.bind_eq_some_iff.mp H
                     obtain ⟨t241, A1450, H⟩ := H
                     replace H : (some t241) = some r := H
                     have A145 := Aside0.mk A1450
                     clear A1450
                     obtain rfl := Option.some.inj H
                     go_wp2_with (first | (go_at_call 22; (with_reducible refine (saronlaw03_filed.calls  t241 _ ?side1 A145.out).mono ?_); (case side1 => exact Glob.fr HG.out (Fr.of_below (by repeat (first | (with_reducible first | exact HB.out | apply below_alloc | apply pw_below_drewN | apply below_drew1 | refine below_set ?_ GE184.out | refine below_set ?_ GE185.out | refine below_set ?_ GE186.out | refine below_set ?_ GE204.out | refine below_set ?_ GE213.out) | exact HB.out)))); rintro e w146 ⟨rfl, hb⟩; replace HO_205000 := Aside0.mk (Kd.R_below (TRo HO_205000.out) hb); replace BK184 := Aside0.mk (blk_below (g := gb184) (o := .cells #[.slice (some ad212) l0_0.length c0_0, .int .i64 a0_1, .int .i64 a0_2, .slice A0_3 l0_3.length c0_3] 27 (0, 0)) (by (with_reducible repeat (first | refine blk_drewN ?_ _ | refine blk_drew ?_ | refine blk_alloc ?_ _)); exact BK184.out) hb); replace BK185 := Aside0.mk (blk_below (g := gb185) (o := .cells #[.int .i64 a1_0, .int .i64 a1_1, .int .i64 a1_2] 57 (0, 0)) (by (with_reducible repeat (first | refine blk_drewN ?_ _ | refine blk_drew ?_ | refine blk_alloc ?_ _)); exact BK185.out) hb); replace BK186 := Aside0.mk (blk_below (g := gb186) (o := .cells #[.int .i64 a2_0, .int .i64 a2_1] 28 (0, 0)) (by (with_reducible repeat (first | refine blk_drewN ?_ _ | refine blk_drew ?_ | refine blk_alloc ?_ _)); exact BK186.out) hb); replace BK204 := Aside0.mk (blk_below (g := gb204) (o := .cells #[u205000, .int .i64 a0_1, .int .i64 a0_2, .slice A0_3 l0_3.length c0_3] 27 (0, 0)) (by (with_reducible repeat (first | refine blk_drewN ?_ _ | refine blk_drew ?_ | refine blk_alloc ?_ _)); exact BK204.out) hb); replace BK213 := Aside0.mk (blk_below (g := gb213) (o := .cells #[.int .i64 ((rd_T57 l0_0 t211).f0.f0), .int .i64 ((rd_T57 l0_0 t211).f0.f1), .int .i64 t216] 57 (0, 0)) (by (with_reducible repeat (first | refine blk_drewN ?_ _ | refine blk_drew ?_ | refine blk_alloc ?_ _)); exact BK213.out) hb); replace HB := Aside0.mk (below_step (by repeat (first | (with_reducible first | exact HB.out | apply below_alloc | apply pw_below_drewN | apply below_drew1 | refine below_set ?_ GE184.out | refine below_set ?_ GE185.out | refine below_set ?_ GE186.out | refine below_set ?_ GE204.out | refine below_set ?_ GE213.out) | exact HB.out)) hb); (try clear hb); (try clear hb2); (try clear hk); (try clear hi)))
                     go_ret
                     exact ⟨TR, by repeat (first | (with_reducible first | exact HB.out | apply below_alloc | apply pw_below_drewN | apply below_drew1 | refine below_set ?_ GE184.out | refine below_set ?_ GE185.out | refine below_set ?_ GE186.out | refine below_set ?_ GE204.out | refine below_set ?_ GE213.out) | exact HB.out)⟩
                    ·rw [if_neg c144] at H
                     have c144b0 : (x17_120 == 4) = false := beq_eq_false_iff_ne.mpr c144
                     have c144b1 : (x17_120 != 4) = true := bne_iff_ne.mpr c144
                     obtain rfl := Option.some.inj H
                     go_wp2
                     go_ret
                     exact ⟨TR, by repeat (first | (with_reducible first | exact HB.out | apply below_alloc | apply pw_below_drewN | apply below_drew1 | refine below_set ?_ GE184.out | refine below_set ?_ GE185.out | refine below_set ?_ GE186.out | refine below_set ?_ GE204.out | refine below_set ?_ GE213.out) | exact HB.out)⟩
        ·rw [if_neg c51] at H
         exact absurd H (by simp)
       ·rw [if_neg c48] at H
        exact absurd H (by simp)
      ·rw [if_neg c47] at H
       exact absurd H (by simp)
     ·rw [if_neg c45] at H
      exact absurd H (by simp)
 ·replace c6 := Bool.eq_false_iff.mpr c6
  subst c6
  have H1 : ((saronlaw03_filed.f).bind fun t188 => (some t188)) = some r := by rw [if_neg (show ¬ (false = true) by decide)] at H; exact H
  clear H
  have H := H1
  clear H1
  replace H := Option.bind_eq_some_iff.mp H
  obtain ⟨t188, A1470, H⟩ := H
  replace H : (some t188) = some r := H
  have A147 := Aside0.mk A1470
  clear A1470
  obtain rfl := Option.some.inj H
  go_enter Tryd.func9, Tryd.ntmps9
  go_wp2_with (first | ((with_reducible refine gate_dst (N := 4) rfl ?_); refine box_event ?hg (N := 4) ?hd (cs := #[.slice A0_0 l0_0.length c0_0, .int .i64 a0_1, .int .i64 a0_2, .slice A0_3 l0_3.length c0_3]) (t := 27) ?hr ?_; (case hd => rfl); (case hg => rfl); (case hr => exact TS); intro gb184 hg w148 hbox hb; have BK184 := Aside0.mk (hbox); have GW184 := Aside0.mk ((TG : w.heap.size ≤ gb184)); have GE184 := Aside0.mk ((TG : w.heap.size ≤ gb184)); replace HB := Aside0.mk (below_step TB hb); clear hb hbox hg) | ((with_reducible refine gate_dst (N := 5) rfl ?_); refine box_event ?hg (N := 5) ?hd (cs := #[.int .i64 a1_0, .int .i64 a1_1, .int .i64 a1_2]) (t := 57) ?hr ?_; (case hd => rfl); (case hg => rfl); (case hr => exact TS); intro gb185 hg w149 hbox hb; have BK185 := Aside0.mk (hbox); have GW185 := Aside0.mk ((TG1 GE184.out : w.heap.size ≤ gb185)); have GE185 := Aside0.mk ((TG1 GE184.out : w.heap.size ≤ gb185)); have NB184_185 := Aside0.mk ((by rw [hg]; exact Nat.ne_of_lt (blk_lt (g := gb184) (o := .cells #[.slice A0_0 l0_0.length c0_0, .int .i64 a0_1, .int .i64 a0_2, .slice A0_3 l0_3.length c0_3] 27 (0, 0)) (by (with_reducible repeat (first | refine blk_drewN ?_ _ | refine blk_drew ?_ | refine blk_alloc ?_ _)); exact BK184.out)) : gb184 ≠ gb185)); have NB185_184 := Aside0.mk ((by rw [hg]; exact Nat.ne_of_gt (blk_lt (g := gb184) (o := .cells #[.slice A0_0 l0_0.length c0_0, .int .i64 a0_1, .int .i64 a0_2, .slice A0_3 l0_3.length c0_3] 27 (0, 0)) (by (with_reducible repeat (first | refine blk_drewN ?_ _ | refine blk_drew ?_ | refine blk_alloc ?_ _)); exact BK184.out)) : gb185 ≠ gb184)); replace BK184 := Aside0.mk (blk_below (g := gb184) (o := .cells #[.slice A0_0 l0_0.length c0_0, .int .i64 a0_1, .int .i64 a0_2, .slice A0_3 l0_3.length c0_3] 27 (0, 0)) (by (with_reducible repeat (first | refine blk_drewN ?_ _ | refine blk_drew ?_ | refine blk_alloc ?_ _)); exact BK184.out) hb); replace HB := Aside0.mk (below_step (TB1 GE184.out) hb); clear hb hbox hg) | ((with_reducible refine gate_dst (N := 6) rfl ?_); refine box_event ?hg (N := 6) ?hd (cs := #[.int .i64 a2_0, .int .i64 a2_1]) (t := 28) ?hr ?_; (case hd => rfl); (case hg => rfl); (case hr => exact TS); intro gb186 hg w150 hbox hb; have BK186 := Aside0.mk (hbox); have GW186 := Aside0.mk ((TG2 GE184.out GE185.out : w.heap.size ≤ gb186)); have GE186 := Aside0.mk ((TG2 GE184.out GE185.out : w.heap.size ≤ gb186)); have NB184_186 := Aside0.mk ((by rw [hg]; exact Nat.ne_of_lt (blk_lt (g := gb184) (o := .cells #[.slice A0_0 l0_0.length c0_0, .int .i64 a0_1, .int .i64 a0_2, .slice A0_3 l0_3.length c0_3] 27 (0, 0)) (by (with_reducible repeat (first | refine blk_drewN ?_ _ | refine blk_drew ?_ | refine blk_alloc ?_ _)); exact BK184.out)) : gb184 ≠ gb186)); have NB186_184 := Aside0.mk ((by rw [hg]; exact Nat.ne_of_gt (blk_lt (g := gb184) (o := .cells #[.slice A0_0 l0_0.length c0_0, .int .i64 a0_1, .int .i64 a0_2, .slice A0_3 l0_3.length c0_3] 27 (0, 0)) (by (with_reducible repeat (first | refine blk_drewN ?_ _ | refine blk_drew ?_ | refine blk_alloc ?_ _)); exact BK184.out)) : gb186 ≠ gb184)); have NB185_186 := Aside0.mk ((by rw [hg]; exact Nat.ne_of_lt (blk_lt (g := gb185) (o := .cells #[.int .i64 a1_0, .int .i64 a1_1, .int .i64 a1_2] 57 (0, 0)) (by (with_reducible repeat (first | refine blk_drewN ?_ _ | refine blk_drew ?_ | refine blk_alloc ?_ _)); exact BK185.out)) : gb185 ≠ gb186)); have NB186_185 := Aside0.mk ((by rw [hg]; exact Nat.ne_of_gt (blk_lt (g := gb185) (o := .cells #[.int .i64 a1_0, .int .i64 a1_1, .int .i64 a1_2] 57 (0, 0)) (by (with_reducible repeat (first | refine blk_drewN ?_ _ | refine blk_drew ?_ | refine blk_alloc ?_ _)); exact BK185.out)) : gb186 ≠ gb185)); replace BK184 := Aside0.mk (blk_below (g := gb184) (o := .cells #[.slice A0_0 l0_0.length c0_0, .int .i64 a0_1, .int .i64 a0_2, .slice A0_3 l0_3.length c0_3] 27 (0, 0)) (by (with_reducible repeat (first | refine blk_drewN ?_ _ | refine blk_drew ?_ | refine blk_alloc ?_ _)); exact BK184.out) hb); replace BK185 := Aside0.mk (blk_below (g := gb185) (o := .cells #[.int .i64 a1_0, .int .i64 a1_1, .int .i64 a1_2] 57 (0, 0)) (by (with_reducible repeat (first | refine blk_drewN ?_ _ | refine blk_drew ?_ | refine blk_alloc ?_ _)); exact BK185.out) hb); replace HB := Aside0.mk (below_step (TB2 GE184.out GE185.out) hb); clear hb hbox hg; have hnb151 := NB184_185.out; have hnc151 := NB185_184.out; have hnb152 := NB184_186.out; have hnc152 := NB186_184.out; have hcz153_0 := czz BK184.out 0; have hcz153_1 := czz BK184.out 1; have hcz153_2 := czz BK184.out 2; have hcz153_3 := czz BK184.out 3; have hfz153_0 := fz BK184.out 0; have hfz153_1 := fz BK184.out 1; have hfz153_2 := fz BK184.out 2; have hfz153_3 := fz BK184.out 3) | ((with_reducible refine gate_callee (f := 37) rfl ?_); refine goesL_ (some 26) rfl rfl Tryd.func37 (by kernel_rfl) rfl #[.agg #[.slice A0_0 l0_0.length c0_0, .int .i64 a0_1, .int .i64 a0_2, .slice A0_3 l0_3.length c0_3]] rfl TM ?_; (with_reducible refine (saronlaw03_sound.calls k _ _ l0_0 a0_1 a0_2 _ _ l0_3 false _ ?side1 ?side2 ?side3 ?side4 A5.out).mono ?_); (case side1 => exact TC HR0_0.out); (case side2 => exact HC0_0.out); (case side3 => exact TC HR0_3.out); (case side4 => exact HC0_3.out); rintro e w154 ⟨rfl, hb⟩; refine ⟨_, rfl, ?_⟩; replace BK184 := Aside0.mk (blk_below (g := gb184) (o := .cells #[.slice A0_0 l0_0.length c0_0, .int .i64 a0_1, .int .i64 a0_2, .slice A0_3 l0_3.length c0_3] 27 (0, 0)) (by (with_reducible repeat (first | refine blk_drewN ?_ _ | refine blk_drew ?_ | refine blk_alloc ?_ _)); exact BK184.out) hb); replace BK185 := Aside0.mk (blk_below (g := gb185) (o := .cells #[.int .i64 a1_0, .int .i64 a1_1, .int .i64 a1_2] 57 (0, 0)) (by (with_reducible repeat (first | refine blk_drewN ?_ _ | refine blk_drew ?_ | refine blk_alloc ?_ _)); exact BK185.out) hb); replace BK186 := Aside0.mk (blk_below (g := gb186) (o := .cells #[.int .i64 a2_0, .int .i64 a2_1] 28 (0, 0)) (by (with_reducible repeat (first | refine blk_drewN ?_ _ | refine blk_drew ?_ | refine blk_alloc ?_ _)); exact BK186.out) hb); replace HB := Aside0.mk (below_step (TB3 GE184.out GE185.out GE186.out) hb); (try clear hb); (try clear hb2); (try clear hk); (try clear hi)) | ((with_reducible refine gate_callee (f := 22) rfl ?_); refine goesL_ (some 28) rfl rfl Tryd.func22 (by kernel_rfl) rfl #[] rfl TM ?_; (with_reducible refine (saronlaw03_filed.calls  t188 _ ?side1 A147.out).mono ?_); (case side1 => exact Glob.fr HG.out (Fr.of_below (TB3 GE184.out GE185.out GE186.out))); rintro e w155 ⟨rfl, hb⟩; refine ⟨_, rfl, ?_⟩; replace BK184 := Aside0.mk (blk_below (g := gb184) (o := .cells #[.slice A0_0 l0_0.length c0_0, .int .i64 a0_1, .int .i64 a0_2, .slice A0_3 l0_3.length c0_3] 27 (0, 0)) (by (with_reducible repeat (first | refine blk_drewN ?_ _ | refine blk_drew ?_ | refine blk_alloc ?_ _)); exact BK184.out) hb); replace BK185 := Aside0.mk (blk_below (g := gb185) (o := .cells #[.int .i64 a1_0, .int .i64 a1_1, .int .i64 a1_2] 57 (0, 0)) (by (with_reducible repeat (first | refine blk_drewN ?_ _ | refine blk_drew ?_ | refine blk_alloc ?_ _)); exact BK185.out) hb); replace BK186 := Aside0.mk (blk_below (g := gb186) (o := .cells #[.int .i64 a2_0, .int .i64 a2_1] 28 (0, 0)) (by (with_reducible repeat (first | refine blk_drewN ?_ _ | refine blk_drew ?_ | refine blk_alloc ?_ _)); exact BK186.out) hb); replace HB := Aside0.mk (below_step (TB3 GE184.out GE185.out GE186.out) hb); (try clear hb); (try clear hb2); (try clear hk); (try clear hi)))
  go_ret
  exact ⟨TR, TB3 GE184.out GE185.out GE186.out⟩
end Go.Proofs.YtfmpbkolpjlfbaaDoor.PRaspKeys
