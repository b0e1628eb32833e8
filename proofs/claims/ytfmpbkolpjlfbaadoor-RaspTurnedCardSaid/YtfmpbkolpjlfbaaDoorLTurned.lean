import Derived.Test.YtfmpbkolpjlfbaaDoorG5
import Derived.Test.YtfmpbkolpjlfbaaDoorCS
import Derived.Test.YtfmpbkolpjlfbaaDoorCH
import Derived.Test.YtfmpbkolpjlfbaaDoorM0
import Derived.Test.YtfmpbkolpjlfbaaDoorProg
import Derived.Below
import Derived.Deep.Draws
import Derived.Deep.AppendLies
import Derived.Maps.AppendAt
import Derived.OwnWalk
import Derived.Laws.BytesArg
import Derived.Laws.MakeOwn
import Derived.Laws.OwnMore
import Derived.Deep.OwnRows
import Derived.Tactics
import Derived.Lib.ConvBytes
import Derived.Laws.Slices
import Derived.WalkKit
import Derived.KernelRfl
import Derived.RowKit3
import Derived.Deep.LoopGhost
import Derived.Deep.QuietTactic
import Derived.BigQuiet
import Derived.WideLaws
import Derived.Deep.DeepCutAuto
import Derived.Deep.CutBlock
import Derived.Deep.RegionHeld3
import Derived.Laws.Rows
import Derived.Lib.AppendStr
import Derived.ArgAppend
import Derived.Laws.IdiomCopy
import Derived.OrdersHeld
import Derived.Laws.BitsLemmas
import Derived.RowKit
set_option linter.unusedVariables false
set_option linter.unusedSimpArgs false
namespace Go.Proofs.YtfmpbkolpjlfbaaDoor.M
open Go.RowKit Go.Proofs.YtfmpbkolpjlfbaaDoorW.PrintWords Go.Proofs.YtfmpbkolpjlfbaaDoorW.PrintLast
theorem czz {w : World} {g : Nat} {cs : Array Value} {t : TypeId} {v : Value} (h : w.heap[g]? = some (.cells cs t (0, 0))) (i : Nat) (hv : cs[i]? = some v := by (first | (simp only [List.getElem?_toArray, List.getElem?_cons_zero, List.getElem?_cons_succ]; rfl) | exact rfl)) : w.cell? ⟨g, i, none⟩ = some v := (blk_cell h i).trans hv
end Go.Proofs.YtfmpbkolpjlfbaaDoor.M
namespace Go.Proofs.YtfmpbkolpjlfbaaDoor.PRaspKeys
open Go.RowKit Go.Proofs.YtfmpbkolpjlfbaaDoorW.PrintWords Go.Proofs.YtfmpbkolpjlfbaaDoorW.PrintLast Go.Proofs.YtfmpbkolpjlfbaaDoorW.PrintMore Go.Proofs.YtfmpbkolpjlfbaaDoor.M
attribute [local go_sem] max2_int min2_int max_two min_two max_three min_three max_four min_four   -- for this text's walks alone
/-! #### struct type 24 -/
/-! #### struct type 57 -/
/-! #### struct type 69 -/
end Go.Proofs.YtfmpbkolpjlfbaaDoor.PRaspKeys
namespace Go.Proofs.YtfmpbkolpjlfbaaDoor.PRaspKeys
open Go.RowKit Go.Proofs.YtfmpbkolpjlfbaaDoorW.PrintWords Go.Proofs.YtfmpbkolpjlfbaaDoorW.PrintLast Go.Proofs.YtfmpbkolpjlfbaaDoorW.PrintMore Go.Proofs.YtfmpbkolpjlfbaaDoor.M
attribute [local go_sem] max2_int min2_int max_two min_two max_three min_three max_four min_four   -- for this text's walks alone
end Go.Proofs.YtfmpbkolpjlfbaaDoor.PRaspKeys
namespace Go.Proofs.YtfmpbkolpjlfbaaDoor.PRaspKeys
open Go.RowKit Go.Proofs.YtfmpbkolpjlfbaaDoorW.PrintWords Go.Proofs.YtfmpbkolpjlfbaaDoorW.PrintLast Go.Proofs.YtfmpbkolpjlfbaaDoorW.PrintMore Go.Proofs.YtfmpbkolpjlfbaaDoor.M
attribute [local go_sem] max2_int min2_int max_two min_two max_three min_three max_four min_four   -- for this text's walks alone
/-! ### saronlaw03_RaspTurned: function 13 -/
mutual
def saronlaw03_RaspTurned.l0 : Nat → Int → List (S57) → Int → Int → List (S69) → Int → Int → List (S57) → Int → Int → Option (Bool)
 | 0, _, _, _, _, _, _, _, _, _, _ => none
 | k + 1, x6, x183000, x183001, x183002, x183003, x184000, x184001, x189000, x189001, x189002 => if x6 < (x183000.length : Int) then (if 0 ≤ x6 then ((saronref00_Band.f (wrap64 (-((rd_T57 x183000 x6).f0.f1))) (wrap64 (-((rd_T57 x183000 x6).f0.f0)))).bind fun bt191 => (if x189000.length < 5864062014805 then (saronlaw03_RaspTurned.l0 k (wrap64 (x6 + 1)) x183000 x183001 x183002 x183003 x184000 x184001 (x189000 ++ [(⟨(⟨bt191.1, bt191.2⟩ : S24), (rd_T57 x183000 x6).f1⟩ : S57)]) x189001 x189002) else (none))) else (none)) else (saronlaw03_RaspTurned.l1 k 0 x183000 x183001 x183002 x183003 x184000 x184001 x189000 x189001 x189002 ([] : List (S69)))
def saronlaw03_RaspTurned.l1 : Nat → Int → List (S57) → Int → Int → List (S69) → Int → Int → List (S57) → Int → Int → List (S69) → Option (Bool)
 | 0, _, _, _, _, _, _, _, _, _, _, _ => none
 | k + 1, x7, x183000, x183001, x183002, x183003, x184000, x184001, x189000, x189001, x189002, x189003 => if x7 < (x183003.length : Int) then (if 0 ≤ x7 then ((saronlaw03_key.f (wrap64 (-((rd_T69 x183003 x7).f0.f1))) (wrap64 (-((rd_T69 x183003 x7).f0.f0))) ((rd_T69 x183003 x7).f1)).bind fun bt200 => (if x189003.length < 5864062014805 then (saronlaw03_RaspTurned.l1 k (wrap64 (x7 + 1)) x183000 x183001 x183002 x183003 x184000 x184001 x189000 x189001 x189002 (x189003 ++ [(⟨(⟨bt200.1, bt200.2.1⟩ : S24), bt200.2.2⟩ : S69)])) else (none))) else (none)) else ((saronlaw03_state.f x184000 x184001).bind fun bt206 => ((rasp_Next.f x183000 x183001 x183002 x183003 bt206.1 bt206.2).bind fun bt208 => ((rasp_Next.f x189000 x189001 x189002 x189003 (wrap64 (-bt206.1)) bt206.2).bind fun bt211 => ((rasp_Need.f x183000 x183001 x183002 x183003 bt206.1).bind fun bt214 => ((rasp_Need.f x189000 x189001 x189002 x189003 (wrap64 (-bt206.1))).bind fun bt216 => (if bt208.1 = bt211.1 then (if bt208.2.1 = bt211.2.1 then (if bt208.2.2 = bt211.2.2 then (if bt214.1 = bt216.1 then (saronlaw03_RaspTurned.j2 k bt206.1 bt206.2 (bt214.2 != bt216.2) x183000 x183001 x183002 x183003 x189000 x189001 x189002 x189003) else (saronlaw03_RaspTurned.j2 k bt206.1 bt206.2 true x183000 x183001 x183002 x183003 x189000 x189001 x189002 x189003)) else (saronlaw03_RaspTurned.j2 k bt206.1 bt206.2 true x183000 x183001 x183002 x183003 x189000 x189001 x189002 x189003)) else (saronlaw03_RaspTurned.j2 k bt206.1 bt206.2 true x183000 x183001 x183002 x183003 x189000 x189001 x189002 x189003)) else (saronlaw03_RaspTurned.j2 k bt206.1 bt206.2 true x183000 x183001 x183002 x183003 x189000 x189001 x189002 x189003)))))))
def saronlaw03_RaspTurned.j2 : Nat → Int → Int → Bool → List (S57) → Int → Int → List (S69) → List (S57) → Int → Int → List (S69) → Option (Bool)
 | 0, _, _, _, _, _, _, _, _, _, _, _ => none
 | k + 1, x8, x9, x164, x183000, x183001, x183002, x183003, x189000, x189001, x189002, x189003 => if x164 = true then (some false) else ((rasp_Lucky.f x183000 x183001 x183002 x183003 x8 x9).bind fun bt218 => ((rasp_Lucky.f x189000 x189001 x189002 x189003 (wrap64 (-x8)) x9).bind fun bt220 => ((rasp_Spoilt.f x183000 x183001 x183002 x183003).bind fun bt222 => ((rasp_Spoilt.f x189000 x189001 x189002 x189003).bind fun bt226 => (if bt218.1 = bt220.1 then (if bt218.2 = bt220.2 then ((saronref00_Equal.f k bt222.1 bt226.1).bind fun t230 => (if t230 = true then (if bt222.2 = bt226.2 then ((saronlaw03_filed.f).bind fun t231 => (some t231)) else (some false)) else (some false))) else (some false)) else (some false))))))
end
def saronlaw03_RaspTurned.f (k : Nat) (l0_0 : List (S57)) (a0_1 : Int) (a0_2 : Int) (l0_3 : List (S69)) (a1_0 : Int) (a1_1 : Int) : Option (Bool) := (saronlaw03_sound.f k l0_0 a0_1 a0_2 l0_3).bind fun t184 => (if t184 = true then ((saronref00_Band.f (wrap64 (-a0_2)) (wrap64 (-a0_1))).bind fun bt186 => (saronlaw03_RaspTurned.l0 k 0 l0_0 a0_1 a0_2 l0_3 a1_0 a1_1 ([] : List (S57)) bt186.1 bt186.2)) else ((saronlaw03_filed.f).bind fun t185 => (some t185)))
theorem saronlaw03_RaspTurned.mono_l : ∀ k, (∀ y0 y1 y2 y3 y4 y5 y6 y7 y8 y9, LeO (saronlaw03_RaspTurned.l0 k y0 y1 y2 y3 y4 y5 y6 y7 y8 y9) (saronlaw03_RaspTurned.l0 (k + 1) y0 y1 y2 y3 y4 y5 y6 y7 y8 y9)) ∧ (∀ y0 y1 y2 y3 y4 y5 y6 y7 y8 y9 y10, LeO (saronlaw03_RaspTurned.l1 k y0 y1 y2 y3 y4 y5 y6 y7 y8 y9 y10) (saronlaw03_RaspTurned.l1 (k + 1) y0 y1 y2 y3 y4 y5 y6 y7 y8 y9 y10)) ∧ (∀ y0 y1 y2 y3 y4 y5 y6 y7 y8 y9 y10, LeO (saronlaw03_RaspTurned.j2 k y0 y1 y2 y3 y4 y5 y6 y7 y8 y9 y10) (saronlaw03_RaspTurned.j2 (k + 1) y0 y1 y2 y3 y4 y5 y6 y7 y8 y9 y10))
 | 0 => ⟨fun _ _ _ _ _ _ _ _ _ _ r h => by simp [saronlaw03_RaspTurned.l0] at h, fun _ _ _ _ _ _ _ _ _ _ _ r h => by simp [saronlaw03_RaspTurned.l1] at h, fun _ _ _ _ _ _ _ _ _ _ _ r h => by simp [saronlaw03_RaspTurned.j2] at h⟩
 | k + 1 => by
  obtain ⟨ih0, ih1, ih2⟩ := saronlaw03_RaspTurned.mono_l k
  refine ⟨?_, ?_, ?_⟩
  ·intro y0 y1 y2 y3 y4 y5 y6 y7 y8 y9
   unfold saronlaw03_RaspTurned.l0
   repeat' first
   | (with_reducible exact ih0 _ _ _ _ _ _ _ _ _ _)
   | (with_reducible exact ih1 _ _ _ _ _ _ _ _ _ _ _)
   | (with_reducible exact ih2 _ _ _ _ _ _ _ _ _ _ _)
   | (with_reducible exact saronlaw03_sound.mono _ _ _ _ _)
   | (with_reducible exact saronref00_Equal.mono _ _ _)
   | (with_reducible exact LeO.refl _)
   | (with_reducible exact LeO.none _)
   | (with_reducible refine LeO.ite ?_ ?_)
   | (with_reducible refine LeO.bind ?_ (fun _ => ?_))
   | exact ih0 _ _ _ _ _ _ _ _ _ _
   | exact ih1 _ _ _ _ _ _ _ _ _ _ _
   | exact ih2 _ _ _ _ _ _ _ _ _ _ _
   | exact saronlaw03_sound.mono _ _ _ _ _
   | exact saronref00_Equal.mono _ _ _
   | exact LeO.none _
   | refine LeO.ite ?_ ?_
   | refine LeO.bind ?_ (fun _ => ?_)
  ·intro y0 y1 y2 y3 y4 y5 y6 y7 y8 y9 y10
   unfold saronlaw03_RaspTurned.l1
   repeat' first
   | (with_reducible exact ih0 _ _ _ _ _ _ _ _ _ _)
   | (with_reducible exact ih1 _ _ _ _ _ _ _ _ _ _ _)
   | (with_reducible exact ih2 _ _ _ _ _ _ _ _ _ _ _)
   | (with_reducible exact saronlaw03_sound.mono _ _ _ _ _)
   | (with_reducible exact saronref00_Equal.mono _ _ _)
   | (with_reducible exact LeO.refl _)
   | (with_reducible exact LeO.none _)
   | (with_reducible refine LeO.ite ?_ ?_)
   | (with_reducible refine LeO.bind ?_ (fun _ => ?_))
   | exact ih0 _ _ _ _ _ _ _ _ _ _
   | exact ih1 _ _ _ _ _ _ _ _ _ _ _
   | exact ih2 _ _ _ _ _ _ _ _ _ _ _
   | exact saronlaw03_sound.mono _ _ _ _ _
   | exact saronref00_Equal.mono _ _ _
   | exact LeO.none _
   | refine LeO.ite ?_ ?_
   | refine LeO.bind ?_ (fun _ => ?_)
  ·intro y0 y1 y2 y3 y4 y5 y6 y7 y8 y9 y10
   unfold saronlaw03_RaspTurned.j2
   repeat' first
   | (with_reducible exact ih0 _ _ _ _ _ _ _ _ _ _)
   | (with_reducible exact ih1 _ _ _ _ _ _ _ _ _ _ _)
   | (with_reducible exact ih2 _ _ _ _ _ _ _ _ _ _ _)
   | (with_reducible exact saronlaw03_sound.mono _ _ _ _ _)
   | (with_reducible exact saronref00_Equal.mono _ _ _)
   | (with_reducible exact LeO.refl _)
   | (with_reducible exact LeO.none _)
   | (with_reducible refine LeO.ite ?_ ?_)
   | (with_reducible refine LeO.bind ?_ (fun _ => ?_))
   | exact ih0 _ _ _ _ _ _ _ _ _ _
   | exact ih1 _ _ _ _ _ _ _ _ _ _ _
   | exact ih2 _ _ _ _ _ _ _ _ _ _ _
   | exact saronlaw03_sound.mono _ _ _ _ _
   | exact saronref00_Equal.mono _ _ _
   | exact LeO.none _
   | refine LeO.ite ?_ ?_
   | refine LeO.bind ?_ (fun _ => ?_)
theorem saronlaw03_RaspTurned.mono : ∀ a0 a1 a2 a3 a4 a5 k, LeO (saronlaw03_RaspTurned.f k a0 a1 a2 a3 a4 a5) (saronlaw03_RaspTurned.f (k + 1) a0 a1 a2 a3 a4 a5) := by
 intro a0 a1 a2 a3 a4 a5 k
 obtain ⟨ih0, ih1, ih2⟩ := saronlaw03_RaspTurned.mono_l k
 unfold saronlaw03_RaspTurned.f
 repeat' first
   | (with_reducible exact ih0 _ _ _ _ _ _ _ _ _ _)
   | (with_reducible exact ih1 _ _ _ _ _ _ _ _ _ _ _)
   | (with_reducible exact ih2 _ _ _ _ _ _ _ _ _ _ _)
   | (with_reducible exact saronlaw03_sound.mono _ _ _ _ _)
   | (with_reducible exact saronref00_Equal.mono _ _ _)
   | (with_reducible exact LeO.refl _)
   | (with_reducible exact LeO.none _)
   | (with_reducible refine LeO.ite ?_ ?_)
   | (with_reducible refine LeO.bind ?_ (fun _ => ?_))
   | exact ih0 _ _ _ _ _ _ _ _ _ _
   | exact ih1 _ _ _ _ _ _ _ _ _ _ _
   | exact ih2 _ _ _ _ _ _ _ _ _ _ _
   | exact saronlaw03_sound.mono _ _ _ _ _
   | exact saronref00_Equal.mono _ _ _
   | exact LeO.none _
   | refine LeO.ite ?_ ?_
   | refine LeO.bind ?_ (fun _ => ?_)
def saronlaw03_RaspTurned.T7 : Bool × List (List Nat × List Nat) := (true, [([], []), ([0], [0]), ([], []), ([2], [2]), ([], []), ([3, 4], [3, 4]), ([5], [5]), ([6], [6]), ([7], [7]), ([8], [8]), ([], []), ([10], [10]), ([], []), ([11, 12], [11, 12]), ([13], [13]), ([14], [14]), ([15], [15]), ([16], [16]), ([9, 17], [9, 17]), ([], []), ([19], [19]), ([], []), ([20, 21], [20, 21]), ([22], [22]), ([23], [23]), ([18, 24], [18, 24]), ([25], [25]), ([1, 26, 18], [1, 26]), ([0, 1, 2, 3, 4, 5, 6, 7, 8, 9, 10, 11, 12, 13, 14, 15, 16, 17, 18, 19, 20, 21, 22, 23, 24, 25, 26, 27], []), ([28, 27, 27, 0, 1, 2, 3, 4, 5, 6, 7, 8, 9, 10, 11, 12, 13, 14, 15, 16, 17, 18, 19, 20, 21, 22, 23, 24, 25, 26, 27], [27, 28])])
def saronlaw03_RaspTurned.B7 : List Nat := [0, 1, 0, 4, 0, 28, 60, 124, 252, 508, 0, 1024, 0, 7168, 15360, 31744, 64512, 130048, 262140, 0, 524288, 0, 3670016, 7864320, 16252928, 33554428, 67108860, 134217727, 268435455, 536870911]
theorem saronlaw03_RaspTurned.tab7 : rtab .any (opsOf Tryd.f13 7) = saronlaw03_RaspTurned.T7 := by kernel_rfl
theorem saronlaw03_RaspTurned.bits7 : waitsOk saronlaw03_RaspTurned.T7.2 saronlaw03_RaspTurned.B7 = true := by kernel_rfl
def saronlaw03_RaspTurned.T11 : Bool × List (List Nat × List Nat) := (true, [([], []), ([0], [0]), ([], []), ([2], [2]), ([], []), ([3, 4], [3, 4]), ([5], [5]), ([6], [6]), ([7], [7]), ([8], [8]), ([], []), ([10], [10]), ([], []), ([11, 12], [11, 12]), ([13], [13]), ([14], [14]), ([15], [15]), ([16], [16]), ([], []), ([18], [18]), ([], []), ([19, 20], [19, 20]), ([21], [21]), ([22], [22]), ([9, 17, 23], [9, 17, 23]), ([24], [24]), ([1, 25, 24], [1, 25]), ([0, 1, 2, 3, 4, 5, 6, 7, 8, 9, 10, 11, 12, 13, 14, 15, 16, 17, 18, 19, 20, 21, 22, 23, 24, 25, 26], []), ([27, 26, 26, 0, 1, 2, 3, 4, 5, 6, 7, 8, 9, 10, 11, 12, 13, 14, 15, 16, 17, 18, 19, 20, 21, 22, 23, 24, 25, 26], [26, 27])])
def saronlaw03_RaspTurned.B11 : List Nat := [0, 1, 0, 4, 0, 28, 60, 124, 252, 508, 0, 1024, 0, 7168, 15360, 31744, 64512, 130048, 0, 262144, 0, 1835008, 3932160, 8126464, 16777212, 33554428, 67108863, 134217727, 268435455]
theorem saronlaw03_RaspTurned.tab11 : rtab .any (opsOf Tryd.f13 11) = saronlaw03_RaspTurned.T11 := by kernel_rfl
theorem saronlaw03_RaspTurned.bits11 : waitsOk saronlaw03_RaspTurned.T11.2 saronlaw03_RaspTurned.B11 = true := by kernel_rfl
set_option maxHeartbeats 8000000 in
set_option maxRecDepth 100000 in
theorem saronlaw03_RaspTurned.calls (k : Nat) (A0_0 : Option Addr) (c0_0 : Nat) (l0_0 : List (S57)) (a0_1 : Int) (a0_2 : Int) (A0_3 : Option Addr) (c0_3 : Nat) (l0_3 : List (S69)) (a1_0 : Int) (a1_1 : Int) (r : Bool) (w : World) (hr0_0 : Kd.C k57 w A0_0 l0_0.length l0_0) (hc0_0 : l0_0.length ≤ c0_0) (hr0_3 : Kd.C k69 w A0_3 l0_3.length l0_3) (hc0_3 : l0_3.length ≤ c0_3) (hG : Glob w) (h : saronlaw03_RaspTurned.f k l0_0 a0_1 a0_2 l0_3 a1_0 a1_1 = some r) :
  Calls Tryd.prog 13 #[.agg #[.slice A0_0 l0_0.length c0_0, .int .i64 a0_1, .int .i64 a0_2, .slice A0_3 l0_3.length c0_3], .agg #[.int .i64 a1_0, .int .i64 a1_1]] w fun e w' => e = .returned (.bool r) ∧ Below w.heap.size w w' := by
 have hu27 := Tryd.underlying27
 have hu28 := Tryd.underlying28
 have hu57 := Tryd.underlying57
 have HR0_0 := Aside0.mk hr0_0
 have HC0_0 := Aside0.mk hc0_0
 clear hr0_0 hc0_0
 have HR0_3 := Aside0.mk hr0_3
 have HC0_3 := Aside0.mk hc0_3
 clear hr0_3 hc0_3
 have HB := Aside0.mk (Below.refl w.heap.size w)
 have HG := Aside0.mk hG
 clear hG
 have H : ((saronlaw03_sound.f k l0_0 a0_1 a0_2 l0_3).bind fun t184 => (if t184 = true then ((saronref00_Band.f (wrap64 (-a0_2)) (wrap64 (-a0_1))).bind fun bt186 => (saronlaw03_RaspTurned.l0 k 0 l0_0 a0_1 a0_2 l0_3 a1_0 a1_1 ([] : List (S57)) bt186.1 bt186.2)) else ((saronlaw03_filed.f).bind fun t185 => (some t185)))) = some r := h
 clear h
 replace H := Option.bind_eq_some_iff.mp H
 obtain ⟨t184, A30, H⟩ := H
 replace H : (if t184 = true then ((saronref00_Band.f (wrap64 (-a0_2)) (wrap64 (-a0_1))).bind fun bt186 => (saronlaw03_RaspTurned.l0 k 0 l0_0 a0_1 a0_2 l0_3 a1_0 a1_1 ([] : List (S57)) bt186.1 bt186.2)) else ((saronlaw03_filed.f).bind fun t185 => (some t185))) = some r := H
 have A3 := Aside0.mk A30
 clear A30
 by_cases c4 : t184 = true
 ·subst c4
  have H1 : ((saronref00_Band.f (wrap64 (-a0_2)) (wrap64 (-a0_1))).bind fun bt186 => (saronlaw03_RaspTurned.l0 k 0 l0_0 a0_1 a0_2 l0_3 a1_0 a1_1 ([] : List (S57)) bt186.1 bt186.2)) = some r := by rw [if_pos rfl] at H; exact H
  clear H
  have H := H1
  clear H1
  replace H := Option.bind_eq_some_iff.mp H
  obtain ⟨⟨t186, t187⟩, A50, H⟩ := H
  replace H : (saronlaw03_RaspTurned.l0 k 0 l0_0 a0_1 a0_2 l0_3 a1_0 a1_1 ([] : List (S57)) t186 t187) = some r := H
  have A5 := Aside0.mk A50
  clear A50
  have H' := Aside0.mk H
  clear H
  go_enter Tryd.func13, Tryd.ntmps13
  go_wp2_with (first | ((with_reducible refine gate_dst (N := 2) rfl ?_); refine box_event ?hg (N := 2) ?hd (cs := #[.slice A0_0 l0_0.length c0_0, .int .i64 a0_1, .int .i64 a0_2, .slice A0_3 l0_3.length c0_3]) (t := 27) ?hr ?_; (case hd => rfl); (case hg => rfl); (case hr => exact TS); intro gb182 hg w6 hbox hb; have BK182 := Aside0.mk (hbox); have GW182 := Aside0.mk ((TG : w.heap.size ≤ gb182)); have GE182 := Aside0.mk ((TG : w.heap.size ≤ gb182)); replace HB := Aside0.mk (below_step TB hb); clear hb hbox hg) | ((with_reducible refine gate_dst (N := 3) rfl ?_); refine box_event ?hg (N := 3) ?hd (cs := #[.int .i64 a1_0, .int .i64 a1_1]) (t := 28) ?hr ?_; (case hd => rfl); (case hg => rfl); (case hr => exact TS); intro gb183 hg w7 hbox hb; have BK183 := Aside0.mk (hbox); have GW183 := Aside0.mk ((TG1 GE182.out : w.heap.size ≤ gb183)); have GE183 := Aside0.mk ((TG1 GE182.out : w.heap.size ≤ gb183)); have NB182_183 := Aside0.mk ((by rw [hg]; exact Nat.ne_of_lt (blk_lt (g := gb182) (o := .cells #[.slice A0_0 l0_0.length c0_0, .int .i64 a0_1, .int .i64 a0_2, .slice A0_3 l0_3.length c0_3] 27 (0, 0)) (by (with_reducible repeat (first | refine blk_drewN ?_ _ | refine blk_drew ?_ | refine blk_alloc ?_ _)); exact BK182.out)) : gb182 ≠ gb183)); have NB183_182 := Aside0.mk ((by rw [hg]; exact Nat.ne_of_gt (blk_lt (g := gb182) (o := .cells #[.slice A0_0 l0_0.length c0_0, .int .i64 a0_1, .int .i64 a0_2, .slice A0_3 l0_3.length c0_3] 27 (0, 0)) (by (with_reducible repeat (first | refine blk_drewN ?_ _ | refine blk_drew ?_ | refine blk_alloc ?_ _)); exact BK182.out)) : gb183 ≠ gb182)); replace BK182 := Aside0.mk (blk_below (g := gb182) (o := .cells #[.slice A0_0 l0_0.length c0_0, .int .i64 a0_1, .int .i64 a0_2, .slice A0_3 l0_3.length c0_3] 27 (0, 0)) (by (with_reducible repeat (first | refine blk_drewN ?_ _ | refine blk_drew ?_ | refine blk_alloc ?_ _)); exact BK182.out) hb); replace HB := Aside0.mk (below_step (TB1 GE182.out) hb); clear hb hbox hg; have hnb8 := NB182_183.out; have hnc8 := NB183_182.out; have hcz9_0 := czz BK182.out 0; have hcz9_1 := czz BK182.out 1; have hcz9_2 := czz BK182.out 2; have hcz9_3 := czz BK182.out 3; have hfz9_0 := fz BK182.out 0; have hfz9_1 := fz BK182.out 1; have hfz9_2 := fz BK182.out 2; have hfz9_3 := fz BK182.out 3) | ((with_reducible refine gate_callee (f := 37) rfl ?_); refine goesL_ (some 23) rfl rfl Tryd.func37 (by kernel_rfl) rfl #[.agg #[.slice A0_0 l0_0.length c0_0, .int .i64 a0_1, .int .i64 a0_2, .slice A0_3 l0_3.length c0_3]] rfl TM ?_; (with_reducible refine (saronlaw03_sound.calls k _ _ l0_0 a0_1 a0_2 _ _ l0_3 true _ ?side1 ?side2 ?side3 ?side4 A3.out).mono ?_); (case side1 => exact TC HR0_0.out); (case side2 => exact HC0_0.out); (case side3 => exact TC HR0_3.out); (case side4 => exact HC0_3.out); rintro e w10 ⟨rfl, hb⟩; refine ⟨_, rfl, ?_⟩; replace BK182 := Aside0.mk (blk_below (g := gb182) (o := .cells #[.slice A0_0 l0_0.length c0_0, .int .i64 a0_1, .int .i64 a0_2, .slice A0_3 l0_3.length c0_3] 27 (0, 0)) (by (with_reducible repeat (first | refine blk_drewN ?_ _ | refine blk_drew ?_ | refine blk_alloc ?_ _)); exact BK182.out) hb); replace BK183 := Aside0.mk (blk_below (g := gb183) (o := .cells #[.int .i64 a1_0, .int .i64 a1_1] 28 (0, 0)) (by (with_reducible repeat (first | refine blk_drewN ?_ _ | refine blk_drew ?_ | refine blk_alloc ?_ _)); exact BK183.out) hb); replace HB := Aside0.mk (below_step (TB2 GE182.out GE183.out) hb); (try clear hb); (try clear hb2); (try clear hk); (try clear hi); have hcz11_0 := czz BK182.out 0; have hcz11_1 := czz BK182.out 1; have hcz11_2 := czz BK182.out 2; have hcz11_3 := czz BK182.out 3; have hfz11_0 := fz BK182.out 0; have hfz11_1 := fz BK182.out 1; have hfz11_2 := fz BK182.out 2; have hfz11_3 := fz BK182.out 3) | ((with_reducible refine gate_callee (f := 44) rfl ?_); refine goesL_ (some 34) rfl rfl Tryd.func44 (by kernel_rfl) rfl #[.int .i64 (wrap64 (-a0_2)), .int .i64 (wrap64 (-a0_1))] rfl TM ?_; (with_reducible refine (saronref00_Band.calls (wrap64 (-a0_2)) (wrap64 (-a0_1)) t186 t187 _ A5.out).mono ?_); rintro e w12 ⟨rfl, hb⟩; refine ⟨_, rfl, ?_⟩; replace BK182 := Aside0.mk (blk_below (g := gb182) (o := .cells #[.slice A0_0 l0_0.length c0_0, .int .i64 a0_1, .int .i64 a0_2, .slice A0_3 l0_3.length c0_3] 27 (0, 0)) (by (with_reducible repeat (first | refine blk_drewN ?_ _ | refine blk_drew ?_ | refine blk_alloc ?_ _)); exact BK182.out) hb); replace BK183 := Aside0.mk (blk_below (g := gb183) (o := .cells #[.int .i64 a1_0, .int .i64 a1_1] 28 (0, 0)) (by (with_reducible repeat (first | refine blk_drewN ?_ _ | refine blk_drew ?_ | refine blk_alloc ?_ _)); exact BK183.out) hb); replace HB := Aside0.mk (below_step (TB2 GE182.out GE183.out) hb); (try clear hb); (try clear hb2); (try clear hk); (try clear hi)) | ((with_reducible refine gate_dst (N := 5) rfl ?_); refine box_event ?hg (N := 5) ?hd (cs := #[.slice none 0 0, .int .i64 0, .int .i64 0, .slice none 0 0]) (t := 27) ?hr ?_; (case hd => rfl); (case hg => rfl); (case hr => exact TS); intro gb188 hg w13 hbox hb; have BK188 := Aside0.mk (hbox); have GW188 := Aside0.mk ((TG2 GE182.out GE183.out : w.heap.size ≤ gb188)); have GE188 := Aside0.mk ((TG2 GE182.out GE183.out : w.heap.size ≤ gb188)); have NB182_188 := Aside0.mk ((by rw [hg]; exact Nat.ne_of_lt (blk_lt (g := gb182) (o := .cells #[.slice A0_0 l0_0.length c0_0, .int .i64 a0_1, .int .i64 a0_2, .slice A0_3 l0_3.length c0_3] 27 (0, 0)) (by (with_reducible repeat (first | refine blk_drewN ?_ _ | refine blk_drew ?_ | refine blk_alloc ?_ _)); exact BK182.out)) : gb182 ≠ gb188)); have NB188_182 := Aside0.mk ((by rw [hg]; exact Nat.ne_of_gt (blk_lt (g := gb182) (o := .cells #[.slice A0_0 l0_0.length c0_0, .int .i64 a0_1, .int .i64 a0_2, .slice A0_3 l0_3.length c0_3] 27 (0, 0)) (by (with_reducible repeat (first | refine blk_drewN ?_ _ | refine blk_drew ?_ | refine blk_alloc ?_ _)); exact BK182.out)) : gb188 ≠ gb182)); have NB183_188 := Aside0.mk ((by rw [hg]; exact Nat.ne_of_lt (blk_lt (g := gb183) (o := .cells #[.int .i64 a1_0, .int .i64 a1_1] 28 (0, 0)) (by (with_reducible repeat (first | refine blk_drewN ?_ _ | refine blk_drew ?_ | refine blk_alloc ?_ _)); exact BK183.out)) : gb183 ≠ gb188)); have NB188_183 := Aside0.mk ((by rw [hg]; exact Nat.ne_of_gt (blk_lt (g := gb183) (o := .cells #[.int .i64 a1_0, .int .i64 a1_1] 28 (0, 0)) (by (with_reducible repeat (first | refine blk_drewN ?_ _ | refine blk_drew ?_ | refine blk_alloc ?_ _)); exact BK183.out)) : gb188 ≠ gb183)); replace BK182 := Aside0.mk (blk_below (g := gb182) (o := .cells #[.slice A0_0 l0_0.length c0_0, .int .i64 a0_1, .int .i64 a0_2, .slice A0_3 l0_3.length c0_3] 27 (0, 0)) (by (with_reducible repeat (first | refine blk_drewN ?_ _ | refine blk_drew ?_ | refine blk_alloc ?_ _)); exact BK182.out) hb); replace BK183 := Aside0.mk (blk_below (g := gb183) (o := .cells #[.int .i64 a1_0, .int .i64 a1_1] 28 (0, 0)) (by (with_reducible repeat (first | refine blk_drewN ?_ _ | refine blk_drew ?_ | refine blk_alloc ?_ _)); exact BK183.out) hb); replace HB := Aside0.mk (below_step (TB2 GE182.out GE183.out) hb); clear hb hbox hg; have hnb14 := NB188_182.out; have hnc14 := NB182_188.out; have hnb15 := NB188_183.out; have hnc15 := NB183_188.out; have hcz16_0 := czz BK188.out 0; have hcz16_1 := czz BK188.out 1; have hcz16_2 := czz BK188.out 2; have hcz16_3 := czz BK188.out 3; have hfz16_0 := fz BK188.out 0; have hfz16_1 := fz BK188.out 1; have hfz16_2 := fz BK188.out 2; have hfz16_3 := fz BK188.out 3))
  go_loopg [6] k (fun kq v6 w' => ∃ (x6_1 : Int) (x189000_1 : List (S57)) (u189000 : Value), v6 = .int .i64 x6_1 ∧ Aside0 (saronlaw03_RaspTurned.l0 kq x6_1 l0_0 a0_1 a0_2 l0_3 a1_0 a1_1 x189000_1 t186 t187 = some r) ∧ Aside0 (kq ≤ k) ∧ Aside0 (Kd.R k57 57 w' w.heap.size (fun _ => True) u189000 x189000_1) ∧ Aside0 (w'.heap[gb182]? = some (.cells #[(.slice A0_0 l0_0.length c0_0), .int .i64 a0_1, .int .i64 a0_2, (.slice A0_3 l0_3.length c0_3)] 27 (0, 0))) ∧ Aside0 (w'.heap[gb183]? = some (.cells #[.int .i64 a1_0, .int .i64 a1_1] 28 (0, 0))) ∧ Aside0 (w'.heap[gb188]? = some (.cells #[u189000, .int .i64 t186, .int .i64 t187, (.slice none 0 0)] 27 (0, 0))) ∧ Aside0 (Below w.heap.size w w'))
  case atStart => exact ⟨(0), (([] : List (S57))), (.slice none 0 0), TT, H', ⟨Nat.le_refl _⟩, ⟨by first | exact Kd.R_nil _ _ _ _ _ | exact Kd.N_nil _ _ _ _ _ | exact Kd.V_nil _ _ _ _ _ | exact Kd.Q_nil _ _ _ _ _ | exact Kd.S_nil _ _ _ _ _⟩, ⟨by (with_reducible repeat (first | refine blk_drewN ?_ _ | refine blk_drew ?_ | refine blk_alloc ?_ _)); refine blk_far ?_ NB182_188.out _; (with_reducible repeat (first | refine blk_drewN ?_ _ | refine blk_drew ?_ | refine blk_alloc ?_ _)); refine blk_far ?_ NB182_188.out _; (with_reducible repeat (first | refine blk_drewN ?_ _ | refine blk_drew ?_ | refine blk_alloc ?_ _)); refine blk_far ?_ NB182_188.out _; (with_reducible repeat (first | refine blk_drewN ?_ _ | refine blk_drew ?_ | refine blk_alloc ?_ _)); refine blk_far ?_ NB182_188.out _; (with_reducible repeat (first | refine blk_drewN ?_ _ | refine blk_drew ?_ | refine blk_alloc ?_ _)); exact BK182.out⟩, ⟨by (with_reducible repeat (first | refine blk_drewN ?_ _ | refine blk_drew ?_ | refine blk_alloc ?_ _)); refine blk_far ?_ NB183_188.out _; (with_reducible repeat (first | refine blk_drewN ?_ _ | refine blk_drew ?_ | refine blk_alloc ?_ _)); refine blk_far ?_ NB183_188.out _; (with_reducible repeat (first | refine blk_drewN ?_ _ | refine blk_drew ?_ | refine blk_alloc ?_ _)); refine blk_far ?_ NB183_188.out _; (with_reducible repeat (first | refine blk_drewN ?_ _ | refine blk_drew ?_ | refine blk_alloc ?_ _)); refine blk_far ?_ NB183_188.out _; (with_reducible repeat (first | refine blk_drewN ?_ _ | refine blk_drew ?_ | refine blk_alloc ?_ _)); exact BK183.out⟩, ⟨by (with_reducible repeat (first | refine blk_drewN ?_ _ | refine blk_drew ?_ | refine blk_alloc ?_ _)); refine blk_put (cs := #[.slice none 0 0, .int .i64 t186, .int .i64 t187, .slice none 0 0]) ?_ 3 _ rfl; (with_reducible repeat (first | refine blk_drewN ?_ _ | refine blk_drew ?_ | refine blk_alloc ?_ _)); refine blk_put (cs := #[.slice none 0 0, .int .i64 t186, .int .i64 0, .slice none 0 0]) ?_ 2 _ rfl; (with_reducible repeat (first | refine blk_drewN ?_ _ | refine blk_drew ?_ | refine blk_alloc ?_ _)); refine blk_put (cs := #[.slice none 0 0, .int .i64 0, .int .i64 0, .slice none 0 0]) ?_ 1 _ rfl; (with_reducible repeat (first | refine blk_drewN ?_ _ | refine blk_drew ?_ | refine blk_alloc ?_ _)); refine blk_put (cs := #[.slice none 0 0, .int .i64 0, .int .i64 0, .slice none 0 0]) ?_ 0 _ rfl; (with_reducible repeat (first | refine blk_drewN ?_ _ | refine blk_drew ?_ | refine blk_alloc ?_ _)); exact BK188.out⟩, ⟨TB3 GE182.out GE183.out GE188.out⟩⟩
  case round =>
   clear H'
   try clear c1
   try clear p2
   try clear c3
   try clear c4
   try clear p6
   try clear c8
   try clear c13
   try clear c14
   try clear c15
   try clear hcz11_0 hcz11_1 hcz11_2 hcz11_3
   try clear hcz16_0 hcz16_1 hcz16_2 hcz16_3
   try clear hcz9_0 hcz9_1 hcz9_2 hcz9_3
   try clear hfz11_0 hfz11_1 hfz11_2 hfz11_3
   try clear hfz16_0 hfz16_1 hfz16_2 hfz16_3
   try clear hfz9_0 hfz9_1 hfz9_2 hfz9_3
   obtain ⟨x6_1, x189000_1, u189000, rfl, HA, HK1, HO_189000, BK182, BK183, BK188, HB⟩ := hrel
   cases gk with
   | zero => exact absurd HA.out (by simp [saronlaw03_RaspTurned.l0])
   | succ k1 =>
    have H := HA.out
    clear HA
    simp only [saronlaw03_RaspTurned.l0] at H
    by_cases c17 : x6_1 < (l0_0.length : Int)
    ·rw [if_pos c17] at H
     have c17b0 : decide (x6_1 < (l0_0.length : Int)) = true := decide_eq_true c17
     clear c17
     by_cases c18 : 0 ≤ x6_1
     ·rw [if_pos c18] at H
      have c18b0 : decide (0 ≤ x6_1) = true := decide_eq_true c18
      clear c18
      replace H := Option.bind_eq_some_iff.mp H
      obtain ⟨⟨t191, t192⟩, A190, H⟩ := H
      replace H : (if x189000_1.length < 5864062014805 then (saronlaw03_RaspTurned.l0 k1 (wrap64 (x6_1 + 1)) l0_0 a0_1 a0_2 l0_3 a1_0 a1_1 (x189000_1 ++ [(⟨(⟨t191, t192⟩ : S24), (rd_T57 l0_0 x6_1).f1⟩ : S57)]) t186 t187) else (none)) = some r := H
      have A19 := Aside0.mk A190
      clear A190
      by_cases c20 : x189000_1.length < 5864062014805
      ·rw [if_pos c20] at H
       have LMc20 := Aside0.mk c20
       clear c20
       obtain ⟨y194, hy194⟩ : ∃ y_ : List (S57), y_ = (x189000_1 ++ [(⟨(⟨t191, t192⟩ : S24), (rd_T57 l0_0 x6_1).f1⟩ : S57)]) := ⟨_, rfl⟩
       replace H : (saronlaw03_RaspTurned.l0 k1 (wrap64 (x6_1 + 1)) l0_0 a0_1 a0_2 l0_3 a1_0 a1_1 y194 t186 t187) = some r := by first | (rw [hy194]; with_reducible exact H) | (have H2_ := (Option.bind_some _ _).symm.trans H; rw [hy194]; with_reducible exact H2_) | (have H2_ := (Option.bind_some _ _).symm.trans H; with_reducible exact H2_) | with_reducible exact H | (rw [hy194]; exact H) | exact H
       have Ny194 := Aside0.mk hy194
       clear hy194
       have H' := Aside0.mk H
       clear H
       have hnb21 := NB182_183.out
       have hnc21 := NB183_182.out
       have hnb22 := NB182_188.out
       have hnc22 := NB188_182.out
       have hcz23_0 := czz BK182.out 0
       have hcz23_1 := czz BK182.out 1
       have hcz23_2 := czz BK182.out 2
       have hcz23_3 := czz BK182.out 3
       have hfz23_0 := fz BK182.out 0
       have hfz23_1 := fz BK182.out 1
       have hfz23_2 := fz BK182.out 2
       have hfz23_3 := fz BK182.out 3
       try go_wp2
       have n0_ := Aside0.mk (Kd.R_drew HO_189000.out)
       have n1_ := Aside0.mk (blk_drew BK182.out)
       have n2_ := Aside0.mk (blk_drew BK183.out)
       have n3_ := Aside0.mk (blk_drew BK188.out)
       have n4_ := Aside0.mk (below_drew1 HB.out)
       clear HO_189000
       clear BK182
       clear BK183
       clear BK188
       clear HB
       have HO_189000 := n0_
       have BK182 := n1_
       have BK183 := n2_
       have BK188 := n3_
       have HB := n4_
       clear n0_ n1_ n2_ n3_ n4_
       have p189 : 0 ≤ (x6_1 : Int) := of_decide_eq_true TA
       have q189 : x6_1 < (l0_0.length : Int) := of_decide_eq_true TA
       obtain ⟨ad189, e189, hx189_0, hx189_1, hx189_2⟩ := at_T57 HR0_0.out x6_1 p189 q189
       have hw189_2 := hx189_2
       have hw189_1 := hx189_1
       have hw189_0 := hx189_0
       cases e189
       replace hx189_0 := hx HB.out hx189_0
       replace hx189_1 := hx HB.out hx189_1
       replace hx189_2 := hx HB.out hx189_2
       replace p189 := eq_true p189
       replace q189 := eq_true q189
       have p190 : 0 ≤ (x6_1 : Int) := of_decide_eq_true TA
       have q190 : x6_1 < (l0_0.length : Int) := of_decide_eq_true TA
       obtain ⟨ad190, e190, hx190_0, hx190_1, hx190_2⟩ := at_T57 HR0_0.out x6_1 p190 q190
       have hw190_2 := hx190_2
       have hw190_1 := hx190_1
       have hw190_0 := hx190_0
       obtain rfl : ad189 = ad190 := (by injection e190)
       replace hx190_0 := hx HB.out hx190_0
       replace hx190_1 := hx HB.out hx190_1
       replace hx190_2 := hx HB.out hx190_2
       replace p190 := eq_true p190
       replace q190 := eq_true q190
       have p193 : 0 ≤ (x6_1 : Int) := of_decide_eq_true TA
       have q193 : x6_1 < (l0_0.length : Int) := of_decide_eq_true TA
       obtain ⟨ad193, e193, hx193_0, hx193_1, hx193_2⟩ := at_T57 HR0_0.out x6_1 p193 q193
       have hw193_2 := hx193_2
       have hw193_1 := hx193_1
       have hw193_0 := hx193_0
       obtain rfl : ad189 = ad193 := (by injection e193)
       replace hx193_0 := hx HB.out hx193_0
       replace hx193_1 := hx HB.out hx193_1
       replace hx193_2 := hx HB.out hx193_2
       replace p193 := eq_true p193
       replace q193 := eq_true q193
       refine start_ (n := 30) (S := fun w' => w'.cell? ⟨gb188, 0, none⟩ = some (u189000) ∧ w'.cell? ⟨gb188, 1, none⟩ = some (.int .i64 t186) ∧ w'.cell? ⟨gb188, 2, none⟩ = some (.int .i64 t187) ∧ w'.cell? ⟨gb188, 3, none⟩ = some (.slice none 0 0) ∧ w'.cell? ⟨gb182, 0, none⟩ = some (.slice (some ad189) l0_0.length c0_0) ∧ w'.cell? ⟨gb182, 1, none⟩ = some (.int .i64 a0_1) ∧ w'.cell? ⟨gb182, 2, none⟩ = some (.int .i64 a0_2) ∧ w'.cell? ⟨gb182, 3, none⟩ = some (.slice A0_3 l0_3.length c0_3) ∧ w'.cell? (ad189.add ((x6_1).toNat * 3)) = some (.int .i64 ((rd_T57 l0_0 x6_1).f0.f0)) ∧ w'.cell? ⟨(ad189.add ((x6_1).toNat * 3)).block, (ad189.add ((x6_1).toNat * 3)).off + 1, none⟩ = some (.int .i64 ((rd_T57 l0_0 x6_1).f0.f1)) ∧ w'.cell? ⟨(ad189.add ((x6_1).toNat * 3)).block, (ad189.add ((x6_1).toNat * 3)).off + 2, none⟩ = some (.int .i64 ((rd_T57 l0_0 x6_1).f1)) ∧ w'.cell? (ad189.add ((x6_1).toNat * 3)) = some (.int .i64 ((rd_T57 l0_0 x6_1).f0.f0)) ∧ w'.cell? ⟨(ad189.add ((x6_1).toNat * 3)).block, (ad189.add ((x6_1).toNat * 3)).off + 1, none⟩ = some (.int .i64 ((rd_T57 l0_0 x6_1).f0.f1)) ∧ w'.cell? ⟨(ad189.add ((x6_1).toNat * 3)).block, (ad189.add ((x6_1).toNat * 3)).off + 2, none⟩ = some (.int .i64 ((rd_T57 l0_0 x6_1).f1)) ∧ w'.cell? (ad189.add ((x6_1).toNat * 3)) = some (.int .i64 ((rd_T57 l0_0 x6_1).f0.f0)) ∧ w'.cell? ⟨(ad189.add ((x6_1).toNat * 3)).block, (ad189.add ((x6_1).toNat * 3)).off + 1, none⟩ = some (.int .i64 ((rd_T57 l0_0 x6_1).f0.f1)) ∧ w'.cell? ⟨(ad189.add ((x6_1).toNat * 3)).block, (ad189.add ((x6_1).toNat * 3)).off + 2, none⟩ = some (.int .i64 ((rd_T57 l0_0 x6_1).f1))) (ds := [29]) (.replicate 30 false) (by kernel_rfl) rfl rfl ⟨czz BK188.out 0, czz BK188.out 1, czz BK188.out 2, czz BK188.out 3, czz BK182.out 0, czz BK182.out 1, czz BK182.out 2, czz BK182.out 3, (hx HB.out hw189_0), (hx HB.out hw189_1), (hx HB.out hw189_2), (hx HB.out hw190_0), (hx HB.out hw190_1), (hx HB.out hw190_2), (hx HB.out hw193_0), (hx HB.out hw193_1), (hx HB.out hw193_2)⟩ (fun hHeld => ?_); refine with_tabW saronlaw03_RaspTurned.tab7 saronlaw03_RaspTurned.bits7 (fun HT_ HW_ => ?_)
       generalize wr.drew = w24 at HO_189000 BK182 BK183 BK188 HB hx189_0 hx189_1 hx189_2 hx190_0 hx190_1 hx190_2 hx193_0 hx193_1 hx193_2 hHeld ⊢
       refine pT 0 43 (bt 30 1) (k := ?_)
       refine pT 2 45 (bt 30 5) (k := ?_)
       refine pT 4 47 (bt 30 21) (k := ?_)
       refine pT 10 53 (bt 30 1045) (k := ?_)
       refine pT 12 55 (bt 30 5141) (k := ?_)
       refine pT 19 62 (bt 30 529429) (k := ?_)
       refine pT 21 64 (bt 30 2626581) (k := ?_)
       refine take_ (i := 1) (N := some 44) (v := ?_) (a' := ?_) (bt 30 2626583) rfl rfl (take_ofW HT_.out HW_.out (by kernel_rfl)) (fun _ _ _ h => h) (Or.inl ⟨by rfl, ?_⟩) hHeld ?_ ?_
       rotate_left
       ·rintro w' ⟨s0, s1, s2, s3, s4, s5, s6, s7, s8, s9, s10, s11, s12, s13, s14, s15, s16⟩
        go_simp
        with_reducible rfl
       rotate_left
       ·simp only [Act.put, lA, lZ, lS, i64_w, i32_w]
        rfl
       refine take_ (i := 3) (N := some 46) (v := ?_) (a' := ?_) (bt 30 2626591) rfl rfl (take_ofW HT_.out HW_.out (by kernel_rfl)) (fun _ _ _ h => h) (Or.inl ⟨by rfl, ?_⟩) hHeld ?_ ?_
       rotate_left
       ·rintro w' ⟨s0, s1, s2, s3, s4, s5, s6, s7, s8, s9, s10, s11, s12, s13, s14, s15, s16⟩
        go_simp
        with_reducible rfl
       rotate_left
       ·simp only [Act.put, lA, lZ, lS, i64_w, i32_w]
        rfl
       refine pT 5 48 (bt 30 2626623) (k := ?_)
       refine pT 6 49 (bt 30 2626687) (k := ?_)
       refine pT 7 50 (bt 30 2626815) (k := ?_)
       refine take_ (i := 8) (N := some 51) (v := ?_) (a' := ?_) (bt 30 2627071) rfl rfl (take_ofW HT_.out HW_.out (by kernel_rfl)) (fun _ _ _ h => h) (Or.inl ⟨by rfl, ?_⟩) hHeld ?_ ?_
       rotate_left
       ·rintro w' ⟨s0, s1, s2, s3, s4, s5, s6, s7, s8, s9, s10, s11, s12, s13, s14, s15, s16⟩
        go_simp
        with_reducible rfl
       rotate_left
       ·simp only [Act.put, lA, lZ, lS, i64_w, i32_w]
        rfl
       refine pT 9 52 (bt 30 2627583) (k := ?_)
       refine take_ (i := 11) (N := some 54) (v := ?_) (a' := ?_) (bt 30 2629631) rfl rfl (take_ofW HT_.out HW_.out (by kernel_rfl)) (fun _ _ _ h => h) (Or.inl ⟨by rfl, ?_⟩) hHeld ?_ ?_
       rotate_left
       ·rintro w' ⟨s0, s1, s2, s3, s4, s5, s6, s7, s8, s9, s10, s11, s12, s13, s14, s15, s16⟩
        go_simp
        with_reducible rfl
       rotate_left
       ·simp only [Act.put, lA, lZ, lS, i64_w, i32_w]
        rfl
       refine pT 13 56 (bt 30 2637823) (k := ?_)
       refine pT 14 57 (bt 30 2654207) (k := ?_)
       refine pT 15 58 (bt 30 2686975) (k := ?_)
       refine take_ (i := 16) (N := some 59) (v := ?_) (a' := ?_) (bt 30 2752511) rfl rfl (take_ofW HT_.out HW_.out (by kernel_rfl)) (fun _ _ _ h => h) (Or.inl ⟨by rfl, ?_⟩) hHeld ?_ ?_
       rotate_left
       ·rintro w' ⟨s0, s1, s2, s3, s4, s5, s6, s7, s8, s9, s10, s11, s12, s13, s14, s15, s16⟩
        go_simp
        with_reducible rfl
       rotate_left
       ·simp only [Act.put, lA, lZ, lS, i64_w, i32_w]
        rfl
       refine pT 17 60 (bt 30 2883583) (k := ?_)
       refine take_ (i := 20) (N := some 63) (v := ?_) (a' := ?_) (bt 30 3932159) rfl rfl (take_ofW HT_.out HW_.out (by kernel_rfl)) (fun _ _ _ h => h) (Or.inl ⟨by rfl, ?_⟩) hHeld ?_ ?_
       rotate_left
       ·rintro w' ⟨s0, s1, s2, s3, s4, s5, s6, s7, s8, s9, s10, s11, s12, s13, s14, s15, s16⟩
        go_simp
        with_reducible rfl
       rotate_left
       ·simp only [Act.put, lA, lZ, lS, i64_w, i32_w]
        rfl
       refine pT 22 65 (bt 30 8126463) (k := ?_)
       refine pT 23 66 (bt 30 16515071) (k := ?_)
       refine take_ (i := 24) (N := some 67) (v := ?_) (a' := ?_) (bt 30 33292287) rfl rfl (take_ofW HT_.out HW_.out (by kernel_rfl)) (fun _ _ _ h => h) (Or.inl ⟨by rfl, ?_⟩) hHeld ?_ ?_
       rotate_left
       ·rintro w' ⟨s0, s1, s2, s3, s4, s5, s6, s7, s8, s9, s10, s11, s12, s13, s14, s15, s16⟩
        go_simp
        with_reducible rfl
       rotate_left
       ·simp only [Act.put, lA, lZ, lS, i64_w, i32_w]
        rfl
       refine one_ (i := 18) (N := some 61) (bt 30 33554431) rfl rfl (one_of HT_.out (by kernel_rfl)) (by decide) (fun K hK => ?_)
       refine goes_ Tryd.func44 (by kernel_rfl) rfl #[.int .i64 (wrap64 (-((rd_T57 l0_0 x6_1).f0.f1))), .int .i64 (wrap64 (-((rd_T57 l0_0 x6_1).f0.f0)))] (by rfl) rfl rfl TM ?_
       with_reducible refine (saronref00_Band.calls (wrap64 (-((rd_T57 l0_0 x6_1).f0.f1))) (wrap64 (-((rd_T57 l0_0 x6_1).f0.f0))) t191 t192 _ A19.out).mono ?_
       rintro e w25 ⟨rfl, hb⟩
       refine ⟨_, rfl, ?_⟩
       have n0_ := Aside0.mk (Kd.R_below (TRo HO_189000.out) hb)
       have n1_ := Aside0.mk (blk_below (g := gb182) (o := .cells #[.slice (some ad189) l0_0.length c0_0, .int .i64 a0_1, .int .i64 a0_2, .slice A0_3 l0_3.length c0_3] 27 (0, 0)) (by (with_reducible repeat (first | refine blk_drewN ?_ _ | refine blk_drew ?_ | refine blk_alloc ?_ _)); exact BK182.out) hb)
       have n2_ := Aside0.mk (blk_below (g := gb183) (o := .cells #[.int .i64 a1_0, .int .i64 a1_1] 28 (0, 0)) (by (with_reducible repeat (first | refine blk_drewN ?_ _ | refine blk_drew ?_ | refine blk_alloc ?_ _)); exact BK183.out) hb)
       have n3_ := Aside0.mk (blk_below (g := gb188) (o := .cells #[u189000, .int .i64 t186, .int .i64 t187, .slice none 0 0] 27 (0, 0)) (by (with_reducible repeat (first | refine blk_drewN ?_ _ | refine blk_drew ?_ | refine blk_alloc ?_ _)); exact BK188.out) hb)
       have n4_ := Aside0.mk (below_step (TB3 GE182.out GE183.out GE188.out) hb)
       clear HO_189000
       clear BK182
       clear BK183
       clear BK188
       clear HB
       have HO_189000 := n0_
       have BK182 := n1_
       have BK183 := n2_
       have BK188 := n3_
       have HB := n4_
       clear n0_ n1_ n2_ n3_ n4_
       (try clear hb)
       (try clear hb2)
       (try clear hk)
       (try clear hi)
       refine hK.out _ _ ⟨czz BK188.out 0, czz BK188.out 1, czz BK188.out 2, czz BK188.out 3, czz BK182.out 0, czz BK182.out 1, czz BK182.out 2, czz BK182.out 3, (hx HB.out hw189_0), (hx HB.out hw189_1), (hx HB.out hw189_2), (hx HB.out hw190_0), (hx HB.out hw190_1), (hx HB.out hw190_2), (hx HB.out hw193_0), (hx HB.out hw193_1), (hx HB.out hw193_2)⟩ (fun hHeld => ?_)
       clear hK K
       refine norm_ (a' := ?_) ?_ ?_
       rotate_left
       ·show Act.put _ (some 61) _ = _
        simp only [Act.put, lA, lZ, lS, i64_w, i32_w]
        rfl
       refine pT 25 68 (bt 30 67108863) (k := ?_)
       refine one_ (i := 26) (N := some 69) (bt 30 134217727) rfl rfl (one_of HT_.out (by kernel_rfl)) (by decide) (fun K hK => ?_)
       refine value_ (w1 := ?_) (v := ?_) (by rfl) rfl ?_ ?_
       rotate_left 2
       ·go_simp
        constructor
        ·rfl
        ·rfl
       refine hK.out _ _ ⟨(blk_cell (blk_alloc BK188.out _) 0).trans rfl, (blk_cell (blk_alloc BK188.out _) 1).trans rfl, (blk_cell (blk_alloc BK188.out _) 2).trans rfl, (blk_cell (blk_alloc BK188.out _) 3).trans rfl, (blk_cell (blk_alloc BK182.out _) 0).trans rfl, (blk_cell (blk_alloc BK182.out _) 1).trans rfl, (blk_cell (blk_alloc BK182.out _) 2).trans rfl, (blk_cell (blk_alloc BK182.out _) 3).trans rfl, (World.cell?_alloc_lt _ _ _ (World.block_lt_of_cell? _ _ ((hx HB.out hw189_0)))).trans ((hx HB.out hw189_0)), (World.cell?_alloc_lt _ _ _ (World.block_lt_of_cell? _ _ ((hx HB.out hw189_1)))).trans ((hx HB.out hw189_1)), (World.cell?_alloc_lt _ _ _ (World.block_lt_of_cell? _ _ ((hx HB.out hw189_2)))).trans ((hx HB.out hw189_2)), (World.cell?_alloc_lt _ _ _ (World.block_lt_of_cell? _ _ ((hx HB.out hw190_0)))).trans ((hx HB.out hw190_0)), (World.cell?_alloc_lt _ _ _ (World.block_lt_of_cell? _ _ ((hx HB.out hw190_1)))).trans ((hx HB.out hw190_1)), (World.cell?_alloc_lt _ _ _ (World.block_lt_of_cell? _ _ ((hx HB.out hw190_2)))).trans ((hx HB.out hw190_2)), (World.cell?_alloc_lt _ _ _ (World.block_lt_of_cell? _ _ ((hx HB.out hw193_0)))).trans ((hx HB.out hw193_0)), (World.cell?_alloc_lt _ _ _ (World.block_lt_of_cell? _ _ ((hx HB.out hw193_1)))).trans ((hx HB.out hw193_1)), (World.cell?_alloc_lt _ _ _ (World.block_lt_of_cell? _ _ ((hx HB.out hw193_2)))).trans ((hx HB.out hw193_2))⟩ (fun hHeld => ?_)
       clear hK K
       refine norm_ (a' := ?_) ?_ ?_
       rotate_left
       ·show Act.put _ (some 69) _ = _
        simp only [Act.put, lA, lZ, lS, i64_w, i32_w]
        rfl
       refine one_ (i := 27) (N := some 70) (bt 30 268435455) rfl rfl (one_of HT_.out (by kernel_rfl)) (by decide) (fun K hK => ?_)
       refine Kd.R_append_step k57 (w0 := w) w.heap.size (by rfl) (.tmp 44) (.tmp 69) 22 57 (.agg #[(.int .i64 0), (.int .i64 0), (.int .i64 0)]) 24 rfl Tryd.underlying22 info57 rfl (by decide) (by omega) u189000 x189000_1 (⟨(⟨t191, t192⟩ : S24), (rd_T57 l0_0 x6_1).f1⟩ : S57) [.int .i64 t191, .int .i64 t192, .int .i64 ((rd_T57 l0_0 x6_1).f1)] (fun _ => True) (fun _ => False) rfl rfl ?aP (fun _ hk => hk.elim) ?aF ?aO ?aB ?aS ?aL ?_
       (case aP => exact k57_mkM _ _ _ (⟨(⟨t191, t192⟩ : S24), (rd_T57 l0_0 x6_1).f1⟩ : S57))
       (case aB => exact (TB3 GE182.out GE183.out GE188.out))
       (case aF => exact (fun _ _ => trivial))
       (case aO => exact (TRo HO_189000.out))
       (case aS => exact (below_size (TB3 GE182.out GE183.out GE188.out)))
       (case aL => have := LMc20.out; omega)
       intro v195 w26 ho hb hg hat
       rw [← Ny194.out] at ho
       have n0_ := Aside0.mk (blk_grown (g := gb182) (o := .cells #[.slice (some ad189) l0_0.length c0_0, .int .i64 a0_1, .int .i64 a0_2, .slice A0_3 l0_3.length c0_3] 27 (0, 0)) (by (with_reducible repeat (first | refine blk_drewN ?_ _ | refine blk_drew ?_ | refine blk_alloc ?_ _)); exact BK182.out) hg (Kd.R_ne HO_189000.out BK182.out (by decide)))
       have n1_ := Aside0.mk (blk_grown (g := gb183) (o := .cells #[.int .i64 a1_0, .int .i64 a1_1] 28 (0, 0)) (by (with_reducible repeat (first | refine blk_drewN ?_ _ | refine blk_drew ?_ | refine blk_alloc ?_ _)); exact BK183.out) hg (Kd.R_ne HO_189000.out BK183.out (by decide)))
       have n2_ := Aside0.mk (blk_grown (g := gb188) (o := .cells #[u189000, .int .i64 t186, .int .i64 t187, .slice none 0 0] 27 (0, 0)) (by (with_reducible repeat (first | refine blk_drewN ?_ _ | refine blk_drew ?_ | refine blk_alloc ?_ _)); exact BK188.out) hg (Kd.R_ne HO_189000.out BK188.out (by decide)))
       have n3_ := Aside0.mk (hb)
       have n4_ := Aside0.mk (ho)
       clear BK182
       clear BK183
       clear BK188
       clear HB
       clear HO_189000
       have BK182 := n0_
       have BK183 := n1_
       have BK188 := n2_
       have HB := n3_
       have HO196 := n4_
       clear n0_ n1_ n2_ n3_ n4_
       clear ho hb hg hat
       obtain ⟨Ao27, co27, eo27⟩ := Kd.R_slice HO196.out
       (first | subst eo27 | (injection eo27 with f1_ f2_ f3_; have f4_ := f1_.symm; have f5_ := f3_.symm; clear f1_ f2_ f3_; subst f4_; subst f5_))
       refine hK.out _ _ ⟨czz BK188.out 0, czz BK188.out 1, czz BK188.out 2, czz BK188.out 3, czz BK182.out 0, czz BK182.out 1, czz BK182.out 2, czz BK182.out 3, (hx HB.out hw189_0), (hx HB.out hw189_1), (hx HB.out hw189_2), (hx HB.out hw190_0), (hx HB.out hw190_1), (hx HB.out hw190_2), (hx HB.out hw193_0), (hx HB.out hw193_1), (hx HB.out hw193_2)⟩ (fun hHeld => ?_)
       clear hK K
       refine norm_ (a' := ?_) ?_ ?_
       rotate_left
       ·show Act.put _ (some 70) _ = _
        simp only [Act.put, lA, lZ, lS, i64_w, i32_w]
        rfl
       refine pT 28 71 (bt 30 536870911) (k := ?_)
       refine last_ (i := 29) (N := none) (bt 30 1073741823) rfl rfl (one_of HT_.out (by kernel_rfl)) (by decide) (fun K hK => ?_)
       have hs28 : w26.cell? ⟨gb188, 0, none⟩ = some (u189000) := czz BK188.out 0
       have hfs28 := fz BK188.out 0
       have hns28_0 := NB182_188.out
       have hns28_1 := NB183_188.out
       have hms28_0 := NB188_182.out
       have hms28_1 := NB188_183.out
       refine skip_ (w1 := ?_) (by rfl) rfl ?_ ?_
       rotate_left
       ·go_simp
        rfl
       refine hK.out _ _ ?_
       clear hK K
       refine done_ (done_of HT_.out (by kernel_rfl)) ?_
       try go_wp2
       go_roundg k1
       case measure => have := HK1.out; omega
       case rel => exact ⟨(wrap64 (x6_1 + 1)), (y194), (.slice Ao27 y194.length co27), TT, H', ⟨by have := HK1.out; omega⟩, ⟨by (with_reducible repeat (first | apply Kd.R_alloc | apply Kd.R_drewN | apply Kd.R_drew)); exact Kd.R_mono (Kd.R_far (p := ⟨gb188, 0, none⟩) (Kd.R_types HO196.out BK188.out (by decide)) (fun _ hk => hk.2) (.slice Ao27 y194.length co27)) (fun _ hk => trivial)⟩, ⟨by (with_reducible repeat (first | refine blk_drewN ?_ _ | refine blk_drew ?_ | refine blk_alloc ?_ _)); refine blk_far ?_ NB182_188.out _; (with_reducible repeat (first | refine blk_drewN ?_ _ | refine blk_drew ?_ | refine blk_alloc ?_ _)); exact BK182.out⟩, ⟨by (with_reducible repeat (first | refine blk_drewN ?_ _ | refine blk_drew ?_ | refine blk_alloc ?_ _)); refine blk_far ?_ NB183_188.out _; (with_reducible repeat (first | refine blk_drewN ?_ _ | refine blk_drew ?_ | refine blk_alloc ?_ _)); exact BK183.out⟩, ⟨by (with_reducible repeat (first | refine blk_drewN ?_ _ | refine blk_drew ?_ | refine blk_alloc ?_ _)); refine blk_put (cs := #[u189000, .int .i64 t186, .int .i64 t187, .slice none 0 0]) ?_ 0 _ rfl; (with_reducible repeat (first | refine blk_drewN ?_ _ | refine blk_drew ?_ | refine blk_alloc ?_ _)); exact BK188.out⟩, ⟨TB3 GE182.out GE183.out GE188.out⟩⟩
      ·rw [if_neg c20] at H
       exact absurd H (by simp)
     ·rw [if_neg c18] at H
      exact absurd H (by simp)
    ·rw [if_neg c17] at H
     have c17b0 : decide (x6_1 < (l0_0.length : Int)) = false := decide_eq_false c17
     clear c17
     have H' := Aside0.mk H
     clear H
     have hnb29 := NB182_183.out
     have hnc29 := NB183_182.out
     have hnb30 := NB182_188.out
     have hnc30 := NB188_182.out
     have hcz31_0 := czz BK182.out 0
     have hcz31_1 := czz BK182.out 1
     have hcz31_2 := czz BK182.out 2
     have hcz31_3 := czz BK182.out 3
     have hfz31_0 := fz BK182.out 0
     have hfz31_1 := fz BK182.out 1
     have hfz31_2 := fz BK182.out 2
     have hfz31_3 := fz BK182.out 3
     go_wp2
     go_loopg [7] k1 (fun kq v7 w' => ∃ (x7_2 : Int) (x189003_2 : List (S69)) (u189003 : Value), v7 = .int .i64 x7_2 ∧ Aside0 (saronlaw03_RaspTurned.l1 kq x7_2 l0_0 a0_1 a0_2 l0_3 a1_0 a1_1 x189000_1 t186 t187 x189003_2 = some r) ∧ Aside0 (kq ≤ k1) ∧ Aside0 (Kd.R k57 57 w' w.heap.size (fun _ => True) u189000 x189000_1) ∧ Aside0 (Kd.R k69 69 w' w.heap.size (fun _ => True) u189003 x189003_2) ∧ Aside0 (w'.heap[gb182]? = some (.cells #[(.slice A0_0 l0_0.length c0_0), .int .i64 a0_1, .int .i64 a0_2, (.slice A0_3 l0_3.length c0_3)] 27 (0, 0))) ∧ Aside0 (w'.heap[gb183]? = some (.cells #[.int .i64 a1_0, .int .i64 a1_1] 28 (0, 0))) ∧ Aside0 (w'.heap[gb188]? = some (.cells #[u189000, .int .i64 t186, .int .i64 t187, u189003] 27 (0, 0))) ∧ Aside0 (Below w.heap.size w w'))
     case atStart => exact ⟨(0), (([] : List (S69))), (.slice none 0 0), TT, H', ⟨Nat.le_refl _⟩, ⟨by (with_reducible repeat (first | apply Kd.R_alloc | apply Kd.R_drewN | apply Kd.R_drew)); exact HO_189000.out⟩, ⟨by first | exact Kd.R_nil _ _ _ _ _ | exact Kd.N_nil _ _ _ _ _ | exact Kd.V_nil _ _ _ _ _ | exact Kd.Q_nil _ _ _ _ _ | exact Kd.S_nil _ _ _ _ _⟩, ⟨by (with_reducible repeat (first | refine blk_drewN ?_ _ | refine blk_drew ?_ | refine blk_alloc ?_ _)); exact BK182.out⟩, ⟨by (with_reducible repeat (first | refine blk_drewN ?_ _ | refine blk_drew ?_ | refine blk_alloc ?_ _)); exact BK183.out⟩, ⟨by (with_reducible repeat (first | refine blk_drewN ?_ _ | refine blk_drew ?_ | refine blk_alloc ?_ _)); exact BK188.out⟩, ⟨TB3 GE182.out GE183.out GE188.out⟩⟩
     case round =>
      clear H'
      try clear c1
      try clear p1
      try clear q1
      try clear hx1
      try clear c2
      try clear p2
      try clear c3
      try clear c4
      try clear p6
      try clear c8
      try clear c13
      try clear c14
      try clear c15
      try clear c17
      try clear c17b0
      try clear c18
      try clear c18b0
      try clear p18
      try clear q18
      try clear hx18
      try clear p19
      try clear q19
      try clear hx19
      try clear c20
      try clear c21
      try clear c22
      try clear c29
      try clear c30
      try clear hcz11_0 hcz11_1 hcz11_2 hcz11_3
      try clear hcz16_0 hcz16_1 hcz16_2 hcz16_3
      try clear hcz23_0 hcz23_1 hcz23_2 hcz23_3
      try clear hcz31_0 hcz31_1 hcz31_2 hcz31_3
      try clear hcz9_0 hcz9_1 hcz9_2 hcz9_3
      try clear hfz11_0 hfz11_1 hfz11_2 hfz11_3
      try clear hfz16_0 hfz16_1 hfz16_2 hfz16_3
      try clear hfz23_0 hfz23_1 hfz23_2 hfz23_3
      try clear hfz31_0 hfz31_1 hfz31_2 hfz31_3
      try clear hfz9_0 hfz9_1 hfz9_2 hfz9_3
      try clear hx189_0
      try clear hx189_1
      try clear hx189_2
      try clear hx190_0
      try clear hx190_1
      try clear hx190_2
      try clear hx193_0
      try clear hx193_1
      try clear hx193_2
      try clear p189
      try clear p190
      try clear p193
      try clear p2
      try clear p6
      try clear q189
      try clear q190
      try clear q193
      obtain ⟨x7_2, x189003_2, u189003, rfl, HA, HK2, HO_189000, HO_189003, BK182, BK183, BK188, HB⟩ := hrel
      cases gk with
      | zero => exact absurd HA.out (by simp [saronlaw03_RaspTurned.l1])
      | succ k2 =>
       have H := HA.out
       clear HA
       simp only [saronlaw03_RaspTurned.l1] at H
       by_cases c32 : x7_2 < (l0_3.length : Int)
       ·rw [if_pos c32] at H
        have c32b0 : decide (x7_2 < (l0_3.length : Int)) = true := decide_eq_true c32
        clear c32
        by_cases c33 : 0 ≤ x7_2
        ·rw [if_pos c33] at H
         have c33b0 : decide (0 ≤ x7_2) = true := decide_eq_true c33
         clear c33
         replace H := Option.bind_eq_some_iff.mp H
         obtain ⟨⟨t200, t201, t202⟩, A340, H⟩ := H
         replace H : (if x189003_2.length < 5864062014805 then (saronlaw03_RaspTurned.l1 k2 (wrap64 (x7_2 + 1)) l0_0 a0_1 a0_2 l0_3 a1_0 a1_1 x189000_1 t186 t187 (x189003_2 ++ [(⟨(⟨t200, t201⟩ : S24), t202⟩ : S69)])) else (none)) = some r := H
         have A34 := Aside0.mk A340
         clear A340
         by_cases c35 : x189003_2.length < 5864062014805
         ·rw [if_pos c35] at H
          have LMc35 := Aside0.mk c35
          clear c35
          obtain ⟨y203, hy203⟩ : ∃ y_ : List (S69), y_ = (x189003_2 ++ [(⟨(⟨t200, t201⟩ : S24), t202⟩ : S69)]) := ⟨_, rfl⟩
          replace H : (saronlaw03_RaspTurned.l1 k2 (wrap64 (x7_2 + 1)) l0_0 a0_1 a0_2 l0_3 a1_0 a1_1 x189000_1 t186 t187 y203) = some r := by first | (rw [hy203]; with_reducible exact H) | (have H2_ := (Option.bind_some _ _).symm.trans H; rw [hy203]; with_reducible exact H2_) | (have H2_ := (Option.bind_some _ _).symm.trans H; with_reducible exact H2_) | with_reducible exact H | (rw [hy203]; exact H) | exact H
          have Ny203 := Aside0.mk hy203
          clear hy203
          have H' := Aside0.mk H
          clear H
          have hnb36 := NB182_183.out
          have hnc36 := NB183_182.out
          have hnb37 := NB182_188.out
          have hnc37 := NB188_182.out
          have hcz38_0 := czz BK182.out 0
          have hcz38_1 := czz BK182.out 1
          have hcz38_2 := czz BK182.out 2
          have hcz38_3 := czz BK182.out 3
          have hfz38_0 := fz BK182.out 0
          have hfz38_1 := fz BK182.out 1
          have hfz38_2 := fz BK182.out 2
          have hfz38_3 := fz BK182.out 3
          try go_wp2
          have n0_ := Aside0.mk (Kd.R_drew HO_189000.out)
          have n1_ := Aside0.mk (Kd.R_drew HO_189003.out)
          have n2_ := Aside0.mk (blk_drew BK182.out)
          have n3_ := Aside0.mk (blk_drew BK183.out)
          have n4_ := Aside0.mk (blk_drew BK188.out)
          have n5_ := Aside0.mk (below_drew1 HB.out)
          clear HO_189000
          clear HO_189003
          clear BK182
          clear BK183
          clear BK188
          clear HB
          have HO_189000 := n0_
          have HO_189003 := n1_
          have BK182 := n2_
          have BK183 := n3_
          have BK188 := n4_
          have HB := n5_
          clear n0_ n1_ n2_ n3_ n4_ n5_
          have p197 : 0 ≤ (x7_2 : Int) := of_decide_eq_true TA
          have q197 : x7_2 < (l0_3.length : Int) := of_decide_eq_true TA
          obtain ⟨ad197, e197, hx197_0, hx197_1, hx197_2⟩ := at_T69 HR0_3.out x7_2 p197 q197
          have hw197_2 := hx197_2
          have hw197_1 := hx197_1
          have hw197_0 := hx197_0
          cases e197
          replace hx197_0 := hx HB.out hx197_0
          replace hx197_1 := hx HB.out hx197_1
          replace hx197_2 := hx HB.out hx197_2
          replace p197 := eq_true p197
          replace q197 := eq_true q197
          have p198 : 0 ≤ (x7_2 : Int) := of_decide_eq_true TA
          have q198 : x7_2 < (l0_3.length : Int) := of_decide_eq_true TA
          obtain ⟨ad198, e198, hx198_0, hx198_1, hx198_2⟩ := at_T69 HR0_3.out x7_2 p198 q198
          have hw198_2 := hx198_2
          have hw198_1 := hx198_1
          have hw198_0 := hx198_0
          obtain rfl : ad197 = ad198 := (by injection e198)
          replace hx198_0 := hx HB.out hx198_0
          replace hx198_1 := hx HB.out hx198_1
          replace hx198_2 := hx HB.out hx198_2
          replace p198 := eq_true p198
          replace q198 := eq_true q198
          have p199 : 0 ≤ (x7_2 : Int) := of_decide_eq_true TA
          have q199 : x7_2 < (l0_3.length : Int) := of_decide_eq_true TA
          obtain ⟨ad199, e199, hx199_0, hx199_1, hx199_2⟩ := at_T69 HR0_3.out x7_2 p199 q199
          have hw199_2 := hx199_2
          have hw199_1 := hx199_1
          have hw199_0 := hx199_0
          obtain rfl : ad197 = ad199 := (by injection e199)
          replace hx199_0 := hx HB.out hx199_0
          replace hx199_1 := hx HB.out hx199_1
          replace hx199_2 := hx HB.out hx199_2
          replace p199 := eq_true p199
          replace q199 := eq_true q199
          refine start_ (n := 29) (S := fun w' => w'.cell? ⟨gb188, 0, none⟩ = some (u189000) ∧ w'.cell? ⟨gb188, 1, none⟩ = some (.int .i64 t186) ∧ w'.cell? ⟨gb188, 2, none⟩ = some (.int .i64 t187) ∧ w'.cell? ⟨gb188, 3, none⟩ = some (u189003) ∧ w'.cell? ⟨gb182, 0, none⟩ = some (.slice A0_0 l0_0.length c0_0) ∧ w'.cell? ⟨gb182, 1, none⟩ = some (.int .i64 a0_1) ∧ w'.cell? ⟨gb182, 2, none⟩ = some (.int .i64 a0_2) ∧ w'.cell? ⟨gb182, 3, none⟩ = some (.slice (some ad197) l0_3.length c0_3) ∧ w'.cell? (ad197.add ((x7_2).toNat * 3)) = some (.int .i64 ((rd_T69 l0_3 x7_2).f0.f0)) ∧ w'.cell? ⟨(ad197.add ((x7_2).toNat * 3)).block, (ad197.add ((x7_2).toNat * 3)).off + 1, none⟩ = some (.int .i64 ((rd_T69 l0_3 x7_2).f0.f1)) ∧ w'.cell? ⟨(ad197.add ((x7_2).toNat * 3)).block, (ad197.add ((x7_2).toNat * 3)).off + 2, none⟩ = some (.int .i64 ((rd_T69 l0_3 x7_2).f1)) ∧ w'.cell? (ad197.add ((x7_2).toNat * 3)) = some (.int .i64 ((rd_T69 l0_3 x7_2).f0.f0)) ∧ w'.cell? ⟨(ad197.add ((x7_2).toNat * 3)).block, (ad197.add ((x7_2).toNat * 3)).off + 1, none⟩ = some (.int .i64 ((rd_T69 l0_3 x7_2).f0.f1)) ∧ w'.cell? ⟨(ad197.add ((x7_2).toNat * 3)).block, (ad197.add ((x7_2).toNat * 3)).off + 2, none⟩ = some (.int .i64 ((rd_T69 l0_3 x7_2).f1)) ∧ w'.cell? (ad197.add ((x7_2).toNat * 3)) = some (.int .i64 ((rd_T69 l0_3 x7_2).f0.f0)) ∧ w'.cell? ⟨(ad197.add ((x7_2).toNat * 3)).block, (ad197.add ((x7_2).toNat * 3)).off + 1, none⟩ = some (.int .i64 ((rd_T69 l0_3 x7_2).f0.f1)) ∧ w'.cell? ⟨(ad197.add ((x7_2).toNat * 3)).block, (ad197.add ((x7_2).toNat * 3)).off + 2, none⟩ = some (.int .i64 ((rd_T69 l0_3 x7_2).f1))) (ds := [28]) (.replicate 29 false) (by kernel_rfl) rfl rfl ⟨czz BK188.out 0, czz BK188.out 1, czz BK188.out 2, czz BK188.out 3, czz BK182.out 0, czz BK182.out 1, czz BK182.out 2, czz BK182.out 3, (hx HB.out hw197_0), (hx HB.out hw197_1), (hx HB.out hw197_2), (hx HB.out hw198_0), (hx HB.out hw198_1), (hx HB.out hw198_2), (hx HB.out hw199_0), (hx HB.out hw199_1), (hx HB.out hw199_2)⟩ (fun hHeld => ?_); refine with_tabW saronlaw03_RaspTurned.tab11 saronlaw03_RaspTurned.bits11 (fun HT_ HW_ => ?_)
          generalize wr.drew = w39 at HO_189000 HO_189003 BK182 BK183 BK188 HB hx197_0 hx197_1 hx197_2 hx198_0 hx198_1 hx198_2 hx199_0 hx199_1 hx199_2 hHeld ⊢
          refine pT 0 79 (bt 29 1) (k := ?_)
          refine pT 2 81 (bt 29 5) (k := ?_)
          refine pT 4 83 (bt 29 21) (k := ?_)
          refine pT 10 89 (bt 29 1045) (k := ?_)
          refine pT 12 91 (bt 29 5141) (k := ?_)
          refine pT 18 97 (bt 29 267285) (k := ?_)
          refine pT 20 99 (bt 29 1315861) (k := ?_)
          refine take_ (i := 1) (N := some 80) (v := ?_) (a' := ?_) (bt 29 1315863) rfl rfl (take_ofW HT_.out HW_.out (by kernel_rfl)) (fun _ _ _ h => h) (Or.inl ⟨by rfl, ?_⟩) hHeld ?_ ?_
          rotate_left
          ·rintro w' ⟨s0, s1, s2, s3, s4, s5, s6, s7, s8, s9, s10, s11, s12, s13, s14, s15, s16⟩
           go_simp
           with_reducible rfl
          rotate_left
          ·simp only [Act.put, lA, lZ, lS, i64_w, i32_w]
           rfl
          refine take_ (i := 3) (N := some 82) (v := ?_) (a' := ?_) (bt 29 1315871) rfl rfl (take_ofW HT_.out HW_.out (by kernel_rfl)) (fun _ _ _ h => h) (Or.inl ⟨by rfl, ?_⟩) hHeld ?_ ?_
          rotate_left
          ·rintro w' ⟨s0, s1, s2, s3, s4, s5, s6, s7, s8, s9, s10, s11, s12, s13, s14, s15, s16⟩
           go_simp
           with_reducible rfl
          rotate_left
          ·simp only [Act.put, lA, lZ, lS, i64_w, i32_w]
           rfl
          refine pT 5 84 (bt 29 1315903) (k := ?_)
          refine pT 6 85 (bt 29 1315967) (k := ?_)
          refine pT 7 86 (bt 29 1316095) (k := ?_)
          refine take_ (i := 8) (N := some 87) (v := ?_) (a' := ?_) (bt 29 1316351) rfl rfl (take_ofW HT_.out HW_.out (by kernel_rfl)) (fun _ _ _ h => h) (Or.inl ⟨by rfl, ?_⟩) hHeld ?_ ?_
          rotate_left
          ·rintro w' ⟨s0, s1, s2, s3, s4, s5, s6, s7, s8, s9, s10, s11, s12, s13, s14, s15, s16⟩
           go_simp
           with_reducible rfl
          rotate_left
          ·simp only [Act.put, lA, lZ, lS, i64_w, i32_w]
           rfl
          refine pT 9 88 (bt 29 1316863) (k := ?_)
          refine take_ (i := 11) (N := some 90) (v := ?_) (a' := ?_) (bt 29 1318911) rfl rfl (take_ofW HT_.out HW_.out (by kernel_rfl)) (fun _ _ _ h => h) (Or.inl ⟨by rfl, ?_⟩) hHeld ?_ ?_
          rotate_left
          ·rintro w' ⟨s0, s1, s2, s3, s4, s5, s6, s7, s8, s9, s10, s11, s12, s13, s14, s15, s16⟩
           go_simp
           with_reducible rfl
          rotate_left
          ·simp only [Act.put, lA, lZ, lS, i64_w, i32_w]
           rfl
          refine pT 13 92 (bt 29 1327103) (k := ?_)
          refine pT 14 93 (bt 29 1343487) (k := ?_)
          refine pT 15 94 (bt 29 1376255) (k := ?_)
          refine take_ (i := 16) (N := some 95) (v := ?_) (a' := ?_) (bt 29 1441791) rfl rfl (take_ofW HT_.out HW_.out (by kernel_rfl)) (fun _ _ _ h => h) (Or.inl ⟨by rfl, ?_⟩) hHeld ?_ ?_
          rotate_left
          ·rintro w' ⟨s0, s1, s2, s3, s4, s5, s6, s7, s8, s9, s10, s11, s12, s13, s14, s15, s16⟩
           go_simp
           with_reducible rfl
          rotate_left
          ·simp only [Act.put, lA, lZ, lS, i64_w, i32_w]
           rfl
          refine pT 17 96 (bt 29 1572863) (k := ?_)
          refine take_ (i := 19) (N := some 98) (v := ?_) (a' := ?_) (bt 29 2097151) rfl rfl (take_ofW HT_.out HW_.out (by kernel_rfl)) (fun _ _ _ h => h) (Or.inl ⟨by rfl, ?_⟩) hHeld ?_ ?_
          rotate_left
          ·rintro w' ⟨s0, s1, s2, s3, s4, s5, s6, s7, s8, s9, s10, s11, s12, s13, s14, s15, s16⟩
           go_simp
           with_reducible rfl
          rotate_left
          ·simp only [Act.put, lA, lZ, lS, i64_w, i32_w]
           rfl
          refine pT 21 100 (bt 29 4194303) (k := ?_)
          refine pT 22 101 (bt 29 8388607) (k := ?_)
          refine take_ (i := 23) (N := some 102) (v := ?_) (a' := ?_) (bt 29 16777215) rfl rfl (take_ofW HT_.out HW_.out (by kernel_rfl)) (fun _ _ _ h => h) (Or.inl ⟨by rfl, ?_⟩) hHeld ?_ ?_
          rotate_left
          ·rintro w' ⟨s0, s1, s2, s3, s4, s5, s6, s7, s8, s9, s10, s11, s12, s13, s14, s15, s16⟩
           go_simp
           with_reducible rfl
          rotate_left
          ·simp only [Act.put, lA, lZ, lS, i64_w, i32_w]
           rfl
          refine one_ (i := 24) (N := some 103) (bt 29 33554431) rfl rfl (one_of HT_.out (by kernel_rfl)) (by decide) (fun K hK => ?_)
          refine goes_ Tryd.func48 (by kernel_rfl) rfl #[.int .i64 (wrap64 (-((rd_T69 l0_3 x7_2).f0.f1))), .int .i64 (wrap64 (-((rd_T69 l0_3 x7_2).f0.f0))), .int .i64 ((rd_T69 l0_3 x7_2).f1)] (by rfl) rfl rfl TM ?_
          with_reducible refine (saronlaw03_key.calls (wrap64 (-((rd_T69 l0_3 x7_2).f0.f1))) (wrap64 (-((rd_T69 l0_3 x7_2).f0.f0))) ((rd_T69 l0_3 x7_2).f1) t200 t201 t202 _ A34.out).mono ?_
          rintro e w40 ⟨rfl, hb⟩
          refine ⟨_, rfl, ?_⟩
          have n0_ := Aside0.mk (Kd.R_below (TRo HO_189000.out) hb)
          have n1_ := Aside0.mk (Kd.R_below (TRo HO_189003.out) hb)
          have n2_ := Aside0.mk (blk_below (g := gb182) (o := .cells #[.slice A0_0 l0_0.length c0_0, .int .i64 a0_1, .int .i64 a0_2, .slice (some ad197) l0_3.length c0_3] 27 (0, 0)) (by (with_reducible repeat (first | refine blk_drewN ?_ _ | refine blk_drew ?_ | refine blk_alloc ?_ _)); exact BK182.out) hb)
          have n3_ := Aside0.mk (blk_below (g := gb183) (o := .cells #[.int .i64 a1_0, .int .i64 a1_1] 28 (0, 0)) (by (with_reducible repeat (first | refine blk_drewN ?_ _ | refine blk_drew ?_ | refine blk_alloc ?_ _)); exact BK183.out) hb)
          have n4_ := Aside0.mk (blk_below (g := gb188) (o := .cells #[u189000, .int .i64 t186, .int .i64 t187, u189003] 27 (0, 0)) (by (with_reducible repeat (first | refine blk_drewN ?_ _ | refine blk_drew ?_ | refine blk_alloc ?_ _)); exact BK188.out) hb)
          have n5_ := Aside0.mk (below_step (TB3 GE182.out GE183.out GE188.out) hb)
          clear HO_189000
          clear HO_189003
          clear BK182
          clear BK183
          clear BK188
          clear HB
          have HO_189000 := n0_
          have HO_189003 := n1_
          have BK182 := n2_
          have BK183 := n3_
          have BK188 := n4_
          have HB := n5_
          clear n0_ n1_ n2_ n3_ n4_ n5_
          (try clear hb)
          (try clear hb2)
          (try clear hk)
          (try clear hi)
          refine hK.out _ _ ⟨czz BK188.out 0, czz BK188.out 1, czz BK188.out 2, czz BK188.out 3, czz BK182.out 0, czz BK182.out 1, czz BK182.out 2, czz BK182.out 3, (hx HB.out hw197_0), (hx HB.out hw197_1), (hx HB.out hw197_2), (hx HB.out hw198_0), (hx HB.out hw198_1), (hx HB.out hw198_2), (hx HB.out hw199_0), (hx HB.out hw199_1), (hx HB.out hw199_2)⟩ (fun hHeld => ?_)
          clear hK K
          refine norm_ (a' := ?_) ?_ ?_
          rotate_left
          ·show Act.put _ (some 103) _ = _
           simp only [Act.put, lA, lZ, lS, i64_w, i32_w]
           rfl
          refine one_ (i := 25) (N := some 104) (bt 29 67108863) rfl rfl (one_of HT_.out (by kernel_rfl)) (by decide) (fun K hK => ?_)
          refine value_ (w1 := ?_) (v := ?_) (by rfl) rfl ?_ ?_
          rotate_left 2
          ·go_simp
           constructor
           ·rfl
           ·rfl
          refine hK.out _ _ ⟨(blk_cell (blk_alloc BK188.out _) 0).trans rfl, (blk_cell (blk_alloc BK188.out _) 1).trans rfl, (blk_cell (blk_alloc BK188.out _) 2).trans rfl, (blk_cell (blk_alloc BK188.out _) 3).trans rfl, (blk_cell (blk_alloc BK182.out _) 0).trans rfl, (blk_cell (blk_alloc BK182.out _) 1).trans rfl, (blk_cell (blk_alloc BK182.out _) 2).trans rfl, (blk_cell (blk_alloc BK182.out _) 3).trans rfl, (World.cell?_alloc_lt _ _ _ (World.block_lt_of_cell? _ _ ((hx HB.out hw197_0)))).trans ((hx HB.out hw197_0)), (World.cell?_alloc_lt _ _ _ (World.block_lt_of_cell? _ _ ((hx HB.out hw197_1)))).trans ((hx HB.out hw197_1)), (World.cell?_alloc_lt _ _ _ (World.block_lt_of_cell? _ _ ((hx HB.out hw197_2)))).trans ((hx HB.out hw197_2)), (World.cell?_alloc_lt _ _ _ (World.block_lt_of_cell? _ _ ((hx HB.out hw198_0)))).trans ((hx HB.out hw198_0)), (World.cell?_alloc_lt _ _ _ (World.block_lt_of_cell? _ _ ((hx HB.out hw198_1)))).trans ((hx HB.out hw198_1)), (World.cell?_alloc_lt _ _ _ (World.block_lt_of_cell? _ _ ((hx HB.out hw198_2)))).trans ((hx HB.out hw198_2)), (World.cell?_alloc_lt _ _ _ (World.block_lt_of_cell? _ _ ((hx HB.out hw199_0)))).trans ((hx HB.out hw199_0)), (World.cell?_alloc_lt _ _ _ (World.block_lt_of_cell? _ _ ((hx HB.out hw199_1)))).trans ((hx HB.out hw199_1)), (World.cell?_alloc_lt _ _ _ (World.block_lt_of_cell? _ _ ((hx HB.out hw199_2)))).trans ((hx HB.out hw199_2))⟩ (fun hHeld => ?_)
          clear hK K
          refine norm_ (a' := ?_) ?_ ?_
          rotate_left
          ·show Act.put _ (some 104) _ = _
           simp only [Act.put, lA, lZ, lS, i64_w, i32_w]
           rfl
          refine one_ (i := 26) (N := some 105) (bt 29 134217727) rfl rfl (one_of HT_.out (by kernel_rfl)) (by decide) (fun K hK => ?_)
          refine Kd.R_append_step k69 (w0 := w) w.heap.size (by rfl) (.tmp 80) (.tmp 104) 25 69 (.agg #[(.int .i64 0), (.int .i64 0), (.int .i64 0)]) 24 rfl Tryd.underlying25 info69 rfl (by decide) (by omega) u189003 x189003_2 (⟨(⟨t200, t201⟩ : S24), t202⟩ : S69) [.int .i64 t200, .int .i64 t201, .int .i64 t202] (fun _ => True) (fun _ => False) rfl rfl ?aP (fun _ hk => hk.elim) ?aF ?aO ?aB ?aS ?aL ?_
          (case aP => exact k69_mkM _ _ _ (⟨(⟨t200, t201⟩ : S24), t202⟩ : S69))
          (case aB => exact (TB3 GE182.out GE183.out GE188.out))
          (case aF => exact (fun _ _ => trivial))
          (case aO => exact (TRo HO_189003.out))
          (case aS => exact (below_size (TB3 GE182.out GE183.out GE188.out)))
          (case aL => have := LMc35.out; omega)
          intro v204 w41 ho hb hg hat
          rw [← Ny203.out] at ho
          have n0_ := Aside0.mk (Kd.R_over' (TRo HO_189000.out) (Kd.R_typed (TRo HO_189003.out)) (by decide) hg)
          have n1_ := Aside0.mk (blk_grown (g := gb182) (o := .cells #[.slice A0_0 l0_0.length c0_0, .int .i64 a0_1, .int .i64 a0_2, .slice (some ad197) l0_3.length c0_3] 27 (0, 0)) (by (with_reducible repeat (first | refine blk_drewN ?_ _ | refine blk_drew ?_ | refine blk_alloc ?_ _)); exact BK182.out) hg (Kd.R_ne HO_189003.out BK182.out (by decide)))
          have n2_ := Aside0.mk (blk_grown (g := gb183) (o := .cells #[.int .i64 a1_0, .int .i64 a1_1] 28 (0, 0)) (by (with_reducible repeat (first | refine blk_drewN ?_ _ | refine blk_drew ?_ | refine blk_alloc ?_ _)); exact BK183.out) hg (Kd.R_ne HO_189003.out BK183.out (by decide)))
          have n3_ := Aside0.mk (blk_grown (g := gb188) (o := .cells #[u189000, .int .i64 t186, .int .i64 t187, u189003] 27 (0, 0)) (by (with_reducible repeat (first | refine blk_drewN ?_ _ | refine blk_drew ?_ | refine blk_alloc ?_ _)); exact BK188.out) hg (Kd.R_ne HO_189003.out BK188.out (by decide)))
          have n4_ := Aside0.mk (hb)
          have n5_ := Aside0.mk (ho)
          clear HO_189000
          clear BK182
          clear BK183
          clear BK188
          clear HB
          clear HO_189003
          have HO_189000 := n0_
          have BK182 := n1_
          have BK183 := n2_
          have BK188 := n3_
          have HB := n4_
          have HO205 := n5_
          clear n0_ n1_ n2_ n3_ n4_ n5_
          clear ho hb hg hat
          obtain ⟨Ao42, co42, eo42⟩ := Kd.R_slice HO205.out
          (first | subst eo42 | (injection eo42 with f1_ f2_ f3_; have f4_ := f1_.symm; have f5_ := f3_.symm; clear f1_ f2_ f3_; subst f4_; subst f5_))
          refine hK.out _ _ ⟨czz BK188.out 0, czz BK188.out 1, czz BK188.out 2, czz BK188.out 3, czz BK182.out 0, czz BK182.out 1, czz BK182.out 2, czz BK182.out 3, (hx HB.out hw197_0), (hx HB.out hw197_1), (hx HB.out hw197_2), (hx HB.out hw198_0), (hx HB.out hw198_1), (hx HB.out hw198_2), (hx HB.out hw199_0), (hx HB.out hw199_1), (hx HB.out hw199_2)⟩ (fun hHeld => ?_)
          clear hK K
          refine norm_ (a' := ?_) ?_ ?_
          rotate_left
          ·show Act.put _ (some 105) _ = _
           simp only [Act.put, lA, lZ, lS, i64_w, i32_w]
           rfl
          refine pT 27 106 (bt 29 268435455) (k := ?_)
          refine last_ (i := 28) (N := none) (bt 29 536870911) rfl rfl (one_of HT_.out (by kernel_rfl)) (by decide) (fun K hK => ?_)
          have hs43 : w41.cell? ⟨gb188, 3, none⟩ = some (u189003) := czz BK188.out 3
          have hfs43 := fz BK188.out 3
          have hns43_0 := NB182_188.out
          have hns43_1 := NB183_188.out
          have hms43_0 := NB188_182.out
          have hms43_1 := NB188_183.out
          refine skip_ (w1 := ?_) (by rfl) rfl ?_ ?_
          rotate_left
          ·go_simp
           rfl
          refine hK.out _ _ ?_
          clear hK K
          refine done_ (done_of HT_.out (by kernel_rfl)) ?_
          try go_wp2
          go_roundg k2
          case measure => have := HK1.out; have := HK2.out; omega
          case rel => exact ⟨(wrap64 (x7_2 + 1)), (y203), (.slice Ao42 y203.length co42), TT, H', ⟨by have := HK1.out; have := HK2.out; omega⟩, ⟨by (with_reducible repeat (first | apply Kd.R_alloc | apply Kd.R_drewN | apply Kd.R_drew)); exact Kd.R_mono (Kd.R_far (p := ⟨gb188, 3, none⟩) (Kd.R_types HO_189000.out BK188.out (by decide)) (fun _ hk => hk.2) (.slice Ao42 y203.length co42)) (fun _ hk => trivial)⟩, ⟨by (with_reducible repeat (first | apply Kd.R_alloc | apply Kd.R_drewN | apply Kd.R_drew)); exact Kd.R_mono (Kd.R_far (p := ⟨gb188, 3, none⟩) (Kd.R_types HO205.out BK188.out (by decide)) (fun _ hk => hk.2) (.slice Ao42 y203.length co42)) (fun _ hk => trivial)⟩, ⟨by (with_reducible repeat (first | refine blk_drewN ?_ _ | refine blk_drew ?_ | refine blk_alloc ?_ _)); refine blk_far ?_ NB182_188.out _; (with_reducible repeat (first | refine blk_drewN ?_ _ | refine blk_drew ?_ | refine blk_alloc ?_ _)); exact BK182.out⟩, ⟨by (with_reducible repeat (first | refine blk_drewN ?_ _ | refine blk_drew ?_ | refine blk_alloc ?_ _)); refine blk_far ?_ NB183_188.out _; (with_reducible repeat (first | refine blk_drewN ?_ _ | refine blk_drew ?_ | refine blk_alloc ?_ _)); exact BK183.out⟩, ⟨by (with_reducible repeat (first | refine blk_drewN ?_ _ | refine blk_drew ?_ | refine blk_alloc ?_ _)); refine blk_put (cs := #[u189000, .int .i64 t186, .int .i64 t187, u189003]) ?_ 3 _ rfl; (with_reducible repeat (first | refine blk_drewN ?_ _ | refine blk_drew ?_ | refine blk_alloc ?_ _)); exact BK188.out⟩, ⟨TB3 GE182.out GE183.out GE188.out⟩⟩
         ·rw [if_neg c35] at H
          exact absurd H (by simp)
        ·rw [if_neg c33] at H
         exact absurd H (by simp)
       ·rw [if_neg c32] at H
        have c32b0 : decide (x7_2 < (l0_3.length : Int)) = false := decide_eq_false c32
        clear c32
        replace H := Option.bind_eq_some_iff.mp H
        obtain ⟨⟨t206, t207⟩, A440, H⟩ := H
        replace H : ((rasp_Next.f l0_0 a0_1 a0_2 l0_3 t206 t207).bind fun bt208 => ((rasp_Next.f x189000_1 t186 t187 x189003_2 (wrap64 (-t206)) t207).bind fun bt211 => ((rasp_Need.f l0_0 a0_1 a0_2 l0_3 t206).bind fun bt214 => ((rasp_Need.f x189000_1 t186 t187 x189003_2 (wrap64 (-t206))).bind fun bt216 => (if bt208.1 = bt211.1 then (if bt208.2.1 = bt211.2.1 then (if bt208.2.2 = bt211.2.2 then (if bt214.1 = bt216.1 then (saronlaw03_RaspTurned.j2 k2 t206 t207 (bt214.2 != bt216.2) l0_0 a0_1 a0_2 l0_3 x189000_1 t186 t187 x189003_2) else (saronlaw03_RaspTurned.j2 k2 t206 t207 true l0_0 a0_1 a0_2 l0_3 x189000_1 t186 t187 x189003_2)) else (saronlaw03_RaspTurned.j2 k2 t206 t207 true l0_0 a0_1 a0_2 l0_3 x189000_1 t186 t187 x189003_2)) else (saronlaw03_RaspTurned.j2 k2 t206 t207 true l0_0 a0_1 a0_2 l0_3 x189000_1 t186 t187 x189003_2)) else (saronlaw03_RaspTurned.j2 k2 t206 t207 true l0_0 a0_1 a0_2 l0_3 x189000_1 t186 t187 x189003_2)))))) = some r := H
        have A44 := Aside0.mk A440
        clear A440
        replace H := Option.bind_eq_some_iff.mp H
        obtain ⟨⟨t208, t209, t210⟩, A450, H⟩ := H
        replace H : ((rasp_Next.f x189000_1 t186 t187 x189003_2 (wrap64 (-t206)) t207).bind fun bt211 => ((rasp_Need.f l0_0 a0_1 a0_2 l0_3 t206).bind fun bt214 => ((rasp_Need.f x189000_1 t186 t187 x189003_2 (wrap64 (-t206))).bind fun bt216 => (if t208 = bt211.1 then (if t209 = bt211.2.1 then (if t210 = bt211.2.2 then (if bt214.1 = bt216.1 then (saronlaw03_RaspTurned.j2 k2 t206 t207 (bt214.2 != bt216.2) l0_0 a0_1 a0_2 l0_3 x189000_1 t186 t187 x189003_2) else (saronlaw03_RaspTurned.j2 k2 t206 t207 true l0_0 a0_1 a0_2 l0_3 x189000_1 t186 t187 x189003_2)) else (saronlaw03_RaspTurned.j2 k2 t206 t207 true l0_0 a0_1 a0_2 l0_3 x189000_1 t186 t187 x189003_2)) else (saronlaw03_RaspTurned.j2 k2 t206 t207 true l0_0 a0_1 a0_2 l0_3 x189000_1 t186 t187 x189003_2)) else (saronlaw03_RaspTurned.j2 k2 t206 t207 true l0_0 a0_1 a0_2 l0_3 x189000_1 t186 t187 x189003_2))))) = some r := H
        have A45 := Aside0.mk A450
        clear A450
        replace H := Option.bind_eq_some_iff.mp H
        obtain ⟨⟨t211, t212, t213⟩, A460, H⟩ := H
        replace H : ((rasp_Need.f l0_0 a0_1 a0_2 l0_3 t206).bind fun bt214 => ((rasp_Need.f x189000_1 t186 t187 x189003_2 (wrap64 (-t206))).bind fun bt216 => (if t208 = t211 then (if t209 = t212 then (if t210 = t213 then (if bt214.1 = bt216.1 then (saronlaw03_RaspTurned.j2 k2 t206 t207 (bt214.2 != bt216.2) l0_0 a0_1 a0_2 l0_3 x189000_1 t186 t187 x189003_2) else (saronlaw03_RaspTurned.j2 k2 t206 t207 true l0_0 a0_1 a0_2 l0_3 x189000_1 t186 t187 x189003_2)) else (saronlaw03_RaspTurned.j2 k2 t206 t207 true l0_0 a0_1 a0_2 l0_3 x189000_1 t186 t187 x189003_2)) else (saronlaw03_RaspTurned.j2 k2 t206 t207 true l0_0 a0_1 a0_2 l0_3 x189000_1 t186 t187 x189003_2)) else (saronlaw03_RaspTurned.j2 k2 t206 t207 true l0_0 a0_1 a0_2 l0_3 x189000_1 t186 t187 x189003_2)))) = some r := H
        have A46 := Aside0.mk A460
        clear A460
        replace H := Option.bind_eq_some_iff.mp H
        obtain ⟨⟨t214, t215⟩, A470, H⟩ := H
        replace H : ((rasp_Need.f x189000_1 t186 t187 x189003_2 (wrap64 (-t206))).bind fun bt216 => (if t208 = t211 then (if t209 = t212 then (if t210 = t213 then (if t214 = bt216.1 then (saronlaw03_RaspTurned.j2 k2 t206 t207 (t215 != bt216.2) l0_0 a0_1 a0_2 l0_3 x189000_1 t186 t187 x189003_2) else (saronlaw03_RaspTurned.j2 k2 t206 t207 true l0_0 a0_1 a0_2 l0_3 x189000_1 t186 t187 x189003_2)) else (saronlaw03_RaspTurned.j2 k2 t206 t207 true l0_0 a0_1 a0_2 l0_3 x189000_1 t186 t187 x189003_2)) else (saronlaw03_RaspTurned.j2 k2 t206 t207 true l0_0 a0_1 a0_2 l0_3 x189000_1 t186 t187 x189003_2)) else (saronlaw03_RaspTurned.j2 k2 t206 t207 true l0_0 a0_1 a0_2 l0_3 x189000_1 t186 t187 x189003_2))) = some r := H
        have A47 := Aside0.mk A470
        clear A470
        replace H := Option.bind_eq_some_iff.mp H
        obtain ⟨⟨t216, t217⟩, A480, H⟩ := H
        replace H : (if t208 = t211 then (if t209 = t212 then (if t210 = t213 then (if t214 = t216 then (saronlaw03_RaspTurned.j2 k2 t206 t207 (t215 != t217) l0_0 a0_1 a0_2 l0_3 x189000_1 t186 t187 x189003_2) else (saronlaw03_RaspTurned.j2 k2 t206 t207 true l0_0 a0_1 a0_2 l0_3 x189000_1 t186 t187 x189003_2)) else (saronlaw03_RaspTurned.j2 k2 t206 t207 true l0_0 a0_1 a0_2 l0_3 x189000_1 t186 t187 x189003_2)) else (saronlaw03_RaspTurned.j2 k2 t206 t207 true l0_0 a0_1 a0_2 l0_3 x189000_1 t186 t187 x189003_2)) else (saronlaw03_RaspTurned.j2 k2 t206 t207 true l0_0 a0_1 a0_2 l0_3 x189000_1 t186 t187 x189003_2)) = some r := H
        have A48 := Aside0.mk A480
        clear A480
        have HC49 := Aside0.mk H
        clear H
        have hnb50 := NB182_183.out
        have hnc50 := NB183_182.out
        have hnb51 := NB182_188.out
        have hnc51 := NB188_182.out
        have hcz52_0 := czz BK182.out 0
        have hcz52_1 := czz BK182.out 1
        have hcz52_2 := czz BK182.out 2
        have hcz52_3 := czz BK182.out 3
        have hfz52_0 := fz BK182.out 0
        have hfz52_1 := fz BK182.out 1
        have hfz52_2 := fz BK182.out 2
        have hfz52_3 := fz BK182.out 3
        have hnb53 := NB183_188.out
        have hnc53 := NB188_183.out
        have hcz54_0 := czz BK183.out 0
        have hcz54_1 := czz BK183.out 1
        have hfz54_0 := fz BK183.out 0
        have hfz54_1 := fz BK183.out 1
        go_upto_region 17 with (first | ((with_reducible refine gate_callee (f := 38) rfl ?_); refine goesL_ (some 109) rfl rfl Tryd.func38 (by kernel_rfl) rfl #[.agg #[.int .i64 a1_0, .int .i64 a1_1]] rfl TM ?_; (with_reducible refine (saronlaw03_state.calls a1_0 a1_1 t206 t207 _ A44.out).mono ?_); rintro e w55 ⟨rfl, hb⟩; refine ⟨_, rfl, ?_⟩; replace HO_189000 := Aside0.mk (Kd.R_below (TRo HO_189000.out) hb); replace HO_189003 := Aside0.mk (Kd.R_below (TRo HO_189003.out) hb); replace BK182 := Aside0.mk (blk_below (g := gb182) (o := .cells #[.slice A0_0 l0_0.length c0_0, .int .i64 a0_1, .int .i64 a0_2, .slice A0_3 l0_3.length c0_3] 27 (0, 0)) (by (with_reducible repeat (first | refine blk_drewN ?_ _ | refine blk_drew ?_ | refine blk_alloc ?_ _)); exact BK182.out) hb); replace BK183 := Aside0.mk (blk_below (g := gb183) (o := .cells #[.int .i64 a1_0, .int .i64 a1_1] 28 (0, 0)) (by (with_reducible repeat (first | refine blk_drewN ?_ _ | refine blk_drew ?_ | refine blk_alloc ?_ _)); exact BK183.out) hb); replace BK188 := Aside0.mk (blk_below (g := gb188) (o := .cells #[u189000, .int .i64 t186, .int .i64 t187, u189003] 27 (0, 0)) (by (with_reducible repeat (first | refine blk_drewN ?_ _ | refine blk_drew ?_ | refine blk_alloc ?_ _)); exact BK188.out) hb); replace HB := Aside0.mk (below_step (TB3 GE182.out GE183.out GE188.out) hb); (try clear hb); (try clear hb2); (try clear hk); (try clear hi); have hcz56_0 := czz BK182.out 0; have hcz56_1 := czz BK182.out 1; have hcz56_2 := czz BK182.out 2; have hcz56_3 := czz BK182.out 3; have hfz56_0 := fz BK182.out 0; have hfz56_1 := fz BK182.out 1; have hfz56_2 := fz BK182.out 2; have hfz56_3 := fz BK182.out 3) | ((with_reducible refine gate_callee (f := 16) rfl ?_); refine goesL_ (some 116) rfl rfl Tryd.func16 (by kernel_rfl) rfl #[.agg #[.slice A0_0 l0_0.length c0_0, .int .i64 a0_1, .int .i64 a0_2, .slice A0_3 l0_3.length c0_3], .int .i64 t206, .int .i64 t207] rfl TM ?_; (with_reducible refine (rasp_Next.calls _ _ l0_0 a0_1 a0_2 _ _ l0_3 t206 t207 t208 t209 t210 _ ?side1 ?side2 ?side3 ?side4 ?side5 A45.out).mono ?_); (case side1 => exact TC HR0_0.out); (case side2 => exact HC0_0.out); (case side3 => exact TC HR0_3.out); (case side4 => exact HC0_3.out); (case side5 => exact Glob.fr HG.out (Fr.of_below (TB3 GE182.out GE183.out GE188.out))); rintro e w57 ⟨rfl, hb⟩; refine ⟨_, rfl, ?_⟩; replace HO_189000 := Aside0.mk (Kd.R_below (TRo HO_189000.out) hb); replace HO_189003 := Aside0.mk (Kd.R_below (TRo HO_189003.out) hb); replace BK182 := Aside0.mk (blk_below (g := gb182) (o := .cells #[.slice A0_0 l0_0.length c0_0, .int .i64 a0_1, .int .i64 a0_2, .slice A0_3 l0_3.length c0_3] 27 (0, 0)) (by (with_reducible repeat (first | refine blk_drewN ?_ _ | refine blk_drew ?_ | refine blk_alloc ?_ _)); exact BK182.out) hb); replace BK183 := Aside0.mk (blk_below (g := gb183) (o := .cells #[.int .i64 a1_0, .int .i64 a1_1] 28 (0, 0)) (by (with_reducible repeat (first | refine blk_drewN ?_ _ | refine blk_drew ?_ | refine blk_alloc ?_ _)); exact BK183.out) hb); replace BK188 := Aside0.mk (blk_below (g := gb188) (o := .cells #[u189000, .int .i64 t186, .int .i64 t187, u189003] 27 (0, 0)) (by (with_reducible repeat (first | refine blk_drewN ?_ _ | refine blk_drew ?_ | refine blk_alloc ?_ _)); exact BK188.out) hb); replace HB := Aside0.mk (below_step (TB3 GE182.out GE183.out GE188.out) hb); (try clear hb); (try clear hb2); (try clear hk); (try clear hi); have hcz58_0 := czz BK188.out 0; have hcz58_1 := czz BK188.out 1; have hcz58_2 := czz BK188.out 2; have hcz58_3 := czz BK188.out 3; have hfz58_0 := fz BK188.out 0; have hfz58_1 := fz BK188.out 1; have hfz58_2 := fz BK188.out 2; have hfz58_3 := fz BK188.out 3; obtain ⟨Ao59, co59, eo59⟩ := Kd.R_slice HO_189000.out; subst eo59; obtain ⟨Ao60, co60, eo60⟩ := Kd.R_slice HO_189003.out; subst eo60) | ((with_reducible refine gate_callee (f := 16) rfl ?_); refine goesL_ (some 125) rfl rfl Tryd.func16 (by kernel_rfl) rfl #[.agg #[.slice Ao59 x189000_1.length co59, .int .i64 t186, .int .i64 t187, .slice Ao60 x189003_2.length co60], .int .i64 (wrap64 (-t206)), .int .i64 t207] rfl TM ?_; (with_reducible refine (rasp_Next.calls _ _ x189000_1 t186 t187 _ _ x189003_2 (wrap64 (-t206)) t207 t211 t212 t213 _ ?side1 ?side2 ?side3 ?side4 ?side5 A46.out).mono ?_); (case side1 => repeat (first | exact (Kd.R_reads' HO_189000.out).2.2 | (with_reducible refine Kd.C_alloc ?_ _) | (with_reducible refine Kd.C_drewN ?_ _) | (with_reducible refine Kd.C_drew ?_))); (case side2 => exact (Kd.R_reads' HO_189000.out).2.1); (case side3 => repeat (first | exact (Kd.R_reads' HO_189003.out).2.2 | (with_reducible refine Kd.C_alloc ?_ _) | (with_reducible refine Kd.C_drewN ?_ _) | (with_reducible refine Kd.C_drew ?_))); (case side4 => exact (Kd.R_reads' HO_189003.out).2.1); (case side5 => exact Glob.fr HG.out (Fr.of_below (TB3 GE182.out GE183.out GE188.out))); rintro e w61 ⟨rfl, hb⟩; refine ⟨_, rfl, ?_⟩; replace HO_189000 := Aside0.mk (Kd.R_below (TRo HO_189000.out) hb); replace HO_189003 := Aside0.mk (Kd.R_below (TRo HO_189003.out) hb); replace BK182 := Aside0.mk (blk_below (g := gb182) (o := .cells #[.slice A0_0 l0_0.length c0_0, .int .i64 a0_1, .int .i64 a0_2, .slice A0_3 l0_3.length c0_3] 27 (0, 0)) (by (with_reducible repeat (first | refine blk_drewN ?_ _ | refine blk_drew ?_ | refine blk_alloc ?_ _)); exact BK182.out) hb); replace BK183 := Aside0.mk (blk_below (g := gb183) (o := .cells #[.int .i64 a1_0, .int .i64 a1_1] 28 (0, 0)) (by (with_reducible repeat (first | refine blk_drewN ?_ _ | refine blk_drew ?_ | refine blk_alloc ?_ _)); exact BK183.out) hb); replace BK188 := Aside0.mk (blk_below (g := gb188) (o := .cells #[.slice Ao59 x189000_1.length co59, .int .i64 t186, .int .i64 t187, .slice Ao60 x189003_2.length co60] 27 (0, 0)) (by (with_reducible repeat (first | refine blk_drewN ?_ _ | refine blk_drew ?_ | refine blk_alloc ?_ _)); exact BK188.out) hb); replace HB := Aside0.mk (below_step (TB3 GE182.out GE183.out GE188.out) hb); (try clear hb); (try clear hb2); (try clear hk); (try clear hi); have hcz62_0 := czz BK182.out 0; have hcz62_1 := czz BK182.out 1; have hcz62_2 := czz BK182.out 2; have hcz62_3 := czz BK182.out 3; have hfz62_0 := fz BK182.out 0; have hfz62_1 := fz BK182.out 1; have hfz62_2 := fz BK182.out 2; have hfz62_3 := fz BK182.out 3) | ((with_reducible refine gate_callee (f := 30) rfl ?_); refine goesL_ (some 132) rfl rfl Tryd.func30 (by kernel_rfl) rfl #[.agg #[.slice A0_0 l0_0.length c0_0, .int .i64 a0_1, .int .i64 a0_2, .slice A0_3 l0_3.length c0_3], .int .i64 t206] rfl TM ?_; (with_reducible refine (rasp_Need.calls _ _ l0_0 a0_1 a0_2 _ _ l0_3 t206 t214 t215 _ ?side1 ?side2 ?side3 ?side4 ?side5 A47.out).mono ?_); (case side1 => exact TC HR0_0.out); (case side2 => exact HC0_0.out); (case side3 => exact TC HR0_3.out); (case side4 => exact HC0_3.out); (case side5 => exact Glob.fr HG.out (Fr.of_below (TB3 GE182.out GE183.out GE188.out))); rintro e w63 ⟨rfl, hb⟩; refine ⟨_, rfl, ?_⟩; replace HO_189000 := Aside0.mk (Kd.R_below (TRo HO_189000.out) hb); replace HO_189003 := Aside0.mk (Kd.R_below (TRo HO_189003.out) hb); replace BK182 := Aside0.mk (blk_below (g := gb182) (o := .cells #[.slice A0_0 l0_0.length c0_0, .int .i64 a0_1, .int .i64 a0_2, .slice A0_3 l0_3.length c0_3] 27 (0, 0)) (by (with_reducible repeat (first | refine blk_drewN ?_ _ | refine blk_drew ?_ | refine blk_alloc ?_ _)); exact BK182.out) hb); replace BK183 := Aside0.mk (blk_below (g := gb183) (o := .cells #[.int .i64 a1_0, .int .i64 a1_1] 28 (0, 0)) (by (with_reducible repeat (first | refine blk_drewN ?_ _ | refine blk_drew ?_ | refine blk_alloc ?_ _)); exact BK183.out) hb); replace BK188 := Aside0.mk (blk_below (g := gb188) (o := .cells #[.slice Ao59 x189000_1.length co59, .int .i64 t186, .int .i64 t187, .slice Ao60 x189003_2.length co60] 27 (0, 0)) (by (with_reducible repeat (first | refine blk_drewN ?_ _ | refine blk_drew ?_ | refine blk_alloc ?_ _)); exact BK188.out) hb); replace HB := Aside0.mk (below_step (TB3 GE182.out GE183.out GE188.out) hb); (try clear hb); (try clear hb2); (try clear hk); (try clear hi); have hcz64_0 := czz BK188.out 0; have hcz64_1 := czz BK188.out 1; have hcz64_2 := czz BK188.out 2; have hcz64_3 := czz BK188.out 3; have hfz64_0 := fz BK188.out 0; have hfz64_1 := fz BK188.out 1; have hfz64_2 := fz BK188.out 2; have hfz64_3 := fz BK188.out 3) | ((with_reducible refine gate_callee (f := 30) rfl ?_); refine goesL_ (some 139) rfl rfl Tryd.func30 (by kernel_rfl) rfl #[.agg #[.slice Ao59 x189000_1.length co59, .int .i64 t186, .int .i64 t187, .slice Ao60 x189003_2.length co60], .int .i64 (wrap64 (-t206))] rfl TM ?_; (with_reducible refine (rasp_Need.calls _ _ x189000_1 t186 t187 _ _ x189003_2 (wrap64 (-t206)) t216 t217 _ ?side1 ?side2 ?side3 ?side4 ?side5 A48.out).mono ?_); (case side1 => repeat (first | exact (Kd.R_reads' HO_189000.out).2.2 | (with_reducible refine Kd.C_alloc ?_ _) | (with_reducible refine Kd.C_drewN ?_ _) | (with_reducible refine Kd.C_drew ?_))); (case side2 => exact (Kd.R_reads' HO_189000.out).2.1); (case side3 => repeat (first | exact (Kd.R_reads' HO_189003.out).2.2 | (with_reducible refine Kd.C_alloc ?_ _) | (with_reducible refine Kd.C_drewN ?_ _) | (with_reducible refine Kd.C_drew ?_))); (case side4 => exact (Kd.R_reads' HO_189003.out).2.1); (case side5 => exact Glob.fr HG.out (Fr.of_below (TB3 GE182.out GE183.out GE188.out))); rintro e w65 ⟨rfl, hb⟩; refine ⟨_, rfl, ?_⟩; replace HO_189000 := Aside0.mk (Kd.R_below (TRo HO_189000.out) hb); replace HO_189003 := Aside0.mk (Kd.R_below (TRo HO_189003.out) hb); replace BK182 := Aside0.mk (blk_below (g := gb182) (o := .cells #[.slice A0_0 l0_0.length c0_0, .int .i64 a0_1, .int .i64 a0_2, .slice A0_3 l0_3.length c0_3] 27 (0, 0)) (by (with_reducible repeat (first | refine blk_drewN ?_ _ | refine blk_drew ?_ | refine blk_alloc ?_ _)); exact BK182.out) hb); replace BK183 := Aside0.mk (blk_below (g := gb183) (o := .cells #[.int .i64 a1_0, .int .i64 a1_1] 28 (0, 0)) (by (with_reducible repeat (first | refine blk_drewN ?_ _ | refine blk_drew ?_ | refine blk_alloc ?_ _)); exact BK183.out) hb); replace BK188 := Aside0.mk (blk_below (g := gb188) (o := .cells #[.slice Ao59 x189000_1.length co59, .int .i64 t186, .int .i64 t187, .slice Ao60 x189003_2.length co60] 27 (0, 0)) (by (with_reducible repeat (first | refine blk_drewN ?_ _ | refine blk_drew ?_ | refine blk_alloc ?_ _)); exact BK188.out) hb); replace HB := Aside0.mk (below_step (TB3 GE182.out GE183.out GE188.out) hb); (try clear hb); (try clear hb2); (try clear hk); (try clear hi)))
        (try simp only [Act.put, lA, lZ, lS])
        go_cut [164] (fun v164 wc => ∃ (kq : Nat) (x164_48 : Bool), v164 = .bool x164_48 ∧ Aside0 (saronlaw03_RaspTurned.j2 kq t206 t207 x164_48 l0_0 a0_1 a0_2 l0_3 x189000_1 t186 t187 x189003_2 = some r) ∧ Aside0 (kq ≤ k2) ∧ Aside0 (Kd.R k57 57 wc w.heap.size (fun _ => True) (.slice Ao59 x189000_1.length co59) x189000_1) ∧ Aside0 (Kd.R k69 69 wc w.heap.size (fun _ => True) (.slice Ao60 x189003_2.length co60) x189003_2) ∧ Aside0 (wc.heap[gb182]? = some (.cells #[(.slice A0_0 l0_0.length c0_0), .int .i64 a0_1, .int .i64 a0_2, (.slice A0_3 l0_3.length c0_3)] 27 (0, 0))) ∧ Aside0 (wc.heap[gb183]? = some (.cells #[.int .i64 a1_0, .int .i64 a1_1] 28 (0, 0))) ∧ Aside0 (wc.heap[gb188]? = some (.cells #[(.slice Ao59 x189000_1.length co59), .int .i64 t186, .int .i64 t187, (.slice Ao60 x189003_2.length co60)] 27 (0, 0))) ∧ Aside0 (Below w.heap.size w wc))
        case first =>
         have H := HC49.out
         clear HC49
         by_cases c66 : t208 = t211
         ·rw [if_pos c66] at H
          have c66b0 : (t208 == t211) = true := beq_iff_eq.mpr c66
          have c66b1 : (t208 != t211) = false := bne_eq_false_iff_eq.mpr c66
          clear c66
          (first | rw [c66b0] | (simp only [i64_w, i32_w]; rw [c66b0]) | skip)
          by_cases c67 : t209 = t212
          ·rw [if_pos c67] at H
           have c67b0 : (t209 == t212) = true := beq_iff_eq.mpr c67
           have c67b1 : (t209 != t212) = false := bne_eq_false_iff_eq.mpr c67
           clear c67
           by_cases c68 : t210 = t213
           ·rw [if_pos c68] at H
            have c68b0 : (t210 == t213) = true := beq_iff_eq.mpr c68
            have c68b1 : (t210 != t213) = false := bne_eq_false_iff_eq.mpr c68
            clear c68
            by_cases c69 : t214 = t216
            ·rw [if_pos c69] at H
             have c69b0 : (t214 == t216) = true := beq_iff_eq.mpr c69
             have c69b1 : (t214 != t216) = false := bne_eq_false_iff_eq.mpr c69
             clear c69
             have H' := Aside0.mk H
             clear H
             go_wp2
             go_meet
             case rel => exact ⟨_, ((t215 != t217)), TT, H', ⟨by have := HK1.out; have := HK2.out; first | omega | exact Nat.le_refl _⟩, ⟨by (with_reducible repeat (first | apply Kd.R_alloc | apply Kd.R_drewN | apply Kd.R_drew)); exact HO_189000.out⟩, ⟨by (with_reducible repeat (first | apply Kd.R_alloc | apply Kd.R_drewN | apply Kd.R_drew)); exact HO_189003.out⟩, ⟨by (with_reducible repeat (first | refine blk_drewN ?_ _ | refine blk_drew ?_ | refine blk_alloc ?_ _)); exact BK182.out⟩, ⟨by (with_reducible repeat (first | refine blk_drewN ?_ _ | refine blk_drew ?_ | refine blk_alloc ?_ _)); exact BK183.out⟩, ⟨by (with_reducible repeat (first | refine blk_drewN ?_ _ | refine blk_drew ?_ | refine blk_alloc ?_ _)); exact BK188.out⟩, ⟨TB3 GE182.out GE183.out GE188.out⟩⟩
            ·rw [if_neg c69] at H
             have c69b0 : (t214 == t216) = false := beq_eq_false_iff_ne.mpr c69
             have c69b1 : (t214 != t216) = true := bne_iff_ne.mpr c69
             have H' := Aside0.mk H
             clear H
             go_wp2
             go_meet
             case rel => exact ⟨_, (true), TT, H', ⟨by have := HK1.out; have := HK2.out; first | omega | exact Nat.le_refl _⟩, ⟨by (with_reducible repeat (first | apply Kd.R_alloc | apply Kd.R_drewN | apply Kd.R_drew)); exact HO_189000.out⟩, ⟨by (with_reducible repeat (first | apply Kd.R_alloc | apply Kd.R_drewN | apply Kd.R_drew)); exact HO_189003.out⟩, ⟨by (with_reducible repeat (first | refine blk_drewN ?_ _ | refine blk_drew ?_ | refine blk_alloc ?_ _)); exact BK182.out⟩, ⟨by (with_reducible repeat (first | refine blk_drewN ?_ _ | refine blk_drew ?_ | refine blk_alloc ?_ _)); exact BK183.out⟩, ⟨by (with_reducible repeat (first | refine blk_drewN ?_ _ | refine blk_drew ?_ | refine blk_alloc ?_ _)); exact BK188.out⟩, ⟨TB3 GE182.out GE183.out GE188.out⟩⟩
           ·rw [if_neg c68] at H
            have c68b0 : (t210 == t213) = false := beq_eq_false_iff_ne.mpr c68
            have c68b1 : (t210 != t213) = true := bne_iff_ne.mpr c68
            have H' := Aside0.mk H
            clear H
            go_wp2
            go_meet
            case rel => exact ⟨_, (true), TT, H', ⟨by have := HK1.out; have := HK2.out; first | omega | exact Nat.le_refl _⟩, ⟨by (with_reducible repeat (first | apply Kd.R_alloc | apply Kd.R_drewN | apply Kd.R_drew)); exact HO_189000.out⟩, ⟨by (with_reducible repeat (first | apply Kd.R_alloc | apply Kd.R_drewN | apply Kd.R_drew)); exact HO_189003.out⟩, ⟨by (with_reducible repeat (first | refine blk_drewN ?_ _ | refine blk_drew ?_ | refine blk_alloc ?_ _)); exact BK182.out⟩, ⟨by (with_reducible repeat (first | refine blk_drewN ?_ _ | refine blk_drew ?_ | refine blk_alloc ?_ _)); exact BK183.out⟩, ⟨by (with_reducible repeat (first | refine blk_drewN ?_ _ | refine blk_drew ?_ | refine blk_alloc ?_ _)); exact BK188.out⟩, ⟨TB3 GE182.out GE183.out GE188.out⟩⟩
          ·rw [if_neg c67] at H
           have c67b0 : (t209 == t212) = false := beq_eq_false_iff_ne.mpr c67
           have c67b1 : (t209 != t212) = true := bne_iff_ne.mpr c67
           have H' := Aside0.mk H
           clear H
           go_wp2
           go_meet
           case rel => exact ⟨_, (true), TT, H', ⟨by have := HK1.out; have := HK2.out; first | omega | exact Nat.le_refl _⟩, ⟨by (with_reducible repeat (first | apply Kd.R_alloc | apply Kd.R_drewN | apply Kd.R_drew)); exact HO_189000.out⟩, ⟨by (with_reducible repeat (first | apply Kd.R_alloc | apply Kd.R_drewN | apply Kd.R_drew)); exact HO_189003.out⟩, ⟨by (with_reducible repeat (first | refine blk_drewN ?_ _ | refine blk_drew ?_ | refine blk_alloc ?_ _)); exact BK182.out⟩, ⟨by (with_reducible repeat (first | refine blk_drewN ?_ _ | refine blk_drew ?_ | refine blk_alloc ?_ _)); exact BK183.out⟩, ⟨by (with_reducible repeat (first | refine blk_drewN ?_ _ | refine blk_drew ?_ | refine blk_alloc ?_ _)); exact BK188.out⟩, ⟨TB3 GE182.out GE183.out GE188.out⟩⟩
         ·rw [if_neg c66] at H
          have c66b0 : (t208 == t211) = false := beq_eq_false_iff_ne.mpr c66
          have c66b1 : (t208 != t211) = true := bne_iff_ne.mpr c66
          (first | rw [c66b0] | (simp only [i64_w, i32_w]; rw [c66b0]) | skip)
          have H' := Aside0.mk H
          clear H
          go_wp2
          go_meet
          case rel => exact ⟨_, (true), TT, H', ⟨by have := HK1.out; have := HK2.out; first | omega | exact Nat.le_refl _⟩, ⟨by (with_reducible repeat (first | apply Kd.R_alloc | apply Kd.R_drewN | apply Kd.R_drew)); exact HO_189000.out⟩, ⟨by (with_reducible repeat (first | apply Kd.R_alloc | apply Kd.R_drewN | apply Kd.R_drew)); exact HO_189003.out⟩, ⟨by (with_reducible repeat (first | refine blk_drewN ?_ _ | refine blk_drew ?_ | refine blk_alloc ?_ _)); exact BK182.out⟩, ⟨by (with_reducible repeat (first | refine blk_drewN ?_ _ | refine blk_drew ?_ | refine blk_alloc ?_ _)); exact BK183.out⟩, ⟨by (with_reducible repeat (first | refine blk_drewN ?_ _ | refine blk_drew ?_ | refine blk_alloc ?_ _)); exact BK188.out⟩, ⟨TB3 GE182.out GE183.out GE188.out⟩⟩
        case rest =>
         clear HC49
         try clear c1
         try clear p1
         try clear q1
         try clear hx1
         try clear c2
         try clear p2
         try clear c3
         try clear c4
         try clear c5
         try clear c6
         try clear p6
         try clear c13
         try clear c14
         try clear c15
         try clear c16
         try clear c17
         try clear c17b0
         try clear c18
         try clear c18b0
         try clear p18
         try clear q18
         try clear hx18
         try clear p19
         try clear q19
         try clear hx19
         try clear c20
         try clear c21
         try clear c22
         try clear c29
         try clear c30
         try clear c32
         try clear c32b0
         try clear c33
         try clear c33b0
         try clear c35
         try clear c36
         try clear c37
         try clear c38
         try clear c48
         try clear c50
         try clear c51
         try clear c53
         try clear p64
         try clear c66
         try clear c66b0
         try clear c66b1
         try clear c67
         try clear c67b0
         try clear c67b1
         try clear c68
         try clear c68b0
         try clear c68b1
         try clear c69
         try clear c69b0
         try clear c69b1
         try clear hcz11_0 hcz11_1 hcz11_2 hcz11_3
         try clear hcz16_0 hcz16_1 hcz16_2 hcz16_3
         try clear hcz23_0 hcz23_1 hcz23_2 hcz23_3
         try clear hcz31_0 hcz31_1 hcz31_2 hcz31_3
         try clear hcz38_0 hcz38_1 hcz38_2 hcz38_3
         try clear hcz52_0 hcz52_1 hcz52_2 hcz52_3
         try clear hcz54_0 hcz54_1
         try clear hcz56_0 hcz56_1 hcz56_2 hcz56_3
         try clear hcz58_0 hcz58_1 hcz58_2 hcz58_3
         try clear hcz62_0 hcz62_1 hcz62_2 hcz62_3
         try clear hcz64_0 hcz64_1 hcz64_2 hcz64_3
         try clear hcz9_0 hcz9_1 hcz9_2 hcz9_3
         try clear hfz11_0 hfz11_1 hfz11_2 hfz11_3
         try clear hfz16_0 hfz16_1 hfz16_2 hfz16_3
         try clear hfz23_0 hfz23_1 hfz23_2 hfz23_3
         try clear hfz31_0 hfz31_1 hfz31_2 hfz31_3
         try clear hfz38_0 hfz38_1 hfz38_2 hfz38_3
         try clear hfz52_0 hfz52_1 hfz52_2 hfz52_3
         try clear hfz54_0 hfz54_1
         try clear hfz56_0 hfz56_1 hfz56_2 hfz56_3
         try clear hfz58_0 hfz58_1 hfz58_2 hfz58_3
         try clear hfz62_0 hfz62_1 hfz62_2 hfz62_3
         try clear hfz64_0 hfz64_1 hfz64_2 hfz64_3
         try clear hfz9_0 hfz9_1 hfz9_2 hfz9_3
         try clear hx189_0
         try clear hx189_1
         try clear hx189_2
         try clear hx190_0
         try clear hx190_1
         try clear hx190_2
         try clear hx193_0
         try clear hx193_1
         try clear hx193_2
         try clear hx197_0
         try clear hx197_1
         try clear hx197_2
         try clear hx198_0
         try clear hx198_1
         try clear hx198_2
         try clear hx199_0
         try clear hx199_1
         try clear hx199_2
         try clear p18
         try clear p189
         try clear p19
         try clear p190
         try clear p193
         try clear p197
         try clear p198
         try clear p199
         try clear p2
         try clear p6
         try clear q18
         try clear q189
         try clear q19
         try clear q190
         try clear q193
         try clear q197
         try clear q198
         try clear q199
         obtain ⟨kq, x164_48, rfl, HA, HJ48, HO_189000, HO_189003, BK182, BK183, BK188, HB⟩ := hcut
         cases kq with
         | zero => exact absurd HA.out (by simp [saronlaw03_RaspTurned.j2])
         | succ kj48 =>
          have H := HA.out
          clear HA
          simp only [saronlaw03_RaspTurned.j2] at H
          by_cases c70 : x164_48 = true
          ·subst c70
           have H1 : (some false) = some r := by rw [if_pos rfl] at H; exact H
           clear H
           have H := H1
           clear H1
           obtain rfl := Option.some.inj H
           go_wp2
           go_ret
           exact ⟨TR, TB3 GE182.out GE183.out GE188.out⟩
          ·replace c70 := Bool.eq_false_iff.mpr c70
           subst c70
           have H1 : ((rasp_Lucky.f l0_0 a0_1 a0_2 l0_3 t206 t207).bind fun bt218 => ((rasp_Lucky.f x189000_1 t186 t187 x189003_2 (wrap64 (-t206)) t207).bind fun bt220 => ((rasp_Spoilt.f l0_0 a0_1 a0_2 l0_3).bind fun bt222 => ((rasp_Spoilt.f x189000_1 t186 t187 x189003_2).bind fun bt226 => (if bt218.1 = bt220.1 then (if bt218.2 = bt220.2 then ((saronref00_Equal.f kj48 bt222.1 bt226.1).bind fun t230 => (if t230 = true then (if bt222.2 = bt226.2 then ((saronlaw03_filed.f).bind fun t231 => (some t231)) else (some false)) else (some false))) else (some false)) else (some false)))))) = some r := by rw [if_neg (show ¬ (false = true) by decide)] at H; exact H
           clear H
           have H := H1
           clear H1
           replace H := Option.bind_eq_some_iff.mp H
           obtain ⟨⟨t218, t219⟩, A710, H⟩ := H
           replace H : ((rasp_Lucky.f x189000_1 t186 t187 x189003_2 (wrap64 (-t206)) t207).bind fun bt220 => ((rasp_Spoilt.f l0_0 a0_1 a0_2 l0_3).bind fun bt222 => ((rasp_Spoilt.f x189000_1 t186 t187 x189003_2).bind fun bt226 => (if t218 = bt220.1 then (if t219 = bt220.2 then ((saronref00_Equal.f kj48 bt222.1 bt226.1).bind fun t230 => (if t230 = true then (if bt222.2 = bt226.2 then ((saronlaw03_filed.f).bind fun t231 => (some t231)) else (some false)) else (some false))) else (some false)) else (some false))))) = some r := H
           have A71 := Aside0.mk A710
           clear A710
           replace H := Option.bind_eq_some_iff.mp H
           obtain ⟨⟨t220, t221⟩, A720, H⟩ := H
           replace H : ((rasp_Spoilt.f l0_0 a0_1 a0_2 l0_3).bind fun bt222 => ((rasp_Spoilt.f x189000_1 t186 t187 x189003_2).bind fun bt226 => (if t218 = t220 then (if t219 = t221 then ((saronref00_Equal.f kj48 bt222.1 bt226.1).bind fun t230 => (if t230 = true then (if bt222.2 = bt226.2 then ((saronlaw03_filed.f).bind fun t231 => (some t231)) else (some false)) else (some false))) else (some false)) else (some false)))) = some r := H
           have A72 := Aside0.mk A720
           clear A720
           replace H := Option.bind_eq_some_iff.mp H
           obtain ⟨⟨t222, t225⟩, A730, H⟩ := H
           replace H : ((rasp_Spoilt.f x189000_1 t186 t187 x189003_2).bind fun bt226 => (if t218 = t220 then (if t219 = t221 then ((saronref00_Equal.f kj48 t222 bt226.1).bind fun t230 => (if t230 = true then (if t225 = bt226.2 then ((saronlaw03_filed.f).bind fun t231 => (some t231)) else (some false)) else (some false))) else (some false)) else (some false))) = some r := H
           have A73 := Aside0.mk A730
           clear A730
           replace H := Option.bind_eq_some_iff.mp H
           obtain ⟨⟨t226, t229⟩, A740, H⟩ := H
           replace H : (if t218 = t220 then (if t219 = t221 then ((saronref00_Equal.f kj48 t222 t226).bind fun t230 => (if t230 = true then (if t225 = t229 then ((saronlaw03_filed.f).bind fun t231 => (some t231)) else (some false)) else (some false))) else (some false)) else (some false)) = some r := H
           have A74 := Aside0.mk A740
           clear A740
           by_cases c75 : t218 = t220
           ·rw [if_pos c75] at H
            have c75b0 : (t218 == t220) = true := beq_iff_eq.mpr c75
            have c75b1 : (t218 != t220) = false := bne_eq_false_iff_eq.mpr c75
            clear c75
            by_cases c76 : t219 = t221
            ·rw [if_pos c76] at H
             have c76b0 : (t219 == t221) = true := beq_iff_eq.mpr c76
             have c76b1 : (t219 != t221) = false := bne_eq_false_iff_eq.mpr c76
             clear c76
             replace H := Option.bind_eq_some_iff.mp H
             obtain ⟨t230, A770, H⟩ := H
             replace H : (if t230 = true then (if t225 = t229 then ((saronlaw03_filed.f).bind fun t231 => (some t231)) else (some false)) else (some false)) = some r := H
             have A77 := Aside0.mk A770
             clear A770
             by_cases c78 : t230 = true
             ·subst c78
              have H1 : (if t225 = t229 then ((saronlaw03_filed.f).bind fun t231 => (some t231)) else (some false)) = some r := by rw [if_pos rfl] at H; exact H
              clear H
              have H := H1
              clear H1
              by_cases c79 : t225 = t229
              ·rw [if_pos c79] at H
               have c79b0 : (t225 == t229) = true := beq_iff_eq.mpr c79
               have c79b1 : (t225 != t229) = false := bne_eq_false_iff_eq.mpr c79
               clear c79
               replace H := Option.bind_eq_some_iff.mp H
               obtain ⟨t231, A800, H⟩ := H
               replace H : (some t231) = some r := H
               have A80 := Aside0.mk A800
               clear A800
               obtain rfl := Option.some.inj H
               have hnb81 := NB182_183.out
               have hnc81 := NB183_182.out
               have hnb82 := NB182_188.out
               have hnc82 := NB188_182.out
               have hcz83_0 := czz BK182.out 0
               have hcz83_1 := czz BK182.out 1
               have hcz83_2 := czz BK182.out 2
               have hcz83_3 := czz BK182.out 3
               have hfz83_0 := fz BK182.out 0
               have hfz83_1 := fz BK182.out 1
               have hfz83_2 := fz BK182.out 2
               have hfz83_3 := fz BK182.out 3
               go_wp2_with (first | ((with_reducible refine gate_callee (f := 20) rfl ?_); refine goesL_ (some 169) rfl rfl Tryd.func20 (by kernel_rfl) rfl #[.agg #[.slice A0_0 l0_0.length c0_0, .int .i64 a0_1, .int .i64 a0_2, .slice A0_3 l0_3.length c0_3], .int .i64 t206, .int .i64 t207] rfl TM ?_; (with_reducible refine (rasp_Lucky.calls _ _ l0_0 a0_1 a0_2 _ _ l0_3 t206 t207 t218 t219 _ ?side1 ?side2 ?side3 ?side4 ?side5 A71.out).mono ?_); (case side1 => exact TC HR0_0.out); (case side2 => exact HC0_0.out); (case side3 => exact TC HR0_3.out); (case side4 => exact HC0_3.out); (case side5 => exact Glob.fr HG.out (Fr.of_below (TB3 GE182.out GE183.out GE188.out))); rintro e w84 ⟨rfl, hb⟩; refine ⟨_, rfl, ?_⟩; replace HO_189000 := Aside0.mk (Kd.R_below (TRo HO_189000.out) hb); replace HO_189003 := Aside0.mk (Kd.R_below (TRo HO_189003.out) hb); replace BK182 := Aside0.mk (blk_below (g := gb182) (o := .cells #[.slice A0_0 l0_0.length c0_0, .int .i64 a0_1, .int .i64 a0_2, .slice A0_3 l0_3.length c0_3] 27 (0, 0)) (by (with_reducible repeat (first | refine blk_drewN ?_ _ | refine blk_drew ?_ | refine blk_alloc ?_ _)); exact BK182.out) hb); replace BK183 := Aside0.mk (blk_below (g := gb183) (o := .cells #[.int .i64 a1_0, .int .i64 a1_1] 28 (0, 0)) (by (with_reducible repeat (first | refine blk_drewN ?_ _ | refine blk_drew ?_ | refine blk_alloc ?_ _)); exact BK183.out) hb); replace BK188 := Aside0.mk (blk_below (g := gb188) (o := .cells #[.slice Ao59 x189000_1.length co59, .int .i64 t186, .int .i64 t187, .slice Ao60 x189003_2.length co60] 27 (0, 0)) (by (with_reducible repeat (first | refine blk_drewN ?_ _ | refine blk_drew ?_ | refine blk_alloc ?_ _)); exact BK188.out) hb); replace HB := Aside0.mk (below_step (TB3 GE182.out GE183.out GE188.out) hb); (try clear hb); (try clear hb2); (try clear hk); (try clear hi); have hnb85 := NB188_183.out; have hnc85 := NB183_188.out; have hcz86_0 := czz BK188.out 0; have hcz86_1 := czz BK188.out 1; have hcz86_2 := czz BK188.out 2; have hcz86_3 := czz BK188.out 3; have hfz86_0 := fz BK188.out 0; have hfz86_1 := fz BK188.out 1; have hfz86_2 := fz BK188.out 2; have hfz86_3 := fz BK188.out 3) | ((with_reducible refine gate_callee (f := 20) rfl ?_); refine goesL_ (some 177) rfl rfl Tryd.func20 (by kernel_rfl) rfl #[.agg #[.slice Ao59 x189000_1.length co59, .int .i64 t186, .int .i64 t187, .slice Ao60 x189003_2.length co60], .int .i64 (wrap64 (-t206)), .int .i64 t207] rfl TM ?_; (with_reducible refine (rasp_Lucky.calls _ _ x189000_1 t186 t187 _ _ x189003_2 (wrap64 (-t206)) t207 t220 t221 _ ?side1 ?side2 ?side3 ?side4 ?side5 A72.out).mono ?_); (case side1 => repeat (first | exact (Kd.R_reads' HO_189000.out).2.2 | (with_reducible refine Kd.C_alloc ?_ _) | (with_reducible refine Kd.C_drewN ?_ _) | (with_reducible refine Kd.C_drew ?_))); (case side2 => exact (Kd.R_reads' HO_189000.out).2.1); (case side3 => repeat (first | exact (Kd.R_reads' HO_189003.out).2.2 | (with_reducible refine Kd.C_alloc ?_ _) | (with_reducible refine Kd.C_drewN ?_ _) | (with_reducible refine Kd.C_drew ?_))); (case side4 => exact (Kd.R_reads' HO_189003.out).2.1); (case side5 => exact Glob.fr HG.out (Fr.of_below (TB3 GE182.out GE183.out GE188.out))); rintro e w87 ⟨rfl, hb⟩; refine ⟨_, rfl, ?_⟩; replace HO_189000 := Aside0.mk (Kd.R_below (TRo HO_189000.out) hb); replace HO_189003 := Aside0.mk (Kd.R_below (TRo HO_189003.out) hb); replace BK182 := Aside0.mk (blk_below (g := gb182) (o := .cells #[.slice A0_0 l0_0.length c0_0, .int .i64 a0_1, .int .i64 a0_2, .slice A0_3 l0_3.length c0_3] 27 (0, 0)) (by (with_reducible repeat (first | refine blk_drewN ?_ _ | refine blk_drew ?_ | refine blk_alloc ?_ _)); exact BK182.out) hb); replace BK183 := Aside0.mk (blk_below (g := gb183) (o := .cells #[.int .i64 a1_0, .int .i64 a1_1] 28 (0, 0)) (by (with_reducible repeat (first | refine blk_drewN ?_ _ | refine blk_drew ?_ | refine blk_alloc ?_ _)); exact BK183.out) hb); replace BK188 := Aside0.mk (blk_below (g := gb188) (o := .cells #[.slice Ao59 x189000_1.length co59, .int .i64 t186, .int .i64 t187, .slice Ao60 x189003_2.length co60] 27 (0, 0)) (by (with_reducible repeat (first | refine blk_drewN ?_ _ | refine blk_drew ?_ | refine blk_alloc ?_ _)); exact BK188.out) hb); replace HB := Aside0.mk (below_step (TB3 GE182.out GE183.out GE188.out) hb); (try clear hb); (try clear hb2); (try clear hk); (try clear hi); have hcz88_0 := czz BK182.out 0; have hcz88_1 := czz BK182.out 1; have hcz88_2 := czz BK182.out 2; have hcz88_3 := czz BK182.out 3; have hfz88_0 := fz BK182.out 0; have hfz88_1 := fz BK182.out 1; have hfz88_2 := fz BK182.out 2; have hfz88_3 := fz BK182.out 3) | ((with_reducible refine gate_callee (f := 25) rfl ?_); refine goesL_ (some 182) rfl rfl Tryd.func25 (by kernel_rfl) rfl #[.agg #[.slice A0_0 l0_0.length c0_0, .int .i64 a0_1, .int .i64 a0_2, .slice A0_3 l0_3.length c0_3]] rfl TM ?_; (with_reducible refine (rasp_Spoilt.calls _ _ l0_0 a0_1 a0_2 _ _ l0_3 t222 t225 _ ?side1 ?side2 ?side3 ?side4 ?side5 A73.out).mono ?_); (case side1 => exact TC HR0_0.out); (case side2 => exact HC0_0.out); (case side3 => exact TC HR0_3.out); (case side4 => exact HC0_3.out); (case side5 => exact Glob.fr HG.out (Fr.of_below (TB3 GE182.out GE183.out GE188.out))); rintro e w89 ⟨v223, rfl, ho0, hb⟩; refine ⟨_, rfl, ?_⟩; have HO224 := Aside0.mk (Kd.V_lower (Kd.V_mono (ok' := fun k_ => some k_ ≠ (.slice Ao59 x189000_1.length co59 : Value).ownBlock ∧ some k_ ≠ (.slice Ao60 x189003_2.length co60 : Value).ownBlock ∧ k_ ≠ gb182 ∧ k_ ≠ gb183 ∧ k_ ≠ gb188) ho0 (fun k_ hk_ => ⟨(Kd.fresh' (Kd.R_lt (TRo HO_189000.out)) k_ hk_), (Kd.fresh' (Kd.R_lt (TRo HO_189003.out)) k_ hk_), (Kd.freshB (g := gb182) (o := .cells #[.slice A0_0 l0_0.length c0_0, .int .i64 a0_1, .int .i64 a0_2, .slice A0_3 l0_3.length c0_3] 27 (0, 0)) (by (with_reducible repeat (first | refine blk_drewN ?_ _ | refine blk_drew ?_ | refine blk_alloc ?_ _)); exact BK182.out) k_ hk_), (Kd.freshB (g := gb183) (o := .cells #[.int .i64 a1_0, .int .i64 a1_1] 28 (0, 0)) (by (with_reducible repeat (first | refine blk_drewN ?_ _ | refine blk_drew ?_ | refine blk_alloc ?_ _)); exact BK183.out) k_ hk_), (Kd.freshB (g := gb188) (o := .cells #[.slice Ao59 x189000_1.length co59, .int .i64 t186, .int .i64 t187, .slice Ao60 x189003_2.length co60] 27 (0, 0)) (by (with_reducible repeat (first | refine blk_drewN ?_ _ | refine blk_drew ?_ | refine blk_alloc ?_ _)); exact BK188.out) k_ hk_)⟩)) (below_size (TB3 GE182.out GE183.out GE188.out))); replace HO_189000 := Aside0.mk (Kd.R_below (TRo HO_189000.out) hb); replace HO_189003 := Aside0.mk (Kd.R_below (TRo HO_189003.out) hb); replace BK182 := Aside0.mk (blk_below (g := gb182) (o := .cells #[.slice A0_0 l0_0.length c0_0, .int .i64 a0_1, .int .i64 a0_2, .slice A0_3 l0_3.length c0_3] 27 (0, 0)) (by (with_reducible repeat (first | refine blk_drewN ?_ _ | refine blk_drew ?_ | refine blk_alloc ?_ _)); exact BK182.out) hb); replace BK183 := Aside0.mk (blk_below (g := gb183) (o := .cells #[.int .i64 a1_0, .int .i64 a1_1] 28 (0, 0)) (by (with_reducible repeat (first | refine blk_drewN ?_ _ | refine blk_drew ?_ | refine blk_alloc ?_ _)); exact BK183.out) hb); replace BK188 := Aside0.mk (blk_below (g := gb188) (o := .cells #[.slice Ao59 x189000_1.length co59, .int .i64 t186, .int .i64 t187, .slice Ao60 x189003_2.length co60] 27 (0, 0)) (by (with_reducible repeat (first | refine blk_drewN ?_ _ | refine blk_drew ?_ | refine blk_alloc ?_ _)); exact BK188.out) hb); replace HB := Aside0.mk (below_step (TB3 GE182.out GE183.out GE188.out) hb); (try clear hb); (try clear hb2); (try clear hk); (try clear hi); (try clear ho0); have hcz90_0 := czz BK188.out 0; have hcz90_1 := czz BK188.out 1; have hcz90_2 := czz BK188.out 2; have hcz90_3 := czz BK188.out 3; have hfz90_0 := fz BK188.out 0; have hfz90_1 := fz BK188.out 1; have hfz90_2 := fz BK188.out 2; have hfz90_3 := fz BK188.out 3) | ((with_reducible refine gate_callee (f := 25) rfl ?_); refine goesL_ (some 187) rfl rfl Tryd.func25 (by kernel_rfl) rfl #[.agg #[.slice Ao59 x189000_1.length co59, .int .i64 t186, .int .i64 t187, .slice Ao60 x189003_2.length co60]] rfl TM ?_; (with_reducible refine (rasp_Spoilt.calls _ _ x189000_1 t186 t187 _ _ x189003_2 t226 t229 _ ?side1 ?side2 ?side3 ?side4 ?side5 A74.out).mono ?_); (case side1 => repeat (first | exact (Kd.R_reads' HO_189000.out).2.2 | (with_reducible refine Kd.C_alloc ?_ _) | (with_reducible refine Kd.C_drewN ?_ _) | (with_reducible refine Kd.C_drew ?_))); (case side2 => exact (Kd.R_reads' HO_189000.out).2.1); (case side3 => repeat (first | exact (Kd.R_reads' HO_189003.out).2.2 | (with_reducible refine Kd.C_alloc ?_ _) | (with_reducible refine Kd.C_drewN ?_ _) | (with_reducible refine Kd.C_drew ?_))); (case side4 => exact (Kd.R_reads' HO_189003.out).2.1); (case side5 => exact Glob.fr HG.out (Fr.of_below (TB3 GE182.out GE183.out GE188.out))); rintro e w91 ⟨v227, rfl, ho0, hb⟩; refine ⟨_, rfl, ?_⟩; have HO228 := Aside0.mk (Kd.V_lower (Kd.V_mono (ok' := fun k_ => some k_ ≠ (.slice Ao59 x189000_1.length co59 : Value).ownBlock ∧ some k_ ≠ (.slice Ao60 x189003_2.length co60 : Value).ownBlock ∧ k_ ≠ gb182 ∧ k_ ≠ gb183 ∧ k_ ≠ gb188) ho0 (fun k_ hk_ => ⟨(Kd.fresh' (Kd.R_lt (TRo HO_189000.out)) k_ hk_), (Kd.fresh' (Kd.R_lt (TRo HO_189003.out)) k_ hk_), (Kd.freshB (g := gb182) (o := .cells #[.slice A0_0 l0_0.length c0_0, .int .i64 a0_1, .int .i64 a0_2, .slice A0_3 l0_3.length c0_3] 27 (0, 0)) (by (with_reducible repeat (first | refine blk_drewN ?_ _ | refine blk_drew ?_ | refine blk_alloc ?_ _)); exact BK182.out) k_ hk_), (Kd.freshB (g := gb183) (o := .cells #[.int .i64 a1_0, .int .i64 a1_1] 28 (0, 0)) (by (with_reducible repeat (first | refine blk_drewN ?_ _ | refine blk_drew ?_ | refine blk_alloc ?_ _)); exact BK183.out) k_ hk_), (Kd.freshB (g := gb188) (o := .cells #[.slice Ao59 x189000_1.length co59, .int .i64 t186, .int .i64 t187, .slice Ao60 x189003_2.length co60] 27 (0, 0)) (by (with_reducible repeat (first | refine blk_drewN ?_ _ | refine blk_drew ?_ | refine blk_alloc ?_ _)); exact BK188.out) k_ hk_)⟩)) (below_size (TB3 GE182.out GE183.out GE188.out))); replace HO_189000 := Aside0.mk (Kd.R_below (TRo HO_189000.out) hb); replace HO_189003 := Aside0.mk (Kd.R_below (TRo HO_189003.out) hb); replace HO224 := Aside0.mk (Kd.V_below (by (with_reducible repeat (first | apply Kd.V_alloc | apply Kd.V_drewN | apply Kd.V_drew)); exact HO224.out) hb); replace BK182 := Aside0.mk (blk_below (g := gb182) (o := .cells #[.slice A0_0 l0_0.length c0_0, .int .i64 a0_1, .int .i64 a0_2, .slice A0_3 l0_3.length c0_3] 27 (0, 0)) (by (with_reducible repeat (first | refine blk_drewN ?_ _ | refine blk_drew ?_ | refine blk_alloc ?_ _)); exact BK182.out) hb); replace BK183 := Aside0.mk (blk_below (g := gb183) (o := .cells #[.int .i64 a1_0, .int .i64 a1_1] 28 (0, 0)) (by (with_reducible repeat (first | refine blk_drewN ?_ _ | refine blk_drew ?_ | refine blk_alloc ?_ _)); exact BK183.out) hb); replace BK188 := Aside0.mk (blk_below (g := gb188) (o := .cells #[.slice Ao59 x189000_1.length co59, .int .i64 t186, .int .i64 t187, .slice Ao60 x189003_2.length co60] 27 (0, 0)) (by (with_reducible repeat (first | refine blk_drewN ?_ _ | refine blk_drew ?_ | refine blk_alloc ?_ _)); exact BK188.out) hb); replace HB := Aside0.mk (below_step (TB3 GE182.out GE183.out GE188.out) hb); (try clear hb); (try clear hb2); (try clear hk); (try clear hi); (try clear ho0); obtain ⟨Ao92, co92, eo92⟩ := Kd.V_slice HO224.out; subst eo92; obtain ⟨Ao93, co93, eo93⟩ := Kd.V_slice HO228.out; subst eo93) | (go_at_call 27; (with_reducible refine (saronref00_Equal.calls kj48 _ _ t222 _ _ t226 true _ ?side1 ?side2 ?side3 ?side4 A77.out).mono ?_); (case side1 => repeat (first | exact (Kd.V_reads' HO224.out).2.2 | (with_reducible refine Kd.C_alloc ?_ _) | (with_reducible refine Kd.C_drewN ?_ _) | (with_reducible refine Kd.C_drew ?_))); (case side2 => exact (Kd.V_reads' HO224.out).2.1); (case side3 => repeat (first | exact (Kd.V_reads' HO228.out).2.2 | (with_reducible refine Kd.C_alloc ?_ _) | (with_reducible refine Kd.C_drewN ?_ _) | (with_reducible refine Kd.C_drew ?_))); (case side4 => exact (Kd.V_reads' HO228.out).2.1); rintro e w' ⟨rfl, ⟨nd, rfl⟩⟩) | (go_at_call 22; (with_reducible refine (saronlaw03_filed.calls  t231 _ ?side1 A80.out).mono ?_); (case side1 => exact Glob.fr HG.out (Fr.of_below (TB3 GE182.out GE183.out GE188.out))); rintro e w94 ⟨rfl, hb⟩; replace HO_189000 := Aside0.mk (Kd.R_below (TRo HO_189000.out) hb); replace HO_189003 := Aside0.mk (Kd.R_below (TRo HO_189003.out) hb); replace HO224 := Aside0.mk (Kd.V_below (by (with_reducible repeat (first | apply Kd.V_alloc | apply Kd.V_drewN | apply Kd.V_drew)); exact HO224.out) hb); replace HO228 := Aside0.mk (Kd.V_below (by (with_reducible repeat (first | apply Kd.V_alloc | apply Kd.V_drewN | apply Kd.V_drew)); exact HO228.out) hb); replace BK182 := Aside0.mk (blk_below (g := gb182) (o := .cells #[.slice A0_0 l0_0.length c0_0, .int .i64 a0_1, .int .i64 a0_2, .slice A0_3 l0_3.length c0_3] 27 (0, 0)) (by (with_reducible repeat (first | refine blk_drewN ?_ _ | refine blk_drew ?_ | refine blk_alloc ?_ _)); exact BK182.out) hb); replace BK183 := Aside0.mk (blk_below (g := gb183) (o := .cells #[.int .i64 a1_0, .int .i64 a1_1] 28 (0, 0)) (by (with_reducible repeat (first | refine blk_drewN ?_ _ | refine blk_drew ?_ | refine blk_alloc ?_ _)); exact BK183.out) hb); replace BK188 := Aside0.mk (blk_below (g := gb188) (o := .cells #[.slice Ao59 x189000_1.length co59, .int .i64 t186, .int .i64 t187, .slice Ao60 x189003_2.length co60] 27 (0, 0)) (by (with_reducible repeat (first | refine blk_drewN ?_ _ | refine blk_drew ?_ | refine blk_alloc ?_ _)); exact BK188.out) hb); replace HB := Aside0.mk (below_step (TB3 GE182.out GE183.out GE188.out) hb); (try clear hb); (try clear hb2); (try clear hk); (try clear hi)))
               go_ret
               exact ⟨TR, TB3 GE182.out GE183.out GE188.out⟩
              ·rw [if_neg c79] at H
               have c79b0 : (t225 == t229) = false := beq_eq_false_iff_ne.mpr c79
               have c79b1 : (t225 != t229) = true := bne_iff_ne.mpr c79
               obtain rfl := Option.some.inj H
               have hnb95 := NB182_183.out
               have hnc95 := NB183_182.out
               have hnb96 := NB182_188.out
               have hnc96 := NB188_182.out
               have hcz97_0 := czz BK182.out 0
               have hcz97_1 := czz BK182.out 1
               have hcz97_2 := czz BK182.out 2
               have hcz97_3 := czz BK182.out 3
               have hfz97_0 := fz BK182.out 0
               have hfz97_1 := fz BK182.out 1
               have hfz97_2 := fz BK182.out 2
               have hfz97_3 := fz BK182.out 3
               go_wp2_with (first | ((with_reducible refine gate_callee (f := 20) rfl ?_); refine goesL_ (some 169) rfl rfl Tryd.func20 (by kernel_rfl) rfl #[.agg #[.slice A0_0 l0_0.length c0_0, .int .i64 a0_1, .int .i64 a0_2, .slice A0_3 l0_3.length c0_3], .int .i64 t206, .int .i64 t207] rfl TM ?_; (with_reducible refine (rasp_Lucky.calls _ _ l0_0 a0_1 a0_2 _ _ l0_3 t206 t207 t218 t219 _ ?side1 ?side2 ?side3 ?side4 ?side5 A71.out).mono ?_); (case side1 => exact TC HR0_0.out); (case side2 => exact HC0_0.out); (case side3 => exact TC HR0_3.out); (case side4 => exact HC0_3.out); (case side5 => exact Glob.fr HG.out (Fr.of_below (TB3 GE182.out GE183.out GE188.out))); rintro e w98 ⟨rfl, hb⟩; refine ⟨_, rfl, ?_⟩; replace HO_189000 := Aside0.mk (Kd.R_below (TRo HO_189000.out) hb); replace HO_189003 := Aside0.mk (Kd.R_below (TRo HO_189003.out) hb); replace BK182 := Aside0.mk (blk_below (g := gb182) (o := .cells #[.slice A0_0 l0_0.length c0_0, .int .i64 a0_1, .int .i64 a0_2, .slice A0_3 l0_3.length c0_3] 27 (0, 0)) (by (with_reducible repeat (first | refine blk_drewN ?_ _ | refine blk_drew ?_ | refine blk_alloc ?_ _)); exact BK182.out) hb); replace BK183 := Aside0.mk (blk_below (g := gb183) (o := .cells #[.int .i64 a1_0, .int .i64 a1_1] 28 (0, 0)) (by (with_reducible repeat (first | refine blk_drewN ?_ _ | refine blk_drew ?_ | refine blk_alloc ?_ _)); exact BK183.out) hb); replace BK188 := Aside0.mk (blk_below (g := gb188) (o := .cells #[.slice Ao59 x189000_1.length co59, .int .i64 t186, .int .i64 t187, .slice Ao60 x189003_2.length co60] 27 (0, 0)) (by (with_reducible repeat (first | refine blk_drewN ?_ _ | refine blk_drew ?_ | refine blk_alloc ?_ _)); exact BK188.out) hb); replace HB := Aside0.mk (below_step (TB3 GE182.out GE183.out GE188.out) hb); (try clear hb); (try clear hb2); (try clear hk); (try clear hi); have hnb99 := NB188_183.out; have hnc99 := NB183_188.out; have hcz100_0 := czz BK188.out 0; have hcz100_1 := czz BK188.out 1; have hcz100_2 := czz BK188.out 2; have hcz100_3 := czz BK188.out 3; have hfz100_0 := fz BK188.out 0; have hfz100_1 := fz BK188.out 1; have hfz100_2 := fz BK188.out 2; have hfz100_3 := fz BK188.out 3) | ((with_reducible refine gate_callee (f := 20) rfl ?_); refine goesL_ (some 177) rfl rfl Tryd.func20 (by kernel_rfl) rfl #[.agg #[.slice Ao59 x189000_1.length co59, .int .i64 t186, .int .i64 t187, .slice Ao60 x189003_2.length co60], .int .i64 (wrap64 (-t206)), .int .i64 t207] rfl TM ?_; (with_reducible refine (rasp_Lucky.calls _ _ x189000_1 t186 t187 _ _ x189003_2 (wrap64 (-t206)) t207 t220 t221 _ ?side1 ?side2 ?side3 ?side4 ?side5 A72.out).mono ?_); (case side1 => repeat (first | exact (Kd.R_reads' HO_189000.out).2.2 | (with_reducible refine Kd.C_alloc ?_ _) | (with_reducible refine Kd.C_drewN ?_ _) | (with_reducible refine Kd.C_drew ?_))); (case side2 => exact (Kd.R_reads' HO_189000.out).2.1); (case side3 => repeat (first | exact (Kd.R_reads' HO_189003.out).2.2 | (with_reducible refine Kd.C_alloc ?_ _) | (with_reducible refine Kd.C_drewN ?_ _) | (with_reducible refine Kd.C_drew ?_))); (case side4 => exact (Kd.R_reads' HO_189003.out).2.1); (case side5 => exact Glob.fr HG.out (Fr.of_below (TB3 GE182.out GE183.out GE188.out))); rintro e w101 ⟨rfl, hb⟩; refine ⟨_, rfl, ?_⟩; replace HO_189000 := Aside0.mk (Kd.R_below (TRo HO_189000.out) hb); replace HO_189003 := Aside0.mk (Kd.R_below (TRo HO_189003.out) hb); replace BK182 := Aside0.mk (blk_below (g := gb182) (o := .cells #[.slice A0_0 l0_0.length c0_0, .int .i64 a0_1, .int .i64 a0_2, .slice A0_3 l0_3.length c0_3] 27 (0, 0)) (by (with_reducible repeat (first | refine blk_drewN ?_ _ | refine blk_drew ?_ | refine blk_alloc ?_ _)); exact BK182.out) hb); replace BK183 := Aside0.mk (blk_below (g := gb183) (o := .cells #[.int .i64 a1_0, .int .i64 a1_1] 28 (0, 0)) (by (with_reducible repeat (first | refine blk_drewN ?_ _ | refine blk_drew ?_ | refine blk_alloc ?_ _)); exact BK183.out) hb); replace BK188 := Aside0.mk (blk_below (g := gb188) (o := .cells #[.slice Ao59 x189000_1.length co59, .int .i64 t186, .int .i64 t187, .slice Ao60 x189003_2.length co60] 27 (0, 0)) (by (with_reducible repeat (first | refine blk_drewN ?_ _ | refine blk_drew ?_ | refine blk_alloc ?_ _)); exact BK188.out) hb); replace HB := Aside0.mk (below_step (TB3 GE182.out GE183.out GE188.out) hb); (try clear hb); (try clear hb2); (try clear hk); (try clear hi); have hcz102_0 := czz BK182.out 0; have hcz102_1 := czz BK182.out 1; have hcz102_2 := czz BK182.out 2; have hcz102_3 := czz BK182.out 3; have hfz102_0 := fz BK182.out 0; have hfz102_1 := fz BK182.out 1; have hfz102_2 := fz BK182.out 2; have hfz102_3 := fz BK182.out 3) | ((with_reducible refine gate_callee (f := 25) rfl ?_); refine goesL_ (some 182) rfl rfl Tryd.func25 (by kernel_rfl) rfl #[.agg #[.slice A0_0 l0_0.length c0_0, .int .i64 a0_1, .int .i64 a0_2, .slice A0_3 l0_3.length c0_3]] rfl TM ?_; (with_reducible refine (rasp_Spoilt.calls _ _ l0_0 a0_1 a0_2 _ _ l0_3 t222 t225 _ ?side1 ?side2 ?side3 ?side4 ?side5 A73.out).mono ?_); (case side1 => exact TC HR0_0.out); (case side2 => exact HC0_0.out); (case side3 => exact TC HR0_3.out); (case side4 => exact HC0_3.out); (case side5 => exact Glob.fr HG.out (Fr.of_below (TB3 GE182.out GE183.out GE188.out))); rintro e w103 ⟨v223, rfl, ho0, hb⟩; refine ⟨_, rfl, ?_⟩; have HO224 := Aside0.mk (Kd.V_lower (Kd.V_mono (ok' := fun k_ => some k_ ≠ (.slice Ao59 x189000_1.length co59 : Value).ownBlock ∧ some k_ ≠ (.slice Ao60 x189003_2.length co60 : Value).ownBlock ∧ k_ ≠ gb182 ∧ k_ ≠ gb183 ∧ k_ ≠ gb188) ho0 (fun k_ hk_ => ⟨(Kd.fresh' (Kd.R_lt (TRo HO_189000.out)) k_ hk_), (Kd.fresh' (Kd.R_lt (TRo HO_189003.out)) k_ hk_), (Kd.freshB (g := gb182) (o := .cells #[.slice A0_0 l0_0.length c0_0, .int .i64 a0_1, .int .i64 a0_2, .slice A0_3 l0_3.length c0_3] 27 (0, 0)) (by (with_reducible repeat (first | refine blk_drewN ?_ _ | refine blk_drew ?_ | refine blk_alloc ?_ _)); exact BK182.out) k_ hk_), (Kd.freshB (g := gb183) (o := .cells #[.int .i64 a1_0, .int .i64 a1_1] 28 (0, 0)) (by (with_reducible repeat (first | refine blk_drewN ?_ _ | refine blk_drew ?_ | refine blk_alloc ?_ _)); exact BK183.out) k_ hk_), (Kd.freshB (g := gb188) (o := .cells #[.slice Ao59 x189000_1.length co59, .int .i64 t186, .int .i64 t187, .slice Ao60 x189003_2.length co60] 27 (0, 0)) (by (with_reducible repeat (first | refine blk_drewN ?_ _ | refine blk_drew ?_ | refine blk_alloc ?_ _)); exact BK188.out) k_ hk_)⟩)) (below_size (TB3 GE182.out GE183.out GE188.out))); replace HO_189000 := Aside0.mk (Kd.R_below (TRo HO_189000.out) hb); replace HO_189003 := Aside0.mk (Kd.R_below (TRo HO_189003.out) hb); replace BK182 := Aside0.mk (blk_below (g := gb182) (o := .cells #[.slice A0_0 l0_0.length c0_0, .int .i64 a0_1, .int .i64 a0_2, .slice A0_3 l0_3.length c0_3] 27 (0, 0)) (by (with_reducible repeat (first | refine blk_drewN ?_ _ | refine blk_drew ?_ | refine blk_alloc ?_ _)); exact BK182.out) hb); replace BK183 := Aside0.mk (blk_below (g := gb183) (o := .cells #[.int .i64 a1_0, .int .i64 a1_1] 28 (0, 0)) (by (with_reducible repeat (first | refine blk_drewN ?_ _ | refine blk_drew ?_ | refine blk_alloc ?_ _)); exact BK183.out) hb); replace BK188 := Aside0.mk (blk_below (g := gb188) (o := .cells #[.slice Ao59 x189000_1.length co59, .int .i64 t186, .int .i64 t187, .slice Ao60 x189003_2.length co60] 27 (0, 0)) (by (with_reducible repeat (first | refine blk_drewN ?_ _ | refine blk_drew ?_ | refine blk_alloc ?_ _)); exact BK188.out) hb); replace HB := Aside0.mk (below_step (TB3 GE182.out GE183.out GE188.out) hb); (try clear hb); (try clear hb2); (try clear hk); (try clear hi); (try clear ho0); have hcz104_0 := czz BK188.out 0; have hcz104_1 := czz BK188.out 1; have hcz104_2 := czz BK188.out 2; have hcz104_3 := czz BK188.out 3; have hfz104_0 := fz BK188.out 0; have hfz104_1 := fz BK188.out 1; have hfz104_2 := fz BK188.out 2; have hfz104_3 := fz BK188.out 3) | ((with_reducible refine gate_callee (f := 25) rfl ?_); refine goesL_ (some 187) rfl rfl Tryd.func25 (by kernel_rfl) rfl #[.agg #[.slice Ao59 x189000_1.length co59, .int .i64 t186, .int .i64 t187, .slice Ao60 x189003_2.length co60]] rfl TM ?_; (with_reducible refine (rasp_Spoilt.calls _ _ x189000_1 t186 t187 _ _ x189003_2 t226 t229 _ ?side1 ?side2 ?side3 ?side4 ?side5 A74.out).mono ?_); (case side1 => repeat (first | exact (Kd.R_reads' HO_189000.out).2.2 | (with_reducible refine Kd.C_alloc ?_ _) | (with_reducible refine Kd.C_drewN ?_ _) | (with_reducible refine Kd.C_drew ?_))); (case side2 => exact (Kd.R_reads' HO_189000.out).2.1); (case side3 => repeat (first | exact (Kd.R_reads' HO_189003.out).2.2 | (with_reducible refine Kd.C_alloc ?_ _) | (with_reducible refine Kd.C_drewN ?_ _) | (with_reducible refine Kd.C_drew ?_))); (case side4 => exact (Kd.R_reads' HO_189003.out).2.1); (case side5 => exact Glob.fr HG.out (Fr.of_below (TB3 GE182.out GE183.out GE188.out))); rintro e w105 ⟨v227, rfl, ho0, hb⟩; refine ⟨_, rfl, ?_⟩; have HO228 := Aside0.mk (Kd.V_lower (Kd.V_mono (ok' := fun k_ => some k_ ≠ (.slice Ao59 x189000_1.length co59 : Value).ownBlock ∧ some k_ ≠ (.slice Ao60 x189003_2.length co60 : Value).ownBlock ∧ k_ ≠ gb182 ∧ k_ ≠ gb183 ∧ k_ ≠ gb188) ho0 (fun k_ hk_ => ⟨(Kd.fresh' (Kd.R_lt (TRo HO_189000.out)) k_ hk_), (Kd.fresh' (Kd.R_lt (TRo HO_189003.out)) k_ hk_), (Kd.freshB (g := gb182) (o := .cells #[.slice A0_0 l0_0.length c0_0, .int .i64 a0_1, .int .i64 a0_2, .slice A0_3 l0_3.length c0_3] 27 (0, 0)) (by (with_reducible repeat (first | refine blk_drewN ?_ _ | refine blk_drew ?_ | refine blk_alloc ?_ _)); exact BK182.out) k_ hk_), (Kd.freshB (g := gb183) (o := .cells #[.int .i64 a1_0, .int .i64 a1_1] 28 (0, 0)) (by (with_reducible repeat (first | refine blk_drewN ?_ _ | refine blk_drew ?_ | refine blk_alloc ?_ _)); exact BK183.out) k_ hk_), (Kd.freshB (g := gb188) (o := .cells #[.slice Ao59 x189000_1.length co59, .int .i64 t186, .int .i64 t187, .slice Ao60 x189003_2.length co60] 27 (0, 0)) (by (with_reducible repeat (first | refine blk_drewN ?_ _ | refine blk_drew ?_ | refine blk_alloc ?_ _)); exact BK188.out) k_ hk_)⟩)) (below_size (TB3 GE182.out GE183.out GE188.out))); replace HO_189000 := Aside0.mk (Kd.R_below (TRo HO_189000.out) hb); replace HO_189003 := Aside0.mk (Kd.R_below (TRo HO_189003.out) hb); replace HO224 := Aside0.mk (Kd.V_below (by (with_reducible repeat (first | apply Kd.V_alloc | apply Kd.V_drewN | apply Kd.V_drew)); exact HO224.out) hb); replace BK182 := Aside0.mk (blk_below (g := gb182) (o := .cells #[.slice A0_0 l0_0.length c0_0, .int .i64 a0_1, .int .i64 a0_2, .slice A0_3 l0_3.length c0_3] 27 (0, 0)) (by (with_reducible repeat (first | refine blk_drewN ?_ _ | refine blk_drew ?_ | refine blk_alloc ?_ _)); exact BK182.out) hb); replace BK183 := Aside0.mk (blk_below (g := gb183) (o := .cells #[.int .i64 a1_0, .int .i64 a1_1] 28 (0, 0)) (by (with_reducible repeat (first | refine blk_drewN ?_ _ | refine blk_drew ?_ | refine blk_alloc ?_ _)); exact BK183.out) hb); replace BK188 := Aside0.mk (blk_below (g := gb188) (o := .cells #[.slice Ao59 x189000_1.length co59, .int .i64 t186, .int .i64 t187, .slice Ao60 x189003_2.length co60] 27 (0, 0)) (by (with_reducible repeat (first | refine blk_drewN ?_ _ | refine blk_drew ?_ | refine blk_alloc ?_ _)); exact BK188.out) hb); replace HB := Aside0.mk (below_step (TB3 GE182.out GE183.out GE188.out) hb); (try clear hb); (try clear hb2); (try clear hk); (try clear hi); (try clear ho0); obtain ⟨Ao106, co106, eo106⟩ := Kd.V_slice HO224.out; subst eo106; obtain ⟨Ao107, co107, eo107⟩ := Kd.V_slice HO228.out; subst eo107) | (go_at_call 27; (with_reducible refine (saronref00_Equal.calls kj48 _ _ t222 _ _ t226 true _ ?side1 ?side2 ?side3 ?side4 A77.out).mono ?_); (case side1 => repeat (first | exact (Kd.V_reads' HO224.out).2.2 | (with_reducible refine Kd.C_alloc ?_ _) | (with_reducible refine Kd.C_drewN ?_ _) | (with_reducible refine Kd.C_drew ?_))); (case side2 => exact (Kd.V_reads' HO224.out).2.1); (case side3 => repeat (first | exact (Kd.V_reads' HO228.out).2.2 | (with_reducible refine Kd.C_alloc ?_ _) | (with_reducible refine Kd.C_drewN ?_ _) | (with_reducible refine Kd.C_drew ?_))); (case side4 => exact (Kd.V_reads' HO228.out).2.1); rintro e w' ⟨rfl, ⟨nd, rfl⟩⟩))
               go_ret
               exact ⟨TR, TB3 GE182.out GE183.out GE188.out⟩
             ·replace c78 := Bool.eq_false_iff.mpr c78
              subst c78
              have H1 : (some false) = some r := by rw [if_neg (show ¬ (false = true) by decide)] at H; exact H
              clear H
              have H := H1
              clear H1
              obtain rfl := Option.some.inj H
              have hnb108 := NB182_183.out
              have hnc108 := NB183_182.out
              have hnb109 := NB182_188.out
              have hnc109 := NB188_182.out
              have hcz110_0 := czz BK182.out 0
              have hcz110_1 := czz BK182.out 1
              have hcz110_2 := czz BK182.out 2
              have hcz110_3 := czz BK182.out 3
              have hfz110_0 := fz BK182.out 0
              have hfz110_1 := fz BK182.out 1
              have hfz110_2 := fz BK182.out 2
              have hfz110_3 := fz BK182.out 3
              go_wp2_with (first | ((with_reducible refine gate_callee (f := 20) rfl ?_); refine goesL_ (some 169) rfl rfl Tryd.func20 (by kernel_rfl) rfl #[.agg #[.slice A0_0 l0_0.length c0_0, .int .i64 a0_1, .int .i64 a0_2, .slice A0_3 l0_3.length c0_3], .int .i64 t206, .int .i64 t207] rfl TM ?_; (with_reducible refine (rasp_Lucky.calls _ _ l0_0 a0_1 a0_2 _ _ l0_3 t206 t207 t218 t219 _ ?side1 ?side2 ?side3 ?side4 ?side5 A71.out).mono ?_); (case side1 => exact TC HR0_0.out); (case side2 => exact HC0_0.out); (case side3 => exact TC HR0_3.out); (case side4 => exact HC0_3.out); (case side5 => exact Glob.fr HG.out (Fr.of_below (TB3 GE182.out GE183.out GE188.out))); rintro e w111 ⟨rfl, hb⟩; refine ⟨_, rfl, ?_⟩; replace HO_189000 := Aside0.mk (Kd.R_below (TRo HO_189000.out) hb); replace HO_189003 := Aside0.mk (Kd.R_below (TRo HO_189003.out) hb); replace BK182 := Aside0.mk (blk_below (g := gb182) (o := .cells #[.slice A0_0 l0_0.length c0_0, .int .i64 a0_1, .int .i64 a0_2, .slice A0_3 l0_3.length c0_3] 27 (0, 0)) (by (with_reducible repeat (first | refine blk_drewN ?_ _ | refine blk_drew ?_ | refine blk_alloc ?_ _)); exact BK182.out) hb); replace BK183 := Aside0.mk (blk_below (g := gb183) (o := .cells #[.int .i64 a1_0, .int .i64 a1_1] 28 (0, 0)) (by (with_reducible repeat (first | refine blk_drewN ?_ _ | refine blk_drew ?_ | refine blk_alloc ?_ _)); exact BK183.out) hb); replace BK188 := Aside0.mk (blk_below (g := gb188) (o := .cells #[.slice Ao59 x189000_1.length co59, .int .i64 t186, .int .i64 t187, .slice Ao60 x189003_2.length co60] 27 (0, 0)) (by (with_reducible repeat (first | refine blk_drewN ?_ _ | refine blk_drew ?_ | refine blk_alloc ?_ _)); exact BK188.out) hb); replace HB := Aside0.mk (below_step (TB3 GE182.out GE183.out GE188.out) hb); (try clear hb); (try clear hb2); (try clear hk); (try clear hi); have hnb112 := NB188_183.out; have hnc112 := NB183_188.out; have hcz113_0 := czz BK188.out 0; have hcz113_1 := czz BK188.out 1; have hcz113_2 := czz BK188.out 2; have hcz113_3 := czz BK188.out 3; have hfz113_0 := fz BK188.out 0; have hfz113_1 := fz BK188.out 1; have hfz113_2 := fz BK188.out 2; have hfz113_3 := fz BK188.out 3) | ((with_reducible refine gate_callee (f := 20) rfl ?_); refine goesL_ (some 177) rfl rfl Tryd.func20 (by kernel_rfl) rfl #[.agg #[.slice Ao59 x189000_1.length co59, .int .i64 t186, .int .i64 t187, .slice Ao60 x189003_2.length co60], .int .i64 (wrap64 (-t206)), .int .i64 t207] rfl TM ?_; (with_reducible refine (rasp_Lucky.calls _ _ x189000_1 t186 t187 _ _ x189003_2 (wrap64 (-t206)) t207 t220 t221 _ ?side1 ?side2 ?side3 ?side4 ?side5 A72.out).mono ?_); (case side1 => repeat (first | exact (Kd.R_reads' HO_189000.out).2.2 | (with_reducible refine Kd.C_alloc ?_ _) | (with_reducible refine Kd.C_drewN ?_ _) | (with_reducible refine Kd.C_drew ?_))); (case side2 => exact (Kd.R_reads' HO_189000.out).2.1); (case side3 => repeat (first | exact (Kd.R_reads' HO_189003.out).2.2 | (with_reducible refine Kd.C_alloc ?_ _) | (with_reducible refine Kd.C_drewN ?_ _) | (with_reducible refine Kd.C_drew ?_))); (case side4 => exact (Kd.R_reads' HO_189003.out).2.1); (case side5 => exact Glob.fr HG.out (Fr.of_below (TB3 GE182.out GE183.out GE188.out))); rintro e w114 ⟨rfl, hb⟩; refine ⟨_, rfl, ?_⟩; replace HO_189000 := Aside0.mk (Kd.R_below (TRo HO_189000.out) hb); replace HO_189003 := Aside0.mk (Kd.R_below (TRo HO_189003.out) hb); replace BK182 := Aside0.mk (blk_below (g := gb182) (o := .cells #[.slice A0_0 l0_0.length c0_0, .int .i64 a0_1, .int .i64 a0_2, .slice A0_3 l0_3.length c0_3] 27 (0, 0)) (by (with_reducible repeat (first | refine blk_drewN ?_ _ | refine blk_drew ?_ | refine blk_alloc ?_ _)); exact BK182.out) hb); replace BK183 := Aside0.mk (blk_below (g := gb183) (o := .cells #[.int .i64 a1_0, .int .i64 a1_1] 28 (0, 0)) (by (with_reducible repeat (first | refine blk_drewN ?_ _ | refine blk_drew ?_ | refine blk_alloc ?_ _)); exact BK183.out) hb); replace BK188 := Aside0.mk (blk_below (g := gb188) (o := .cells #[.slice Ao59 x189000_1.length co59, .int .i64 t186, .int .i64 t187, .slice Ao60 x189003_2.length co60] 27 (0, 0)) (by (with_reducible repeat (first | refine blk_drewN ?_ _ | refine blk_drew ?_ | refine blk_alloc ?_ _)); exact BK188.out) hb); replace HB := Aside0.mk (below_step (TB3 GE182.out GE183.out GE188.out) hb); (try clear hb); (try clear hb2); (try clear hk); (try clear hi); have hcz115_0 := czz BK182.out 0; have hcz115_1 := czz BK182.out 1; have hcz115_2 := czz BK182.out 2; have hcz115_3 := czz BK182.out 3; have hfz115_0 := fz BK182.out 0; have hfz115_1 := fz BK182.out 1; have hfz115_2 := fz BK182.out 2; have hfz115_3 := fz BK182.out 3) | ((with_reducible refine gate_callee (f := 25) rfl ?_); refine goesL_ (some 182) rfl rfl Tryd.func25 (by kernel_rfl) rfl #[.agg #[.slice A0_0 l0_0.length c0_0, .int .i64 a0_1, .int .i64 a0_2, .slice A0_3 l0_3.length c0_3]] rfl TM ?_; (with_reducible refine (rasp_Spoilt.calls _ _ l0_0 a0_1 a0_2 _ _ l0_3 t222 t225 _ ?side1 ?side2 ?side3 ?side4 ?side5 A73.out).mono ?_); (case side1 => exact TC HR0_0.out); (case side2 => exact HC0_0.out); (case side3 => exact TC HR0_3.out); (case side4 => exact HC0_3.out); (case side5 => exact Glob.fr HG.out (Fr.of_below (TB3 GE182.out GE183.out GE188.out))); rintro e w116 ⟨v223, rfl, ho0, hb⟩; refine ⟨_, rfl, ?_⟩; have HO224 := Aside0.mk (Kd.V_lower (Kd.V_mono (ok' := fun k_ => some k_ ≠ (.slice Ao59 x189000_1.length co59 : Value).ownBlock ∧ some k_ ≠ (.slice Ao60 x189003_2.length co60 : Value).ownBlock ∧ k_ ≠ gb182 ∧ k_ ≠ gb183 ∧ k_ ≠ gb188) ho0 (fun k_ hk_ => ⟨(Kd.fresh' (Kd.R_lt (TRo HO_189000.out)) k_ hk_), (Kd.fresh' (Kd.R_lt (TRo HO_189003.out)) k_ hk_), (Kd.freshB (g := gb182) (o := .cells #[.slice A0_0 l0_0.length c0_0, .int .i64 a0_1, .int .i64 a0_2, .slice A0_3 l0_3.length c0_3] 27 (0, 0)) (by (with_reducible repeat (first | refine blk_drewN ?_ _ | refine blk_drew ?_ | refine blk_alloc ?_ _)); exact BK182.out) k_ hk_), (Kd.freshB (g := gb183) (o := .cells #[.int .i64 a1_0, .int .i64 a1_1] 28 (0, 0)) (by (with_reducible repeat (first | refine blk_drewN ?_ _ | refine blk_drew ?_ | refine blk_alloc ?_ _)); exact BK183.out) k_ hk_), (Kd.freshB (g := gb188) (o := .cells #[.slice Ao59 x189000_1.length co59, .int .i64 t186, .int .i64 t187, .slice Ao60 x189003_2.length co60] 27 (0, 0)) (by (with_reducible repeat (first | refine blk_drewN ?_ _ | refine blk_drew ?_ | refine blk_alloc ?_ _)); exact BK188.out) k_ hk_)⟩)) (below_size (TB3 GE182.out GE183.out GE188.out))); replace HO_189000 := Aside0.mk (Kd.R_below (TRo HO_189000.out) hb); replace HO_189003 := Aside0.mk (Kd.R_below (TRo HO_189003.out) hb); replace BK182 := Aside0.mk (blk_below (g := gb182) (o := .cells #[.slice A0_0 l0_0.length c0_0, .int .i64 a0_1, .int .i64 a0_2, .slice A0_3 l0_3.length c0_3] 27 (0, 0)) (by (with_reducible repeat (first | refine blk_drewN ?_ _ | refine blk_drew ?_ | refine blk_alloc ?_ _)); exact BK182.out) hb); replace BK183 := Aside0.mk (blk_below (g := gb183) (o := .cells #[.int .i64 a1_0, .int .i64 a1_1] 28 (0, 0)) (by (with_reducible repeat (first | refine blk_drewN ?_ _ | refine blk_drew ?_ | refine blk_alloc ?_ _)); exact BK183.out) hb); replace BK188 := Aside0.mk (blk_below (g := gb188) (o := .cells #[.slice Ao59 x189000_1.length co59, .int .i64 t186, .int .i64 t187, .slice Ao60 x189003_2.length co60] 27 (0, 0)) (by (with_reducible repeat (first | refine blk_drewN ?_ _ | refine blk_drew ?_ | refine blk_alloc ?_ _)); exact BK188.out) hb); replace HB := Aside0.mk (below_step (TB3 GE182.out GE183.out GE188.out) hb); (try clear hb); (try clear hb2); (try clear hk); (try clear hi); (try clear ho0); have hcz117_0 := czz BK188.out 0; have hcz117_1 := czz BK188.out 1; have hcz117_2 := czz BK188.out 2; have hcz117_3 := czz BK188.out 3; have hfz117_0 := fz BK188.out 0; have hfz117_1 := fz BK188.out 1; have hfz117_2 := fz BK188.out 2; have hfz117_3 := fz BK188.out 3) | ((with_reducible refine gate_callee (f := 25) rfl ?_); refine goesL_ (some 187) rfl rfl Tryd.func25 (by kernel_rfl) rfl #[.agg #[.slice Ao59 x189000_1.length co59, .int .i64 t186, .int .i64 t187, .slice Ao60 x189003_2.length co60]] rfl TM ?_; (with_reducible refine (rasp_Spoilt.calls _ _ x189000_1 t186 t187 _ _ x189003_2 t226 t229 _ ?side1 ?side2 ?side3 ?side4 ?side5 A74.out).mono ?_); (case side1 => repeat (first | exact (Kd.R_reads' HO_189000.out).2.2 | (with_reducible refine Kd.C_alloc ?_ _) | (with_reducible refine Kd.C_drewN ?_ _) | (with_reducible refine Kd.C_drew ?_))); (case side2 => exact (Kd.R_reads' HO_189000.out).2.1); (case side3 => repeat (first | exact (Kd.R_reads' HO_189003.out).2.2 | (with_reducible refine Kd.C_alloc ?_ _) | (with_reducible refine Kd.C_drewN ?_ _) | (with_reducible refine Kd.C_drew ?_))); (case side4 => exact (Kd.R_reads' HO_189003.out).2.1); (case side5 => exact Glob.fr HG.out (Fr.of_below (TB3 GE182.out GE183.out GE188.out))); rintro e w118 ⟨v227, rfl, ho0, hb⟩; refine ⟨_, rfl, ?_⟩; have HO228 := Aside0.mk (Kd.V_lower (Kd.V_mono (ok' := fun k_ => some k_ ≠ (.slice Ao59 x189000_1.length co59 : Value).ownBlock ∧ some k_ ≠ (.slice Ao60 x189003_2.length co60 : Value).ownBlock ∧ k_ ≠ gb182 ∧ k_ ≠ gb183 ∧ k_ ≠ gb188) ho0 (fun k_ hk_ => ⟨(Kd.fresh' (Kd.R_lt (TRo HO_189000.out)) k_ hk_), (Kd.fresh' (Kd.R_lt (TRo HO_189003.out)) k_ hk_), (Kd.freshB (g := gb182) (o := .cells #[.slice A0_0 l0_0.length c0_0, .int .i64 a0_1, .int .i64 a0_2, .slice A0_3 l0_3.length c0_3] 27 (0, 0)) (by (with_reducible repeat (first | refine blk_drewN ?_ _ | refine blk_drew ?_ | refine blk_alloc ?_ _)); exact BK182.out) k_ hk_), (Kd.freshB (g := gb183) (o := .cells #[.int .i64 a1_0, .int .i64 a1_1] 28 (0, 0)) (by (with_reducible repeat (first | refine blk_drewN ?_ _ | refine blk_drew ?_ | refine blk_alloc ?_ _)); exact BK183.out) k_ hk_), (Kd.freshB (g := gb188) (o := .cells #[.slice Ao59 x189000_1.length co59, .int .i64 t186, .int .i64 t187, .slice Ao60 x189003_2.length co60] 27 (0, 0)) (by (with_reducible repeat (first | refine blk_drewN ?_ _ | refine blk_drew ?_ | refine blk_alloc ?_ _)); exact BK188.out) k_ hk_)⟩)) (below_size (TB3 GE182.out GE183.out GE188.out))); replace HO_189000 := Aside0.mk (Kd.R_below (TRo HO_189000.out) hb); replace HO_189003 := Aside0.mk (Kd.R_below (TRo HO_189003.out) hb); replace HO224 := Aside0.mk (Kd.V_below (by (with_reducible repeat (first | apply Kd.V_alloc | apply Kd.V_drewN | apply Kd.V_drew)); exact HO224.out) hb); replace BK182 := Aside0.mk (blk_below (g := gb182) (o := .cells #[.slice A0_0 l0_0.length c0_0, .int .i64 a0_1, .int .i64 a0_2, .slice A0_3 l0_3.length c0_3] 27 (0, 0)) (by (with_reducible repeat (first | refine blk_drewN ?_ _ | refine blk_drew ?_ | refine blk_alloc ?_ _)); exact BK182.out) hb); replace BK183 := Aside0.mk (blk_below (g := gb183) (o := .cells #[.int .i64 a1_0, .int .i64 a1_1] 28 (0, 0)) (by (with_reducible repeat (first | refine blk_drewN ?_ _ | refine blk_drew ?_ | refine blk_alloc ?_ _)); exact BK183.out) hb); replace BK188 := Aside0.mk (blk_below (g := gb188) (o := .cells #[.slice Ao59 x189000_1.length co59, .int .i64 t186, .int .i64 t187, .slice Ao60 x189003_2.length co60] 27 (0, 0)) (by (with_reducible repeat (first | refine blk_drewN ?_ _ | refine blk_drew ?_ | refine blk_alloc ?_ _)); exact BK188.out) hb); replace HB := Aside0.mk (below_step (TB3 GE182.out GE183.out GE188.out) hb); (try clear hb); (try clear hb2); (try clear hk); (try clear hi); (try clear ho0); obtain ⟨Ao119, co119, eo119⟩ := Kd.V_slice HO224.out; subst eo119; obtain ⟨Ao120, co120, eo120⟩ := Kd.V_slice HO228.out; subst eo120) | (go_at_call 27; (with_reducible refine (saronref00_Equal.calls kj48 _ _ t222 _ _ t226 false _ ?side1 ?side2 ?side3 ?side4 A77.out).mono ?_); (case side1 => repeat (first | exact (Kd.V_reads' HO224.out).2.2 | (with_reducible refine Kd.C_alloc ?_ _) | (with_reducible refine Kd.C_drewN ?_ _) | (with_reducible refine Kd.C_drew ?_))); (case side2 => exact (Kd.V_reads' HO224.out).2.1); (case side3 => repeat (first | exact (Kd.V_reads' HO228.out).2.2 | (with_reducible refine Kd.C_alloc ?_ _) | (with_reducible refine Kd.C_drewN ?_ _) | (with_reducible refine Kd.C_drew ?_))); (case side4 => exact (Kd.V_reads' HO228.out).2.1); rintro e w' ⟨rfl, ⟨nd, rfl⟩⟩))
              go_ret
              exact ⟨TR, TB3 GE182.out GE183.out GE188.out⟩
            ·rw [if_neg c76] at H
             have c76b0 : (t219 == t221) = false := beq_eq_false_iff_ne.mpr c76
             have c76b1 : (t219 != t221) = true := bne_iff_ne.mpr c76
             obtain rfl := Option.some.inj H
             have hnb121 := NB182_183.out
             have hnc121 := NB183_182.out
             have hnb122 := NB182_188.out
             have hnc122 := NB188_182.out
             have hcz123_0 := czz BK182.out 0
             have hcz123_1 := czz BK182.out 1
             have hcz123_2 := czz BK182.out 2
             have hcz123_3 := czz BK182.out 3
             have hfz123_0 := fz BK182.out 0
             have hfz123_1 := fz BK182.out 1
             have hfz123_2 := fz BK182.out 2
             have hfz123_3 := fz BK182.out 3
             go_wp2_with (first | ((with_reducible refine gate_callee (f := 20) rfl ?_); refine goesL_ (some 169) rfl rfl Tryd.func20 (by kernel_rfl) rfl #[.agg #[.slice A0_0 l0_0.length c0_0, .int .i64 a0_1, .int .i64 a0_2, .slice A0_3 l0_3.length c0_3], .int .i64 t206, .int .i64 t207] rfl TM ?_; (with_reducible refine (rasp_Lucky.calls _ _ l0_0 a0_1 a0_2 _ _ l0_3 t206 t207 t218 t219 _ ?side1 ?side2 ?side3 ?side4 ?side5 A71.out).mono ?_); (case side1 => exact TC HR0_0.out); (case side2 => exact HC0_0.out); (case side3 => exact TC HR0_3.out); (case side4 => exact HC0_3.out); (case side5 => exact Glob.fr HG.out (Fr.of_below (TB3 GE182.out GE183.out GE188.out))); rintro e w124 ⟨rfl, hb⟩; refine ⟨_, rfl, ?_⟩; replace HO_189000 := Aside0.mk (Kd.R_below (TRo HO_189000.out) hb); replace HO_189003 := Aside0.mk (Kd.R_below (TRo HO_189003.out) hb); replace BK182 := Aside0.mk (blk_below (g := gb182) (o := .cells #[.slice A0_0 l0_0.length c0_0, .int .i64 a0_1, .int .i64 a0_2, .slice A0_3 l0_3.length c0_3] 27 (0, 0)) (by (with_reducible repeat (first | refine blk_drewN ?_ _ | refine blk_drew ?_ | refine blk_alloc ?_ _)); exact BK182.out) hb); replace BK183 := Aside0.mk (blk_below (g := gb183) (o := .cells #[.int .i64 a1_0, .int .i64 a1_1] 28 (0, 0)) (by (with_reducible repeat (first | refine blk_drewN ?_ _ | refine blk_drew ?_ | refine blk_alloc ?_ _)); exact BK183.out) hb); replace BK188 := Aside0.mk (blk_below (g := gb188) (o := .cells #[.slice Ao59 x189000_1.length co59, .int .i64 t186, .int .i64 t187, .slice Ao60 x189003_2.length co60] 27 (0, 0)) (by (with_reducible repeat (first | refine blk_drewN ?_ _ | refine blk_drew ?_ | refine blk_alloc ?_ _)); exact BK188.out) hb); replace HB := Aside0.mk (below_step (TB3 GE182.out GE183.out GE188.out) hb); (try clear hb); (try clear hb2); (try clear hk); (try clear hi); have hnb125 := NB188_183.out; have hnc125 := NB183_188.out; have hcz126_0 := czz BK188.out 0; have hcz126_1 := czz BK188.out 1; have hcz126_2 := czz BK188.out 2; have hcz126_3 := czz BK188.out 3; have hfz126_0 := fz BK188.out 0; have hfz126_1 := fz BK188.out 1; have hfz126_2 := fz BK188.out 2; have hfz126_3 := fz BK188.out 3) | ((with_reducible refine gate_callee (f := 20) rfl ?_); refine goesL_ (some 177) rfl rfl Tryd.func20 (by kernel_rfl) rfl #[.agg #[.slice Ao59 x189000_1.length co59, .int .i64 t186, .int .i64 t187, .slice Ao60 x189003_2.length co60], .int .i64 (wrap64 (-t206)), .int .i64 t207] rfl TM ?_; (with_reducible refine (rasp_Lucky.calls _ _ x189000_1 t186 t187 _ _ x189003_2 (wrap64 (-t206)) t207 t220 t221 _ ?side1 ?side2 ?side3 ?side4 ?side5 A72.out).mono ?_); (case side1 => repeat (first | exact (Kd.R_reads' HO_189000.out).2.2 | (with_reducible refine Kd.C_alloc ?_ _) | (with_reducible refine Kd.C_drewN ?_ _) | (with_reducible refine Kd.C_drew ?_))); (case side2 => exact (Kd.R_reads' HO_189000.out).2.1); (case side3 => repeat (first | exact (Kd.R_reads' HO_189003.out).2.2 | (with_reducible refine Kd.C_alloc ?_ _) | (with_reducible refine Kd.C_drewN ?_ _) | (with_reducible refine Kd.C_drew ?_))); (case side4 => exact (Kd.R_reads' HO_189003.out).2.1); (case side5 => exact Glob.fr HG.out (Fr.of_below (TB3 GE182.out GE183.out GE188.out))); rintro e w127 ⟨rfl, hb⟩; refine ⟨_, rfl, ?_⟩; replace HO_189000 := Aside0.mk (Kd.R_below (TRo HO_189000.out) hb); replace HO_189003 := Aside0.mk (Kd.R_below (TRo HO_189003.out) hb); replace BK182 := Aside0.mk (blk_below (g := gb182) (o := .cells #[.slice A0_0 l0_0.length c0_0, .int .i64 a0_1, .int .i64 a0_2, .slice A0_3 l0_3.length c0_3] 27 (0, 0)) (by (with_reducible repeat (first | refine blk_drewN ?_ _ | refine blk_drew ?_ | refine blk_alloc ?_ _)); exact BK182.out) hb); replace BK183 := Aside0.mk (blk_below (g := gb183) (o := .cells #[.int .i64 a1_0, .int .i64 a1_1] 28 (0, 0)) (by (with_reducible repeat (first | refine blk_drewN ?_ _ | refine blk_drew ?_ | refine blk_alloc ?_ _)); exact BK183.out) hb); replace BK188 := Aside0.mk (blk_below (g := gb188) (o := .cells #[.slice Ao59 x189000_1.length co59, .int .i64 t186, .int .i64 t187, .slice Ao60 x189003_2.length co60] 27 (0, 0)) (by (with_reducible repeat (first | refine blk_drewN ?_ _ | refine blk_drew ?_ | refine blk_alloc ?_ _)); exact BK188.out) hb); replace HB := Aside0.mk (below_step (TB3 GE182.out GE183.out GE188.out) hb); (try clear hb); (try clear hb2); (try clear hk); (try clear hi); have hcz128_0 := czz BK182.out 0; have hcz128_1 := czz BK182.out 1; have hcz128_2 := czz BK182.out 2; have hcz128_3 := czz BK182.out 3; have hfz128_0 := fz BK182.out 0; have hfz128_1 := fz BK182.out 1; have hfz128_2 := fz BK182.out 2; have hfz128_3 := fz BK182.out 3) | ((with_reducible refine gate_callee (f := 25) rfl ?_); refine goesL_ (some 182) rfl rfl Tryd.func25 (by kernel_rfl) rfl #[.agg #[.slice A0_0 l0_0.length c0_0, .int .i64 a0_1, .int .i64 a0_2, .slice A0_3 l0_3.length c0_3]] rfl TM ?_; (with_reducible refine (rasp_Spoilt.calls _ _ l0_0 a0_1 a0_2 _ _ l0_3 t222 t225 _ ?side1 ?side2 ?side3 ?side4 ?side5 A73.out).mono ?_); (case side1 => exact TC HR0_0.out); (case side2 => exact HC0_0.out); (case side3 => exact TC HR0_3.out); (case side4 => exact HC0_3.out); (case side5 => exact Glob.fr HG.out (Fr.of_below (TB3 GE182.out GE183.out GE188.out))); rintro e w129 ⟨v223, rfl, ho0, hb⟩; refine ⟨_, rfl, ?_⟩; have HO224 := Aside0.mk (Kd.V_lower (Kd.V_mono (ok' := fun k_ => some k_ ≠ (.slice Ao59 x189000_1.length co59 : Value).ownBlock ∧ some k_ ≠ (.slice Ao60 x189003_2.length co60 : Value).ownBlock ∧ k_ ≠ gb182 ∧ k_ ≠ gb183 ∧ k_ ≠ gb188) ho0 (fun k_ hk_ => ⟨(Kd.fresh' (Kd.R_lt (TRo HO_189000.out)) k_ hk_), (Kd.fresh' (Kd.R_lt (TRo HO_189003.out)) k_ hk_), (Kd.freshB (g := gb182) (o := .cells #[.slice A0_0 l0_0.length c0_0, .int .i64 a0_1, .int .i64 a0_2, .slice A0_3 l0_3.length c0_3] 27 (0, 0)) (by (with_reducible repeat (first | refine blk_drewN ?_ _ | refine blk_drew ?_ | refine blk_alloc ?_ _)); exact BK182.out) k_ hk_), (Kd.freshB (g := gb183) (o := .cells #[.int .i64 a1_0, .int .i64 a1_1] 28 (0, 0)) (by (with_reducible repeat (first | refine blk_drewN ?_ _ | refine blk_drew ?_ | refine blk_alloc ?_ _)); exact BK183.out) k_ hk_), (Kd.freshB (g := gb188) (o := .cells #[.slice Ao59 x189000_1.length co59, .int .i64 t186, .int .i64 t187, .slice Ao60 x189003_2.length co60] 27 (0, 0)) (by (with_reducible repeat (first | refine blk_drewN ?_ _ | refine blk_drew ?_ | refine blk_alloc ?_ _)); exact BK188.out) k_ hk_)⟩)) (below_size (TB3 GE182.out GE183.out GE188.out))); replace HO_189000 := Aside0.mk (Kd.R_below (TRo HO_189000.out) hb); replace HO_189003 := Aside0.mk (Kd.R_below (TRo HO_189003.out) hb); replace BK182 := Aside0.mk (blk_below (g := gb182) (o := .cells #[.slice A0_0 l0_0.length c0_0, .int .i64 a0_1, .int .i64 a0_2, .slice A0_3 l0_3.length c0_3] 27 (0, 0)) (by (with_reducible repeat (first | refine blk_drewN ?_ _ | refine blk_drew ?_ | refine blk_alloc ?_ _)); exact BK182.out) hb); replace BK183 := Aside0.mk (blk_below (g := gb183) (o := .cells #[.int .i64 a1_0, .int .i64 a1_1] 28 (0, 0)) (by (with_reducible repeat (first | refine blk_drewN ?_ _ | refine blk_drew ?_ | refine blk_alloc ?_ _)); exact BK183.out) hb); replace BK188 := Aside0.mk (blk_below (g := gb188) (o := .cells #[.slice Ao59 x189000_1.length co59, .int .i64 t186, .int .i64 t187, .slice Ao60 x189003_2.length co60] 27 (0, 0)) (by (with_reducible repeat (first | refine blk_drewN ?_ _ | refine blk_drew ?_ | refine blk_alloc ?_ _)); exact BK188.out) hb); replace HB := Aside0.mk (below_step (TB3 GE182.out GE183.out GE188.out) hb); (try clear hb); (try clear hb2); (try clear hk); (try clear hi); (try clear ho0); have hcz130_0 := czz BK188.out 0; have hcz130_1 := czz BK188.out 1; have hcz130_2 := czz BK188.out 2; have hcz130_3 := czz BK188.out 3; have hfz130_0 := fz BK188.out 0; have hfz130_1 := fz BK188.out 1; have hfz130_2 := fz BK188.out 2; have hfz130_3 := fz BK188.out 3) | ((with_reducible refine gate_callee (f := 25) rfl ?_); refine goesL_ (some 187) rfl rfl Tryd.func25 (by kernel_rfl) rfl #[.agg #[.slice Ao59 x189000_1.length co59, .int .i64 t186, .int .i64 t187, .slice Ao60 x189003_2.length co60]] rfl TM ?_; (with_reducible refine (rasp_Spoilt.calls _ _ x189000_1 t186 t187 _ _ x189003_2 t226 t229 _ ?side1 ?side2 ?side3 ?side4 ?side5 A74.out).mono ?_); (case side1 => repeat (first | exact (Kd.R_reads' HO_189000.out).2.2 | (with_reducible refine Kd.C_alloc ?_ _) | (with_reducible refine Kd.C_drewN ?_ _) | (with_reducible refine Kd.C_drew ?_))); (case side2 => exact (Kd.R_reads' HO_189000.out).2.1); (case side3 => repeat (first | exact (Kd.R_reads' HO_189003.out).2.2 | (with_reducible refine Kd.C_alloc ?_ _) | (with_reducible refine Kd.C_drewN ?_ _) | (with_reducible refine Kd.C_drew ?_))); (case side4 => exact (Kd.R_reads' HO_189003.out).2.1); (case side5 => exact Glob.fr HG.out (Fr.of_below (TB3 GE182.out GE183.out GE188.out))); rintro e w131 ⟨v227, rfl, ho0, hb⟩; refine ⟨_, rfl, ?_⟩; have HO228 := Aside0.mk (Kd.V_lower (Kd.V_mono (ok' := fun k_ => some k_ ≠ (.slice Ao59 x189000_1.length co59 : Value).ownBlock ∧ some k_ ≠ (.slice Ao60 x189003_2.length co60 : Value).ownBlock ∧ k_ ≠ gb182 ∧ k_ ≠ gb183 ∧ k_ ≠ gb188) ho0 (fun k_ hk_ => ⟨(Kd.fresh' (Kd.R_lt (TRo HO_189000.out)) k_ hk_), (Kd.fresh' (Kd.R_lt (TRo HO_189003.out)) k_ hk_), (Kd.freshB (g := gb182) (o := .cells #[.slice A0_0 l0_0.length c0_0, .int .i64 a0_1, .int .i64 a0_2, .slice A0_3 l0_3.length c0_3] 27 (0, 0)) (by (with_reducible repeat (first | refine blk_drewN ?_ _ | refine blk_drew ?_ | refine blk_alloc ?_ _)); exact BK182.out) k_ hk_), (Kd.freshB (g := gb183) (o := .cells #[.int .i64 a1_0, .int .i64 a1_1] 28 (0, 0)) (by (with_reducible repeat (first | refine blk_drewN ?_ _ | refine blk_drew ?_ | refine blk_alloc ?_ _)); exact BK183.out) k_ hk_), (Kd.freshB (g := gb188) (o := .cells #[.slice Ao59 x189000_1.length co59, .int .i64 t186, .int .i64 t187, .slice Ao60 x189003_2.length co60] 27 (0, 0)) (by (with_reducible repeat (first | refine blk_drewN ?_ _ | refine blk_drew ?_ | refine blk_alloc ?_ _)); exact BK188.out) k_ hk_)⟩)) (below_size (TB3 GE182.out GE183.out GE188.out))); replace HO_189000 := Aside0.mk (Kd.R_below (TRo HO_189000.out) hb); replace HO_189003 := Aside0.mk (Kd.R_below (TRo HO_189003.out) hb); replace HO224 := Aside0.mk (Kd.V_below (by (with_reducible repeat (first | apply Kd.V_alloc | apply Kd.V_drewN | apply Kd.V_drew)); exact HO224.out) hb); replace BK182 := Aside0.mk (blk_below (g := gb182) (o := .cells #[.slice A0_0 l0_0.length c0_0, .int .i64 a0_1, .int .i64 a0_2, .slice A0_3 l0_3.length c0_3] 27 (0, 0)) (by (with_reducible repeat (first | refine blk_drewN ?_ _ | refine blk_drew ?_ | refine blk_alloc ?_ _)); exact BK182.out) hb); replace BK183 := Aside0.mk (blk_below (g := gb183) (o := .cells #[.int .i64 a1_0, .int .i64 a1_1] 28 (0, 0)) (by (with_reducible repeat (first | refine blk_drewN ?_ _ | refine blk_drew ?_ | refine blk_alloc ?_ _)); exact BK183.out) hb); replace BK188 := Aside0.mk (blk_below (g := gb188) (o := .cells #[.slice Ao59 x189000_1.length co59, .int .i64 t186, .int .i64 t187, .slice Ao60 x189003_2.length co60] 27 (0, 0)) (by (with_reducible repeat (first | refine blk_drewN ?_ _ | refine blk_drew ?_ | refine blk_alloc ?_ _)); exact BK188.out) hb); replace HB := Aside0.mk (below_step (TB3 GE182.out GE183.out GE188.out) hb); (try clear hb); (try clear hb2); (try clear hk); (try clear hi); (try clear ho0)))
             go_ret
             exact ⟨TR, TB3 GE182.out GE183.out GE188.out⟩
           ·rw [if_neg c75] at H
            have c75b0 : (t218 == t220) = false := beq_eq_false_iff_ne.mpr c75
            have c75b1 : (t218 != t220) = true := bne_iff_ne.mpr c75
            obtain rfl := Option.some.inj H
            have hnb132 := NB182_183.out
            have hnc132 := NB183_182.out
            have hnb133 := NB182_188.out
            have hnc133 := NB188_182.out
            have hcz134_0 := czz BK182.out 0
            have hcz134_1 := czz BK182.out 1
            have hcz134_2 := czz BK182.out 2
            have hcz134_3 := czz BK182.out 3
            have hfz134_0 := fz BK182.out 0
            have hfz134_1 := fz BK182.out 1
            have hfz134_2 := fz BK182.out 2
            have hfz134_3 := fz BK182.out 3
            go_wp2_with (first | ((with_reducible refine gate_callee (f := 20) rfl ?_); refine goesL_ (some 169) rfl rfl Tryd.func20 (by kernel_rfl) rfl #[.agg #[.slice A0_0 l0_0.length c0_0, .int .i64 a0_1, .int .i64 a0_2, .slice A0_3 l0_3.length c0_3], .int .i64 t206, .int .i64 t207] rfl TM ?_; (with_reducible refine (rasp_Lucky.calls _ _ l0_0 a0_1 a0_2 _ _ l0_3 t206 t207 t218 t219 _ ?side1 ?side2 ?side3 ?side4 ?side5 A71.out).mono ?_); (case side1 => exact TC HR0_0.out); (case side2 => exact HC0_0.out); (case side3 => exact TC HR0_3.out); (case side4 => exact HC0_3.out); (case side5 => exact Glob.fr HG.out (Fr.of_below (TB3 GE182.out GE183.out GE188.out))); rintro e w135 ⟨rfl, hb⟩; refine ⟨_, rfl, ?_⟩; replace HO_189000 := Aside0.mk (Kd.R_below (TRo HO_189000.out) hb); replace HO_189003 := Aside0.mk (Kd.R_below (TRo HO_189003.out) hb); replace BK182 := Aside0.mk (blk_below (g := gb182) (o := .cells #[.slice A0_0 l0_0.length c0_0, .int .i64 a0_1, .int .i64 a0_2, .slice A0_3 l0_3.length c0_3] 27 (0, 0)) (by (with_reducible repeat (first | refine blk_drewN ?_ _ | refine blk_drew ?_ | refine blk_alloc ?_ _)); exact BK182.out) hb); replace BK183 := Aside0.mk (blk_below (g := gb183) (o := .cells #[.int .i64 a1_0, .int .i64 a1_1] 28 (0, 0)) (by (with_reducible repeat (first | refine blk_drewN ?_ _ | refine blk_drew ?_ | refine blk_alloc ?_ _)); exact BK183.out) hb); replace BK188 := Aside0.mk (blk_below (g := gb188) (o := .cells #[.slice Ao59 x189000_1.length co59, .int .i64 t186, .int .i64 t187, .slice Ao60 x189003_2.length co60] 27 (0, 0)) (by (with_reducible repeat (first | refine blk_drewN ?_ _ | refine blk_drew ?_ | refine blk_alloc ?_ _)); exact BK188.out) hb); replace HB := Aside0.mk (below_step (TB3 GE182.out GE183.out GE188.out) hb); (try clear hb); (try clear hb2); (try clear hk); (try clear hi); have hnb136 := NB188_183.out; have hnc136 := NB183_188.out; have hcz137_0 := czz BK188.out 0; have hcz137_1 := czz BK188.out 1; have hcz137_2 := czz BK188.out 2; have hcz137_3 := czz BK188.out 3; have hfz137_0 := fz BK188.out 0; have hfz137_1 := fz BK188.out 1; have hfz137_2 := fz BK188.out 2; have hfz137_3 := fz BK188.out 3) | ((with_reducible refine gate_callee (f := 20) rfl ?_); refine goesL_ (some 177) rfl rfl Tryd.func20 (by kernel_rfl) rfl #[.agg #[.slice Ao59 x189000_1.length co59, .int .i64 t186, .int .i64 t187, .slice Ao60 x189003_2.length co60], .int .i64 (wrap64 (-t206)), .int .i64 t207] rfl TM ?_; (with_reducible refine (rasp_Lucky.calls _ _ x189000_1 t186 t187 _ _ x189003_2 (wrap64 (-t206)) t207 t220 t221 _ ?side1 ?side2 ?side3 ?side4 ?side5 A72.out).mono ?_); (case side1 => repeat (first | exact (Kd.R_reads' HO_189000.out).2.2 | (with_reducible refine Kd.C_alloc ?_ _) | (with_reducible refine Kd.C_drewN ?_ _) | (with_reducible refine Kd.C_drew ?_))); (case side2 => exact (Kd.R_reads' HO_189000.out).2.1); (case side3 => repeat (first | exact (Kd.R_reads' HO_189003.out).2.2 | (with_reducible refine Kd.C_alloc ?_ _) | (with_reducible refine Kd.C_drewN ?_ _) | (with_reducible refine Kd.C_drew ?_))); (case side4 => exact (Kd.R_reads' HO_189003.out).2.1); (case side5 => exact Glob.fr HG.out (Fr.of_below (TB3 GE182.out GE183.out GE188.out))); rintro e w138 ⟨rfl, hb⟩; refine ⟨_, rfl, ?_⟩; replace HO_189000 := Aside0.mk (Kd.R_below (TRo HO_189000.out) hb); replace HO_189003 := Aside0.mk (Kd.R_below (TRo HO_189003.out) hb); replace BK182 := Aside0.mk (blk_below (g := gb182) (o := .cells #[.slice A0_0 l0_0.length c0_0, .int .i64 a0_1, .int .i64 a0_2, .slice A0_3 l0_3.length c0_3] 27 (0, 0)) (by (with_reducible repeat (first | refine blk_drewN ?_ _ | refine blk_drew ?_ | refine blk_alloc ?_ _)); exact BK182.out) hb); replace BK183 := Aside0.mk (blk_below (g := gb183) (o := .cells #[.int .i64 a1_0, .int .i64 a1_1] 28 (0, 0)) (by (with_reducible repeat (first | refine blk_drewN ?_ _ | refine blk_drew ?_ | refine blk_alloc ?_ _)); exact BK183.out) hb); replace BK188 := Aside0.mk (blk_below (g := gb188) (o := .cells #[.slice Ao59 x189000_1.length co59, .int .i64 t186, .int .i64 t187, .slice Ao60 x189003_2.length co60] 27 (0, 0)) (by (with_reducible repeat (first | refine blk_drewN ?_ _ | refine blk_drew ?_ | refine blk_alloc ?_ _)); exact BK188.out) hb); replace HB := Aside0.mk (below_step (TB3 GE182.out GE183.out GE188.out) hb); (try clear hb); (try clear hb2); (try clear hk); (try clear hi); have hcz139_0 := czz BK182.out 0; have hcz139_1 := czz BK182.out 1; have hcz139_2 := czz BK182.out 2; have hcz139_3 := czz BK182.out 3; have hfz139_0 := fz BK182.out 0; have hfz139_1 := fz BK182.out 1; have hfz139_2 := fz BK182.out 2; have hfz139_3 := fz BK182.out 3) | ((with_reducible refine gate_callee (f := 25) rfl ?_); refine goesL_ (some 182) rfl rfl Tryd.func25 (by kernel_rfl) rfl #[.agg #[.slice A0_0 l0_0.length c0_0, .int .i64 a0_1, .int .i64 a0_2, .slice A0_3 l0_3.length c0_3]] rfl TM ?_; (with_reducible refine (rasp_Spoilt.calls _ _ l0_0 a0_1 a0_2 _ _ l0_3 t222 t225 _ ?side1 ?side2 ?side3 ?side4 ?side5 A73.out).mono ?_); (case side1 => exact TC HR0_0.out); (case side2 => exact HC0_0.out); (case side3 => exact TC HR0_3.out); (case side4 => exact HC0_3.out); (case side5 => exact Glob.fr HG.out (Fr.of_below (TB3 GE182.out GE183.out GE188.out))); rintro e w140 ⟨v223, rfl, ho0, hb⟩; refine ⟨_, rfl, ?_⟩; have HO224 := Aside0.mk (Kd.V_lower (Kd.V_mono (ok' := fun k_ => some k_ ≠ (.slice Ao59 x189000_1.length co59 : Value).ownBlock ∧ some k_ ≠ (.slice Ao60 x189003_2.length co60 : Value).ownBlock ∧ k_ ≠ gb182 ∧ k_ ≠ gb183 ∧ k_ ≠ gb188) ho0 (fun k_ hk_ => ⟨(Kd.fresh' (Kd.R_lt (TRo HO_189000.out)) k_ hk_), (Kd.fresh' (Kd.R_lt (TRo HO_189003.out)) k_ hk_), (Kd.freshB (g := gb182) (o := .cells #[.slice A0_0 l0_0.length c0_0, .int .i64 a0_1, .int .i64 a0_2, .slice A0_3 l0_3.length c0_3] 27 (0, 0)) (by (with_reducible repeat (first | refine blk_drewN ?_ _ | refine blk_drew ?_ | refine blk_alloc ?_ _)); exact BK182.out) k_ hk_), (Kd.freshB (g := gb183) (o := .cells #[.int .i64 a1_0, .int .i64 a1_1] 28 (0, 0)) (by (with_reducible repeat (first | refine blk_drewN ?_ _ | refine blk_drew ?_ | refine blk_alloc ?_ _)); exact BK183.out) k_ hk_), (Kd.freshB (g := gb188) (o := .cells #[.slice Ao59 x189000_1.length co59, .int .i64 t186, .int .i64 t187, .slice Ao60 x189003_2.length co60] 27 (0, 0)) (by (with_reducible repeat (first | refine blk_drewN ?_ _ | refine blk_drew ?_ | refine blk_alloc ?_ _)); exact BK188.out) k_ hk_)⟩)) (below_size (TB3 GE182.out GE183.out GE188.out))); replace HO_189000 := Aside0.mk (Kd.R_below (TRo HO_189000.out) hb); replace HO_189003 := Aside0.mk (Kd.R_below (TRo HO_189003.out) hb); replace BK182 := Aside0.mk (blk_below (g := gb182) (o := .cells #[.slice A0_0 l0_0.length c0_0, .int .i64 a0_1, .int .i64 a0_2, .slice A0_3 l0_3.length c0_3] 27 (0, 0)) (by (with_reducible repeat (first | refine blk_drewN ?_ _ | refine blk_drew ?_ | refine blk_alloc ?_ _)); exact BK182.out) hb); replace BK183 := Aside0.mk (blk_below (g := gb183) (o := .cells #[.int .i64 a1_0, .int .i64 a1_1] 28 (0, 0)) (by (with_reducible repeat (first | refine blk_drewN ?_ _ | refine blk_drew ?_ | refine blk_alloc ?_ _)); exact BK183.out) hb); replace BK188 := Aside0.mk (blk_below (g := gb188) (o := .cells #[.slice Ao59 x189000_1.length co59, .int .i64 t186, .int .i64 t187, .slice Ao60 x189003_2.length co60] 27 (0, 0)) (by (with_reducible repeat (first | refine blk_drewN ?_ _ | refine blk_drew ?_ | refine blk_alloc ?_ _)); exact BK188.out) hb); replace HB := Aside0.mk (below_step (TB3 GE182.out GE183.out GE188.out) hb); (try clear hb); (try clear hb2); (try clear hk); (try clear hi); (try clear ho0); have hcz141_0 := czz BK188.out 0; have hcz141_1 := czz BK188.out 1; have hcz141_2 := czz BK188.out 2; have hcz141_3 := czz BK188.out 3; have hfz141_0 := fz BK188.out 0; have hfz141_1 := fz BK188.out 1; have hfz141_2 := fz BK188.out 2; have hfz141_3 := fz BK188.out 3) | ((with_reducible refine gate_callee (f := 25) rfl ?_); refine goesL_ (some 187) rfl rfl Tryd.func25 (by kernel_rfl) rfl #[.agg #[.slice Ao59 x189000_1.length co59, .int .i64 t186, .int .i64 t187, .slice Ao60 x189003_2.length co60]] rfl TM ?_; (with_reducible refine (rasp_Spoilt.calls _ _ x189000_1 t186 t187 _ _ x189003_2 t226 t229 _ ?side1 ?side2 ?side3 ?side4 ?side5 A74.out).mono ?_); (case side1 => repeat (first | exact (Kd.R_reads' HO_189000.out).2.2 | (with_reducible refine Kd.C_alloc ?_ _) | (with_reducible refine Kd.C_drewN ?_ _) | (with_reducible refine Kd.C_drew ?_))); (case side2 => exact (Kd.R_reads' HO_189000.out).2.1); (case side3 => repeat (first | exact (Kd.R_reads' HO_189003.out).2.2 | (with_reducible refine Kd.C_alloc ?_ _) | (with_reducible refine Kd.C_drewN ?_ _) | (with_reducible refine Kd.C_drew ?_))); (case side4 => exact (Kd.R_reads' HO_189003.out).2.1); (case side5 => exact Glob.fr HG.out (Fr.of_below (TB3 GE182.out GE183.out GE188.out))); rintro e w142 ⟨v227, rfl, ho0, hb⟩; refine ⟨_, rfl, ?_⟩; have HO228 := Aside0.mk (Kd.V_lower (Kd.V_mono (ok' := fun k_ => some k_ ≠ (.slice Ao59 x189000_1.length co59 : Value).ownBlock ∧ some k_ ≠ (.slice Ao60 x189003_2.length co60 : Value).ownBlock ∧ k_ ≠ gb182 ∧ k_ ≠ gb183 ∧ k_ ≠ gb188) ho0 (fun k_ hk_ => ⟨(Kd.fresh' (Kd.R_lt (TRo HO_189000.out)) k_ hk_), (Kd.fresh' (Kd.R_lt (TRo HO_189003.out)) k_ hk_), (Kd.freshB (g := gb182) (o := .cells #[.slice A0_0 l0_0.length c0_0, .int .i64 a0_1, .int .i64 a0_2, .slice A0_3 l0_3.length c0_3] 27 (0, 0)) (by (with_reducible repeat (first | refine blk_drewN ?_ _ | refine blk_drew ?_ | refine blk_alloc ?_ _)); exact BK182.out) k_ hk_), (Kd.freshB (g := gb183) (o := .cells #[.int .i64 a1_0, .int .i64 a1_1] 28 (0, 0)) (by (with_reducible repeat (first | refine blk_drewN ?_ _ | refine blk_drew ?_ | refine blk_alloc ?_ _)); exact BK183.out) k_ hk_), (Kd.freshB (g := gb188) (o := .cells #[.slice Ao59 x189000_1.length co59, .int .i64 t186, .int .i64 t187, .slice Ao60 x189003_2.length co60] 27 (0, 0)) (by (with_reducible repeat (first | refine blk_drewN ?_ _ | refine blk_drew ?_ | refine blk_alloc ?_ _)); exact BK188.out) k_ hk_)⟩)) (below_size (TB3 GE182.out GE183.out GE188.out))); replace HO_189000 := Aside0.mk (Kd.R_below (TRo HO_189000.out) hb); replace HO_189003 := Aside0.mk (Kd.R_below (TRo HO_189003.out) hb); replace HO224 := Aside0.mk (Kd.V_below (by (with_reducible repeat (first | apply Kd.V_alloc | apply Kd.V_drewN | apply Kd.V_drew)); exact HO224.out) hb); replace BK182 := Aside0.mk (blk_below (g := gb182) (o := .cells #[.slice A0_0 l0_0.length c0_0, .int .i64 a0_1, .int .i64 a0_2, .slice A0_3 l0_3.length c0_3] 27 (0, 0)) (by (with_reducible repeat (first | refine blk_drewN ?_ _ | refine blk_drew ?_ | refine blk_alloc ?_ _)); exact BK182.out) hb); replace BK183 := Aside0.mk (blk_below (g := gb183) (o := .cells #[.int .i64 a1_0, .int .i64 a1_1] 28 (0, 0)) (by (with_reducible repeat (first | refine blk_drewN ?_ _ | refine blk_drew ?_ | refine blk_alloc ?_ _)); exact BK183.out) hb); replace BK188 := Aside0.mk (blk_below (g := gb188) (o := .cells #[.slice Ao59 x189000_1.length co59, .int .i64 t186, .int .i64 t187, .slice Ao60 x189003_2.length co60] 27 (0, 0)) (by (with_reducible repeat (first | refine blk_drewN ?_ _ | refine blk_drew ?_ | refine blk_alloc ?_ _)); exact BK188.out) hb); replace HB := Aside0.mk (below_step (TB3 GE182.out GE183.out GE188.out) hb); (try clear hb); (try clear hb2); (try clear hk); (try clear hi); (try clear ho0)))
            go_ret
            exact ⟨TR, TB3 GE182.out GE183.out GE188.out⟩
 ·replace c4 := Bool.eq_false_iff.mpr c4
  subst c4
  have H1 : ((saronlaw03_filed.f).bind fun t185 => (some t185)) = some r := by rw [if_neg (show ¬ (false = true) by decide)] at H; exact H
  clear H
  have H := H1
  clear H1
  replace H := Option.bind_eq_some_iff.mp H
  obtain ⟨t185, A1430, H⟩ := H
  replace H : (some t185) = some r := H
  have A143 := Aside0.mk A1430
  clear A1430
  obtain rfl := Option.some.inj H
  go_enter Tryd.func13, Tryd.ntmps13
  go_wp2_with (first | ((with_reducible refine gate_dst (N := 2) rfl ?_); refine box_event ?hg (N := 2) ?hd (cs := #[.slice A0_0 l0_0.length c0_0, .int .i64 a0_1, .int .i64 a0_2, .slice A0_3 l0_3.length c0_3]) (t := 27) ?hr ?_; (case hd => rfl); (case hg => rfl); (case hr => exact TS); intro gb182 hg w144 hbox hb; have BK182 := Aside0.mk (hbox); have GW182 := Aside0.mk ((TG : w.heap.size ≤ gb182)); have GE182 := Aside0.mk ((TG : w.heap.size ≤ gb182)); replace HB := Aside0.mk (below_step TB hb); clear hb hbox hg) | ((with_reducible refine gate_dst (N := 3) rfl ?_); refine box_event ?hg (N := 3) ?hd (cs := #[.int .i64 a1_0, .int .i64 a1_1]) (t := 28) ?hr ?_; (case hd => rfl); (case hg => rfl); (case hr => exact TS); intro gb183 hg w145 hbox hb; have BK183 := Aside0.mk (hbox); have GW183 := Aside0.mk ((TG1 GE182.out : w.heap.size ≤ gb183)); have GE183 := Aside0.mk ((TG1 GE182.out : w.heap.size ≤ gb183)); have NB182_183 := Aside0.mk ((by rw [hg]; exact Nat.ne_of_lt (blk_lt (g := gb182) (o := .cells #[.slice A0_0 l0_0.length c0_0, .int .i64 a0_1, .int .i64 a0_2, .slice A0_3 l0_3.length c0_3] 27 (0, 0)) (by (with_reducible repeat (first | refine blk_drewN ?_ _ | refine blk_drew ?_ | refine blk_alloc ?_ _)); exact BK182.out)) : gb182 ≠ gb183)); have NB183_182 := Aside0.mk ((by rw [hg]; exact Nat.ne_of_gt (blk_lt (g := gb182) (o := .cells #[.slice A0_0 l0_0.length c0_0, .int .i64 a0_1, .int .i64 a0_2, .slice A0_3 l0_3.length c0_3] 27 (0, 0)) (by (with_reducible repeat (first | refine blk_drewN ?_ _ | refine blk_drew ?_ | refine blk_alloc ?_ _)); exact BK182.out)) : gb183 ≠ gb182)); replace BK182 := Aside0.mk (blk_below (g := gb182) (o := .cells #[.slice A0_0 l0_0.length c0_0, .int .i64 a0_1, .int .i64 a0_2, .slice A0_3 l0_3.length c0_3] 27 (0, 0)) (by (with_reducible repeat (first | refine blk_drewN ?_ _ | refine blk_drew ?_ | refine blk_alloc ?_ _)); exact BK182.out) hb); replace HB := Aside0.mk (below_step (TB1 GE182.out) hb); clear hb hbox hg; have hnb146 := NB182_183.out; have hnc146 := NB183_182.out; have hcz147_0 := czz BK182.out 0; have hcz147_1 := czz BK182.out 1; have hcz147_2 := czz BK182.out 2; have hcz147_3 := czz BK182.out 3; have hfz147_0 := fz BK182.out 0; have hfz147_1 := fz BK182.out 1; have hfz147_2 := fz BK182.out 2; have hfz147_3 := fz BK182.out 3) | ((with_reducible refine gate_callee (f := 37) rfl ?_); refine goesL_ (some 23) rfl rfl Tryd.func37 (by kernel_rfl) rfl #[.agg #[.slice A0_0 l0_0.length c0_0, .int .i64 a0_1, .int .i64 a0_2, .slice A0_3 l0_3.length c0_3]] rfl TM ?_; (with_reducible refine (saronlaw03_sound.calls k _ _ l0_0 a0_1 a0_2 _ _ l0_3 false _ ?side1 ?side2 ?side3 ?side4 A3.out).mono ?_); (case side1 => exact TC HR0_0.out); (case side2 => exact HC0_0.out); (case side3 => exact TC HR0_3.out); (case side4 => exact HC0_3.out); rintro e w148 ⟨rfl, hb⟩; refine ⟨_, rfl, ?_⟩; replace BK182 := Aside0.mk (blk_below (g := gb182) (o := .cells #[.slice A0_0 l0_0.length c0_0, .int .i64 a0_1, .int .i64 a0_2, .slice A0_3 l0_3.length c0_3] 27 (0, 0)) (by (with_reducible repeat (first | refine blk_drewN ?_ _ | refine blk_drew ?_ | refine blk_alloc ?_ _)); exact BK182.out) hb); replace BK183 := Aside0.mk (blk_below (g := gb183) (o := .cells #[.int .i64 a1_0, .int .i64 a1_1] 28 (0, 0)) (by (with_reducible repeat (first | refine blk_drewN ?_ _ | refine blk_drew ?_ | refine blk_alloc ?_ _)); exact BK183.out) hb); replace HB := Aside0.mk (below_step (TB2 GE182.out GE183.out) hb); (try clear hb); (try clear hb2); (try clear hk); (try clear hi)) | ((with_reducible refine gate_callee (f := 22) rfl ?_); refine goesL_ (some 25) rfl rfl Tryd.func22 (by kernel_rfl) rfl #[] rfl TM ?_; (with_reducible refine (saronlaw03_filed.calls  t185 _ ?side1 A143.out).mono ?_); (case side1 => exact Glob.fr HG.out (Fr.of_below (TB2 GE182.out GE183.out))); rintro e w149 ⟨rfl, hb⟩; refine ⟨_, rfl, ?_⟩; replace BK182 := Aside0.mk (blk_below (g := gb182) (o := .cells #[.slice A0_0 l0_0.length c0_0, .int .i64 a0_1, .int .i64 a0_2, .slice A0_3 l0_3.length c0_3] 27 (0, 0)) (by (with_reducible repeat (first | refine blk_drewN ?_ _ | refine blk_drew ?_ | refine blk_alloc ?_ _)); exact BK182.out) hb); replace BK183 := Aside0.mk (blk_below (g := gb183) (o := .cells #[.int .i64 a1_0, .int .i64 a1_1] 28 (0, 0)) (by (with_reducible repeat (first | refine blk_drewN ?_ _ | refine blk_drew ?_ | refine blk_alloc ?_ _)); exact BK183.out) hb); replace HB := Aside0.mk (below_step (TB2 GE182.out GE183.out) hb); (try clear hb); (try clear hb2); (try clear hk); (try clear hi)))
  go_ret
  exact ⟨TR, TB2 GE182.out GE183.out⟩
end Go.Proofs.YtfmpbkolpjlfbaaDoor.PRaspKeys
