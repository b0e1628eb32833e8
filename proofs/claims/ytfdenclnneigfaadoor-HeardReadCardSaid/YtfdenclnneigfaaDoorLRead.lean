import Derived.Test.YtfdenclnneigfaaDoorLRead0
import Derived.Test.YtfdenclnneigfaaDoorM0
set_option linter.unusedVariables false
set_option linter.unusedSimpArgs false
namespace Go.Proofs.YtfdenclnneigfaaDoor.M
open Go.RowKit Go.Proofs.YtfdenclnneigfaaDoorW.PrintWords Go.Proofs.YtfdenclnneigfaaDoorW.PrintLast
theorem czz {w : World} {g : Nat} {cs : Array Value} {t : TypeId} {v : Value} (h : w.heap[g]? = some (.cells cs t (0, 0))) (i : Nat) (hv : cs[i]? = some v := by (first | (simp only [List.getElem?_toArray, List.getElem?_cons_zero, List.getElem?_cons_succ]; rfl) | exact rfl)) : w.cell? ⟨g, i, none⟩ = some v := (blk_cell h i).trans hv
end Go.Proofs.YtfdenclnneigfaaDoor.M
namespace Go.Proofs.YtfdenclnneigfaaDoor.M
open Go.RowKit Go.Proofs.YtfdenclnneigfaaDoorW.PrintWords Go.Proofs.YtfdenclnneigfaaDoorW.PrintLast
section
variable {P : Program} {md : Region.Mode} {ops : Array Oper} {Q : Exit → Act → World → Prop} {S : World → Prop} {ds : List Nat}
variable (i : Nat) (N : Tmp) {oi : Oper} {v : Value} {fuel : Nat} {l : Array Bool} {a a' : Act} {w : World} (l' : Array Bool)
theorem tT11 (hH : S w) (hi : ops[i]? = some oi := by exact rfl) (hN : oi.dst = some N := by exact rfl) (hc : takeB md ops ds l l' i = true := by exact take_ofW HT_.out HW_.out (by kernel_rfl)) (hQ : ∀ c a w, Q (.panic c) (a.put oi.dst v) w → Q (.panic c) a w := by exact fun _ _ _ h => h)
  (hy : YieldsIf P ops S oi v a := by (refine Or.inl ⟨by rfl, ?_⟩; rintro w' ⟨s0, s1, s2, s3, s4, s5, s6, s7, s8, s9, s10⟩; go_simp; with_reducible rfl)) (ha : a.put (some N) v = a' := by (simp only [Act.put, lA, lZ, lS, i64_w, i32_w]; rfl)) (k : wpAnyLast P md ops Q S ds fuel l' a' w) : wpAnyLast P md ops Q S ds (fuel + 1) l a w :=
 take_ l' hi hN hc hQ hy hH ha k
end
end Go.Proofs.YtfdenclnneigfaaDoor.M
namespace Go.Proofs.YtfdenclnneigfaaDoor.PRaspKeys
open Go.RowKit Go.Proofs.YtfdenclnneigfaaDoorW.PrintWords Go.Proofs.YtfdenclnneigfaaDoorW.PrintLast Go.Proofs.YtfdenclnneigfaaDoorW.PrintMore Go.Proofs.YtfdenclnneigfaaDoor.M
attribute [local go_sem] max2_int min2_int max_two min_two max_three min_three max_four min_four   -- for this text's walks alone
/-! ### saronlaw09_HeardRead: function 8 -/
mutual
def saronlaw09_HeardRead.j0 : Nat → Int → Bool → Int → Bool → Int → List (S114) → List (S62) → List Int → List Int → Int → Int → Option (Bool)
 | 0, _, _, _, _, _, _, _, _, _, _, _ => none
 | k + 1, x1, x7, x8, x48, x234000, x234001, x234002, x235000, x235001, x235002, x235003 => if x48 = true then (if x8 = 91 then (if x7 = true then (some false) else ((saronlaw09_listened.f).bind fun t241 => (some t241))) else (some false)) else ((heard_Begins.f x234000 x234001 x234002 x1 x235000 x235001 x235002 x235003).bind fun bt242 => (if 0 ≤ x1 then (if x1 < (x234002.length : Int) then (if x8 = 0 then (if bt242.2 = 0 then ((saronref00_Grows.f k bt242.1 (((rd_T62 x234002 x1).f1).length : Int)).bind fun t247 => (if t247 = true then (saronlaw09_HeardRead.j1 k x1 x7 bt242.1 ((rd_T62 x234002 x1).f1) (x7 != (decide ((bt242.1.length : Int) > 0))) x234000 x234001 x234002 x235000 x235001 x235002 x235003) else (saronlaw09_HeardRead.j1 k x1 x7 bt242.1 ((rd_T62 x234002 x1).f1) true x234000 x234001 x234002 x235000 x235001 x235002 x235003))) else (saronlaw09_HeardRead.j1 k x1 x7 bt242.1 ((rd_T62 x234002 x1).f1) true x234000 x234001 x234002 x235000 x235001 x235002 x235003)) else (saronlaw09_HeardRead.j1 k x1 x7 bt242.1 ((rd_T62 x234002 x1).f1) true x234000 x234001 x234002 x235000 x235001 x235002 x235003)) else (none)) else (none)))
def saronlaw09_HeardRead.j1 : Nat → Int → Bool → List Int → List Int → Bool → Int → List (S114) → List (S62) → List Int → List Int → Int → Int → Option (Bool)
 | 0, _, _, _, _, _, _, _, _, _, _, _, _ => none
 | k + 1, x1, x7, x9, x11, x90, x234000, x234001, x234002, x235000, x235001, x235002, x235003 => if x90 = true then (some false) else (saronlaw09_HeardRead.l0 k x1 x7 x9 x11 0 x234000 x234001 x234002 x235000 x235001 x235002 x235003)
def saronlaw09_HeardRead.l0 : Nat → Int → Bool → List Int → List Int → Int → Int → List (S114) → List (S62) → List Int → List Int → Int → Int → Option (Bool)
 | 0, _, _, _, _, _, _, _, _, _, _, _, _ => none
 | k + 1, x1, x7, x9, x11, x12, x234000, x234001, x234002, x235000, x235001, x235002, x235003 => if x12 < (x235000.length : Int) then ((heard_Strokes.f x234000 x234001 x234002 x1 x235000 x235001 x235002 x235003 x12).bind fun bt249 => (if bt249.2 = 0 then ((saronref00_Grows.f k bt249.1 (x11.length : Int)).bind fun t253 => (if t253 = true then (if (x7 != (decide ((bt249.1.length : Int) > 0))) = true then (saronlaw09_HeardRead.j3 k x1 x7 x9 x11 x12 bt249.1 true x234000 x234001 x234002 x235000 x235001 x235002 x235003) else (if x12 = 0 then ((saronref00_Equal.f k bt249.1 x9).bind fun t254 => (saronlaw09_HeardRead.j3 k x1 x7 x9 x11 x12 bt249.1 (!t254) x234000 x234001 x234002 x235000 x235001 x235002 x235003)) else (saronlaw09_HeardRead.j3 k x1 x7 x9 x11 x12 bt249.1 false x234000 x234001 x234002 x235000 x235001 x235002 x235003))) else (saronlaw09_HeardRead.j3 k x1 x7 x9 x11 x12 bt249.1 true x234000 x234001 x234002 x235000 x235001 x235002 x235003))) else (saronlaw09_HeardRead.j3 k x1 x7 x9 x11 x12 bt249.1 true x234000 x234001 x234002 x235000 x235001 x235002 x235003))) else ((saronlaw09_listened.f).bind fun t248 => (some t248))
def saronlaw09_HeardRead.j3 : Nat → Int → Bool → List Int → List Int → Int → List Int → Bool → Int → List (S114) → List (S62) → List Int → List Int → Int → Int → Option (Bool)
 | 0, _, _, _, _, _, _, _, _, _, _, _, _, _, _ => none
 | k + 1, x1, x7, x9, x11, x12, x13, x131, x234000, x234001, x234002, x235000, x235001, x235002, x235003 => if x131 = true then (some false) else (saronlaw09_HeardRead.l1 k x1 x7 x9 x11 x12 x13 0 x234000 x234001 x234002 x235000 x235001 x235002 x235003)
def saronlaw09_HeardRead.l1 : Nat → Int → Bool → List Int → List Int → Int → List Int → Int → Int → List (S114) → List (S62) → List Int → List Int → Int → Int → Option (Bool)
 | 0, _, _, _, _, _, _, _, _, _, _, _, _, _, _ => none
 | k + 1, x1, x7, x9, x11, x12, x13, x15, x234000, x234001, x234002, x235000, x235001, x235002, x235003 => if x15 < (x13.length : Int) then (if 0 ≤ x1 then (if x1 < (x234002.length : Int) then (if 0 ≤ x15 then ((cycle_Struck.f x234000 x234001 ((rd_T62 x234002 x1).f0) (rd x13 x15)).bind fun bt257 => (if bt257.2 = 0 then (if 0 ≤ (rd x13 x15) then (if (rd x13 x15) < (x11.length : Int) then (if 0 ≤ x12 then (if x12 < (x235000.length : Int) then ((saronref00_Plain.f (wrap64 ((rd x11 (rd x13 x15)) - (rd x235000 x12)))).bind fun t264 => (if t264 > (mn 1 x235003) then (some false) else ((saronref00_Where.f k x235001 x12).bind fun t265 => (if t265 ≥ 0 then ((saronref00_Where.f k bt257.1 0).bind fun t266 => (if t266 < 0 then (some false) else (if 0 < (x9.length : Int) then (if (rd x13 x15) < (wrap64 ((rd x9 0) + x12)) then (some false) else (if 0 ≤ (wrap64 ((x9.length : Int) - 1)) then (if (wrap64 ((x9.length : Int) - 1)) < (x9.length : Int) then (if (rd x13 x15) > (wrap64 ((wrap64 ((rd x9 (wrap64 ((x9.length : Int) - 1))) + x12)) + x235002)) then (some false) else (saronlaw09_HeardRead.l1 k x1 x7 x9 x11 x12 x13 (wrap64 (x15 + 1)) x234000 x234001 x234002 x235000 x235001 x235002 x235003)) else (none)) else (none))) else (none)))) else (if 0 < (x9.length : Int) then (if (rd x13 x15) < (wrap64 ((rd x9 0) + x12)) then (some false) else (if 0 ≤ (wrap64 ((x9.length : Int) - 1)) then (if (wrap64 ((x9.length : Int) - 1)) < (x9.length : Int) then (if (rd x13 x15) > (wrap64 ((wrap64 ((rd x9 (wrap64 ((x9.length : Int) - 1))) + x12)) + x235002)) then (some false) else (saronlaw09_HeardRead.l1 k x1 x7 x9 x11 x12 x13 (wrap64 (x15 + 1)) x234000 x234001 x234002 x235000 x235001 x235002 x235003)) else (none)) else (none))) else (none)))))) else (none)) else (none)) else (none)) else (none)) else (some false))) else (none)) else (none)) else (none)) else (saronlaw09_HeardRead.l0 k x1 x7 x9 x11 (wrap64 (x12 + 1)) x234000 x234001 x234002 x235000 x235001 x235002 x235003)
end
def saronlaw09_HeardRead.f (k : Nat) (a0_0 : Int) (l0_1 : List (S114)) (l0_2 : List (S62)) (a1 : Int) (l2_0 : List Int) (l2_1 : List Int) (a2_2 : Int) (a2_3 : Int) : Option (Bool) := (heard_Fits.f a0_0 l0_1 l0_2 a1 l2_0 l2_1 a2_2 a2_3).bind fun bt235 => ((saronlaw09_sound.f k a0_0 l0_1 l0_2).bind fun t237 => (if t237 = true then ((saronlaw09_fair.f k l2_0 l2_1 a2_2 a2_3).bind fun t239 => (if t239 = true then ((saronref00_Sits.f a1 0 (wrap64 ((l0_2.length : Int) - 1))).bind fun t240 => (saronlaw09_HeardRead.j0 k a1 bt235.1 bt235.2 (!t240) a0_0 l0_1 l0_2 l2_0 l2_1 a2_2 a2_3)) else (saronlaw09_HeardRead.j0 k a1 bt235.1 bt235.2 true a0_0 l0_1 l0_2 l2_0 l2_1 a2_2 a2_3))) else (if bt235.2 = 90 then (if bt235.1 = true then (some false) else ((saronlaw09_listened.f).bind fun t238 => (some t238))) else (some false))))
theorem saronlaw09_HeardRead.mono_l : ∀ k, (∀ y0 y1 y2 y3 y4 y5 y6 y7 y8 y9 y10, LeO (saronlaw09_HeardRead.j0 k y0 y1 y2 y3 y4 y5 y6 y7 y8 y9 y10) (saronlaw09_HeardRead.j0 (k + 1) y0 y1 y2 y3 y4 y5 y6 y7 y8 y9 y10)) ∧ (∀ y0 y1 y2 y3 y4 y5 y6 y7 y8 y9 y10 y11, LeO (saronlaw09_HeardRead.j1 k y0 y1 y2 y3 y4 y5 y6 y7 y8 y9 y10 y11) (saronlaw09_HeardRead.j1 (k + 1) y0 y1 y2 y3 y4 y5 y6 y7 y8 y9 y10 y11)) ∧ (∀ y0 y1 y2 y3 y4 y5 y6 y7 y8 y9 y10 y11, LeO (saronlaw09_HeardRead.l0 k y0 y1 y2 y3 y4 y5 y6 y7 y8 y9 y10 y11) (saronlaw09_HeardRead.l0 (k + 1) y0 y1 y2 y3 y4 y5 y6 y7 y8 y9 y10 y11)) ∧ (∀ y0 y1 y2 y3 y4 y5 y6 y7 y8 y9 y10 y11 y12 y13, LeO (saronlaw09_HeardRead.j3 k y0 y1 y2 y3 y4 y5 y6 y7 y8 y9 y10 y11 y12 y13) (saronlaw09_HeardRead.j3 (k + 1) y0 y1 y2 y3 y4 y5 y6 y7 y8 y9 y10 y11 y12 y13)) ∧ (∀ y0 y1 y2 y3 y4 y5 y6 y7 y8 y9 y10 y11 y12 y13, LeO (saronlaw09_HeardRead.l1 k y0 y1 y2 y3 y4 y5 y6 y7 y8 y9 y10 y11 y12 y13) (saronlaw09_HeardRead.l1 (k + 1) y0 y1 y2 y3 y4 y5 y6 y7 y8 y9 y10 y11 y12 y13))
 | 0 => ⟨fun _ _ _ _ _ _ _ _ _ _ _ r h => by simp [saronlaw09_HeardRead.j0] at h, fun _ _ _ _ _ _ _ _ _ _ _ _ r h => by simp [saronlaw09_HeardRead.j1] at h, fun _ _ _ _ _ _ _ _ _ _ _ _ r h => by simp [saronlaw09_HeardRead.l0] at h, fun _ _ _ _ _ _ _ _ _ _ _ _ _ _ r h => by simp [saronlaw09_HeardRead.j3] at h, fun _ _ _ _ _ _ _ _ _ _ _ _ _ _ r h => by simp [saronlaw09_HeardRead.l1] at h⟩
 | k + 1 => by
  obtain ⟨ih0, ih1, ih2, ih3, ih4⟩ := saronlaw09_HeardRead.mono_l k
  refine ⟨?_, ?_, ?_, ?_, ?_⟩
  ·intro y0 y1 y2 y3 y4 y5 y6 y7 y8 y9 y10
   unfold saronlaw09_HeardRead.j0
   repeat' first
   | (with_reducible exact ih0 _ _ _ _ _ _ _ _ _ _ _)
   | (with_reducible exact ih1 _ _ _ _ _ _ _ _ _ _ _ _)
   | (with_reducible exact ih2 _ _ _ _ _ _ _ _ _ _ _ _)
   | (with_reducible exact ih3 _ _ _ _ _ _ _ _ _ _ _ _ _ _)
   | (with_reducible exact ih4 _ _ _ _ _ _ _ _ _ _ _ _ _ _)
   | (with_reducible exact saronlaw09_fair.mono _ _ _ _ _)
   | (with_reducible exact saronlaw09_sound.mono _ _ _ _)
   | (with_reducible exact saronref00_Equal.mono _ _ _)
   | (with_reducible exact saronref00_Grows.mono _ _ _)
   | (with_reducible exact saronref00_Where.mono _ _ _)
   | (with_reducible exact LeO.refl _)
   | (with_reducible exact LeO.none _)
   | (with_reducible refine LeO.ite ?_ ?_)
   | (with_reducible refine LeO.bind ?_ (fun _ => ?_))
   | exact ih0 _ _ _ _ _ _ _ _ _ _ _
   | exact ih1 _ _ _ _ _ _ _ _ _ _ _ _
   | exact ih2 _ _ _ _ _ _ _ _ _ _ _ _
   | exact ih3 _ _ _ _ _ _ _ _ _ _ _ _ _ _
   | exact ih4 _ _ _ _ _ _ _ _ _ _ _ _ _ _
   | exact saronlaw09_fair.mono _ _ _ _ _
   | exact saronlaw09_sound.mono _ _ _ _
   | exact saronref00_Equal.mono _ _ _
   | exact saronref00_Grows.mono _ _ _
   | exact saronref00_Where.mono _ _ _
   | exact LeO.none _
   | refine LeO.ite ?_ ?_
   | refine LeO.bind ?_ (fun _ => ?_)
  ·intro y0 y1 y2 y3 y4 y5 y6 y7 y8 y9 y10 y11
   unfold saronlaw09_HeardRead.j1
   repeat' first
   | (with_reducible exact ih0 _ _ _ _ _ _ _ _ _ _ _)
   | (with_reducible exact ih1 _ _ _ _ _ _ _ _ _ _ _ _)
   | (with_reducible exact ih2 _ _ _ _ _ _ _ _ _ _ _ _)
   | (with_reducible exact ih3 _ _ _ _ _ _ _ _ _ _ _ _ _ _)
   | (with_reducible exact ih4 _ _ _ _ _ _ _ _ _ _ _ _ _ _)
   | (with_reducible exact saronlaw09_fair.mono _ _ _ _ _)
   | (with_reducible exact saronlaw09_sound.mono _ _ _ _)
   | (with_reducible exact saronref00_Equal.mono _ _ _)
   | (with_reducible exact saronref00_Grows.mono _ _ _)
   | (with_reducible exact saronref00_Where.mono _ _ _)
   | (with_reducible exact LeO.refl _)
   | (with_reducible exact LeO.none _)
   | (with_reducible refine LeO.ite ?_ ?_)
   | (with_reducible refine LeO.bind ?_ (fun _ => ?_))
   | exact ih0 _ _ _ _ _ _ _ _ _ _ _
   | exact ih1 _ _ _ _ _ _ _ _ _ _ _ _
   | exact ih2 _ _ _ _ _ _ _ _ _ _ _ _
   | exact ih3 _ _ _ _ _ _ _ _ _ _ _ _ _ _
   | exact ih4 _ _ _ _ _ _ _ _ _ _ _ _ _ _
   | exact saronlaw09_fair.mono _ _ _ _ _
   | exact saronlaw09_sound.mono _ _ _ _
   | exact saronref00_Equal.mono _ _ _
   | exact saronref00_Grows.mono _ _ _
   | exact saronref00_Where.mono _ _ _
   | exact LeO.none _
   | refine LeO.ite ?_ ?_
   | refine LeO.bind ?_ (fun _ => ?_)
  ·intro y0 y1 y2 y3 y4 y5 y6 y7 y8 y9 y10 y11
   unfold saronlaw09_HeardRead.l0
   repeat' first
   | (with_reducible exact ih0 _ _ _ _ _ _ _ _ _ _ _)
   | (with_reducible exact ih1 _ _ _ _ _ _ _ _ _ _ _ _)
   | (with_reducible exact ih2 _ _ _ _ _ _ _ _ _ _ _ _)
   | (with_reducible exact ih3 _ _ _ _ _ _ _ _ _ _ _ _ _ _)
   | (with_reducible exact ih4 _ _ _ _ _ _ _ _ _ _ _ _ _ _)
   | (with_reducible exact saronlaw09_fair.mono _ _ _ _ _)
   | (with_reducible exact saronlaw09_sound.mono _ _ _ _)
   | (with_reducible exact saronref00_Equal.mono _ _ _)
   | (with_reducible exact saronref00_Grows.mono _ _ _)
   | (with_reducible exact saronref00_Where.mono _ _ _)
   | (with_reducible exact LeO.refl _)
   | (with_reducible exact LeO.none _)
   | (with_reducible refine LeO.ite ?_ ?_)
   | (with_reducible refine LeO.bind ?_ (fun _ => ?_))
   | exact ih0 _ _ _ _ _ _ _ _ _ _ _
   | exact ih1 _ _ _ _ _ _ _ _ _ _ _ _
   | exact ih2 _ _ _ _ _ _ _ _ _ _ _ _
   | exact ih3 _ _ _ _ _ _ _ _ _ _ _ _ _ _
   | exact ih4 _ _ _ _ _ _ _ _ _ _ _ _ _ _
   | exact saronlaw09_fair.mono _ _ _ _ _
   | exact saronlaw09_sound.mono _ _ _ _
   | exact saronref00_Equal.mono _ _ _
   | exact saronref00_Grows.mono _ _ _
   | exact saronref00_Where.mono _ _ _
   | exact LeO.none _
   | refine LeO.ite ?_ ?_
   | refine LeO.bind ?_ (fun _ => ?_)
  ·intro y0 y1 y2 y3 y4 y5 y6 y7 y8 y9 y10 y11 y12 y13
   unfold saronlaw09_HeardRead.j3
   repeat' first
   | (with_reducible exact ih0 _ _ _ _ _ _ _ _ _ _ _)
   | (with_reducible exact ih1 _ _ _ _ _ _ _ _ _ _ _ _)
   | (with_reducible exact ih2 _ _ _ _ _ _ _ _ _ _ _ _)
   | (with_reducible exact ih3 _ _ _ _ _ _ _ _ _ _ _ _ _ _)
   | (with_reducible exact ih4 _ _ _ _ _ _ _ _ _ _ _ _ _ _)
   | (with_reducible exact saronlaw09_fair.mono _ _ _ _ _)
   | (with_reducible exact saronlaw09_sound.mono _ _ _ _)
   | (with_reducible exact saronref00_Equal.mono _ _ _)
   | (with_reducible exact saronref00_Grows.mono _ _ _)
   | (with_reducible exact saronref00_Where.mono _ _ _)
   | (with_reducible exact LeO.refl _)
   | (with_reducible exact LeO.none _)
   | (with_reducible refine LeO.ite ?_ ?_)
   | (with_reducible refine LeO.bind ?_ (fun _ => ?_))
   | exact ih0 _ _ _ _ _ _ _ _ _ _ _
   | exact ih1 _ _ _ _ _ _ _ _ _ _ _ _
   | exact ih2 _ _ _ _ _ _ _ _ _ _ _ _
   | exact ih3 _ _ _ _ _ _ _ _ _ _ _ _ _ _
   | exact ih4 _ _ _ _ _ _ _ _ _ _ _ _ _ _
   | exact saronlaw09_fair.mono _ _ _ _ _
   | exact saronlaw09_sound.mono _ _ _ _
   | exact saronref00_Equal.mono _ _ _
   | exact saronref00_Grows.mono _ _ _
   | exact saronref00_Where.mono _ _ _
   | exact LeO.none _
   | refine LeO.ite ?_ ?_
   | refine LeO.bind ?_ (fun _ => ?_)
  intro y0 y1 y2 y3 y4 y5 y6 y7 y8 y9 y10 y11 y12 y13
  unfold saronlaw09_HeardRead.l1
  repeat' first
  | (with_reducible exact ih0 _ _ _ _ _ _ _ _ _ _ _)
  | (with_reducible exact ih1 _ _ _ _ _ _ _ _ _ _ _ _)
  | (with_reducible exact ih2 _ _ _ _ _ _ _ _ _ _ _ _)
  | (with_reducible exact ih3 _ _ _ _ _ _ _ _ _ _ _ _ _ _)
  | (with_reducible exact ih4 _ _ _ _ _ _ _ _ _ _ _ _ _ _)
  | (with_reducible exact saronlaw09_fair.mono _ _ _ _ _)
  | (with_reducible exact saronlaw09_sound.mono _ _ _ _)
  | (with_reducible exact saronref00_Equal.mono _ _ _)
  | (with_reducible exact saronref00_Grows.mono _ _ _)
  | (with_reducible exact saronref00_Where.mono _ _ _)
  | (with_reducible exact LeO.refl _)
  | (with_reducible exact LeO.none _)
  | (with_reducible refine LeO.ite ?_ ?_)
  | (with_reducible refine LeO.bind ?_ (fun _ => ?_))
  | exact ih0 _ _ _ _ _ _ _ _ _ _ _
  | exact ih1 _ _ _ _ _ _ _ _ _ _ _ _
  | exact ih2 _ _ _ _ _ _ _ _ _ _ _ _
  | exact ih3 _ _ _ _ _ _ _ _ _ _ _ _ _ _
  | exact ih4 _ _ _ _ _ _ _ _ _ _ _ _ _ _
  | exact saronlaw09_fair.mono _ _ _ _ _
  | exact saronlaw09_sound.mono _ _ _ _
  | exact saronref00_Equal.mono _ _ _
  | exact saronref00_Grows.mono _ _ _
  | exact saronref00_Where.mono _ _ _
  | exact LeO.none _
  | refine LeO.ite ?_ ?_
  | refine LeO.bind ?_ (fun _ => ?_)
theorem saronlaw09_HeardRead.mono : ∀ a0 a1 a2 a3 a4 a5 a6 a7 k, LeO (saronlaw09_HeardRead.f k a0 a1 a2 a3 a4 a5 a6 a7) (saronlaw09_HeardRead.f (k + 1) a0 a1 a2 a3 a4 a5 a6 a7) := by
 intro a0 a1 a2 a3 a4 a5 a6 a7 k
 obtain ⟨ih0, ih1, ih2, ih3, ih4⟩ := saronlaw09_HeardRead.mono_l k
 unfold saronlaw09_HeardRead.f
 repeat' first
   | (with_reducible exact ih0 _ _ _ _ _ _ _ _ _ _ _)
   | (with_reducible exact ih1 _ _ _ _ _ _ _ _ _ _ _ _)
   | (with_reducible exact ih2 _ _ _ _ _ _ _ _ _ _ _ _)
   | (with_reducible exact ih3 _ _ _ _ _ _ _ _ _ _ _ _ _ _)
   | (with_reducible exact ih4 _ _ _ _ _ _ _ _ _ _ _ _ _ _)
   | (with_reducible exact saronlaw09_fair.mono _ _ _ _ _)
   | (with_reducible exact saronlaw09_sound.mono _ _ _ _)
   | (with_reducible exact saronref00_Equal.mono _ _ _)
   | (with_reducible exact saronref00_Grows.mono _ _ _)
   | (with_reducible exact saronref00_Where.mono _ _ _)
   | (with_reducible exact LeO.refl _)
   | (with_reducible exact LeO.none _)
   | (with_reducible refine LeO.ite ?_ ?_)
   | (with_reducible refine LeO.bind ?_ (fun _ => ?_))
   | exact ih0 _ _ _ _ _ _ _ _ _ _ _
   | exact ih1 _ _ _ _ _ _ _ _ _ _ _ _
   | exact ih2 _ _ _ _ _ _ _ _ _ _ _ _
   | exact ih3 _ _ _ _ _ _ _ _ _ _ _ _ _ _
   | exact ih4 _ _ _ _ _ _ _ _ _ _ _ _ _ _
   | exact saronlaw09_fair.mono _ _ _ _ _
   | exact saronlaw09_sound.mono _ _ _ _
   | exact saronref00_Equal.mono _ _ _
   | exact saronref00_Grows.mono _ _ _
   | exact saronref00_Where.mono _ _ _
   | exact LeO.none _
   | refine LeO.ite ?_ ?_
   | refine LeO.bind ?_ (fun _ => ?_)
def saronlaw09_HeardRead.T19 : Bool × List (List Nat × List Nat) := (true, [([], []), ([0], [0]), ([], []), ([2], [2]), ([], []), ([3, 4], [3, 4]), ([5], [5]), ([6], [6]), ([], []), ([], []), ([8, 9], [8, 9]), ([10], [10]), ([1, 7, 11], [1, 7, 11]), ([12], [12]), ([13], [13]), ([13], [13]), ([14, 12, 0, 1, 2, 3, 4, 5, 6, 7, 8, 9, 10, 11, 12, 13, 14], [14]), ([15, 16, 0, 1, 2, 3, 4, 5, 6, 7, 8, 9, 10, 11, 12, 13, 14, 15, 16], [15])])
def saronlaw09_HeardRead.B19 : List Nat := [0, 1, 0, 4, 0, 28, 60, 124, 0, 0, 768, 1792, 4095, 8191, 16383, 16383, 32767, 131071]
theorem saronlaw09_HeardRead.tab19 : rtab .any (opsOf Tryd.f8 19) = saronlaw09_HeardRead.T19 := by kernel_rfl
theorem saronlaw09_HeardRead.bits19 : waitsOk saronlaw09_HeardRead.T19.2 saronlaw09_HeardRead.B19 = true := by kernel_rfl
def saronlaw09_HeardRead.T20 : Bool × List (List Nat × List Nat) := (true, [([], []), ([0], [0]), ([1], [1]), ([2], [2]), ([2], [2]), ([2], [2]), ([4, 5, 2], [2, 4, 5]), ([6, 2], [2, 6]), ([3, 7, 2], [2, 3, 7]), ([8, 2], [2, 8]), ([2], [2]), ([10, 2], [2, 10]), ([2], [2]), ([11, 12, 2], [2, 11, 12]), ([13, 2], [2, 13]), ([9, 14, 2], [2, 9, 14]), ([15, 2, 2], [2, 15]), ([2], [2]), ([17, 2], [2, 17]), ([18, 2], [2, 18]), ([16, 19, 2], [2, 16, 19]), ([2, 20], [2, 20]), ([21, 16], [21]), ([22], [22]), ([23, 22], [22, 23]), ([22], [22]), ([24, 25, 22, 22], [22, 24, 25]), ([26, 22], [22, 26]), ([27, 26, 22], [22, 27]), ([28], [28]), ([29, 28, 28], [28, 29]), ([30, 28], [28, 30]), ([28, 31, 22], [22, 28, 31]), ([22, 32], [22, 32]), ([33, 30], [33]), ([34], [34]), ([34], [34]), ([35, 36, 34], [34, 35, 36]), ([37, 34], [34, 37]), ([34], [34]), ([39, 34], [34, 39]), ([40, 34], [34, 40]), ([34], [34]), ([41, 42, 34], [34, 41, 42]), ([38, 43, 34], [34, 38, 43]), ([34, 44], [34, 44]), ([45, 34], [45]), ([46], [46]), ([46], [46]), ([47, 48, 46], [46, 47, 48]), ([49, 46], [46, 49]), ([46], [46]), ([46], [46]), ([52, 46], [46, 52]), ([53, 46], [46, 53]), ([51, 54, 46], [46, 51, 54]), ([55, 46], [46, 55]), ([46], [46]), ([56, 57, 46], [46, 56, 57]), ([46], [46]), ([59, 46], [46, 59]), ([58, 60, 46], [46, 58, 60]), ([50, 61, 46], [46, 50, 61]), ([46, 62], [46, 62])])
def saronlaw09_HeardRead.B20 : List Nat := [0, 1, 3, 7, 7, 7, 55, 119, 255, 511, 7, 1031, 7, 7175, 15367, 32767, 65535, 7, 131079, 393223, 1048575, 2097151, 4194303, 8388607, 16777215, 8388607, 67108863, 134217727, 268435455, 536870911, 1073741823, 2147483647, 4294967295, 8589934591, 17179869183, 34359738367, 34359738367, 137438953471, 274877906943, 34359738367, 584115552255, 1683627180031, 34359738367, 8280696946687, 17592186044415, 35184372088831, 70368744177663, 140737488355327, 140737488355327, 562949953421311, 1125899906842623, 140737488355327, 140737488355327, 4644337115725823, 13651536370466815, 33917734693634047, 69946531712598015, 140737488355327, 286119313826381823, 140737488355327, 576601489791778815, 2303731946888364031, 4611686018427387903, 9223372036854775807]
theorem saronlaw09_HeardRead.tab20 : rtab .any (opsOf Tryd.f8 20) = saronlaw09_HeardRead.T20 := by kernel_rfl
theorem saronlaw09_HeardRead.bits20 : waitsOk saronlaw09_HeardRead.T20.2 saronlaw09_HeardRead.B20 = true := by kernel_rfl
set_option maxHeartbeats 8000000 in
set_option maxRecDepth 100000 in
theorem saronlaw09_HeardRead.calls (k : Nat) (a0_0 : Int) (A0_1 : Option Addr) (c0_1 : Nat) (l0_1 : List (S114)) (A0_2 : Option Addr) (c0_2 : Nat) (l0_2 : List (S62)) (a1 : Int) (A2_0 : Option Addr) (c2_0 : Nat) (l2_0 : List Int) (A2_1 : Option Addr) (c2_1 : Nat) (l2_1 : List Int) (a2_2 : Int) (a2_3 : Int) (r : Bool) (w : World) (hr0_1 : Kd.C k114 w A0_1 l0_1.length l0_1) (hc0_1 : l0_1.length ≤ c0_1) (hr0_2 : Kd.C k62 w A0_2 l0_2.length l0_2) (hc0_2 : l0_2.length ≤ c0_2) (hr2_0 : Kd.C (Kd.int .i64) w A2_0 l2_0.length l2_0) (hc2_0 : l2_0.length ≤ c2_0) (hr2_1 : Kd.C (Kd.int .i64) w A2_1 l2_1.length l2_1) (hc2_1 : l2_1.length ≤ c2_1) (hG : Glob w) (h : saronlaw09_HeardRead.f k a0_0 l0_1 l0_2 a1 l2_0 l2_1 a2_2 a2_3 = some r) :
  Calls Tryd.prog 8 #[.agg #[.int .i64 a0_0, .slice A0_1 l0_1.length c0_1, .slice A0_2 l0_2.length c0_2], .int .i64 a1, .agg #[.slice A2_0 l2_0.length c2_0, .slice A2_1 l2_1.length c2_1, .int .i64 a2_2, .int .i64 a2_3]] w fun e w' => e = .returned (.bool r) ∧ Below w.heap.size w w' := by
 have hu27 := Tryd.underlying27
 have hu30 := Tryd.underlying30
 have hu24 := Tryd.underlying24
 have HR0_1 := Aside0.mk hr0_1
 have HC0_1 := Aside0.mk hc0_1
 clear hr0_1 hc0_1
 have HR0_2 := Aside0.mk hr0_2
 have HC0_2 := Aside0.mk hc0_2
 clear hr0_2 hc0_2
 have HR2_0 := Aside0.mk hr2_0
 have HC2_0 := Aside0.mk hc2_0
 clear hr2_0 hc2_0
 have HR2_1 := Aside0.mk hr2_1
 have HC2_1 := Aside0.mk hc2_1
 clear hr2_1 hc2_1
 have HB := Aside0.mk (Below.refl w.heap.size w)
 have HG := Aside0.mk hG
 clear hG
 have H : ((heard_Fits.f a0_0 l0_1 l0_2 a1 l2_0 l2_1 a2_2 a2_3).bind fun bt235 => ((saronlaw09_sound.f k a0_0 l0_1 l0_2).bind fun t237 => (if t237 = true then ((saronlaw09_fair.f k l2_0 l2_1 a2_2 a2_3).bind fun t239 => (if t239 = true then ((saronref00_Sits.f a1 0 (wrap64 ((l0_2.length : Int) - 1))).bind fun t240 => (saronlaw09_HeardRead.j0 k a1 bt235.1 bt235.2 (!t240) a0_0 l0_1 l0_2 l2_0 l2_1 a2_2 a2_3)) else (saronlaw09_HeardRead.j0 k a1 bt235.1 bt235.2 true a0_0 l0_1 l0_2 l2_0 l2_1 a2_2 a2_3))) else (if bt235.2 = 90 then (if bt235.1 = true then (some false) else ((saronlaw09_listened.f).bind fun t238 => (some t238))) else (some false))))) = some r := h
 clear h
 replace H := Option.bind_eq_some_iff.mp H
 obtain ⟨⟨t235, t236⟩, A40, H⟩ := H
 replace H : ((saronlaw09_sound.f k a0_0 l0_1 l0_2).bind fun t237 => (if t237 = true then ((saronlaw09_fair.f k l2_0 l2_1 a2_2 a2_3).bind fun t239 => (if t239 = true then ((saronref00_Sits.f a1 0 (wrap64 ((l0_2.length : Int) - 1))).bind fun t240 => (saronlaw09_HeardRead.j0 k a1 t235 t236 (!t240) a0_0 l0_1 l0_2 l2_0 l2_1 a2_2 a2_3)) else (saronlaw09_HeardRead.j0 k a1 t235 t236 true a0_0 l0_1 l0_2 l2_0 l2_1 a2_2 a2_3))) else (if t236 = 90 then (if t235 = true then (some false) else ((saronlaw09_listened.f).bind fun t238 => (some t238))) else (some false)))) = some r := H
 have A4 := Aside0.mk A40
 clear A40
 replace H := Option.bind_eq_some_iff.mp H
 obtain ⟨t237, A50, H⟩ := H
 replace H : (if t237 = true then ((saronlaw09_fair.f k l2_0 l2_1 a2_2 a2_3).bind fun t239 => (if t239 = true then ((saronref00_Sits.f a1 0 (wrap64 ((l0_2.length : Int) - 1))).bind fun t240 => (saronlaw09_HeardRead.j0 k a1 t235 t236 (!t240) a0_0 l0_1 l0_2 l2_0 l2_1 a2_2 a2_3)) else (saronlaw09_HeardRead.j0 k a1 t235 t236 true a0_0 l0_1 l0_2 l2_0 l2_1 a2_2 a2_3))) else (if t236 = 90 then (if t235 = true then (some false) else ((saronlaw09_listened.f).bind fun t238 => (some t238))) else (some false))) = some r := H
 have A5 := Aside0.mk A50
 clear A50
 by_cases c6 : t237 = true
 rotate_left
 ·replace c6 := Bool.eq_false_iff.mpr c6
  subst c6
  have H1 : (if t236 = 90 then (if t235 = true then (some false) else ((saronlaw09_listened.f).bind fun t238 => (some t238))) else (some false)) = some r := by rw [if_neg (show ¬ (false = true) by decide)] at H; exact H
  clear H
  have H := H1
  clear H1
  by_cases c146 : t236 = 90
  rotate_left
  ·rw [if_neg c146] at H
   have c146b0 : (t236 == 90) = false := beq_eq_false_iff_ne.mpr c146
   have c146b1 : (t236 != 90) = true := bne_iff_ne.mpr c146
   obtain rfl := Option.some.inj H
   go_enter Tryd.func8, Tryd.ntmps8
   go_wp2_with (first | ((with_reducible refine gate_dst (N := 3) rfl ?_); (try (refine gate_guard (by rfl) ?_; dsimp only)); refine box_event ?hg (N := 3) ?hd (cs := #[.int .i64 a0_0, .slice A0_1 l0_1.length c0_1, .slice A0_2 l0_2.length c0_2]) (t := 27) ?hr ?_; (case hd => rfl); (case hg => rfl); (case hr => exact TS); intro gb233 hg w166 hbox hb; have BK233 := Aside0.mk (hbox); have GW233 := Aside0.mk ((TG : w.heap.size ≤ gb233)); have GE233 := Aside0.mk ((TG : w.heap.size ≤ gb233)); replace HB := Aside0.mk (below_step TB hb); clear hb hbox hg) | ((with_reducible refine gate_dst (N := 5) rfl ?_); (try (refine gate_guard (by rfl) ?_; dsimp only)); refine box_event ?hg (N := 5) ?hd (cs := #[.slice A2_0 l2_0.length c2_0, .slice A2_1 l2_1.length c2_1, .int .i64 a2_2, .int .i64 a2_3]) (t := 30) ?hr ?_; (case hd => rfl); (case hg => rfl); (case hr => exact TS); intro gb234 hg w167 hbox hb; have BK234 := Aside0.mk (hbox); have GW234 := Aside0.mk ((TG1 GE233.out : w.heap.size ≤ gb234)); have GE234 := Aside0.mk ((TG1 GE233.out : w.heap.size ≤ gb234)); have NB233_234 := Aside0.mk ((by rw [hg]; exact Nat.ne_of_lt (blk_lt (g := gb233) (o := .cells #[.int .i64 a0_0, .slice A0_1 l0_1.length c0_1, .slice A0_2 l0_2.length c0_2] 27 (0, 0)) (TK BK233.out)) : gb233 ≠ gb234)); have NB234_233 := Aside0.mk ((by rw [hg]; exact Nat.ne_of_gt (blk_lt (g := gb233) (o := .cells #[.int .i64 a0_0, .slice A0_1 l0_1.length c0_1, .slice A0_2 l0_2.length c0_2] 27 (0, 0)) (TK BK233.out)) : gb234 ≠ gb233)); replace BK233 := Aside0.mk (blk_below (g := gb233) (o := .cells #[.int .i64 a0_0, .slice A0_1 l0_1.length c0_1, .slice A0_2 l0_2.length c0_2] 27 (0, 0)) (TK BK233.out) hb); replace HB := Aside0.mk (below_step (TB1 GE233.out) hb); clear hb hbox hg; have hnb168 := NB233_234.out; have hnc168 := NB234_233.out; have hcz169_0 := czz BK233.out 0; have hcz169_1 := czz BK233.out 1; have hcz169_2 := czz BK233.out 2; have hfz169_0 := fz BK233.out 0; have hfz169_1 := fz BK233.out 1; have hfz169_2 := fz BK233.out 2; have hcz170_0 := czz BK234.out 0; have hcz170_1 := czz BK234.out 1; have hcz170_2 := czz BK234.out 2; have hcz170_3 := czz BK234.out 3; have hfz170_0 := fz BK234.out 0; have hfz170_1 := fz BK234.out 1; have hfz170_2 := fz BK234.out 2; have hfz170_3 := fz BK234.out 3) | ((with_reducible refine gate_callee (f := 14) rfl ?_); refine goesL_ (some 22) rfl rfl Tryd.func14 (by kernel_rfl) rfl #[.agg #[.int .i64 a0_0, .slice A0_1 l0_1.length c0_1, .slice A0_2 l0_2.length c0_2], .int .i64 a1, .agg #[.slice A2_0 l2_0.length c2_0, .slice A2_1 l2_1.length c2_1, .int .i64 a2_2, .int .i64 a2_3]] rfl TM ?_; (with_reducible refine (heard_Fits.calls a0_0 _ _ l0_1 _ _ l0_2 a1 _ _ l2_0 _ _ l2_1 a2_2 a2_3 t235 t236 _ ?side1 ?side2 ?side3 ?side4 ?side5 ?side6 ?side7 ?side8 ?side9 A4.out).mono ?_); (case side1 => exact TC HR0_1.out); (case side2 => exact HC0_1.out); (case side3 => exact TC HR0_2.out); (case side4 => exact HC0_2.out); (case side5 => exact TC HR2_0.out); (case side6 => exact HC2_0.out); (case side7 => exact TC HR2_1.out); (case side8 => exact HC2_1.out); (case side9 => exact Glob.fr HG.out (Fr.of_below (TB2 GE233.out GE234.out))); rintro e w171 ⟨rfl, hb⟩; refine ⟨_, rfl, ?_⟩; replace BK233 := Aside0.mk (blk_below (g := gb233) (o := .cells #[.int .i64 a0_0, .slice A0_1 l0_1.length c0_1, .slice A0_2 l0_2.length c0_2] 27 (0, 0)) (TK BK233.out) hb); replace BK234 := Aside0.mk (blk_below (g := gb234) (o := .cells #[.slice A2_0 l2_0.length c2_0, .slice A2_1 l2_1.length c2_1, .int .i64 a2_2, .int .i64 a2_3] 30 (0, 0)) (TK BK234.out) hb); replace HB := Aside0.mk (below_step (TB2 GE233.out GE234.out) hb); (try clear hb); (try clear hb2); (try clear hk); (try clear hi); have hcz172_0 := czz BK233.out 0; have hcz172_1 := czz BK233.out 1; have hcz172_2 := czz BK233.out 2; have hfz172_0 := fz BK233.out 0; have hfz172_1 := fz BK233.out 1; have hfz172_2 := fz BK233.out 2) | ((with_reducible refine gate_callee (f := 36) rfl ?_); refine goesL_ (some 26) rfl rfl Tryd.func36 (by kernel_rfl) rfl #[.agg #[.int .i64 a0_0, .slice A0_1 l0_1.length c0_1, .slice A0_2 l0_2.length c0_2]] rfl TM ?_; (with_reducible refine (saronlaw09_sound.calls k a0_0 _ _ l0_1 _ _ l0_2 false _ ?side1 ?side2 ?side3 ?side4 ?side5 A5.out).mono ?_); (case side1 => exact TC HR0_1.out); (case side2 => exact HC0_1.out); (case side3 => exact TC HR0_2.out); (case side4 => exact HC0_2.out); (case side5 => exact Glob.fr HG.out (Fr.of_below (TB2 GE233.out GE234.out))); rintro e w173 ⟨rfl, hb⟩; refine ⟨_, rfl, ?_⟩; replace BK233 := Aside0.mk (blk_below (g := gb233) (o := .cells #[.int .i64 a0_0, .slice A0_1 l0_1.length c0_1, .slice A0_2 l0_2.length c0_2] 27 (0, 0)) (TK BK233.out) hb); replace BK234 := Aside0.mk (blk_below (g := gb234) (o := .cells #[.slice A2_0 l2_0.length c2_0, .slice A2_1 l2_1.length c2_1, .int .i64 a2_2, .int .i64 a2_3] 30 (0, 0)) (TK BK234.out) hb); replace HB := Aside0.mk (below_step (TB2 GE233.out GE234.out) hb); (try clear hb); (try clear hb2); (try clear hk); (try clear hi)))
   go_ret
   exact ⟨TR, TB2 GE233.out GE234.out⟩
  rw [if_pos c146] at H
  have c146b0 : (t236 == 90) = true := beq_iff_eq.mpr c146
  have c146b1 : (t236 != 90) = false := bne_eq_false_iff_eq.mpr c146
  clear c146
  by_cases c147 : t235 = true
  ·subst c147
   have H1 : (some false) = some r := by rw [if_pos rfl] at H; exact H
   clear H
   have H := H1
   clear H1
   obtain rfl := Option.some.inj H
   go_enter Tryd.func8, Tryd.ntmps8
   go_wp2_with (first | ((with_reducible refine gate_dst (N := 3) rfl ?_); (try (refine gate_guard (by rfl) ?_; dsimp only)); refine box_event ?hg (N := 3) ?hd (cs := #[.int .i64 a0_0, .slice A0_1 l0_1.length c0_1, .slice A0_2 l0_2.length c0_2]) (t := 27) ?hr ?_; (case hd => rfl); (case hg => rfl); (case hr => exact TS); intro gb233 hg w148 hbox hb; have BK233 := Aside0.mk (hbox); have GW233 := Aside0.mk ((TG : w.heap.size ≤ gb233)); have GE233 := Aside0.mk ((TG : w.heap.size ≤ gb233)); replace HB := Aside0.mk (below_step TB hb); clear hb hbox hg) | ((with_reducible refine gate_dst (N := 5) rfl ?_); (try (refine gate_guard (by rfl) ?_; dsimp only)); refine box_event ?hg (N := 5) ?hd (cs := #[.slice A2_0 l2_0.length c2_0, .slice A2_1 l2_1.length c2_1, .int .i64 a2_2, .int .i64 a2_3]) (t := 30) ?hr ?_; (case hd => rfl); (case hg => rfl); (case hr => exact TS); intro gb234 hg w149 hbox hb; have BK234 := Aside0.mk (hbox); have GW234 := Aside0.mk ((TG1 GE233.out : w.heap.size ≤ gb234)); have GE234 := Aside0.mk ((TG1 GE233.out : w.heap.size ≤ gb234)); have NB233_234 := Aside0.mk ((by rw [hg]; exact Nat.ne_of_lt (blk_lt (g := gb233) (o := .cells #[.int .i64 a0_0, .slice A0_1 l0_1.length c0_1, .slice A0_2 l0_2.length c0_2] 27 (0, 0)) (TK BK233.out)) : gb233 ≠ gb234)); have NB234_233 := Aside0.mk ((by rw [hg]; exact Nat.ne_of_gt (blk_lt (g := gb233) (o := .cells #[.int .i64 a0_0, .slice A0_1 l0_1.length c0_1, .slice A0_2 l0_2.length c0_2] 27 (0, 0)) (TK BK233.out)) : gb234 ≠ gb233)); replace BK233 := Aside0.mk (blk_below (g := gb233) (o := .cells #[.int .i64 a0_0, .slice A0_1 l0_1.length c0_1, .slice A0_2 l0_2.length c0_2] 27 (0, 0)) (TK BK233.out) hb); replace HB := Aside0.mk (below_step (TB1 GE233.out) hb); clear hb hbox hg; have hnb150 := NB233_234.out; have hnc150 := NB234_233.out; have hcz151_0 := czz BK233.out 0; have hcz151_1 := czz BK233.out 1; have hcz151_2 := czz BK233.out 2; have hfz151_0 := fz BK233.out 0; have hfz151_1 := fz BK233.out 1; have hfz151_2 := fz BK233.out 2; have hcz152_0 := czz BK234.out 0; have hcz152_1 := czz BK234.out 1; have hcz152_2 := czz BK234.out 2; have hcz152_3 := czz BK234.out 3; have hfz152_0 := fz BK234.out 0; have hfz152_1 := fz BK234.out 1; have hfz152_2 := fz BK234.out 2; have hfz152_3 := fz BK234.out 3) | ((with_reducible refine gate_callee (f := 14) rfl ?_); refine goesL_ (some 22) rfl rfl Tryd.func14 (by kernel_rfl) rfl #[.agg #[.int .i64 a0_0, .slice A0_1 l0_1.length c0_1, .slice A0_2 l0_2.length c0_2], .int .i64 a1, .agg #[.slice A2_0 l2_0.length c2_0, .slice A2_1 l2_1.length c2_1, .int .i64 a2_2, .int .i64 a2_3]] rfl TM ?_; (with_reducible refine (heard_Fits.calls a0_0 _ _ l0_1 _ _ l0_2 a1 _ _ l2_0 _ _ l2_1 a2_2 a2_3 true t236 _ ?side1 ?side2 ?side3 ?side4 ?side5 ?side6 ?side7 ?side8 ?side9 A4.out).mono ?_); (case side1 => exact TC HR0_1.out); (case side2 => exact HC0_1.out); (case side3 => exact TC HR0_2.out); (case side4 => exact HC0_2.out); (case side5 => exact TC HR2_0.out); (case side6 => exact HC2_0.out); (case side7 => exact TC HR2_1.out); (case side8 => exact HC2_1.out); (case side9 => exact Glob.fr HG.out (Fr.of_below (TB2 GE233.out GE234.out))); rintro e w153 ⟨rfl, hb⟩; refine ⟨_, rfl, ?_⟩; replace BK233 := Aside0.mk (blk_below (g := gb233) (o := .cells #[.int .i64 a0_0, .slice A0_1 l0_1.length c0_1, .slice A0_2 l0_2.length c0_2] 27 (0, 0)) (TK BK233.out) hb); replace BK234 := Aside0.mk (blk_below (g := gb234) (o := .cells #[.slice A2_0 l2_0.length c2_0, .slice A2_1 l2_1.length c2_1, .int .i64 a2_2, .int .i64 a2_3] 30 (0, 0)) (TK BK234.out) hb); replace HB := Aside0.mk (below_step (TB2 GE233.out GE234.out) hb); (try clear hb); (try clear hb2); (try clear hk); (try clear hi); have hcz154_0 := czz BK233.out 0; have hcz154_1 := czz BK233.out 1; have hcz154_2 := czz BK233.out 2; have hfz154_0 := fz BK233.out 0; have hfz154_1 := fz BK233.out 1; have hfz154_2 := fz BK233.out 2) | ((with_reducible refine gate_callee (f := 36) rfl ?_); refine goesL_ (some 26) rfl rfl Tryd.func36 (by kernel_rfl) rfl #[.agg #[.int .i64 a0_0, .slice A0_1 l0_1.length c0_1, .slice A0_2 l0_2.length c0_2]] rfl TM ?_; (with_reducible refine (saronlaw09_sound.calls k a0_0 _ _ l0_1 _ _ l0_2 false _ ?side1 ?side2 ?side3 ?side4 ?side5 A5.out).mono ?_); (case side1 => exact TC HR0_1.out); (case side2 => exact HC0_1.out); (case side3 => exact TC HR0_2.out); (case side4 => exact HC0_2.out); (case side5 => exact Glob.fr HG.out (Fr.of_below (TB2 GE233.out GE234.out))); rintro e w155 ⟨rfl, hb⟩; refine ⟨_, rfl, ?_⟩; replace BK233 := Aside0.mk (blk_below (g := gb233) (o := .cells #[.int .i64 a0_0, .slice A0_1 l0_1.length c0_1, .slice A0_2 l0_2.length c0_2] 27 (0, 0)) (TK BK233.out) hb); replace BK234 := Aside0.mk (blk_below (g := gb234) (o := .cells #[.slice A2_0 l2_0.length c2_0, .slice A2_1 l2_1.length c2_1, .int .i64 a2_2, .int .i64 a2_3] 30 (0, 0)) (TK BK234.out) hb); replace HB := Aside0.mk (below_step (TB2 GE233.out GE234.out) hb); (try clear hb); (try clear hb2); (try clear hk); (try clear hi)))
   go_ret
   exact ⟨TR, TB2 GE233.out GE234.out⟩
  replace c147 := Bool.eq_false_iff.mpr c147
  subst c147
  have H1 : ((saronlaw09_listened.f).bind fun t238 => (some t238)) = some r := by rw [if_neg (show ¬ (false = true) by decide)] at H; exact H
  clear H
  have H := H1
  clear H1
  replace H := Option.bind_eq_some_iff.mp H
  obtain ⟨t238, A1560, H⟩ := H
  replace H : (some t238) = some r := H
  have A156 := Aside0.mk A1560
  clear A1560
  obtain rfl := Option.some.inj H
  go_enter Tryd.func8, Tryd.ntmps8
  go_wp2_with (first | ((with_reducible refine gate_dst (N := 3) rfl ?_); (try (refine gate_guard (by rfl) ?_; dsimp only)); refine box_event ?hg (N := 3) ?hd (cs := #[.int .i64 a0_0, .slice A0_1 l0_1.length c0_1, .slice A0_2 l0_2.length c0_2]) (t := 27) ?hr ?_; (case hd => rfl); (case hg => rfl); (case hr => exact TS); intro gb233 hg w157 hbox hb; have BK233 := Aside0.mk (hbox); have GW233 := Aside0.mk ((TG : w.heap.size ≤ gb233)); have GE233 := Aside0.mk ((TG : w.heap.size ≤ gb233)); replace HB := Aside0.mk (below_step TB hb); clear hb hbox hg) | ((with_reducible refine gate_dst (N := 5) rfl ?_); (try (refine gate_guard (by rfl) ?_; dsimp only)); refine box_event ?hg (N := 5) ?hd (cs := #[.slice A2_0 l2_0.length c2_0, .slice A2_1 l2_1.length c2_1, .int .i64 a2_2, .int .i64 a2_3]) (t := 30) ?hr ?_; (case hd => rfl); (case hg => rfl); (case hr => exact TS); intro gb234 hg w158 hbox hb; have BK234 := Aside0.mk (hbox); have GW234 := Aside0.mk ((TG1 GE233.out : w.heap.size ≤ gb234)); have GE234 := Aside0.mk ((TG1 GE233.out : w.heap.size ≤ gb234)); have NB233_234 := Aside0.mk ((by rw [hg]; exact Nat.ne_of_lt (blk_lt (g := gb233) (o := .cells #[.int .i64 a0_0, .slice A0_1 l0_1.length c0_1, .slice A0_2 l0_2.length c0_2] 27 (0, 0)) (TK BK233.out)) : gb233 ≠ gb234)); have NB234_233 := Aside0.mk ((by rw [hg]; exact Nat.ne_of_gt (blk_lt (g := gb233) (o := .cells #[.int .i64 a0_0, .slice A0_1 l0_1.length c0_1, .slice A0_2 l0_2.length c0_2] 27 (0, 0)) (TK BK233.out)) : gb234 ≠ gb233)); replace BK233 := Aside0.mk (blk_below (g := gb233) (o := .cells #[.int .i64 a0_0, .slice A0_1 l0_1.length c0_1, .slice A0_2 l0_2.length c0_2] 27 (0, 0)) (TK BK233.out) hb); replace HB := Aside0.mk (below_step (TB1 GE233.out) hb); clear hb hbox hg; have hnb159 := NB233_234.out; have hnc159 := NB234_233.out; have hcz160_0 := czz BK233.out 0; have hcz160_1 := czz BK233.out 1; have hcz160_2 := czz BK233.out 2; have hfz160_0 := fz BK233.out 0; have hfz160_1 := fz BK233.out 1; have hfz160_2 := fz BK233.out 2; have hcz161_0 := czz BK234.out 0; have hcz161_1 := czz BK234.out 1; have hcz161_2 := czz BK234.out 2; have hcz161_3 := czz BK234.out 3; have hfz161_0 := fz BK234.out 0; have hfz161_1 := fz BK234.out 1; have hfz161_2 := fz BK234.out 2; have hfz161_3 := fz BK234.out 3) | ((with_reducible refine gate_callee (f := 14) rfl ?_); refine goesL_ (some 22) rfl rfl Tryd.func14 (by kernel_rfl) rfl #[.agg #[.int .i64 a0_0, .slice A0_1 l0_1.length c0_1, .slice A0_2 l0_2.length c0_2], .int .i64 a1, .agg #[.slice A2_0 l2_0.length c2_0, .slice A2_1 l2_1.length c2_1, .int .i64 a2_2, .int .i64 a2_3]] rfl TM ?_; (with_reducible refine (heard_Fits.calls a0_0 _ _ l0_1 _ _ l0_2 a1 _ _ l2_0 _ _ l2_1 a2_2 a2_3 false t236 _ ?side1 ?side2 ?side3 ?side4 ?side5 ?side6 ?side7 ?side8 ?side9 A4.out).mono ?_); (case side1 => exact TC HR0_1.out); (case side2 => exact HC0_1.out); (case side3 => exact TC HR0_2.out); (case side4 => exact HC0_2.out); (case side5 => exact TC HR2_0.out); (case side6 => exact HC2_0.out); (case side7 => exact TC HR2_1.out); (case side8 => exact HC2_1.out); (case side9 => exact Glob.fr HG.out (Fr.of_below (TB2 GE233.out GE234.out))); rintro e w162 ⟨rfl, hb⟩; refine ⟨_, rfl, ?_⟩; replace BK233 := Aside0.mk (blk_below (g := gb233) (o := .cells #[.int .i64 a0_0, .slice A0_1 l0_1.length c0_1, .slice A0_2 l0_2.length c0_2] 27 (0, 0)) (TK BK233.out) hb); replace BK234 := Aside0.mk (blk_below (g := gb234) (o := .cells #[.slice A2_0 l2_0.length c2_0, .slice A2_1 l2_1.length c2_1, .int .i64 a2_2, .int .i64 a2_3] 30 (0, 0)) (TK BK234.out) hb); replace HB := Aside0.mk (below_step (TB2 GE233.out GE234.out) hb); (try clear hb); (try clear hb2); (try clear hk); (try clear hi); have hcz163_0 := czz BK233.out 0; have hcz163_1 := czz BK233.out 1; have hcz163_2 := czz BK233.out 2; have hfz163_0 := fz BK233.out 0; have hfz163_1 := fz BK233.out 1; have hfz163_2 := fz BK233.out 2) | ((with_reducible refine gate_callee (f := 36) rfl ?_); refine goesL_ (some 26) rfl rfl Tryd.func36 (by kernel_rfl) rfl #[.agg #[.int .i64 a0_0, .slice A0_1 l0_1.length c0_1, .slice A0_2 l0_2.length c0_2]] rfl TM ?_; (with_reducible refine (saronlaw09_sound.calls k a0_0 _ _ l0_1 _ _ l0_2 false _ ?side1 ?side2 ?side3 ?side4 ?side5 A5.out).mono ?_); (case side1 => exact TC HR0_1.out); (case side2 => exact HC0_1.out); (case side3 => exact TC HR0_2.out); (case side4 => exact HC0_2.out); (case side5 => exact Glob.fr HG.out (Fr.of_below (TB2 GE233.out GE234.out))); rintro e w164 ⟨rfl, hb⟩; refine ⟨_, rfl, ?_⟩; replace BK233 := Aside0.mk (blk_below (g := gb233) (o := .cells #[.int .i64 a0_0, .slice A0_1 l0_1.length c0_1, .slice A0_2 l0_2.length c0_2] 27 (0, 0)) (TK BK233.out) hb); replace BK234 := Aside0.mk (blk_below (g := gb234) (o := .cells #[.slice A2_0 l2_0.length c2_0, .slice A2_1 l2_1.length c2_1, .int .i64 a2_2, .int .i64 a2_3] 30 (0, 0)) (TK BK234.out) hb); replace HB := Aside0.mk (below_step (TB2 GE233.out GE234.out) hb); (try clear hb); (try clear hb2); (try clear hk); (try clear hi)) | (go_at_call 25; (with_reducible refine (saronlaw09_listened.calls  t238 _ ?side1 A156.out).mono ?_); (case side1 => exact Glob.fr HG.out (Fr.of_below (TB2 GE233.out GE234.out))); rintro e w165 ⟨rfl, hb⟩; replace BK233 := Aside0.mk (blk_below (g := gb233) (o := .cells #[.int .i64 a0_0, .slice A0_1 l0_1.length c0_1, .slice A0_2 l0_2.length c0_2] 27 (0, 0)) (TK BK233.out) hb); replace BK234 := Aside0.mk (blk_below (g := gb234) (o := .cells #[.slice A2_0 l2_0.length c2_0, .slice A2_1 l2_1.length c2_1, .int .i64 a2_2, .int .i64 a2_3] 30 (0, 0)) (TK BK234.out) hb); replace HB := Aside0.mk (below_step (TB2 GE233.out GE234.out) hb); (try clear hb); (try clear hb2); (try clear hk); (try clear hi)))
  go_ret
  exact ⟨TR, TB2 GE233.out GE234.out⟩
 subst c6
 have H1 : ((saronlaw09_fair.f k l2_0 l2_1 a2_2 a2_3).bind fun t239 => (if t239 = true then ((saronref00_Sits.f a1 0 (wrap64 ((l0_2.length : Int) - 1))).bind fun t240 => (saronlaw09_HeardRead.j0 k a1 t235 t236 (!t240) a0_0 l0_1 l0_2 l2_0 l2_1 a2_2 a2_3)) else (saronlaw09_HeardRead.j0 k a1 t235 t236 true a0_0 l0_1 l0_2 l2_0 l2_1 a2_2 a2_3))) = some r := by rw [if_pos rfl] at H; exact H
 clear H
 have H := H1
 clear H1
 have HC7 := Aside0.mk H
 clear H
 go_enter Tryd.func8, Tryd.ntmps8
 go_upto_region 4 with (first | ((with_reducible refine gate_dst (N := 3) rfl ?_); (try (refine gate_guard (by rfl) ?_; dsimp only)); refine box_event ?hg (N := 3) ?hd (cs := #[.int .i64 a0_0, .slice A0_1 l0_1.length c0_1, .slice A0_2 l0_2.length c0_2]) (t := 27) ?hr ?_; (case hd => rfl); (case hg => rfl); (case hr => exact TS); intro gb233 hg w8 hbox hb; have BK233 := Aside0.mk (hbox); have GW233 := Aside0.mk ((TG : w.heap.size ≤ gb233)); have GE233 := Aside0.mk ((TG : w.heap.size ≤ gb233)); replace HB := Aside0.mk (below_step TB hb); clear hb hbox hg) | ((with_reducible refine gate_dst (N := 5) rfl ?_); (try (refine gate_guard (by rfl) ?_; dsimp only)); refine box_event ?hg (N := 5) ?hd (cs := #[.slice A2_0 l2_0.length c2_0, .slice A2_1 l2_1.length c2_1, .int .i64 a2_2, .int .i64 a2_3]) (t := 30) ?hr ?_; (case hd => rfl); (case hg => rfl); (case hr => exact TS); intro gb234 hg w9 hbox hb; have BK234 := Aside0.mk (hbox); have GW234 := Aside0.mk ((TG1 GE233.out : w.heap.size ≤ gb234)); have GE234 := Aside0.mk ((TG1 GE233.out : w.heap.size ≤ gb234)); have NB233_234 := Aside0.mk ((by rw [hg]; exact Nat.ne_of_lt (blk_lt (g := gb233) (o := .cells #[.int .i64 a0_0, .slice A0_1 l0_1.length c0_1, .slice A0_2 l0_2.length c0_2] 27 (0, 0)) (TK BK233.out)) : gb233 ≠ gb234)); have NB234_233 := Aside0.mk ((by rw [hg]; exact Nat.ne_of_gt (blk_lt (g := gb233) (o := .cells #[.int .i64 a0_0, .slice A0_1 l0_1.length c0_1, .slice A0_2 l0_2.length c0_2] 27 (0, 0)) (TK BK233.out)) : gb234 ≠ gb233)); replace BK233 := Aside0.mk (blk_below (g := gb233) (o := .cells #[.int .i64 a0_0, .slice A0_1 l0_1.length c0_1, .slice A0_2 l0_2.length c0_2] 27 (0, 0)) (TK BK233.out) hb); replace HB := Aside0.mk (below_step (TB1 GE233.out) hb); clear hb hbox hg; have hnb10 := NB233_234.out; have hnc10 := NB234_233.out; have hcz11_0 := czz BK233.out 0; have hcz11_1 := czz BK233.out 1; have hcz11_2 := czz BK233.out 2; have hfz11_0 := fz BK233.out 0; have hfz11_1 := fz BK233.out 1; have hfz11_2 := fz BK233.out 2; have hcz12_0 := czz BK234.out 0; have hcz12_1 := czz BK234.out 1; have hcz12_2 := czz BK234.out 2; have hcz12_3 := czz BK234.out 3; have hfz12_0 := fz BK234.out 0; have hfz12_1 := fz BK234.out 1; have hfz12_2 := fz BK234.out 2; have hfz12_3 := fz BK234.out 3) | ((with_reducible refine gate_callee (f := 14) rfl ?_); refine goesL_ (some 22) rfl rfl Tryd.func14 (by kernel_rfl) rfl #[.agg #[.int .i64 a0_0, .slice A0_1 l0_1.length c0_1, .slice A0_2 l0_2.length c0_2], .int .i64 a1, .agg #[.slice A2_0 l2_0.length c2_0, .slice A2_1 l2_1.length c2_1, .int .i64 a2_2, .int .i64 a2_3]] rfl TM ?_; (with_reducible refine (heard_Fits.calls a0_0 _ _ l0_1 _ _ l0_2 a1 _ _ l2_0 _ _ l2_1 a2_2 a2_3 t235 t236 _ ?side1 ?side2 ?side3 ?side4 ?side5 ?side6 ?side7 ?side8 ?side9 A4.out).mono ?_); (case side1 => exact TC HR0_1.out); (case side2 => exact HC0_1.out); (case side3 => exact TC HR0_2.out); (case side4 => exact HC0_2.out); (case side5 => exact TC HR2_0.out); (case side6 => exact HC2_0.out); (case side7 => exact TC HR2_1.out); (case side8 => exact HC2_1.out); (case side9 => exact Glob.fr HG.out (Fr.of_below (TB2 GE233.out GE234.out))); rintro e w13 ⟨rfl, hb⟩; refine ⟨_, rfl, ?_⟩; replace BK233 := Aside0.mk (blk_below (g := gb233) (o := .cells #[.int .i64 a0_0, .slice A0_1 l0_1.length c0_1, .slice A0_2 l0_2.length c0_2] 27 (0, 0)) (TK BK233.out) hb); replace BK234 := Aside0.mk (blk_below (g := gb234) (o := .cells #[.slice A2_0 l2_0.length c2_0, .slice A2_1 l2_1.length c2_1, .int .i64 a2_2, .int .i64 a2_3] 30 (0, 0)) (TK BK234.out) hb); replace HB := Aside0.mk (below_step (TB2 GE233.out GE234.out) hb); (try clear hb); (try clear hb2); (try clear hk); (try clear hi); have hcz14_0 := czz BK233.out 0; have hcz14_1 := czz BK233.out 1; have hcz14_2 := czz BK233.out 2; have hfz14_0 := fz BK233.out 0; have hfz14_1 := fz BK233.out 1; have hfz14_2 := fz BK233.out 2) | ((with_reducible refine gate_callee (f := 36) rfl ?_); refine goesL_ (some 26) rfl rfl Tryd.func36 (by kernel_rfl) rfl #[.agg #[.int .i64 a0_0, .slice A0_1 l0_1.length c0_1, .slice A0_2 l0_2.length c0_2]] rfl TM ?_; (with_reducible refine (saronlaw09_sound.calls k a0_0 _ _ l0_1 _ _ l0_2 true _ ?side1 ?side2 ?side3 ?side4 ?side5 A5.out).mono ?_); (case side1 => exact TC HR0_1.out); (case side2 => exact HC0_1.out); (case side3 => exact TC HR0_2.out); (case side4 => exact HC0_2.out); (case side5 => exact Glob.fr HG.out (Fr.of_below (TB2 GE233.out GE234.out))); rintro e w15 ⟨rfl, hb⟩; refine ⟨_, rfl, ?_⟩; replace BK233 := Aside0.mk (blk_below (g := gb233) (o := .cells #[.int .i64 a0_0, .slice A0_1 l0_1.length c0_1, .slice A0_2 l0_2.length c0_2] 27 (0, 0)) (TK BK233.out) hb); replace BK234 := Aside0.mk (blk_below (g := gb234) (o := .cells #[.slice A2_0 l2_0.length c2_0, .slice A2_1 l2_1.length c2_1, .int .i64 a2_2, .int .i64 a2_3] 30 (0, 0)) (TK BK234.out) hb); replace HB := Aside0.mk (below_step (TB2 GE233.out GE234.out) hb); (try clear hb); (try clear hb2); (try clear hk); (try clear hi)))
 (try simp only [Act.put, lA, lZ, lS])
 go_cut [48] (fun v48 wc => ∃ (kq : Nat) (x48_6 : Bool), v48 = .bool x48_6 ∧ Aside0 (saronlaw09_HeardRead.j0 kq a1 t235 t236 x48_6 a0_0 l0_1 l0_2 l2_0 l2_1 a2_2 a2_3 = some r) ∧ Aside0 (kq ≤ k) ∧ Aside0 (wc.heap[gb233]? = some (.cells #[.int .i64 a0_0, (.slice A0_1 l0_1.length c0_1), (.slice A0_2 l0_2.length c0_2)] 27 (0, 0))) ∧ Aside0 (wc.heap[gb234]? = some (.cells #[(.slice A2_0 l2_0.length c2_0), (.slice A2_1 l2_1.length c2_1), .int .i64 a2_2, .int .i64 a2_3] 30 (0, 0))) ∧ Aside0 (Below w.heap.size w wc))
 case first => as_aux_lemma =>
  have H := HC7.out
  clear HC7
  replace H := Option.bind_eq_some_iff.mp H
  obtain ⟨t239, A160, H⟩ := H
  replace H : (if t239 = true then ((saronref00_Sits.f a1 0 (wrap64 ((l0_2.length : Int) - 1))).bind fun t240 => (saronlaw09_HeardRead.j0 k a1 t235 t236 (!t240) a0_0 l0_1 l0_2 l2_0 l2_1 a2_2 a2_3)) else (saronlaw09_HeardRead.j0 k a1 t235 t236 true a0_0 l0_1 l0_2 l2_0 l2_1 a2_2 a2_3)) = some r := H
  have A16 := Aside0.mk A160
  clear A160
  by_cases c17 : t239 = true
  rotate_left
  ·replace c17 := Bool.eq_false_iff.mpr c17
   subst c17
   have H1 : (saronlaw09_HeardRead.j0 k a1 t235 t236 true a0_0 l0_1 l0_2 l2_0 l2_1 a2_2 a2_3) = some r := by rw [if_neg (show ¬ (false = true) by decide)] at H; exact H
   clear H
   have H := H1
   clear H1
   have H' := Aside0.mk H
   clear H
   have hnb23 := NB234_233.out
   have hnc23 := NB233_234.out
   have hcz24_0 := czz BK234.out 0
   have hcz24_1 := czz BK234.out 1
   have hcz24_2 := czz BK234.out 2
   have hcz24_3 := czz BK234.out 3
   have hfz24_0 := fz BK234.out 0
   have hfz24_1 := fz BK234.out 1
   have hfz24_2 := fz BK234.out 2
   have hfz24_3 := fz BK234.out 3
   go_wp2_with (first | ((with_reducible refine gate_callee (f := 41) rfl ?_); refine goesL_ (some 38) rfl rfl Tryd.func41 (by kernel_rfl) rfl #[.agg #[.slice A2_0 l2_0.length c2_0, .slice A2_1 l2_1.length c2_1, .int .i64 a2_2, .int .i64 a2_3]] rfl TM ?_; (with_reducible refine (saronlaw09_fair.calls k _ _ l2_0 _ _ l2_1 a2_2 a2_3 false _ ?side1 ?side2 ?side3 ?side4 A16.out).mono ?_); (case side1 => exact TC HR2_0.out); (case side2 => exact HC2_0.out); (case side3 => exact TC HR2_1.out); (case side4 => exact HC2_1.out); rintro e w25 ⟨rfl, hb⟩; refine ⟨_, rfl, ?_⟩; replace BK233 := Aside0.mk (blk_below (g := gb233) (o := .cells #[.int .i64 a0_0, .slice A0_1 l0_1.length c0_1, .slice A0_2 l0_2.length c0_2] 27 (0, 0)) (TK BK233.out) hb); replace BK234 := Aside0.mk (blk_below (g := gb234) (o := .cells #[.slice A2_0 l2_0.length c2_0, .slice A2_1 l2_1.length c2_1, .int .i64 a2_2, .int .i64 a2_3] 30 (0, 0)) (TK BK234.out) hb); replace HB := Aside0.mk (below_step (TB2 GE233.out GE234.out) hb); (try clear hb); (try clear hb2); (try clear hk); (try clear hi)))
   go_meet
   case rel => exact ⟨_, (true), TT, H', ⟨by first | omega | exact Nat.le_refl _⟩, ⟨by (with_reducible repeat (first | refine blk_drewN ?_ _ | refine blk_drew ?_ | refine blk_alloc ?_ _)); exact BK233.out⟩, ⟨by (with_reducible repeat (first | refine blk_drewN ?_ _ | refine blk_drew ?_ | refine blk_alloc ?_ _)); exact BK234.out⟩, ⟨TB2 GE233.out GE234.out⟩⟩
  subst c17
  have H1 : ((saronref00_Sits.f a1 0 (wrap64 ((l0_2.length : Int) - 1))).bind fun t240 => (saronlaw09_HeardRead.j0 k a1 t235 t236 (!t240) a0_0 l0_1 l0_2 l2_0 l2_1 a2_2 a2_3)) = some r := by rw [if_pos rfl] at H; exact H
  clear H
  have H := H1
  clear H1
  replace H := Option.bind_eq_some_iff.mp H
  obtain ⟨t240, A180, H⟩ := H
  replace H : (saronlaw09_HeardRead.j0 k a1 t235 t236 (!t240) a0_0 l0_1 l0_2 l2_0 l2_1 a2_2 a2_3) = some r := H
  have A18 := Aside0.mk A180
  clear A180
  have H' := Aside0.mk H
  clear H
  have hnb19 := NB234_233.out
  have hnc19 := NB233_234.out
  have hcz20_0 := czz BK234.out 0
  have hcz20_1 := czz BK234.out 1
  have hcz20_2 := czz BK234.out 2
  have hcz20_3 := czz BK234.out 3
  have hfz20_0 := fz BK234.out 0
  have hfz20_1 := fz BK234.out 1
  have hfz20_2 := fz BK234.out 2
  have hfz20_3 := fz BK234.out 3
  go_wp2_with (first | ((with_reducible refine gate_callee (f := 41) rfl ?_); refine goesL_ (some 38) rfl rfl Tryd.func41 (by kernel_rfl) rfl #[.agg #[.slice A2_0 l2_0.length c2_0, .slice A2_1 l2_1.length c2_1, .int .i64 a2_2, .int .i64 a2_3]] rfl TM ?_; (with_reducible refine (saronlaw09_fair.calls k _ _ l2_0 _ _ l2_1 a2_2 a2_3 true _ ?side1 ?side2 ?side3 ?side4 A16.out).mono ?_); (case side1 => exact TC HR2_0.out); (case side2 => exact HC2_0.out); (case side3 => exact TC HR2_1.out); (case side4 => exact HC2_1.out); rintro e w21 ⟨rfl, hb⟩; refine ⟨_, rfl, ?_⟩; replace BK233 := Aside0.mk (blk_below (g := gb233) (o := .cells #[.int .i64 a0_0, .slice A0_1 l0_1.length c0_1, .slice A0_2 l0_2.length c0_2] 27 (0, 0)) (TK BK233.out) hb); replace BK234 := Aside0.mk (blk_below (g := gb234) (o := .cells #[.slice A2_0 l2_0.length c2_0, .slice A2_1 l2_1.length c2_1, .int .i64 a2_2, .int .i64 a2_3] 30 (0, 0)) (TK BK234.out) hb); replace HB := Aside0.mk (below_step (TB2 GE233.out GE234.out) hb); (try clear hb); (try clear hb2); (try clear hk); (try clear hi); have hcz22_0 := czz BK233.out 0; have hcz22_1 := czz BK233.out 1; have hcz22_2 := czz BK233.out 2; have hfz22_0 := fz BK233.out 0; have hfz22_1 := fz BK233.out 1; have hfz22_2 := fz BK233.out 2) | (go_at_call 40; (with_reducible refine (saronref00_Sits.calls a1 0 (wrap64 ((l0_2.length : Int) - 1)) t240 _ A18.out).mono ?_); rintro e w' ⟨rfl, ⟨nd, rfl⟩⟩))
  go_meet
  case rel => exact ⟨_, (!t240), TT, H', ⟨by first | omega | exact Nat.le_refl _⟩, ⟨by (with_reducible repeat (first | refine blk_drewN ?_ _ | refine blk_drew ?_ | refine blk_alloc ?_ _)); exact BK233.out⟩, ⟨by (with_reducible repeat (first | refine blk_drewN ?_ _ | refine blk_drew ?_ | refine blk_alloc ?_ _)); exact BK234.out⟩, ⟨TB2 GE233.out GE234.out⟩⟩
 case rest => as_aux_lemma =>
  clear HC7
  try clear c1
  try clear c2
  try clear p2
  try clear c3
  try clear c4
  try clear c6
  try clear p6
  try clear c8
  try clear c10
  try clear c14
  try clear c17
  try clear c19
  try clear c23
  try clear hcz11_0 hcz11_1 hcz11_2
  try clear hcz12_0 hcz12_1 hcz12_2 hcz12_3
  try clear hcz14_0 hcz14_1 hcz14_2
  try clear hcz20_0 hcz20_1 hcz20_2 hcz20_3
  try clear hcz22_0 hcz22_1 hcz22_2
  try clear hcz24_0 hcz24_1 hcz24_2 hcz24_3
  try clear hfz11_0 hfz11_1 hfz11_2
  try clear hfz12_0 hfz12_1 hfz12_2 hfz12_3
  try clear hfz14_0 hfz14_1 hfz14_2
  try clear hfz20_0 hfz20_1 hfz20_2 hfz20_3
  try clear hfz22_0 hfz22_1 hfz22_2
  try clear hfz24_0 hfz24_1 hfz24_2 hfz24_3
  try clear BK233
  try clear BK234
  try clear HB
  obtain ⟨kq, x48_6, rfl, HA, HJ6, BK233, BK234, HB⟩ := hcut
  cases kq with
  | zero => exact absurd HA.out (by simp [saronlaw09_HeardRead.j0])
  | succ kj6 =>
   have H := HA.out
   clear HA
   simp only [saronlaw09_HeardRead.j0] at H
   by_cases c26 : x48_6 = true
   ·subst c26
    have H1 : (if t236 = 91 then (if t235 = true then (some false) else ((saronlaw09_listened.f).bind fun t241 => (some t241))) else (some false)) = some r := by rw [if_pos rfl] at H; exact H
    clear H
    have H := H1
    clear H1
    by_cases c27 : t236 = 91
    rotate_left
    ·rw [if_neg c27] at H
     have c27b0 : (t236 == 91) = false := beq_eq_false_iff_ne.mpr c27
     have c27b1 : (t236 != 91) = true := bne_iff_ne.mpr c27
     obtain rfl := Option.some.inj H
     go_wp2
     go_ret
     exact ⟨TR, TB2 GE233.out GE234.out⟩
    rw [if_pos c27] at H
    have c27b0 : (t236 == 91) = true := beq_iff_eq.mpr c27
    have c27b1 : (t236 != 91) = false := bne_eq_false_iff_eq.mpr c27
    clear c27
    by_cases c28 : t235 = true
    ·subst c28
     have H1 : (some false) = some r := by rw [if_pos rfl] at H; exact H
     clear H
     have H := H1
     clear H1
     obtain rfl := Option.some.inj H
     go_wp2
     go_ret
     exact ⟨TR, TB2 GE233.out GE234.out⟩
    replace c28 := Bool.eq_false_iff.mpr c28
    subst c28
    have H1 : ((saronlaw09_listened.f).bind fun t241 => (some t241)) = some r := by rw [if_neg (show ¬ (false = true) by decide)] at H; exact H
    clear H
    have H := H1
    clear H1
    replace H := Option.bind_eq_some_iff.mp H
    obtain ⟨t241, A290, H⟩ := H
    replace H : (some t241) = some r := H
    have A29 := Aside0.mk A290
    clear A290
    obtain rfl := Option.some.inj H
    go_wp2_with (first | (go_at_call 25; (with_reducible refine (saronlaw09_listened.calls  t241 _ ?side1 A29.out).mono ?_); (case side1 => exact Glob.fr HG.out (Fr.of_below (TB2 GE233.out GE234.out))); rintro e w30 ⟨rfl, hb⟩; replace BK233 := Aside0.mk (blk_below (g := gb233) (o := .cells #[.int .i64 a0_0, .slice A0_1 l0_1.length c0_1, .slice A0_2 l0_2.length c0_2] 27 (0, 0)) (TK BK233.out) hb); replace BK234 := Aside0.mk (blk_below (g := gb234) (o := .cells #[.slice A2_0 l2_0.length c2_0, .slice A2_1 l2_1.length c2_1, .int .i64 a2_2, .int .i64 a2_3] 30 (0, 0)) (TK BK234.out) hb); replace HB := Aside0.mk (below_step (TB2 GE233.out GE234.out) hb); (try clear hb); (try clear hb2); (try clear hk); (try clear hi)))
    go_ret
    exact ⟨TR, TB2 GE233.out GE234.out⟩
   replace c26 := Bool.eq_false_iff.mpr c26
   subst c26
   have H1 : ((heard_Begins.f a0_0 l0_1 l0_2 a1 l2_0 l2_1 a2_2 a2_3).bind fun bt242 => (if 0 ≤ a1 then (if a1 < (l0_2.length : Int) then (if t236 = 0 then (if bt242.2 = 0 then ((saronref00_Grows.f kj6 bt242.1 (((rd_T62 l0_2 a1).f1).length : Int)).bind fun t247 => (if t247 = true then (saronlaw09_HeardRead.j1 kj6 a1 t235 bt242.1 ((rd_T62 l0_2 a1).f1) (t235 != (decide ((bt242.1.length : Int) > 0))) a0_0 l0_1 l0_2 l2_0 l2_1 a2_2 a2_3) else (saronlaw09_HeardRead.j1 kj6 a1 t235 bt242.1 ((rd_T62 l0_2 a1).f1) true a0_0 l0_1 l0_2 l2_0 l2_1 a2_2 a2_3))) else (saronlaw09_HeardRead.j1 kj6 a1 t235 bt242.1 ((rd_T62 l0_2 a1).f1) true a0_0 l0_1 l0_2 l2_0 l2_1 a2_2 a2_3)) else (saronlaw09_HeardRead.j1 kj6 a1 t235 bt242.1 ((rd_T62 l0_2 a1).f1) true a0_0 l0_1 l0_2 l2_0 l2_1 a2_2 a2_3)) else (none)) else (none))) = some r := by rw [if_neg (show ¬ (false = true) by decide)] at H; exact H
   clear H
   have H := H1
   clear H1
   replace H := Option.bind_eq_some_iff.mp H
   obtain ⟨⟨t242, t245⟩, A310, H⟩ := H
   replace H : (if 0 ≤ a1 then (if a1 < (l0_2.length : Int) then (if t236 = 0 then (if t245 = 0 then ((saronref00_Grows.f kj6 t242 (((rd_T62 l0_2 a1).f1).length : Int)).bind fun t247 => (if t247 = true then (saronlaw09_HeardRead.j1 kj6 a1 t235 t242 ((rd_T62 l0_2 a1).f1) (t235 != (decide ((t242.length : Int) > 0))) a0_0 l0_1 l0_2 l2_0 l2_1 a2_2 a2_3) else (saronlaw09_HeardRead.j1 kj6 a1 t235 t242 ((rd_T62 l0_2 a1).f1) true a0_0 l0_1 l0_2 l2_0 l2_1 a2_2 a2_3))) else (saronlaw09_HeardRead.j1 kj6 a1 t235 t242 ((rd_T62 l0_2 a1).f1) true a0_0 l0_1 l0_2 l2_0 l2_1 a2_2 a2_3)) else (saronlaw09_HeardRead.j1 kj6 a1 t235 t242 ((rd_T62 l0_2 a1).f1) true a0_0 l0_1 l0_2 l2_0 l2_1 a2_2 a2_3)) else (none)) else (none)) = some r := H
   have A31 := Aside0.mk A310
   clear A310
   by_cases c32 : 0 ≤ a1
   rotate_left
   ·rw [if_neg c32] at H
    exact absurd H (by simp)
   rw [if_pos c32] at H
   have c32b0 : decide (0 ≤ a1) = true := decide_eq_true c32
   clear c32
   by_cases c33 : a1 < (l0_2.length : Int)
   rotate_left
   ·rw [if_neg c33] at H
    exact absurd H (by simp)
   rw [if_pos c33] at H
   have c33b0 : decide (a1 < (l0_2.length : Int)) = true := decide_eq_true c33
   clear c33
   have HC34 := Aside0.mk H
   clear H
   have hnb35 := NB233_234.out
   have hnc35 := NB234_233.out
   have hcz36_0 := czz BK233.out 0
   have hcz36_1 := czz BK233.out 1
   have hcz36_2 := czz BK233.out 2
   have hfz36_0 := fz BK233.out 0
   have hfz36_1 := fz BK233.out 1
   have hfz36_2 := fz BK233.out 2
   have hcz37_0 := czz BK234.out 0
   have hcz37_1 := czz BK234.out 1
   have hcz37_2 := czz BK234.out 2
   have hcz37_3 := czz BK234.out 3
   have hfz37_0 := fz BK234.out 0
   have hfz37_1 := fz BK234.out 1
   have hfz37_2 := fz BK234.out 2
   have hfz37_3 := fz BK234.out 3
   go_upto_region 8 with (first | ((with_reducible refine gate_callee (f := 21) rfl ?_); refine goesL_ (some 62) rfl rfl Tryd.func21 (by kernel_rfl) rfl #[.agg #[.int .i64 a0_0, .slice A0_1 l0_1.length c0_1, .slice A0_2 l0_2.length c0_2], .int .i64 a1, .agg #[.slice A2_0 l2_0.length c2_0, .slice A2_1 l2_1.length c2_1, .int .i64 a2_2, .int .i64 a2_3]] rfl TM ?_; (with_reducible refine (heard_Begins.calls a0_0 _ _ l0_1 _ _ l0_2 a1 _ _ l2_0 _ _ l2_1 a2_2 a2_3 t242 t245 _ ?side1 ?side2 ?side3 ?side4 ?side5 ?side6 ?side7 ?side8 ?side9 A31.out).mono ?_); (case side1 => exact TC HR0_1.out); (case side2 => exact HC0_1.out); (case side3 => exact TC HR0_2.out); (case side4 => exact HC0_2.out); (case side5 => exact TC HR2_0.out); (case side6 => exact HC2_0.out); (case side7 => exact TC HR2_1.out); (case side8 => exact HC2_1.out); (case side9 => exact Glob.fr HG.out (Fr.of_below (TB2 GE233.out GE234.out))); rintro e w38 ⟨v243, rfl, ho0, hb⟩; refine ⟨_, rfl, ?_⟩; have HO244 := Aside0.mk (Kd.V_lower (Kd.V_mono (ok' := fun k_ => k_ ≠ gb233 ∧ k_ ≠ gb234) ho0 (fun k_ hk_ => ⟨(Kd.freshB (g := gb233) (o := .cells #[.int .i64 a0_0, .slice A0_1 l0_1.length c0_1, .slice A0_2 l0_2.length c0_2] 27 (0, 0)) (TK BK233.out) k_ hk_), (Kd.freshB (g := gb234) (o := .cells #[.slice A2_0 l2_0.length c2_0, .slice A2_1 l2_1.length c2_1, .int .i64 a2_2, .int .i64 a2_3] 30 (0, 0)) (TK BK234.out) k_ hk_)⟩)) (below_size (TB2 GE233.out GE234.out))); replace BK233 := Aside0.mk (blk_below (g := gb233) (o := .cells #[.int .i64 a0_0, .slice A0_1 l0_1.length c0_1, .slice A0_2 l0_2.length c0_2] 27 (0, 0)) (TK BK233.out) hb); replace BK234 := Aside0.mk (blk_below (g := gb234) (o := .cells #[.slice A2_0 l2_0.length c2_0, .slice A2_1 l2_1.length c2_1, .int .i64 a2_2, .int .i64 a2_3] 30 (0, 0)) (TK BK234.out) hb); replace HB := Aside0.mk (below_step (TB2 GE233.out GE234.out) hb); (try clear hb); (try clear hb2); (try clear hk); (try clear hi); (try clear ho0); have hcz39_0 := czz BK233.out 0; have hcz39_1 := czz BK233.out 1; have hcz39_2 := czz BK233.out 2; have hfz39_0 := fz BK233.out 0; have hfz39_1 := fz BK233.out 1; have hfz39_2 := fz BK233.out 2; have p246 : 0 ≤ (a1 : Int) := of_decide_eq_true TA; have q246 : a1 < (l0_2.length : Int) := of_decide_eq_true TA; obtain ⟨ad246, A246_1, c246_1, e246, hx246_0, hx246_1, hl246_1, hi246_1⟩ := at_T62 HR0_2.out a1 p246 q246; cases e246; replace hx246_0 := (HB.out.cell  (World.block_lt_of_cell? w _ hx246_0)).trans hx246_0; replace hx246_1 := (HB.out.cell  (World.block_lt_of_cell? w _ hx246_1)).trans hx246_1; have HR246_1 := Aside0.mk hi246_1; have HC246_1 := Aside0.mk hl246_1; clear hi246_1 hl246_1; replace p246 := eq_true p246; replace q246 := eq_true q246))
   (try simp only [Act.put, lA, lZ, lS])
   go_cut [90] (fun v90 wc => ∃ (kq : Nat) (x90_33 : Bool), v90 = .bool x90_33 ∧ Aside0 (saronlaw09_HeardRead.j1 kq a1 t235 t242 ((rd_T62 l0_2 a1).f1) x90_33 a0_0 l0_1 l0_2 l2_0 l2_1 a2_2 a2_3 = some r) ∧ Aside0 (kq ≤ kj6) ∧ Aside0 (Kd.V (Kd.int .i64) 3 wc w.heap.size (fun k_ => k_ ≠ gb233 ∧ k_ ≠ gb234) v243 t242) ∧ Aside0 (wc.heap[gb233]? = some (.cells #[.int .i64 a0_0, (.slice A0_1 l0_1.length c0_1), (.slice (some ad246) l0_2.length c0_2)] 27 (0, 0))) ∧ Aside0 (wc.heap[gb234]? = some (.cells #[(.slice A2_0 l2_0.length c2_0), (.slice A2_1 l2_1.length c2_1), .int .i64 a2_2, .int .i64 a2_3] 30 (0, 0))) ∧ Aside0 (Below w.heap.size w wc))
   case first => as_aux_lemma =>
    have H := HC34.out
    clear HC34
    by_cases c40 : t236 = 0
    rotate_left
    ·rw [if_neg c40] at H
     have c40b0 : (t236 == 0) = false := beq_eq_false_iff_ne.mpr c40
     have c40b1 : (t236 != 0) = true := bne_iff_ne.mpr c40
     (first | rw [c40b0] | (simp only [i64_w, i32_w]; rw [c40b0]) | skip)
     have H' := Aside0.mk H
     clear H
     go_wp2
     go_meet
     case rel => exact ⟨_, (true), TT, H', ⟨by have := HJ6.out; first | omega | exact Nat.le_refl _⟩, ⟨by (with_reducible repeat (first | apply Kd.V_alloc | apply Kd.V_drewN | apply Kd.V_drew)); exact HO244.out⟩, ⟨by (with_reducible repeat (first | refine blk_drewN ?_ _ | refine blk_drew ?_ | refine blk_alloc ?_ _)); exact BK233.out⟩, ⟨by (with_reducible repeat (first | refine blk_drewN ?_ _ | refine blk_drew ?_ | refine blk_alloc ?_ _)); exact BK234.out⟩, ⟨TB2 GE233.out GE234.out⟩⟩
    rw [if_pos c40] at H
    have c40b0 : (t236 == 0) = true := beq_iff_eq.mpr c40
    have c40b1 : (t236 != 0) = false := bne_eq_false_iff_eq.mpr c40
    clear c40
    (first | rw [c40b0] | (simp only [i64_w, i32_w]; rw [c40b0]) | skip)
    by_cases c41 : t245 = 0
    rotate_left
    ·rw [if_neg c41] at H
     have c41b0 : (t245 == 0) = false := beq_eq_false_iff_ne.mpr c41
     have c41b1 : (t245 != 0) = true := bne_iff_ne.mpr c41
     have H' := Aside0.mk H
     clear H
     go_wp2
     go_meet
     case rel => exact ⟨_, (true), TT, H', ⟨by have := HJ6.out; first | omega | exact Nat.le_refl _⟩, ⟨by (with_reducible repeat (first | apply Kd.V_alloc | apply Kd.V_drewN | apply Kd.V_drew)); exact HO244.out⟩, ⟨by (with_reducible repeat (first | refine blk_drewN ?_ _ | refine blk_drew ?_ | refine blk_alloc ?_ _)); exact BK233.out⟩, ⟨by (with_reducible repeat (first | refine blk_drewN ?_ _ | refine blk_drew ?_ | refine blk_alloc ?_ _)); exact BK234.out⟩, ⟨TB2 GE233.out GE234.out⟩⟩
    rw [if_pos c41] at H
    have c41b0 : (t245 == 0) = true := beq_iff_eq.mpr c41
    have c41b1 : (t245 != 0) = false := bne_eq_false_iff_eq.mpr c41
    clear c41
    replace H := Option.bind_eq_some_iff.mp H
    obtain ⟨t247, A420, H⟩ := H
    replace H : (if t247 = true then (saronlaw09_HeardRead.j1 kj6 a1 t235 t242 ((rd_T62 l0_2 a1).f1) (t235 != (decide ((t242.length : Int) > 0))) a0_0 l0_1 l0_2 l2_0 l2_1 a2_2 a2_3) else (saronlaw09_HeardRead.j1 kj6 a1 t235 t242 ((rd_T62 l0_2 a1).f1) true a0_0 l0_1 l0_2 l2_0 l2_1 a2_2 a2_3)) = some r := H
    have A42 := Aside0.mk A420
    clear A420
    by_cases c43 : t247 = true
    ·subst c43
     have H1 : (saronlaw09_HeardRead.j1 kj6 a1 t235 t242 ((rd_T62 l0_2 a1).f1) (t235 != (decide ((t242.length : Int) > 0))) a0_0 l0_1 l0_2 l2_0 l2_1 a2_2 a2_3) = some r := by rw [if_pos rfl] at H; exact H
     clear H
     have H := H1
     clear H1
     have H' := Aside0.mk H
     clear H
     obtain ⟨Ao44, co44, eo44⟩ := Kd.V_slice HO244.out
     subst eo44
     go_wp2_with (first | (go_at_call 42; (with_reducible refine (saronref00_Grows.calls kj6 _ _ t242 (((rd_T62 l0_2 a1).f1).length : Int) true _ ?side1 ?side2 A42.out).mono ?_); (case side1 => repeat (first | exact (Kd.V_reads' HO244.out).2.2 | (with_reducible refine Kd.C_alloc ?_ _) | (with_reducible refine Kd.C_drewN ?_ _) | (with_reducible refine Kd.C_drew ?_))); (case side2 => exact (Kd.V_reads' HO244.out).2.1); rintro e w' ⟨rfl, ⟨nd, rfl⟩⟩))
     go_meet
     case rel => exact ⟨_, ((t235 != (decide ((t242.length : Int) > 0)))), (TT (by first | rfl | (simp; done) | (simp; cases t235 <;> simp; done))), H', ⟨by have := HJ6.out; first | omega | exact Nat.le_refl _⟩, ⟨by (with_reducible repeat (first | apply Kd.V_alloc | apply Kd.V_drewN | apply Kd.V_drew)); exact HO244.out⟩, ⟨by (with_reducible repeat (first | refine blk_drewN ?_ _ | refine blk_drew ?_ | refine blk_alloc ?_ _)); exact BK233.out⟩, ⟨by (with_reducible repeat (first | refine blk_drewN ?_ _ | refine blk_drew ?_ | refine blk_alloc ?_ _)); exact BK234.out⟩, ⟨TB2 GE233.out GE234.out⟩⟩
    replace c43 := Bool.eq_false_iff.mpr c43
    subst c43
    have H1 : (saronlaw09_HeardRead.j1 kj6 a1 t235 t242 ((rd_T62 l0_2 a1).f1) true a0_0 l0_1 l0_2 l2_0 l2_1 a2_2 a2_3) = some r := by rw [if_neg (show ¬ (false = true) by decide)] at H; exact H
    clear H
    have H := H1
    clear H1
    have H' := Aside0.mk H
    clear H
    obtain ⟨Ao45, co45, eo45⟩ := Kd.V_slice HO244.out
    subst eo45
    go_wp2_with (first | (go_at_call 42; (with_reducible refine (saronref00_Grows.calls kj6 _ _ t242 (((rd_T62 l0_2 a1).f1).length : Int) false _ ?side1 ?side2 A42.out).mono ?_); (case side1 => repeat (first | exact (Kd.V_reads' HO244.out).2.2 | (with_reducible refine Kd.C_alloc ?_ _) | (with_reducible refine Kd.C_drewN ?_ _) | (with_reducible refine Kd.C_drew ?_))); (case side2 => exact (Kd.V_reads' HO244.out).2.1); rintro e w' ⟨rfl, ⟨nd, rfl⟩⟩))
    go_meet
    case rel => exact ⟨_, (true), TT, H', ⟨by have := HJ6.out; first | omega | exact Nat.le_refl _⟩, ⟨by (with_reducible repeat (first | apply Kd.V_alloc | apply Kd.V_drewN | apply Kd.V_drew)); exact HO244.out⟩, ⟨by (with_reducible repeat (first | refine blk_drewN ?_ _ | refine blk_drew ?_ | refine blk_alloc ?_ _)); exact BK233.out⟩, ⟨by (with_reducible repeat (first | refine blk_drewN ?_ _ | refine blk_drew ?_ | refine blk_alloc ?_ _)); exact BK234.out⟩, ⟨TB2 GE233.out GE234.out⟩⟩
   case rest => as_aux_lemma =>
    clear HC34
    try clear c1
    try clear c2
    try clear p2
    try clear q2
    try clear hx2
    try clear c3
    try clear c4
    try clear c6
    try clear p6
    try clear c8
    try clear c10
    try clear c14
    try clear c17
    try clear c19
    try clear c21
    try clear c23
    try clear c24
    try clear p24
    try clear q24
    try clear hx24
    try clear c26
    try clear c27
    try clear c27b0
    try clear c27b1
    try clear c28
    try clear c32
    try clear c32b0
    try clear c33
    try clear c33b0
    try clear c35
    try clear c36
    try clear c40
    try clear c40b0
    try clear c40b1
    try clear c41
    try clear c41b0
    try clear c41b1
    try clear c43
    try clear hcz11_0 hcz11_1 hcz11_2
    try clear hcz12_0 hcz12_1 hcz12_2 hcz12_3
    try clear hcz14_0 hcz14_1 hcz14_2
    try clear hcz20_0 hcz20_1 hcz20_2 hcz20_3
    try clear hcz22_0 hcz22_1 hcz22_2
    try clear hcz24_0 hcz24_1 hcz24_2 hcz24_3
    try clear hcz36_0 hcz36_1 hcz36_2
    try clear hcz37_0 hcz37_1 hcz37_2 hcz37_3
    try clear hcz39_0 hcz39_1 hcz39_2
    try clear hfz11_0 hfz11_1 hfz11_2
    try clear hfz12_0 hfz12_1 hfz12_2 hfz12_3
    try clear hfz14_0 hfz14_1 hfz14_2
    try clear hfz20_0 hfz20_1 hfz20_2 hfz20_3
    try clear hfz22_0 hfz22_1 hfz22_2
    try clear hfz24_0 hfz24_1 hfz24_2 hfz24_3
    try clear hfz36_0 hfz36_1 hfz36_2
    try clear hfz37_0 hfz37_1 hfz37_2 hfz37_3
    try clear hfz39_0 hfz39_1 hfz39_2
    try clear hx246_0
    try clear hx246_1
    try clear p2
    try clear p246
    try clear p6
    try clear q246
    try clear HO_9
    try clear BK233
    try clear BK234
    try clear HB
    obtain ⟨kq, x90_33, rfl, HA, HJ33, HO_9, BK233, BK234, HB⟩ := hcut
    cases kq with
    | zero => exact absurd HA.out (by simp [saronlaw09_HeardRead.j1])
    | succ kj33 =>
     have H := HA.out
     clear HA
     simp only [saronlaw09_HeardRead.j1] at H
     by_cases c46 : x90_33 = true
     ·subst c46
      have H1 : (some false) = some r := by rw [if_pos rfl] at H; exact H
      clear H
      have H := H1
      clear H1
      obtain rfl := Option.some.inj H
      go_wp2
      go_ret
      exact ⟨TR, TB2 GE233.out GE234.out⟩
     replace c46 := Bool.eq_false_iff.mpr c46
     subst c46
     have H1 : (saronlaw09_HeardRead.l0 kj33 a1 t235 t242 ((rd_T62 l0_2 a1).f1) 0 a0_0 l0_1 l0_2 l2_0 l2_1 a2_2 a2_3) = some r := by rw [if_neg (show ¬ (false = true) by decide)] at H; exact H
     clear H
     have H := H1
     clear H1
     have H' := Aside0.mk H
     clear H
     go_wp2
     go_loopg [12] kj33 (fun kq v12 w' => ∃ (x12_3 : Int), v12 = .int .i64 x12_3 ∧ Aside0 (saronlaw09_HeardRead.l0 kq a1 t235 t242 ((rd_T62 l0_2 a1).f1) x12_3 a0_0 l0_1 l0_2 l2_0 l2_1 a2_2 a2_3 = some r) ∧ Aside0 (kq ≤ kj33) ∧ Aside0 (Kd.V (Kd.int .i64) 3 w' w.heap.size (fun k_ => k_ ≠ gb233 ∧ k_ ≠ gb234) v243 t242) ∧ Aside0 (w'.heap[gb233]? = some (.cells #[.int .i64 a0_0, (.slice A0_1 l0_1.length c0_1), (.slice (some ad246) l0_2.length c0_2)] 27 (0, 0))) ∧ Aside0 (w'.heap[gb234]? = some (.cells #[(.slice A2_0 l2_0.length c2_0), (.slice A2_1 l2_1.length c2_1), .int .i64 a2_2, .int .i64 a2_3] 30 (0, 0))) ∧ Aside0 (Below w.heap.size w w'))
     case atStart => exact ⟨(0), TT, H', ⟨Nat.le_refl _⟩, ⟨by (with_reducible repeat (first | apply Kd.V_alloc | apply Kd.V_drewN | apply Kd.V_drew)); exact HO_9.out⟩, ⟨by (with_reducible repeat (first | refine blk_drewN ?_ _ | refine blk_drew ?_ | refine blk_alloc ?_ _)); exact BK233.out⟩, ⟨by (with_reducible repeat (first | refine blk_drewN ?_ _ | refine blk_drew ?_ | refine blk_alloc ?_ _)); exact BK234.out⟩, ⟨TB2 GE233.out GE234.out⟩⟩
     case round => as_aux_lemma =>
      clear H'
      try clear c1
      try clear c2
      try clear p2
      try clear q2
      try clear hx2
      try clear c3
      try clear c4
      try clear c6
      try clear p6
      try clear c8
      try clear c10
      try clear c14
      try clear c17
      try clear c19
      try clear c21
      try clear c23
      try clear c24
      try clear p24
      try clear q24
      try clear hx24
      try clear c26
      try clear c27
      try clear c27b0
      try clear c27b1
      try clear c28
      try clear c32
      try clear c32b0
      try clear c33
      try clear c33b0
      try clear c35
      try clear c36
      try clear c40
      try clear c40b0
      try clear c40b1
      try clear c41
      try clear c41b0
      try clear c41b1
      try clear c43
      try clear c46
      try clear hcz11_0 hcz11_1 hcz11_2
      try clear hcz12_0 hcz12_1 hcz12_2 hcz12_3
      try clear hcz14_0 hcz14_1 hcz14_2
      try clear hcz20_0 hcz20_1 hcz20_2 hcz20_3
      try clear hcz22_0 hcz22_1 hcz22_2
      try clear hcz24_0 hcz24_1 hcz24_2 hcz24_3
      try clear hcz36_0 hcz36_1 hcz36_2
      try clear hcz37_0 hcz37_1 hcz37_2 hcz37_3
      try clear hcz39_0 hcz39_1 hcz39_2
      try clear hfz11_0 hfz11_1 hfz11_2
      try clear hfz12_0 hfz12_1 hfz12_2 hfz12_3
      try clear hfz14_0 hfz14_1 hfz14_2
      try clear hfz20_0 hfz20_1 hfz20_2 hfz20_3
      try clear hfz22_0 hfz22_1 hfz22_2
      try clear hfz24_0 hfz24_1 hfz24_2 hfz24_3
      try clear hfz36_0 hfz36_1 hfz36_2
      try clear hfz37_0 hfz37_1 hfz37_2 hfz37_3
      try clear hfz39_0 hfz39_1 hfz39_2
      try clear hx246_0
      try clear hx246_1
      try clear p2
      try clear p24
      try clear p246
      try clear p6
      try clear q2
      try clear q24
      try clear q246
      obtain ⟨x12_3, rfl, HA, HK3, HO_9, BK233, BK234, HB⟩ := hrel
      cases gk with
      | zero => exact absurd HA.out (by simp [saronlaw09_HeardRead.l0])
      | succ k3 =>
       have H := HA.out
       clear HA
       simp only [saronlaw09_HeardRead.l0] at H
       by_cases c47 : x12_3 < (l2_0.length : Int)
       rotate_left
       ·rw [if_neg c47] at H
        have c47b0 : decide (x12_3 < (l2_0.length : Int)) = false := decide_eq_false c47
        clear c47
        replace H := Option.bind_eq_some_iff.mp H
        obtain ⟨t248, A1420, H⟩ := H
        replace H : (some t248) = some r := H
        have A142 := Aside0.mk A1420
        clear A1420
        obtain rfl := Option.some.inj H
        have hnb143 := NB234_233.out
        have hnc143 := NB233_234.out
        have hcz144_0 := czz BK234.out 0
        have hcz144_1 := czz BK234.out 1
        have hcz144_2 := czz BK234.out 2
        have hcz144_3 := czz BK234.out 3
        have hfz144_0 := fz BK234.out 0
        have hfz144_1 := fz BK234.out 1
        have hfz144_2 := fz BK234.out 2
        have hfz144_3 := fz BK234.out 3
        go_wp2_with (first | ((with_reducible refine gate_callee (f := 25) rfl ?_); refine goesL_ (some 218) rfl rfl Tryd.func25 (by kernel_rfl) rfl #[] rfl TM ?_; (with_reducible refine (saronlaw09_listened.calls  t248 _ ?side1 A142.out).mono ?_); (case side1 => exact Glob.fr HG.out (Fr.of_below (TB2 GE233.out GE234.out))); rintro e w145 ⟨rfl, hb⟩; refine ⟨_, rfl, ?_⟩; replace HO_9 := Aside0.mk (Kd.V_below (by (with_reducible repeat (first | apply Kd.V_alloc | apply Kd.V_drewN | apply Kd.V_drew)); exact HO_9.out) hb); replace BK233 := Aside0.mk (blk_below (g := gb233) (o := .cells #[.int .i64 a0_0, .slice A0_1 l0_1.length c0_1, .slice (some ad246) l0_2.length c0_2] 27 (0, 0)) (TK BK233.out) hb); replace BK234 := Aside0.mk (blk_below (g := gb234) (o := .cells #[.slice A2_0 l2_0.length c2_0, .slice A2_1 l2_1.length c2_1, .int .i64 a2_2, .int .i64 a2_3] 30 (0, 0)) (TK BK234.out) hb); replace HB := Aside0.mk (below_step (TB2 GE233.out GE234.out) hb); (try clear hb); (try clear hb2); (try clear hk); (try clear hi)))
        go_ret
        exact ⟨TR, TB2 GE233.out GE234.out⟩
       rw [if_pos c47] at H
       have c47b0 : decide (x12_3 < (l2_0.length : Int)) = true := decide_eq_true c47
       clear c47
       replace H := Option.bind_eq_some_iff.mp H
       obtain ⟨⟨t249, t252⟩, A480, H⟩ := H
       replace H : (if t252 = 0 then ((saronref00_Grows.f k3 t249 (((rd_T62 l0_2 a1).f1).length : Int)).bind fun t253 => (if t253 = true then (if (t235 != (decide ((t249.length : Int) > 0))) = true then (saronlaw09_HeardRead.j3 k3 a1 t235 t242 ((rd_T62 l0_2 a1).f1) x12_3 t249 true a0_0 l0_1 l0_2 l2_0 l2_1 a2_2 a2_3) else (if x12_3 = 0 then ((saronref00_Equal.f k3 t249 t242).bind fun t254 => (saronlaw09_HeardRead.j3 k3 a1 t235 t242 ((rd_T62 l0_2 a1).f1) x12_3 t249 (!t254) a0_0 l0_1 l0_2 l2_0 l2_1 a2_2 a2_3)) else (saronlaw09_HeardRead.j3 k3 a1 t235 t242 ((rd_T62 l0_2 a1).f1) x12_3 t249 false a0_0 l0_1 l0_2 l2_0 l2_1 a2_2 a2_3))) else (saronlaw09_HeardRead.j3 k3 a1 t235 t242 ((rd_T62 l0_2 a1).f1) x12_3 t249 true a0_0 l0_1 l0_2 l2_0 l2_1 a2_2 a2_3))) else (saronlaw09_HeardRead.j3 k3 a1 t235 t242 ((rd_T62 l0_2 a1).f1) x12_3 t249 true a0_0 l0_1 l0_2 l2_0 l2_1 a2_2 a2_3)) = some r := H
       have A48 := Aside0.mk A480
       clear A480
       have HC49 := Aside0.mk H
       clear H
       have hnb50 := NB234_233.out
       have hnc50 := NB233_234.out
       have hcz51_0 := czz BK234.out 0
       have hcz51_1 := czz BK234.out 1
       have hcz51_2 := czz BK234.out 2
       have hcz51_3 := czz BK234.out 3
       have hfz51_0 := fz BK234.out 0
       have hfz51_1 := fz BK234.out 1
       have hfz51_2 := fz BK234.out 2
       have hfz51_3 := fz BK234.out 3
       have hcz52_0 := czz BK233.out 0
       have hcz52_1 := czz BK233.out 1
       have hcz52_2 := czz BK233.out 2
       have hfz52_0 := fz BK233.out 0
       have hfz52_1 := fz BK233.out 1
       have hfz52_2 := fz BK233.out 2
       go_upto_region 14 with (first | ((with_reducible refine gate_callee (f := 26) rfl ?_); refine goesL_ (some 103) rfl rfl Tryd.func26 (by kernel_rfl) rfl #[.agg #[.int .i64 a0_0, .slice A0_1 l0_1.length c0_1, .slice (some ad246) l0_2.length c0_2], .int .i64 a1, .agg #[.slice A2_0 l2_0.length c2_0, .slice A2_1 l2_1.length c2_1, .int .i64 a2_2, .int .i64 a2_3], .int .i64 x12_3] rfl TM ?_; (with_reducible refine (heard_Strokes.calls a0_0 _ _ l0_1 _ _ l0_2 a1 _ _ l2_0 _ _ l2_1 a2_2 a2_3 x12_3 t249 t252 _ ?side1 ?side2 ?side3 ?side4 ?side5 ?side6 ?side7 ?side8 ?side9 A48.out).mono ?_); (case side1 => exact TC HR0_1.out); (case side2 => exact HC0_1.out); (case side3 => exact TC HR0_2.out); (case side4 => exact HC0_2.out); (case side5 => exact TC HR2_0.out); (case side6 => exact HC2_0.out); (case side7 => exact TC HR2_1.out); (case side8 => exact HC2_1.out); (case side9 => exact Glob.fr HG.out (Fr.of_below (TB2 GE233.out GE234.out))); rintro e w53 ⟨v250, rfl, ho0, hb⟩; refine ⟨_, rfl, ?_⟩; have HO251 := Aside0.mk (Kd.V_lower (Kd.V_mono (ok' := fun k_ => k_ ≠ gb233 ∧ k_ ≠ gb234) ho0 (fun k_ hk_ => ⟨(Kd.freshB (g := gb233) (o := .cells #[.int .i64 a0_0, .slice A0_1 l0_1.length c0_1, .slice (some ad246) l0_2.length c0_2] 27 (0, 0)) (TK BK233.out) k_ hk_), (Kd.freshB (g := gb234) (o := .cells #[.slice A2_0 l2_0.length c2_0, .slice A2_1 l2_1.length c2_1, .int .i64 a2_2, .int .i64 a2_3] 30 (0, 0)) (TK BK234.out) k_ hk_)⟩)) (below_size (TB2 GE233.out GE234.out))); replace HO_9 := Aside0.mk (Kd.V_below (by (with_reducible repeat (first | apply Kd.V_alloc | apply Kd.V_drewN | apply Kd.V_drew)); exact HO_9.out) hb); replace BK233 := Aside0.mk (blk_below (g := gb233) (o := .cells #[.int .i64 a0_0, .slice A0_1 l0_1.length c0_1, .slice (some ad246) l0_2.length c0_2] 27 (0, 0)) (TK BK233.out) hb); replace BK234 := Aside0.mk (blk_below (g := gb234) (o := .cells #[.slice A2_0 l2_0.length c2_0, .slice A2_1 l2_1.length c2_1, .int .i64 a2_2, .int .i64 a2_3] 30 (0, 0)) (TK BK234.out) hb); replace HB := Aside0.mk (below_step (TB2 GE233.out GE234.out) hb); (try clear hb); (try clear hb2); (try clear hk); (try clear hi); (try clear ho0)))
       (try simp only [Act.put, lA, lZ, lS])
       go_cut [131] (fun v131 wc => ∃ (kq : Nat) (x131_48 : Bool), v131 = .bool x131_48 ∧ Aside0 (saronlaw09_HeardRead.j3 kq a1 t235 t242 ((rd_T62 l0_2 a1).f1) x12_3 t249 x131_48 a0_0 l0_1 l0_2 l2_0 l2_1 a2_2 a2_3 = some r) ∧ Aside0 (kq ≤ k3) ∧ Aside0 (Kd.V (Kd.int .i64) 3 wc w.heap.size (fun k_ => k_ ≠ gb233 ∧ k_ ≠ gb234) v243 t242) ∧ Aside0 (Kd.V (Kd.int .i64) 3 wc w.heap.size (fun k_ => k_ ≠ gb233 ∧ k_ ≠ gb234) v250 t249) ∧ Aside0 (wc.heap[gb233]? = some (.cells #[.int .i64 a0_0, (.slice A0_1 l0_1.length c0_1), (.slice (some ad246) l0_2.length c0_2)] 27 (0, 0))) ∧ Aside0 (wc.heap[gb234]? = some (.cells #[(.slice A2_0 l2_0.length c2_0), (.slice A2_1 l2_1.length c2_1), .int .i64 a2_2, .int .i64 a2_3] 30 (0, 0))) ∧ Aside0 (Below w.heap.size w wc))
       case first => as_aux_lemma =>
        have H := HC49.out
        clear HC49
        by_cases c54 : t252 = 0
        rotate_left
        ·rw [if_neg c54] at H
         have c54b0 : (t252 == 0) = false := beq_eq_false_iff_ne.mpr c54
         have c54b1 : (t252 != 0) = true := bne_iff_ne.mpr c54
         (first | rw [c54b0] | (simp only [i64_w, i32_w]; rw [c54b0]) | skip)
         have H' := Aside0.mk H
         clear H
         go_wp2
         go_meet
         case rel => exact ⟨_, (true), TT, H', ⟨by have := HJ6.out; have := HJ33.out; have := HK3.out; first | omega | exact Nat.le_refl _⟩, ⟨by (with_reducible repeat (first | apply Kd.V_alloc | apply Kd.V_drewN | apply Kd.V_drew)); exact HO_9.out⟩, ⟨by (with_reducible repeat (first | apply Kd.V_alloc | apply Kd.V_drewN | apply Kd.V_drew)); exact HO251.out⟩, ⟨by (with_reducible repeat (first | refine blk_drewN ?_ _ | refine blk_drew ?_ | refine blk_alloc ?_ _)); exact BK233.out⟩, ⟨by (with_reducible repeat (first | refine blk_drewN ?_ _ | refine blk_drew ?_ | refine blk_alloc ?_ _)); exact BK234.out⟩, ⟨TB2 GE233.out GE234.out⟩⟩
        rw [if_pos c54] at H
        have c54b0 : (t252 == 0) = true := beq_iff_eq.mpr c54
        have c54b1 : (t252 != 0) = false := bne_eq_false_iff_eq.mpr c54
        clear c54
        (first | rw [c54b0] | (simp only [i64_w, i32_w]; rw [c54b0]) | skip)
        replace H := Option.bind_eq_some_iff.mp H
        obtain ⟨t253, A550, H⟩ := H
        replace H : (if t253 = true then (if (t235 != (decide ((t249.length : Int) > 0))) = true then (saronlaw09_HeardRead.j3 k3 a1 t235 t242 ((rd_T62 l0_2 a1).f1) x12_3 t249 true a0_0 l0_1 l0_2 l2_0 l2_1 a2_2 a2_3) else (if x12_3 = 0 then ((saronref00_Equal.f k3 t249 t242).bind fun t254 => (saronlaw09_HeardRead.j3 k3 a1 t235 t242 ((rd_T62 l0_2 a1).f1) x12_3 t249 (!t254) a0_0 l0_1 l0_2 l2_0 l2_1 a2_2 a2_3)) else (saronlaw09_HeardRead.j3 k3 a1 t235 t242 ((rd_T62 l0_2 a1).f1) x12_3 t249 false a0_0 l0_1 l0_2 l2_0 l2_1 a2_2 a2_3))) else (saronlaw09_HeardRead.j3 k3 a1 t235 t242 ((rd_T62 l0_2 a1).f1) x12_3 t249 true a0_0 l0_1 l0_2 l2_0 l2_1 a2_2 a2_3)) = some r := H
        have A55 := Aside0.mk A550
        clear A550
        by_cases c56 : t253 = true
        rotate_left
        ·replace c56 := Bool.eq_false_iff.mpr c56
         subst c56
         have H1 : (saronlaw09_HeardRead.j3 k3 a1 t235 t242 ((rd_T62 l0_2 a1).f1) x12_3 t249 true a0_0 l0_1 l0_2 l2_0 l2_1 a2_2 a2_3) = some r := by rw [if_neg (show ¬ (false = true) by decide)] at H; exact H
         clear H
         have H := H1
         clear H1
         have H' := Aside0.mk H
         clear H
         obtain ⟨Ao64, co64, eo64⟩ := Kd.V_slice HO251.out
         subst eo64
         go_wp2_with (first | (go_at_call 42; (with_reducible refine (saronref00_Grows.calls k3 _ _ t249 (((rd_T62 l0_2 a1).f1).length : Int) false _ ?side1 ?side2 A55.out).mono ?_); (case side1 => repeat (first | exact (Kd.V_reads' HO251.out).2.2 | (with_reducible refine Kd.C_alloc ?_ _) | (with_reducible refine Kd.C_drewN ?_ _) | (with_reducible refine Kd.C_drew ?_))); (case side2 => exact (Kd.V_reads' HO251.out).2.1); rintro e w' ⟨rfl, ⟨nd, rfl⟩⟩))
         go_meet
         case rel => exact ⟨_, (true), TT, H', ⟨by have := HJ6.out; have := HJ33.out; have := HK3.out; first | omega | exact Nat.le_refl _⟩, ⟨by (with_reducible repeat (first | apply Kd.V_alloc | apply Kd.V_drewN | apply Kd.V_drew)); exact HO_9.out⟩, ⟨by (with_reducible repeat (first | apply Kd.V_alloc | apply Kd.V_drewN | apply Kd.V_drew)); exact HO251.out⟩, ⟨by (with_reducible repeat (first | refine blk_drewN ?_ _ | refine blk_drew ?_ | refine blk_alloc ?_ _)); exact BK233.out⟩, ⟨by (with_reducible repeat (first | refine blk_drewN ?_ _ | refine blk_drew ?_ | refine blk_alloc ?_ _)); exact BK234.out⟩, ⟨TB2 GE233.out GE234.out⟩⟩
        subst c56
        have H1 : (if (t235 != (decide ((t249.length : Int) > 0))) = true then (saronlaw09_HeardRead.j3 k3 a1 t235 t242 ((rd_T62 l0_2 a1).f1) x12_3 t249 true a0_0 l0_1 l0_2 l2_0 l2_1 a2_2 a2_3) else (if x12_3 = 0 then ((saronref00_Equal.f k3 t249 t242).bind fun t254 => (saronlaw09_HeardRead.j3 k3 a1 t235 t242 ((rd_T62 l0_2 a1).f1) x12_3 t249 (!t254) a0_0 l0_1 l0_2 l2_0 l2_1 a2_2 a2_3)) else (saronlaw09_HeardRead.j3 k3 a1 t235 t242 ((rd_T62 l0_2 a1).f1) x12_3 t249 false a0_0 l0_1 l0_2 l2_0 l2_1 a2_2 a2_3))) = some r := by rw [if_pos rfl] at H; exact H
        clear H
        have H := H1
        clear H1
        by_cases c57 : (t235 != (decide ((t249.length : Int) > 0))) = true
        ·rw [if_pos c57] at H
         have c57b0 : (t235 != (decide ((t249.length : Int) > 0))) = true := c57
         have c57b4 : (t235 != decide (0 < t249.length)) = true := by simpa using c57b0
         have c57b5 : (t235 == decide (0 < t249.length)) = false := by simpa using c57b0
         (try (have c57b1 : decide (t235 = (decide ((t249.length : Int) > 0))) = false := by simpa using c57))
         (try (have c57b2 : (t235 == (decide ((t249.length : Int) > 0))) = false := by simpa using c57))
         (try (have c57b3 : ¬ (t235 = (decide ((t249.length : Int) > 0))) := by simpa using c57))
         clear c57
         have H' := Aside0.mk H
         clear H
         obtain ⟨Ao58, co58, eo58⟩ := Kd.V_slice HO251.out
         subst eo58
         go_wp2_with (first | (go_at_call 42; (with_reducible refine (saronref00_Grows.calls k3 _ _ t249 (((rd_T62 l0_2 a1).f1).length : Int) true _ ?side1 ?side2 A55.out).mono ?_); (case side1 => repeat (first | exact (Kd.V_reads' HO251.out).2.2 | (with_reducible refine Kd.C_alloc ?_ _) | (with_reducible refine Kd.C_drewN ?_ _) | (with_reducible refine Kd.C_drew ?_))); (case side2 => exact (Kd.V_reads' HO251.out).2.1); rintro e w' ⟨rfl, ⟨nd, rfl⟩⟩))
         go_meet
         case rel => exact ⟨_, (true), TT, H', ⟨by have := HJ6.out; have := HJ33.out; have := HK3.out; first | omega | exact Nat.le_refl _⟩, ⟨by (with_reducible repeat (first | apply Kd.V_alloc | apply Kd.V_drewN | apply Kd.V_drew)); exact HO_9.out⟩, ⟨by (with_reducible repeat (first | apply Kd.V_alloc | apply Kd.V_drewN | apply Kd.V_drew)); exact HO251.out⟩, ⟨by (with_reducible repeat (first | refine blk_drewN ?_ _ | refine blk_drew ?_ | refine blk_alloc ?_ _)); exact BK233.out⟩, ⟨by (with_reducible repeat (first | refine blk_drewN ?_ _ | refine blk_drew ?_ | refine blk_alloc ?_ _)); exact BK234.out⟩, ⟨TB2 GE233.out GE234.out⟩⟩
        rw [if_neg c57] at H
        have c57b0 : (t235 != (decide ((t249.length : Int) > 0))) = false := by simpa using c57
        have c57b4 : decide (0 < t249.length) = t235 := by (have h_ := c57b0; simp only [gt_iff_lt, bne_eq_false_iff_eq] at h_; rw [h_]; simp)
        clear c57b0
        clear c57
        by_cases c59 : x12_3 = 0
        rotate_left
        ·rw [if_neg c59] at H
         have c59b0 : (x12_3 == 0) = false := beq_eq_false_iff_ne.mpr c59
         have c59b1 : (x12_3 != 0) = true := bne_iff_ne.mpr c59
         have H' := Aside0.mk H
         clear H
         obtain ⟨Ao63, co63, eo63⟩ := Kd.V_slice HO251.out
         subst eo63
         go_wp2_with (first | (go_at_call 42; (with_reducible refine (saronref00_Grows.calls k3 _ _ t249 (((rd_T62 l0_2 a1).f1).length : Int) true _ ?side1 ?side2 A55.out).mono ?_); (case side1 => repeat (first | exact (Kd.V_reads' HO251.out).2.2 | (with_reducible refine Kd.C_alloc ?_ _) | (with_reducible refine Kd.C_drewN ?_ _) | (with_reducible refine Kd.C_drew ?_))); (case side2 => exact (Kd.V_reads' HO251.out).2.1); rintro e w' ⟨rfl, ⟨nd, rfl⟩⟩))
         go_meet
         case rel => exact ⟨_, (false), TT, H', ⟨by have := HJ6.out; have := HJ33.out; have := HK3.out; first | omega | exact Nat.le_refl _⟩, ⟨by (with_reducible repeat (first | apply Kd.V_alloc | apply Kd.V_drewN | apply Kd.V_drew)); exact HO_9.out⟩, ⟨by (with_reducible repeat (first | apply Kd.V_alloc | apply Kd.V_drewN | apply Kd.V_drew)); exact HO251.out⟩, ⟨by (with_reducible repeat (first | refine blk_drewN ?_ _ | refine blk_drew ?_ | refine blk_alloc ?_ _)); exact BK233.out⟩, ⟨by (with_reducible repeat (first | refine blk_drewN ?_ _ | refine blk_drew ?_ | refine blk_alloc ?_ _)); exact BK234.out⟩, ⟨TB2 GE233.out GE234.out⟩⟩
        rw [if_pos c59] at H
        have c59b0 : (x12_3 == 0) = true := beq_iff_eq.mpr c59
        have c59b1 : (x12_3 != 0) = false := bne_eq_false_iff_eq.mpr c59
        clear c59
        replace H := Option.bind_eq_some_iff.mp H
        obtain ⟨t254, A600, H⟩ := H
        replace H : (saronlaw09_HeardRead.j3 k3 a1 t235 t242 ((rd_T62 l0_2 a1).f1) x12_3 t249 (!t254) a0_0 l0_1 l0_2 l2_0 l2_1 a2_2 a2_3) = some r := H
        have A60 := Aside0.mk A600
        clear A600
        have H' := Aside0.mk H
        clear H
        obtain ⟨Ao61, co61, eo61⟩ := Kd.V_slice HO251.out
        subst eo61
        go_wp2_with (first | (go_at_call 42; (with_reducible refine (saronref00_Grows.calls k3 _ _ t249 (((rd_T62 l0_2 a1).f1).length : Int) true _ ?side1 ?side2 A55.out).mono ?_); (case side1 => repeat (first | exact (Kd.V_reads' HO251.out).2.2 | (with_reducible refine Kd.C_alloc ?_ _) | (with_reducible refine Kd.C_drewN ?_ _) | (with_reducible refine Kd.C_drew ?_))); (case side2 => exact (Kd.V_reads' HO251.out).2.1); rintro e w' ⟨rfl, ⟨nd, rfl⟩⟩; obtain ⟨Ao62, co62, eo62⟩ := Kd.V_slice HO_9.out; subst eo62) | (go_at_call 20; (with_reducible refine (saronref00_Equal.calls k3 _ _ t249 _ _ t242 t254 _ ?side1 ?side2 ?side3 ?side4 A60.out).mono ?_); (case side1 => repeat (first | exact (Kd.V_reads' HO251.out).2.2 | (with_reducible refine Kd.C_alloc ?_ _) | (with_reducible refine Kd.C_drewN ?_ _) | (with_reducible refine Kd.C_drew ?_))); (case side2 => exact (Kd.V_reads' HO251.out).2.1); (case side3 => repeat (first | exact (Kd.V_reads' HO_9.out).2.2 | (with_reducible refine Kd.C_alloc ?_ _) | (with_reducible refine Kd.C_drewN ?_ _) | (with_reducible refine Kd.C_drew ?_))); (case side4 => exact (Kd.V_reads' HO_9.out).2.1); rintro e w' ⟨rfl, ⟨nd, rfl⟩⟩))
        go_meet
        case rel => exact ⟨_, (!t254), TT, H', ⟨by have := HJ6.out; have := HJ33.out; have := HK3.out; first | omega | exact Nat.le_refl _⟩, ⟨by (with_reducible repeat (first | apply Kd.V_alloc | apply Kd.V_drewN | apply Kd.V_drew)); exact HO_9.out⟩, ⟨by (with_reducible repeat (first | apply Kd.V_alloc | apply Kd.V_drewN | apply Kd.V_drew)); exact HO251.out⟩, ⟨by (with_reducible repeat (first | refine blk_drewN ?_ _ | refine blk_drew ?_ | refine blk_alloc ?_ _)); exact BK233.out⟩, ⟨by (with_reducible repeat (first | refine blk_drewN ?_ _ | refine blk_drew ?_ | refine blk_alloc ?_ _)); exact BK234.out⟩, ⟨TB2 GE233.out GE234.out⟩⟩
       case rest => as_aux_lemma =>
        clear HC49
        try clear c1
        try clear c2
        try clear p2
        try clear q2
        try clear hx2
        try clear c3
        try clear c4
        try clear c5
        try clear c6
        try clear p6
        try clear c8
        try clear c10
        try clear c14
        try clear c17
        try clear c19
        try clear c21
        try clear c23
        try clear c24
        try clear p24
        try clear q24
        try clear hx24
        try clear c26
        try clear c27
        try clear c27b0
        try clear c27b1
        try clear c28
        try clear c32
        try clear c32b0
        try clear c33
        try clear c33b0
        try clear c35
        try clear c36
        try clear c40
        try clear c40b0
        try clear c40b1
        try clear c41
        try clear c41b0
        try clear c41b1
        try clear c43
        try clear c46
        try clear c47
        try clear c47b0
        try clear c50
        try clear c54
        try clear c54b0
        try clear c54b1
        try clear c56
        try clear c57
        try clear c57b0
        try clear c57b1
        try clear c57b2
        try clear c59
        try clear c59b0
        try clear c59b1
        try clear hcz11_0 hcz11_1 hcz11_2
        try clear hcz12_0 hcz12_1 hcz12_2 hcz12_3
        try clear hcz14_0 hcz14_1 hcz14_2
        try clear hcz20_0 hcz20_1 hcz20_2 hcz20_3
        try clear hcz22_0 hcz22_1 hcz22_2
        try clear hcz24_0 hcz24_1 hcz24_2 hcz24_3
        try clear hcz36_0 hcz36_1 hcz36_2
        try clear hcz37_0 hcz37_1 hcz37_2 hcz37_3
        try clear hcz39_0 hcz39_1 hcz39_2
        try clear hcz51_0 hcz51_1 hcz51_2 hcz51_3
        try clear hcz52_0 hcz52_1 hcz52_2
        try clear hfz11_0 hfz11_1 hfz11_2
        try clear hfz12_0 hfz12_1 hfz12_2 hfz12_3
        try clear hfz14_0 hfz14_1 hfz14_2
        try clear hfz20_0 hfz20_1 hfz20_2 hfz20_3
        try clear hfz22_0 hfz22_1 hfz22_2
        try clear hfz24_0 hfz24_1 hfz24_2 hfz24_3
        try clear hfz36_0 hfz36_1 hfz36_2
        try clear hfz37_0 hfz37_1 hfz37_2 hfz37_3
        try clear hfz39_0 hfz39_1 hfz39_2
        try clear hfz51_0 hfz51_1 hfz51_2 hfz51_3
        try clear hfz52_0 hfz52_1 hfz52_2
        try clear hx246_0
        try clear hx246_1
        try clear p2
        try clear p24
        try clear p246
        try clear p6
        try clear q2
        try clear q24
        try clear q246
        try clear HO_9
        try clear HO_13
        try clear BK233
        try clear BK234
        try clear HB
        obtain ⟨kq, x131_48, rfl, HA, HJ48, HO_9, HO_13, BK233, BK234, HB⟩ := hcut
        cases kq with
        | zero => exact absurd HA.out (by simp [saronlaw09_HeardRead.j3])
        | succ kj48 =>
         have H := HA.out
         clear HA
         simp only [saronlaw09_HeardRead.j3] at H
         by_cases c65 : x131_48 = true
         ·subst c65
          have H1 : (some false) = some r := by rw [if_pos rfl] at H; exact H
          clear H
          have H := H1
          clear H1
          obtain rfl := Option.some.inj H
          go_wp2
          go_ret
          exact ⟨TR, TB2 GE233.out GE234.out⟩
         replace c65 := Bool.eq_false_iff.mpr c65
         subst c65
         have H1 : (saronlaw09_HeardRead.l1 kj48 a1 t235 t242 ((rd_T62 l0_2 a1).f1) x12_3 t249 0 a0_0 l0_1 l0_2 l2_0 l2_1 a2_2 a2_3) = some r := by rw [if_neg (show ¬ (false = true) by decide)] at H; exact H
         clear H
         have H := H1
         clear H1
         have H' := Aside0.mk H
         clear H
         go_wp2
         go_loopg [15] kj48 (fun kq v15 w' => ∃ (x15_5 : Int), v15 = .int .i64 x15_5 ∧ Aside0 (saronlaw09_HeardRead.l1 kq a1 t235 t242 ((rd_T62 l0_2 a1).f1) x12_3 t249 x15_5 a0_0 l0_1 l0_2 l2_0 l2_1 a2_2 a2_3 = some r) ∧ Aside0 (kq ≤ kj48) ∧ Aside0 (Kd.V (Kd.int .i64) 3 w' w.heap.size (fun k_ => k_ ≠ gb233 ∧ k_ ≠ gb234) v243 t242) ∧ Aside0 (Kd.V (Kd.int .i64) 3 w' w.heap.size (fun k_ => k_ ≠ gb233 ∧ k_ ≠ gb234) v250 t249) ∧ Aside0 (w'.heap[gb233]? = some (.cells #[.int .i64 a0_0, (.slice A0_1 l0_1.length c0_1), (.slice (some ad246) l0_2.length c0_2)] 27 (0, 0))) ∧ Aside0 (w'.heap[gb234]? = some (.cells #[(.slice A2_0 l2_0.length c2_0), (.slice A2_1 l2_1.length c2_1), .int .i64 a2_2, .int .i64 a2_3] 30 (0, 0))) ∧ Aside0 (Below w.heap.size w w'))
         case atStart => exact ⟨(0), TT, H', ⟨Nat.le_refl _⟩, ⟨by (with_reducible repeat (first | apply Kd.V_alloc | apply Kd.V_drewN | apply Kd.V_drew)); exact HO_9.out⟩, ⟨by (with_reducible repeat (first | apply Kd.V_alloc | apply Kd.V_drewN | apply Kd.V_drew)); exact HO_13.out⟩, ⟨by (with_reducible repeat (first | refine blk_drewN ?_ _ | refine blk_drew ?_ | refine blk_alloc ?_ _)); exact BK233.out⟩, ⟨by (with_reducible repeat (first | refine blk_drewN ?_ _ | refine blk_drew ?_ | refine blk_alloc ?_ _)); exact BK234.out⟩, ⟨TB2 GE233.out GE234.out⟩⟩
         case round => as_aux_lemma =>
          clear H'
          try clear c1
          try clear c2
          try clear p2
          try clear q2
          try clear hx2
          try clear c3
          try clear c4
          try clear c5
          try clear c6
          try clear p6
          try clear c8
          try clear c10
          try clear c14
          try clear c17
          try clear c19
          try clear c21
          try clear c23
          try clear c24
          try clear p24
          try clear q24
          try clear hx24
          try clear c26
          try clear c27
          try clear c27b0
          try clear c27b1
          try clear c28
          try clear c32
          try clear c32b0
          try clear c33
          try clear c33b0
          try clear c35
          try clear c36
          try clear c40
          try clear c40b0
          try clear c40b1
          try clear c41
          try clear c41b0
          try clear c41b1
          try clear c43
          try clear c46
          try clear c47
          try clear c47b0
          try clear c50
          try clear c54
          try clear c54b0
          try clear c54b1
          try clear c56
          try clear c57
          try clear c57b0
          try clear c57b1
          try clear c57b2
          try clear c59
          try clear c59b0
          try clear c59b1
          try clear c65
          try clear hcz11_0 hcz11_1 hcz11_2
          try clear hcz12_0 hcz12_1 hcz12_2 hcz12_3
          try clear hcz14_0 hcz14_1 hcz14_2
          try clear hcz20_0 hcz20_1 hcz20_2 hcz20_3
          try clear hcz22_0 hcz22_1 hcz22_2
          try clear hcz24_0 hcz24_1 hcz24_2 hcz24_3
          try clear hcz36_0 hcz36_1 hcz36_2
          try clear hcz37_0 hcz37_1 hcz37_2 hcz37_3
          try clear hcz39_0 hcz39_1 hcz39_2
          try clear hcz51_0 hcz51_1 hcz51_2 hcz51_3
          try clear hcz52_0 hcz52_1 hcz52_2
          try clear hfz11_0 hfz11_1 hfz11_2
          try clear hfz12_0 hfz12_1 hfz12_2 hfz12_3
          try clear hfz14_0 hfz14_1 hfz14_2
          try clear hfz20_0 hfz20_1 hfz20_2 hfz20_3
          try clear hfz22_0 hfz22_1 hfz22_2
          try clear hfz24_0 hfz24_1 hfz24_2 hfz24_3
          try clear hfz36_0 hfz36_1 hfz36_2
          try clear hfz37_0 hfz37_1 hfz37_2 hfz37_3
          try clear hfz39_0 hfz39_1 hfz39_2
          try clear hfz51_0 hfz51_1 hfz51_2 hfz51_3
          try clear hfz52_0 hfz52_1 hfz52_2
          try clear hx246_0
          try clear hx246_1
          try clear p2
          try clear p24
          try clear p246
          try clear p6
          try clear q2
          try clear q24
          try clear q246
          obtain ⟨x15_5, rfl, HA, HK5, HO_9, HO_13, BK233, BK234, HB⟩ := hrel
          cases gk with
          | zero => exact absurd HA.out (by simp [saronlaw09_HeardRead.l1])
          | succ k5 =>
           have H := HA.out
           clear HA
           simp only [saronlaw09_HeardRead.l1] at H
           by_cases c66 : x15_5 < (t249.length : Int)
           rotate_left
           ·rw [if_neg c66] at H
            have c66b0 : decide (x15_5 < (t249.length : Int)) = false := decide_eq_false c66
            clear c66
            have H' := Aside0.mk H
            clear H
            obtain ⟨Ao141, co141, eo141⟩ := Kd.V_slice HO_13.out
            subst eo141
            go_wp2
            go_roundg k5
            case measure => have := HJ6.out; have := HJ33.out; have := HK3.out; have := HJ48.out; have := HK5.out; omega
            case rel => exact ⟨(wrap64 (x12_3 + 1)), TT, H', ⟨by have := HJ6.out; have := HJ33.out; have := HK3.out; have := HJ48.out; have := HK5.out; omega⟩, ⟨by (with_reducible repeat (first | apply Kd.V_alloc | apply Kd.V_drewN | apply Kd.V_drew)); exact HO_9.out⟩, ⟨by (with_reducible repeat (first | refine blk_drewN ?_ _ | refine blk_drew ?_ | refine blk_alloc ?_ _)); exact BK233.out⟩, ⟨by (with_reducible repeat (first | refine blk_drewN ?_ _ | refine blk_drew ?_ | refine blk_alloc ?_ _)); exact BK234.out⟩, ⟨TB2 GE233.out GE234.out⟩⟩
           as_aux_lemma =>
           rw [if_pos c66] at H
           have c66b0 : decide (x15_5 < (t249.length : Int)) = true := decide_eq_true c66
           clear c66
           by_cases c67 : 0 ≤ a1
           rotate_left
           ·rw [if_neg c67] at H
            exact absurd H (by simp)
           as_aux_lemma =>
           rw [if_pos c67] at H
           have c67b0 : decide (0 ≤ a1) = true := decide_eq_true c67
           clear c67
           by_cases c68 : a1 < (l0_2.length : Int)
           rotate_left
           ·rw [if_neg c68] at H
            exact absurd H (by simp)
           as_aux_lemma =>
           rw [if_pos c68] at H
           have c68b0 : decide (a1 < (l0_2.length : Int)) = true := decide_eq_true c68
           clear c68
           by_cases c69 : 0 ≤ x15_5
           rotate_left
           ·rw [if_neg c69] at H
            exact absurd H (by simp)
           as_aux_lemma =>
           rw [if_pos c69] at H
           have c69b0 : decide (0 ≤ x15_5) = true := decide_eq_true c69
           clear c69
           replace H := Option.bind_eq_some_iff.mp H
           obtain ⟨⟨t257, t260⟩, A700, H⟩ := H
           replace H : (if t260 = 0 then (if 0 ≤ (rd t249 x15_5) then (if (rd t249 x15_5) < (((rd_T62 l0_2 a1).f1).length : Int) then (if 0 ≤ x12_3 then (if x12_3 < (l2_0.length : Int) then ((saronref00_Plain.f (wrap64 ((rd ((rd_T62 l0_2 a1).f1) (rd t249 x15_5)) - (rd l2_0 x12_3)))).bind fun t264 => (if t264 > (mn 1 a2_3) then (some false) else ((saronref00_Where.f k5 l2_1 x12_3).bind fun t265 => (if t265 ≥ 0 then ((saronref00_Where.f k5 t257 0).bind fun t266 => (if t266 < 0 then (some false) else (if 0 < (t242.length : Int) then (if (rd t249 x15_5) < (wrap64 ((rd t242 0) + x12_3)) then (some false) else (if 0 ≤ (wrap64 ((t242.length : Int) - 1)) then (if (wrap64 ((t242.length : Int) - 1)) < (t242.length : Int) then (if (rd t249 x15_5) > (wrap64 ((wrap64 ((rd t242 (wrap64 ((t242.length : Int) - 1))) + x12_3)) + a2_2)) then (some false) else (saronlaw09_HeardRead.l1 k5 a1 t235 t242 ((rd_T62 l0_2 a1).f1) x12_3 t249 (wrap64 (x15_5 + 1)) a0_0 l0_1 l0_2 l2_0 l2_1 a2_2 a2_3)) else (none)) else (none))) else (none)))) else (if 0 < (t242.length : Int) then (if (rd t249 x15_5) < (wrap64 ((rd t242 0) + x12_3)) then (some false) else (if 0 ≤ (wrap64 ((t242.length : Int) - 1)) then (if (wrap64 ((t242.length : Int) - 1)) < (t242.length : Int) then (if (rd t249 x15_5) > (wrap64 ((wrap64 ((rd t242 (wrap64 ((t242.length : Int) - 1))) + x12_3)) + a2_2)) then (some false) else (saronlaw09_HeardRead.l1 k5 a1 t235 t242 ((rd_T62 l0_2 a1).f1) x12_3 t249 (wrap64 (x15_5 + 1)) a0_0 l0_1 l0_2 l2_0 l2_1 a2_2 a2_3)) else (none)) else (none))) else (none)))))) else (none)) else (none)) else (none)) else (none)) else (some false)) = some r := H
           have A70 := Aside0.mk A700
           clear A700
           by_cases c71 : t260 = 0
           rotate_left
           ·as_aux_lemma =>
            rw [if_neg c71] at H
            have c71b0 : (t260 == 0) = false := beq_eq_false_iff_ne.mpr c71
            have c71b1 : (t260 != 0) = true := bne_iff_ne.mpr c71
            obtain rfl := Option.some.inj H
            obtain ⟨Ao137, co137, eo137⟩ := Kd.V_slice HO_13.out
            subst eo137
            try go_wp2
            have n0_ := Aside0.mk (Kd.V_drew HO_9.out)
            have n1_ := Aside0.mk (Kd.V_drew HO_13.out)
            have n2_ := Aside0.mk (blk_drew BK233.out)
            have n3_ := Aside0.mk (blk_drew BK234.out)
            have n4_ := Aside0.mk (below_drew1 HB.out)
            clear HO_9
            clear HO_13
            clear BK233
            clear BK234
            clear HB
            have HO_9 := n0_
            have HO_13 := n1_
            have BK233 := n2_
            have BK234 := n3_
            have HB := n4_
            clear n0_ n1_ n2_ n3_ n4_
            have p255 : 0 ≤ (a1 : Int) := of_decide_eq_true TA
            have q255 : a1 < (l0_2.length : Int) := of_decide_eq_true TA
            obtain ⟨ad255, A255_1, c255_1, e255, hx255_0, hx255_1, hl255_1, hi255_1⟩ := at_T62 HR0_2.out a1 p255 q255
            have hw255_1 := hx255_1
            have hw255_0 := hx255_0
            obtain rfl : ad246 = ad255 := (by injection e255)
            replace hx255_0 := (HB.out.cell  (World.block_lt_of_cell? w _ hx255_0)).trans hx255_0
            replace hx255_1 := (HB.out.cell  (World.block_lt_of_cell? w _ hx255_1)).trans hx255_1
            have HR255_1 := Aside0.mk hi255_1
            have HC255_1 := Aside0.mk hl255_1
            clear hi255_1 hl255_1
            replace p255 := eq_true p255
            replace q255 := eq_true q255
            have p256 : 0 ≤ (x15_5 : Int) := of_decide_eq_true TA
            have q256 : x15_5 < (t249.length : Int) := of_decide_eq_true TA
            obtain ⟨ad256, e256, hx256_0⟩ := Kd.at_int (Kd.V_reads' HO_13.out).2.2 x15_5 p256 q256
            cases e256
            replace p256 := eq_true p256
            replace q256 := eq_true q256
            refine start_ (n := 18) (S := fun w' => w'.cell? ⟨gb233, 0, none⟩ = some (.int .i64 a0_0) ∧ w'.cell? ⟨gb233, 1, none⟩ = some (.slice A0_1 l0_1.length c0_1) ∧ w'.cell? ⟨gb233, 2, none⟩ = some (.slice (some ad246) l0_2.length c0_2) ∧ w'.cell? (ad246.add ((a1).toNat * 2)) = some (.int .i64 ((rd_T62 l0_2 a1).f0)) ∧ w'.cell? ⟨(ad246.add ((a1).toNat * 2)).block, (ad246.add ((a1).toNat * 2)).off + 1, none⟩ = some (.slice A255_1 ((rd_T62 l0_2 a1).f1).length c255_1) ∧ w'.cell? (ad256.add (x15_5).toNat) = some (.int .i64 (rd t249 x15_5))) (ds := []) (.replicate 18 false) (by kernel_rfl) rfl rfl ⟨czz BK233.out 0, czz BK233.out 1, czz BK233.out 2, ((HB.out.cell  (World.block_lt_of_cell? w _ hw255_0)).trans hw255_0), ((HB.out.cell  (World.block_lt_of_cell? w _ hw255_1)).trans hw255_1), hx256_0⟩ (fun hHeld => ?_); refine with_tabW saronlaw09_HeardRead.tab19 saronlaw09_HeardRead.bits19 (fun HT_ HW_ => ?_)
            generalize wr.drew = w138 at HO_9 HO_13 BK233 BK234 HB HR255_1 hx255_0 hx255_1 hx256_0 hHeld ⊢
            refine pT 0 139 (bt 18 1) (k := ?_)
            refine pT 2 141 (bt 18 5) (k := ?_)
            refine pT 4 143 (bt 18 21) (k := ?_)
            refine pT 8 147 (bt 18 277) (k := ?_)
            refine pT 9 148 (bt 18 789) (k := ?_)
            refine pT 10 149 (bt 18 1813) (k := ?_)
            refine tT6 1 140 (bt 18 1815) hHeld (k := ?_)
            refine tT6 3 142 (bt 18 1823) hHeld (k := ?_)
            refine pT 5 144 (bt 18 1855) (k := ?_)
            refine pT 6 145 (bt 18 1919) (k := ?_)
            refine tT6 7 146 (bt 18 2047) hHeld (k := ?_)
            refine tT6 11 150 (bt 18 4095) hHeld (k := ?_)
            refine one_ (i := 12) (N := some 151) (bt 18 8191) rfl rfl (one_of HT_.out (by kernel_rfl)) (by decide) (fun K hK => ?_)
            refine goes_ Tryd.func43 (by kernel_rfl) rfl #[.agg #[.int .i64 a0_0, .slice A0_1 l0_1.length c0_1], .int .i64 ((rd_T62 l0_2 a1).f0), .int .i64 (rd t249 x15_5)] (by rfl) rfl rfl TM ?_
            with_reducible refine (cycle_Struck.calls a0_0 _ _ l0_1 ((rd_T62 l0_2 a1).f0) (rd t249 x15_5) t257 t260 _ ?side1 ?side2 ?side3 A70.out).mono ?_
            (case side1 => exact TC HR0_1.out)
            (case side2 => exact HC0_1.out)
            (case side3 => exact Glob.fr HG.out (Fr.of_below (TB2 GE233.out GE234.out)))
            rintro e w139 ⟨v258, rfl, ho0, hb⟩
            have HS5_ := (hb.cell (World.block_lt_of_cell? _ _ (hHeld.2.2.2.2.2))).trans (hHeld.2.2.2.2.2)
            refine ⟨_, rfl, ?_⟩
            have n0_ := Aside0.mk (Kd.V_below (by (with_reducible repeat (first | apply Kd.V_alloc | apply Kd.V_drewN | apply Kd.V_drew)); exact HO_9.out) hb)
            have n1_ := Aside0.mk (Kd.V_below (by (with_reducible repeat (first | apply Kd.V_alloc | apply Kd.V_drewN | apply Kd.V_drew)); exact HO_13.out) hb)
            have n2_ := Aside0.mk (Kd.V_lower (Kd.V_mono (ok' := fun k_ => k_ ≠ gb233 ∧ k_ ≠ gb234) ho0 (fun k_ hk_ => ⟨(Kd.freshB (g := gb233) (o := .cells #[.int .i64 a0_0, .slice A0_1 l0_1.length c0_1, .slice (some ad246) l0_2.length c0_2] 27 (0, 0)) (TK BK233.out) k_ hk_), (Kd.freshB (g := gb234) (o := .cells #[.slice A2_0 l2_0.length c2_0, .slice A2_1 l2_1.length c2_1, .int .i64 a2_2, .int .i64 a2_3] 30 (0, 0)) (TK BK234.out) k_ hk_)⟩)) (below_size (TB2 GE233.out GE234.out)))
            have n3_ := Aside0.mk (blk_below (g := gb233) (o := .cells #[.int .i64 a0_0, .slice A0_1 l0_1.length c0_1, .slice (some ad246) l0_2.length c0_2] 27 (0, 0)) (TK BK233.out) hb)
            have n4_ := Aside0.mk (blk_below (g := gb234) (o := .cells #[.slice A2_0 l2_0.length c2_0, .slice A2_1 l2_1.length c2_1, .int .i64 a2_2, .int .i64 a2_3] 30 (0, 0)) (TK BK234.out) hb)
            have n5_ := Aside0.mk (below_step (TB2 GE233.out GE234.out) hb)
            clear HO_9
            clear HO_13
            clear BK233
            clear BK234
            clear HB
            have HO_9 := n0_
            have HO_13 := n1_
            have HO259 := n2_
            have BK233 := n3_
            have BK234 := n4_
            have HB := n5_
            clear n0_ n1_ n2_ n3_ n4_ n5_
            (try clear hb)
            (try clear hb2)
            (try clear hk)
            (try clear hi)
            (try clear ho0)
            refine hK.out _ _ ⟨czz BK233.out 0, czz BK233.out 1, czz BK233.out 2, ((HB.out.cell  (World.block_lt_of_cell? w _ hw255_0)).trans hw255_0), ((HB.out.cell  (World.block_lt_of_cell? w _ hw255_1)).trans hw255_1), HS5_⟩ (fun hHeld => ?_)
            clear hK K
            refine norm_ (a' := ?_) ?_ ?_
            rotate_left
            ·show Act.put _ (some 151) _ = _
             simp only [Act.put, lA, lZ, lS, i64_w, i32_w]
             rfl
            as_aux_lemma =>
            refine pT 13 138 (bt 18 16383) (k := ?_)
            refine pT 14 152 (bt 18 32767) (k := ?_)
            refine pT 15 153 (bt 18 65535) (k := ?_)
            refine pT 16 16 (bt 18 131071) (k := ?_)
            refine pT 17 17 (bt 18 262143) (k := ?_)
            refine done_ (done_of HT_.out (by kernel_rfl)) ?_
            try go_wp2
            have n0_ := Aside0.mk (Kd.V_drew HO_9.out)
            have n1_ := Aside0.mk (Kd.V_drew HO_13.out)
            have n2_ := Aside0.mk (Kd.V_drew HO259.out)
            have n3_ := Aside0.mk (blk_drew BK233.out)
            have n4_ := Aside0.mk (blk_drew BK234.out)
            have n5_ := Aside0.mk (below_drew1 HB.out)
            clear HO_9
            clear HO_13
            clear HO259
            clear BK233
            clear BK234
            clear HB
            have HO_9 := n0_
            have HO_13 := n1_
            have HO259 := n2_
            have BK233 := n3_
            have BK234 := n4_
            have HB := n5_
            clear n0_ n1_ n2_ n3_ n4_ n5_
            refine start_ (n := 64) (S := fun w' => True) (ds := []) (.replicate 64 false) (by kernel_rfl) rfl rfl trivial (fun hHeld => ?_); refine with_tabW saronlaw09_HeardRead.tab20 saronlaw09_HeardRead.bits20 (fun HT_ HW_ => ?_)
            generalize w139.drew = w140 at HO_9 HO_13 HO259 BK233 BK234 HB hHeld ⊢
            refine pT 0 154 (bt 64 1) (k := ?_)
            refine pT 1 155 (bt 64 3) (k := ?_)
            refine pT 2 156 (bt 64 7) (k := ?_)
            refine pU 3 157 (bt 64 15) (k := ?_)
            refine pU 4 158 (bt 64 31) (k := ?_)
            refine pU 5 159 (bt 64 63) (k := ?_)
            refine pU 6 160 (bt 64 127) (k := ?_)
            refine pU 7 161 (bt 64 255) (k := ?_)
            refine pU 8 162 (bt 64 511) (k := ?_)
            refine pU 9 163 (bt 64 1023) (k := ?_)
            refine pU 10 164 (bt 64 2047) (k := ?_)
            refine pU 11 165 (bt 64 4095) (k := ?_)
            refine pU 12 166 (bt 64 8191) (k := ?_)
            refine pU 13 167 (bt 64 16383) (k := ?_)
            refine pU 14 168 (bt 64 32767) (k := ?_)
            refine pU 15 169 (bt 64 65535) (k := ?_)
            refine pU 16 170 (bt 64 131071) (k := ?_)
            refine pU 17 171 (bt 64 262143) (k := ?_)
            refine pU 18 172 (bt 64 524287) (k := ?_)
            refine pU 19 173 (bt 64 1048575) (k := ?_)
            refine pU 20 174 (bt 64 2097151) (k := ?_)
            refine pT 21 175 (bt 64 4194303) (k := ?_)
            refine pT 22 176 (bt 64 8388607) (k := ?_)
            refine pU 23 177 (bt 64 16777215) (k := ?_)
            refine pU 24 178 (bt 64 33554431) (k := ?_)
            refine pU 25 179 (bt 64 67108863) (k := ?_)
            refine pU 26 180 (bt 64 134217727) (k := ?_)
            refine pU 27 181 (bt 64 268435455) (k := ?_)
            refine pU 28 182 (bt 64 536870911) (k := ?_)
            refine pU 29 183 (bt 64 1073741823) (k := ?_)
            refine pU 30 184 (bt 64 2147483647) (k := ?_)
            refine pU 31 185 (bt 64 4294967295) (k := ?_)
            refine pU 32 186 (bt 64 8589934591) (k := ?_)
            refine pT 33 187 (bt 64 17179869183) (k := ?_)
            refine pT 34 188 (bt 64 34359738367) (k := ?_)
            refine pU 35 189 (bt 64 68719476735) (k := ?_)
            refine pU 36 190 (bt 64 137438953471) (k := ?_)
            refine pU 37 191 (bt 64 274877906943) (k := ?_)
            refine pU 38 192 (bt 64 549755813887) (k := ?_)
            refine pU 39 193 (bt 64 1099511627775) (k := ?_)
            refine pU 40 194 (bt 64 2199023255551) (k := ?_)
            refine pU 41 195 (bt 64 4398046511103) (k := ?_)
            refine pU 42 196 (bt 64 8796093022207) (k := ?_)
            refine pU 43 197 (bt 64 17592186044415) (k := ?_)
            refine pU 44 198 (bt 64 35184372088831) (k := ?_)
            refine pT 45 199 (bt 64 70368744177663) (k := ?_)
            refine pT 46 200 (bt 64 140737488355327) (k := ?_)
            refine pU 47 201 (bt 64 281474976710655) (k := ?_)
            refine pU 48 202 (bt 64 562949953421311) (k := ?_)
            refine pU 49 203 (bt 64 1125899906842623) (k := ?_)
            refine pU 50 204 (bt 64 2251799813685247) (k := ?_)
            refine pU 51 205 (bt 64 4503599627370495) (k := ?_)
            refine pU 52 206 (bt 64 9007199254740991) (k := ?_)
            refine pU 53 207 (bt 64 18014398509481983) (k := ?_)
            refine pU 54 208 (bt 64 36028797018963967) (k := ?_)
            refine pU 55 209 (bt 64 72057594037927935) (k := ?_)
            refine pU 56 210 (bt 64 144115188075855871) (k := ?_)
            refine pU 57 211 (bt 64 288230376151711743) (k := ?_)
            refine pU 58 212 (bt 64 576460752303423487) (k := ?_)
            refine pU 59 213 (bt 64 1152921504606846975) (k := ?_)
            refine pU 60 214 (bt 64 2305843009213693951) (k := ?_)
            refine pU 61 215 (bt 64 4611686018427387903) (k := ?_)
            refine pU 62 216 (bt 64 9223372036854775807) (k := ?_)
            refine pT 63 217 (bt 64 18446744073709551615) (k := ?_)
            refine done_ (done_of HT_.out (by kernel_rfl)) ?_
            try go_wp2
            go_ret
            exact ⟨TR, TB2 GE233.out GE234.out⟩
           as_aux_lemma =>
           rw [if_pos c71] at H
           have c71b0 : (t260 == 0) = true := beq_iff_eq.mpr c71
           have c71b1 : (t260 != 0) = false := bne_eq_false_iff_eq.mpr c71
           clear c71
           by_cases c72 : 0 ≤ (rd t249 x15_5)
           rotate_left
           ·rw [if_neg c72] at H
            exact absurd H (by simp)
           as_aux_lemma =>
           rw [if_pos c72] at H
           have c72b0 : decide (0 ≤ (rd t249 x15_5)) = true := decide_eq_true c72
           clear c72
           by_cases c73 : (rd t249 x15_5) < (((rd_T62 l0_2 a1).f1).length : Int)
           rotate_left
           ·rw [if_neg c73] at H
            exact absurd H (by simp)
           as_aux_lemma =>
           rw [if_pos c73] at H
           have c73b0 : decide ((rd t249 x15_5) < (((rd_T62 l0_2 a1).f1).length : Int)) = true := decide_eq_true c73
           clear c73
           by_cases c74 : 0 ≤ x12_3
           rotate_left
           ·rw [if_neg c74] at H
            exact absurd H (by simp)
           as_aux_lemma =>
           rw [if_pos c74] at H
           have c74b0 : decide (0 ≤ x12_3) = true := decide_eq_true c74
           clear c74
           by_cases c75 : x12_3 < (l2_0.length : Int)
           rotate_left
           ·rw [if_neg c75] at H
            exact absurd H (by simp)
           as_aux_lemma =>
           rw [if_pos c75] at H
           have c75b0 : decide (x12_3 < (l2_0.length : Int)) = true := decide_eq_true c75
           clear c75
           replace H := Option.bind_eq_some_iff.mp H
           obtain ⟨t264, A760, H⟩ := H
           replace H : (if t264 > (mn 1 a2_3) then (some false) else ((saronref00_Where.f k5 l2_1 x12_3).bind fun t265 => (if t265 ≥ 0 then ((saronref00_Where.f k5 t257 0).bind fun t266 => (if t266 < 0 then (some false) else (if 0 < (t242.length : Int) then (if (rd t249 x15_5) < (wrap64 ((rd t242 0) + x12_3)) then (some false) else (if 0 ≤ (wrap64 ((t242.length : Int) - 1)) then (if (wrap64 ((t242.length : Int) - 1)) < (t242.length : Int) then (if (rd t249 x15_5) > (wrap64 ((wrap64 ((rd t242 (wrap64 ((t242.length : Int) - 1))) + x12_3)) + a2_2)) then (some false) else (saronlaw09_HeardRead.l1 k5 a1 t235 t242 ((rd_T62 l0_2 a1).f1) x12_3 t249 (wrap64 (x15_5 + 1)) a0_0 l0_1 l0_2 l2_0 l2_1 a2_2 a2_3)) else (none)) else (none))) else (none)))) else (if 0 < (t242.length : Int) then (if (rd t249 x15_5) < (wrap64 ((rd t242 0) + x12_3)) then (some false) else (if 0 ≤ (wrap64 ((t242.length : Int) - 1)) then (if (wrap64 ((t242.length : Int) - 1)) < (t242.length : Int) then (if (rd t249 x15_5) > (wrap64 ((wrap64 ((rd t242 (wrap64 ((t242.length : Int) - 1))) + x12_3)) + a2_2)) then (some false) else (saronlaw09_HeardRead.l1 k5 a1 t235 t242 ((rd_T62 l0_2 a1).f1) x12_3 t249 (wrap64 (x15_5 + 1)) a0_0 l0_1 l0_2 l2_0 l2_1 a2_2 a2_3)) else (none)) else (none))) else (none))))) = some r := H
           have A76 := Aside0.mk A760
           clear A760
           obtain ⟨ji77, hji77⟩ : ∃ j_ : Int, (mn 1 a2_3) = j_ := ⟨_, rfl⟩
           replace H : (if t264 > (ji77) then (some false) else ((saronref00_Where.f k5 l2_1 x12_3).bind fun t265 => (if t265 ≥ 0 then ((saronref00_Where.f k5 t257 0).bind fun t266 => (if t266 < 0 then (some false) else (if 0 < (t242.length : Int) then (if (rd t249 x15_5) < (wrap64 ((rd t242 0) + x12_3)) then (some false) else (if 0 ≤ (wrap64 ((t242.length : Int) - 1)) then (if (wrap64 ((t242.length : Int) - 1)) < (t242.length : Int) then (if (rd t249 x15_5) > (wrap64 ((wrap64 ((rd t242 (wrap64 ((t242.length : Int) - 1))) + x12_3)) + a2_2)) then (some false) else (saronlaw09_HeardRead.l1 k5 a1 t235 t242 ((rd_T62 l0_2 a1).f1) x12_3 t249 (wrap64 (x15_5 + 1)) a0_0 l0_1 l0_2 l2_0 l2_1 a2_2 a2_3)) else (none)) else (none))) else (none)))) else (if 0 < (t242.length : Int) then (if (rd t249 x15_5) < (wrap64 ((rd t242 0) + x12_3)) then (some false) else (if 0 ≤ (wrap64 ((t242.length : Int) - 1)) then (if (wrap64 ((t242.length : Int) - 1)) < (t242.length : Int) then (if (rd t249 x15_5) > (wrap64 ((wrap64 ((rd t242 (wrap64 ((t242.length : Int) - 1))) + x12_3)) + a2_2)) then (some false) else (saronlaw09_HeardRead.l1 k5 a1 t235 t242 ((rd_T62 l0_2 a1).f1) x12_3 t249 (wrap64 (x15_5 + 1)) a0_0 l0_1 l0_2 l2_0 l2_1 a2_2 a2_3)) else (none)) else (none))) else (none))))) = some r := by first | (rw [hji77] at H; exact H) | (simp only [hji77] at H ⊢; exact H)
           (try rw [hji77] at A70)
           (try rw [hji77] at A76)
           have hji77_ : (if a2_3 < 1 then a2_3 else 1) = ji77 := hji77
           by_cases c78 : t264 > (ji77)
           ·as_aux_lemma =>
            rw [if_pos c78] at H
            have c78b0 : decide ((ji77) < t264) = true := decide_eq_true c78
            clear c78
            obtain rfl := Option.some.inj H
            obtain ⟨Ao79, co79, eo79⟩ := Kd.V_slice HO_13.out
            subst eo79
            try go_wp2
            have n0_ := Aside0.mk (Kd.V_drew HO_9.out)
            have n1_ := Aside0.mk (Kd.V_drew HO_13.out)
            have n2_ := Aside0.mk (blk_drew BK233.out)
            have n3_ := Aside0.mk (blk_drew BK234.out)
            have n4_ := Aside0.mk (below_drew1 HB.out)
            clear HO_9
            clear HO_13
            clear BK233
            clear BK234
            clear HB
            have HO_9 := n0_
            have HO_13 := n1_
            have BK233 := n2_
            have BK234 := n3_
            have HB := n4_
            clear n0_ n1_ n2_ n3_ n4_
            have p255 : 0 ≤ (a1 : Int) := of_decide_eq_true TA
            have q255 : a1 < (l0_2.length : Int) := of_decide_eq_true TA
            obtain ⟨ad255, A255_1, c255_1, e255, hx255_0, hx255_1, hl255_1, hi255_1⟩ := at_T62 HR0_2.out a1 p255 q255
            have hw255_1 := hx255_1
            have hw255_0 := hx255_0
            obtain rfl : ad246 = ad255 := (by injection e255)
            replace hx255_0 := (HB.out.cell  (World.block_lt_of_cell? w _ hx255_0)).trans hx255_0
            replace hx255_1 := (HB.out.cell  (World.block_lt_of_cell? w _ hx255_1)).trans hx255_1
            have HR255_1 := Aside0.mk hi255_1
            have HC255_1 := Aside0.mk hl255_1
            clear hi255_1 hl255_1
            replace p255 := eq_true p255
            replace q255 := eq_true q255
            have p256 : 0 ≤ (x15_5 : Int) := of_decide_eq_true TA
            have q256 : x15_5 < (t249.length : Int) := of_decide_eq_true TA
            obtain ⟨ad256, e256, hx256_0⟩ := Kd.at_int (Kd.V_reads' HO_13.out).2.2 x15_5 p256 q256
            cases e256
            replace p256 := eq_true p256
            replace q256 := eq_true q256
            refine start_ (n := 18) (S := fun w' => w'.cell? ⟨gb233, 0, none⟩ = some (.int .i64 a0_0) ∧ w'.cell? ⟨gb233, 1, none⟩ = some (.slice A0_1 l0_1.length c0_1) ∧ w'.cell? ⟨gb233, 2, none⟩ = some (.slice (some ad246) l0_2.length c0_2) ∧ w'.cell? (ad246.add ((a1).toNat * 2)) = some (.int .i64 ((rd_T62 l0_2 a1).f0)) ∧ w'.cell? ⟨(ad246.add ((a1).toNat * 2)).block, (ad246.add ((a1).toNat * 2)).off + 1, none⟩ = some (.slice A255_1 ((rd_T62 l0_2 a1).f1).length c255_1) ∧ w'.cell? (ad256.add (x15_5).toNat) = some (.int .i64 (rd t249 x15_5))) (ds := []) (.replicate 18 false) (by kernel_rfl) rfl rfl ⟨czz BK233.out 0, czz BK233.out 1, czz BK233.out 2, ((HB.out.cell  (World.block_lt_of_cell? w _ hw255_0)).trans hw255_0), ((HB.out.cell  (World.block_lt_of_cell? w _ hw255_1)).trans hw255_1), hx256_0⟩ (fun hHeld => ?_); refine with_tabW saronlaw09_HeardRead.tab19 saronlaw09_HeardRead.bits19 (fun HT_ HW_ => ?_)
            generalize wr.drew = w80 at HO_9 HO_13 BK233 BK234 HB HR255_1 hx255_0 hx255_1 hx256_0 hHeld ⊢
            refine pT 0 139 (bt 18 1) (k := ?_)
            refine pT 2 141 (bt 18 5) (k := ?_)
            refine pT 4 143 (bt 18 21) (k := ?_)
            refine pT 8 147 (bt 18 277) (k := ?_)
            refine pT 9 148 (bt 18 789) (k := ?_)
            refine pT 10 149 (bt 18 1813) (k := ?_)
            refine tT6 1 140 (bt 18 1815) hHeld (k := ?_)
            refine tT6 3 142 (bt 18 1823) hHeld (k := ?_)
            refine pT 5 144 (bt 18 1855) (k := ?_)
            refine pT 6 145 (bt 18 1919) (k := ?_)
            refine tT6 7 146 (bt 18 2047) hHeld (k := ?_)
            refine tT6 11 150 (bt 18 4095) hHeld (k := ?_)
            refine one_ (i := 12) (N := some 151) (bt 18 8191) rfl rfl (one_of HT_.out (by kernel_rfl)) (by decide) (fun K hK => ?_)
            refine goes_ Tryd.func43 (by kernel_rfl) rfl #[.agg #[.int .i64 a0_0, .slice A0_1 l0_1.length c0_1], .int .i64 ((rd_T62 l0_2 a1).f0), .int .i64 (rd t249 x15_5)] (by rfl) rfl rfl TM ?_
            with_reducible refine (cycle_Struck.calls a0_0 _ _ l0_1 ((rd_T62 l0_2 a1).f0) (rd t249 x15_5) t257 t260 _ ?side1 ?side2 ?side3 A70.out).mono ?_
            (case side1 => exact TC HR0_1.out)
            (case side2 => exact HC0_1.out)
            (case side3 => exact Glob.fr HG.out (Fr.of_below (TB2 GE233.out GE234.out)))
            rintro e w81 ⟨v258, rfl, ho0, hb⟩
            have HS5_ := (hb.cell (World.block_lt_of_cell? _ _ (hHeld.2.2.2.2.2))).trans (hHeld.2.2.2.2.2)
            refine ⟨_, rfl, ?_⟩
            have n0_ := Aside0.mk (Kd.V_below (by (with_reducible repeat (first | apply Kd.V_alloc | apply Kd.V_drewN | apply Kd.V_drew)); exact HO_9.out) hb)
            have n1_ := Aside0.mk (Kd.V_below (by (with_reducible repeat (first | apply Kd.V_alloc | apply Kd.V_drewN | apply Kd.V_drew)); exact HO_13.out) hb)
            have n2_ := Aside0.mk (Kd.V_lower (Kd.V_mono (ok' := fun k_ => k_ ≠ gb233 ∧ k_ ≠ gb234) ho0 (fun k_ hk_ => ⟨(Kd.freshB (g := gb233) (o := .cells #[.int .i64 a0_0, .slice A0_1 l0_1.length c0_1, .slice (some ad246) l0_2.length c0_2] 27 (0, 0)) (TK BK233.out) k_ hk_), (Kd.freshB (g := gb234) (o := .cells #[.slice A2_0 l2_0.length c2_0, .slice A2_1 l2_1.length c2_1, .int .i64 a2_2, .int .i64 a2_3] 30 (0, 0)) (TK BK234.out) k_ hk_)⟩)) (below_size (TB2 GE233.out GE234.out)))
            have n3_ := Aside0.mk (blk_below (g := gb233) (o := .cells #[.int .i64 a0_0, .slice A0_1 l0_1.length c0_1, .slice (some ad246) l0_2.length c0_2] 27 (0, 0)) (TK BK233.out) hb)
            have n4_ := Aside0.mk (blk_below (g := gb234) (o := .cells #[.slice A2_0 l2_0.length c2_0, .slice A2_1 l2_1.length c2_1, .int .i64 a2_2, .int .i64 a2_3] 30 (0, 0)) (TK BK234.out) hb)
            have n5_ := Aside0.mk (below_step (TB2 GE233.out GE234.out) hb)
            clear HO_9
            clear HO_13
            clear BK233
            clear BK234
            clear HB
            have HO_9 := n0_
            have HO_13 := n1_
            have HO259 := n2_
            have BK233 := n3_
            have BK234 := n4_
            have HB := n5_
            clear n0_ n1_ n2_ n3_ n4_ n5_
            (try clear hb)
            (try clear hb2)
            (try clear hk)
            (try clear hi)
            (try clear ho0)
            refine hK.out _ _ ⟨czz BK233.out 0, czz BK233.out 1, czz BK233.out 2, ((HB.out.cell  (World.block_lt_of_cell? w _ hw255_0)).trans hw255_0), ((HB.out.cell  (World.block_lt_of_cell? w _ hw255_1)).trans hw255_1), HS5_⟩ (fun hHeld => ?_)
            clear hK K
            refine norm_ (a' := ?_) ?_ ?_
            rotate_left
            ·show Act.put _ (some 151) _ = _
             simp only [Act.put, lA, lZ, lS, i64_w, i32_w]
             rfl
            as_aux_lemma =>
            refine pT 13 138 (bt 18 16383) (k := ?_)
            refine pT 14 152 (bt 18 32767) (k := ?_)
            refine pT 15 153 (bt 18 65535) (k := ?_)
            refine pT 16 16 (bt 18 131071) (k := ?_)
            refine pT 17 17 (bt 18 262143) (k := ?_)
            refine done_ (done_of HT_.out (by kernel_rfl)) ?_
            try go_wp2
            have n0_ := Aside0.mk (Kd.V_drew HO_9.out)
            have n1_ := Aside0.mk (Kd.V_drew HO_13.out)
            have n2_ := Aside0.mk (Kd.V_drew HO259.out)
            have n3_ := Aside0.mk (blk_drew BK233.out)
            have n4_ := Aside0.mk (blk_drew BK234.out)
            have n5_ := Aside0.mk (below_drew1 HB.out)
            clear HO_9
            clear HO_13
            clear HO259
            clear BK233
            clear BK234
            clear HB
            have HO_9 := n0_
            have HO_13 := n1_
            have HO259 := n2_
            have BK233 := n3_
            have BK234 := n4_
            have HB := n5_
            clear n0_ n1_ n2_ n3_ n4_ n5_
            have p261 : 0 ≤ (x15_5 : Int) := of_decide_eq_true TA
            have q261 : x15_5 < (t249.length : Int) := of_decide_eq_true TA
            obtain ⟨ad261, e261, hx261_0⟩ := Kd.at_int (Kd.V_reads' HO_13.out).2.2 x15_5 p261 q261
            obtain rfl : ad256 = ad261 := (by injection e261)
            replace p261 := eq_true p261
            replace q261 := eq_true q261
            have p262 : 0 ≤ ((rd t249 x15_5) : Int) := of_decide_eq_true TA
            have q262 : (rd t249 x15_5) < (((rd_T62 l0_2 a1).f1).length : Int) := of_decide_eq_true TA
            obtain ⟨ad262, e262, hx262_0⟩ := Kd.at_int HR246_1.out (rd t249 x15_5) p262 q262
            have hw262_0 := hx262_0
            cases e262
            replace hx262_0 := (HB.out.cell  (World.block_lt_of_cell? w _ hx262_0)).trans hx262_0
            replace p262 := eq_true p262
            replace q262 := eq_true q262
            have p263 : 0 ≤ (x12_3 : Int) := of_decide_eq_true TA
            have q263 : x12_3 < (l2_0.length : Int) := of_decide_eq_true TA
            obtain ⟨ad263, e263, hx263_0⟩ := Kd.at_int HR2_0.out x12_3 p263 q263
            have hw263_0 := hx263_0
            cases e263
            replace hx263_0 := (HB.out.cell  (World.block_lt_of_cell? w _ hx263_0)).trans hx263_0
            replace p263 := eq_true p263
            replace q263 := eq_true q263
            refine start_ (n := 64) (S := fun w' => w'.cell? ⟨gb234, 0, none⟩ = some (.slice (some ad263) l2_0.length c2_0) ∧ w'.cell? ⟨gb234, 1, none⟩ = some (.slice A2_1 l2_1.length c2_1) ∧ w'.cell? ⟨gb234, 2, none⟩ = some (.int .i64 a2_2) ∧ w'.cell? ⟨gb234, 3, none⟩ = some (.int .i64 a2_3) ∧ w'.cell? (ad256.add (x15_5).toNat) = some (.int .i64 (rd t249 x15_5)) ∧ w'.cell? (ad262.add ((rd t249 x15_5)).toNat) = some (.int .i64 (rd ((rd_T62 l0_2 a1).f1) (rd t249 x15_5))) ∧ w'.cell? (ad263.add (x12_3).toNat) = some (.int .i64 (rd l2_0 x12_3))) (ds := []) (.replicate 64 false) (by kernel_rfl) rfl rfl ⟨czz BK234.out 0, czz BK234.out 1, czz BK234.out 2, czz BK234.out 3, hx261_0, ((HB.out.cell  (World.block_lt_of_cell? w _ hw262_0)).trans hw262_0), ((HB.out.cell  (World.block_lt_of_cell? w _ hw263_0)).trans hw263_0)⟩ (fun hHeld => ?_); refine with_tabW saronlaw09_HeardRead.tab20 saronlaw09_HeardRead.bits20 (fun HT_ HW_ => ?_)
            generalize w81.drew = w82 at HO_9 HO_13 HO259 BK233 BK234 HB hx261_0 hx262_0 hx263_0 hHeld ⊢
            refine pT 0 154 (bt 64 1) (k := ?_)
            refine pT 1 155 (bt 64 3) (k := ?_)
            refine pT 2 156 (bt 64 7) (k := ?_)
            refine pT 3 157 (bt 64 15) (k := ?_)
            refine pT 4 158 (bt 64 31) (k := ?_)
            refine pT 5 159 (bt 64 63) (k := ?_)
            refine pT 6 160 (bt 64 127) (k := ?_)
            refine pT 10 164 (bt 64 1151) (k := ?_)
            refine pT 12 166 (bt 64 5247) (k := ?_)
            refine pT 17 171 (bt 64 136319) (k := ?_)
            refine tT7 7 161 (bt 64 136447) hHeld (k := ?_)
            refine pT 8 162 (bt 64 136703) (k := ?_)
            refine tT7 9 163 (bt 64 137215) hHeld (k := ?_)
            refine tT7 11 165 (bt 64 139263) hHeld (k := ?_)
            refine pT 13 167 (bt 64 147455) (k := ?_)
            refine tT7 14 168 (bt 64 163839) hHeld (k := ?_)
            refine pT 15 169 (bt 64 196607) (k := ?_)
            refine tT7 18 172 (bt 64 458751) hHeld (k := ?_)
            refine pT 19 173 (bt 64 983039) (k := ?_)
            refine one_ (i := 16) (N := some 170) (bt 64 1048575) rfl rfl (one_of HT_.out (by kernel_rfl)) (by decide) (fun K hK => ?_)
            refine goes_ Tryd.func44 (by kernel_rfl) rfl #[.int .i64 (wrap64 ((rd ((rd_T62 l0_2 a1).f1) (rd t249 x15_5)) - (rd l2_0 x12_3)))] (by rfl) rfl rfl TM ?_
            with_reducible refine (saronref00_Plain.calls (wrap64 ((rd ((rd_T62 l0_2 a1).f1) (rd t249 x15_5)) - (rd l2_0 x12_3))) t264 _ A76.out).mono ?_
            rintro e w' ⟨rfl, ⟨nd, rfl⟩⟩
            refine ⟨_, rfl, ?_⟩
            refine hK.out _ _ ⟨czz BK234.out 0, czz BK234.out 1, czz BK234.out 2, czz BK234.out 3, hHeld.2.2.2.2.1, ((HB.out.cell  (World.block_lt_of_cell? w _ hw262_0)).trans hw262_0), ((HB.out.cell  (World.block_lt_of_cell? w _ hw263_0)).trans hw263_0)⟩ (fun hHeld => ?_)
            clear hK K
            refine norm_ (a' := ?_) ?_ ?_
            rotate_left
            ·show Act.put _ (some 170) _ = _
             simp only [Act.put, lA, lZ, lS, i64_w, i32_w]
             rfl
            refine pT 20 174 (bt 64 2097151) (k := ?_)
            refine pT 21 175 (bt 64 4194303) (k := ?_)
            refine pT 22 176 (bt 64 8388607) (k := ?_)
            refine pU 23 177 (bt 64 16777215) (k := ?_)
            refine pU 24 178 (bt 64 33554431) (k := ?_)
            refine pU 25 179 (bt 64 67108863) (k := ?_)
            refine pU 26 180 (bt 64 134217727) (k := ?_)
            refine pU 27 181 (bt 64 268435455) (k := ?_)
            refine pU 28 182 (bt 64 536870911) (k := ?_)
            refine pU 29 183 (bt 64 1073741823) (k := ?_)
            refine pU 30 184 (bt 64 2147483647) (k := ?_)
            refine pU 31 185 (bt 64 4294967295) (k := ?_)
            refine pU 32 186 (bt 64 8589934591) (k := ?_)
            refine pT 33 187 (bt 64 17179869183) (k := ?_)
            refine pT 34 188 (bt 64 34359738367) (k := ?_)
            refine pU 35 189 (bt 64 68719476735) (k := ?_)
            refine pU 36 190 (bt 64 137438953471) (k := ?_)
            refine pU 37 191 (bt 64 274877906943) (k := ?_)
            refine pU 38 192 (bt 64 549755813887) (k := ?_)
            refine pU 39 193 (bt 64 1099511627775) (k := ?_)
            refine pU 40 194 (bt 64 2199023255551) (k := ?_)
            refine pU 41 195 (bt 64 4398046511103) (k := ?_)
            refine pU 42 196 (bt 64 8796093022207) (k := ?_)
            refine pU 43 197 (bt 64 17592186044415) (k := ?_)
            refine pU 44 198 (bt 64 35184372088831) (k := ?_)
            refine pT 45 199 (bt 64 70368744177663) (k := ?_)
            refine pT 46 200 (bt 64 140737488355327) (k := ?_)
            refine pU 47 201 (bt 64 281474976710655) (k := ?_)
            refine pU 48 202 (bt 64 562949953421311) (k := ?_)
            refine pU 49 203 (bt 64 1125899906842623) (k := ?_)
            refine pU 50 204 (bt 64 2251799813685247) (k := ?_)
            refine pU 51 205 (bt 64 4503599627370495) (k := ?_)
            refine pU 52 206 (bt 64 9007199254740991) (k := ?_)
            refine pU 53 207 (bt 64 18014398509481983) (k := ?_)
            refine pU 54 208 (bt 64 36028797018963967) (k := ?_)
            refine pU 55 209 (bt 64 72057594037927935) (k := ?_)
            refine pU 56 210 (bt 64 144115188075855871) (k := ?_)
            refine pU 57 211 (bt 64 288230376151711743) (k := ?_)
            refine pU 58 212 (bt 64 576460752303423487) (k := ?_)
            refine pU 59 213 (bt 64 1152921504606846975) (k := ?_)
            refine pU 60 214 (bt 64 2305843009213693951) (k := ?_)
            refine pU 61 215 (bt 64 4611686018427387903) (k := ?_)
            refine pU 62 216 (bt 64 9223372036854775807) (k := ?_)
            refine pT 63 217 (bt 64 18446744073709551615) (k := ?_)
            refine done_ (done_of HT_.out (by kernel_rfl)) ?_
            try go_wp2
            go_ret
            exact ⟨by first | rfl | (simp [errW_none, errW_some] <;> rfl) | (simp only [← hji77]; first | rfl | (simp [errW_none, errW_some] <;> rfl)) | (simp [*, errW_none, errW_some] <;> rfl), TB2 GE233.out GE234.out⟩
           as_aux_lemma =>
           rw [if_neg c78] at H
           have c78b0 : decide ((ji77) < t264) = false := decide_eq_false c78
           clear c78
           replace H := Option.bind_eq_some_iff.mp H
           obtain ⟨t265, A830, H⟩ := H
           replace H : (if t265 ≥ 0 then ((saronref00_Where.f k5 t257 0).bind fun t266 => (if t266 < 0 then (some false) else (if 0 < (t242.length : Int) then (if (rd t249 x15_5) < (wrap64 ((rd t242 0) + x12_3)) then (some false) else (if 0 ≤ (wrap64 ((t242.length : Int) - 1)) then (if (wrap64 ((t242.length : Int) - 1)) < (t242.length : Int) then (if (rd t249 x15_5) > (wrap64 ((wrap64 ((rd t242 (wrap64 ((t242.length : Int) - 1))) + x12_3)) + a2_2)) then (some false) else (saronlaw09_HeardRead.l1 k5 a1 t235 t242 ((rd_T62 l0_2 a1).f1) x12_3 t249 (wrap64 (x15_5 + 1)) a0_0 l0_1 l0_2 l2_0 l2_1 a2_2 a2_3)) else (none)) else (none))) else (none)))) else (if 0 < (t242.length : Int) then (if (rd t249 x15_5) < (wrap64 ((rd t242 0) + x12_3)) then (some false) else (if 0 ≤ (wrap64 ((t242.length : Int) - 1)) then (if (wrap64 ((t242.length : Int) - 1)) < (t242.length : Int) then (if (rd t249 x15_5) > (wrap64 ((wrap64 ((rd t242 (wrap64 ((t242.length : Int) - 1))) + x12_3)) + a2_2)) then (some false) else (saronlaw09_HeardRead.l1 k5 a1 t235 t242 ((rd_T62 l0_2 a1).f1) x12_3 t249 (wrap64 (x15_5 + 1)) a0_0 l0_1 l0_2 l2_0 l2_1 a2_2 a2_3)) else (none)) else (none))) else (none))) = some r := H
           have A83 := Aside0.mk A830
           clear A830
           by_cases c84 : t265 ≥ 0
           rotate_left
           ·as_aux_lemma =>
            rw [if_neg c84] at H
            have c84b0 : decide (0 ≤ t265) = false := decide_eq_false c84
            clear c84
            by_cases c116 : 0 < (t242.length : Int)
            rotate_left
            ·rw [if_neg c116] at H
             exact absurd H (by simp)
            as_aux_lemma =>
            rw [if_pos c116] at H
            have c116b0 : decide (0 < (t242.length : Int)) = true := decide_eq_true c116
            have c116b1 : decide (0 < t242.length) = true := decide_eq_true (by omega)
            have c116b2 : decide (t242 = []) = false := decide_eq_false (fun h_ => by rw [h_] at c116; simp at c116)
            have c116b3 : decide (¬ (t242 = [])) = true := by rw [decide_not, c116b2]; rfl
            (try rw [c116b1]); (try simp only [c116b2, c116b3, Bool.not_true, Bool.not_false])
            clear c116
            by_cases c117 : (rd t249 x15_5) < (wrap64 ((rd t242 0) + x12_3))
            ·as_aux_lemma =>
             rw [if_pos c117] at H
             have c117b0 : decide ((rd t249 x15_5) < (wrap64 ((rd t242 0) + x12_3))) = true := decide_eq_true c117
             clear c117
             obtain rfl := Option.some.inj H
             obtain ⟨Ao118, co118, eo118⟩ := Kd.V_slice HO_13.out
             subst eo118
             try go_wp2
             have n0_ := Aside0.mk (Kd.V_drew HO_9.out)
             have n1_ := Aside0.mk (Kd.V_drew HO_13.out)
             have n2_ := Aside0.mk (blk_drew BK233.out)
             have n3_ := Aside0.mk (blk_drew BK234.out)
             have n4_ := Aside0.mk (below_drew1 HB.out)
             clear HO_9
             clear HO_13
             clear BK233
             clear BK234
             clear HB
             have HO_9 := n0_
             have HO_13 := n1_
             have BK233 := n2_
             have BK234 := n3_
             have HB := n4_
             clear n0_ n1_ n2_ n3_ n4_
             have p255 : 0 ≤ (a1 : Int) := of_decide_eq_true TA
             have q255 : a1 < (l0_2.length : Int) := of_decide_eq_true TA
             obtain ⟨ad255, A255_1, c255_1, e255, hx255_0, hx255_1, hl255_1, hi255_1⟩ := at_T62 HR0_2.out a1 p255 q255
             have hw255_1 := hx255_1
             have hw255_0 := hx255_0
             obtain rfl : ad246 = ad255 := (by injection e255)
             replace hx255_0 := (HB.out.cell  (World.block_lt_of_cell? w _ hx255_0)).trans hx255_0
             replace hx255_1 := (HB.out.cell  (World.block_lt_of_cell? w _ hx255_1)).trans hx255_1
             have HR255_1 := Aside0.mk hi255_1
             have HC255_1 := Aside0.mk hl255_1
             clear hi255_1 hl255_1
             replace p255 := eq_true p255
             replace q255 := eq_true q255
             have p256 : 0 ≤ (x15_5 : Int) := of_decide_eq_true TA
             have q256 : x15_5 < (t249.length : Int) := of_decide_eq_true TA
             obtain ⟨ad256, e256, hx256_0⟩ := Kd.at_int (Kd.V_reads' HO_13.out).2.2 x15_5 p256 q256
             cases e256
             replace p256 := eq_true p256
             replace q256 := eq_true q256
             refine start_ (n := 18) (S := fun w' => w'.cell? ⟨gb233, 0, none⟩ = some (.int .i64 a0_0) ∧ w'.cell? ⟨gb233, 1, none⟩ = some (.slice A0_1 l0_1.length c0_1) ∧ w'.cell? ⟨gb233, 2, none⟩ = some (.slice (some ad246) l0_2.length c0_2) ∧ w'.cell? (ad246.add ((a1).toNat * 2)) = some (.int .i64 ((rd_T62 l0_2 a1).f0)) ∧ w'.cell? ⟨(ad246.add ((a1).toNat * 2)).block, (ad246.add ((a1).toNat * 2)).off + 1, none⟩ = some (.slice A255_1 ((rd_T62 l0_2 a1).f1).length c255_1) ∧ w'.cell? (ad256.add (x15_5).toNat) = some (.int .i64 (rd t249 x15_5))) (ds := []) (.replicate 18 false) (by kernel_rfl) rfl rfl ⟨czz BK233.out 0, czz BK233.out 1, czz BK233.out 2, ((HB.out.cell  (World.block_lt_of_cell? w _ hw255_0)).trans hw255_0), ((HB.out.cell  (World.block_lt_of_cell? w _ hw255_1)).trans hw255_1), hx256_0⟩ (fun hHeld => ?_); refine with_tabW saronlaw09_HeardRead.tab19 saronlaw09_HeardRead.bits19 (fun HT_ HW_ => ?_)
             generalize wr.drew = w119 at HO_9 HO_13 BK233 BK234 HB HR255_1 hx255_0 hx255_1 hx256_0 hHeld ⊢
             refine pT 0 139 (bt 18 1) (k := ?_)
             refine pT 2 141 (bt 18 5) (k := ?_)
             refine pT 4 143 (bt 18 21) (k := ?_)
             refine pT 8 147 (bt 18 277) (k := ?_)
             refine pT 9 148 (bt 18 789) (k := ?_)
             refine pT 10 149 (bt 18 1813) (k := ?_)
             refine tT6 1 140 (bt 18 1815) hHeld (k := ?_)
             refine tT6 3 142 (bt 18 1823) hHeld (k := ?_)
             refine pT 5 144 (bt 18 1855) (k := ?_)
             refine pT 6 145 (bt 18 1919) (k := ?_)
             refine tT6 7 146 (bt 18 2047) hHeld (k := ?_)
             refine tT6 11 150 (bt 18 4095) hHeld (k := ?_)
             refine one_ (i := 12) (N := some 151) (bt 18 8191) rfl rfl (one_of HT_.out (by kernel_rfl)) (by decide) (fun K hK => ?_)
             refine goes_ Tryd.func43 (by kernel_rfl) rfl #[.agg #[.int .i64 a0_0, .slice A0_1 l0_1.length c0_1], .int .i64 ((rd_T62 l0_2 a1).f0), .int .i64 (rd t249 x15_5)] (by rfl) rfl rfl TM ?_
             with_reducible refine (cycle_Struck.calls a0_0 _ _ l0_1 ((rd_T62 l0_2 a1).f0) (rd t249 x15_5) t257 t260 _ ?side1 ?side2 ?side3 A70.out).mono ?_
             (case side1 => exact TC HR0_1.out)
             (case side2 => exact HC0_1.out)
             (case side3 => exact Glob.fr HG.out (Fr.of_below (TB2 GE233.out GE234.out)))
             rintro e w120 ⟨v258, rfl, ho0, hb⟩
             have HS5_ := (hb.cell (World.block_lt_of_cell? _ _ (hHeld.2.2.2.2.2))).trans (hHeld.2.2.2.2.2)
             refine ⟨_, rfl, ?_⟩
             have n0_ := Aside0.mk (Kd.V_below (by (with_reducible repeat (first | apply Kd.V_alloc | apply Kd.V_drewN | apply Kd.V_drew)); exact HO_9.out) hb)
             have n1_ := Aside0.mk (Kd.V_below (by (with_reducible repeat (first | apply Kd.V_alloc | apply Kd.V_drewN | apply Kd.V_drew)); exact HO_13.out) hb)
             have n2_ := Aside0.mk (Kd.V_lower (Kd.V_mono (ok' := fun k_ => k_ ≠ gb233 ∧ k_ ≠ gb234) ho0 (fun k_ hk_ => ⟨(Kd.freshB (g := gb233) (o := .cells #[.int .i64 a0_0, .slice A0_1 l0_1.length c0_1, .slice (some ad246) l0_2.length c0_2] 27 (0, 0)) (TK BK233.out) k_ hk_), (Kd.freshB (g := gb234) (o := .cells #[.slice A2_0 l2_0.length c2_0, .slice A2_1 l2_1.length c2_1, .int .i64 a2_2, .int .i64 a2_3] 30 (0, 0)) (TK BK234.out) k_ hk_)⟩)) (below_size (TB2 GE233.out GE234.out)))
             have n3_ := Aside0.mk (blk_below (g := gb233) (o := .cells #[.int .i64 a0_0, .slice A0_1 l0_1.length c0_1, .slice (some ad246) l0_2.length c0_2] 27 (0, 0)) (TK BK233.out) hb)
             have n4_ := Aside0.mk (blk_below (g := gb234) (o := .cells #[.slice A2_0 l2_0.length c2_0, .slice A2_1 l2_1.length c2_1, .int .i64 a2_2, .int .i64 a2_3] 30 (0, 0)) (TK BK234.out) hb)
             have n5_ := Aside0.mk (below_step (TB2 GE233.out GE234.out) hb)
             clear HO_9
             clear HO_13
             clear BK233
             clear BK234
             clear HB
             have HO_9 := n0_
             have HO_13 := n1_
             have HO259 := n2_
             have BK233 := n3_
             have BK234 := n4_
             have HB := n5_
             clear n0_ n1_ n2_ n3_ n4_ n5_
             (try clear hb)
             (try clear hb2)
             (try clear hk)
             (try clear hi)
             (try clear ho0)
             refine hK.out _ _ ⟨czz BK233.out 0, czz BK233.out 1, czz BK233.out 2, ((HB.out.cell  (World.block_lt_of_cell? w _ hw255_0)).trans hw255_0), ((HB.out.cell  (World.block_lt_of_cell? w _ hw255_1)).trans hw255_1), HS5_⟩ (fun hHeld => ?_)
             clear hK K
             refine norm_ (a' := ?_) ?_ ?_
             rotate_left
             ·show Act.put _ (some 151) _ = _
              simp only [Act.put, lA, lZ, lS, i64_w, i32_w]
              rfl
             as_aux_lemma =>
             refine pT 13 138 (bt 18 16383) (k := ?_)
             refine pT 14 152 (bt 18 32767) (k := ?_)
             refine pT 15 153 (bt 18 65535) (k := ?_)
             refine pT 16 16 (bt 18 131071) (k := ?_)
             refine pT 17 17 (bt 18 262143) (k := ?_)
             refine done_ (done_of HT_.out (by kernel_rfl)) ?_
             try go_wp2
             have n0_ := Aside0.mk (Kd.V_drew HO_9.out)
             have n1_ := Aside0.mk (Kd.V_drew HO_13.out)
             have n2_ := Aside0.mk (Kd.V_drew HO259.out)
             have n3_ := Aside0.mk (blk_drew BK233.out)
             have n4_ := Aside0.mk (blk_drew BK234.out)
             have n5_ := Aside0.mk (below_drew1 HB.out)
             clear HO_9
             clear HO_13
             clear HO259
             clear BK233
             clear BK234
             clear HB
             have HO_9 := n0_
             have HO_13 := n1_
             have HO259 := n2_
             have BK233 := n3_
             have BK234 := n4_
             have HB := n5_
             clear n0_ n1_ n2_ n3_ n4_ n5_
             have p261 : 0 ≤ (x15_5 : Int) := of_decide_eq_true TA
             have q261 : x15_5 < (t249.length : Int) := of_decide_eq_true TA
             obtain ⟨ad261, e261, hx261_0⟩ := Kd.at_int (Kd.V_reads' HO_13.out).2.2 x15_5 p261 q261
             obtain rfl : ad256 = ad261 := (by injection e261)
             replace p261 := eq_true p261
             replace q261 := eq_true q261
             have p262 : 0 ≤ ((rd t249 x15_5) : Int) := of_decide_eq_true TA
             have q262 : (rd t249 x15_5) < (((rd_T62 l0_2 a1).f1).length : Int) := of_decide_eq_true TA
             obtain ⟨ad262, e262, hx262_0⟩ := Kd.at_int HR246_1.out (rd t249 x15_5) p262 q262
             have hw262_0 := hx262_0
             cases e262
             replace hx262_0 := (HB.out.cell  (World.block_lt_of_cell? w _ hx262_0)).trans hx262_0
             replace p262 := eq_true p262
             replace q262 := eq_true q262
             have p263 : 0 ≤ (x12_3 : Int) := of_decide_eq_true TA
             have q263 : x12_3 < (l2_0.length : Int) := of_decide_eq_true TA
             obtain ⟨ad263, e263, hx263_0⟩ := Kd.at_int HR2_0.out x12_3 p263 q263
             have hw263_0 := hx263_0
             cases e263
             replace hx263_0 := (HB.out.cell  (World.block_lt_of_cell? w _ hx263_0)).trans hx263_0
             replace p263 := eq_true p263
             replace q263 := eq_true q263
             have p271 : 0 ≤ (x15_5 : Int) := of_decide_eq_true TA
             have q271 : x15_5 < (t249.length : Int) := of_decide_eq_true TA
             obtain ⟨ad271, e271, hx271_0⟩ := Kd.at_int (Kd.V_reads' HO_13.out).2.2 x15_5 p271 q271
             obtain rfl : ad256 = ad271 := (by injection e271)
             replace p271 := eq_true p271
             replace q271 := eq_true q271
             have p272 : 0 ≤ (0 : Int) := (by omega)
             have q272 : 0 < (t242.length : Int) := of_decide_eq_true TA
             (try (obtain ⟨Aoz, coz, eoz⟩ := Kd.V_slice HO_9.out; subst eoz))
             obtain ⟨ad272, e272, hx272_0⟩ := Kd.at_int (Kd.V_reads' HO_9.out).2.2 0 p272 q272
             cases e272
             have qi272 : (0 < t242.length) = True := eq_true (by omega)
             (try rw [show ((0 : Int)).toNat = 0 from rfl] at hx272_0)
             (try rw [Addr.add_zero'] at hx272_0)
             replace p272 := eq_true p272
             replace q272 := eq_true q272
             refine start_ (n := 64) (S := fun w' => w'.cell? ⟨gb234, 0, none⟩ = some (.slice (some ad263) l2_0.length c2_0) ∧ w'.cell? ⟨gb234, 1, none⟩ = some (.slice A2_1 l2_1.length c2_1) ∧ w'.cell? ⟨gb234, 2, none⟩ = some (.int .i64 a2_2) ∧ w'.cell? ⟨gb234, 3, none⟩ = some (.int .i64 a2_3) ∧ w'.cell? (ad256.add (x15_5).toNat) = some (.int .i64 (rd t249 x15_5)) ∧ w'.cell? (ad262.add ((rd t249 x15_5)).toNat) = some (.int .i64 (rd ((rd_T62 l0_2 a1).f1) (rd t249 x15_5))) ∧ w'.cell? (ad263.add (x12_3).toNat) = some (.int .i64 (rd l2_0 x12_3)) ∧ w'.cell? (ad256.add (x15_5).toNat) = some (.int .i64 (rd t249 x15_5)) ∧ w'.cell? ad272 = some (.int .i64 (rd t242 0))) (ds := []) (.replicate 64 false) (by kernel_rfl) rfl rfl ⟨czz BK234.out 0, czz BK234.out 1, czz BK234.out 2, czz BK234.out 3, hx261_0, ((HB.out.cell  (World.block_lt_of_cell? w _ hw262_0)).trans hw262_0), ((HB.out.cell  (World.block_lt_of_cell? w _ hw263_0)).trans hw263_0), hx271_0, hx272_0⟩ (fun hHeld => ?_); refine with_tabW saronlaw09_HeardRead.tab20 saronlaw09_HeardRead.bits20 (fun HT_ HW_ => ?_)
             generalize w120.drew = w121 at HO_9 HO_13 HO259 BK233 BK234 HB hx261_0 hx262_0 hx263_0 hx271_0 hx272_0 hHeld ⊢
             refine pT 0 154 (bt 64 1) (k := ?_)
             refine pT 1 155 (bt 64 3) (k := ?_)
             refine pT 2 156 (bt 64 7) (k := ?_)
             refine pT 3 157 (bt 64 15) (k := ?_)
             refine pT 4 158 (bt 64 31) (k := ?_)
             refine pT 5 159 (bt 64 63) (k := ?_)
             refine pT 6 160 (bt 64 127) (k := ?_)
             refine pT 10 164 (bt 64 1151) (k := ?_)
             refine pT 12 166 (bt 64 5247) (k := ?_)
             refine pT 17 171 (bt 64 136319) (k := ?_)
             refine tT9 7 161 (bt 64 136447) hHeld (k := ?_)
             refine pT 8 162 (bt 64 136703) (k := ?_)
             refine tT9 9 163 (bt 64 137215) hHeld (k := ?_)
             refine tT9 11 165 (bt 64 139263) hHeld (k := ?_)
             refine pT 13 167 (bt 64 147455) (k := ?_)
             refine tT9 14 168 (bt 64 163839) hHeld (k := ?_)
             refine pT 15 169 (bt 64 196607) (k := ?_)
             refine tT9 18 172 (bt 64 458751) hHeld (k := ?_)
             refine pT 19 173 (bt 64 983039) (k := ?_)
             refine one_ (i := 16) (N := some 170) (bt 64 1048575) rfl rfl (one_of HT_.out (by kernel_rfl)) (by decide) (fun K hK => ?_)
             refine goes_ Tryd.func44 (by kernel_rfl) rfl #[.int .i64 (wrap64 ((rd ((rd_T62 l0_2 a1).f1) (rd t249 x15_5)) - (rd l2_0 x12_3)))] (by rfl) rfl rfl TM ?_
             with_reducible refine (saronref00_Plain.calls (wrap64 ((rd ((rd_T62 l0_2 a1).f1) (rd t249 x15_5)) - (rd l2_0 x12_3))) t264 _ A76.out).mono ?_
             rintro e w' ⟨rfl, ⟨nd, rfl⟩⟩
             refine ⟨_, rfl, ?_⟩
             refine hK.out _ _ ⟨czz BK234.out 0, czz BK234.out 1, czz BK234.out 2, czz BK234.out 3, hHeld.2.2.2.2.1, ((HB.out.cell  (World.block_lt_of_cell? w _ hw262_0)).trans hw262_0), ((HB.out.cell  (World.block_lt_of_cell? w _ hw263_0)).trans hw263_0), hHeld.2.2.2.2.2.2.2.1, hHeld.2.2.2.2.2.2.2.2⟩ (fun hHeld => ?_)
             clear hK K
             refine norm_ (a' := ?_) ?_ ?_
             rotate_left
             ·show Act.put _ (some 170) _ = _
              simp only [Act.put, lA, lZ, lS, i64_w, i32_w]
              rfl
             as_aux_lemma =>
             refine pT 20 174 (bt 64 2097151) (k := ?_)
             refine pT 21 175 (bt 64 4194303) (k := ?_)
             refine pT 22 176 (bt 64 8388607) (k := ?_)
             refine pT 23 177 (bt 64 16777215) (k := ?_)
             refine pT 25 179 (bt 64 50331647) (k := ?_)
             refine tT9 24 178 (bt 64 67108863) hHeld (k := ?_)
             refine one_ (i := 26) (N := some 180) (bt 64 134217727) rfl rfl (one_of HT_.out (by kernel_rfl)) (by decide) (fun K hK => ?_)
             refine goes_ Tryd.func39 (by kernel_rfl) rfl #[.slice A2_1 l2_1.length c2_1, .int .i64 x12_3] (by rfl) rfl rfl TM ?_
             with_reducible refine (saronref00_Where.calls k5 _ _ l2_1 x12_3 t265 _ ?side1 ?side2 A83.out).mono ?_
             (case side1 => exact TD HR2_1.out (TB2 GE233.out GE234.out))
             (case side2 => exact HC2_1.out)
             rintro e w' ⟨rfl, ⟨nd, rfl⟩⟩
             refine ⟨_, rfl, ?_⟩
             obtain ⟨Ao122, co122, eo122⟩ := Kd.V_slice HO_9.out
             (first | subst eo122 | (injection eo122 with f1_ f2_ f3_; have f4_ := f1_.symm; have f5_ := f3_.symm; clear f1_ f2_ f3_; subst f4_; subst f5_))
             refine hK.out _ _ ⟨czz BK234.out 0, czz BK234.out 1, czz BK234.out 2, czz BK234.out 3, hHeld.2.2.2.2.1, ((HB.out.cell  (World.block_lt_of_cell? w _ hw262_0)).trans hw262_0), ((HB.out.cell  (World.block_lt_of_cell? w _ hw263_0)).trans hw263_0), hHeld.2.2.2.2.2.2.2.1, hHeld.2.2.2.2.2.2.2.2⟩ (fun hHeld => ?_)
             clear hK K
             refine norm_ (a' := ?_) ?_ ?_
             rotate_left
             ·show Act.put _ (some 180) _ = _
              simp only [Act.put, lA, lZ, lS, i64_w, i32_w]
              rfl
             refine pT 27 181 (bt 64 268435455) (k := ?_)
             refine pT 28 182 (bt 64 536870911) (k := ?_)
             refine pU 29 183 (bt 64 1073741823) (k := ?_)
             refine pU 30 184 (bt 64 2147483647) (k := ?_)
             refine pU 31 185 (bt 64 4294967295) (k := ?_)
             refine pT 32 186 (bt 64 8589934591) (k := ?_)
             refine pT 33 187 (bt 64 17179869183) (k := ?_)
             refine pT 34 188 (bt 64 34359738367) (k := ?_)
             refine pT 35 189 (bt 64 68719476735) (k := ?_)
             refine pT 36 190 (bt 64 137438953471) (k := ?_)
             refine pT 37 191 (bt 64 274877906943) (k := ?_)
             refine pT 39 193 (bt 64 824633720831) (k := ?_)
             refine pT 40 194 (bt 64 1924145348607) (k := ?_)
             refine pT 42 196 (bt 64 6322191859711) (k := ?_)
             refine tT9 38 192 (bt 64 6597069766655) hHeld (k := ?_)
             refine tT9 41 195 (bt 64 8796093022207) hHeld (k := ?_)
             refine pT 43 197 (bt 64 17592186044415) (k := ?_)
             refine pT 44 198 (bt 64 35184372088831) (k := ?_)
             refine pT 45 199 (bt 64 70368744177663) (k := ?_)
             refine pT 46 200 (bt 64 140737488355327) (k := ?_)
             refine pU 47 201 (bt 64 281474976710655) (k := ?_)
             refine pU 48 202 (bt 64 562949953421311) (k := ?_)
             refine pU 49 203 (bt 64 1125899906842623) (k := ?_)
             refine pU 50 204 (bt 64 2251799813685247) (k := ?_)
             refine pU 51 205 (bt 64 4503599627370495) (k := ?_)
             refine pU 52 206 (bt 64 9007199254740991) (k := ?_)
             refine pU 53 207 (bt 64 18014398509481983) (k := ?_)
             refine pU 54 208 (bt 64 36028797018963967) (k := ?_)
             refine pU 55 209 (bt 64 72057594037927935) (k := ?_)
             refine pU 56 210 (bt 64 144115188075855871) (k := ?_)
             refine pU 57 211 (bt 64 288230376151711743) (k := ?_)
             refine pU 58 212 (bt 64 576460752303423487) (k := ?_)
             refine pU 59 213 (bt 64 1152921504606846975) (k := ?_)
             refine pU 60 214 (bt 64 2305843009213693951) (k := ?_)
             refine pU 61 215 (bt 64 4611686018427387903) (k := ?_)
             refine pU 62 216 (bt 64 9223372036854775807) (k := ?_)
             refine pT 63 217 (bt 64 18446744073709551615) (k := ?_)
             refine done_ (done_of HT_.out (by kernel_rfl)) ?_
             try go_wp2
             go_ret
             exact ⟨by first | rfl | (simp [errW_none, errW_some] <;> rfl) | (simp only [← hji77]; first | rfl | (simp [errW_none, errW_some] <;> rfl)) | (simp [*, errW_none, errW_some] <;> rfl), TB2 GE233.out GE234.out⟩
            as_aux_lemma =>
            rw [if_neg c117] at H
            have c117b0 : decide ((rd t249 x15_5) < (wrap64 ((rd t242 0) + x12_3))) = false := decide_eq_false c117
            clear c117
            (try clear hji100w)
            (try clear hji100)
            obtain ⟨ji123, hji123⟩ : ∃ j_ : Int, (wrap64 ((t242.length : Int) - 1)) = j_ := ⟨_, rfl⟩
            replace H : (if 0 ≤ (ji123) then (if (ji123) < (t242.length : Int) then (if (rd t249 x15_5) > (wrap64 ((wrap64 ((rd t242 (ji123)) + x12_3)) + a2_2)) then (some false) else (saronlaw09_HeardRead.l1 k5 a1 t235 t242 ((rd_T62 l0_2 a1).f1) x12_3 t249 (wrap64 (x15_5 + 1)) a0_0 l0_1 l0_2 l2_0 l2_1 a2_2 a2_3)) else (none)) else (none)) = some r := by first | (rw [hji123] at H; exact H) | (simp only [hji123] at H ⊢; exact H)
            (try rw [hji123] at A70)
            (try rw [hji123] at A76)
            (try rw [hji123] at A83)
            have hji123w : (IntKind.i64.wrap ((t242.length : Int) - 1)) = ji123 := (i64_w _).trans hji123
            by_cases c124 : 0 ≤ (ji123)
            rotate_left
            ·rw [if_neg c124] at H
             exact absurd H (by simp)
            as_aux_lemma =>
            rw [if_pos c124] at H
            have c124b0 : decide (0 ≤ (ji123)) = true := decide_eq_true c124
            clear c124
            by_cases c125 : (ji123) < (t242.length : Int)
            rotate_left
            ·rw [if_neg c125] at H
             exact absurd H (by simp)
            as_aux_lemma =>
            rw [if_pos c125] at H
            have c125b0 : decide ((ji123) < (t242.length : Int)) = true := decide_eq_true c125
            clear c125
            by_cases c126 : (rd t249 x15_5) > (wrap64 ((wrap64 ((rd t242 (ji123)) + x12_3)) + a2_2))
            ·as_aux_lemma =>
             rw [if_pos c126] at H
             have c126b0 : decide ((wrap64 ((wrap64 ((rd t242 (ji123)) + x12_3)) + a2_2)) < (rd t249 x15_5)) = true := decide_eq_true c126
             clear c126
             obtain rfl := Option.some.inj H
             obtain ⟨Ao127, co127, eo127⟩ := Kd.V_slice HO_13.out
             subst eo127
             try go_wp2
             have n0_ := Aside0.mk (Kd.V_drew HO_9.out)
             have n1_ := Aside0.mk (Kd.V_drew HO_13.out)
             have n2_ := Aside0.mk (blk_drew BK233.out)
             have n3_ := Aside0.mk (blk_drew BK234.out)
             have n4_ := Aside0.mk (below_drew1 HB.out)
             clear HO_9
             clear HO_13
             clear BK233
             clear BK234
             clear HB
             have HO_9 := n0_
             have HO_13 := n1_
             have BK233 := n2_
             have BK234 := n3_
             have HB := n4_
             clear n0_ n1_ n2_ n3_ n4_
             have p255 : 0 ≤ (a1 : Int) := of_decide_eq_true TA
             have q255 : a1 < (l0_2.length : Int) := of_decide_eq_true TA
             obtain ⟨ad255, A255_1, c255_1, e255, hx255_0, hx255_1, hl255_1, hi255_1⟩ := at_T62 HR0_2.out a1 p255 q255
             have hw255_1 := hx255_1
             have hw255_0 := hx255_0
             obtain rfl : ad246 = ad255 := (by injection e255)
             replace hx255_0 := (HB.out.cell  (World.block_lt_of_cell? w _ hx255_0)).trans hx255_0
             replace hx255_1 := (HB.out.cell  (World.block_lt_of_cell? w _ hx255_1)).trans hx255_1
             have HR255_1 := Aside0.mk hi255_1
             have HC255_1 := Aside0.mk hl255_1
             clear hi255_1 hl255_1
             replace p255 := eq_true p255
             replace q255 := eq_true q255
             have p256 : 0 ≤ (x15_5 : Int) := of_decide_eq_true TA
             have q256 : x15_5 < (t249.length : Int) := of_decide_eq_true TA
             obtain ⟨ad256, e256, hx256_0⟩ := Kd.at_int (Kd.V_reads' HO_13.out).2.2 x15_5 p256 q256
             cases e256
             replace p256 := eq_true p256
             replace q256 := eq_true q256
             refine start_ (n := 18) (S := fun w' => w'.cell? ⟨gb233, 0, none⟩ = some (.int .i64 a0_0) ∧ w'.cell? ⟨gb233, 1, none⟩ = some (.slice A0_1 l0_1.length c0_1) ∧ w'.cell? ⟨gb233, 2, none⟩ = some (.slice (some ad246) l0_2.length c0_2) ∧ w'.cell? (ad246.add ((a1).toNat * 2)) = some (.int .i64 ((rd_T62 l0_2 a1).f0)) ∧ w'.cell? ⟨(ad246.add ((a1).toNat * 2)).block, (ad246.add ((a1).toNat * 2)).off + 1, none⟩ = some (.slice A255_1 ((rd_T62 l0_2 a1).f1).length c255_1) ∧ w'.cell? (ad256.add (x15_5).toNat) = some (.int .i64 (rd t249 x15_5))) (ds := []) (.replicate 18 false) (by kernel_rfl) rfl rfl ⟨czz BK233.out 0, czz BK233.out 1, czz BK233.out 2, ((HB.out.cell  (World.block_lt_of_cell? w _ hw255_0)).trans hw255_0), ((HB.out.cell  (World.block_lt_of_cell? w _ hw255_1)).trans hw255_1), hx256_0⟩ (fun hHeld => ?_); refine with_tabW saronlaw09_HeardRead.tab19 saronlaw09_HeardRead.bits19 (fun HT_ HW_ => ?_)
             generalize wr.drew = w128 at HO_9 HO_13 BK233 BK234 HB HR255_1 hx255_0 hx255_1 hx256_0 hHeld ⊢
             refine pT 0 139 (bt 18 1) (k := ?_)
             refine pT 2 141 (bt 18 5) (k := ?_)
             refine pT 4 143 (bt 18 21) (k := ?_)
             refine pT 8 147 (bt 18 277) (k := ?_)
             refine pT 9 148 (bt 18 789) (k := ?_)
             refine pT 10 149 (bt 18 1813) (k := ?_)
             refine tT6 1 140 (bt 18 1815) hHeld (k := ?_)
             refine tT6 3 142 (bt 18 1823) hHeld (k := ?_)
             refine pT 5 144 (bt 18 1855) (k := ?_)
             refine pT 6 145 (bt 18 1919) (k := ?_)
             refine tT6 7 146 (bt 18 2047) hHeld (k := ?_)
             refine tT6 11 150 (bt 18 4095) hHeld (k := ?_)
             refine one_ (i := 12) (N := some 151) (bt 18 8191) rfl rfl (one_of HT_.out (by kernel_rfl)) (by decide) (fun K hK => ?_)
             refine goes_ Tryd.func43 (by kernel_rfl) rfl #[.agg #[.int .i64 a0_0, .slice A0_1 l0_1.length c0_1], .int .i64 ((rd_T62 l0_2 a1).f0), .int .i64 (rd t249 x15_5)] (by rfl) rfl rfl TM ?_
             with_reducible refine (cycle_Struck.calls a0_0 _ _ l0_1 ((rd_T62 l0_2 a1).f0) (rd t249 x15_5) t257 t260 _ ?side1 ?side2 ?side3 A70.out).mono ?_
             (case side1 => exact TC HR0_1.out)
             (case side2 => exact HC0_1.out)
             (case side3 => exact Glob.fr HG.out (Fr.of_below (TB2 GE233.out GE234.out)))
             rintro e w129 ⟨v258, rfl, ho0, hb⟩
             have HS5_ := (hb.cell (World.block_lt_of_cell? _ _ (hHeld.2.2.2.2.2))).trans (hHeld.2.2.2.2.2)
             refine ⟨_, rfl, ?_⟩
             have n0_ := Aside0.mk (Kd.V_below (by (with_reducible repeat (first | apply Kd.V_alloc | apply Kd.V_drewN | apply Kd.V_drew)); exact HO_9.out) hb)
             have n1_ := Aside0.mk (Kd.V_below (by (with_reducible repeat (first | apply Kd.V_alloc | apply Kd.V_drewN | apply Kd.V_drew)); exact HO_13.out) hb)
             have n2_ := Aside0.mk (Kd.V_lower (Kd.V_mono (ok' := fun k_ => k_ ≠ gb233 ∧ k_ ≠ gb234) ho0 (fun k_ hk_ => ⟨(Kd.freshB (g := gb233) (o := .cells #[.int .i64 a0_0, .slice A0_1 l0_1.length c0_1, .slice (some ad246) l0_2.length c0_2] 27 (0, 0)) (TK BK233.out) k_ hk_), (Kd.freshB (g := gb234) (o := .cells #[.slice A2_0 l2_0.length c2_0, .slice A2_1 l2_1.length c2_1, .int .i64 a2_2, .int .i64 a2_3] 30 (0, 0)) (TK BK234.out) k_ hk_)⟩)) (below_size (TB2 GE233.out GE234.out)))
             have n3_ := Aside0.mk (blk_below (g := gb233) (o := .cells #[.int .i64 a0_0, .slice A0_1 l0_1.length c0_1, .slice (some ad246) l0_2.length c0_2] 27 (0, 0)) (TK BK233.out) hb)
             have n4_ := Aside0.mk (blk_below (g := gb234) (o := .cells #[.slice A2_0 l2_0.length c2_0, .slice A2_1 l2_1.length c2_1, .int .i64 a2_2, .int .i64 a2_3] 30 (0, 0)) (TK BK234.out) hb)
             have n5_ := Aside0.mk (below_step (TB2 GE233.out GE234.out) hb)
             clear HO_9
             clear HO_13
             clear BK233
             clear BK234
             clear HB
             have HO_9 := n0_
             have HO_13 := n1_
             have HO259 := n2_
             have BK233 := n3_
             have BK234 := n4_
             have HB := n5_
             clear n0_ n1_ n2_ n3_ n4_ n5_
             (try clear hb)
             (try clear hb2)
             (try clear hk)
             (try clear hi)
             (try clear ho0)
             refine hK.out _ _ ⟨czz BK233.out 0, czz BK233.out 1, czz BK233.out 2, ((HB.out.cell  (World.block_lt_of_cell? w _ hw255_0)).trans hw255_0), ((HB.out.cell  (World.block_lt_of_cell? w _ hw255_1)).trans hw255_1), HS5_⟩ (fun hHeld => ?_)
             clear hK K
             refine norm_ (a' := ?_) ?_ ?_
             rotate_left
             ·show Act.put _ (some 151) _ = _
              simp only [Act.put, lA, lZ, lS, i64_w, i32_w]
              rfl
             as_aux_lemma =>
             refine pT 13 138 (bt 18 16383) (k := ?_)
             refine pT 14 152 (bt 18 32767) (k := ?_)
             refine pT 15 153 (bt 18 65535) (k := ?_)
             refine pT 16 16 (bt 18 131071) (k := ?_)
             refine pT 17 17 (bt 18 262143) (k := ?_)
             refine done_ (done_of HT_.out (by kernel_rfl)) ?_
             try go_wp2
             have n0_ := Aside0.mk (Kd.V_drew HO_9.out)
             have n1_ := Aside0.mk (Kd.V_drew HO_13.out)
             have n2_ := Aside0.mk (Kd.V_drew HO259.out)
             have n3_ := Aside0.mk (blk_drew BK233.out)
             have n4_ := Aside0.mk (blk_drew BK234.out)
             have n5_ := Aside0.mk (below_drew1 HB.out)
             clear HO_9
             clear HO_13
             clear HO259
             clear BK233
             clear BK234
             clear HB
             have HO_9 := n0_
             have HO_13 := n1_
             have HO259 := n2_
             have BK233 := n3_
             have BK234 := n4_
             have HB := n5_
             clear n0_ n1_ n2_ n3_ n4_ n5_
             have p261 : 0 ≤ (x15_5 : Int) := of_decide_eq_true TA
             have q261 : x15_5 < (t249.length : Int) := of_decide_eq_true TA
             obtain ⟨ad261, e261, hx261_0⟩ := Kd.at_int (Kd.V_reads' HO_13.out).2.2 x15_5 p261 q261
             obtain rfl : ad256 = ad261 := (by injection e261)
             replace p261 := eq_true p261
             replace q261 := eq_true q261
             have p262 : 0 ≤ ((rd t249 x15_5) : Int) := of_decide_eq_true TA
             have q262 : (rd t249 x15_5) < (((rd_T62 l0_2 a1).f1).length : Int) := of_decide_eq_true TA
             obtain ⟨ad262, e262, hx262_0⟩ := Kd.at_int HR246_1.out (rd t249 x15_5) p262 q262
             have hw262_0 := hx262_0
             cases e262
             replace hx262_0 := (HB.out.cell  (World.block_lt_of_cell? w _ hx262_0)).trans hx262_0
             replace p262 := eq_true p262
             replace q262 := eq_true q262
             have p263 : 0 ≤ (x12_3 : Int) := of_decide_eq_true TA
             have q263 : x12_3 < (l2_0.length : Int) := of_decide_eq_true TA
             obtain ⟨ad263, e263, hx263_0⟩ := Kd.at_int HR2_0.out x12_3 p263 q263
             have hw263_0 := hx263_0
             cases e263
             replace hx263_0 := (HB.out.cell  (World.block_lt_of_cell? w _ hx263_0)).trans hx263_0
             replace p263 := eq_true p263
             replace q263 := eq_true q263
             have p271 : 0 ≤ (x15_5 : Int) := of_decide_eq_true TA
             have q271 : x15_5 < (t249.length : Int) := of_decide_eq_true TA
             obtain ⟨ad271, e271, hx271_0⟩ := Kd.at_int (Kd.V_reads' HO_13.out).2.2 x15_5 p271 q271
             obtain rfl : ad256 = ad271 := (by injection e271)
             replace p271 := eq_true p271
             replace q271 := eq_true q271
             have p272 : 0 ≤ (0 : Int) := (by omega)
             have q272 : 0 < (t242.length : Int) := of_decide_eq_true TA
             (try (obtain ⟨Aoz, coz, eoz⟩ := Kd.V_slice HO_9.out; subst eoz))
             obtain ⟨ad272, e272, hx272_0⟩ := Kd.at_int (Kd.V_reads' HO_9.out).2.2 0 p272 q272
             cases e272
             have qi272 : (0 < t242.length) = True := eq_true (by omega)
             (try rw [show ((0 : Int)).toNat = 0 from rfl] at hx272_0)
             (try rw [Addr.add_zero'] at hx272_0)
             replace p272 := eq_true p272
             replace q272 := eq_true q272
             have p273 : 0 ≤ (x15_5 : Int) := of_decide_eq_true TA
             have q273 : x15_5 < (t249.length : Int) := of_decide_eq_true TA
             obtain ⟨ad273, e273, hx273_0⟩ := Kd.at_int (Kd.V_reads' HO_13.out).2.2 x15_5 p273 q273
             obtain rfl : ad256 = ad273 := (by injection e273)
             replace p273 := eq_true p273
             replace q273 := eq_true q273
             have p274 : 0 ≤ ((ji123) : Int) := of_decide_eq_true TA
             have q274 : (ji123) < (t242.length : Int) := of_decide_eq_true TA
             obtain ⟨ad274, e274, hx274_0⟩ := Kd.at_int (Kd.V_reads' HO_9.out).2.2 (ji123) p274 q274
             obtain rfl : ad272 = ad274 := (by injection e274)
             replace p274 := eq_true p274
             replace q274 := eq_true q274
             refine start_ (n := 64) (S := fun w' => w'.cell? ⟨gb234, 0, none⟩ = some (.slice (some ad263) l2_0.length c2_0) ∧ w'.cell? ⟨gb234, 1, none⟩ = some (.slice A2_1 l2_1.length c2_1) ∧ w'.cell? ⟨gb234, 2, none⟩ = some (.int .i64 a2_2) ∧ w'.cell? ⟨gb234, 3, none⟩ = some (.int .i64 a2_3) ∧ w'.cell? (ad256.add (x15_5).toNat) = some (.int .i64 (rd t249 x15_5)) ∧ w'.cell? (ad262.add ((rd t249 x15_5)).toNat) = some (.int .i64 (rd ((rd_T62 l0_2 a1).f1) (rd t249 x15_5))) ∧ w'.cell? (ad263.add (x12_3).toNat) = some (.int .i64 (rd l2_0 x12_3)) ∧ w'.cell? (ad256.add (x15_5).toNat) = some (.int .i64 (rd t249 x15_5)) ∧ w'.cell? ad272 = some (.int .i64 (rd t242 0)) ∧ w'.cell? (ad256.add (x15_5).toNat) = some (.int .i64 (rd t249 x15_5)) ∧ w'.cell? (ad272.add ((ji123)).toNat) = some (.int .i64 (rd t242 (ji123)))) (ds := []) (.replicate 64 false) (by kernel_rfl) rfl rfl ⟨czz BK234.out 0, czz BK234.out 1, czz BK234.out 2, czz BK234.out 3, hx261_0, ((HB.out.cell  (World.block_lt_of_cell? w _ hw262_0)).trans hw262_0), ((HB.out.cell  (World.block_lt_of_cell? w _ hw263_0)).trans hw263_0), hx271_0, hx272_0, hx273_0, hx274_0⟩ (fun hHeld => ?_); refine with_tabW saronlaw09_HeardRead.tab20 saronlaw09_HeardRead.bits20 (fun HT_ HW_ => ?_)
             generalize w129.drew = w130 at HO_9 HO_13 HO259 BK233 BK234 HB hx261_0 hx262_0 hx263_0 hx271_0 hx272_0 hx273_0 hx274_0 hHeld ⊢
             refine pT 0 154 (bt 64 1) (k := ?_)
             refine pT 1 155 (bt 64 3) (k := ?_)
             refine pT 2 156 (bt 64 7) (k := ?_)
             refine pT 3 157 (bt 64 15) (k := ?_)
             refine pT 4 158 (bt 64 31) (k := ?_)
             refine pT 5 159 (bt 64 63) (k := ?_)
             refine pT 6 160 (bt 64 127) (k := ?_)
             refine pT 10 164 (bt 64 1151) (k := ?_)
             refine pT 12 166 (bt 64 5247) (k := ?_)
             refine pT 17 171 (bt 64 136319) (k := ?_)
             refine tT11 7 161 (bt 64 136447) hHeld (k := ?_)
             refine pT 8 162 (bt 64 136703) (k := ?_)
             refine tT11 9 163 (bt 64 137215) hHeld (k := ?_)
             refine tT11 11 165 (bt 64 139263) hHeld (k := ?_)
             refine pT 13 167 (bt 64 147455) (k := ?_)
             refine tT11 14 168 (bt 64 163839) hHeld (k := ?_)
             refine pT 15 169 (bt 64 196607) (k := ?_)
             refine tT11 18 172 (bt 64 458751) hHeld (k := ?_)
             refine pT 19 173 (bt 64 983039) (k := ?_)
             refine one_ (i := 16) (N := some 170) (bt 64 1048575) rfl rfl (one_of HT_.out (by kernel_rfl)) (by decide) (fun K hK => ?_)
             refine goes_ Tryd.func44 (by kernel_rfl) rfl #[.int .i64 (wrap64 ((rd ((rd_T62 l0_2 a1).f1) (rd t249 x15_5)) - (rd l2_0 x12_3)))] (by rfl) rfl rfl TM ?_
             with_reducible refine (saronref00_Plain.calls (wrap64 ((rd ((rd_T62 l0_2 a1).f1) (rd t249 x15_5)) - (rd l2_0 x12_3))) t264 _ A76.out).mono ?_
             rintro e w' ⟨rfl, ⟨nd, rfl⟩⟩
             refine ⟨_, rfl, ?_⟩
             refine hK.out _ _ ⟨czz BK234.out 0, czz BK234.out 1, czz BK234.out 2, czz BK234.out 3, hHeld.2.2.2.2.1, ((HB.out.cell  (World.block_lt_of_cell? w _ hw262_0)).trans hw262_0), ((HB.out.cell  (World.block_lt_of_cell? w _ hw263_0)).trans hw263_0), hHeld.2.2.2.2.2.2.2.1, hHeld.2.2.2.2.2.2.2.2.1, hHeld.2.2.2.2.2.2.2.2.2.1, hHeld.2.2.2.2.2.2.2.2.2.2⟩ (fun hHeld => ?_)
             clear hK K
             refine norm_ (a' := ?_) ?_ ?_
             rotate_left
             ·show Act.put _ (some 170) _ = _
              simp only [Act.put, lA, lZ, lS, i64_w, i32_w]
              rfl
             as_aux_lemma =>
             refine pT 20 174 (bt 64 2097151) (k := ?_)
             refine pT 21 175 (bt 64 4194303) (k := ?_)
             refine pT 22 176 (bt 64 8388607) (k := ?_)
             refine pT 23 177 (bt 64 16777215) (k := ?_)
             refine pT 25 179 (bt 64 50331647) (k := ?_)
             refine tT11 24 178 (bt 64 67108863) hHeld (k := ?_)
             refine one_ (i := 26) (N := some 180) (bt 64 134217727) rfl rfl (one_of HT_.out (by kernel_rfl)) (by decide) (fun K hK => ?_)
             refine goes_ Tryd.func39 (by kernel_rfl) rfl #[.slice A2_1 l2_1.length c2_1, .int .i64 x12_3] (by rfl) rfl rfl TM ?_
             with_reducible refine (saronref00_Where.calls k5 _ _ l2_1 x12_3 t265 _ ?side1 ?side2 A83.out).mono ?_
             (case side1 => exact TD HR2_1.out (TB2 GE233.out GE234.out))
             (case side2 => exact HC2_1.out)
             rintro e w' ⟨rfl, ⟨nd, rfl⟩⟩
             refine ⟨_, rfl, ?_⟩
             obtain ⟨Ao131, co131, eo131⟩ := Kd.V_slice HO_9.out
             (first | subst eo131 | (injection eo131 with f1_ f2_ f3_; have f4_ := f1_.symm; have f5_ := f3_.symm; clear f1_ f2_ f3_; subst f4_; subst f5_))
             refine hK.out _ _ ⟨czz BK234.out 0, czz BK234.out 1, czz BK234.out 2, czz BK234.out 3, hHeld.2.2.2.2.1, ((HB.out.cell  (World.block_lt_of_cell? w _ hw262_0)).trans hw262_0), ((HB.out.cell  (World.block_lt_of_cell? w _ hw263_0)).trans hw263_0), hHeld.2.2.2.2.2.2.2.1, hHeld.2.2.2.2.2.2.2.2.1, hHeld.2.2.2.2.2.2.2.2.2.1, hHeld.2.2.2.2.2.2.2.2.2.2⟩ (fun hHeld => ?_)
             clear hK K
             refine norm_ (a' := ?_) ?_ ?_
             rotate_left
             ·show Act.put _ (some 180) _ = _
              simp only [Act.put, lA, lZ, lS, i64_w, i32_w]
              rfl
             refine pT 27 181 (bt 64 268435455) (k := ?_)
             refine pT 28 182 (bt 64 536870911) (k := ?_)
             refine pU 29 183 (bt 64 1073741823) (k := ?_)
             refine pU 30 184 (bt 64 2147483647) (k := ?_)
             refine pU 31 185 (bt 64 4294967295) (k := ?_)
             refine pT 32 186 (bt 64 8589934591) (k := ?_)
             refine pT 33 187 (bt 64 17179869183) (k := ?_)
             refine pT 34 188 (bt 64 34359738367) (k := ?_)
             refine pT 35 189 (bt 64 68719476735) (k := ?_)
             refine pT 36 190 (bt 64 137438953471) (k := ?_)
             refine pT 37 191 (bt 64 274877906943) (k := ?_)
             refine pT 39 193 (bt 64 824633720831) (k := ?_)
             refine pT 40 194 (bt 64 1924145348607) (k := ?_)
             refine pT 42 196 (bt 64 6322191859711) (k := ?_)
             refine tT11 38 192 (bt 64 6597069766655) hHeld (k := ?_)
             refine tT11 41 195 (bt 64 8796093022207) hHeld (k := ?_)
             refine pT 43 197 (bt 64 17592186044415) (k := ?_)
             refine pT 44 198 (bt 64 35184372088831) (k := ?_)
             refine pT 45 199 (bt 64 70368744177663) (k := ?_)
             refine pT 46 200 (bt 64 140737488355327) (k := ?_)
             refine pT 47 201 (bt 64 281474976710655) (k := ?_)
             refine pT 48 202 (bt 64 562949953421311) (k := ?_)
             refine pT 49 203 (bt 64 1125899906842623) (k := ?_)
             refine pT 51 205 (bt 64 3377699720527871) (k := ?_)
             refine pT 52 206 (bt 64 7881299347898367) (k := ?_)
             refine pT 53 207 (bt 64 16888498602639359) (k := ?_)
             refine pT 54 208 (bt 64 34902897112121343) (k := ?_)
             refine pT 55 209 (bt 64 70931694131085311) (k := ?_)
             refine pT 57 211 (bt 64 215046882206941183) (k := ?_)
             refine pT 59 213 (bt 64 791507634510364671) (k := ?_)
             refine tT11 50 204 (bt 64 792633534417207295) hHeld (k := ?_)
             refine tT11 56 210 (bt 64 864691128455135231) hHeld (k := ?_)
             refine pT 58 212 (bt 64 1152921504606846975) (k := ?_)
             refine tT11 60 214 (bt 64 2305843009213693951) hHeld (k := ?_)
             refine pT 61 215 (bt 64 4611686018427387903) (k := ?_)
             refine pT 62 216 (bt 64 9223372036854775807) (k := ?_)
             refine pT 63 217 (bt 64 18446744073709551615) (k := ?_)
             refine done_ (done_of HT_.out (by kernel_rfl)) ?_
             try go_wp2
             go_ret
             exact ⟨by first | rfl | (simp [errW_none, errW_some] <;> rfl) | (simp only [← hji77, ← hji123]; first | rfl | (simp [errW_none, errW_some] <;> rfl)) | (simp [*, errW_none, errW_some] <;> rfl), TB2 GE233.out GE234.out⟩
            as_aux_lemma =>
            rw [if_neg c126] at H
            have c126b0 : decide ((wrap64 ((wrap64 ((rd t242 (ji123)) + x12_3)) + a2_2)) < (rd t249 x15_5)) = false := decide_eq_false c126
            clear c126
            have H' := Aside0.mk H
            clear H
            obtain ⟨Ao132, co132, eo132⟩ := Kd.V_slice HO_13.out
            subst eo132
            try go_wp2
            have n0_ := Aside0.mk (Kd.V_drew HO_9.out)
            have n1_ := Aside0.mk (Kd.V_drew HO_13.out)
            have n2_ := Aside0.mk (blk_drew BK233.out)
            have n3_ := Aside0.mk (blk_drew BK234.out)
            have n4_ := Aside0.mk (below_drew1 HB.out)
            clear HO_9
            clear HO_13
            clear BK233
            clear BK234
            clear HB
            have HO_9 := n0_
            have HO_13 := n1_
            have BK233 := n2_
            have BK234 := n3_
            have HB := n4_
            clear n0_ n1_ n2_ n3_ n4_
            have p255 : 0 ≤ (a1 : Int) := of_decide_eq_true TA
            have q255 : a1 < (l0_2.length : Int) := of_decide_eq_true TA
            obtain ⟨ad255, A255_1, c255_1, e255, hx255_0, hx255_1, hl255_1, hi255_1⟩ := at_T62 HR0_2.out a1 p255 q255
            have hw255_1 := hx255_1
            have hw255_0 := hx255_0
            obtain rfl : ad246 = ad255 := (by injection e255)
            replace hx255_0 := (HB.out.cell  (World.block_lt_of_cell? w _ hx255_0)).trans hx255_0
            replace hx255_1 := (HB.out.cell  (World.block_lt_of_cell? w _ hx255_1)).trans hx255_1
            have HR255_1 := Aside0.mk hi255_1
            have HC255_1 := Aside0.mk hl255_1
            clear hi255_1 hl255_1
            replace p255 := eq_true p255
            replace q255 := eq_true q255
            have p256 : 0 ≤ (x15_5 : Int) := of_decide_eq_true TA
            have q256 : x15_5 < (t249.length : Int) := of_decide_eq_true TA
            obtain ⟨ad256, e256, hx256_0⟩ := Kd.at_int (Kd.V_reads' HO_13.out).2.2 x15_5 p256 q256
            cases e256
            replace p256 := eq_true p256
            replace q256 := eq_true q256
            refine start_ (n := 18) (S := fun w' => w'.cell? ⟨gb233, 0, none⟩ = some (.int .i64 a0_0) ∧ w'.cell? ⟨gb233, 1, none⟩ = some (.slice A0_1 l0_1.length c0_1) ∧ w'.cell? ⟨gb233, 2, none⟩ = some (.slice (some ad246) l0_2.length c0_2) ∧ w'.cell? (ad246.add ((a1).toNat * 2)) = some (.int .i64 ((rd_T62 l0_2 a1).f0)) ∧ w'.cell? ⟨(ad246.add ((a1).toNat * 2)).block, (ad246.add ((a1).toNat * 2)).off + 1, none⟩ = some (.slice A255_1 ((rd_T62 l0_2 a1).f1).length c255_1) ∧ w'.cell? (ad256.add (x15_5).toNat) = some (.int .i64 (rd t249 x15_5))) (ds := []) (.replicate 18 false) (by kernel_rfl) rfl rfl ⟨czz BK233.out 0, czz BK233.out 1, czz BK233.out 2, ((HB.out.cell  (World.block_lt_of_cell? w _ hw255_0)).trans hw255_0), ((HB.out.cell  (World.block_lt_of_cell? w _ hw255_1)).trans hw255_1), hx256_0⟩ (fun hHeld => ?_); refine with_tabW saronlaw09_HeardRead.tab19 saronlaw09_HeardRead.bits19 (fun HT_ HW_ => ?_)
            generalize wr.drew = w133 at HO_9 HO_13 BK233 BK234 HB HR255_1 hx255_0 hx255_1 hx256_0 hHeld ⊢
            refine pT 0 139 (bt 18 1) (k := ?_)
            refine pT 2 141 (bt 18 5) (k := ?_)
            refine pT 4 143 (bt 18 21) (k := ?_)
            refine pT 8 147 (bt 18 277) (k := ?_)
            refine pT 9 148 (bt 18 789) (k := ?_)
            refine pT 10 149 (bt 18 1813) (k := ?_)
            refine tT6 1 140 (bt 18 1815) hHeld (k := ?_)
            refine tT6 3 142 (bt 18 1823) hHeld (k := ?_)
            refine pT 5 144 (bt 18 1855) (k := ?_)
            refine pT 6 145 (bt 18 1919) (k := ?_)
            refine tT6 7 146 (bt 18 2047) hHeld (k := ?_)
            refine tT6 11 150 (bt 18 4095) hHeld (k := ?_)
            refine one_ (i := 12) (N := some 151) (bt 18 8191) rfl rfl (one_of HT_.out (by kernel_rfl)) (by decide) (fun K hK => ?_)
            refine goes_ Tryd.func43 (by kernel_rfl) rfl #[.agg #[.int .i64 a0_0, .slice A0_1 l0_1.length c0_1], .int .i64 ((rd_T62 l0_2 a1).f0), .int .i64 (rd t249 x15_5)] (by rfl) rfl rfl TM ?_
            with_reducible refine (cycle_Struck.calls a0_0 _ _ l0_1 ((rd_T62 l0_2 a1).f0) (rd t249 x15_5) t257 t260 _ ?side1 ?side2 ?side3 A70.out).mono ?_
            (case side1 => exact TC HR0_1.out)
            (case side2 => exact HC0_1.out)
            (case side3 => exact Glob.fr HG.out (Fr.of_below (TB2 GE233.out GE234.out)))
            rintro e w134 ⟨v258, rfl, ho0, hb⟩
            have HS5_ := (hb.cell (World.block_lt_of_cell? _ _ (hHeld.2.2.2.2.2))).trans (hHeld.2.2.2.2.2)
            refine ⟨_, rfl, ?_⟩
            have n0_ := Aside0.mk (Kd.V_below (by (with_reducible repeat (first | apply Kd.V_alloc | apply Kd.V_drewN | apply Kd.V_drew)); exact HO_9.out) hb)
            have n1_ := Aside0.mk (Kd.V_below (by (with_reducible repeat (first | apply Kd.V_alloc | apply Kd.V_drewN | apply Kd.V_drew)); exact HO_13.out) hb)
            have n2_ := Aside0.mk (Kd.V_lower (Kd.V_mono (ok' := fun k_ => k_ ≠ gb233 ∧ k_ ≠ gb234) ho0 (fun k_ hk_ => ⟨(Kd.freshB (g := gb233) (o := .cells #[.int .i64 a0_0, .slice A0_1 l0_1.length c0_1, .slice (some ad246) l0_2.length c0_2] 27 (0, 0)) (TK BK233.out) k_ hk_), (Kd.freshB (g := gb234) (o := .cells #[.slice A2_0 l2_0.length c2_0, .slice A2_1 l2_1.length c2_1, .int .i64 a2_2, .int .i64 a2_3] 30 (0, 0)) (TK BK234.out) k_ hk_)⟩)) (below_size (TB2 GE233.out GE234.out)))
            have n3_ := Aside0.mk (blk_below (g := gb233) (o := .cells #[.int .i64 a0_0, .slice A0_1 l0_1.length c0_1, .slice (some ad246) l0_2.length c0_2] 27 (0, 0)) (TK BK233.out) hb)
            have n4_ := Aside0.mk (blk_below (g := gb234) (o := .cells #[.slice A2_0 l2_0.length c2_0, .slice A2_1 l2_1.length c2_1, .int .i64 a2_2, .int .i64 a2_3] 30 (0, 0)) (TK BK234.out) hb)
            have n5_ := Aside0.mk (below_step (TB2 GE233.out GE234.out) hb)
            clear HO_9
            clear HO_13
            clear BK233
            clear BK234
            clear HB
            have HO_9 := n0_
            have HO_13 := n1_
            have HO259 := n2_
            have BK233 := n3_
            have BK234 := n4_
            have HB := n5_
            clear n0_ n1_ n2_ n3_ n4_ n5_
            (try clear hb)
            (try clear hb2)
            (try clear hk)
            (try clear hi)
            (try clear ho0)
            refine hK.out _ _ ⟨czz BK233.out 0, czz BK233.out 1, czz BK233.out 2, ((HB.out.cell  (World.block_lt_of_cell? w _ hw255_0)).trans hw255_0), ((HB.out.cell  (World.block_lt_of_cell? w _ hw255_1)).trans hw255_1), HS5_⟩ (fun hHeld => ?_)
            clear hK K
            refine norm_ (a' := ?_) ?_ ?_
            rotate_left
            ·show Act.put _ (some 151) _ = _
             simp only [Act.put, lA, lZ, lS, i64_w, i32_w]
             rfl
            as_aux_lemma =>
            refine pT 13 138 (bt 18 16383) (k := ?_)
            refine pT 14 152 (bt 18 32767) (k := ?_)
            refine pT 15 153 (bt 18 65535) (k := ?_)
            refine pT 16 16 (bt 18 131071) (k := ?_)
            refine pT 17 17 (bt 18 262143) (k := ?_)
            refine done_ (done_of HT_.out (by kernel_rfl)) ?_
            try go_wp2
            have n0_ := Aside0.mk (Kd.V_drew HO_9.out)
            have n1_ := Aside0.mk (Kd.V_drew HO_13.out)
            have n2_ := Aside0.mk (Kd.V_drew HO259.out)
            have n3_ := Aside0.mk (blk_drew BK233.out)
            have n4_ := Aside0.mk (blk_drew BK234.out)
            have n5_ := Aside0.mk (below_drew1 HB.out)
            clear HO_9
            clear HO_13
            clear HO259
            clear BK233
            clear BK234
            clear HB
            have HO_9 := n0_
            have HO_13 := n1_
            have HO259 := n2_
            have BK233 := n3_
            have BK234 := n4_
            have HB := n5_
            clear n0_ n1_ n2_ n3_ n4_ n5_
            have p261 : 0 ≤ (x15_5 : Int) := of_decide_eq_true TA
            have q261 : x15_5 < (t249.length : Int) := of_decide_eq_true TA
            obtain ⟨ad261, e261, hx261_0⟩ := Kd.at_int (Kd.V_reads' HO_13.out).2.2 x15_5 p261 q261
            obtain rfl : ad256 = ad261 := (by injection e261)
            replace p261 := eq_true p261
            replace q261 := eq_true q261
            have p262 : 0 ≤ ((rd t249 x15_5) : Int) := of_decide_eq_true TA
            have q262 : (rd t249 x15_5) < (((rd_T62 l0_2 a1).f1).length : Int) := of_decide_eq_true TA
            obtain ⟨ad262, e262, hx262_0⟩ := Kd.at_int HR246_1.out (rd t249 x15_5) p262 q262
            have hw262_0 := hx262_0
            cases e262
            replace hx262_0 := (HB.out.cell  (World.block_lt_of_cell? w _ hx262_0)).trans hx262_0
            replace p262 := eq_true p262
            replace q262 := eq_true q262
            have p263 : 0 ≤ (x12_3 : Int) := of_decide_eq_true TA
            have q263 : x12_3 < (l2_0.length : Int) := of_decide_eq_true TA
            obtain ⟨ad263, e263, hx263_0⟩ := Kd.at_int HR2_0.out x12_3 p263 q263
            have hw263_0 := hx263_0
            cases e263
            replace hx263_0 := (HB.out.cell  (World.block_lt_of_cell? w _ hx263_0)).trans hx263_0
            replace p263 := eq_true p263
            replace q263 := eq_true q263
            have p271 : 0 ≤ (x15_5 : Int) := of_decide_eq_true TA
            have q271 : x15_5 < (t249.length : Int) := of_decide_eq_true TA
            obtain ⟨ad271, e271, hx271_0⟩ := Kd.at_int (Kd.V_reads' HO_13.out).2.2 x15_5 p271 q271
            obtain rfl : ad256 = ad271 := (by injection e271)
            replace p271 := eq_true p271
            replace q271 := eq_true q271
            have p272 : 0 ≤ (0 : Int) := (by omega)
            have q272 : 0 < (t242.length : Int) := of_decide_eq_true TA
            (try (obtain ⟨Aoz, coz, eoz⟩ := Kd.V_slice HO_9.out; subst eoz))
            obtain ⟨ad272, e272, hx272_0⟩ := Kd.at_int (Kd.V_reads' HO_9.out).2.2 0 p272 q272
            cases e272
            have qi272 : (0 < t242.length) = True := eq_true (by omega)
            (try rw [show ((0 : Int)).toNat = 0 from rfl] at hx272_0)
            (try rw [Addr.add_zero'] at hx272_0)
            replace p272 := eq_true p272
            replace q272 := eq_true q272
            have p273 : 0 ≤ (x15_5 : Int) := of_decide_eq_true TA
            have q273 : x15_5 < (t249.length : Int) := of_decide_eq_true TA
            obtain ⟨ad273, e273, hx273_0⟩ := Kd.at_int (Kd.V_reads' HO_13.out).2.2 x15_5 p273 q273
            obtain rfl : ad256 = ad273 := (by injection e273)
            replace p273 := eq_true p273
            replace q273 := eq_true q273
            have p274 : 0 ≤ ((ji123) : Int) := of_decide_eq_true TA
            have q274 : (ji123) < (t242.length : Int) := of_decide_eq_true TA
            obtain ⟨ad274, e274, hx274_0⟩ := Kd.at_int (Kd.V_reads' HO_9.out).2.2 (ji123) p274 q274
            obtain rfl : ad272 = ad274 := (by injection e274)
            replace p274 := eq_true p274
            replace q274 := eq_true q274
            refine start_ (n := 64) (S := fun w' => w'.cell? ⟨gb234, 0, none⟩ = some (.slice (some ad263) l2_0.length c2_0) ∧ w'.cell? ⟨gb234, 1, none⟩ = some (.slice A2_1 l2_1.length c2_1) ∧ w'.cell? ⟨gb234, 2, none⟩ = some (.int .i64 a2_2) ∧ w'.cell? ⟨gb234, 3, none⟩ = some (.int .i64 a2_3) ∧ w'.cell? (ad256.add (x15_5).toNat) = some (.int .i64 (rd t249 x15_5)) ∧ w'.cell? (ad262.add ((rd t249 x15_5)).toNat) = some (.int .i64 (rd ((rd_T62 l0_2 a1).f1) (rd t249 x15_5))) ∧ w'.cell? (ad263.add (x12_3).toNat) = some (.int .i64 (rd l2_0 x12_3)) ∧ w'.cell? (ad256.add (x15_5).toNat) = some (.int .i64 (rd t249 x15_5)) ∧ w'.cell? ad272 = some (.int .i64 (rd t242 0)) ∧ w'.cell? (ad256.add (x15_5).toNat) = some (.int .i64 (rd t249 x15_5)) ∧ w'.cell? (ad272.add ((ji123)).toNat) = some (.int .i64 (rd t242 (ji123)))) (ds := []) (.replicate 64 false) (by kernel_rfl) rfl rfl ⟨czz BK234.out 0, czz BK234.out 1, czz BK234.out 2, czz BK234.out 3, hx261_0, ((HB.out.cell  (World.block_lt_of_cell? w _ hw262_0)).trans hw262_0), ((HB.out.cell  (World.block_lt_of_cell? w _ hw263_0)).trans hw263_0), hx271_0, hx272_0, hx273_0, hx274_0⟩ (fun hHeld => ?_); refine with_tabW saronlaw09_HeardRead.tab20 saronlaw09_HeardRead.bits20 (fun HT_ HW_ => ?_)
            generalize w134.drew = w135 at HO_9 HO_13 HO259 BK233 BK234 HB hx261_0 hx262_0 hx263_0 hx271_0 hx272_0 hx273_0 hx274_0 hHeld ⊢
            refine pT 0 154 (bt 64 1) (k := ?_)
            refine pT 1 155 (bt 64 3) (k := ?_)
            refine pT 2 156 (bt 64 7) (k := ?_)
            refine pT 3 157 (bt 64 15) (k := ?_)
            refine pT 4 158 (bt 64 31) (k := ?_)
            refine pT 5 159 (bt 64 63) (k := ?_)
            refine pT 6 160 (bt 64 127) (k := ?_)
            refine pT 10 164 (bt 64 1151) (k := ?_)
            refine pT 12 166 (bt 64 5247) (k := ?_)
            refine pT 17 171 (bt 64 136319) (k := ?_)
            refine tT11 7 161 (bt 64 136447) hHeld (k := ?_)
            refine pT 8 162 (bt 64 136703) (k := ?_)
            refine tT11 9 163 (bt 64 137215) hHeld (k := ?_)
            refine tT11 11 165 (bt 64 139263) hHeld (k := ?_)
            refine pT 13 167 (bt 64 147455) (k := ?_)
            refine tT11 14 168 (bt 64 163839) hHeld (k := ?_)
            refine pT 15 169 (bt 64 196607) (k := ?_)
            refine tT11 18 172 (bt 64 458751) hHeld (k := ?_)
            refine pT 19 173 (bt 64 983039) (k := ?_)
            refine one_ (i := 16) (N := some 170) (bt 64 1048575) rfl rfl (one_of HT_.out (by kernel_rfl)) (by decide) (fun K hK => ?_)
            refine goes_ Tryd.func44 (by kernel_rfl) rfl #[.int .i64 (wrap64 ((rd ((rd_T62 l0_2 a1).f1) (rd t249 x15_5)) - (rd l2_0 x12_3)))] (by rfl) rfl rfl TM ?_
            with_reducible refine (saronref00_Plain.calls (wrap64 ((rd ((rd_T62 l0_2 a1).f1) (rd t249 x15_5)) - (rd l2_0 x12_3))) t264 _ A76.out).mono ?_
            rintro e w' ⟨rfl, ⟨nd, rfl⟩⟩
            refine ⟨_, rfl, ?_⟩
            refine hK.out _ _ ⟨czz BK234.out 0, czz BK234.out 1, czz BK234.out 2, czz BK234.out 3, hHeld.2.2.2.2.1, ((HB.out.cell  (World.block_lt_of_cell? w _ hw262_0)).trans hw262_0), ((HB.out.cell  (World.block_lt_of_cell? w _ hw263_0)).trans hw263_0), hHeld.2.2.2.2.2.2.2.1, hHeld.2.2.2.2.2.2.2.2.1, hHeld.2.2.2.2.2.2.2.2.2.1, hHeld.2.2.2.2.2.2.2.2.2.2⟩ (fun hHeld => ?_)
            clear hK K
            refine norm_ (a' := ?_) ?_ ?_
            rotate_left
            ·show Act.put _ (some 170) _ = _
             simp only [Act.put, lA, lZ, lS, i64_w, i32_w]
             rfl
            as_aux_lemma =>
            refine pT 20 174 (bt 64 2097151) (k := ?_)
            refine pT 21 175 (bt 64 4194303) (k := ?_)
            refine pT 22 176 (bt 64 8388607) (k := ?_)
            refine pT 23 177 (bt 64 16777215) (k := ?_)
            refine pT 25 179 (bt 64 50331647) (k := ?_)
            refine tT11 24 178 (bt 64 67108863) hHeld (k := ?_)
            refine one_ (i := 26) (N := some 180) (bt 64 134217727) rfl rfl (one_of HT_.out (by kernel_rfl)) (by decide) (fun K hK => ?_)
            refine goes_ Tryd.func39 (by kernel_rfl) rfl #[.slice A2_1 l2_1.length c2_1, .int .i64 x12_3] (by rfl) rfl rfl TM ?_
            with_reducible refine (saronref00_Where.calls k5 _ _ l2_1 x12_3 t265 _ ?side1 ?side2 A83.out).mono ?_
            (case side1 => exact TD HR2_1.out (TB2 GE233.out GE234.out))
            (case side2 => exact HC2_1.out)
            rintro e w' ⟨rfl, ⟨nd, rfl⟩⟩
            refine ⟨_, rfl, ?_⟩
            obtain ⟨Ao136, co136, eo136⟩ := Kd.V_slice HO_9.out
            (first | subst eo136 | (injection eo136 with f1_ f2_ f3_; have f4_ := f1_.symm; have f5_ := f3_.symm; clear f1_ f2_ f3_; subst f4_; subst f5_))
            refine hK.out _ _ ⟨czz BK234.out 0, czz BK234.out 1, czz BK234.out 2, czz BK234.out 3, hHeld.2.2.2.2.1, ((HB.out.cell  (World.block_lt_of_cell? w _ hw262_0)).trans hw262_0), ((HB.out.cell  (World.block_lt_of_cell? w _ hw263_0)).trans hw263_0), hHeld.2.2.2.2.2.2.2.1, hHeld.2.2.2.2.2.2.2.2.1, hHeld.2.2.2.2.2.2.2.2.2.1, hHeld.2.2.2.2.2.2.2.2.2.2⟩ (fun hHeld => ?_)
            clear hK K
            refine norm_ (a' := ?_) ?_ ?_
            rotate_left
            ·show Act.put _ (some 180) _ = _
             simp only [Act.put, lA, lZ, lS, i64_w, i32_w]
             rfl
            refine pT 27 181 (bt 64 268435455) (k := ?_)
            refine pT 28 182 (bt 64 536870911) (k := ?_)
            refine pU 29 183 (bt 64 1073741823) (k := ?_)
            refine pU 30 184 (bt 64 2147483647) (k := ?_)
            refine pU 31 185 (bt 64 4294967295) (k := ?_)
            refine pT 32 186 (bt 64 8589934591) (k := ?_)
            refine pT 33 187 (bt 64 17179869183) (k := ?_)
            refine pT 34 188 (bt 64 34359738367) (k := ?_)
            refine pT 35 189 (bt 64 68719476735) (k := ?_)
            refine pT 36 190 (bt 64 137438953471) (k := ?_)
            refine pT 37 191 (bt 64 274877906943) (k := ?_)
            refine pT 39 193 (bt 64 824633720831) (k := ?_)
            refine pT 40 194 (bt 64 1924145348607) (k := ?_)
            refine pT 42 196 (bt 64 6322191859711) (k := ?_)
            refine tT11 38 192 (bt 64 6597069766655) hHeld (k := ?_)
            refine tT11 41 195 (bt 64 8796093022207) hHeld (k := ?_)
            refine pT 43 197 (bt 64 17592186044415) (k := ?_)
            refine pT 44 198 (bt 64 35184372088831) (k := ?_)
            refine pT 45 199 (bt 64 70368744177663) (k := ?_)
            refine pT 46 200 (bt 64 140737488355327) (k := ?_)
            refine pT 47 201 (bt 64 281474976710655) (k := ?_)
            refine pT 48 202 (bt 64 562949953421311) (k := ?_)
            refine pT 49 203 (bt 64 1125899906842623) (k := ?_)
            refine pT 51 205 (bt 64 3377699720527871) (k := ?_)
            refine pT 52 206 (bt 64 7881299347898367) (k := ?_)
            refine pT 53 207 (bt 64 16888498602639359) (k := ?_)
            refine pT 54 208 (bt 64 34902897112121343) (k := ?_)
            refine pT 55 209 (bt 64 70931694131085311) (k := ?_)
            refine pT 57 211 (bt 64 215046882206941183) (k := ?_)
            refine pT 59 213 (bt 64 791507634510364671) (k := ?_)
            refine tT11 50 204 (bt 64 792633534417207295) hHeld (k := ?_)
            refine tT11 56 210 (bt 64 864691128455135231) hHeld (k := ?_)
            refine pT 58 212 (bt 64 1152921504606846975) (k := ?_)
            refine tT11 60 214 (bt 64 2305843009213693951) hHeld (k := ?_)
            refine pT 61 215 (bt 64 4611686018427387903) (k := ?_)
            refine pT 62 216 (bt 64 9223372036854775807) (k := ?_)
            refine pT 63 217 (bt 64 18446744073709551615) (k := ?_)
            refine done_ (done_of HT_.out (by kernel_rfl)) ?_
            try go_wp2
            go_roundg k5
            case measure => have := HJ6.out; have := HJ33.out; have := HK3.out; have := HJ48.out; have := HK5.out; omega
            case rel => exact ⟨(wrap64 (x15_5 + 1)), TT, H', ⟨by have := HJ6.out; have := HJ33.out; have := HK3.out; have := HJ48.out; have := HK5.out; omega⟩, ⟨by (with_reducible repeat (first | apply Kd.V_alloc | apply Kd.V_drewN | apply Kd.V_drew)); exact HO_9.out⟩, ⟨by (with_reducible repeat (first | apply Kd.V_alloc | apply Kd.V_drewN | apply Kd.V_drew)); exact HO_13.out⟩, ⟨by (with_reducible repeat (first | refine blk_drewN ?_ _ | refine blk_drew ?_ | refine blk_alloc ?_ _)); exact BK233.out⟩, ⟨by (with_reducible repeat (first | refine blk_drewN ?_ _ | refine blk_drew ?_ | refine blk_alloc ?_ _)); exact BK234.out⟩, ⟨TB2 GE233.out GE234.out⟩⟩
           as_aux_lemma =>
           rw [if_pos c84] at H
           have c84b0 : decide (0 ≤ t265) = true := decide_eq_true c84
           clear c84
           replace H := Option.bind_eq_some_iff.mp H
           obtain ⟨t266, A850, H⟩ := H
           replace H : (if t266 < 0 then (some false) else (if 0 < (t242.length : Int) then (if (rd t249 x15_5) < (wrap64 ((rd t242 0) + x12_3)) then (some false) else (if 0 ≤ (wrap64 ((t242.length : Int) - 1)) then (if (wrap64 ((t242.length : Int) - 1)) < (t242.length : Int) then (if (rd t249 x15_5) > (wrap64 ((wrap64 ((rd t242 (wrap64 ((t242.length : Int) - 1))) + x12_3)) + a2_2)) then (some false) else (saronlaw09_HeardRead.l1 k5 a1 t235 t242 ((rd_T62 l0_2 a1).f1) x12_3 t249 (wrap64 (x15_5 + 1)) a0_0 l0_1 l0_2 l2_0 l2_1 a2_2 a2_3)) else (none)) else (none))) else (none))) = some r := H
           have A85 := Aside0.mk A850
           clear A850
           by_cases c86 : t266 < 0
           ·as_aux_lemma =>
            rw [if_pos c86] at H
            have c86b0 : decide (t266 < 0) = true := decide_eq_true c86
            clear c86
            obtain rfl := Option.some.inj H
            obtain ⟨Ao87, co87, eo87⟩ := Kd.V_slice HO_13.out
            subst eo87
            try go_wp2
            have n0_ := Aside0.mk (Kd.V_drew HO_9.out)
            have n1_ := Aside0.mk (Kd.V_drew HO_13.out)
            have n2_ := Aside0.mk (blk_drew BK233.out)
            have n3_ := Aside0.mk (blk_drew BK234.out)
            have n4_ := Aside0.mk (below_drew1 HB.out)
            clear HO_9
            clear HO_13
            clear BK233
            clear BK234
            clear HB
            have HO_9 := n0_
            have HO_13 := n1_
            have BK233 := n2_
            have BK234 := n3_
            have HB := n4_
            clear n0_ n1_ n2_ n3_ n4_
            have p255 : 0 ≤ (a1 : Int) := of_decide_eq_true TA
            have q255 : a1 < (l0_2.length : Int) := of_decide_eq_true TA
            obtain ⟨ad255, A255_1, c255_1, e255, hx255_0, hx255_1, hl255_1, hi255_1⟩ := at_T62 HR0_2.out a1 p255 q255
            have hw255_1 := hx255_1
            have hw255_0 := hx255_0
            obtain rfl : ad246 = ad255 := (by injection e255)
            replace hx255_0 := (HB.out.cell  (World.block_lt_of_cell? w _ hx255_0)).trans hx255_0
            replace hx255_1 := (HB.out.cell  (World.block_lt_of_cell? w _ hx255_1)).trans hx255_1
            have HR255_1 := Aside0.mk hi255_1
            have HC255_1 := Aside0.mk hl255_1
            clear hi255_1 hl255_1
            replace p255 := eq_true p255
            replace q255 := eq_true q255
            have p256 : 0 ≤ (x15_5 : Int) := of_decide_eq_true TA
            have q256 : x15_5 < (t249.length : Int) := of_decide_eq_true TA
            obtain ⟨ad256, e256, hx256_0⟩ := Kd.at_int (Kd.V_reads' HO_13.out).2.2 x15_5 p256 q256
            cases e256
            replace p256 := eq_true p256
            replace q256 := eq_true q256
            refine start_ (n := 18) (S := fun w' => w'.cell? ⟨gb233, 0, none⟩ = some (.int .i64 a0_0) ∧ w'.cell? ⟨gb233, 1, none⟩ = some (.slice A0_1 l0_1.length c0_1) ∧ w'.cell? ⟨gb233, 2, none⟩ = some (.slice (some ad246) l0_2.length c0_2) ∧ w'.cell? (ad246.add ((a1).toNat * 2)) = some (.int .i64 ((rd_T62 l0_2 a1).f0)) ∧ w'.cell? ⟨(ad246.add ((a1).toNat * 2)).block, (ad246.add ((a1).toNat * 2)).off + 1, none⟩ = some (.slice A255_1 ((rd_T62 l0_2 a1).f1).length c255_1) ∧ w'.cell? (ad256.add (x15_5).toNat) = some (.int .i64 (rd t249 x15_5))) (ds := []) (.replicate 18 false) (by kernel_rfl) rfl rfl ⟨czz BK233.out 0, czz BK233.out 1, czz BK233.out 2, ((HB.out.cell  (World.block_lt_of_cell? w _ hw255_0)).trans hw255_0), ((HB.out.cell  (World.block_lt_of_cell? w _ hw255_1)).trans hw255_1), hx256_0⟩ (fun hHeld => ?_); refine with_tabW saronlaw09_HeardRead.tab19 saronlaw09_HeardRead.bits19 (fun HT_ HW_ => ?_)
            generalize wr.drew = w88 at HO_9 HO_13 BK233 BK234 HB HR255_1 hx255_0 hx255_1 hx256_0 hHeld ⊢
            refine pT 0 139 (bt 18 1) (k := ?_)
            refine pT 2 141 (bt 18 5) (k := ?_)
            refine pT 4 143 (bt 18 21) (k := ?_)
            refine pT 8 147 (bt 18 277) (k := ?_)
            refine pT 9 148 (bt 18 789) (k := ?_)
            refine pT 10 149 (bt 18 1813) (k := ?_)
            refine tT6 1 140 (bt 18 1815) hHeld (k := ?_)
            refine tT6 3 142 (bt 18 1823) hHeld (k := ?_)
            refine pT 5 144 (bt 18 1855) (k := ?_)
            refine pT 6 145 (bt 18 1919) (k := ?_)
            refine tT6 7 146 (bt 18 2047) hHeld (k := ?_)
            refine tT6 11 150 (bt 18 4095) hHeld (k := ?_)
            refine one_ (i := 12) (N := some 151) (bt 18 8191) rfl rfl (one_of HT_.out (by kernel_rfl)) (by decide) (fun K hK => ?_)
            refine goes_ Tryd.func43 (by kernel_rfl) rfl #[.agg #[.int .i64 a0_0, .slice A0_1 l0_1.length c0_1], .int .i64 ((rd_T62 l0_2 a1).f0), .int .i64 (rd t249 x15_5)] (by rfl) rfl rfl TM ?_
            with_reducible refine (cycle_Struck.calls a0_0 _ _ l0_1 ((rd_T62 l0_2 a1).f0) (rd t249 x15_5) t257 t260 _ ?side1 ?side2 ?side3 A70.out).mono ?_
            (case side1 => exact TC HR0_1.out)
            (case side2 => exact HC0_1.out)
            (case side3 => exact Glob.fr HG.out (Fr.of_below (TB2 GE233.out GE234.out)))
            rintro e w89 ⟨v258, rfl, ho0, hb⟩
            have HS5_ := (hb.cell (World.block_lt_of_cell? _ _ (hHeld.2.2.2.2.2))).trans (hHeld.2.2.2.2.2)
            refine ⟨_, rfl, ?_⟩
            have n0_ := Aside0.mk (Kd.V_below (by (with_reducible repeat (first | apply Kd.V_alloc | apply Kd.V_drewN | apply Kd.V_drew)); exact HO_9.out) hb)
            have n1_ := Aside0.mk (Kd.V_below (by (with_reducible repeat (first | apply Kd.V_alloc | apply Kd.V_drewN | apply Kd.V_drew)); exact HO_13.out) hb)
            have n2_ := Aside0.mk (Kd.V_lower (Kd.V_mono (ok' := fun k_ => k_ ≠ gb233 ∧ k_ ≠ gb234) ho0 (fun k_ hk_ => ⟨(Kd.freshB (g := gb233) (o := .cells #[.int .i64 a0_0, .slice A0_1 l0_1.length c0_1, .slice (some ad246) l0_2.length c0_2] 27 (0, 0)) (TK BK233.out) k_ hk_), (Kd.freshB (g := gb234) (o := .cells #[.slice A2_0 l2_0.length c2_0, .slice A2_1 l2_1.length c2_1, .int .i64 a2_2, .int .i64 a2_3] 30 (0, 0)) (TK BK234.out) k_ hk_)⟩)) (below_size (TB2 GE233.out GE234.out)))
            have n3_ := Aside0.mk (blk_below (g := gb233) (o := .cells #[.int .i64 a0_0, .slice A0_1 l0_1.length c0_1, .slice (some ad246) l0_2.length c0_2] 27 (0, 0)) (TK BK233.out) hb)
            have n4_ := Aside0.mk (blk_below (g := gb234) (o := .cells #[.slice A2_0 l2_0.length c2_0, .slice A2_1 l2_1.length c2_1, .int .i64 a2_2, .int .i64 a2_3] 30 (0, 0)) (TK BK234.out) hb)
            have n5_ := Aside0.mk (below_step (TB2 GE233.out GE234.out) hb)
            clear HO_9
            clear HO_13
            clear BK233
            clear BK234
            clear HB
            have HO_9 := n0_
            have HO_13 := n1_
            have HO259 := n2_
            have BK233 := n3_
            have BK234 := n4_
            have HB := n5_
            clear n0_ n1_ n2_ n3_ n4_ n5_
            (try clear hb)
            (try clear hb2)
            (try clear hk)
            (try clear hi)
            (try clear ho0)
            refine hK.out _ _ ⟨czz BK233.out 0, czz BK233.out 1, czz BK233.out 2, ((HB.out.cell  (World.block_lt_of_cell? w _ hw255_0)).trans hw255_0), ((HB.out.cell  (World.block_lt_of_cell? w _ hw255_1)).trans hw255_1), HS5_⟩ (fun hHeld => ?_)
            clear hK K
            refine norm_ (a' := ?_) ?_ ?_
            rotate_left
            ·show Act.put _ (some 151) _ = _
             simp only [Act.put, lA, lZ, lS, i64_w, i32_w]
             rfl
            as_aux_lemma =>
            refine pT 13 138 (bt 18 16383) (k := ?_)
            refine pT 14 152 (bt 18 32767) (k := ?_)
            refine pT 15 153 (bt 18 65535) (k := ?_)
            refine pT 16 16 (bt 18 131071) (k := ?_)
            refine pT 17 17 (bt 18 262143) (k := ?_)
            refine done_ (done_of HT_.out (by kernel_rfl)) ?_
            try go_wp2
            have n0_ := Aside0.mk (Kd.V_drew HO_9.out)
            have n1_ := Aside0.mk (Kd.V_drew HO_13.out)
            have n2_ := Aside0.mk (Kd.V_drew HO259.out)
            have n3_ := Aside0.mk (blk_drew BK233.out)
            have n4_ := Aside0.mk (blk_drew BK234.out)
            have n5_ := Aside0.mk (below_drew1 HB.out)
            clear HO_9
            clear HO_13
            clear HO259
            clear BK233
            clear BK234
            clear HB
            have HO_9 := n0_
            have HO_13 := n1_
            have HO259 := n2_
            have BK233 := n3_
            have BK234 := n4_
            have HB := n5_
            clear n0_ n1_ n2_ n3_ n4_ n5_
            have p261 : 0 ≤ (x15_5 : Int) := of_decide_eq_true TA
            have q261 : x15_5 < (t249.length : Int) := of_decide_eq_true TA
            obtain ⟨ad261, e261, hx261_0⟩ := Kd.at_int (Kd.V_reads' HO_13.out).2.2 x15_5 p261 q261
            obtain rfl : ad256 = ad261 := (by injection e261)
            replace p261 := eq_true p261
            replace q261 := eq_true q261
            have p262 : 0 ≤ ((rd t249 x15_5) : Int) := of_decide_eq_true TA
            have q262 : (rd t249 x15_5) < (((rd_T62 l0_2 a1).f1).length : Int) := of_decide_eq_true TA
            obtain ⟨ad262, e262, hx262_0⟩ := Kd.at_int HR246_1.out (rd t249 x15_5) p262 q262
            have hw262_0 := hx262_0
            cases e262
            replace hx262_0 := (HB.out.cell  (World.block_lt_of_cell? w _ hx262_0)).trans hx262_0
            replace p262 := eq_true p262
            replace q262 := eq_true q262
            have p263 : 0 ≤ (x12_3 : Int) := of_decide_eq_true TA
            have q263 : x12_3 < (l2_0.length : Int) := of_decide_eq_true TA
            obtain ⟨ad263, e263, hx263_0⟩ := Kd.at_int HR2_0.out x12_3 p263 q263
            have hw263_0 := hx263_0
            cases e263
            replace hx263_0 := (HB.out.cell  (World.block_lt_of_cell? w _ hx263_0)).trans hx263_0
            replace p263 := eq_true p263
            replace q263 := eq_true q263
            refine start_ (n := 64) (S := fun w' => w'.cell? ⟨gb234, 0, none⟩ = some (.slice (some ad263) l2_0.length c2_0) ∧ w'.cell? ⟨gb234, 1, none⟩ = some (.slice A2_1 l2_1.length c2_1) ∧ w'.cell? ⟨gb234, 2, none⟩ = some (.int .i64 a2_2) ∧ w'.cell? ⟨gb234, 3, none⟩ = some (.int .i64 a2_3) ∧ w'.cell? (ad256.add (x15_5).toNat) = some (.int .i64 (rd t249 x15_5)) ∧ w'.cell? (ad262.add ((rd t249 x15_5)).toNat) = some (.int .i64 (rd ((rd_T62 l0_2 a1).f1) (rd t249 x15_5))) ∧ w'.cell? (ad263.add (x12_3).toNat) = some (.int .i64 (rd l2_0 x12_3))) (ds := []) (.replicate 64 false) (by kernel_rfl) rfl rfl ⟨czz BK234.out 0, czz BK234.out 1, czz BK234.out 2, czz BK234.out 3, hx261_0, ((HB.out.cell  (World.block_lt_of_cell? w _ hw262_0)).trans hw262_0), ((HB.out.cell  (World.block_lt_of_cell? w _ hw263_0)).trans hw263_0)⟩ (fun hHeld => ?_); refine with_tabW saronlaw09_HeardRead.tab20 saronlaw09_HeardRead.bits20 (fun HT_ HW_ => ?_)
            generalize w89.drew = w90 at HO_9 HO_13 HO259 BK233 BK234 HB hx261_0 hx262_0 hx263_0 hHeld ⊢
            refine pT 0 154 (bt 64 1) (k := ?_)
            refine pT 1 155 (bt 64 3) (k := ?_)
            refine pT 2 156 (bt 64 7) (k := ?_)
            refine pT 3 157 (bt 64 15) (k := ?_)
            refine pT 4 158 (bt 64 31) (k := ?_)
            refine pT 5 159 (bt 64 63) (k := ?_)
            refine pT 6 160 (bt 64 127) (k := ?_)
            refine pT 10 164 (bt 64 1151) (k := ?_)
            refine pT 12 166 (bt 64 5247) (k := ?_)
            refine pT 17 171 (bt 64 136319) (k := ?_)
            refine tT7 7 161 (bt 64 136447) hHeld (k := ?_)
            refine pT 8 162 (bt 64 136703) (k := ?_)
            refine tT7 9 163 (bt 64 137215) hHeld (k := ?_)
            refine tT7 11 165 (bt 64 139263) hHeld (k := ?_)
            refine pT 13 167 (bt 64 147455) (k := ?_)
            refine tT7 14 168 (bt 64 163839) hHeld (k := ?_)
            refine pT 15 169 (bt 64 196607) (k := ?_)
            refine tT7 18 172 (bt 64 458751) hHeld (k := ?_)
            refine pT 19 173 (bt 64 983039) (k := ?_)
            refine one_ (i := 16) (N := some 170) (bt 64 1048575) rfl rfl (one_of HT_.out (by kernel_rfl)) (by decide) (fun K hK => ?_)
            refine goes_ Tryd.func44 (by kernel_rfl) rfl #[.int .i64 (wrap64 ((rd ((rd_T62 l0_2 a1).f1) (rd t249 x15_5)) - (rd l2_0 x12_3)))] (by rfl) rfl rfl TM ?_
            with_reducible refine (saronref00_Plain.calls (wrap64 ((rd ((rd_T62 l0_2 a1).f1) (rd t249 x15_5)) - (rd l2_0 x12_3))) t264 _ A76.out).mono ?_
            rintro e w' ⟨rfl, ⟨nd, rfl⟩⟩
            refine ⟨_, rfl, ?_⟩
            refine hK.out _ _ ⟨czz BK234.out 0, czz BK234.out 1, czz BK234.out 2, czz BK234.out 3, hHeld.2.2.2.2.1, ((HB.out.cell  (World.block_lt_of_cell? w _ hw262_0)).trans hw262_0), ((HB.out.cell  (World.block_lt_of_cell? w _ hw263_0)).trans hw263_0)⟩ (fun hHeld => ?_)
            clear hK K
            refine norm_ (a' := ?_) ?_ ?_
            rotate_left
            ·show Act.put _ (some 170) _ = _
             simp only [Act.put, lA, lZ, lS, i64_w, i32_w]
             rfl
            as_aux_lemma =>
            refine pT 20 174 (bt 64 2097151) (k := ?_)
            refine pT 21 175 (bt 64 4194303) (k := ?_)
            refine pT 22 176 (bt 64 8388607) (k := ?_)
            refine pT 23 177 (bt 64 16777215) (k := ?_)
            refine pT 25 179 (bt 64 50331647) (k := ?_)
            refine tT7 24 178 (bt 64 67108863) hHeld (k := ?_)
            refine one_ (i := 26) (N := some 180) (bt 64 134217727) rfl rfl (one_of HT_.out (by kernel_rfl)) (by decide) (fun K hK => ?_)
            refine goes_ Tryd.func39 (by kernel_rfl) rfl #[.slice A2_1 l2_1.length c2_1, .int .i64 x12_3] (by rfl) rfl rfl TM ?_
            with_reducible refine (saronref00_Where.calls k5 _ _ l2_1 x12_3 t265 _ ?side1 ?side2 A83.out).mono ?_
            (case side1 => exact TD HR2_1.out (TB2 GE233.out GE234.out))
            (case side2 => exact HC2_1.out)
            rintro e w' ⟨rfl, ⟨nd, rfl⟩⟩
            refine ⟨_, rfl, ?_⟩
            obtain ⟨Ao91, co91, eo91⟩ := Kd.V_slice HO259.out
            (first | subst eo91 | (injection eo91 with f1_ f2_ f3_; have f4_ := f1_.symm; have f5_ := f3_.symm; clear f1_ f2_ f3_; subst f4_; subst f5_))
            refine hK.out _ _ ⟨czz BK234.out 0, czz BK234.out 1, czz BK234.out 2, czz BK234.out 3, hHeld.2.2.2.2.1, ((HB.out.cell  (World.block_lt_of_cell? w _ hw262_0)).trans hw262_0), ((HB.out.cell  (World.block_lt_of_cell? w _ hw263_0)).trans hw263_0)⟩ (fun hHeld => ?_)
            clear hK K
            refine norm_ (a' := ?_) ?_ ?_
            rotate_left
            ·show Act.put _ (some 180) _ = _
             simp only [Act.put, lA, lZ, lS, i64_w, i32_w]
             rfl
            refine pT 27 181 (bt 64 268435455) (k := ?_)
            refine pT 28 182 (bt 64 536870911) (k := ?_)
            refine pT 29 183 (bt 64 1073741823) (k := ?_)
            refine one_ (i := 30) (N := some 184) (bt 64 2147483647) rfl rfl (one_of HT_.out (by kernel_rfl)) (by decide) (fun K hK => ?_)
            refine goes_ Tryd.func39 (by kernel_rfl) rfl #[.slice Ao91 t257.length co91, .int .i64 0] (by rfl) rfl rfl TM ?_
            with_reducible refine (saronref00_Where.calls k5 _ _ t257 0 t266 _ ?side1 ?side2 A85.out).mono ?_
            (case side1 => repeat (first | exact (Kd.V_reads' HO259.out).2.2 | (with_reducible refine Kd.C_alloc ?_ _) | (with_reducible refine Kd.C_drewN ?_ _) | (with_reducible refine Kd.C_drew ?_)))
            (case side2 => exact (Kd.V_reads' HO259.out).2.1)
            rintro e w' ⟨rfl, ⟨nd, rfl⟩⟩
            refine ⟨_, rfl, ?_⟩
            refine hK.out _ _ ⟨czz BK234.out 0, czz BK234.out 1, czz BK234.out 2, czz BK234.out 3, hHeld.2.2.2.2.1, ((HB.out.cell  (World.block_lt_of_cell? w _ hw262_0)).trans hw262_0), ((HB.out.cell  (World.block_lt_of_cell? w _ hw263_0)).trans hw263_0)⟩ (fun hHeld => ?_)
            clear hK K
            refine norm_ (a' := ?_) ?_ ?_
            rotate_left
            ·show Act.put _ (some 184) _ = _
             simp only [Act.put, lA, lZ, lS, i64_w, i32_w]
             rfl
            refine pT 31 185 (bt 64 4294967295) (k := ?_)
            refine pT 32 186 (bt 64 8589934591) (k := ?_)
            refine pT 33 187 (bt 64 17179869183) (k := ?_)
            refine pT 34 188 (bt 64 34359738367) (k := ?_)
            refine pU 35 189 (bt 64 68719476735) (k := ?_)
            refine pU 36 190 (bt 64 137438953471) (k := ?_)
            refine pU 37 191 (bt 64 274877906943) (k := ?_)
            refine pU 38 192 (bt 64 549755813887) (k := ?_)
            refine pU 39 193 (bt 64 1099511627775) (k := ?_)
            refine pU 40 194 (bt 64 2199023255551) (k := ?_)
            refine pU 41 195 (bt 64 4398046511103) (k := ?_)
            refine pU 42 196 (bt 64 8796093022207) (k := ?_)
            refine pU 43 197 (bt 64 17592186044415) (k := ?_)
            refine pU 44 198 (bt 64 35184372088831) (k := ?_)
            refine pT 45 199 (bt 64 70368744177663) (k := ?_)
            refine pT 46 200 (bt 64 140737488355327) (k := ?_)
            refine pU 47 201 (bt 64 281474976710655) (k := ?_)
            refine pU 48 202 (bt 64 562949953421311) (k := ?_)
            refine pU 49 203 (bt 64 1125899906842623) (k := ?_)
            refine pU 50 204 (bt 64 2251799813685247) (k := ?_)
            refine pU 51 205 (bt 64 4503599627370495) (k := ?_)
            refine pU 52 206 (bt 64 9007199254740991) (k := ?_)
            refine pU 53 207 (bt 64 18014398509481983) (k := ?_)
            refine pU 54 208 (bt 64 36028797018963967) (k := ?_)
            refine pU 55 209 (bt 64 72057594037927935) (k := ?_)
            refine pU 56 210 (bt 64 144115188075855871) (k := ?_)
            refine pU 57 211 (bt 64 288230376151711743) (k := ?_)
            refine pU 58 212 (bt 64 576460752303423487) (k := ?_)
            refine pU 59 213 (bt 64 1152921504606846975) (k := ?_)
            refine pU 60 214 (bt 64 2305843009213693951) (k := ?_)
            refine pU 61 215 (bt 64 4611686018427387903) (k := ?_)
            refine pU 62 216 (bt 64 9223372036854775807) (k := ?_)
            refine pT 63 217 (bt 64 18446744073709551615) (k := ?_)
            refine done_ (done_of HT_.out (by kernel_rfl)) ?_
            try go_wp2
            go_ret
            exact ⟨by first | rfl | (simp [errW_none, errW_some] <;> rfl) | (simp only [← hji77]; first | rfl | (simp [errW_none, errW_some] <;> rfl)) | (simp [*, errW_none, errW_some] <;> rfl), TB2 GE233.out GE234.out⟩
           as_aux_lemma =>
           rw [if_neg c86] at H
           have c86b0 : decide (t266 < 0) = false := decide_eq_false c86
           clear c86
           by_cases c92 : 0 < (t242.length : Int)
           rotate_left
           ·rw [if_neg c92] at H
            exact absurd H (by simp)
           as_aux_lemma =>
           rw [if_pos c92] at H
           have c92b0 : decide (0 < (t242.length : Int)) = true := decide_eq_true c92
           have c92b1 : decide (0 < t242.length) = true := decide_eq_true (by omega)
           have c92b2 : decide (t242 = []) = false := decide_eq_false (fun h_ => by rw [h_] at c92; simp at c92)
           have c92b3 : decide (¬ (t242 = [])) = true := by rw [decide_not, c92b2]; rfl
           (try rw [c92b1]); (try simp only [c92b2, c92b3, Bool.not_true, Bool.not_false])
           clear c92
           by_cases c93 : (rd t249 x15_5) < (wrap64 ((rd t242 0) + x12_3))
           ·as_aux_lemma =>
            rw [if_pos c93] at H
            have c93b0 : decide ((rd t249 x15_5) < (wrap64 ((rd t242 0) + x12_3))) = true := decide_eq_true c93
            clear c93
            obtain rfl := Option.some.inj H
            obtain ⟨Ao94, co94, eo94⟩ := Kd.V_slice HO_13.out
            subst eo94
            try go_wp2
            have n0_ := Aside0.mk (Kd.V_drew HO_9.out)
            have n1_ := Aside0.mk (Kd.V_drew HO_13.out)
            have n2_ := Aside0.mk (blk_drew BK233.out)
            have n3_ := Aside0.mk (blk_drew BK234.out)
            have n4_ := Aside0.mk (below_drew1 HB.out)
            clear HO_9
            clear HO_13
            clear BK233
            clear BK234
            clear HB
            have HO_9 := n0_
            have HO_13 := n1_
            have BK233 := n2_
            have BK234 := n3_
            have HB := n4_
            clear n0_ n1_ n2_ n3_ n4_
            have p255 : 0 ≤ (a1 : Int) := of_decide_eq_true TA
            have q255 : a1 < (l0_2.length : Int) := of_decide_eq_true TA
            obtain ⟨ad255, A255_1, c255_1, e255, hx255_0, hx255_1, hl255_1, hi255_1⟩ := at_T62 HR0_2.out a1 p255 q255
            have hw255_1 := hx255_1
            have hw255_0 := hx255_0
            obtain rfl : ad246 = ad255 := (by injection e255)
            replace hx255_0 := (HB.out.cell  (World.block_lt_of_cell? w _ hx255_0)).trans hx255_0
            replace hx255_1 := (HB.out.cell  (World.block_lt_of_cell? w _ hx255_1)).trans hx255_1
            have HR255_1 := Aside0.mk hi255_1
            have HC255_1 := Aside0.mk hl255_1
            clear hi255_1 hl255_1
            replace p255 := eq_true p255
            replace q255 := eq_true q255
            have p256 : 0 ≤ (x15_5 : Int) := of_decide_eq_true TA
            have q256 : x15_5 < (t249.length : Int) := of_decide_eq_true TA
            obtain ⟨ad256, e256, hx256_0⟩ := Kd.at_int (Kd.V_reads' HO_13.out).2.2 x15_5 p256 q256
            cases e256
            replace p256 := eq_true p256
            replace q256 := eq_true q256
            refine start_ (n := 18) (S := fun w' => w'.cell? ⟨gb233, 0, none⟩ = some (.int .i64 a0_0) ∧ w'.cell? ⟨gb233, 1, none⟩ = some (.slice A0_1 l0_1.length c0_1) ∧ w'.cell? ⟨gb233, 2, none⟩ = some (.slice (some ad246) l0_2.length c0_2) ∧ w'.cell? (ad246.add ((a1).toNat * 2)) = some (.int .i64 ((rd_T62 l0_2 a1).f0)) ∧ w'.cell? ⟨(ad246.add ((a1).toNat * 2)).block, (ad246.add ((a1).toNat * 2)).off + 1, none⟩ = some (.slice A255_1 ((rd_T62 l0_2 a1).f1).length c255_1) ∧ w'.cell? (ad256.add (x15_5).toNat) = some (.int .i64 (rd t249 x15_5))) (ds := []) (.replicate 18 false) (by kernel_rfl) rfl rfl ⟨czz BK233.out 0, czz BK233.out 1, czz BK233.out 2, ((HB.out.cell  (World.block_lt_of_cell? w _ hw255_0)).trans hw255_0), ((HB.out.cell  (World.block_lt_of_cell? w _ hw255_1)).trans hw255_1), hx256_0⟩ (fun hHeld => ?_); refine with_tabW saronlaw09_HeardRead.tab19 saronlaw09_HeardRead.bits19 (fun HT_ HW_ => ?_)
            generalize wr.drew = w95 at HO_9 HO_13 BK233 BK234 HB HR255_1 hx255_0 hx255_1 hx256_0 hHeld ⊢
            refine pT 0 139 (bt 18 1) (k := ?_)
            refine pT 2 141 (bt 18 5) (k := ?_)
            refine pT 4 143 (bt 18 21) (k := ?_)
            refine pT 8 147 (bt 18 277) (k := ?_)
            refine pT 9 148 (bt 18 789) (k := ?_)
            refine pT 10 149 (bt 18 1813) (k := ?_)
            refine tT6 1 140 (bt 18 1815) hHeld (k := ?_)
            refine tT6 3 142 (bt 18 1823) hHeld (k := ?_)
            refine pT 5 144 (bt 18 1855) (k := ?_)
            refine pT 6 145 (bt 18 1919) (k := ?_)
            refine tT6 7 146 (bt 18 2047) hHeld (k := ?_)
            refine tT6 11 150 (bt 18 4095) hHeld (k := ?_)
            refine one_ (i := 12) (N := some 151) (bt 18 8191) rfl rfl (one_of HT_.out (by kernel_rfl)) (by decide) (fun K hK => ?_)
            refine goes_ Tryd.func43 (by kernel_rfl) rfl #[.agg #[.int .i64 a0_0, .slice A0_1 l0_1.length c0_1], .int .i64 ((rd_T62 l0_2 a1).f0), .int .i64 (rd t249 x15_5)] (by rfl) rfl rfl TM ?_
            with_reducible refine (cycle_Struck.calls a0_0 _ _ l0_1 ((rd_T62 l0_2 a1).f0) (rd t249 x15_5) t257 t260 _ ?side1 ?side2 ?side3 A70.out).mono ?_
            (case side1 => exact TC HR0_1.out)
            (case side2 => exact HC0_1.out)
            (case side3 => exact Glob.fr HG.out (Fr.of_below (TB2 GE233.out GE234.out)))
            rintro e w96 ⟨v258, rfl, ho0, hb⟩
            have HS5_ := (hb.cell (World.block_lt_of_cell? _ _ (hHeld.2.2.2.2.2))).trans (hHeld.2.2.2.2.2)
            refine ⟨_, rfl, ?_⟩
            have n0_ := Aside0.mk (Kd.V_below (by (with_reducible repeat (first | apply Kd.V_alloc | apply Kd.V_drewN | apply Kd.V_drew)); exact HO_9.out) hb)
            have n1_ := Aside0.mk (Kd.V_below (by (with_reducible repeat (first | apply Kd.V_alloc | apply Kd.V_drewN | apply Kd.V_drew)); exact HO_13.out) hb)
            have n2_ := Aside0.mk (Kd.V_lower (Kd.V_mono (ok' := fun k_ => k_ ≠ gb233 ∧ k_ ≠ gb234) ho0 (fun k_ hk_ => ⟨(Kd.freshB (g := gb233) (o := .cells #[.int .i64 a0_0, .slice A0_1 l0_1.length c0_1, .slice (some ad246) l0_2.length c0_2] 27 (0, 0)) (TK BK233.out) k_ hk_), (Kd.freshB (g := gb234) (o := .cells #[.slice A2_0 l2_0.length c2_0, .slice A2_1 l2_1.length c2_1, .int .i64 a2_2, .int .i64 a2_3] 30 (0, 0)) (TK BK234.out) k_ hk_)⟩)) (below_size (TB2 GE233.out GE234.out)))
            have n3_ := Aside0.mk (blk_below (g := gb233) (o := .cells #[.int .i64 a0_0, .slice A0_1 l0_1.length c0_1, .slice (some ad246) l0_2.length c0_2] 27 (0, 0)) (TK BK233.out) hb)
            have n4_ := Aside0.mk (blk_below (g := gb234) (o := .cells #[.slice A2_0 l2_0.length c2_0, .slice A2_1 l2_1.length c2_1, .int .i64 a2_2, .int .i64 a2_3] 30 (0, 0)) (TK BK234.out) hb)
            have n5_ := Aside0.mk (below_step (TB2 GE233.out GE234.out) hb)
            clear HO_9
            clear HO_13
            clear BK233
            clear BK234
            clear HB
            have HO_9 := n0_
            have HO_13 := n1_
            have HO259 := n2_
            have BK233 := n3_
            have BK234 := n4_
            have HB := n5_
            clear n0_ n1_ n2_ n3_ n4_ n5_
            (try clear hb)
            (try clear hb2)
            (try clear hk)
            (try clear hi)
            (try clear ho0)
            refine hK.out _ _ ⟨czz BK233.out 0, czz BK233.out 1, czz BK233.out 2, ((HB.out.cell  (World.block_lt_of_cell? w _ hw255_0)).trans hw255_0), ((HB.out.cell  (World.block_lt_of_cell? w _ hw255_1)).trans hw255_1), HS5_⟩ (fun hHeld => ?_)
            clear hK K
            refine norm_ (a' := ?_) ?_ ?_
            rotate_left
            ·show Act.put _ (some 151) _ = _
             simp only [Act.put, lA, lZ, lS, i64_w, i32_w]
             rfl
            as_aux_lemma =>
            refine pT 13 138 (bt 18 16383) (k := ?_)
            refine pT 14 152 (bt 18 32767) (k := ?_)
            refine pT 15 153 (bt 18 65535) (k := ?_)
            refine pT 16 16 (bt 18 131071) (k := ?_)
            refine pT 17 17 (bt 18 262143) (k := ?_)
            refine done_ (done_of HT_.out (by kernel_rfl)) ?_
            try go_wp2
            have n0_ := Aside0.mk (Kd.V_drew HO_9.out)
            have n1_ := Aside0.mk (Kd.V_drew HO_13.out)
            have n2_ := Aside0.mk (Kd.V_drew HO259.out)
            have n3_ := Aside0.mk (blk_drew BK233.out)
            have n4_ := Aside0.mk (blk_drew BK234.out)
            have n5_ := Aside0.mk (below_drew1 HB.out)
            clear HO_9
            clear HO_13
            clear HO259
            clear BK233
            clear BK234
            clear HB
            have HO_9 := n0_
            have HO_13 := n1_
            have HO259 := n2_
            have BK233 := n3_
            have BK234 := n4_
            have HB := n5_
            clear n0_ n1_ n2_ n3_ n4_ n5_
            have p261 : 0 ≤ (x15_5 : Int) := of_decide_eq_true TA
            have q261 : x15_5 < (t249.length : Int) := of_decide_eq_true TA
            obtain ⟨ad261, e261, hx261_0⟩ := Kd.at_int (Kd.V_reads' HO_13.out).2.2 x15_5 p261 q261
            obtain rfl : ad256 = ad261 := (by injection e261)
            replace p261 := eq_true p261
            replace q261 := eq_true q261
            have p262 : 0 ≤ ((rd t249 x15_5) : Int) := of_decide_eq_true TA
            have q262 : (rd t249 x15_5) < (((rd_T62 l0_2 a1).f1).length : Int) := of_decide_eq_true TA
            obtain ⟨ad262, e262, hx262_0⟩ := Kd.at_int HR246_1.out (rd t249 x15_5) p262 q262
            have hw262_0 := hx262_0
            cases e262
            replace hx262_0 := (HB.out.cell  (World.block_lt_of_cell? w _ hx262_0)).trans hx262_0
            replace p262 := eq_true p262
            replace q262 := eq_true q262
            have p263 : 0 ≤ (x12_3 : Int) := of_decide_eq_true TA
            have q263 : x12_3 < (l2_0.length : Int) := of_decide_eq_true TA
            obtain ⟨ad263, e263, hx263_0⟩ := Kd.at_int HR2_0.out x12_3 p263 q263
            have hw263_0 := hx263_0
            cases e263
            replace hx263_0 := (HB.out.cell  (World.block_lt_of_cell? w _ hx263_0)).trans hx263_0
            replace p263 := eq_true p263
            replace q263 := eq_true q263
            have p267 : 0 ≤ (x15_5 : Int) := of_decide_eq_true TA
            have q267 : x15_5 < (t249.length : Int) := of_decide_eq_true TA
            obtain ⟨ad267, e267, hx267_0⟩ := Kd.at_int (Kd.V_reads' HO_13.out).2.2 x15_5 p267 q267
            obtain rfl : ad256 = ad267 := (by injection e267)
            replace p267 := eq_true p267
            replace q267 := eq_true q267
            have p268 : 0 ≤ (0 : Int) := (by omega)
            have q268 : 0 < (t242.length : Int) := of_decide_eq_true TA
            (try (obtain ⟨Aoz, coz, eoz⟩ := Kd.V_slice HO_9.out; subst eoz))
            obtain ⟨ad268, e268, hx268_0⟩ := Kd.at_int (Kd.V_reads' HO_9.out).2.2 0 p268 q268
            cases e268
            have qi268 : (0 < t242.length) = True := eq_true (by omega)
            (try rw [show ((0 : Int)).toNat = 0 from rfl] at hx268_0)
            (try rw [Addr.add_zero'] at hx268_0)
            replace p268 := eq_true p268
            replace q268 := eq_true q268
            refine start_ (n := 64) (S := fun w' => w'.cell? ⟨gb234, 0, none⟩ = some (.slice (some ad263) l2_0.length c2_0) ∧ w'.cell? ⟨gb234, 1, none⟩ = some (.slice A2_1 l2_1.length c2_1) ∧ w'.cell? ⟨gb234, 2, none⟩ = some (.int .i64 a2_2) ∧ w'.cell? ⟨gb234, 3, none⟩ = some (.int .i64 a2_3) ∧ w'.cell? (ad256.add (x15_5).toNat) = some (.int .i64 (rd t249 x15_5)) ∧ w'.cell? (ad262.add ((rd t249 x15_5)).toNat) = some (.int .i64 (rd ((rd_T62 l0_2 a1).f1) (rd t249 x15_5))) ∧ w'.cell? (ad263.add (x12_3).toNat) = some (.int .i64 (rd l2_0 x12_3)) ∧ w'.cell? (ad256.add (x15_5).toNat) = some (.int .i64 (rd t249 x15_5)) ∧ w'.cell? ad268 = some (.int .i64 (rd t242 0))) (ds := []) (.replicate 64 false) (by kernel_rfl) rfl rfl ⟨czz BK234.out 0, czz BK234.out 1, czz BK234.out 2, czz BK234.out 3, hx261_0, ((HB.out.cell  (World.block_lt_of_cell? w _ hw262_0)).trans hw262_0), ((HB.out.cell  (World.block_lt_of_cell? w _ hw263_0)).trans hw263_0), hx267_0, hx268_0⟩ (fun hHeld => ?_); refine with_tabW saronlaw09_HeardRead.tab20 saronlaw09_HeardRead.bits20 (fun HT_ HW_ => ?_)
            generalize w96.drew = w97 at HO_9 HO_13 HO259 BK233 BK234 HB hx261_0 hx262_0 hx263_0 hx267_0 hx268_0 hHeld ⊢
            refine pT 0 154 (bt 64 1) (k := ?_)
            refine pT 1 155 (bt 64 3) (k := ?_)
            refine pT 2 156 (bt 64 7) (k := ?_)
            refine pT 3 157 (bt 64 15) (k := ?_)
            refine pT 4 158 (bt 64 31) (k := ?_)
            refine pT 5 159 (bt 64 63) (k := ?_)
            refine pT 6 160 (bt 64 127) (k := ?_)
            refine pT 10 164 (bt 64 1151) (k := ?_)
            refine pT 12 166 (bt 64 5247) (k := ?_)
            refine pT 17 171 (bt 64 136319) (k := ?_)
            refine tT9 7 161 (bt 64 136447) hHeld (k := ?_)
            refine pT 8 162 (bt 64 136703) (k := ?_)
            refine tT9 9 163 (bt 64 137215) hHeld (k := ?_)
            refine tT9 11 165 (bt 64 139263) hHeld (k := ?_)
            refine pT 13 167 (bt 64 147455) (k := ?_)
            refine tT9 14 168 (bt 64 163839) hHeld (k := ?_)
            refine pT 15 169 (bt 64 196607) (k := ?_)
            refine tT9 18 172 (bt 64 458751) hHeld (k := ?_)
            refine pT 19 173 (bt 64 983039) (k := ?_)
            refine one_ (i := 16) (N := some 170) (bt 64 1048575) rfl rfl (one_of HT_.out (by kernel_rfl)) (by decide) (fun K hK => ?_)
            refine goes_ Tryd.func44 (by kernel_rfl) rfl #[.int .i64 (wrap64 ((rd ((rd_T62 l0_2 a1).f1) (rd t249 x15_5)) - (rd l2_0 x12_3)))] (by rfl) rfl rfl TM ?_
            with_reducible refine (saronref00_Plain.calls (wrap64 ((rd ((rd_T62 l0_2 a1).f1) (rd t249 x15_5)) - (rd l2_0 x12_3))) t264 _ A76.out).mono ?_
            rintro e w' ⟨rfl, ⟨nd, rfl⟩⟩
            refine ⟨_, rfl, ?_⟩
            refine hK.out _ _ ⟨czz BK234.out 0, czz BK234.out 1, czz BK234.out 2, czz BK234.out 3, hHeld.2.2.2.2.1, ((HB.out.cell  (World.block_lt_of_cell? w _ hw262_0)).trans hw262_0), ((HB.out.cell  (World.block_lt_of_cell? w _ hw263_0)).trans hw263_0), hHeld.2.2.2.2.2.2.2.1, hHeld.2.2.2.2.2.2.2.2⟩ (fun hHeld => ?_)
            clear hK K
            refine norm_ (a' := ?_) ?_ ?_
            rotate_left
            ·show Act.put _ (some 170) _ = _
             simp only [Act.put, lA, lZ, lS, i64_w, i32_w]
             rfl
            as_aux_lemma =>
            refine pT 20 174 (bt 64 2097151) (k := ?_)
            refine pT 21 175 (bt 64 4194303) (k := ?_)
            refine pT 22 176 (bt 64 8388607) (k := ?_)
            refine pT 23 177 (bt 64 16777215) (k := ?_)
            refine pT 25 179 (bt 64 50331647) (k := ?_)
            refine tT9 24 178 (bt 64 67108863) hHeld (k := ?_)
            refine one_ (i := 26) (N := some 180) (bt 64 134217727) rfl rfl (one_of HT_.out (by kernel_rfl)) (by decide) (fun K hK => ?_)
            refine goes_ Tryd.func39 (by kernel_rfl) rfl #[.slice A2_1 l2_1.length c2_1, .int .i64 x12_3] (by rfl) rfl rfl TM ?_
            with_reducible refine (saronref00_Where.calls k5 _ _ l2_1 x12_3 t265 _ ?side1 ?side2 A83.out).mono ?_
            (case side1 => exact TD HR2_1.out (TB2 GE233.out GE234.out))
            (case side2 => exact HC2_1.out)
            rintro e w' ⟨rfl, ⟨nd, rfl⟩⟩
            refine ⟨_, rfl, ?_⟩
            obtain ⟨Ao98, co98, eo98⟩ := Kd.V_slice HO259.out
            (first | subst eo98 | (injection eo98 with f1_ f2_ f3_; have f4_ := f1_.symm; have f5_ := f3_.symm; clear f1_ f2_ f3_; subst f4_; subst f5_))
            refine hK.out _ _ ⟨czz BK234.out 0, czz BK234.out 1, czz BK234.out 2, czz BK234.out 3, hHeld.2.2.2.2.1, ((HB.out.cell  (World.block_lt_of_cell? w _ hw262_0)).trans hw262_0), ((HB.out.cell  (World.block_lt_of_cell? w _ hw263_0)).trans hw263_0), hHeld.2.2.2.2.2.2.2.1, hHeld.2.2.2.2.2.2.2.2⟩ (fun hHeld => ?_)
            clear hK K
            refine norm_ (a' := ?_) ?_ ?_
            rotate_left
            ·show Act.put _ (some 180) _ = _
             simp only [Act.put, lA, lZ, lS, i64_w, i32_w]
             rfl
            refine pT 27 181 (bt 64 268435455) (k := ?_)
            refine pT 28 182 (bt 64 536870911) (k := ?_)
            refine pT 29 183 (bt 64 1073741823) (k := ?_)
            refine one_ (i := 30) (N := some 184) (bt 64 2147483647) rfl rfl (one_of HT_.out (by kernel_rfl)) (by decide) (fun K hK => ?_)
            refine goes_ Tryd.func39 (by kernel_rfl) rfl #[.slice Ao98 t257.length co98, .int .i64 0] (by rfl) rfl rfl TM ?_
            with_reducible refine (saronref00_Where.calls k5 _ _ t257 0 t266 _ ?side1 ?side2 A85.out).mono ?_
            (case side1 => repeat (first | exact (Kd.V_reads' HO259.out).2.2 | (with_reducible refine Kd.C_alloc ?_ _) | (with_reducible refine Kd.C_drewN ?_ _) | (with_reducible refine Kd.C_drew ?_)))
            (case side2 => exact (Kd.V_reads' HO259.out).2.1)
            rintro e w' ⟨rfl, ⟨nd, rfl⟩⟩
            refine ⟨_, rfl, ?_⟩
            obtain ⟨Ao99, co99, eo99⟩ := Kd.V_slice HO_9.out
            (first | subst eo99 | (injection eo99 with f1_ f2_ f3_; have f4_ := f1_.symm; have f5_ := f3_.symm; clear f1_ f2_ f3_; subst f4_; subst f5_))
            refine hK.out _ _ ⟨czz BK234.out 0, czz BK234.out 1, czz BK234.out 2, czz BK234.out 3, hHeld.2.2.2.2.1, ((HB.out.cell  (World.block_lt_of_cell? w _ hw262_0)).trans hw262_0), ((HB.out.cell  (World.block_lt_of_cell? w _ hw263_0)).trans hw263_0), hHeld.2.2.2.2.2.2.2.1, hHeld.2.2.2.2.2.2.2.2⟩ (fun hHeld => ?_)
            clear hK K
            refine norm_ (a' := ?_) ?_ ?_
            rotate_left
            ·show Act.put _ (some 184) _ = _
             simp only [Act.put, lA, lZ, lS, i64_w, i32_w]
             rfl
            refine pT 31 185 (bt 64 4294967295) (k := ?_)
            refine pT 32 186 (bt 64 8589934591) (k := ?_)
            refine pT 33 187 (bt 64 17179869183) (k := ?_)
            refine pT 34 188 (bt 64 34359738367) (k := ?_)
            refine pT 35 189 (bt 64 68719476735) (k := ?_)
            refine pT 36 190 (bt 64 137438953471) (k := ?_)
            refine pT 37 191 (bt 64 274877906943) (k := ?_)
            refine pT 39 193 (bt 64 824633720831) (k := ?_)
            refine pT 40 194 (bt 64 1924145348607) (k := ?_)
            refine pT 42 196 (bt 64 6322191859711) (k := ?_)
            refine tT9 38 192 (bt 64 6597069766655) hHeld (k := ?_)
            refine tT9 41 195 (bt 64 8796093022207) hHeld (k := ?_)
            refine pT 43 197 (bt 64 17592186044415) (k := ?_)
            refine pT 44 198 (bt 64 35184372088831) (k := ?_)
            refine pT 45 199 (bt 64 70368744177663) (k := ?_)
            refine pT 46 200 (bt 64 140737488355327) (k := ?_)
            refine pU 47 201 (bt 64 281474976710655) (k := ?_)
            refine pU 48 202 (bt 64 562949953421311) (k := ?_)
            refine pU 49 203 (bt 64 1125899906842623) (k := ?_)
            refine pU 50 204 (bt 64 2251799813685247) (k := ?_)
            refine pU 51 205 (bt 64 4503599627370495) (k := ?_)
            refine pU 52 206 (bt 64 9007199254740991) (k := ?_)
            refine pU 53 207 (bt 64 18014398509481983) (k := ?_)
            refine pU 54 208 (bt 64 36028797018963967) (k := ?_)
            refine pU 55 209 (bt 64 72057594037927935) (k := ?_)
            refine pU 56 210 (bt 64 144115188075855871) (k := ?_)
            refine pU 57 211 (bt 64 288230376151711743) (k := ?_)
            refine pU 58 212 (bt 64 576460752303423487) (k := ?_)
            refine pU 59 213 (bt 64 1152921504606846975) (k := ?_)
            refine pU 60 214 (bt 64 2305843009213693951) (k := ?_)
            refine pU 61 215 (bt 64 4611686018427387903) (k := ?_)
            refine pU 62 216 (bt 64 9223372036854775807) (k := ?_)
            refine pT 63 217 (bt 64 18446744073709551615) (k := ?_)
            refine done_ (done_of HT_.out (by kernel_rfl)) ?_
            try go_wp2
            go_ret
            exact ⟨by first | rfl | (simp [errW_none, errW_some] <;> rfl) | (simp only [← hji77]; first | rfl | (simp [errW_none, errW_some] <;> rfl)) | (simp [*, errW_none, errW_some] <;> rfl), TB2 GE233.out GE234.out⟩
           as_aux_lemma =>
           rw [if_neg c93] at H
           have c93b0 : decide ((rd t249 x15_5) < (wrap64 ((rd t242 0) + x12_3))) = false := decide_eq_false c93
           clear c93
           obtain ⟨ji100, hji100⟩ : ∃ j_ : Int, (wrap64 ((t242.length : Int) - 1)) = j_ := ⟨_, rfl⟩
           replace H : (if 0 ≤ (ji100) then (if (ji100) < (t242.length : Int) then (if (rd t249 x15_5) > (wrap64 ((wrap64 ((rd t242 (ji100)) + x12_3)) + a2_2)) then (some false) else (saronlaw09_HeardRead.l1 k5 a1 t235 t242 ((rd_T62 l0_2 a1).f1) x12_3 t249 (wrap64 (x15_5 + 1)) a0_0 l0_1 l0_2 l2_0 l2_1 a2_2 a2_3)) else (none)) else (none)) = some r := by first | (rw [hji100] at H; exact H) | (simp only [hji100] at H ⊢; exact H)
           (try rw [hji100] at A70)
           (try rw [hji100] at A76)
           (try rw [hji100] at A83)
           (try rw [hji100] at A85)
           have hji100w : (IntKind.i64.wrap ((t242.length : Int) - 1)) = ji100 := (i64_w _).trans hji100
           by_cases c101 : 0 ≤ (ji100)
           rotate_left
           ·rw [if_neg c101] at H
            exact absurd H (by simp)
           as_aux_lemma =>
           rw [if_pos c101] at H
           have c101b0 : decide (0 ≤ (ji100)) = true := decide_eq_true c101
           clear c101
           by_cases c102 : (ji100) < (t242.length : Int)
           rotate_left
           ·rw [if_neg c102] at H
            exact absurd H (by simp)
           as_aux_lemma =>
           rw [if_pos c102] at H
           have c102b0 : decide ((ji100) < (t242.length : Int)) = true := decide_eq_true c102
           clear c102
           by_cases c103 : (rd t249 x15_5) > (wrap64 ((wrap64 ((rd t242 (ji100)) + x12_3)) + a2_2))
           ·as_aux_lemma =>
            rw [if_pos c103] at H
            have c103b0 : decide ((wrap64 ((wrap64 ((rd t242 (ji100)) + x12_3)) + a2_2)) < (rd t249 x15_5)) = true := decide_eq_true c103
            clear c103
            obtain rfl := Option.some.inj H
            obtain ⟨Ao104, co104, eo104⟩ := Kd.V_slice HO_13.out
            subst eo104
            try go_wp2
            have n0_ := Aside0.mk (Kd.V_drew HO_9.out)
            have n1_ := Aside0.mk (Kd.V_drew HO_13.out)
            have n2_ := Aside0.mk (blk_drew BK233.out)
            have n3_ := Aside0.mk (blk_drew BK234.out)
            have n4_ := Aside0.mk (below_drew1 HB.out)
            clear HO_9
            clear HO_13
            clear BK233
            clear BK234
            clear HB
            have HO_9 := n0_
            have HO_13 := n1_
            have BK233 := n2_
            have BK234 := n3_
            have HB := n4_
            clear n0_ n1_ n2_ n3_ n4_
            have p255 : 0 ≤ (a1 : Int) := of_decide_eq_true TA
            have q255 : a1 < (l0_2.length : Int) := of_decide_eq_true TA
            obtain ⟨ad255, A255_1, c255_1, e255, hx255_0, hx255_1, hl255_1, hi255_1⟩ := at_T62 HR0_2.out a1 p255 q255
            have hw255_1 := hx255_1
            have hw255_0 := hx255_0
            obtain rfl : ad246 = ad255 := (by injection e255)
            replace hx255_0 := (HB.out.cell  (World.block_lt_of_cell? w _ hx255_0)).trans hx255_0
            replace hx255_1 := (HB.out.cell  (World.block_lt_of_cell? w _ hx255_1)).trans hx255_1
            have HR255_1 := Aside0.mk hi255_1
            have HC255_1 := Aside0.mk hl255_1
            clear hi255_1 hl255_1
            replace p255 := eq_true p255
            replace q255 := eq_true q255
            have p256 : 0 ≤ (x15_5 : Int) := of_decide_eq_true TA
            have q256 : x15_5 < (t249.length : Int) := of_decide_eq_true TA
            obtain ⟨ad256, e256, hx256_0⟩ := Kd.at_int (Kd.V_reads' HO_13.out).2.2 x15_5 p256 q256
            cases e256
            replace p256 := eq_true p256
            replace q256 := eq_true q256
            refine start_ (n := 18) (S := fun w' => w'.cell? ⟨gb233, 0, none⟩ = some (.int .i64 a0_0) ∧ w'.cell? ⟨gb233, 1, none⟩ = some (.slice A0_1 l0_1.length c0_1) ∧ w'.cell? ⟨gb233, 2, none⟩ = some (.slice (some ad246) l0_2.length c0_2) ∧ w'.cell? (ad246.add ((a1).toNat * 2)) = some (.int .i64 ((rd_T62 l0_2 a1).f0)) ∧ w'.cell? ⟨(ad246.add ((a1).toNat * 2)).block, (ad246.add ((a1).toNat * 2)).off + 1, none⟩ = some (.slice A255_1 ((rd_T62 l0_2 a1).f1).length c255_1) ∧ w'.cell? (ad256.add (x15_5).toNat) = some (.int .i64 (rd t249 x15_5))) (ds := []) (.replicate 18 false) (by kernel_rfl) rfl rfl ⟨czz BK233.out 0, czz BK233.out 1, czz BK233.out 2, ((HB.out.cell  (World.block_lt_of_cell? w _ hw255_0)).trans hw255_0), ((HB.out.cell  (World.block_lt_of_cell? w _ hw255_1)).trans hw255_1), hx256_0⟩ (fun hHeld => ?_); refine with_tabW saronlaw09_HeardRead.tab19 saronlaw09_HeardRead.bits19 (fun HT_ HW_ => ?_)
            generalize wr.drew = w105 at HO_9 HO_13 BK233 BK234 HB HR255_1 hx255_0 hx255_1 hx256_0 hHeld ⊢
            refine pT 0 139 (bt 18 1) (k := ?_)
            refine pT 2 141 (bt 18 5) (k := ?_)
            refine pT 4 143 (bt 18 21) (k := ?_)
            refine pT 8 147 (bt 18 277) (k := ?_)
            refine pT 9 148 (bt 18 789) (k := ?_)
            refine pT 10 149 (bt 18 1813) (k := ?_)
            refine tT6 1 140 (bt 18 1815) hHeld (k := ?_)
            refine tT6 3 142 (bt 18 1823) hHeld (k := ?_)
            refine pT 5 144 (bt 18 1855) (k := ?_)
            refine pT 6 145 (bt 18 1919) (k := ?_)
            refine tT6 7 146 (bt 18 2047) hHeld (k := ?_)
            refine tT6 11 150 (bt 18 4095) hHeld (k := ?_)
            refine one_ (i := 12) (N := some 151) (bt 18 8191) rfl rfl (one_of HT_.out (by kernel_rfl)) (by decide) (fun K hK => ?_)
            refine goes_ Tryd.func43 (by kernel_rfl) rfl #[.agg #[.int .i64 a0_0, .slice A0_1 l0_1.length c0_1], .int .i64 ((rd_T62 l0_2 a1).f0), .int .i64 (rd t249 x15_5)] (by rfl) rfl rfl TM ?_
            with_reducible refine (cycle_Struck.calls a0_0 _ _ l0_1 ((rd_T62 l0_2 a1).f0) (rd t249 x15_5) t257 t260 _ ?side1 ?side2 ?side3 A70.out).mono ?_
            (case side1 => exact TC HR0_1.out)
            (case side2 => exact HC0_1.out)
            (case side3 => exact Glob.fr HG.out (Fr.of_below (TB2 GE233.out GE234.out)))
            rintro e w106 ⟨v258, rfl, ho0, hb⟩
            have HS5_ := (hb.cell (World.block_lt_of_cell? _ _ (hHeld.2.2.2.2.2))).trans (hHeld.2.2.2.2.2)
            refine ⟨_, rfl, ?_⟩
            have n0_ := Aside0.mk (Kd.V_below (by (with_reducible repeat (first | apply Kd.V_alloc | apply Kd.V_drewN | apply Kd.V_drew)); exact HO_9.out) hb)
            have n1_ := Aside0.mk (Kd.V_below (by (with_reducible repeat (first | apply Kd.V_alloc | apply Kd.V_drewN | apply Kd.V_drew)); exact HO_13.out) hb)
            have n2_ := Aside0.mk (Kd.V_lower (Kd.V_mono (ok' := fun k_ => k_ ≠ gb233 ∧ k_ ≠ gb234) ho0 (fun k_ hk_ => ⟨(Kd.freshB (g := gb233) (o := .cells #[.int .i64 a0_0, .slice A0_1 l0_1.length c0_1, .slice (some ad246) l0_2.length c0_2] 27 (0, 0)) (TK BK233.out) k_ hk_), (Kd.freshB (g := gb234) (o := .cells #[.slice A2_0 l2_0.length c2_0, .slice A2_1 l2_1.length c2_1, .int .i64 a2_2, .int .i64 a2_3] 30 (0, 0)) (TK BK234.out) k_ hk_)⟩)) (below_size (TB2 GE233.out GE234.out)))
            have n3_ := Aside0.mk (blk_below (g := gb233) (o := .cells #[.int .i64 a0_0, .slice A0_1 l0_1.length c0_1, .slice (some ad246) l0_2.length c0_2] 27 (0, 0)) (TK BK233.out) hb)
            have n4_ := Aside0.mk (blk_below (g := gb234) (o := .cells #[.slice A2_0 l2_0.length c2_0, .slice A2_1 l2_1.length c2_1, .int .i64 a2_2, .int .i64 a2_3] 30 (0, 0)) (TK BK234.out) hb)
            have n5_ := Aside0.mk (below_step (TB2 GE233.out GE234.out) hb)
            clear HO_9
            clear HO_13
            clear BK233
            clear BK234
            clear HB
            have HO_9 := n0_
            have HO_13 := n1_
            have HO259 := n2_
            have BK233 := n3_
            have BK234 := n4_
            have HB := n5_
            clear n0_ n1_ n2_ n3_ n4_ n5_
            (try clear hb)
            (try clear hb2)
            (try clear hk)
            (try clear hi)
            (try clear ho0)
            refine hK.out _ _ ⟨czz BK233.out 0, czz BK233.out 1, czz BK233.out 2, ((HB.out.cell  (World.block_lt_of_cell? w _ hw255_0)).trans hw255_0), ((HB.out.cell  (World.block_lt_of_cell? w _ hw255_1)).trans hw255_1), HS5_⟩ (fun hHeld => ?_)
            clear hK K
            refine norm_ (a' := ?_) ?_ ?_
            rotate_left
            ·show Act.put _ (some 151) _ = _
             simp only [Act.put, lA, lZ, lS, i64_w, i32_w]
             rfl
            as_aux_lemma =>
            refine pT 13 138 (bt 18 16383) (k := ?_)
            refine pT 14 152 (bt 18 32767) (k := ?_)
            refine pT 15 153 (bt 18 65535) (k := ?_)
            refine pT 16 16 (bt 18 131071) (k := ?_)
            refine pT 17 17 (bt 18 262143) (k := ?_)
            refine done_ (done_of HT_.out (by kernel_rfl)) ?_
            try go_wp2
            have n0_ := Aside0.mk (Kd.V_drew HO_9.out)
            have n1_ := Aside0.mk (Kd.V_drew HO_13.out)
            have n2_ := Aside0.mk (Kd.V_drew HO259.out)
            have n3_ := Aside0.mk (blk_drew BK233.out)
            have n4_ := Aside0.mk (blk_drew BK234.out)
            have n5_ := Aside0.mk (below_drew1 HB.out)
            clear HO_9
            clear HO_13
            clear HO259
            clear BK233
            clear BK234
            clear HB
            have HO_9 := n0_
            have HO_13 := n1_
            have HO259 := n2_
            have BK233 := n3_
            have BK234 := n4_
            have HB := n5_
            clear n0_ n1_ n2_ n3_ n4_ n5_
            have p261 : 0 ≤ (x15_5 : Int) := of_decide_eq_true TA
            have q261 : x15_5 < (t249.length : Int) := of_decide_eq_true TA
            obtain ⟨ad261, e261, hx261_0⟩ := Kd.at_int (Kd.V_reads' HO_13.out).2.2 x15_5 p261 q261
            obtain rfl : ad256 = ad261 := (by injection e261)
            replace p261 := eq_true p261
            replace q261 := eq_true q261
            have p262 : 0 ≤ ((rd t249 x15_5) : Int) := of_decide_eq_true TA
            have q262 : (rd t249 x15_5) < (((rd_T62 l0_2 a1).f1).length : Int) := of_decide_eq_true TA
            obtain ⟨ad262, e262, hx262_0⟩ := Kd.at_int HR246_1.out (rd t249 x15_5) p262 q262
            have hw262_0 := hx262_0
            cases e262
            replace hx262_0 := (HB.out.cell  (World.block_lt_of_cell? w _ hx262_0)).trans hx262_0
            replace p262 := eq_true p262
            replace q262 := eq_true q262
            have p263 : 0 ≤ (x12_3 : Int) := of_decide_eq_true TA
            have q263 : x12_3 < (l2_0.length : Int) := of_decide_eq_true TA
            obtain ⟨ad263, e263, hx263_0⟩ := Kd.at_int HR2_0.out x12_3 p263 q263
            have hw263_0 := hx263_0
            cases e263
            replace hx263_0 := (HB.out.cell  (World.block_lt_of_cell? w _ hx263_0)).trans hx263_0
            replace p263 := eq_true p263
            replace q263 := eq_true q263
            have p267 : 0 ≤ (x15_5 : Int) := of_decide_eq_true TA
            have q267 : x15_5 < (t249.length : Int) := of_decide_eq_true TA
            obtain ⟨ad267, e267, hx267_0⟩ := Kd.at_int (Kd.V_reads' HO_13.out).2.2 x15_5 p267 q267
            obtain rfl : ad256 = ad267 := (by injection e267)
            replace p267 := eq_true p267
            replace q267 := eq_true q267
            have p268 : 0 ≤ (0 : Int) := (by omega)
            have q268 : 0 < (t242.length : Int) := of_decide_eq_true TA
            (try (obtain ⟨Aoz, coz, eoz⟩ := Kd.V_slice HO_9.out; subst eoz))
            obtain ⟨ad268, e268, hx268_0⟩ := Kd.at_int (Kd.V_reads' HO_9.out).2.2 0 p268 q268
            cases e268
            have qi268 : (0 < t242.length) = True := eq_true (by omega)
            (try rw [show ((0 : Int)).toNat = 0 from rfl] at hx268_0)
            (try rw [Addr.add_zero'] at hx268_0)
            replace p268 := eq_true p268
            replace q268 := eq_true q268
            have p269 : 0 ≤ (x15_5 : Int) := of_decide_eq_true TA
            have q269 : x15_5 < (t249.length : Int) := of_decide_eq_true TA
            obtain ⟨ad269, e269, hx269_0⟩ := Kd.at_int (Kd.V_reads' HO_13.out).2.2 x15_5 p269 q269
            obtain rfl : ad256 = ad269 := (by injection e269)
            replace p269 := eq_true p269
            replace q269 := eq_true q269
            have p270 : 0 ≤ ((ji100) : Int) := of_decide_eq_true TA
            have q270 : (ji100) < (t242.length : Int) := of_decide_eq_true TA
            obtain ⟨ad270, e270, hx270_0⟩ := Kd.at_int (Kd.V_reads' HO_9.out).2.2 (ji100) p270 q270
            obtain rfl : ad268 = ad270 := (by injection e270)
            replace p270 := eq_true p270
            replace q270 := eq_true q270
            refine start_ (n := 64) (S := fun w' => w'.cell? ⟨gb234, 0, none⟩ = some (.slice (some ad263) l2_0.length c2_0) ∧ w'.cell? ⟨gb234, 1, none⟩ = some (.slice A2_1 l2_1.length c2_1) ∧ w'.cell? ⟨gb234, 2, none⟩ = some (.int .i64 a2_2) ∧ w'.cell? ⟨gb234, 3, none⟩ = some (.int .i64 a2_3) ∧ w'.cell? (ad256.add (x15_5).toNat) = some (.int .i64 (rd t249 x15_5)) ∧ w'.cell? (ad262.add ((rd t249 x15_5)).toNat) = some (.int .i64 (rd ((rd_T62 l0_2 a1).f1) (rd t249 x15_5))) ∧ w'.cell? (ad263.add (x12_3).toNat) = some (.int .i64 (rd l2_0 x12_3)) ∧ w'.cell? (ad256.add (x15_5).toNat) = some (.int .i64 (rd t249 x15_5)) ∧ w'.cell? ad268 = some (.int .i64 (rd t242 0)) ∧ w'.cell? (ad256.add (x15_5).toNat) = some (.int .i64 (rd t249 x15_5)) ∧ w'.cell? (ad268.add ((ji100)).toNat) = some (.int .i64 (rd t242 (ji100)))) (ds := []) (.replicate 64 false) (by kernel_rfl) rfl rfl ⟨czz BK234.out 0, czz BK234.out 1, czz BK234.out 2, czz BK234.out 3, hx261_0, ((HB.out.cell  (World.block_lt_of_cell? w _ hw262_0)).trans hw262_0), ((HB.out.cell  (World.block_lt_of_cell? w _ hw263_0)).trans hw263_0), hx267_0, hx268_0, hx269_0, hx270_0⟩ (fun hHeld => ?_); refine with_tabW saronlaw09_HeardRead.tab20 saronlaw09_HeardRead.bits20 (fun HT_ HW_ => ?_)
            generalize w106.drew = w107 at HO_9 HO_13 HO259 BK233 BK234 HB hx261_0 hx262_0 hx263_0 hx267_0 hx268_0 hx269_0 hx270_0 hHeld ⊢
            refine pT 0 154 (bt 64 1) (k := ?_)
            refine pT 1 155 (bt 64 3) (k := ?_)
            refine pT 2 156 (bt 64 7) (k := ?_)
            refine pT 3 157 (bt 64 15) (k := ?_)
            refine pT 4 158 (bt 64 31) (k := ?_)
            refine pT 5 159 (bt 64 63) (k := ?_)
            refine pT 6 160 (bt 64 127) (k := ?_)
            refine pT 10 164 (bt 64 1151) (k := ?_)
            refine pT 12 166 (bt 64 5247) (k := ?_)
            refine pT 17 171 (bt 64 136319) (k := ?_)
            refine tT11 7 161 (bt 64 136447) hHeld (k := ?_)
            refine pT 8 162 (bt 64 136703) (k := ?_)
            refine tT11 9 163 (bt 64 137215) hHeld (k := ?_)
            refine tT11 11 165 (bt 64 139263) hHeld (k := ?_)
            refine pT 13 167 (bt 64 147455) (k := ?_)
            refine tT11 14 168 (bt 64 163839) hHeld (k := ?_)
            refine pT 15 169 (bt 64 196607) (k := ?_)
            refine tT11 18 172 (bt 64 458751) hHeld (k := ?_)
            refine pT 19 173 (bt 64 983039) (k := ?_)
            refine one_ (i := 16) (N := some 170) (bt 64 1048575) rfl rfl (one_of HT_.out (by kernel_rfl)) (by decide) (fun K hK => ?_)
            refine goes_ Tryd.func44 (by kernel_rfl) rfl #[.int .i64 (wrap64 ((rd ((rd_T62 l0_2 a1).f1) (rd t249 x15_5)) - (rd l2_0 x12_3)))] (by rfl) rfl rfl TM ?_
            with_reducible refine (saronref00_Plain.calls (wrap64 ((rd ((rd_T62 l0_2 a1).f1) (rd t249 x15_5)) - (rd l2_0 x12_3))) t264 _ A76.out).mono ?_
            rintro e w' ⟨rfl, ⟨nd, rfl⟩⟩
            refine ⟨_, rfl, ?_⟩
            refine hK.out _ _ ⟨czz BK234.out 0, czz BK234.out 1, czz BK234.out 2, czz BK234.out 3, hHeld.2.2.2.2.1, ((HB.out.cell  (World.block_lt_of_cell? w _ hw262_0)).trans hw262_0), ((HB.out.cell  (World.block_lt_of_cell? w _ hw263_0)).trans hw263_0), hHeld.2.2.2.2.2.2.2.1, hHeld.2.2.2.2.2.2.2.2.1, hHeld.2.2.2.2.2.2.2.2.2.1, hHeld.2.2.2.2.2.2.2.2.2.2⟩ (fun hHeld => ?_)
            clear hK K
            refine norm_ (a' := ?_) ?_ ?_
            rotate_left
            ·show Act.put _ (some 170) _ = _
             simp only [Act.put, lA, lZ, lS, i64_w, i32_w]
             rfl
            as_aux_lemma =>
            refine pT 20 174 (bt 64 2097151) (k := ?_)
            refine pT 21 175 (bt 64 4194303) (k := ?_)
            refine pT 22 176 (bt 64 8388607) (k := ?_)
            refine pT 23 177 (bt 64 16777215) (k := ?_)
            refine pT 25 179 (bt 64 50331647) (k := ?_)
            refine tT11 24 178 (bt 64 67108863) hHeld (k := ?_)
            refine one_ (i := 26) (N := some 180) (bt 64 134217727) rfl rfl (one_of HT_.out (by kernel_rfl)) (by decide) (fun K hK => ?_)
            refine goes_ Tryd.func39 (by kernel_rfl) rfl #[.slice A2_1 l2_1.length c2_1, .int .i64 x12_3] (by rfl) rfl rfl TM ?_
            with_reducible refine (saronref00_Where.calls k5 _ _ l2_1 x12_3 t265 _ ?side1 ?side2 A83.out).mono ?_
            (case side1 => exact TD HR2_1.out (TB2 GE233.out GE234.out))
            (case side2 => exact HC2_1.out)
            rintro e w' ⟨rfl, ⟨nd, rfl⟩⟩
            refine ⟨_, rfl, ?_⟩
            obtain ⟨Ao108, co108, eo108⟩ := Kd.V_slice HO259.out
            (first | subst eo108 | (injection eo108 with f1_ f2_ f3_; have f4_ := f1_.symm; have f5_ := f3_.symm; clear f1_ f2_ f3_; subst f4_; subst f5_))
            refine hK.out _ _ ⟨czz BK234.out 0, czz BK234.out 1, czz BK234.out 2, czz BK234.out 3, hHeld.2.2.2.2.1, ((HB.out.cell  (World.block_lt_of_cell? w _ hw262_0)).trans hw262_0), ((HB.out.cell  (World.block_lt_of_cell? w _ hw263_0)).trans hw263_0), hHeld.2.2.2.2.2.2.2.1, hHeld.2.2.2.2.2.2.2.2.1, hHeld.2.2.2.2.2.2.2.2.2.1, hHeld.2.2.2.2.2.2.2.2.2.2⟩ (fun hHeld => ?_)
            clear hK K
            refine norm_ (a' := ?_) ?_ ?_
            rotate_left
            ·show Act.put _ (some 180) _ = _
             simp only [Act.put, lA, lZ, lS, i64_w, i32_w]
             rfl
            refine pT 27 181 (bt 64 268435455) (k := ?_)
            refine pT 28 182 (bt 64 536870911) (k := ?_)
            refine pT 29 183 (bt 64 1073741823) (k := ?_)
            refine one_ (i := 30) (N := some 184) (bt 64 2147483647) rfl rfl (one_of HT_.out (by kernel_rfl)) (by decide) (fun K hK => ?_)
            refine goes_ Tryd.func39 (by kernel_rfl) rfl #[.slice Ao108 t257.length co108, .int .i64 0] (by rfl) rfl rfl TM ?_
            with_reducible refine (saronref00_Where.calls k5 _ _ t257 0 t266 _ ?side1 ?side2 A85.out).mono ?_
            (case side1 => repeat (first | exact (Kd.V_reads' HO259.out).2.2 | (with_reducible refine Kd.C_alloc ?_ _) | (with_reducible refine Kd.C_drewN ?_ _) | (with_reducible refine Kd.C_drew ?_)))
            (case side2 => exact (Kd.V_reads' HO259.out).2.1)
            rintro e w' ⟨rfl, ⟨nd, rfl⟩⟩
            refine ⟨_, rfl, ?_⟩
            obtain ⟨Ao109, co109, eo109⟩ := Kd.V_slice HO_9.out
            (first | subst eo109 | (injection eo109 with f1_ f2_ f3_; have f4_ := f1_.symm; have f5_ := f3_.symm; clear f1_ f2_ f3_; subst f4_; subst f5_))
            refine hK.out _ _ ⟨czz BK234.out 0, czz BK234.out 1, czz BK234.out 2, czz BK234.out 3, hHeld.2.2.2.2.1, ((HB.out.cell  (World.block_lt_of_cell? w _ hw262_0)).trans hw262_0), ((HB.out.cell  (World.block_lt_of_cell? w _ hw263_0)).trans hw263_0), hHeld.2.2.2.2.2.2.2.1, hHeld.2.2.2.2.2.2.2.2.1, hHeld.2.2.2.2.2.2.2.2.2.1, hHeld.2.2.2.2.2.2.2.2.2.2⟩ (fun hHeld => ?_)
            clear hK K
            refine norm_ (a' := ?_) ?_ ?_
            rotate_left
            ·show Act.put _ (some 184) _ = _
             simp only [Act.put, lA, lZ, lS, i64_w, i32_w]
             rfl
            refine pT 31 185 (bt 64 4294967295) (k := ?_)
            refine pT 32 186 (bt 64 8589934591) (k := ?_)
            refine pT 33 187 (bt 64 17179869183) (k := ?_)
            refine pT 34 188 (bt 64 34359738367) (k := ?_)
            refine pT 35 189 (bt 64 68719476735) (k := ?_)
            refine pT 36 190 (bt 64 137438953471) (k := ?_)
            refine pT 37 191 (bt 64 274877906943) (k := ?_)
            refine pT 39 193 (bt 64 824633720831) (k := ?_)
            refine pT 40 194 (bt 64 1924145348607) (k := ?_)
            refine pT 42 196 (bt 64 6322191859711) (k := ?_)
            refine tT11 38 192 (bt 64 6597069766655) hHeld (k := ?_)
            refine tT11 41 195 (bt 64 8796093022207) hHeld (k := ?_)
            refine pT 43 197 (bt 64 17592186044415) (k := ?_)
            refine pT 44 198 (bt 64 35184372088831) (k := ?_)
            refine pT 45 199 (bt 64 70368744177663) (k := ?_)
            refine pT 46 200 (bt 64 140737488355327) (k := ?_)
            refine pT 47 201 (bt 64 281474976710655) (k := ?_)
            refine pT 48 202 (bt 64 562949953421311) (k := ?_)
            refine pT 49 203 (bt 64 1125899906842623) (k := ?_)
            refine pT 51 205 (bt 64 3377699720527871) (k := ?_)
            refine pT 52 206 (bt 64 7881299347898367) (k := ?_)
            refine pT 53 207 (bt 64 16888498602639359) (k := ?_)
            refine pT 54 208 (bt 64 34902897112121343) (k := ?_)
            refine pT 55 209 (bt 64 70931694131085311) (k := ?_)
            refine pT 57 211 (bt 64 215046882206941183) (k := ?_)
            refine pT 59 213 (bt 64 791507634510364671) (k := ?_)
            refine tT11 50 204 (bt 64 792633534417207295) hHeld (k := ?_)
            refine tT11 56 210 (bt 64 864691128455135231) hHeld (k := ?_)
            refine pT 58 212 (bt 64 1152921504606846975) (k := ?_)
            refine tT11 60 214 (bt 64 2305843009213693951) hHeld (k := ?_)
            refine pT 61 215 (bt 64 4611686018427387903) (k := ?_)
            refine pT 62 216 (bt 64 9223372036854775807) (k := ?_)
            refine pT 63 217 (bt 64 18446744073709551615) (k := ?_)
            refine done_ (done_of HT_.out (by kernel_rfl)) ?_
            try go_wp2
            go_ret
            exact ⟨by first | rfl | (simp [errW_none, errW_some] <;> rfl) | (simp only [← hji77, ← hji100]; first | rfl | (simp [errW_none, errW_some] <;> rfl)) | (simp [*, errW_none, errW_some] <;> rfl), TB2 GE233.out GE234.out⟩
           as_aux_lemma =>
           rw [if_neg c103] at H
           have c103b0 : decide ((wrap64 ((wrap64 ((rd t242 (ji100)) + x12_3)) + a2_2)) < (rd t249 x15_5)) = false := decide_eq_false c103
           clear c103
           have H' := Aside0.mk H
           clear H
           obtain ⟨Ao110, co110, eo110⟩ := Kd.V_slice HO_13.out
           subst eo110
           try go_wp2
           have n0_ := Aside0.mk (Kd.V_drew HO_9.out)
           have n1_ := Aside0.mk (Kd.V_drew HO_13.out)
           have n2_ := Aside0.mk (blk_drew BK233.out)
           have n3_ := Aside0.mk (blk_drew BK234.out)
           have n4_ := Aside0.mk (below_drew1 HB.out)
           clear HO_9
           clear HO_13
           clear BK233
           clear BK234
           clear HB
           have HO_9 := n0_
           have HO_13 := n1_
           have BK233 := n2_
           have BK234 := n3_
           have HB := n4_
           clear n0_ n1_ n2_ n3_ n4_
           have p255 : 0 ≤ (a1 : Int) := of_decide_eq_true TA
           have q255 : a1 < (l0_2.length : Int) := of_decide_eq_true TA
           obtain ⟨ad255, A255_1, c255_1, e255, hx255_0, hx255_1, hl255_1, hi255_1⟩ := at_T62 HR0_2.out a1 p255 q255
           have hw255_1 := hx255_1
           have hw255_0 := hx255_0
           obtain rfl : ad246 = ad255 := (by injection e255)
           replace hx255_0 := (HB.out.cell  (World.block_lt_of_cell? w _ hx255_0)).trans hx255_0
           replace hx255_1 := (HB.out.cell  (World.block_lt_of_cell? w _ hx255_1)).trans hx255_1
           have HR255_1 := Aside0.mk hi255_1
           have HC255_1 := Aside0.mk hl255_1
           clear hi255_1 hl255_1
           replace p255 := eq_true p255
           replace q255 := eq_true q255
           have p256 : 0 ≤ (x15_5 : Int) := of_decide_eq_true TA
           have q256 : x15_5 < (t249.length : Int) := of_decide_eq_true TA
           obtain ⟨ad256, e256, hx256_0⟩ := Kd.at_int (Kd.V_reads' HO_13.out).2.2 x15_5 p256 q256
           cases e256
           replace p256 := eq_true p256
           replace q256 := eq_true q256
           refine start_ (n := 18) (S := fun w' => w'.cell? ⟨gb233, 0, none⟩ = some (.int .i64 a0_0) ∧ w'.cell? ⟨gb233, 1, none⟩ = some (.slice A0_1 l0_1.length c0_1) ∧ w'.cell? ⟨gb233, 2, none⟩ = some (.slice (some ad246) l0_2.length c0_2) ∧ w'.cell? (ad246.add ((a1).toNat * 2)) = some (.int .i64 ((rd_T62 l0_2 a1).f0)) ∧ w'.cell? ⟨(ad246.add ((a1).toNat * 2)).block, (ad246.add ((a1).toNat * 2)).off + 1, none⟩ = some (.slice A255_1 ((rd_T62 l0_2 a1).f1).length c255_1) ∧ w'.cell? (ad256.add (x15_5).toNat) = some (.int .i64 (rd t249 x15_5))) (ds := []) (.replicate 18 false) (by kernel_rfl) rfl rfl ⟨czz BK233.out 0, czz BK233.out 1, czz BK233.out 2, ((HB.out.cell  (World.block_lt_of_cell? w _ hw255_0)).trans hw255_0), ((HB.out.cell  (World.block_lt_of_cell? w _ hw255_1)).trans hw255_1), hx256_0⟩ (fun hHeld => ?_); refine with_tabW saronlaw09_HeardRead.tab19 saronlaw09_HeardRead.bits19 (fun HT_ HW_ => ?_)
           generalize wr.drew = w111 at HO_9 HO_13 BK233 BK234 HB HR255_1 hx255_0 hx255_1 hx256_0 hHeld ⊢
           refine pT 0 139 (bt 18 1) (k := ?_)
           refine pT 2 141 (bt 18 5) (k := ?_)
           refine pT 4 143 (bt 18 21) (k := ?_)
           refine pT 8 147 (bt 18 277) (k := ?_)
           refine pT 9 148 (bt 18 789) (k := ?_)
           refine pT 10 149 (bt 18 1813) (k := ?_)
           refine tT6 1 140 (bt 18 1815) hHeld (k := ?_)
           refine tT6 3 142 (bt 18 1823) hHeld (k := ?_)
           refine pT 5 144 (bt 18 1855) (k := ?_)
           refine pT 6 145 (bt 18 1919) (k := ?_)
           refine tT6 7 146 (bt 18 2047) hHeld (k := ?_)
           refine tT6 11 150 (bt 18 4095) hHeld (k := ?_)
           refine one_ (i := 12) (N := some 151) (bt 18 8191) rfl rfl (one_of HT_.out (by kernel_rfl)) (by decide) (fun K hK => ?_)
           refine goes_ Tryd.func43 (by kernel_rfl) rfl #[.agg #[.int .i64 a0_0, .slice A0_1 l0_1.length c0_1], .int .i64 ((rd_T62 l0_2 a1).f0), .int .i64 (rd t249 x15_5)] (by rfl) rfl rfl TM ?_
           with_reducible refine (cycle_Struck.calls a0_0 _ _ l0_1 ((rd_T62 l0_2 a1).f0) (rd t249 x15_5) t257 t260 _ ?side1 ?side2 ?side3 A70.out).mono ?_
           (case side1 => exact TC HR0_1.out)
           (case side2 => exact HC0_1.out)
           (case side3 => exact Glob.fr HG.out (Fr.of_below (TB2 GE233.out GE234.out)))
           rintro e w112 ⟨v258, rfl, ho0, hb⟩
           have HS5_ := (hb.cell (World.block_lt_of_cell? _ _ (hHeld.2.2.2.2.2))).trans (hHeld.2.2.2.2.2)
           refine ⟨_, rfl, ?_⟩
           have n0_ := Aside0.mk (Kd.V_below (by (with_reducible repeat (first | apply Kd.V_alloc | apply Kd.V_drewN | apply Kd.V_drew)); exact HO_9.out) hb)
           have n1_ := Aside0.mk (Kd.V_below (by (with_reducible repeat (first | apply Kd.V_alloc | apply Kd.V_drewN | apply Kd.V_drew)); exact HO_13.out) hb)
           have n2_ := Aside0.mk (Kd.V_lower (Kd.V_mono (ok' := fun k_ => k_ ≠ gb233 ∧ k_ ≠ gb234) ho0 (fun k_ hk_ => ⟨(Kd.freshB (g := gb233) (o := .cells #[.int .i64 a0_0, .slice A0_1 l0_1.length c0_1, .slice (some ad246) l0_2.length c0_2] 27 (0, 0)) (TK BK233.out) k_ hk_), (Kd.freshB (g := gb234) (o := .cells #[.slice A2_0 l2_0.length c2_0, .slice A2_1 l2_1.length c2_1, .int .i64 a2_2, .int .i64 a2_3] 30 (0, 0)) (TK BK234.out) k_ hk_)⟩)) (below_size (TB2 GE233.out GE234.out)))
           have n3_ := Aside0.mk (blk_below (g := gb233) (o := .cells #[.int .i64 a0_0, .slice A0_1 l0_1.length c0_1, .slice (some ad246) l0_2.length c0_2] 27 (0, 0)) (TK BK233.out) hb)
           have n4_ := Aside0.mk (blk_below (g := gb234) (o := .cells #[.slice A2_0 l2_0.length c2_0, .slice A2_1 l2_1.length c2_1, .int .i64 a2_2, .int .i64 a2_3] 30 (0, 0)) (TK BK234.out) hb)
           have n5_ := Aside0.mk (below_step (TB2 GE233.out GE234.out) hb)
           clear HO_9
           clear HO_13
           clear BK233
           clear BK234
           clear HB
           have HO_9 := n0_
           have HO_13 := n1_
           have HO259 := n2_
           have BK233 := n3_
           have BK234 := n4_
           have HB := n5_
           clear n0_ n1_ n2_ n3_ n4_ n5_
           (try clear hb)
           (try clear hb2)
           (try clear hk)
           (try clear hi)
           (try clear ho0)
           refine hK.out _ _ ⟨czz BK233.out 0, czz BK233.out 1, czz BK233.out 2, ((HB.out.cell  (World.block_lt_of_cell? w _ hw255_0)).trans hw255_0), ((HB.out.cell  (World.block_lt_of_cell? w _ hw255_1)).trans hw255_1), HS5_⟩ (fun hHeld => ?_)
           clear hK K
           refine norm_ (a' := ?_) ?_ ?_
           rotate_left
           ·show Act.put _ (some 151) _ = _
            simp only [Act.put, lA, lZ, lS, i64_w, i32_w]
            rfl
           as_aux_lemma =>
           refine pT 13 138 (bt 18 16383) (k := ?_)
           refine pT 14 152 (bt 18 32767) (k := ?_)
           refine pT 15 153 (bt 18 65535) (k := ?_)
           refine pT 16 16 (bt 18 131071) (k := ?_)
           refine pT 17 17 (bt 18 262143) (k := ?_)
           refine done_ (done_of HT_.out (by kernel_rfl)) ?_
           try go_wp2
           have n0_ := Aside0.mk (Kd.V_drew HO_9.out)
           have n1_ := Aside0.mk (Kd.V_drew HO_13.out)
           have n2_ := Aside0.mk (Kd.V_drew HO259.out)
           have n3_ := Aside0.mk (blk_drew BK233.out)
           have n4_ := Aside0.mk (blk_drew BK234.out)
           have n5_ := Aside0.mk (below_drew1 HB.out)
           clear HO_9
           clear HO_13
           clear HO259
           clear BK233
           clear BK234
           clear HB
           have HO_9 := n0_
           have HO_13 := n1_
           have HO259 := n2_
           have BK233 := n3_
           have BK234 := n4_
           have HB := n5_
           clear n0_ n1_ n2_ n3_ n4_ n5_
           have p261 : 0 ≤ (x15_5 : Int) := of_decide_eq_true TA
           have q261 : x15_5 < (t249.length : Int) := of_decide_eq_true TA
           obtain ⟨ad261, e261, hx261_0⟩ := Kd.at_int (Kd.V_reads' HO_13.out).2.2 x15_5 p261 q261
           obtain rfl : ad256 = ad261 := (by injection e261)
           replace p261 := eq_true p261
           replace q261 := eq_true q261
           have p262 : 0 ≤ ((rd t249 x15_5) : Int) := of_decide_eq_true TA
           have q262 : (rd t249 x15_5) < (((rd_T62 l0_2 a1).f1).length : Int) := of_decide_eq_true TA
           obtain ⟨ad262, e262, hx262_0⟩ := Kd.at_int HR246_1.out (rd t249 x15_5) p262 q262
           have hw262_0 := hx262_0
           cases e262
           replace hx262_0 := (HB.out.cell  (World.block_lt_of_cell? w _ hx262_0)).trans hx262_0
           replace p262 := eq_true p262
           replace q262 := eq_true q262
           have p263 : 0 ≤ (x12_3 : Int) := of_decide_eq_true TA
           have q263 : x12_3 < (l2_0.length : Int) := of_decide_eq_true TA
           obtain ⟨ad263, e263, hx263_0⟩ := Kd.at_int HR2_0.out x12_3 p263 q263
           have hw263_0 := hx263_0
           cases e263
           replace hx263_0 := (HB.out.cell  (World.block_lt_of_cell? w _ hx263_0)).trans hx263_0
           replace p263 := eq_true p263
           replace q263 := eq_true q263
           have p267 : 0 ≤ (x15_5 : Int) := of_decide_eq_true TA
           have q267 : x15_5 < (t249.length : Int) := of_decide_eq_true TA
           obtain ⟨ad267, e267, hx267_0⟩ := Kd.at_int (Kd.V_reads' HO_13.out).2.2 x15_5 p267 q267
           obtain rfl : ad256 = ad267 := (by injection e267)
           replace p267 := eq_true p267
           replace q267 := eq_true q267
           have p268 : 0 ≤ (0 : Int) := (by omega)
           have q268 : 0 < (t242.length : Int) := of_decide_eq_true TA
           (try (obtain ⟨Aoz, coz, eoz⟩ := Kd.V_slice HO_9.out; subst eoz))
           obtain ⟨ad268, e268, hx268_0⟩ := Kd.at_int (Kd.V_reads' HO_9.out).2.2 0 p268 q268
           cases e268
           have qi268 : (0 < t242.length) = True := eq_true (by omega)
           (try rw [show ((0 : Int)).toNat = 0 from rfl] at hx268_0)
           (try rw [Addr.add_zero'] at hx268_0)
           replace p268 := eq_true p268
           replace q268 := eq_true q268
           have p269 : 0 ≤ (x15_5 : Int) := of_decide_eq_true TA
           have q269 : x15_5 < (t249.length : Int) := of_decide_eq_true TA
           obtain ⟨ad269, e269, hx269_0⟩ := Kd.at_int (Kd.V_reads' HO_13.out).2.2 x15_5 p269 q269
           obtain rfl : ad256 = ad269 := (by injection e269)
           replace p269 := eq_true p269
           replace q269 := eq_true q269
           have p270 : 0 ≤ ((ji100) : Int) := of_decide_eq_true TA
           have q270 : (ji100) < (t242.length : Int) := of_decide_eq_true TA
           obtain ⟨ad270, e270, hx270_0⟩ := Kd.at_int (Kd.V_reads' HO_9.out).2.2 (ji100) p270 q270
           obtain rfl : ad268 = ad270 := (by injection e270)
           replace p270 := eq_true p270
           replace q270 := eq_true q270
           refine start_ (n := 64) (S := fun w' => w'.cell? ⟨gb234, 0, none⟩ = some (.slice (some ad263) l2_0.length c2_0) ∧ w'.cell? ⟨gb234, 1, none⟩ = some (.slice A2_1 l2_1.length c2_1) ∧ w'.cell? ⟨gb234, 2, none⟩ = some (.int .i64 a2_2) ∧ w'.cell? ⟨gb234, 3, none⟩ = some (.int .i64 a2_3) ∧ w'.cell? (ad256.add (x15_5).toNat) = some (.int .i64 (rd t249 x15_5)) ∧ w'.cell? (ad262.add ((rd t249 x15_5)).toNat) = some (.int .i64 (rd ((rd_T62 l0_2 a1).f1) (rd t249 x15_5))) ∧ w'.cell? (ad263.add (x12_3).toNat) = some (.int .i64 (rd l2_0 x12_3)) ∧ w'.cell? (ad256.add (x15_5).toNat) = some (.int .i64 (rd t249 x15_5)) ∧ w'.cell? ad268 = some (.int .i64 (rd t242 0)) ∧ w'.cell? (ad256.add (x15_5).toNat) = some (.int .i64 (rd t249 x15_5)) ∧ w'.cell? (ad268.add ((ji100)).toNat) = some (.int .i64 (rd t242 (ji100)))) (ds := []) (.replicate 64 false) (by kernel_rfl) rfl rfl ⟨czz BK234.out 0, czz BK234.out 1, czz BK234.out 2, czz BK234.out 3, hx261_0, ((HB.out.cell  (World.block_lt_of_cell? w _ hw262_0)).trans hw262_0), ((HB.out.cell  (World.block_lt_of_cell? w _ hw263_0)).trans hw263_0), hx267_0, hx268_0, hx269_0, hx270_0⟩ (fun hHeld => ?_); refine with_tabW saronlaw09_HeardRead.tab20 saronlaw09_HeardRead.bits20 (fun HT_ HW_ => ?_)
           generalize w112.drew = w113 at HO_9 HO_13 HO259 BK233 BK234 HB hx261_0 hx262_0 hx263_0 hx267_0 hx268_0 hx269_0 hx270_0 hHeld ⊢
           refine pT 0 154 (bt 64 1) (k := ?_)
           refine pT 1 155 (bt 64 3) (k := ?_)
           refine pT 2 156 (bt 64 7) (k := ?_)
           refine pT 3 157 (bt 64 15) (k := ?_)
           refine pT 4 158 (bt 64 31) (k := ?_)
           refine pT 5 159 (bt 64 63) (k := ?_)
           refine pT 6 160 (bt 64 127) (k := ?_)
           refine pT 10 164 (bt 64 1151) (k := ?_)
           refine pT 12 166 (bt 64 5247) (k := ?_)
           refine pT 17 171 (bt 64 136319) (k := ?_)
           refine tT11 7 161 (bt 64 136447) hHeld (k := ?_)
           refine pT 8 162 (bt 64 136703) (k := ?_)
           refine tT11 9 163 (bt 64 137215) hHeld (k := ?_)
           refine tT11 11 165 (bt 64 139263) hHeld (k := ?_)
           refine pT 13 167 (bt 64 147455) (k := ?_)
           refine tT11 14 168 (bt 64 163839) hHeld (k := ?_)
           refine pT 15 169 (bt 64 196607) (k := ?_)
           refine tT11 18 172 (bt 64 458751) hHeld (k := ?_)
           refine pT 19 173 (bt 64 983039) (k := ?_)
           refine one_ (i := 16) (N := some 170) (bt 64 1048575) rfl rfl (one_of HT_.out (by kernel_rfl)) (by decide) (fun K hK => ?_)
           refine goes_ Tryd.func44 (by kernel_rfl) rfl #[.int .i64 (wrap64 ((rd ((rd_T62 l0_2 a1).f1) (rd t249 x15_5)) - (rd l2_0 x12_3)))] (by rfl) rfl rfl TM ?_
           with_reducible refine (saronref00_Plain.calls (wrap64 ((rd ((rd_T62 l0_2 a1).f1) (rd t249 x15_5)) - (rd l2_0 x12_3))) t264 _ A76.out).mono ?_
           rintro e w' ⟨rfl, ⟨nd, rfl⟩⟩
           refine ⟨_, rfl, ?_⟩
           refine hK.out _ _ ⟨czz BK234.out 0, czz BK234.out 1, czz BK234.out 2, czz BK234.out 3, hHeld.2.2.2.2.1, ((HB.out.cell  (World.block_lt_of_cell? w _ hw262_0)).trans hw262_0), ((HB.out.cell  (World.block_lt_of_cell? w _ hw263_0)).trans hw263_0), hHeld.2.2.2.2.2.2.2.1, hHeld.2.2.2.2.2.2.2.2.1, hHeld.2.2.2.2.2.2.2.2.2.1, hHeld.2.2.2.2.2.2.2.2.2.2⟩ (fun hHeld => ?_)
           clear hK K
           refine norm_ (a' := ?_) ?_ ?_
           rotate_left
           ·show Act.put _ (some 170) _ = _
            simp only [Act.put, lA, lZ, lS, i64_w, i32_w]
            rfl
           as_aux_lemma =>
           refine pT 20 174 (bt 64 2097151) (k := ?_)
           refine pT 21 175 (bt 64 4194303) (k := ?_)
           refine pT 22 176 (bt 64 8388607) (k := ?_)
           refine pT 23 177 (bt 64 16777215) (k := ?_)
           refine pT 25 179 (bt 64 50331647) (k := ?_)
           refine tT11 24 178 (bt 64 67108863) hHeld (k := ?_)
           refine one_ (i := 26) (N := some 180) (bt 64 134217727) rfl rfl (one_of HT_.out (by kernel_rfl)) (by decide) (fun K hK => ?_)
           refine goes_ Tryd.func39 (by kernel_rfl) rfl #[.slice A2_1 l2_1.length c2_1, .int .i64 x12_3] (by rfl) rfl rfl TM ?_
           with_reducible refine (saronref00_Where.calls k5 _ _ l2_1 x12_3 t265 _ ?side1 ?side2 A83.out).mono ?_
           (case side1 => exact TD HR2_1.out (TB2 GE233.out GE234.out))
           (case side2 => exact HC2_1.out)
           rintro e w' ⟨rfl, ⟨nd, rfl⟩⟩
           refine ⟨_, rfl, ?_⟩
           obtain ⟨Ao114, co114, eo114⟩ := Kd.V_slice HO259.out
           (first | subst eo114 | (injection eo114 with f1_ f2_ f3_; have f4_ := f1_.symm; have f5_ := f3_.symm; clear f1_ f2_ f3_; subst f4_; subst f5_))
           refine hK.out _ _ ⟨czz BK234.out 0, czz BK234.out 1, czz BK234.out 2, czz BK234.out 3, hHeld.2.2.2.2.1, ((HB.out.cell  (World.block_lt_of_cell? w _ hw262_0)).trans hw262_0), ((HB.out.cell  (World.block_lt_of_cell? w _ hw263_0)).trans hw263_0), hHeld.2.2.2.2.2.2.2.1, hHeld.2.2.2.2.2.2.2.2.1, hHeld.2.2.2.2.2.2.2.2.2.1, hHeld.2.2.2.2.2.2.2.2.2.2⟩ (fun hHeld => ?_)
           clear hK K
           refine norm_ (a' := ?_) ?_ ?_
           rotate_left
           ·show Act.put _ (some 180) _ = _
            simp only [Act.put, lA, lZ, lS, i64_w, i32_w]
            rfl
           refine pT 27 181 (bt 64 268435455) (k := ?_)
           refine pT 28 182 (bt 64 536870911) (k := ?_)
           refine pT 29 183 (bt 64 1073741823) (k := ?_)
           refine one_ (i := 30) (N := some 184) (bt 64 2147483647) rfl rfl (one_of HT_.out (by kernel_rfl)) (by decide) (fun K hK => ?_)
           refine goes_ Tryd.func39 (by kernel_rfl) rfl #[.slice Ao114 t257.length co114, .int .i64 0] (by rfl) rfl rfl TM ?_
           with_reducible refine (saronref00_Where.calls k5 _ _ t257 0 t266 _ ?side1 ?side2 A85.out).mono ?_
           (case side1 => repeat (first | exact (Kd.V_reads' HO259.out).2.2 | (with_reducible refine Kd.C_alloc ?_ _) | (with_reducible refine Kd.C_drewN ?_ _) | (with_reducible refine Kd.C_drew ?_)))
           (case side2 => exact (Kd.V_reads' HO259.out).2.1)
           rintro e w' ⟨rfl, ⟨nd, rfl⟩⟩
           refine ⟨_, rfl, ?_⟩
           obtain ⟨Ao115, co115, eo115⟩ := Kd.V_slice HO_9.out
           (first | subst eo115 | (injection eo115 with f1_ f2_ f3_; have f4_ := f1_.symm; have f5_ := f3_.symm; clear f1_ f2_ f3_; subst f4_; subst f5_))
           refine hK.out _ _ ⟨czz BK234.out 0, czz BK234.out 1, czz BK234.out 2, czz BK234.out 3, hHeld.2.2.2.2.1, ((HB.out.cell  (World.block_lt_of_cell? w _ hw262_0)).trans hw262_0), ((HB.out.cell  (World.block_lt_of_cell? w _ hw263_0)).trans hw263_0), hHeld.2.2.2.2.2.2.2.1, hHeld.2.2.2.2.2.2.2.2.1, hHeld.2.2.2.2.2.2.2.2.2.1, hHeld.2.2.2.2.2.2.2.2.2.2⟩ (fun hHeld => ?_)
           clear hK K
           refine norm_ (a' := ?_) ?_ ?_
           rotate_left
           ·show Act.put _ (some 184) _ = _
            simp only [Act.put, lA, lZ, lS, i64_w, i32_w]
            rfl
           refine pT 31 185 (bt 64 4294967295) (k := ?_)
           refine pT 32 186 (bt 64 8589934591) (k := ?_)
           refine pT 33 187 (bt 64 17179869183) (k := ?_)
           refine pT 34 188 (bt 64 34359738367) (k := ?_)
           refine pT 35 189 (bt 64 68719476735) (k := ?_)
           refine pT 36 190 (bt 64 137438953471) (k := ?_)
           refine pT 37 191 (bt 64 274877906943) (k := ?_)
           refine pT 39 193 (bt 64 824633720831) (k := ?_)
           refine pT 40 194 (bt 64 1924145348607) (k := ?_)
           refine pT 42 196 (bt 64 6322191859711) (k := ?_)
           refine tT11 38 192 (bt 64 6597069766655) hHeld (k := ?_)
           refine tT11 41 195 (bt 64 8796093022207) hHeld (k := ?_)
           refine pT 43 197 (bt 64 17592186044415) (k := ?_)
           refine pT 44 198 (bt 64 35184372088831) (k := ?_)
           refine pT 45 199 (bt 64 70368744177663) (k := ?_)
           refine pT 46 200 (bt 64 140737488355327) (k := ?_)
           refine pT 47 201 (bt 64 281474976710655) (k := ?_)
           refine pT 48 202 (bt 64 562949953421311) (k := ?_)
           refine pT 49 203 (bt 64 1125899906842623) (k := ?_)
           refine pT 51 205 (bt 64 3377699720527871) (k := ?_)
           refine pT 52 206 (bt 64 7881299347898367) (k := ?_)
           refine pT 53 207 (bt 64 16888498602639359) (k := ?_)
           refine pT 54 208 (bt 64 34902897112121343) (k := ?_)
           refine pT 55 209 (bt 64 70931694131085311) (k := ?_)
           refine pT 57 211 (bt 64 215046882206941183) (k := ?_)
           refine pT 59 213 (bt 64 791507634510364671) (k := ?_)
           refine tT11 50 204 (bt 64 792633534417207295) hHeld (k := ?_)
           refine tT11 56 210 (bt 64 864691128455135231) hHeld (k := ?_)
           refine pT 58 212 (bt 64 1152921504606846975) (k := ?_)
           refine tT11 60 214 (bt 64 2305843009213693951) hHeld (k := ?_)
           refine pT 61 215 (bt 64 4611686018427387903) (k := ?_)
           refine pT 62 216 (bt 64 9223372036854775807) (k := ?_)
           refine pT 63 217 (bt 64 18446744073709551615) (k := ?_)
           refine done_ (done_of HT_.out (by kernel_rfl)) ?_
           try go_wp2
           go_roundg k5
           case measure => have := HJ6.out; have := HJ33.out; have := HK3.out; have := HJ48.out; have := HK5.out; omega
           case rel => exact ⟨(wrap64 (x15_5 + 1)), TT, H', ⟨by have := HJ6.out; have := HJ33.out; have := HK3.out; have := HJ48.out; have := HK5.out; omega⟩, ⟨by (with_reducible repeat (first | apply Kd.V_alloc | apply Kd.V_drewN | apply Kd.V_drew)); exact HO_9.out⟩, ⟨by (with_reducible repeat (first | apply Kd.V_alloc | apply Kd.V_drewN | apply Kd.V_drew)); exact HO_13.out⟩, ⟨by (with_reducible repeat (first | refine blk_drewN ?_ _ | refine blk_drew ?_ | refine blk_alloc ?_ _)); exact BK233.out⟩, ⟨by (with_reducible repeat (first | refine blk_drewN ?_ _ | refine blk_drew ?_ | refine blk_alloc ?_ _)); exact BK234.out⟩, ⟨TB2 GE233.out GE234.out⟩⟩
end Go.Proofs.YtfdenclnneigfaaDoor.PRaspKeys
