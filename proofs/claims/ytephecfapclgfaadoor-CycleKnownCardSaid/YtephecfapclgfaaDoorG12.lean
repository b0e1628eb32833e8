import Derived.Test.YtephecfapclgfaaDoorG7
set_option linter.unusedVariables false
set_option linter.unusedSimpArgs false
namespace Go.Proofs.YtephecfapclgfaaDoor.R
open Go.RowKit Go.Shelf Go.Proofs.YtephecfapclgfaaDoorW.PrintWords Go.Proofs.YtephecfapclgfaaDoorW.PrintLast Go.Proofs.YtephecfapclgfaaDoorW.PrintMore Go.Proofs.YtephecfapclgfaaDoor.PRaspKeys Go.Proofs.YtephecfapclgfaaDoor.X
attribute [local go_sem] Oper.semAt_some
attribute [local go_sem high] eqA38 eqA97

/-! ### What the functions tell -/
section
variable {w : World} {g : Int} {A : Option Addr} {c : Nat} {l : List S63}
theorem e17 (hB : Book w A c l) {E : Int} (h : checkE g l = E) : Calls Tryd.prog 17 #[.agg #[.int .i64 g, .slice A l.length c]] w fun e w' => e = .returned (.int .i64 E) ∧ Fr0 w w' := by
  subst h
  exact check_any g A c l w hB.r hB.c
theorem e14 (hB : Book w A c l) (f b E : Int) (h : (struckF g l f b).2 = E) : Calls Tryd.prog 14 #[.agg #[.int .i64 g, .slice A l.length c], .int .i64 f, .int .i64 b] w fun e w' => ∃ v, e = .returned (.tuple #[v, .int .i64 E]) ∧ Fr0 w w' := by
  subst h
  exact (struck_any g A c l f b w hB).mono fun e w' ⟨v, h, _, hb⟩ => ⟨v, h, mk_fr hb⟩
theorem e14n (hB : Book w A c l) (f b : Int) (h : struckF g l f b = ([], 0)) : Calls Tryd.prog 14 #[.agg #[.int .i64 g, .slice A l.length c], .int .i64 f, .int .i64 b] w fun e w' => ∃ A2 c2, e = .returned (.tuple #[.slice A2 0 c2, .int .i64 0]) ∧ Fr0 w w' := by
  have k := struck_any g A c l f b w hB
  rw [h] at k
  refine k.mono ?_
  rintro e w' ⟨v, rfl, ⟨A2, c2, rfl, _, _⟩, hb⟩
  exact ⟨A2, c2, rfl, mk_fr hb⟩
theorem e19 (hB : Book w A c l) (f n b a E : Int) (h : nextF g l f n b = (a, E)) : Calls Tryd.prog 19 #[.agg #[.int .i64 g, .slice A l.length c], .int .i64 f, .int .i64 n, .int .i64 b] w fun e w' => e = .returned (.tuple #[.int .i64 a, .int .i64 E]) ∧ Fr0 w w' := by
  have k := nexts_any g A c l f n b w hB
  rw [h] at k
  exact k.mono fun e w' h => ⟨h.1, mk_fr h.2⟩
theorem e21 (hB : Book w A c l) (f n a E : Int) (h : evenF g l f n = (a, E)) : Calls Tryd.prog 21 #[.agg #[.int .i64 g, .slice A l.length c], .int .i64 f, .int .i64 n] w fun e w' => e = .returned (.tuple #[.int .i64 a, .int .i64 E]) ∧ Fr0 w w' := by
  have k := even_any g A c l f n w hB
  rw [h] at k
  exact k.mono fun e w' h => ⟨h.1, mk_fr h.2⟩
theorem e24 (hB : Book w A c l) (f b m E : Int) (h : (passF g l f b m).2 = E) : Calls Tryd.prog 24 #[.agg #[.int .i64 g, .slice A l.length c], .agg #[.int .i64 f, .int .i64 b], .int .i64 m] w fun e w' => ∃ v, e = .returned (.tuple #[v, .int .i64 E]) ∧ Fr0 w w' := by
  subst h
  exact (passages_any g A c l f b m w hB).mono fun e w' ⟨v, h, _, hb⟩ => ⟨v, h, mk_fr hb⟩
theorem e27 (hB : Book w A c l) {Ap : Option Addr} {cp : Nat} (p : List (List Int)) (hr : Kd.C (Kd.slice 3 (Kd.int .i64)) w Ap p.length p) (hc : p.length ≤ cp) (lost E : Int) (h : (placesF g l p lost).2 = E) : Calls Tryd.prog 27 #[.agg #[.int .i64 g, .slice A l.length c], .slice Ap p.length cp, .int .i64 lost] w fun e w' => ∃ v, e = .returned (.tuple #[v, .int .i64 E]) ∧ Fr0 w w' := by
  subst h
  exact (places_any g A c l Ap cp p lost w hB hr hc).mono fun e w' ⟨v, h, _, hb⟩ => ⟨v, h, mk_fr hb⟩
theorem e27v (hB : Book w A c l) {Ap : Option Addr} {cp : Nat} (p : List (List Int)) (hr : Kd.C (Kd.slice 3 (Kd.int .i64)) w Ap p.length p) (hc : p.length ≤ cp) (lost : Int) (L : List S38) (E : Int) (h : placesF g l p lost = (L, E)) : Calls Tryd.prog 27 #[.agg #[.int .i64 g, .slice A l.length c], .slice Ap p.length cp, .int .i64 lost] w fun e w' => ∃ A2 c2, e = .returned (.tuple #[.slice A2 L.length c2, .int .i64 E]) ∧ Kd.C k38 w' A2 L.length L ∧ L.length ≤ c2 ∧ Fr0 w w' := by
  have k := places_any g A c l Ap cp p lost w hB hr hc
  rw [h] at k
  refine k.mono ?_
  rintro e w' ⟨v, rfl, ⟨A2, c2, rfl, hc, hF⟩, hb⟩
  exact ⟨A2, c2, rfl, Kd.F_now hF, hc, mk_fr hb⟩
theorem e30 (hB : Book w A c l) {Ap : Option Addr} {cp : Nat} (p : List (List Int)) (hr : Kd.C (Kd.slice 3 (Kd.int .i64)) w Ap p.length p) (hc : p.length ≤ cp) (a E : Int) (h : leastF g l p = (a, E)) : Calls Tryd.prog 30 #[.agg #[.int .i64 g, .slice A l.length c], .slice Ap p.length cp] w fun e w' => e = .returned (.tuple #[.int .i64 a, .int .i64 E]) ∧ Fr0 w w' := by
  have k := least_any g A c l Ap cp p w hB hr hc
  rw [h] at k
  exact k.mono fun e w' h => ⟨h.1, mk_fr h.2⟩
theorem e32 (hB : Book w A c l) (f b : Int) {Ap : Option Addr} {cp : Nat} (p : List (List Int)) (hr : Kd.C (Kd.slice 3 (Kd.int .i64)) w Ap p.length p) (hc : p.length ≤ cp) (E : Int) (h : (missingF g l f b p).2 = E) : Calls Tryd.prog 32 #[.agg #[.int .i64 g, .slice A l.length c], .agg #[.int .i64 f, .int .i64 b], .slice Ap p.length cp] w fun e w' => ∃ v, e = .returned (.tuple #[v, .int .i64 E]) ∧ Fr0 w w' := by
  subst h
  exact (missings_any g A c l f b Ap cp p w hB hr hc).mono fun e w' ⟨v, h, _, hb⟩ => ⟨v, h, mk_fr hb⟩
theorem e35 (hB : Book w A c l) (lost m E : Int) (h : (confF g l lost m).2 = E) : Calls Tryd.prog 35 #[.agg #[.int .i64 g, .slice A l.length c], .int .i64 lost, .int .i64 m] w fun e w' => ∃ a b s t : Int, e = .returned (.tuple #[.agg #[.int .i64 a, .int .i64 b], .agg #[.int .i64 s, .int .i64 t], .int .i64 E]) ∧ Fr0 w w' := by
  subst h
  exact (confused_any g A c l lost m w hB).mono fun e w' h => ⟨_, _, _, _, h.1, mk_fr h.2⟩
theorem e37 (hB : Book w A c l) (lost a E : Int) (h : sureF g l lost = (a, E)) : Calls Tryd.prog 37 #[.agg #[.int .i64 g, .slice A l.length c], .int .i64 lost] w fun e w' => e = .returned (.tuple #[.int .i64 a, .int .i64 E]) ∧ Fr0 w w' := by
  have k := sure_any g A c l lost w hB
  rw [h] at k
  exact k.mono fun e w' h => ⟨h.1, mk_fr h.2⟩
theorem nob (hb : bookOk g l = false) (ok : Bool) : openE g l ok = 50 := by unfold openE; rw [hb]; rfl
theorem nil_rows (w : World) : Kd.C (Kd.slice 3 (Kd.int .i64)) w none ([] : List (List Int)).length [] := ⟨rfl, by simp, fun h => absurd h (by simp)⟩
theorem e32n (hB : Book w A c l) (f b E : Int) (h : (missingF g l f b []).2 = E) : Calls Tryd.prog 32 #[.agg #[.int .i64 g, .slice A l.length c], .agg #[.int .i64 f, .int .i64 b], .slice none 0 0] w fun e w' => ∃ v, e = .returned (.tuple #[v, .int .i64 E]) ∧ Fr0 w w' := e32 (cp := 0) hB f b [] (nil_rows w) (Nat.le_refl 0) E h
theorem b17 (hb : bookOk g l = false) : checkE g l = 50 := by unfold checkE; rw [hb]; rfl
theorem b14 (hb : bookOk g l = false) (f b : Int) : (struckF g l f b).2 = 50 := by unfold struckF; rw [nob hb]; rfl
theorem b19 (hb : bookOk g l = false) (f n b : Int) : nextF g l f n b = (0, 50) := by unfold nextF; rw [nob hb]; rfl
theorem b21 (hb : bookOk g l = false) (f n : Int) : evenF g l f n = (0, 50) := by unfold evenF; rw [nob hb]; rfl
theorem b24 (hb : bookOk g l = false) (f b m : Int) : (passF g l f b m).2 = 50 := by unfold passF; rw [nob hb]; rfl
theorem b27 (hb : bookOk g l = false) (p : List (List Int)) (n : Int) : (placesF g l p n).2 = 50 := by unfold placesF; rw [nob hb]; rfl
theorem b30 (hb : bookOk g l = false) (p : List (List Int)) : leastF g l p = (0, 50) := by unfold leastF; rw [nob hb]; rfl
theorem b32 (hb : bookOk g l = false) (f b : Int) (p : List (List Int)) : (missingF g l f b p).2 = 50 := by unfold missingF; rw [nob hb]; rfl
theorem b35 (hb : bookOk g l = false) (n m : Int) : (confF g l n m).2 = 50 := by unfold confF; rw [nob hb]; rfl
theorem b37 (hb : bookOk g l = false) (n : Int) : sureF g l n = (0, 50) := by unfold sureF; rw [nob hb]; rfl
end
/-! ### The law's book, block by block -/
structure BookP (W : World) (b : Nat) (F S : Array Value) : Prop where
  r0 : Bx W b 3 #[.int .i64 7]
  r1 : Bx W (b + 1) 3 #[.int .i64 3, .int .i64 7]
  r2 : Bx W (b + 2) 3 #[.int .i64 0, .int .i64 2, .int .i64 4, .int .i64 6]
  s : Bx W (b + 3) 26 S
  t0 : Bx W (b + 4) 3 #[.int .i64 3]
  t1 : Bx W (b + 5) 3 #[.int .i64 1]
  t2 : Bx W (b + 6) 3 #[.int .i64 0, .int .i64 2]
  s1 : Bx W (b + 7) 26 #[.slice (some ⟨b + 4, 0, none⟩) 1 1, .slice (some ⟨b + 5, 0, none⟩) 1 1, .slice (some ⟨b + 6, 0, none⟩) 2 2]
  f : Bx W (b + 8) 63 F
abbrev bF (b : Nat) : Array Value := #[.int .i64 8, .slice (some ⟨b + 3, 0, none⟩) 3 3, .int .i64 4, .slice (some ⟨b + 7, 0, none⟩) 3 3]
abbrev bS (b : Nat) : Array Value := #[.slice (some ⟨b, 0, none⟩) 1 1, .slice (some ⟨b + 1, 0, none⟩) 2 2, .slice (some ⟨b + 2, 0, none⟩) 4 4]
section
variable {W W' : World} {b : Nat} {F S : Array Value}
theorem BookP.fr0 (h : BookP W b F S) (hf : Fr0 W W') : BookP W' b F S := ⟨h.r0.fr0 hf, h.r1.fr0 hf, h.r2.fr0 hf, h.s.fr0 hf, h.t0.fr0 hf, h.t1.fr0 hf, h.t2.fr0 hf, h.s1.fr0 hf, h.f.fr0 hf⟩
theorem BookP.far (h : BookP W b F S) {p : Addr} (hp : p.block < b ∨ b + 9 ≤ p.block) (u : Value) : BookP (W.setCell p u) b F S :=
  ⟨h.r0.far (by omega) u, h.r1.far (by omega) u, h.r2.far (by omega) u, h.s.far (by omega) u, h.t0.far (by omega) u, h.t1.far (by omega) u, h.t2.far (by omega) u, h.s1.far (by omega) u, h.f.far (by omega) u⟩
theorem BookP.setF (h : BookP W b F S) (i : Nat) (u : Value) : BookP (W.setCell ⟨b + 8, i, none⟩ u) b (F.setIfInBounds i u) S :=
  ⟨h.r0.far (by simp only; omega) u, h.r1.far (by simp only; omega) u, h.r2.far (by simp only; omega) u, h.s.far (by simp only; omega) u, h.t0.far (by simp only; omega) u, h.t1.far (by simp only; omega) u, h.t2.far (by simp only; omega) u, h.s1.far (by simp only; omega) u, h.f.set_ i u⟩
theorem BookP.setS (h : BookP W b F S) (i : Nat) (u : Value) : BookP (W.setCell ⟨b + 3, i, none⟩ u) b F (S.setIfInBounds i u) :=
  ⟨h.r0.far (by simp only; omega) u, h.r1.far (by simp only; omega) u, h.r2.far (by simp only; omega) u, h.s.set_ i u, h.t0.far (by simp only; omega) u, h.t1.far (by simp only; omega) u, h.t2.far (by simp only; omega) u, h.s1.far (by simp only; omega) u, h.f.far (by simp only; omega) u⟩
end
/-! ### Rows out of blocks -/
theorem C_of {α : Type} (d : Kd α) {W : World} {b : Nat} {t : TypeId} {cells : Array Value} (xs : List α) (cs : Nat → List Value) (h : Bx W b t cells) (hl : xs.length ≤ 9223372036854775807)
    (hK : ∀ j p, xs[j]? = some p → (cs j).length = d.sz ∧ d.K W p (cs j) ∧ ∀ i u, (cs j)[i]? = some u → cells[j * d.sz + i]? = some u) : Kd.C d W (some ⟨b, 0, none⟩) xs.length xs := by
  refine ⟨rfl, hl, fun _ => ⟨_, rfl, fun j p hp => ?_⟩⟩
  obtain ⟨a, k, e⟩ := hK j p hp
  refine ⟨cs j, a, k, fun i u hu => ?_⟩
  rw [at_add]
  exact h.at_ _ (e i u hu)
theorem forms2 {W : World} {b : Nat} {x0 x1 : Int} {A0 A1 : Option Addr} {c0 c1 : Nat} {r0 r1 : List (List Int)} (h : Bx W b 63 #[.int .i64 x0, .slice A0 r0.length c0, .int .i64 x1, .slice A1 r1.length c1]) (l0 : r0.length ≤ c0) (l1 : r1.length ≤ c1)
    (k0 : Kd.C (Kd.slice 3 (Kd.int .i64)) W A0 r0.length r0) (k1 : Kd.C (Kd.slice 3 (Kd.int .i64)) W A1 r1.length r1) : Kd.C k63 W (some ⟨b, 0, none⟩) ([⟨x0, r0⟩, ⟨x1, r1⟩] : List S63).length [⟨x0, r0⟩, ⟨x1, r1⟩] := by
  refine C_of k63 _ (fun j => if j = 0 then [.int .i64 x0, .slice A0 r0.length c0] else [.int .i64 x1, .slice A1 r1.length c1]) h (by simp) (fun j p hp => ?_)
  rcases j with _ | _ | j
  · obtain rfl := Option.some.inj hp
    refine ⟨rfl, k63_mk W _ l0 k0, fun i u hu => ?_⟩
    rcases i with _ | _ | i
    · exact hu
    · exact hu
    · simp at hu
  · obtain rfl := Option.some.inj hp
    refine ⟨rfl, k63_mk W _ l1 k1, fun i u hu => ?_⟩
    rcases i with _ | _ | i
    · exact hu
    · exact hu
    · simp at hu
  · simp at hp
theorem form1 {W : World} {b : Nat} {x0 : Int} {A0 : Option Addr} {c0 : Nat} {r0 : List (List Int)} (h : Bx W b 63 #[.int .i64 x0, .slice A0 r0.length c0]) (l0 : r0.length ≤ c0) (k0 : Kd.C (Kd.slice 3 (Kd.int .i64)) W A0 r0.length r0) : Kd.C k63 W (some ⟨b, 0, none⟩) ([⟨x0, r0⟩] : List S63).length [⟨x0, r0⟩] := by
  refine C_of k63 _ (fun j => [.int .i64 x0, .slice A0 r0.length c0]) h (by simp) (fun j p hp => ?_)
  rcases j with _ | j
  · obtain rfl := Option.some.inj hp
    refine ⟨rfl, k63_mk W _ l0 k0, fun i u hu => ?_⟩
    rcases i with _ | _ | i
    · exact hu
    · exact hu
    · simp at hu
  · simp at hp
theorem rows3 {W : World} {b : Nat} {A0 A1 A2 : Option Addr} {c0 c1 c2 : Nat} {r0 r1 r2 : List Int} (h : Bx W b 26 #[.slice A0 r0.length c0, .slice A1 r1.length c1, .slice A2 r2.length c2]) (l0 : r0.length ≤ c0) (l1 : r1.length ≤ c1) (l2 : r2.length ≤ c2)
    (k0 : Kd.C (Kd.int .i64) W A0 r0.length r0) (k1 : Kd.C (Kd.int .i64) W A1 r1.length r1) (k2 : Kd.C (Kd.int .i64) W A2 r2.length r2) : Kd.C (Kd.slice 3 (Kd.int .i64)) W (some ⟨b, 0, none⟩) ([r0, r1, r2] : List (List Int)).length [r0, r1, r2] := by
  refine rows_mk _ [.slice A0 r0.length c0, .slice A1 r1.length c1, .slice A2 r2.length c2] h (by simp) ?_
  rintro (_ | _ | _ | j) p hp
  · obtain rfl := Option.some.inj hp; exact ⟨_, _, rfl, l0, k0⟩
  · obtain rfl := Option.some.inj hp; exact ⟨_, _, rfl, l1, k1⟩
  · obtain rfl := Option.some.inj hp; exact ⟨_, _, rfl, l2, k2⟩
  · simp at hp
theorem rows1 {W : World} {b : Nat} {A0 : Option Addr} {c0 : Nat} {r0 : List Int} (h : Bx W b 26 #[.slice A0 r0.length c0]) (l0 : r0.length ≤ c0) (k0 : Kd.C (Kd.int .i64) W A0 r0.length r0) : Kd.C (Kd.slice 3 (Kd.int .i64)) W (some ⟨b, 0, none⟩) ([r0] : List (List Int)).length [r0] := by
  refine rows_mk _ [.slice A0 r0.length c0] h (by simp) ?_
  rintro (_ | j) p hp
  · obtain rfl := Option.some.inj hp; exact ⟨_, _, rfl, l0, k0⟩
  · simp at hp
section
variable {W : World} {b : Nat} {F S : Array Value}
theorem BookP.c0 (h : BookP W b F S) : Kd.C (Kd.int .i64) W (some ⟨b, 0, none⟩) ([7] : List Int).length [7] := C_ints [7] h.r0 rfl (by simp)
theorem BookP.c1 (h : BookP W b F S) : Kd.C (Kd.int .i64) W (some ⟨b + 1, 0, none⟩) ([3, 7] : List Int).length [3, 7] := C_ints [3, 7] h.r1 rfl (by simp)
theorem BookP.c2 (h : BookP W b F S) : Kd.C (Kd.int .i64) W (some ⟨b + 2, 0, none⟩) ([0, 2, 4, 6] : List Int).length [0, 2, 4, 6] := C_ints [0, 2, 4, 6] h.r2 rfl (by simp)
theorem BookP.cs1 (h : BookP W b F S) : Kd.C (Kd.slice 3 (Kd.int .i64)) W (some ⟨b + 7, 0, none⟩) ([[3], [1], [0, 2]] : List (List Int)).length [[3], [1], [0, 2]] :=
  rows3 (r0 := [3]) (r1 := [1]) (r2 := [0, 2]) h.s1 (Nat.le_refl _) (Nat.le_refl _) (Nat.le_refl _) (C_ints [3] h.t0 rfl (by simp)) (C_ints [1] h.t1 rfl (by simp)) (C_ints [0, 2] h.t2 rfl (by simp))
theorem BookP.cs0 (h : BookP W b F (bS b)) : Kd.C (Kd.slice 3 (Kd.int .i64)) W (some ⟨b + 3, 0, none⟩) ([[7], [3, 7], [0, 2, 4, 6]] : List (List Int)).length [[7], [3, 7], [0, 2, 4, 6]] :=
  rows3 (r0 := [7]) (r1 := [3, 7]) (r2 := [0, 2, 4, 6]) h.s (Nat.le_refl _) (Nat.le_refl _) (Nat.le_refl _) h.c0 h.c1 h.c2
theorem BookP.all (h : BookP W b (bF b) (bS b)) : Kd.C k63 W (some ⟨b + 8, 0, none⟩) bookL.length bookL := forms2 (r0 := [[7], [3, 7], [0, 2, 4, 6]]) (r1 := [[3], [1], [0, 2]]) h.f (Nat.le_refl _) (Nat.le_refl _) h.cs0 h.cs1
/-- A book of which the first gong's, the second's or the third's strokes are others. -/
theorem BookP.row {A0 A1 A2 : Option Addr} {n0 n1 n2 : Nat} {r0 r1 r2 : List Int} (h : BookP W b (bF b) #[.slice A0 n0 n0, .slice A1 n1 n1, .slice A2 n2 n2]) (e0 : r0.length = n0) (e1 : r1.length = n1) (e2 : r2.length = n2) (k0 : Kd.C (Kd.int .i64) W A0 r0.length r0) (k1 : Kd.C (Kd.int .i64) W A1 r1.length r1) (k2 : Kd.C (Kd.int .i64) W A2 r2.length r2) :
    Kd.C k63 W (some ⟨b + 8, 0, none⟩) ([⟨8, [r0, r1, r2]⟩, ⟨4, [[3], [1], [0, 2]]⟩] : List S63).length [⟨8, [r0, r1, r2]⟩, ⟨4, [[3], [1], [0, 2]]⟩] := by
  subst e0 e1 e2
  exact forms2 (r0 := [r0, r1, r2]) (r1 := [[3], [1], [0, 2]]) h.f (Nat.le_refl _) (Nat.le_refl _) (rows3 h.s (Nat.le_refl _) (Nat.le_refl _) (Nat.le_refl _) k0 k1 k2) h.cs1
end
theorem no_ints (W : World) : Kd.C (Kd.int .i64) W none ([] : List Int).length [] := ⟨rfl, by simp, fun h => absurd h (by simp)⟩
theorem no_forms (W : World) : Kd.C k63 W none ([] : List S63).length [] := ⟨rfl, by simp, fun h => absurd h (by simp)⟩
/-- Ten books, none of which is one. -/
def BadRow (W : World) (ad : Addr) : Prop := ∀ n : Nat, n < 10 → ∃ g A c l, W.cell? (ad.add (n * 2)) = some (.int .i64 g) ∧ W.cell? ⟨(ad.add (n * 2)).block, (ad.add (n * 2)).off + 1, none⟩ = some (.slice A l.length c) ∧ Book W A c l ∧ bookOk g l = false
theorem bad_at {W : World} {gx : Nat} {cs : Array Value} (h : Bx W gx 24 cs) (n : Nat) {g : Int} {A : Option Addr} {c : Nat} {l : List S63} (v0 : cs[n * 2]? = some (.int .i64 g)) (v1 : cs[n * 2 + 1]? = some (.slice A l.length c)) (hl : l.length ≤ c) (hC : Kd.C k63 W A l.length l) (hG : Glob W) (hb : bookOk g l = false) :
    ∃ g A c l, W.cell? ((⟨gx, 0, none⟩ : Addr).add (n * 2)) = some (.int .i64 g) ∧ W.cell? ⟨((⟨gx, 0, none⟩ : Addr).add (n * 2)).block, ((⟨gx, 0, none⟩ : Addr).add (n * 2)).off + 1, none⟩ = some (.slice A l.length c) ∧ Book W A c l ∧ bookOk g l = false := by
  refine ⟨g, A, c, l, ?_, ?_, ⟨hC, hl, hG⟩, hb⟩
  · rw [at_add]; exact h.at_ _ v0
  · rw [at_add]; exact h.at_ _ v1
theorem BadRow.fr {W W' : World} {ad : Addr} (h : BadRow W ad) (hf : Fr0 W W') : BadRow W' ad := fun n hn => by
  obtain ⟨g, A, c, l, x0, x1, hB, hb⟩ := h n hn
  exact ⟨g, A, c, l, hf.cell0 x0, hf.cell0 x1, hB.fr hf, hb⟩
/-! ### What is told of the law's own books -/
abbrev someL : List (List Int) := [[2], [], [2]]
abbrev oddL : List S63 := [⟨5, [[4], [], [0, 1, 3]]⟩]
abbrev twinL : List S63 := [⟨2, [[1]]⟩, ⟨2, [[1]]⟩]
theorem a14a : (struckF 3 bookL 2 0).2 = 51 := by kernel_rfl
theorem a14b : (struckF 3 bookL 0 100001).2 = 51 := by kernel_rfl
theorem a19 : nextF 3 bookL 0 3 0 = (0, 51) := by kernel_rfl
theorem a21 : evenF 3 bookL 0 (-1) = (0, 51) := by kernel_rfl
theorem a24a : (passF 3 bookL 1 4 1).2 = 51 := by kernel_rfl
theorem a24b : (passF 3 bookL 0 0 65).2 = 51 := by kernel_rfl
theorem a27a : (placesF 3 bookL someL 7).2 = 51 := by kernel_rfl
theorem a27b : (placesF 3 bookL [[2, 2]] 0).2 = 51 := by kernel_rfl
theorem a30 : leastF 3 bookL [[3]] = (0, 51) := by kernel_rfl
theorem a32 : (missingF 3 bookL 0 8 someL).2 = 51 := by kernel_rfl
theorem a35 : (confF 3 bookL 0 0).2 = 51 := by kernel_rfl
theorem a37 : sureF 3 bookL 7 = (0, 51) := by kernel_rfl
theorem n19 : nextF 3 oddL 0 1 0 = (0, 4) := by kernel_rfl
theorem n21a : evenF 3 oddL 0 1 = (0, 4) := by kernel_rfl
theorem n21b : evenF 3 oddL 0 2 = (0, 4) := by kernel_rfl
theorem n30 : leastF 3 bookL [[2], [2]] = (0, 4) := by kernel_rfl
theorem n32 : (missingF 3 bookL 0 1 someL).2 = 4 := by kernel_rfl
theorem n35 : (confF 3 bookL 0 4).2 = 4 := by kernel_rfl
theorem n37 : sureF 1 twinL 0 = (0, 4) := by kernel_rfl
theorem v14 : struckF 3 bookL 0 5 = ([], 0) := by kernel_rfl
theorem v19a : nextF 3 bookL 0 1 4 = (7, 0) := by kernel_rfl
theorem v19b : nextF 3 bookL 1 0 100000 = (100003, 0) := by kernel_rfl
theorem v21a : evenF 3 bookL 0 0 = (8, 0) := by kernel_rfl
theorem v21b : evenF 3 bookL 0 1 = (4, 0) := by kernel_rfl
theorem v27 : placesF 3 bookL someL 0 = ([⟨0, 0⟩, ⟨0, 4⟩], 0) := by kernel_rfl
theorem v30 : leastF 3 bookL someL = (0, 0) := by kernel_rfl
theorem v37 : sureF 3 bookL 0 = (4, 0) := by kernel_rfl
theorem rows2 {W : World} {b : Nat} {A0 A1 : Option Addr} {c0 c1 : Nat} {r0 r1 : List Int} (h : Bx W b 26 #[.slice A0 r0.length c0, .slice A1 r1.length c1]) (l0 : r0.length ≤ c0) (l1 : r1.length ≤ c1)
    (k0 : Kd.C (Kd.int .i64) W A0 r0.length r0) (k1 : Kd.C (Kd.int .i64) W A1 r1.length r1) : Kd.C (Kd.slice 3 (Kd.int .i64)) W (some ⟨b, 0, none⟩) ([r0, r1] : List (List Int)).length [r0, r1] := by
  refine rows_mk _ [.slice A0 r0.length c0, .slice A1 r1.length c1] h (by simp) ?_
  rintro (_ | _ | j) p hp
  · obtain rfl := Option.some.inj hp; exact ⟨_, _, rfl, l0, k0⟩
  · obtain rfl := Option.some.inj hp; exact ⟨_, _, rfl, l1, k1⟩
  · simp at hp
theorem r22 (W : World) : Kd.C (Kd.slice 3 (Kd.int .i64)) ((W.alloc (.cells #[.int .i64 2, .int .i64 2] 3)).alloc (.cells #[.slice (some ⟨W.heap.size, 0, none⟩) 2 2] 26)) (some ⟨W.heap.size + 1, 0, none⟩) ([[2, 2]] : List (List Int)).length [[2, 2]] :=
  rows1 (r0 := [2, 2]) (Bx.of_new (by simp)) (Nat.le_refl _) (C_ints [2, 2] ((Bx.of_new rfl).alloc _) rfl (by simp))
theorem r3 (W : World) : Kd.C (Kd.slice 3 (Kd.int .i64)) ((W.alloc (.cells #[.int .i64 3] 3)).alloc (.cells #[.slice (some ⟨W.heap.size, 0, none⟩) 1 1] 26)) (some ⟨W.heap.size + 1, 0, none⟩) ([[3]] : List (List Int)).length [[3]] :=
  rows1 (r0 := [3]) (Bx.of_new (by simp)) (Nat.le_refl _) (C_ints [3] ((Bx.of_new rfl).alloc _) rfl (by simp))
theorem r2r2 (W : World) : Kd.C (Kd.slice 3 (Kd.int .i64)) (((W.alloc (.cells #[.int .i64 2] 3)).alloc (.cells #[.int .i64 2] 3)).alloc (.cells #[.slice (some ⟨W.heap.size, 0, none⟩) 1 1, .slice (some ⟨W.heap.size + 1, 0, none⟩) 1 1] 26)) (some ⟨W.heap.size + 1 + 1, 0, none⟩) ([[2], [2]] : List (List Int)).length [[2], [2]] :=
  rows2 (r0 := [2]) (r1 := [2]) (Bx.of_new (by simp)) (Nat.le_refl _) (Nat.le_refl _) (C_ints [2] (((Bx.of_new rfl).alloc _).alloc _) rfl (by simp)) (C_ints [2] ((Bx.of_new (by simp)).alloc _) rfl (by simp))
abbrev oddW (W : World) : World := ((((W.alloc (.cells #[.int .i64 4] 3)).alloc (.cells #[] 3)).alloc (.cells #[.int .i64 0, .int .i64 1, .int .i64 3] 3)).alloc (.cells #[.slice (some ⟨W.heap.size, 0, none⟩) 1 1, .slice (some ⟨W.heap.size + 1, 0, none⟩) 0 0, .slice (some ⟨W.heap.size + 1 + 1, 0, none⟩) 3 3] 26)).alloc (.cells #[.int .i64 5, .slice (some ⟨W.heap.size + 1 + 1 + 1, 0, none⟩) 3 3] 63)
theorem odd_book (W : World) : Kd.C k63 (oddW W) (some ⟨W.heap.size + 1 + 1 + 1 + 1, 0, none⟩) oddL.length oddL :=
  form1 (r0 := [[4], [], [0, 1, 3]]) (Bx.of_new (by simp)) (Nat.le_refl _) (rows3 (r0 := [4]) (r1 := []) (r2 := [0, 1, 3]) ((Bx.of_new (by simp)).alloc _) (Nat.le_refl _) (Nat.le_refl _) (Nat.le_refl _)
    (C_ints [4] (((((Bx.of_new rfl).alloc _).alloc _).alloc _).alloc _) rfl (by simp)) ⟨rfl, by simp, fun h => absurd h (by simp)⟩ (C_ints [0, 1, 3] (((Bx.of_new (by simp)).alloc _).alloc _) rfl (by simp)))
abbrev twinW (W : World) : World := ((((W.alloc (.cells #[.int .i64 1] 3)).alloc (.cells #[.slice (some ⟨W.heap.size, 0, none⟩) 1 1] 26)).alloc (.cells #[.int .i64 1] 3)).alloc (.cells #[.slice (some ⟨W.heap.size + 1 + 1, 0, none⟩) 1 1] 26)).alloc (.cells #[.int .i64 2, .slice (some ⟨W.heap.size + 1, 0, none⟩) 1 1, .int .i64 2, .slice (some ⟨W.heap.size + 1 + 1 + 1, 0, none⟩) 1 1] 63)
theorem twin_book (W : World) : Kd.C k63 (twinW W) (some ⟨W.heap.size + 1 + 1 + 1 + 1, 0, none⟩) twinL.length twinL :=
  forms2 (r0 := [[1]]) (r1 := [[1]]) (Bx.of_new (by simp)) (Nat.le_refl _) (Nat.le_refl _)
    (rows1 (r0 := [1]) ((((Bx.of_new (by simp)).alloc _).alloc _).alloc _) (Nat.le_refl _) (C_ints [1] (((((Bx.of_new rfl).alloc _).alloc _).alloc _).alloc _) rfl (by simp)))
    (rows1 (r0 := [1]) ((Bx.of_new (by simp)).alloc _) (Nat.le_refl _) (C_ints [1] (((Bx.of_new (by simp)).alloc _).alloc _) rfl (by simp)))
theorem spots04 (W : World) : Kd.C k38 (W.alloc (.cells #[.int .i64 0, .int .i64 0, .int .i64 0, .int .i64 4] 38)) (some ⟨W.heap.size, 0, none⟩) ([⟨0, 0⟩, ⟨0, 4⟩] : List S38).length [⟨0, 0⟩, ⟨0, 4⟩] :=
  C_mk k38 _ (fun x => [.int .i64 x.f0, .int .i64 x.f1]) (fun x _ => ⟨[.int .i64 x.f0], [.int .i64 x.f1], rfl, rfl, rfl⟩) (fun _ => rfl) rfl (by simp) (Bx.of_new (t := 38) rfl)
theorem same04 {w : World} {A B : Option Addr} {c d : Nat} (hA : Kd.C k38 w A ([⟨0, 0⟩, ⟨0, 4⟩] : List S38).length [⟨0, 0⟩, ⟨0, 4⟩]) (hc : 2 ≤ c) (hB : Kd.C k38 w B ([⟨0, 0⟩, ⟨0, 4⟩] : List S38).length [⟨0, 0⟩, ⟨0, 4⟩]) (hd : 2 ≤ d) :
    Calls Tryd.prog 29 #[.slice A ([⟨0, 0⟩, ⟨0, 4⟩] : List S38).length c, .slice B ([⟨0, 0⟩, ⟨0, 4⟩] : List S38).length d] w fun e w' => e = .returned (.bool true) ∧ Fr0 w w' :=
  (saronref05_SameSpots.calls 20 A c _ B d _ true w hA hc hB hd (by kernel_rfl)).mono fun e w' h => ⟨h.1, mk_dr h.2⟩
set_option maxHeartbeats 4000000 in
set_option maxRecDepth 100000 in
theorem book50x (w : World) : Calls Tryd.prog 50 #[] w fun e w' => ∃ b, e = .returned (.agg #[.int .i64 3, .slice (some ⟨b + 8, 0, none⟩) 2 2]) ∧ BookP w' b (bF b) (bS b) ∧ w.heap.size ≤ b ∧ Fr0 w w' := by
  go_enter Tryd.func50, Tryd.ntmps50
  go_wp2
  refine bodyPost_ret (results_cell_row rfl _ _ w.heap.size 24 #[.int .i64 3, .slice (some ⟨w.heap.size + 1 + 1 + 1 + 1 + 1 + 1 + 1 + 1 + 1, 0, none⟩) 2 2] (0, 0) _ rfl (show Bx _ w.heap.size 24 #[.int .i64 3, .slice (some ⟨w.heap.size + 1 + 1 + 1 + 1 + 1 + 1 + 1 + 1 + 1, 0, none⟩) 2 2] from ((((((((((Bx.of_new rfl).alloc _).alloc _).alloc _).alloc _).alloc _).alloc _).alloc _).alloc _).alloc _)) Tryd.underlying24 rfl (by kernel_rfl)) rfl ⟨w.heap.size + 1, rfl, ⟨(((((((((Bx.of_new (by simp)).alloc _).alloc _).alloc _).alloc _).alloc _).alloc _).alloc _).alloc _), ((((((((Bx.of_new (by simp)).alloc _).alloc _).alloc _).alloc _).alloc _).alloc _).alloc _), (((((((Bx.of_new (by simp)).alloc _).alloc _).alloc _).alloc _).alloc _).alloc _), ((((((Bx.of_new (by simp)).alloc _).alloc _).alloc _).alloc _).alloc _), (((((Bx.of_new (by simp)).alloc _).alloc _).alloc _).alloc _), ((((Bx.of_new (by simp)).alloc _).alloc _).alloc _), (((Bx.of_new (by simp)).alloc _).alloc _), ((Bx.of_new (by simp)).alloc _), (Bx.of_new (by simp))⟩, by omega, (((((((((((Fr.refl _ _).alloc _).alloc _).alloc _).alloc _).alloc _).alloc _).alloc _).alloc _).alloc _).alloc _)⟩

set_option maxHeartbeats 16000000 in
set_option maxRecDepth 100000 in
theorem known_any (w : World) (hG : Glob w) : Calls Tryd.prog 13 #[] w fun e w' => e = .returned (.bool true) ∧ Fr0 w w' := by
  have HG := Lib.hid hG
  clear hG
  go_enter Tryd.func13, Tryd.ntmps13
  go_upto_region 2 with (first
    | (go_at_call 50; (have hz_ := HB8); clear hz_; refine (book50x _).mono ?_; rintro e w9 ⟨b9, rfl, hbk, hle, hf⟩; (have HF9 := Lib.hid (Fr0.trans HF8.out hf)); (have HO9 := Lib.hid (Nat.le_trans (show b8 + 9 ≤ _ from HB8.out.f.lt) hle)); (have HB1 := Lib.hid (HB1.out.fr0 hf)); (have HB2 := Lib.hid (HB2.out.fr0 hf)); (have HB3 := Lib.hid (HB3.out.fr0 hf)); (have HB4 := Lib.hid (HB4.out.fr0 hf)); (have HB5 := Lib.hid (HB5.out.fr0 hf)); (have HB6 := Lib.hid (HB6.out.fr0 hf)); (have HB7 := Lib.hid (HB7.out.fr0 hf)); (have HB8 := Lib.hid (HB8.out.fr0 hf)); (have HB9 := Lib.hid hbk); clear hbk hle hf)
    | (go_at_call 50; (have hz_ := HB7); clear hz_; refine (book50x _).mono ?_; rintro e w8 ⟨b8, rfl, hbk, hle, hf⟩; (have HF8 := Lib.hid (Fr0.trans HF7.out hf)); (have HO8 := Lib.hid (Nat.le_trans (show b7 + 9 ≤ _ from HB7.out.f.lt) hle)); (have HB1 := Lib.hid (HB1.out.fr0 hf)); (have HB2 := Lib.hid (HB2.out.fr0 hf)); (have HB3 := Lib.hid (HB3.out.fr0 hf)); (have HB4 := Lib.hid (HB4.out.fr0 hf)); (have HB5 := Lib.hid (HB5.out.fr0 hf)); (have HB6 := Lib.hid (HB6.out.fr0 hf)); (have HB7 := Lib.hid (HB7.out.fr0 hf)); (have HB8 := Lib.hid hbk); clear hbk hle hf)
    | (go_at_call 50; (have hz_ := HB6); clear hz_; refine (book50x _).mono ?_; rintro e w7 ⟨b7, rfl, hbk, hle, hf⟩; (have HF7 := Lib.hid (Fr0.trans HF6.out hf)); (have HO7 := Lib.hid (Nat.le_trans (show b6 + 9 ≤ _ from HB6.out.f.lt) hle)); (have HB1 := Lib.hid (HB1.out.fr0 hf)); (have HB2 := Lib.hid (HB2.out.fr0 hf)); (have HB3 := Lib.hid (HB3.out.fr0 hf)); (have HB4 := Lib.hid (HB4.out.fr0 hf)); (have HB5 := Lib.hid (HB5.out.fr0 hf)); (have HB6 := Lib.hid (HB6.out.fr0 hf)); (have HB7 := Lib.hid hbk); clear hbk hle hf)
    | (go_at_call 50; (have hz_ := HB5); clear hz_; refine (book50x _).mono ?_; rintro e w6 ⟨b6, rfl, hbk, hle, hf⟩; (have HF6 := Lib.hid (Fr0.trans HF5.out hf)); (have HO6 := Lib.hid (Nat.le_trans (show b5 + 9 ≤ _ from HB5.out.f.lt) hle)); (have HB1 := Lib.hid (HB1.out.fr0 hf)); (have HB2 := Lib.hid (HB2.out.fr0 hf)); (have HB3 := Lib.hid (HB3.out.fr0 hf)); (have HB4 := Lib.hid (HB4.out.fr0 hf)); (have HB5 := Lib.hid (HB5.out.fr0 hf)); (have HB6 := Lib.hid hbk); clear hbk hle hf)
    | (go_at_call 50; (have hz_ := HB4); clear hz_; refine (book50x _).mono ?_; rintro e w5 ⟨b5, rfl, hbk, hle, hf⟩; (have HF5 := Lib.hid (Fr0.trans HF4.out hf)); (have HO5 := Lib.hid (Nat.le_trans (show b4 + 9 ≤ _ from HB4.out.f.lt) hle)); (have HB1 := Lib.hid (HB1.out.fr0 hf)); (have HB2 := Lib.hid (HB2.out.fr0 hf)); (have HB3 := Lib.hid (HB3.out.fr0 hf)); (have HB4 := Lib.hid (HB4.out.fr0 hf)); (have HB5 := Lib.hid hbk); clear hbk hle hf)
    | (go_at_call 50; (have hz_ := HB3); clear hz_; refine (book50x _).mono ?_; rintro e w4 ⟨b4, rfl, hbk, hle, hf⟩; (have HF4 := Lib.hid (Fr0.trans HF3.out hf)); (have HO4 := Lib.hid (Nat.le_trans (show b3 + 9 ≤ _ from HB3.out.f.lt) hle)); (have HB1 := Lib.hid (HB1.out.fr0 hf)); (have HB2 := Lib.hid (HB2.out.fr0 hf)); (have HB3 := Lib.hid (HB3.out.fr0 hf)); (have HB4 := Lib.hid hbk); clear hbk hle hf)
    | (go_at_call 50; (have hz_ := HB2); clear hz_; refine (book50x _).mono ?_; rintro e w3 ⟨b3, rfl, hbk, hle, hf⟩; (have HF3 := Lib.hid (Fr0.trans HF2.out hf)); (have HO3 := Lib.hid (Nat.le_trans (show b2 + 9 ≤ _ from HB2.out.f.lt) hle)); (have HB1 := Lib.hid (HB1.out.fr0 hf)); (have HB2 := Lib.hid (HB2.out.fr0 hf)); (have HB3 := Lib.hid hbk); clear hbk hle hf)
    | (go_at_call 50; (have hz_ := HB1); clear hz_; refine (book50x _).mono ?_; rintro e w2 ⟨b2, rfl, hbk, hle, hf⟩; (have HF2 := Lib.hid (Fr0.trans HF1.out hf)); (have HO2 := Lib.hid (Nat.le_trans (show b1 + 9 ≤ _ from HB1.out.f.lt) hle)); (have HB1 := Lib.hid (HB1.out.fr0 hf)); (have HB2 := Lib.hid hbk); clear hbk hle hf)
    | (go_at_call 50; refine (book50x _).mono ?_; rintro e w1 ⟨b1, rfl, hbk, hle, hf⟩; (have HF1 := Lib.hid (Fr0.trans (Fr.refl _ _) hf)); (have HO1 := Lib.hid (hle)); (have HB1 := Lib.hid hbk); clear hbk hle hf))
  have hx0 : Bx (w9.alloc (.cells #[.int .i64 0, .slice none 0 0, .int .i64 3, .slice (some ⟨b1 + 8, 0, none⟩) 2 2, .int .i64 3, .slice (some ⟨b2 + 8, 0, none⟩) 2 2, .int .i64 3, .slice (some ⟨b3 + 8, 0, none⟩) 2 2, .int .i64 3, .slice (some ⟨b4 + 8, 0, none⟩) 2 2, .int .i64 3, .slice (some ⟨b5 + 8, 0, none⟩) 2 2, .int .i64 3, .slice (some ⟨b6 + 8, 0, none⟩) 2 2, .int .i64 3, .slice (some ⟨b7 + 8, 0, none⟩) 2 2, .int .i64 3, .slice (some ⟨b8 + 8, 0, none⟩) 2 2, .int .i64 3, .slice (some ⟨b9 + 8, 0, none⟩) 2 2] 24)) w9.heap.size 24 #[.int .i64 0, .slice none 0 0, .int .i64 3, .slice (some ⟨b1 + 8, 0, none⟩) 2 2, .int .i64 3, .slice (some ⟨b2 + 8, 0, none⟩) 2 2, .int .i64 3, .slice (some ⟨b3 + 8, 0, none⟩) 2 2, .int .i64 3, .slice (some ⟨b4 + 8, 0, none⟩) 2 2, .int .i64 3, .slice (some ⟨b5 + 8, 0, none⟩) 2 2, .int .i64 3, .slice (some ⟨b6 + 8, 0, none⟩) 2 2, .int .i64 3, .slice (some ⟨b7 + 8, 0, none⟩) 2 2, .int .i64 3, .slice (some ⟨b8 + 8, 0, none⟩) 2 2, .int .i64 3, .slice (some ⟨b9 + 8, 0, none⟩) 2 2] := Bx.of_new rfl
  have hf0 : Fr0 w (w9.alloc (.cells #[.int .i64 0, .slice none 0 0, .int .i64 3, .slice (some ⟨b1 + 8, 0, none⟩) 2 2, .int .i64 3, .slice (some ⟨b2 + 8, 0, none⟩) 2 2, .int .i64 3, .slice (some ⟨b3 + 8, 0, none⟩) 2 2, .int .i64 3, .slice (some ⟨b4 + 8, 0, none⟩) 2 2, .int .i64 3, .slice (some ⟨b5 + 8, 0, none⟩) 2 2, .int .i64 3, .slice (some ⟨b6 + 8, 0, none⟩) 2 2, .int .i64 3, .slice (some ⟨b7 + 8, 0, none⟩) 2 2, .int .i64 3, .slice (some ⟨b8 + 8, 0, none⟩) 2 2, .int .i64 3, .slice (some ⟨b9 + 8, 0, none⟩) 2 2] 24)) := HF9.out.alloc _
  have hb1 := HB1.out.fr0 ((Fr.refl _ w9).alloc (.cells #[.int .i64 0, .slice none 0 0, .int .i64 3, .slice (some ⟨b1 + 8, 0, none⟩) 2 2, .int .i64 3, .slice (some ⟨b2 + 8, 0, none⟩) 2 2, .int .i64 3, .slice (some ⟨b3 + 8, 0, none⟩) 2 2, .int .i64 3, .slice (some ⟨b4 + 8, 0, none⟩) 2 2, .int .i64 3, .slice (some ⟨b5 + 8, 0, none⟩) 2 2, .int .i64 3, .slice (some ⟨b6 + 8, 0, none⟩) 2 2, .int .i64 3, .slice (some ⟨b7 + 8, 0, none⟩) 2 2, .int .i64 3, .slice (some ⟨b8 + 8, 0, none⟩) 2 2, .int .i64 3, .slice (some ⟨b9 + 8, 0, none⟩) 2 2] 24))
  have hb2 := HB2.out.fr0 ((Fr.refl _ w9).alloc (.cells #[.int .i64 0, .slice none 0 0, .int .i64 3, .slice (some ⟨b1 + 8, 0, none⟩) 2 2, .int .i64 3, .slice (some ⟨b2 + 8, 0, none⟩) 2 2, .int .i64 3, .slice (some ⟨b3 + 8, 0, none⟩) 2 2, .int .i64 3, .slice (some ⟨b4 + 8, 0, none⟩) 2 2, .int .i64 3, .slice (some ⟨b5 + 8, 0, none⟩) 2 2, .int .i64 3, .slice (some ⟨b6 + 8, 0, none⟩) 2 2, .int .i64 3, .slice (some ⟨b7 + 8, 0, none⟩) 2 2, .int .i64 3, .slice (some ⟨b8 + 8, 0, none⟩) 2 2, .int .i64 3, .slice (some ⟨b9 + 8, 0, none⟩) 2 2] 24))
  have hb3 := HB3.out.fr0 ((Fr.refl _ w9).alloc (.cells #[.int .i64 0, .slice none 0 0, .int .i64 3, .slice (some ⟨b1 + 8, 0, none⟩) 2 2, .int .i64 3, .slice (some ⟨b2 + 8, 0, none⟩) 2 2, .int .i64 3, .slice (some ⟨b3 + 8, 0, none⟩) 2 2, .int .i64 3, .slice (some ⟨b4 + 8, 0, none⟩) 2 2, .int .i64 3, .slice (some ⟨b5 + 8, 0, none⟩) 2 2, .int .i64 3, .slice (some ⟨b6 + 8, 0, none⟩) 2 2, .int .i64 3, .slice (some ⟨b7 + 8, 0, none⟩) 2 2, .int .i64 3, .slice (some ⟨b8 + 8, 0, none⟩) 2 2, .int .i64 3, .slice (some ⟨b9 + 8, 0, none⟩) 2 2] 24))
  have hb4 := HB4.out.fr0 ((Fr.refl _ w9).alloc (.cells #[.int .i64 0, .slice none 0 0, .int .i64 3, .slice (some ⟨b1 + 8, 0, none⟩) 2 2, .int .i64 3, .slice (some ⟨b2 + 8, 0, none⟩) 2 2, .int .i64 3, .slice (some ⟨b3 + 8, 0, none⟩) 2 2, .int .i64 3, .slice (some ⟨b4 + 8, 0, none⟩) 2 2, .int .i64 3, .slice (some ⟨b5 + 8, 0, none⟩) 2 2, .int .i64 3, .slice (some ⟨b6 + 8, 0, none⟩) 2 2, .int .i64 3, .slice (some ⟨b7 + 8, 0, none⟩) 2 2, .int .i64 3, .slice (some ⟨b8 + 8, 0, none⟩) 2 2, .int .i64 3, .slice (some ⟨b9 + 8, 0, none⟩) 2 2] 24))
  have hb5 := HB5.out.fr0 ((Fr.refl _ w9).alloc (.cells #[.int .i64 0, .slice none 0 0, .int .i64 3, .slice (some ⟨b1 + 8, 0, none⟩) 2 2, .int .i64 3, .slice (some ⟨b2 + 8, 0, none⟩) 2 2, .int .i64 3, .slice (some ⟨b3 + 8, 0, none⟩) 2 2, .int .i64 3, .slice (some ⟨b4 + 8, 0, none⟩) 2 2, .int .i64 3, .slice (some ⟨b5 + 8, 0, none⟩) 2 2, .int .i64 3, .slice (some ⟨b6 + 8, 0, none⟩) 2 2, .int .i64 3, .slice (some ⟨b7 + 8, 0, none⟩) 2 2, .int .i64 3, .slice (some ⟨b8 + 8, 0, none⟩) 2 2, .int .i64 3, .slice (some ⟨b9 + 8, 0, none⟩) 2 2] 24))
  have hb6 := HB6.out.fr0 ((Fr.refl _ w9).alloc (.cells #[.int .i64 0, .slice none 0 0, .int .i64 3, .slice (some ⟨b1 + 8, 0, none⟩) 2 2, .int .i64 3, .slice (some ⟨b2 + 8, 0, none⟩) 2 2, .int .i64 3, .slice (some ⟨b3 + 8, 0, none⟩) 2 2, .int .i64 3, .slice (some ⟨b4 + 8, 0, none⟩) 2 2, .int .i64 3, .slice (some ⟨b5 + 8, 0, none⟩) 2 2, .int .i64 3, .slice (some ⟨b6 + 8, 0, none⟩) 2 2, .int .i64 3, .slice (some ⟨b7 + 8, 0, none⟩) 2 2, .int .i64 3, .slice (some ⟨b8 + 8, 0, none⟩) 2 2, .int .i64 3, .slice (some ⟨b9 + 8, 0, none⟩) 2 2] 24))
  have hb7 := HB7.out.fr0 ((Fr.refl _ w9).alloc (.cells #[.int .i64 0, .slice none 0 0, .int .i64 3, .slice (some ⟨b1 + 8, 0, none⟩) 2 2, .int .i64 3, .slice (some ⟨b2 + 8, 0, none⟩) 2 2, .int .i64 3, .slice (some ⟨b3 + 8, 0, none⟩) 2 2, .int .i64 3, .slice (some ⟨b4 + 8, 0, none⟩) 2 2, .int .i64 3, .slice (some ⟨b5 + 8, 0, none⟩) 2 2, .int .i64 3, .slice (some ⟨b6 + 8, 0, none⟩) 2 2, .int .i64 3, .slice (some ⟨b7 + 8, 0, none⟩) 2 2, .int .i64 3, .slice (some ⟨b8 + 8, 0, none⟩) 2 2, .int .i64 3, .slice (some ⟨b9 + 8, 0, none⟩) 2 2] 24))
  have hb8 := HB8.out.fr0 ((Fr.refl _ w9).alloc (.cells #[.int .i64 0, .slice none 0 0, .int .i64 3, .slice (some ⟨b1 + 8, 0, none⟩) 2 2, .int .i64 3, .slice (some ⟨b2 + 8, 0, none⟩) 2 2, .int .i64 3, .slice (some ⟨b3 + 8, 0, none⟩) 2 2, .int .i64 3, .slice (some ⟨b4 + 8, 0, none⟩) 2 2, .int .i64 3, .slice (some ⟨b5 + 8, 0, none⟩) 2 2, .int .i64 3, .slice (some ⟨b6 + 8, 0, none⟩) 2 2, .int .i64 3, .slice (some ⟨b7 + 8, 0, none⟩) 2 2, .int .i64 3, .slice (some ⟨b8 + 8, 0, none⟩) 2 2, .int .i64 3, .slice (some ⟨b9 + 8, 0, none⟩) 2 2] 24))
  have hb9 := HB9.out.fr0 ((Fr.refl _ w9).alloc (.cells #[.int .i64 0, .slice none 0 0, .int .i64 3, .slice (some ⟨b1 + 8, 0, none⟩) 2 2, .int .i64 3, .slice (some ⟨b2 + 8, 0, none⟩) 2 2, .int .i64 3, .slice (some ⟨b3 + 8, 0, none⟩) 2 2, .int .i64 3, .slice (some ⟨b4 + 8, 0, none⟩) 2 2, .int .i64 3, .slice (some ⟨b5 + 8, 0, none⟩) 2 2, .int .i64 3, .slice (some ⟨b6 + 8, 0, none⟩) 2 2, .int .i64 3, .slice (some ⟨b7 + 8, 0, none⟩) 2 2, .int .i64 3, .slice (some ⟨b8 + 8, 0, none⟩) 2 2, .int .i64 3, .slice (some ⟨b9 + 8, 0, none⟩) 2 2] 24))
  have ho : w.heap.size ≤ b1 ∧ b1 + 9 ≤ b2 ∧ b2 + 9 ≤ b3 ∧ b3 + 9 ≤ b4 ∧ b4 + 9 ≤ b5 ∧ b5 + 9 ≤ b6 ∧ b6 + 9 ≤ b7 ∧ b7 + 9 ≤ b8 ∧ b8 + 9 ≤ b9 ∧ b9 + 9 ≤ w9.heap.size := ⟨HO1.out, HO2.out, HO3.out, HO4.out, HO5.out, HO6.out, HO7.out, HO8.out, HO9.out, HB9.out.f.lt⟩
  clear HB1 HO1 HF1 HB2 HO2 HF2 HB3 HO3 HF3 HB4 HO4 HF4 HB5 HO5 HF5 HB6 HO6 HF6 HB7 HO7 HF7 HB8 HO8 HF8 HB9 HO9 HF9
  generalize hW : w9.alloc (.cells #[.int .i64 0, .slice none 0 0, .int .i64 3, .slice (some ⟨b1 + 8, 0, none⟩) 2 2, .int .i64 3, .slice (some ⟨b2 + 8, 0, none⟩) 2 2, .int .i64 3, .slice (some ⟨b3 + 8, 0, none⟩) 2 2, .int .i64 3, .slice (some ⟨b4 + 8, 0, none⟩) 2 2, .int .i64 3, .slice (some ⟨b5 + 8, 0, none⟩) 2 2, .int .i64 3, .slice (some ⟨b6 + 8, 0, none⟩) 2 2, .int .i64 3, .slice (some ⟨b7 + 8, 0, none⟩) 2 2, .int .i64 3, .slice (some ⟨b8 + 8, 0, none⟩) 2 2, .int .i64 3, .slice (some ⟨b9 + 8, 0, none⟩) 2 2] 24) = W at *
  generalize w9.heap.size = gx at *
  clear hW
  have HO := Lib.hid ho
  have HX := Lib.hid hx0
  have HF := Lib.hid hf0
  have HB1 := Lib.hid hb1
  have HB2 := Lib.hid hb2
  have HB3 := Lib.hid hb3
  have HB4 := Lib.hid hb4
  have HB5 := Lib.hid hb5
  have HB6 := Lib.hid hb6
  have HB7 := Lib.hid hb7
  have HB8 := Lib.hid hb8
  have HB9 := Lib.hid hb9
  clear ho hx0 hf0 hb1 hb2 hb3 hb4 hb5 hb6 hb7 hb8 hb9
  have x2 := HX.out.at_ 2 (v := .int .i64 3) rfl
  have z2 := HX.out.frz 2
  have x4 := HX.out.at_ 4 (v := .int .i64 3) rfl
  have z4 := HX.out.frz 4
  have x7 := HX.out.at_ 7 (v := .slice (some ⟨b3 + 8, 0, none⟩) 2 2) rfl
  have z7 := HX.out.frz 7
  as_aux_lemma =>
  go_upto_region 5 with fail
  have hf' : Fr0 w (((W.setCell ⟨gx, 2, none⟩ (.int .i64 6)).setCell ⟨gx, 4, none⟩ (.int .i64 2)).setCell ⟨gx, 7, none⟩ (.slice none 0 0)) := (((HF.out.setCell (.inr (by have ho := HO.out; simp only; omega)) _).setCell (.inr (by have ho := HO.out; simp only; omega)) _).setCell (.inr (by have ho := HO.out; simp only; omega)) _)
  have hx' : Bx (((W.setCell ⟨gx, 2, none⟩ (.int .i64 6)).setCell ⟨gx, 4, none⟩ (.int .i64 2)).setCell ⟨gx, 7, none⟩ (.slice none 0 0)) gx 24 #[.int .i64 0, .slice none 0 0, .int .i64 6, .slice (some ⟨b1 + 8, 0, none⟩) 2 2, .int .i64 2, .slice (some ⟨b2 + 8, 0, none⟩) 2 2, .int .i64 3, .slice none 0 0, .int .i64 3, .slice (some ⟨b4 + 8, 0, none⟩) 2 2, .int .i64 3, .slice (some ⟨b5 + 8, 0, none⟩) 2 2, .int .i64 3, .slice (some ⟨b6 + 8, 0, none⟩) 2 2, .int .i64 3, .slice (some ⟨b7 + 8, 0, none⟩) 2 2, .int .i64 3, .slice (some ⟨b8 + 8, 0, none⟩) 2 2, .int .i64 3, .slice (some ⟨b9 + 8, 0, none⟩) 2 2] := (Bx.set_ (Bx.set_ (Bx.set_ HX.out 2 _) 4 _) 7 _)
  have hb1 : BookP (((W.setCell ⟨gx, 2, none⟩ (.int .i64 6)).setCell ⟨gx, 4, none⟩ (.int .i64 2)).setCell ⟨gx, 7, none⟩ (.slice none 0 0)) b1 (bF b1) (bS b1) := (BookP.far (BookP.far (BookP.far HB1.out (by have ho := HO.out; simp only; omega) _) (by have ho := HO.out; simp only; omega) _) (by have ho := HO.out; simp only; omega) _)
  have hb2 : BookP (((W.setCell ⟨gx, 2, none⟩ (.int .i64 6)).setCell ⟨gx, 4, none⟩ (.int .i64 2)).setCell ⟨gx, 7, none⟩ (.slice none 0 0)) b2 (bF b2) (bS b2) := (BookP.far (BookP.far (BookP.far HB2.out (by have ho := HO.out; simp only; omega) _) (by have ho := HO.out; simp only; omega) _) (by have ho := HO.out; simp only; omega) _)
  have hb3 : BookP (((W.setCell ⟨gx, 2, none⟩ (.int .i64 6)).setCell ⟨gx, 4, none⟩ (.int .i64 2)).setCell ⟨gx, 7, none⟩ (.slice none 0 0)) b3 (bF b3) (bS b3) := (BookP.far (BookP.far (BookP.far HB3.out (by have ho := HO.out; simp only; omega) _) (by have ho := HO.out; simp only; omega) _) (by have ho := HO.out; simp only; omega) _)
  have hb4 : BookP (((W.setCell ⟨gx, 2, none⟩ (.int .i64 6)).setCell ⟨gx, 4, none⟩ (.int .i64 2)).setCell ⟨gx, 7, none⟩ (.slice none 0 0)) b4 (bF b4) (bS b4) := (BookP.far (BookP.far (BookP.far HB4.out (by have ho := HO.out; simp only; omega) _) (by have ho := HO.out; simp only; omega) _) (by have ho := HO.out; simp only; omega) _)
  have hb5 : BookP (((W.setCell ⟨gx, 2, none⟩ (.int .i64 6)).setCell ⟨gx, 4, none⟩ (.int .i64 2)).setCell ⟨gx, 7, none⟩ (.slice none 0 0)) b5 (bF b5) (bS b5) := (BookP.far (BookP.far (BookP.far HB5.out (by have ho := HO.out; simp only; omega) _) (by have ho := HO.out; simp only; omega) _) (by have ho := HO.out; simp only; omega) _)
  have hb6 : BookP (((W.setCell ⟨gx, 2, none⟩ (.int .i64 6)).setCell ⟨gx, 4, none⟩ (.int .i64 2)).setCell ⟨gx, 7, none⟩ (.slice none 0 0)) b6 (bF b6) (bS b6) := (BookP.far (BookP.far (BookP.far HB6.out (by have ho := HO.out; simp only; omega) _) (by have ho := HO.out; simp only; omega) _) (by have ho := HO.out; simp only; omega) _)
  have hb7 : BookP (((W.setCell ⟨gx, 2, none⟩ (.int .i64 6)).setCell ⟨gx, 4, none⟩ (.int .i64 2)).setCell ⟨gx, 7, none⟩ (.slice none 0 0)) b7 (bF b7) (bS b7) := (BookP.far (BookP.far (BookP.far HB7.out (by have ho := HO.out; simp only; omega) _) (by have ho := HO.out; simp only; omega) _) (by have ho := HO.out; simp only; omega) _)
  have hb8 : BookP (((W.setCell ⟨gx, 2, none⟩ (.int .i64 6)).setCell ⟨gx, 4, none⟩ (.int .i64 2)).setCell ⟨gx, 7, none⟩ (.slice none 0 0)) b8 (bF b8) (bS b8) := (BookP.far (BookP.far (BookP.far HB8.out (by have ho := HO.out; simp only; omega) _) (by have ho := HO.out; simp only; omega) _) (by have ho := HO.out; simp only; omega) _)
  have hb9 : BookP (((W.setCell ⟨gx, 2, none⟩ (.int .i64 6)).setCell ⟨gx, 4, none⟩ (.int .i64 2)).setCell ⟨gx, 7, none⟩ (.slice none 0 0)) b9 (bF b9) (bS b9) := (BookP.far (BookP.far (BookP.far HB9.out (by have ho := HO.out; simp only; omega) _) (by have ho := HO.out; simp only; omega) _) (by have ho := HO.out; simp only; omega) _)
  clear HF HX HB1 HB2 HB3 HB4 HB5 HB6 HB7 HB8 HB9 x2 z2 x4 z4 x7 z7
  generalize hW : (((W.setCell ⟨gx, 2, none⟩ (.int .i64 6)).setCell ⟨gx, 4, none⟩ (.int .i64 2)).setCell ⟨gx, 7, none⟩ (.slice none 0 0)) = W1 at *
  clear hW
  have HF := Lib.hid hf'
  have HX := Lib.hid hx'
  have HB1 := Lib.hid hb1
  have HB2 := Lib.hid hb2
  have HB3 := Lib.hid hb3
  have HB4 := Lib.hid hb4
  have HB5 := Lib.hid hb5
  have HB6 := Lib.hid hb6
  have HB7 := Lib.hid hb7
  have HB8 := Lib.hid hb8
  have HB9 := Lib.hid hb9
  clear hf' hx' hb1 hb2 hb3 hb4 hb5 hb6 hb7 hb8 hb9
  have x9 := HX.out.at_ 9 (v := .slice (some ⟨b4 + 8, 0, none⟩) 2 2) rfl
  have y0 := HB4.out.f.at_ 0 (v := .int .i64 8) rfl
  have z0 := HB4.out.f.frz 0
  as_aux_lemma =>
  go_upto_region 6 with fail
  have hf' : Fr0 w (W1.setCell ⟨b4 + 8, 0, none⟩ (.int .i64 33)) := (HF.out.setCell (.inr (by have ho := HO.out; simp only; omega)) _)
  have hx' : Bx (W1.setCell ⟨b4 + 8, 0, none⟩ (.int .i64 33)) gx 24 #[.int .i64 0, .slice none 0 0, .int .i64 6, .slice (some ⟨b1 + 8, 0, none⟩) 2 2, .int .i64 2, .slice (some ⟨b2 + 8, 0, none⟩) 2 2, .int .i64 3, .slice none 0 0, .int .i64 3, .slice (some ⟨b4 + 8, 0, none⟩) 2 2, .int .i64 3, .slice (some ⟨b5 + 8, 0, none⟩) 2 2, .int .i64 3, .slice (some ⟨b6 + 8, 0, none⟩) 2 2, .int .i64 3, .slice (some ⟨b7 + 8, 0, none⟩) 2 2, .int .i64 3, .slice (some ⟨b8 + 8, 0, none⟩) 2 2, .int .i64 3, .slice (some ⟨b9 + 8, 0, none⟩) 2 2] := (Bx.far HX.out (by have ho := HO.out; simp only; omega) _)
  have hb1 : BookP (W1.setCell ⟨b4 + 8, 0, none⟩ (.int .i64 33)) b1 (bF b1) (bS b1) := (BookP.far HB1.out (by have ho := HO.out; simp only; omega) _)
  have hb2 : BookP (W1.setCell ⟨b4 + 8, 0, none⟩ (.int .i64 33)) b2 (bF b2) (bS b2) := (BookP.far HB2.out (by have ho := HO.out; simp only; omega) _)
  have hb3 : BookP (W1.setCell ⟨b4 + 8, 0, none⟩ (.int .i64 33)) b3 (bF b3) (bS b3) := (BookP.far HB3.out (by have ho := HO.out; simp only; omega) _)
  have hb4 : BookP (W1.setCell ⟨b4 + 8, 0, none⟩ (.int .i64 33)) b4 #[.int .i64 33, .slice (some ⟨b4 + 3, 0, none⟩) 3 3, .int .i64 4, .slice (some ⟨b4 + 7, 0, none⟩) 3 3] (bS b4) := (BookP.setF HB4.out 0 _)
  have hb5 : BookP (W1.setCell ⟨b4 + 8, 0, none⟩ (.int .i64 33)) b5 (bF b5) (bS b5) := (BookP.far HB5.out (by have ho := HO.out; simp only; omega) _)
  have hb6 : BookP (W1.setCell ⟨b4 + 8, 0, none⟩ (.int .i64 33)) b6 (bF b6) (bS b6) := (BookP.far HB6.out (by have ho := HO.out; simp only; omega) _)
  have hb7 : BookP (W1.setCell ⟨b4 + 8, 0, none⟩ (.int .i64 33)) b7 (bF b7) (bS b7) := (BookP.far HB7.out (by have ho := HO.out; simp only; omega) _)
  have hb8 : BookP (W1.setCell ⟨b4 + 8, 0, none⟩ (.int .i64 33)) b8 (bF b8) (bS b8) := (BookP.far HB8.out (by have ho := HO.out; simp only; omega) _)
  have hb9 : BookP (W1.setCell ⟨b4 + 8, 0, none⟩ (.int .i64 33)) b9 (bF b9) (bS b9) := (BookP.far HB9.out (by have ho := HO.out; simp only; omega) _)
  clear HF HX HB1 HB2 HB3 HB4 HB5 HB6 HB7 HB8 HB9 x9 y0 z0
  generalize hW : (W1.setCell ⟨b4 + 8, 0, none⟩ (.int .i64 33)) = W2 at *
  clear hW
  have HF := Lib.hid hf'
  have HX := Lib.hid hx'
  have HB1 := Lib.hid hb1
  have HB2 := Lib.hid hb2
  have HB3 := Lib.hid hb3
  have HB4 := Lib.hid hb4
  have HB5 := Lib.hid hb5
  have HB6 := Lib.hid hb6
  have HB7 := Lib.hid hb7
  have HB8 := Lib.hid hb8
  have HB9 := Lib.hid hb9
  clear hf' hx' hb1 hb2 hb3 hb4 hb5 hb6 hb7 hb8 hb9
  have x11 := HX.out.at_ 11 (v := .slice (some ⟨b5 + 8, 0, none⟩) 2 2) rfl
  have y2 := HB5.out.f.at_ 2 (v := .int .i64 4) rfl
  have z2 := HB5.out.f.frz 2
  have y3 := HB5.out.f.at_ 3 (v := .slice (some ⟨b5 + 7, 0, none⟩) 3 3) rfl
  have z3 := HB5.out.f.frz 3
  have hlt : b5 + 8 < W2.heap.size := HB5.out.f.lt
  have hlt1 : b5 + 8 < W2.heap.size + 1 := by omega
  have hlt2 : b5 + 8 < W2.heap.size + 1 + 1 := by omega
  have hlt3 : b5 + 8 < W2.heap.size + 1 + 1 + 1 := by omega
  have hlt4 : b5 + 8 < W2.heap.size + 1 + 1 + 1 + 1 := by omega
  as_aux_lemma =>
  go_upto_region 7 with fail
  have hf' : Fr0 w ((((((W2.setCell ⟨b5 + 8, 2, none⟩ (.int .i64 1)).setCell ⟨b5 + 8, 3, none⟩ (.slice (some ⟨W2.heap.size + 1 + 1 + 1, 0, none⟩) 3 3)).alloc (.cells #[.int .i64 0] 3)).alloc (.cells #[.int .i64 0] 3)).alloc (.cells #[.int .i64 0] 3)).alloc (.cells #[.slice (some ⟨W2.heap.size, 0, none⟩) 1 1, .slice (some ⟨W2.heap.size + 1, 0, none⟩) 1 1, .slice (some ⟨W2.heap.size + 1 + 1, 0, none⟩) 1 1] 26)) := ((((((HF.out.setCell (.inr (by have ho := HO.out; simp only; omega)) _).setCell (.inr (by have ho := HO.out; simp only; omega)) _).alloc _).alloc _).alloc _).alloc _)
  have hx' : Bx ((((((W2.setCell ⟨b5 + 8, 2, none⟩ (.int .i64 1)).setCell ⟨b5 + 8, 3, none⟩ (.slice (some ⟨W2.heap.size + 1 + 1 + 1, 0, none⟩) 3 3)).alloc (.cells #[.int .i64 0] 3)).alloc (.cells #[.int .i64 0] 3)).alloc (.cells #[.int .i64 0] 3)).alloc (.cells #[.slice (some ⟨W2.heap.size, 0, none⟩) 1 1, .slice (some ⟨W2.heap.size + 1, 0, none⟩) 1 1, .slice (some ⟨W2.heap.size + 1 + 1, 0, none⟩) 1 1] 26)) gx 24 #[.int .i64 0, .slice none 0 0, .int .i64 6, .slice (some ⟨b1 + 8, 0, none⟩) 2 2, .int .i64 2, .slice (some ⟨b2 + 8, 0, none⟩) 2 2, .int .i64 3, .slice none 0 0, .int .i64 3, .slice (some ⟨b4 + 8, 0, none⟩) 2 2, .int .i64 3, .slice (some ⟨b5 + 8, 0, none⟩) 2 2, .int .i64 3, .slice (some ⟨b6 + 8, 0, none⟩) 2 2, .int .i64 3, .slice (some ⟨b7 + 8, 0, none⟩) 2 2, .int .i64 3, .slice (some ⟨b8 + 8, 0, none⟩) 2 2, .int .i64 3, .slice (some ⟨b9 + 8, 0, none⟩) 2 2] := ((Bx.far (Bx.far HX.out (by have ho := HO.out; simp only; omega) _) (by have ho := HO.out; simp only; omega) _).fr0 (((((Fr.refl _ _).alloc _).alloc _).alloc _).alloc _))
  have hb1 : BookP ((((((W2.setCell ⟨b5 + 8, 2, none⟩ (.int .i64 1)).setCell ⟨b5 + 8, 3, none⟩ (.slice (some ⟨W2.heap.size + 1 + 1 + 1, 0, none⟩) 3 3)).alloc (.cells #[.int .i64 0] 3)).alloc (.cells #[.int .i64 0] 3)).alloc (.cells #[.int .i64 0] 3)).alloc (.cells #[.slice (some ⟨W2.heap.size, 0, none⟩) 1 1, .slice (some ⟨W2.heap.size + 1, 0, none⟩) 1 1, .slice (some ⟨W2.heap.size + 1 + 1, 0, none⟩) 1 1] 26)) b1 (bF b1) (bS b1) := ((BookP.far (BookP.far HB1.out (by have ho := HO.out; simp only; omega) _) (by have ho := HO.out; simp only; omega) _).fr0 (((((Fr.refl _ _).alloc _).alloc _).alloc _).alloc _))
  have hb2 : BookP ((((((W2.setCell ⟨b5 + 8, 2, none⟩ (.int .i64 1)).setCell ⟨b5 + 8, 3, none⟩ (.slice (some ⟨W2.heap.size + 1 + 1 + 1, 0, none⟩) 3 3)).alloc (.cells #[.int .i64 0] 3)).alloc (.cells #[.int .i64 0] 3)).alloc (.cells #[.int .i64 0] 3)).alloc (.cells #[.slice (some ⟨W2.heap.size, 0, none⟩) 1 1, .slice (some ⟨W2.heap.size + 1, 0, none⟩) 1 1, .slice (some ⟨W2.heap.size + 1 + 1, 0, none⟩) 1 1] 26)) b2 (bF b2) (bS b2) := ((BookP.far (BookP.far HB2.out (by have ho := HO.out; simp only; omega) _) (by have ho := HO.out; simp only; omega) _).fr0 (((((Fr.refl _ _).alloc _).alloc _).alloc _).alloc _))
  have hb3 : BookP ((((((W2.setCell ⟨b5 + 8, 2, none⟩ (.int .i64 1)).setCell ⟨b5 + 8, 3, none⟩ (.slice (some ⟨W2.heap.size + 1 + 1 + 1, 0, none⟩) 3 3)).alloc (.cells #[.int .i64 0] 3)).alloc (.cells #[.int .i64 0] 3)).alloc (.cells #[.int .i64 0] 3)).alloc (.cells #[.slice (some ⟨W2.heap.size, 0, none⟩) 1 1, .slice (some ⟨W2.heap.size + 1, 0, none⟩) 1 1, .slice (some ⟨W2.heap.size + 1 + 1, 0, none⟩) 1 1] 26)) b3 (bF b3) (bS b3) := ((BookP.far (BookP.far HB3.out (by have ho := HO.out; simp only; omega) _) (by have ho := HO.out; simp only; omega) _).fr0 (((((Fr.refl _ _).alloc _).alloc _).alloc _).alloc _))
  have hb4 : BookP ((((((W2.setCell ⟨b5 + 8, 2, none⟩ (.int .i64 1)).setCell ⟨b5 + 8, 3, none⟩ (.slice (some ⟨W2.heap.size + 1 + 1 + 1, 0, none⟩) 3 3)).alloc (.cells #[.int .i64 0] 3)).alloc (.cells #[.int .i64 0] 3)).alloc (.cells #[.int .i64 0] 3)).alloc (.cells #[.slice (some ⟨W2.heap.size, 0, none⟩) 1 1, .slice (some ⟨W2.heap.size + 1, 0, none⟩) 1 1, .slice (some ⟨W2.heap.size + 1 + 1, 0, none⟩) 1 1] 26)) b4 #[.int .i64 33, .slice (some ⟨b4 + 3, 0, none⟩) 3 3, .int .i64 4, .slice (some ⟨b4 + 7, 0, none⟩) 3 3] (bS b4) := ((BookP.far (BookP.far HB4.out (by have ho := HO.out; simp only; omega) _) (by have ho := HO.out; simp only; omega) _).fr0 (((((Fr.refl _ _).alloc _).alloc _).alloc _).alloc _))
  have hb5 : BookP ((((((W2.setCell ⟨b5 + 8, 2, none⟩ (.int .i64 1)).setCell ⟨b5 + 8, 3, none⟩ (.slice (some ⟨W2.heap.size + 1 + 1 + 1, 0, none⟩) 3 3)).alloc (.cells #[.int .i64 0] 3)).alloc (.cells #[.int .i64 0] 3)).alloc (.cells #[.int .i64 0] 3)).alloc (.cells #[.slice (some ⟨W2.heap.size, 0, none⟩) 1 1, .slice (some ⟨W2.heap.size + 1, 0, none⟩) 1 1, .slice (some ⟨W2.heap.size + 1 + 1, 0, none⟩) 1 1] 26)) b5 #[.int .i64 8, .slice (some ⟨b5 + 3, 0, none⟩) 3 3, .int .i64 1, .slice (some ⟨W2.heap.size + 1 + 1 + 1, 0, none⟩) 3 3] (bS b5) := ((BookP.setF (BookP.setF HB5.out 2 _) 3 _).fr0 (((((Fr.refl _ _).alloc _).alloc _).alloc _).alloc _))
  have hb6 : BookP ((((((W2.setCell ⟨b5 + 8, 2, none⟩ (.int .i64 1)).setCell ⟨b5 + 8, 3, none⟩ (.slice (some ⟨W2.heap.size + 1 + 1 + 1, 0, none⟩) 3 3)).alloc (.cells #[.int .i64 0] 3)).alloc (.cells #[.int .i64 0] 3)).alloc (.cells #[.int .i64 0] 3)).alloc (.cells #[.slice (some ⟨W2.heap.size, 0, none⟩) 1 1, .slice (some ⟨W2.heap.size + 1, 0, none⟩) 1 1, .slice (some ⟨W2.heap.size + 1 + 1, 0, none⟩) 1 1] 26)) b6 (bF b6) (bS b6) := ((BookP.far (BookP.far HB6.out (by have ho := HO.out; simp only; omega) _) (by have ho := HO.out; simp only; omega) _).fr0 (((((Fr.refl _ _).alloc _).alloc _).alloc _).alloc _))
  have hb7 : BookP ((((((W2.setCell ⟨b5 + 8, 2, none⟩ (.int .i64 1)).setCell ⟨b5 + 8, 3, none⟩ (.slice (some ⟨W2.heap.size + 1 + 1 + 1, 0, none⟩) 3 3)).alloc (.cells #[.int .i64 0] 3)).alloc (.cells #[.int .i64 0] 3)).alloc (.cells #[.int .i64 0] 3)).alloc (.cells #[.slice (some ⟨W2.heap.size, 0, none⟩) 1 1, .slice (some ⟨W2.heap.size + 1, 0, none⟩) 1 1, .slice (some ⟨W2.heap.size + 1 + 1, 0, none⟩) 1 1] 26)) b7 (bF b7) (bS b7) := ((BookP.far (BookP.far HB7.out (by have ho := HO.out; simp only; omega) _) (by have ho := HO.out; simp only; omega) _).fr0 (((((Fr.refl _ _).alloc _).alloc _).alloc _).alloc _))
  have hb8 : BookP ((((((W2.setCell ⟨b5 + 8, 2, none⟩ (.int .i64 1)).setCell ⟨b5 + 8, 3, none⟩ (.slice (some ⟨W2.heap.size + 1 + 1 + 1, 0, none⟩) 3 3)).alloc (.cells #[.int .i64 0] 3)).alloc (.cells #[.int .i64 0] 3)).alloc (.cells #[.int .i64 0] 3)).alloc (.cells #[.slice (some ⟨W2.heap.size, 0, none⟩) 1 1, .slice (some ⟨W2.heap.size + 1, 0, none⟩) 1 1, .slice (some ⟨W2.heap.size + 1 + 1, 0, none⟩) 1 1] 26)) b8 (bF b8) (bS b8) := ((BookP.far (BookP.far HB8.out (by have ho := HO.out; simp only; omega) _) (by have ho := HO.out; simp only; omega) _).fr0 (((((Fr.refl _ _).alloc _).alloc _).alloc _).alloc _))
  have hb9 : BookP ((((((W2.setCell ⟨b5 + 8, 2, none⟩ (.int .i64 1)).setCell ⟨b5 + 8, 3, none⟩ (.slice (some ⟨W2.heap.size + 1 + 1 + 1, 0, none⟩) 3 3)).alloc (.cells #[.int .i64 0] 3)).alloc (.cells #[.int .i64 0] 3)).alloc (.cells #[.int .i64 0] 3)).alloc (.cells #[.slice (some ⟨W2.heap.size, 0, none⟩) 1 1, .slice (some ⟨W2.heap.size + 1, 0, none⟩) 1 1, .slice (some ⟨W2.heap.size + 1 + 1, 0, none⟩) 1 1] 26)) b9 (bF b9) (bS b9) := ((BookP.far (BookP.far HB9.out (by have ho := HO.out; simp only; omega) _) (by have ho := HO.out; simp only; omega) _).fr0 (((((Fr.refl _ _).alloc _).alloc _).alloc _).alloc _))
  have hn5a : Bx ((((((W2.setCell ⟨b5 + 8, 2, none⟩ (.int .i64 1)).setCell ⟨b5 + 8, 3, none⟩ (.slice (some ⟨W2.heap.size + 1 + 1 + 1, 0, none⟩) 3 3)).alloc (.cells #[.int .i64 0] 3)).alloc (.cells #[.int .i64 0] 3)).alloc (.cells #[.int .i64 0] 3)).alloc (.cells #[.slice (some ⟨W2.heap.size, 0, none⟩) 1 1, .slice (some ⟨W2.heap.size + 1, 0, none⟩) 1 1, .slice (some ⟨W2.heap.size + 1 + 1, 0, none⟩) 1 1] 26)) (W2.heap.size) 3 #[.int .i64 0] := ((((Bx.of_new (by simp)).alloc _).alloc _).alloc _)
  have hn5b : Bx ((((((W2.setCell ⟨b5 + 8, 2, none⟩ (.int .i64 1)).setCell ⟨b5 + 8, 3, none⟩ (.slice (some ⟨W2.heap.size + 1 + 1 + 1, 0, none⟩) 3 3)).alloc (.cells #[.int .i64 0] 3)).alloc (.cells #[.int .i64 0] 3)).alloc (.cells #[.int .i64 0] 3)).alloc (.cells #[.slice (some ⟨W2.heap.size, 0, none⟩) 1 1, .slice (some ⟨W2.heap.size + 1, 0, none⟩) 1 1, .slice (some ⟨W2.heap.size + 1 + 1, 0, none⟩) 1 1] 26)) (W2.heap.size + 1) 3 #[.int .i64 0] := (((Bx.of_new (by simp)).alloc _).alloc _)
  have hn5c : Bx ((((((W2.setCell ⟨b5 + 8, 2, none⟩ (.int .i64 1)).setCell ⟨b5 + 8, 3, none⟩ (.slice (some ⟨W2.heap.size + 1 + 1 + 1, 0, none⟩) 3 3)).alloc (.cells #[.int .i64 0] 3)).alloc (.cells #[.int .i64 0] 3)).alloc (.cells #[.int .i64 0] 3)).alloc (.cells #[.slice (some ⟨W2.heap.size, 0, none⟩) 1 1, .slice (some ⟨W2.heap.size + 1, 0, none⟩) 1 1, .slice (some ⟨W2.heap.size + 1 + 1, 0, none⟩) 1 1] 26)) (W2.heap.size + 1 + 1) 3 #[.int .i64 0] := ((Bx.of_new (by simp)).alloc _)
  have hn5r : Bx ((((((W2.setCell ⟨b5 + 8, 2, none⟩ (.int .i64 1)).setCell ⟨b5 + 8, 3, none⟩ (.slice (some ⟨W2.heap.size + 1 + 1 + 1, 0, none⟩) 3 3)).alloc (.cells #[.int .i64 0] 3)).alloc (.cells #[.int .i64 0] 3)).alloc (.cells #[.int .i64 0] 3)).alloc (.cells #[.slice (some ⟨W2.heap.size, 0, none⟩) 1 1, .slice (some ⟨W2.heap.size + 1, 0, none⟩) 1 1, .slice (some ⟨W2.heap.size + 1 + 1, 0, none⟩) 1 1] 26)) (W2.heap.size + 1 + 1 + 1) 26 #[.slice (some ⟨W2.heap.size, 0, none⟩) 1 1, .slice (some ⟨W2.heap.size + 1, 0, none⟩) 1 1, .slice (some ⟨W2.heap.size + 1 + 1, 0, none⟩) 1 1] := (Bx.of_new (by simp))
  have hnn : gx < W2.heap.size := HX.out.lt
  clear HF HX HB1 HB2 HB3 HB4 HB5 HB6 HB7 HB8 HB9 x11 y2 z2 y3 z3 hlt hlt1 hlt2 hlt3 hlt4
  generalize W2.heap.size = m2 at *
  generalize hW : ((((((W2.setCell ⟨b5 + 8, 2, none⟩ (.int .i64 1)).setCell ⟨b5 + 8, 3, none⟩ (.slice (some ⟨m2 + 1 + 1 + 1, 0, none⟩) 3 3)).alloc (.cells #[.int .i64 0] 3)).alloc (.cells #[.int .i64 0] 3)).alloc (.cells #[.int .i64 0] 3)).alloc (.cells #[.slice (some ⟨m2, 0, none⟩) 1 1, .slice (some ⟨m2 + 1, 0, none⟩) 1 1, .slice (some ⟨m2 + 1 + 1, 0, none⟩) 1 1] 26)) = W3 at *
  clear hW
  have HF := Lib.hid hf'
  have HX := Lib.hid hx'
  have HB1 := Lib.hid hb1
  have HB2 := Lib.hid hb2
  have HB3 := Lib.hid hb3
  have HB4 := Lib.hid hb4
  have HB5 := Lib.hid hb5
  have HB6 := Lib.hid hb6
  have HB7 := Lib.hid hb7
  have HB8 := Lib.hid hb8
  have HB9 := Lib.hid hb9
  have HNNm2 := Lib.hid hnn
  have HN5a := Lib.hid hn5a
  have HN5b := Lib.hid hn5b
  have HN5c := Lib.hid hn5c
  have HN5r := Lib.hid hn5r
  clear hf' hx' hb1 hb2 hb3 hb4 hb5 hb6 hb7 hb8 hb9 hn5a hn5b hn5c hn5r hnn
  have x1 := HX.out.at_ 13 (v := .slice (some ⟨b6 + 8, 0, none⟩) 2 2) rfl
  have y1 := HB6.out.f.at_ 1 (v := .slice (some ⟨b6 + 3, 0, none⟩) 3 3) rfl
  have s0 := HB6.out.s.at_ 0 (v := .slice (some ⟨b6, 0, none⟩) 1 1) rfl
  have z0 := HB6.out.s.frz 0
  have hlt : b6 + 3 < W3.heap.size := HB6.out.s.lt
  have hlt1 : b6 + 3 < W3.heap.size + 1 := by omega
  as_aux_lemma =>
  go_upto_region 8 with fail
  have hf' : Fr0 w ((W3.setCell ⟨b6 + 3, 0, none⟩ (.slice (some ⟨W3.heap.size, 0, none⟩) 2 2)).alloc (.cells #[.int .i64 3, .int .i64 7] 3)) := ((HF.out.setCell (.inr (by have ho := HO.out; simp only; omega)) _).alloc _)
  have hx' : Bx ((W3.setCell ⟨b6 + 3, 0, none⟩ (.slice (some ⟨W3.heap.size, 0, none⟩) 2 2)).alloc (.cells #[.int .i64 3, .int .i64 7] 3)) gx 24 #[.int .i64 0, .slice none 0 0, .int .i64 6, .slice (some ⟨b1 + 8, 0, none⟩) 2 2, .int .i64 2, .slice (some ⟨b2 + 8, 0, none⟩) 2 2, .int .i64 3, .slice none 0 0, .int .i64 3, .slice (some ⟨b4 + 8, 0, none⟩) 2 2, .int .i64 3, .slice (some ⟨b5 + 8, 0, none⟩) 2 2, .int .i64 3, .slice (some ⟨b6 + 8, 0, none⟩) 2 2, .int .i64 3, .slice (some ⟨b7 + 8, 0, none⟩) 2 2, .int .i64 3, .slice (some ⟨b8 + 8, 0, none⟩) 2 2, .int .i64 3, .slice (some ⟨b9 + 8, 0, none⟩) 2 2] := ((Bx.far HX.out (by have ho := HO.out; simp only; omega) _).fr0 ((Fr.refl _ _).alloc _))
  have hb1 : BookP ((W3.setCell ⟨b6 + 3, 0, none⟩ (.slice (some ⟨W3.heap.size, 0, none⟩) 2 2)).alloc (.cells #[.int .i64 3, .int .i64 7] 3)) b1 (bF b1) (bS b1) := ((BookP.far HB1.out (by have ho := HO.out; simp only; omega) _).fr0 ((Fr.refl _ _).alloc _))
  have hb2 : BookP ((W3.setCell ⟨b6 + 3, 0, none⟩ (.slice (some ⟨W3.heap.size, 0, none⟩) 2 2)).alloc (.cells #[.int .i64 3, .int .i64 7] 3)) b2 (bF b2) (bS b2) := ((BookP.far HB2.out (by have ho := HO.out; simp only; omega) _).fr0 ((Fr.refl _ _).alloc _))
  have hb3 : BookP ((W3.setCell ⟨b6 + 3, 0, none⟩ (.slice (some ⟨W3.heap.size, 0, none⟩) 2 2)).alloc (.cells #[.int .i64 3, .int .i64 7] 3)) b3 (bF b3) (bS b3) := ((BookP.far HB3.out (by have ho := HO.out; simp only; omega) _).fr0 ((Fr.refl _ _).alloc _))
  have hb4 : BookP ((W3.setCell ⟨b6 + 3, 0, none⟩ (.slice (some ⟨W3.heap.size, 0, none⟩) 2 2)).alloc (.cells #[.int .i64 3, .int .i64 7] 3)) b4 #[.int .i64 33, .slice (some ⟨b4 + 3, 0, none⟩) 3 3, .int .i64 4, .slice (some ⟨b4 + 7, 0, none⟩) 3 3] (bS b4) := ((BookP.far HB4.out (by have ho := HO.out; simp only; omega) _).fr0 ((Fr.refl _ _).alloc _))
  have hb5 : BookP ((W3.setCell ⟨b6 + 3, 0, none⟩ (.slice (some ⟨W3.heap.size, 0, none⟩) 2 2)).alloc (.cells #[.int .i64 3, .int .i64 7] 3)) b5 #[.int .i64 8, .slice (some ⟨b5 + 3, 0, none⟩) 3 3, .int .i64 1, .slice (some ⟨m2 + 1 + 1 + 1, 0, none⟩) 3 3] (bS b5) := ((BookP.far HB5.out (by have ho := HO.out; simp only; omega) _).fr0 ((Fr.refl _ _).alloc _))
  have hb6 : BookP ((W3.setCell ⟨b6 + 3, 0, none⟩ (.slice (some ⟨W3.heap.size, 0, none⟩) 2 2)).alloc (.cells #[.int .i64 3, .int .i64 7] 3)) b6 (bF b6) #[.slice (some ⟨W3.heap.size, 0, none⟩) 2 2, .slice (some ⟨b6 + 1, 0, none⟩) 2 2, .slice (some ⟨b6 + 2, 0, none⟩) 4 4] := ((BookP.setS HB6.out 0 _).fr0 ((Fr.refl _ _).alloc _))
  have hb7 : BookP ((W3.setCell ⟨b6 + 3, 0, none⟩ (.slice (some ⟨W3.heap.size, 0, none⟩) 2 2)).alloc (.cells #[.int .i64 3, .int .i64 7] 3)) b7 (bF b7) (bS b7) := ((BookP.far HB7.out (by have ho := HO.out; simp only; omega) _).fr0 ((Fr.refl _ _).alloc _))
  have hb8 : BookP ((W3.setCell ⟨b6 + 3, 0, none⟩ (.slice (some ⟨W3.heap.size, 0, none⟩) 2 2)).alloc (.cells #[.int .i64 3, .int .i64 7] 3)) b8 (bF b8) (bS b8) := ((BookP.far HB8.out (by have ho := HO.out; simp only; omega) _).fr0 ((Fr.refl _ _).alloc _))
  have hb9 : BookP ((W3.setCell ⟨b6 + 3, 0, none⟩ (.slice (some ⟨W3.heap.size, 0, none⟩) 2 2)).alloc (.cells #[.int .i64 3, .int .i64 7] 3)) b9 (bF b9) (bS b9) := ((BookP.far HB9.out (by have ho := HO.out; simp only; omega) _).fr0 ((Fr.refl _ _).alloc _))
  have hn5a : Bx ((W3.setCell ⟨b6 + 3, 0, none⟩ (.slice (some ⟨W3.heap.size, 0, none⟩) 2 2)).alloc (.cells #[.int .i64 3, .int .i64 7] 3)) (m2) 3 #[.int .i64 0] := ((Bx.far HN5a.out (by have ho := HO.out; have hn := HNNm2.out; simp only; omega) _).fr0 ((Fr.refl _ _).alloc _))
  have hn5b : Bx ((W3.setCell ⟨b6 + 3, 0, none⟩ (.slice (some ⟨W3.heap.size, 0, none⟩) 2 2)).alloc (.cells #[.int .i64 3, .int .i64 7] 3)) (m2 + 1) 3 #[.int .i64 0] := ((Bx.far HN5b.out (by have ho := HO.out; have hn := HNNm2.out; simp only; omega) _).fr0 ((Fr.refl _ _).alloc _))
  have hn5c : Bx ((W3.setCell ⟨b6 + 3, 0, none⟩ (.slice (some ⟨W3.heap.size, 0, none⟩) 2 2)).alloc (.cells #[.int .i64 3, .int .i64 7] 3)) (m2 + 1 + 1) 3 #[.int .i64 0] := ((Bx.far HN5c.out (by have ho := HO.out; have hn := HNNm2.out; simp only; omega) _).fr0 ((Fr.refl _ _).alloc _))
  have hn5r : Bx ((W3.setCell ⟨b6 + 3, 0, none⟩ (.slice (some ⟨W3.heap.size, 0, none⟩) 2 2)).alloc (.cells #[.int .i64 3, .int .i64 7] 3)) (m2 + 1 + 1 + 1) 26 #[.slice (some ⟨m2, 0, none⟩) 1 1, .slice (some ⟨m2 + 1, 0, none⟩) 1 1, .slice (some ⟨m2 + 1 + 1, 0, none⟩) 1 1] := ((Bx.far HN5r.out (by have ho := HO.out; have hn := HNNm2.out; simp only; omega) _).fr0 ((Fr.refl _ _).alloc _))
  have hn6 : Bx ((W3.setCell ⟨b6 + 3, 0, none⟩ (.slice (some ⟨W3.heap.size, 0, none⟩) 2 2)).alloc (.cells #[.int .i64 3, .int .i64 7] 3)) (W3.heap.size) 3 #[.int .i64 3, .int .i64 7] := (Bx.of_new (by simp))
  have hnn : gx < W3.heap.size := HX.out.lt
  clear HF HX HB1 HB2 HB3 HB4 HB5 HB6 HB7 HB8 HB9 HN5a HN5b HN5c HN5r x1 y1 s0 z0 hlt hlt1
  generalize W3.heap.size = m3 at *
  generalize hW : ((W3.setCell ⟨b6 + 3, 0, none⟩ (.slice (some ⟨m3, 0, none⟩) 2 2)).alloc (.cells #[.int .i64 3, .int .i64 7] 3)) = W4 at *
  clear hW
  have HF := Lib.hid hf'
  have HX := Lib.hid hx'
  have HB1 := Lib.hid hb1
  have HB2 := Lib.hid hb2
  have HB3 := Lib.hid hb3
  have HB4 := Lib.hid hb4
  have HB5 := Lib.hid hb5
  have HB6 := Lib.hid hb6
  have HB7 := Lib.hid hb7
  have HB8 := Lib.hid hb8
  have HB9 := Lib.hid hb9
  have HN5a := Lib.hid hn5a
  have HN5b := Lib.hid hn5b
  have HN5c := Lib.hid hn5c
  have HN5r := Lib.hid hn5r
  have HNNm3 := Lib.hid hnn
  have HN6 := Lib.hid hn6
  clear hf' hx' hb1 hb2 hb3 hb4 hb5 hb6 hb7 hb8 hb9 hn5a hn5b hn5c hn5r hn6 hnn
  have x1 := HX.out.at_ 15 (v := .slice (some ⟨b7 + 8, 0, none⟩) 2 2) rfl
  have y1 := HB7.out.f.at_ 1 (v := .slice (some ⟨b7 + 3, 0, none⟩) 3 3) rfl
  have s0 := HB7.out.s.at_ 1 (v := .slice (some ⟨b7 + 1, 0, none⟩) 2 2) rfl
  have z0 := HB7.out.s.frz 1
  have hlt : b7 + 3 < W4.heap.size := HB7.out.s.lt
  have hlt1 : b7 + 3 < W4.heap.size + 1 := by omega
  as_aux_lemma =>
  go_upto_region 9 with fail
  have hf' : Fr0 w ((W4.setCell ⟨b7 + 3, 1, none⟩ (.slice (some ⟨W4.heap.size, 0, none⟩) 2 2)).alloc (.cells #[.int .i64 7, .int .i64 3] 3)) := ((HF.out.setCell (.inr (by have ho := HO.out; simp only; omega)) _).alloc _)
  have hx' : Bx ((W4.setCell ⟨b7 + 3, 1, none⟩ (.slice (some ⟨W4.heap.size, 0, none⟩) 2 2)).alloc (.cells #[.int .i64 7, .int .i64 3] 3)) gx 24 #[.int .i64 0, .slice none 0 0, .int .i64 6, .slice (some ⟨b1 + 8, 0, none⟩) 2 2, .int .i64 2, .slice (some ⟨b2 + 8, 0, none⟩) 2 2, .int .i64 3, .slice none 0 0, .int .i64 3, .slice (some ⟨b4 + 8, 0, none⟩) 2 2, .int .i64 3, .slice (some ⟨b5 + 8, 0, none⟩) 2 2, .int .i64 3, .slice (some ⟨b6 + 8, 0, none⟩) 2 2, .int .i64 3, .slice (some ⟨b7 + 8, 0, none⟩) 2 2, .int .i64 3, .slice (some ⟨b8 + 8, 0, none⟩) 2 2, .int .i64 3, .slice (some ⟨b9 + 8, 0, none⟩) 2 2] := ((Bx.far HX.out (by have ho := HO.out; simp only; omega) _).fr0 ((Fr.refl _ _).alloc _))
  have hb1 : BookP ((W4.setCell ⟨b7 + 3, 1, none⟩ (.slice (some ⟨W4.heap.size, 0, none⟩) 2 2)).alloc (.cells #[.int .i64 7, .int .i64 3] 3)) b1 (bF b1) (bS b1) := ((BookP.far HB1.out (by have ho := HO.out; simp only; omega) _).fr0 ((Fr.refl _ _).alloc _))
  have hb2 : BookP ((W4.setCell ⟨b7 + 3, 1, none⟩ (.slice (some ⟨W4.heap.size, 0, none⟩) 2 2)).alloc (.cells #[.int .i64 7, .int .i64 3] 3)) b2 (bF b2) (bS b2) := ((BookP.far HB2.out (by have ho := HO.out; simp only; omega) _).fr0 ((Fr.refl _ _).alloc _))
  have hb3 : BookP ((W4.setCell ⟨b7 + 3, 1, none⟩ (.slice (some ⟨W4.heap.size, 0, none⟩) 2 2)).alloc (.cells #[.int .i64 7, .int .i64 3] 3)) b3 (bF b3) (bS b3) := ((BookP.far HB3.out (by have ho := HO.out; simp only; omega) _).fr0 ((Fr.refl _ _).alloc _))
  have hb4 : BookP ((W4.setCell ⟨b7 + 3, 1, none⟩ (.slice (some ⟨W4.heap.size, 0, none⟩) 2 2)).alloc (.cells #[.int .i64 7, .int .i64 3] 3)) b4 #[.int .i64 33, .slice (some ⟨b4 + 3, 0, none⟩) 3 3, .int .i64 4, .slice (some ⟨b4 + 7, 0, none⟩) 3 3] (bS b4) := ((BookP.far HB4.out (by have ho := HO.out; simp only; omega) _).fr0 ((Fr.refl _ _).alloc _))
  have hb5 : BookP ((W4.setCell ⟨b7 + 3, 1, none⟩ (.slice (some ⟨W4.heap.size, 0, none⟩) 2 2)).alloc (.cells #[.int .i64 7, .int .i64 3] 3)) b5 #[.int .i64 8, .slice (some ⟨b5 + 3, 0, none⟩) 3 3, .int .i64 1, .slice (some ⟨m2 + 1 + 1 + 1, 0, none⟩) 3 3] (bS b5) := ((BookP.far HB5.out (by have ho := HO.out; simp only; omega) _).fr0 ((Fr.refl _ _).alloc _))
  have hb6 : BookP ((W4.setCell ⟨b7 + 3, 1, none⟩ (.slice (some ⟨W4.heap.size, 0, none⟩) 2 2)).alloc (.cells #[.int .i64 7, .int .i64 3] 3)) b6 (bF b6) #[.slice (some ⟨m3, 0, none⟩) 2 2, .slice (some ⟨b6 + 1, 0, none⟩) 2 2, .slice (some ⟨b6 + 2, 0, none⟩) 4 4] := ((BookP.far HB6.out (by have ho := HO.out; simp only; omega) _).fr0 ((Fr.refl _ _).alloc _))
  have hb7 : BookP ((W4.setCell ⟨b7 + 3, 1, none⟩ (.slice (some ⟨W4.heap.size, 0, none⟩) 2 2)).alloc (.cells #[.int .i64 7, .int .i64 3] 3)) b7 (bF b7) #[.slice (some ⟨b7, 0, none⟩) 1 1, .slice (some ⟨W4.heap.size, 0, none⟩) 2 2, .slice (some ⟨b7 + 2, 0, none⟩) 4 4] := ((BookP.setS HB7.out 1 _).fr0 ((Fr.refl _ _).alloc _))
  have hb8 : BookP ((W4.setCell ⟨b7 + 3, 1, none⟩ (.slice (some ⟨W4.heap.size, 0, none⟩) 2 2)).alloc (.cells #[.int .i64 7, .int .i64 3] 3)) b8 (bF b8) (bS b8) := ((BookP.far HB8.out (by have ho := HO.out; simp only; omega) _).fr0 ((Fr.refl _ _).alloc _))
  have hb9 : BookP ((W4.setCell ⟨b7 + 3, 1, none⟩ (.slice (some ⟨W4.heap.size, 0, none⟩) 2 2)).alloc (.cells #[.int .i64 7, .int .i64 3] 3)) b9 (bF b9) (bS b9) := ((BookP.far HB9.out (by have ho := HO.out; simp only; omega) _).fr0 ((Fr.refl _ _).alloc _))
  have hn5a : Bx ((W4.setCell ⟨b7 + 3, 1, none⟩ (.slice (some ⟨W4.heap.size, 0, none⟩) 2 2)).alloc (.cells #[.int .i64 7, .int .i64 3] 3)) (m2) 3 #[.int .i64 0] := ((Bx.far HN5a.out (by have ho := HO.out; have hn := HNNm2.out; simp only; omega) _).fr0 ((Fr.refl _ _).alloc _))
  have hn5b : Bx ((W4.setCell ⟨b7 + 3, 1, none⟩ (.slice (some ⟨W4.heap.size, 0, none⟩) 2 2)).alloc (.cells #[.int .i64 7, .int .i64 3] 3)) (m2 + 1) 3 #[.int .i64 0] := ((Bx.far HN5b.out (by have ho := HO.out; have hn := HNNm2.out; simp only; omega) _).fr0 ((Fr.refl _ _).alloc _))
  have hn5c : Bx ((W4.setCell ⟨b7 + 3, 1, none⟩ (.slice (some ⟨W4.heap.size, 0, none⟩) 2 2)).alloc (.cells #[.int .i64 7, .int .i64 3] 3)) (m2 + 1 + 1) 3 #[.int .i64 0] := ((Bx.far HN5c.out (by have ho := HO.out; have hn := HNNm2.out; simp only; omega) _).fr0 ((Fr.refl _ _).alloc _))
  have hn5r : Bx ((W4.setCell ⟨b7 + 3, 1, none⟩ (.slice (some ⟨W4.heap.size, 0, none⟩) 2 2)).alloc (.cells #[.int .i64 7, .int .i64 3] 3)) (m2 + 1 + 1 + 1) 26 #[.slice (some ⟨m2, 0, none⟩) 1 1, .slice (some ⟨m2 + 1, 0, none⟩) 1 1, .slice (some ⟨m2 + 1 + 1, 0, none⟩) 1 1] := ((Bx.far HN5r.out (by have ho := HO.out; have hn := HNNm2.out; simp only; omega) _).fr0 ((Fr.refl _ _).alloc _))
  have hn6 : Bx ((W4.setCell ⟨b7 + 3, 1, none⟩ (.slice (some ⟨W4.heap.size, 0, none⟩) 2 2)).alloc (.cells #[.int .i64 7, .int .i64 3] 3)) (m3) 3 #[.int .i64 3, .int .i64 7] := ((Bx.far HN6.out (by have ho := HO.out; have hn := HNNm3.out; simp only; omega) _).fr0 ((Fr.refl _ _).alloc _))
  have hn7 : Bx ((W4.setCell ⟨b7 + 3, 1, none⟩ (.slice (some ⟨W4.heap.size, 0, none⟩) 2 2)).alloc (.cells #[.int .i64 7, .int .i64 3] 3)) (W4.heap.size) 3 #[.int .i64 7, .int .i64 3] := (Bx.of_new (by simp))
  have hnn : gx < W4.heap.size := HX.out.lt
  clear HF HX HB1 HB2 HB3 HB4 HB5 HB6 HB7 HB8 HB9 HN5a HN5b HN5c HN5r HN6 x1 y1 s0 z0 hlt hlt1
  generalize W4.heap.size = m4 at *
  generalize hW : ((W4.setCell ⟨b7 + 3, 1, none⟩ (.slice (some ⟨m4, 0, none⟩) 2 2)).alloc (.cells #[.int .i64 7, .int .i64 3] 3)) = W5 at *
  clear hW
  have HF := Lib.hid hf'
  have HX := Lib.hid hx'
  have HB1 := Lib.hid hb1
  have HB2 := Lib.hid hb2
  have HB3 := Lib.hid hb3
  have HB4 := Lib.hid hb4
  have HB5 := Lib.hid hb5
  have HB6 := Lib.hid hb6
  have HB7 := Lib.hid hb7
  have HB8 := Lib.hid hb8
  have HB9 := Lib.hid hb9
  have HN5a := Lib.hid hn5a
  have HN5b := Lib.hid hn5b
  have HN5c := Lib.hid hn5c
  have HN5r := Lib.hid hn5r
  have HN6 := Lib.hid hn6
  have HNNm4 := Lib.hid hnn
  have HN7 := Lib.hid hn7
  clear hf' hx' hb1 hb2 hb3 hb4 hb5 hb6 hb7 hb8 hb9 hn5a hn5b hn5c hn5r hn6 hn7 hnn
  have x1 := HX.out.at_ 17 (v := .slice (some ⟨b8 + 8, 0, none⟩) 2 2) rfl
  have y1 := HB8.out.f.at_ 1 (v := .slice (some ⟨b8 + 3, 0, none⟩) 3 3) rfl
  have s0 := HB8.out.s.at_ 2 (v := .slice (some ⟨b8 + 2, 0, none⟩) 4 4) rfl
  have z0 := HB8.out.s.frz 2
  have hlt : b8 + 3 < W5.heap.size := HB8.out.s.lt
  have hlt1 : b8 + 3 < W5.heap.size + 1 := by omega
  as_aux_lemma =>
  go_upto_region 10 with fail
  have hf' : Fr0 w ((W5.setCell ⟨b8 + 3, 2, none⟩ (.slice (some ⟨W5.heap.size, 0, none⟩) 2 2)).alloc (.cells #[.int .i64 0, .int .i64 8] 3)) := ((HF.out.setCell (.inr (by have ho := HO.out; simp only; omega)) _).alloc _)
  have hx' : Bx ((W5.setCell ⟨b8 + 3, 2, none⟩ (.slice (some ⟨W5.heap.size, 0, none⟩) 2 2)).alloc (.cells #[.int .i64 0, .int .i64 8] 3)) gx 24 #[.int .i64 0, .slice none 0 0, .int .i64 6, .slice (some ⟨b1 + 8, 0, none⟩) 2 2, .int .i64 2, .slice (some ⟨b2 + 8, 0, none⟩) 2 2, .int .i64 3, .slice none 0 0, .int .i64 3, .slice (some ⟨b4 + 8, 0, none⟩) 2 2, .int .i64 3, .slice (some ⟨b5 + 8, 0, none⟩) 2 2, .int .i64 3, .slice (some ⟨b6 + 8, 0, none⟩) 2 2, .int .i64 3, .slice (some ⟨b7 + 8, 0, none⟩) 2 2, .int .i64 3, .slice (some ⟨b8 + 8, 0, none⟩) 2 2, .int .i64 3, .slice (some ⟨b9 + 8, 0, none⟩) 2 2] := ((Bx.far HX.out (by have ho := HO.out; simp only; omega) _).fr0 ((Fr.refl _ _).alloc _))
  have hb1 : BookP ((W5.setCell ⟨b8 + 3, 2, none⟩ (.slice (some ⟨W5.heap.size, 0, none⟩) 2 2)).alloc (.cells #[.int .i64 0, .int .i64 8] 3)) b1 (bF b1) (bS b1) := ((BookP.far HB1.out (by have ho := HO.out; simp only; omega) _).fr0 ((Fr.refl _ _).alloc _))
  have hb2 : BookP ((W5.setCell ⟨b8 + 3, 2, none⟩ (.slice (some ⟨W5.heap.size, 0, none⟩) 2 2)).alloc (.cells #[.int .i64 0, .int .i64 8] 3)) b2 (bF b2) (bS b2) := ((BookP.far HB2.out (by have ho := HO.out; simp only; omega) _).fr0 ((Fr.refl _ _).alloc _))
  have hb3 : BookP ((W5.setCell ⟨b8 + 3, 2, none⟩ (.slice (some ⟨W5.heap.size, 0, none⟩) 2 2)).alloc (.cells #[.int .i64 0, .int .i64 8] 3)) b3 (bF b3) (bS b3) := ((BookP.far HB3.out (by have ho := HO.out; simp only; omega) _).fr0 ((Fr.refl _ _).alloc _))
  have hb4 : BookP ((W5.setCell ⟨b8 + 3, 2, none⟩ (.slice (some ⟨W5.heap.size, 0, none⟩) 2 2)).alloc (.cells #[.int .i64 0, .int .i64 8] 3)) b4 #[.int .i64 33, .slice (some ⟨b4 + 3, 0, none⟩) 3 3, .int .i64 4, .slice (some ⟨b4 + 7, 0, none⟩) 3 3] (bS b4) := ((BookP.far HB4.out (by have ho := HO.out; simp only; omega) _).fr0 ((Fr.refl _ _).alloc _))
  have hb5 : BookP ((W5.setCell ⟨b8 + 3, 2, none⟩ (.slice (some ⟨W5.heap.size, 0, none⟩) 2 2)).alloc (.cells #[.int .i64 0, .int .i64 8] 3)) b5 #[.int .i64 8, .slice (some ⟨b5 + 3, 0, none⟩) 3 3, .int .i64 1, .slice (some ⟨m2 + 1 + 1 + 1, 0, none⟩) 3 3] (bS b5) := ((BookP.far HB5.out (by have ho := HO.out; simp only; omega) _).fr0 ((Fr.refl _ _).alloc _))
  have hb6 : BookP ((W5.setCell ⟨b8 + 3, 2, none⟩ (.slice (some ⟨W5.heap.size, 0, none⟩) 2 2)).alloc (.cells #[.int .i64 0, .int .i64 8] 3)) b6 (bF b6) #[.slice (some ⟨m3, 0, none⟩) 2 2, .slice (some ⟨b6 + 1, 0, none⟩) 2 2, .slice (some ⟨b6 + 2, 0, none⟩) 4 4] := ((BookP.far HB6.out (by have ho := HO.out; simp only; omega) _).fr0 ((Fr.refl _ _).alloc _))
  have hb7 : BookP ((W5.setCell ⟨b8 + 3, 2, none⟩ (.slice (some ⟨W5.heap.size, 0, none⟩) 2 2)).alloc (.cells #[.int .i64 0, .int .i64 8] 3)) b7 (bF b7) #[.slice (some ⟨b7, 0, none⟩) 1 1, .slice (some ⟨m4, 0, none⟩) 2 2, .slice (some ⟨b7 + 2, 0, none⟩) 4 4] := ((BookP.far HB7.out (by have ho := HO.out; simp only; omega) _).fr0 ((Fr.refl _ _).alloc _))
  have hb8 : BookP ((W5.setCell ⟨b8 + 3, 2, none⟩ (.slice (some ⟨W5.heap.size, 0, none⟩) 2 2)).alloc (.cells #[.int .i64 0, .int .i64 8] 3)) b8 (bF b8) #[.slice (some ⟨b8, 0, none⟩) 1 1, .slice (some ⟨b8 + 1, 0, none⟩) 2 2, .slice (some ⟨W5.heap.size, 0, none⟩) 2 2] := ((BookP.setS HB8.out 2 _).fr0 ((Fr.refl _ _).alloc _))
  have hb9 : BookP ((W5.setCell ⟨b8 + 3, 2, none⟩ (.slice (some ⟨W5.heap.size, 0, none⟩) 2 2)).alloc (.cells #[.int .i64 0, .int .i64 8] 3)) b9 (bF b9) (bS b9) := ((BookP.far HB9.out (by have ho := HO.out; simp only; omega) _).fr0 ((Fr.refl _ _).alloc _))
  have hn5a : Bx ((W5.setCell ⟨b8 + 3, 2, none⟩ (.slice (some ⟨W5.heap.size, 0, none⟩) 2 2)).alloc (.cells #[.int .i64 0, .int .i64 8] 3)) (m2) 3 #[.int .i64 0] := ((Bx.far HN5a.out (by have ho := HO.out; have hn := HNNm2.out; simp only; omega) _).fr0 ((Fr.refl _ _).alloc _))
  have hn5b : Bx ((W5.setCell ⟨b8 + 3, 2, none⟩ (.slice (some ⟨W5.heap.size, 0, none⟩) 2 2)).alloc (.cells #[.int .i64 0, .int .i64 8] 3)) (m2 + 1) 3 #[.int .i64 0] := ((Bx.far HN5b.out (by have ho := HO.out; have hn := HNNm2.out; simp only; omega) _).fr0 ((Fr.refl _ _).alloc _))
  have hn5c : Bx ((W5.setCell ⟨b8 + 3, 2, none⟩ (.slice (some ⟨W5.heap.size, 0, none⟩) 2 2)).alloc (.cells #[.int .i64 0, .int .i64 8] 3)) (m2 + 1 + 1) 3 #[.int .i64 0] := ((Bx.far HN5c.out (by have ho := HO.out; have hn := HNNm2.out; simp only; omega) _).fr0 ((Fr.refl _ _).alloc _))
  have hn5r : Bx ((W5.setCell ⟨b8 + 3, 2, none⟩ (.slice (some ⟨W5.heap.size, 0, none⟩) 2 2)).alloc (.cells #[.int .i64 0, .int .i64 8] 3)) (m2 + 1 + 1 + 1) 26 #[.slice (some ⟨m2, 0, none⟩) 1 1, .slice (some ⟨m2 + 1, 0, none⟩) 1 1, .slice (some ⟨m2 + 1 + 1, 0, none⟩) 1 1] := ((Bx.far HN5r.out (by have ho := HO.out; have hn := HNNm2.out; simp only; omega) _).fr0 ((Fr.refl _ _).alloc _))
  have hn6 : Bx ((W5.setCell ⟨b8 + 3, 2, none⟩ (.slice (some ⟨W5.heap.size, 0, none⟩) 2 2)).alloc (.cells #[.int .i64 0, .int .i64 8] 3)) (m3) 3 #[.int .i64 3, .int .i64 7] := ((Bx.far HN6.out (by have ho := HO.out; have hn := HNNm3.out; simp only; omega) _).fr0 ((Fr.refl _ _).alloc _))
  have hn7 : Bx ((W5.setCell ⟨b8 + 3, 2, none⟩ (.slice (some ⟨W5.heap.size, 0, none⟩) 2 2)).alloc (.cells #[.int .i64 0, .int .i64 8] 3)) (m4) 3 #[.int .i64 7, .int .i64 3] := ((Bx.far HN7.out (by have ho := HO.out; have hn := HNNm4.out; simp only; omega) _).fr0 ((Fr.refl _ _).alloc _))
  have hn8 : Bx ((W5.setCell ⟨b8 + 3, 2, none⟩ (.slice (some ⟨W5.heap.size, 0, none⟩) 2 2)).alloc (.cells #[.int .i64 0, .int .i64 8] 3)) (W5.heap.size) 3 #[.int .i64 0, .int .i64 8] := (Bx.of_new (by simp))
  have hnn : gx < W5.heap.size := HX.out.lt
  clear HF HX HB1 HB2 HB3 HB4 HB5 HB6 HB7 HB8 HB9 HN5a HN5b HN5c HN5r HN6 HN7 x1 y1 s0 z0 hlt hlt1
  generalize W5.heap.size = m5 at *
  generalize hW : ((W5.setCell ⟨b8 + 3, 2, none⟩ (.slice (some ⟨m5, 0, none⟩) 2 2)).alloc (.cells #[.int .i64 0, .int .i64 8] 3)) = W6 at *
  clear hW
  have HF := Lib.hid hf'
  have HX := Lib.hid hx'
  have HB1 := Lib.hid hb1
  have HB2 := Lib.hid hb2
  have HB3 := Lib.hid hb3
  have HB4 := Lib.hid hb4
  have HB5 := Lib.hid hb5
  have HB6 := Lib.hid hb6
  have HB7 := Lib.hid hb7
  have HB8 := Lib.hid hb8
  have HB9 := Lib.hid hb9
  have HN5a := Lib.hid hn5a
  have HN5b := Lib.hid hn5b
  have HN5c := Lib.hid hn5c
  have HN5r := Lib.hid hn5r
  have HN6 := Lib.hid hn6
  have HN7 := Lib.hid hn7
  have HNNm5 := Lib.hid hnn
  have HN8 := Lib.hid hn8
  clear hf' hx' hb1 hb2 hb3 hb4 hb5 hb6 hb7 hb8 hb9 hn5a hn5b hn5c hn5r hn6 hn7 hn8 hnn
  have x1 := HX.out.at_ 19 (v := .slice (some ⟨b9 + 8, 0, none⟩) 2 2) rfl
  have y1 := HB9.out.f.at_ 1 (v := .slice (some ⟨b9 + 3, 0, none⟩) 3 3) rfl
  have s0 := HB9.out.s.at_ 0 (v := .slice (some ⟨b9, 0, none⟩) 1 1) rfl
  have z0 := HB9.out.s.frz 0
  as_aux_lemma =>
  go_upto_region 11 with fail
  have hf' : Fr0 w (W6.setCell ⟨b9 + 3, 0, none⟩ (.slice none 0 0)) := (HF.out.setCell (.inr (by have ho := HO.out; simp only; omega)) _)
  have hx' : Bx (W6.setCell ⟨b9 + 3, 0, none⟩ (.slice none 0 0)) gx 24 #[.int .i64 0, .slice none 0 0, .int .i64 6, .slice (some ⟨b1 + 8, 0, none⟩) 2 2, .int .i64 2, .slice (some ⟨b2 + 8, 0, none⟩) 2 2, .int .i64 3, .slice none 0 0, .int .i64 3, .slice (some ⟨b4 + 8, 0, none⟩) 2 2, .int .i64 3, .slice (some ⟨b5 + 8, 0, none⟩) 2 2, .int .i64 3, .slice (some ⟨b6 + 8, 0, none⟩) 2 2, .int .i64 3, .slice (some ⟨b7 + 8, 0, none⟩) 2 2, .int .i64 3, .slice (some ⟨b8 + 8, 0, none⟩) 2 2, .int .i64 3, .slice (some ⟨b9 + 8, 0, none⟩) 2 2] := (Bx.far HX.out (by have ho := HO.out; simp only; omega) _)
  have hb1 : BookP (W6.setCell ⟨b9 + 3, 0, none⟩ (.slice none 0 0)) b1 (bF b1) (bS b1) := (BookP.far HB1.out (by have ho := HO.out; simp only; omega) _)
  have hb2 : BookP (W6.setCell ⟨b9 + 3, 0, none⟩ (.slice none 0 0)) b2 (bF b2) (bS b2) := (BookP.far HB2.out (by have ho := HO.out; simp only; omega) _)
  have hb3 : BookP (W6.setCell ⟨b9 + 3, 0, none⟩ (.slice none 0 0)) b3 (bF b3) (bS b3) := (BookP.far HB3.out (by have ho := HO.out; simp only; omega) _)
  have hb4 : BookP (W6.setCell ⟨b9 + 3, 0, none⟩ (.slice none 0 0)) b4 #[.int .i64 33, .slice (some ⟨b4 + 3, 0, none⟩) 3 3, .int .i64 4, .slice (some ⟨b4 + 7, 0, none⟩) 3 3] (bS b4) := (BookP.far HB4.out (by have ho := HO.out; simp only; omega) _)
  have hb5 : BookP (W6.setCell ⟨b9 + 3, 0, none⟩ (.slice none 0 0)) b5 #[.int .i64 8, .slice (some ⟨b5 + 3, 0, none⟩) 3 3, .int .i64 1, .slice (some ⟨m2 + 1 + 1 + 1, 0, none⟩) 3 3] (bS b5) := (BookP.far HB5.out (by have ho := HO.out; simp only; omega) _)
  have hb6 : BookP (W6.setCell ⟨b9 + 3, 0, none⟩ (.slice none 0 0)) b6 (bF b6) #[.slice (some ⟨m3, 0, none⟩) 2 2, .slice (some ⟨b6 + 1, 0, none⟩) 2 2, .slice (some ⟨b6 + 2, 0, none⟩) 4 4] := (BookP.far HB6.out (by have ho := HO.out; simp only; omega) _)
  have hb7 : BookP (W6.setCell ⟨b9 + 3, 0, none⟩ (.slice none 0 0)) b7 (bF b7) #[.slice (some ⟨b7, 0, none⟩) 1 1, .slice (some ⟨m4, 0, none⟩) 2 2, .slice (some ⟨b7 + 2, 0, none⟩) 4 4] := (BookP.far HB7.out (by have ho := HO.out; simp only; omega) _)
  have hb8 : BookP (W6.setCell ⟨b9 + 3, 0, none⟩ (.slice none 0 0)) b8 (bF b8) #[.slice (some ⟨b8, 0, none⟩) 1 1, .slice (some ⟨b8 + 1, 0, none⟩) 2 2, .slice (some ⟨m5, 0, none⟩) 2 2] := (BookP.far HB8.out (by have ho := HO.out; simp only; omega) _)
  have hb9 : BookP (W6.setCell ⟨b9 + 3, 0, none⟩ (.slice none 0 0)) b9 (bF b9) #[.slice none 0 0, .slice (some ⟨b9 + 1, 0, none⟩) 2 2, .slice (some ⟨b9 + 2, 0, none⟩) 4 4] := (BookP.setS HB9.out 0 _)
  have hn5a : Bx (W6.setCell ⟨b9 + 3, 0, none⟩ (.slice none 0 0)) (m2) 3 #[.int .i64 0] := (Bx.far HN5a.out (by have ho := HO.out; have hn := HNNm2.out; simp only; omega) _)
  have hn5b : Bx (W6.setCell ⟨b9 + 3, 0, none⟩ (.slice none 0 0)) (m2 + 1) 3 #[.int .i64 0] := (Bx.far HN5b.out (by have ho := HO.out; have hn := HNNm2.out; simp only; omega) _)
  have hn5c : Bx (W6.setCell ⟨b9 + 3, 0, none⟩ (.slice none 0 0)) (m2 + 1 + 1) 3 #[.int .i64 0] := (Bx.far HN5c.out (by have ho := HO.out; have hn := HNNm2.out; simp only; omega) _)
  have hn5r : Bx (W6.setCell ⟨b9 + 3, 0, none⟩ (.slice none 0 0)) (m2 + 1 + 1 + 1) 26 #[.slice (some ⟨m2, 0, none⟩) 1 1, .slice (some ⟨m2 + 1, 0, none⟩) 1 1, .slice (some ⟨m2 + 1 + 1, 0, none⟩) 1 1] := (Bx.far HN5r.out (by have ho := HO.out; have hn := HNNm2.out; simp only; omega) _)
  have hn6 : Bx (W6.setCell ⟨b9 + 3, 0, none⟩ (.slice none 0 0)) (m3) 3 #[.int .i64 3, .int .i64 7] := (Bx.far HN6.out (by have ho := HO.out; have hn := HNNm3.out; simp only; omega) _)
  have hn7 : Bx (W6.setCell ⟨b9 + 3, 0, none⟩ (.slice none 0 0)) (m4) 3 #[.int .i64 7, .int .i64 3] := (Bx.far HN7.out (by have ho := HO.out; have hn := HNNm4.out; simp only; omega) _)
  have hn8 : Bx (W6.setCell ⟨b9 + 3, 0, none⟩ (.slice none 0 0)) (m5) 3 #[.int .i64 0, .int .i64 8] := (Bx.far HN8.out (by have ho := HO.out; have hn := HNNm5.out; simp only; omega) _)
  clear HF HX HB1 HB2 HB3 HB4 HB5 HB6 HB7 HB8 HB9 HN5a HN5b HN5c HN5r HN6 HN7 HN8 x1 y1 s0 z0
  generalize hW : (W6.setCell ⟨b9 + 3, 0, none⟩ (.slice none 0 0)) = W7 at *
  clear hW
  have HF := Lib.hid hf'
  have HX := Lib.hid hx'
  have HB1 := Lib.hid hb1
  have HB2 := Lib.hid hb2
  have HB3 := Lib.hid hb3
  have HB4 := Lib.hid hb4
  have HB5 := Lib.hid hb5
  have HB6 := Lib.hid hb6
  have HB7 := Lib.hid hb7
  have HB8 := Lib.hid hb8
  have HB9 := Lib.hid hb9
  have HN5a := Lib.hid hn5a
  have HN5b := Lib.hid hn5b
  have HN5c := Lib.hid hn5c
  have HN5r := Lib.hid hn5r
  have HN6 := Lib.hid hn6
  have HN7 := Lib.hid hn7
  have HN8 := Lib.hid hn8
  clear hf' hx' hb1 hb2 hb3 hb4 hb5 hb6 hb7 hb8 hb9 hn5a hn5b hn5c hn5r hn6 hn7 hn8
  have hg' := HG.out.fr HF.out
  have hbad : BadRow W7 ⟨gx, 0, none⟩ := fun n hn => match n, hn with
    | 0, _ => bad_at HX.out 0 (g := 0) (l := []) rfl rfl (Nat.le_refl _) (no_forms _) hg' (by kernel_rfl)
    | 1, _ => bad_at HX.out 1 (g := 6) (l := bookL) rfl rfl (Nat.le_refl _) (HB1.out.all) hg' (by kernel_rfl)
    | 2, _ => bad_at HX.out 2 (g := 2) (l := bookL) rfl rfl (Nat.le_refl _) (HB2.out.all) hg' (by kernel_rfl)
    | 3, _ => bad_at HX.out 3 (g := 3) (l := []) rfl rfl (Nat.le_refl _) (no_forms _) hg' (by kernel_rfl)
    | 4, _ => bad_at HX.out 4 (g := 3) (l := [⟨33, [[7], [3, 7], [0, 2, 4, 6]]⟩, ⟨4, [[3], [1], [0, 2]]⟩]) rfl rfl (Nat.le_refl _) (forms2 (r0 := [[7], [3, 7], [0, 2, 4, 6]]) (r1 := [[3], [1], [0, 2]]) HB4.out.f (Nat.le_refl _) (Nat.le_refl _) HB4.out.cs0 HB4.out.cs1) hg' (by kernel_rfl)
    | 5, _ => bad_at HX.out 5 (g := 3) (l := [⟨8, [[7], [3, 7], [0, 2, 4, 6]]⟩, ⟨1, [[0], [0], [0]]⟩]) rfl rfl (Nat.le_refl _) (forms2 (r0 := [[7], [3, 7], [0, 2, 4, 6]]) (r1 := [[0], [0], [0]]) HB5.out.f (Nat.le_refl _) (Nat.le_refl _) HB5.out.cs0 (rows3 (r0 := [0]) (r1 := [0]) (r2 := [0]) HN5r.out (Nat.le_refl _) (Nat.le_refl _) (Nat.le_refl _) (C_ints [0] HN5a.out rfl (by simp)) (C_ints [0] HN5b.out rfl (by simp)) (C_ints [0] HN5c.out rfl (by simp)))) hg' (by kernel_rfl)
    | 6, _ => bad_at HX.out 6 (g := 3) (l := [⟨8, [[3, 7], [3, 7], [0, 2, 4, 6]]⟩, ⟨4, [[3], [1], [0, 2]]⟩]) rfl rfl (Nat.le_refl _) (HB6.out.row (r0 := [3, 7]) (r1 := [3, 7]) (r2 := [0, 2, 4, 6]) rfl rfl rfl (C_ints [3, 7] HN6.out rfl (by simp)) HB6.out.c1 HB6.out.c2) hg' (by kernel_rfl)
    | 7, _ => bad_at HX.out 7 (g := 3) (l := [⟨8, [[7], [7, 3], [0, 2, 4, 6]]⟩, ⟨4, [[3], [1], [0, 2]]⟩]) rfl rfl (Nat.le_refl _) (HB7.out.row (r0 := [7]) (r1 := [7, 3]) (r2 := [0, 2, 4, 6]) rfl rfl rfl HB7.out.c0 (C_ints [7, 3] HN7.out rfl (by simp)) HB7.out.c2) hg' (by kernel_rfl)
    | 8, _ => bad_at HX.out 8 (g := 3) (l := [⟨8, [[7], [3, 7], [0, 8]]⟩, ⟨4, [[3], [1], [0, 2]]⟩]) rfl rfl (Nat.le_refl _) (HB8.out.row (r0 := [7]) (r1 := [3, 7]) (r2 := [0, 8]) rfl rfl rfl HB8.out.c0 HB8.out.c1 (C_ints [0, 8] HN8.out rfl (by simp))) hg' (by kernel_rfl)
    | 9, _ => bad_at HX.out 9 (g := 3) (l := [⟨8, [[], [3, 7], [0, 2, 4, 6]]⟩, ⟨4, [[3], [1], [0, 2]]⟩]) rfl rfl (Nat.le_refl _) (HB9.out.row (r0 := []) (r1 := [3, 7]) (r2 := [0, 2, 4, 6]) rfl rfl rfl (no_ints _) HB9.out.c1 HB9.out.c2) hg' (by kernel_rfl)
    | n + 10, h => absurd h (by omega)
  have HBAD := Lib.hid hbad
  have HG7 := Lib.hid hg'
  clear hbad hg' HX HO HB1 HB2 HB3 HB4 HB5 HB6 HB7 HB8 HB9 HN5a HN5b HN5c HN5r HN6 HN7 HN8 HNNm2 HNNm3 HNNm4 HNNm5
  generalize (⟨gx, 0, none⟩ : Addr) = adx at *
  go_wp2
  go_loopw [2] (fun v2 wr => ∃ n : Nat, n ≤ 10 ∧ v2 = .int .i64 n ∧ Fr0 W7 wr) (fun v2 _ => (10 - intOf v2).toNat)
  case atStart => exact ⟨0, by omega, by rfl, Fr.refl _ _⟩
  case round =>
    obtain ⟨n, hn, rfl, hfw⟩ := hrel
    by_cases hlt : n < 10
    · have hle : (n : Int) < 10 := by omega
      obtain ⟨g, A, c, l, x0, x1, hB, hb⟩ := HBAD.out.fr hfw n hlt
      have HBK := Lib.hid hB
      have HB0 := Lib.hid hb
      have HFW := Lib.hid hfw
      have HFc := Lib.hid (Fr.refl (fun _ => False) wr)
      clear hB hb hfw
      as_aux_lemma =>
      go_upto_region 17 with (first | (go_at_call 14; refine (e14 (HBK.out.fr (Fr0.trans HFc.out (by repeat (first | exact Fr.refl _ _ | apply Fr.drew | apply Fr.alloc)))) (-1) (-1) 50 (b14 HB0.out _ _)).mono ?_; rintro e W ⟨v14, rfl, hf⟩; (have x0 := hf.cell0 x0); (have x1 := hf.cell0 x1); (have HFc := Lib.hid (Fr0.trans (Fr0.trans HFc.out (by repeat (first | exact Fr.refl _ _ | apply Fr.drew | apply Fr.alloc))) hf)); clear hf) | (go_at_call 19; refine (e19 (HBK.out.fr (Fr0.trans HFc.out (by repeat (first | exact Fr.refl _ _ | apply Fr.drew | apply Fr.alloc)))) (-1) 0 0 0 50 (b19 HB0.out _ _ _)).mono ?_; rintro e W ⟨rfl, hf⟩; (have x0 := hf.cell0 x0); (have x1 := hf.cell0 x1); (have HFc := Lib.hid (Fr0.trans (Fr0.trans HFc.out (by repeat (first | exact Fr.refl _ _ | apply Fr.drew | apply Fr.alloc))) hf)); clear hf) | (go_at_call 21; refine (e21 (HBK.out.fr (Fr0.trans HFc.out (by repeat (first | exact Fr.refl _ _ | apply Fr.drew | apply Fr.alloc)))) (-1) 0 0 50 (b21 HB0.out _ _)).mono ?_; rintro e W ⟨rfl, hf⟩; (have x0 := hf.cell0 x0); (have x1 := hf.cell0 x1); (have HFc := Lib.hid (Fr0.trans (Fr0.trans HFc.out (by repeat (first | exact Fr.refl _ _ | apply Fr.drew | apply Fr.alloc))) hf)); clear hf))
      refine start_ (n := 11) (S := fun w' => w'.cell? (adx.add (n * 2)) = some (.int .i64 g) ∧ w'.cell? ⟨(adx.add (n * 2)).block, (adx.add (n * 2)).off + 1, none⟩ = some (.slice A l.length c)) (ds := []) #[false, false, false, false, false, false, false, false, false, false, false] (by kernel_rfl) rfl rfl ⟨x0, x1⟩ (fun hHeld => ?_)
      refine pure_ (i := 0) (N := some 158) (v := ?_) (a' := ?_) #[true, false, false, false, false, false, false, false, false, false, false] rfl rfl (by kernel_rfl) (fun _ _ _ h => h) (Or.inl ⟨by rfl, ?_⟩) ?_ ?_
      rotate_left
      · intro w'
        go_simp
        with_reducible rfl
      rotate_left
      · simp only [Act.put, List.setIfInBounds_toArray, List.set_cons_zero, List.set_cons_succ, i64_w, i32_w]
        rfl
      refine pure_ (i := 1) (N := some 159) (v := ?_) (a' := ?_) #[true, true, false, false, false, false, false, false, false, false, false] rfl rfl (by kernel_rfl) (fun _ _ _ h => h) (Or.inl ⟨by rfl, ?_⟩) ?_ ?_
      rotate_left
      · intro w'
        go_simp
        with_reducible rfl
      rotate_left
      · simp only [Act.put, List.setIfInBounds_toArray, List.set_cons_zero, List.set_cons_succ, i64_w, i32_w]
        rfl
      refine pure_ (i := 2) (N := some 160) (v := ?_) (a' := ?_) #[true, true, true, false, false, false, false, false, false, false, false] rfl rfl (by kernel_rfl) (fun _ _ _ h => h) (Or.inl ⟨by rfl, ?_⟩) ?_ ?_
      rotate_left
      · intro w'
        go_simp
        with_reducible rfl
      rotate_left
      · simp only [Act.put, List.setIfInBounds_toArray, List.set_cons_zero, List.set_cons_succ, i64_w, i32_w]
        rfl
      refine take_ (i := 3) (N := some 161) (v := ?_) (a' := ?_) #[true, true, true, true, false, false, false, false, false, false, false] rfl rfl (by kernel_rfl) (fun _ _ _ h => h) (Or.inl ⟨by rfl, ?_⟩) hHeld ?_ ?_
      rotate_left
      · rintro w' ⟨s0, s1⟩
        go_simp
        with_reducible rfl
      rotate_left
      · simp only [Act.put, List.setIfInBounds_toArray, List.set_cons_zero, List.set_cons_succ, i64_w, i32_w]
        rfl
      refine one_ (i := 4) (N := some 162) #[true, true, true, true, true, false, false, false, false, false, false] rfl rfl (by kernel_rfl) (by decide) (fun K hK => ?_)
      refine goes_ Tryd.func46 (by kernel_rfl) rfl #[.int .i64 (-1), .int .i64 0] (by rfl) rfl rfl (by simp only [List.map_toArray, List.map_cons, List.map_nil]; rfl) ?_
      with_reducible refine (at46 (-1) 0 _).mono ?_
      rintro e w4 ⟨rfl, hf4⟩
      refine ⟨_, rfl, ?_⟩
      have H4 := Lib.hid (Fr0.trans (Fr.drew (Fr.refl _ W)) hf4)
      refine hK.out _ _ ⟨(H4.out.cell0 x0), (H4.out.cell0 x1)⟩ (fun hHeld => ?_)
      clear hK K
      refine norm_ (a' := ?_) ?_ ?_
      rotate_left
      · show Act.put _ (some 162) _ = _
        simp only [Act.put, List.setIfInBounds_toArray, List.set_cons_zero, List.set_cons_succ, i64_w, i32_w]
        rfl
      refine one_ (i := 5) (N := some 163) #[true, true, true, true, true, true, false, false, false, false, false] rfl rfl (by kernel_rfl) (by decide) (fun K hK => ?_)
      refine goes_ Tryd.func24 (by kernel_rfl) rfl #[.agg #[.int .i64 g, .slice A l.length c], .agg #[.int .i64 (-1), .int .i64 0], .int .i64 0] (by rfl) rfl rfl (by simp only [List.map_toArray, List.map_cons, List.map_nil]; rfl) ?_
      with_reducible refine (e24 (HBK.out.fr (Fr0.trans HFc.out H4.out)) (-1) 0 0 50 (b24 HB0.out _ _ _)).mono ?_
      rintro e W5 ⟨v24, rfl, hf5⟩
      refine ⟨_, rfl, ?_⟩
      have H5 := Lib.hid (Fr0.trans H4.out hf5)
      refine hK.out _ _ ⟨(H5.out.cell0 x0), (H5.out.cell0 x1)⟩ (fun hHeld => ?_)
      clear hK K
      refine norm_ (a' := ?_) ?_ ?_
      rotate_left
      · show Act.put _ (some 163) _ = _
        simp only [Act.put, List.setIfInBounds_toArray, List.set_cons_zero, List.set_cons_succ, i64_w, i32_w]
        rfl
      refine pure_ (i := 6) (N := some 157) (v := ?_) (a' := ?_) #[true, true, true, true, true, true, true, false, false, false, false] rfl rfl (by kernel_rfl) (fun _ _ _ h => h) (Or.inl ⟨by rfl, ?_⟩) ?_ ?_
      rotate_left
      · intro w'
        go_simp
        with_reducible rfl
      rotate_left
      · simp only [Act.put, List.setIfInBounds_toArray, List.set_cons_zero, List.set_cons_succ, i64_w, i32_w]
        rfl
      refine pure_ (i := 7) (N := some 164) (v := ?_) (a' := ?_) #[true, true, true, true, true, true, true, true, false, false, false] rfl rfl (by kernel_rfl) (fun _ _ _ h => h) (Or.inl ⟨by rfl, ?_⟩) ?_ ?_
      rotate_left
      · intro w'
        go_simp
        with_reducible rfl
      rotate_left
      · simp only [Act.put, List.setIfInBounds_toArray, List.set_cons_zero, List.set_cons_succ, i64_w, i32_w]
        rfl
      refine pure_ (i := 8) (N := some 165) (v := ?_) (a' := ?_) #[true, true, true, true, true, true, true, true, true, false, false] rfl rfl (by kernel_rfl) (fun _ _ _ h => h) (Or.inl ⟨by rfl, ?_⟩) ?_ ?_
      rotate_left
      · intro w'
        go_simp
        with_reducible rfl
      rotate_left
      · simp only [Act.put, List.setIfInBounds_toArray, List.set_cons_zero, List.set_cons_succ, i64_w, i32_w]
        rfl
      refine pure_ (i := 9) (N := some 9) (v := ?_) (a' := ?_) #[true, true, true, true, true, true, true, true, true, true, false] rfl rfl (by kernel_rfl) (fun _ _ _ h => h) (Or.inl ⟨by rfl, ?_⟩) ?_ ?_
      rotate_left
      · intro w'
        go_simp
        with_reducible rfl
      rotate_left
      · simp only [Act.put, List.setIfInBounds_toArray, List.set_cons_zero, List.set_cons_succ, i64_w, i32_w]
        rfl
      refine pure_ (i := 10) (N := some 10) (v := ?_) (a' := ?_) #[true, true, true, true, true, true, true, true, true, true, true] rfl rfl (by kernel_rfl) (fun _ _ _ h => h) (Or.inl ⟨by rfl, ?_⟩) ?_ ?_
      rotate_left
      · intro w'
        go_simp
        with_reducible rfl
      rotate_left
      · simp only [Act.put, List.setIfInBounds_toArray, List.set_cons_zero, List.set_cons_succ, i64_w, i32_w]
        rfl
      refine done_ (by kernel_rfl) ?_
      have HFc := Lib.hid (Fr0.trans HFc.out H5.out)
      have x0 := H5.out.cell0 x0
      have x1 := H5.out.cell0 x1
      clear H4 H5
      generalize W5 = W at *
      as_aux_lemma =>
      go_upto_region 20 with (first | (go_at_call 27; refine (e27 (HBK.out.fr (Fr0.trans HFc.out (by repeat (first | exact Fr.refl _ _ | apply Fr.drew | apply Fr.alloc)))) [] (nil_rows _) (Nat.le_refl _) (-1) 50 (b27 HB0.out _ _)).mono ?_; rintro e W ⟨v27, rfl, hf⟩; (have x0 := hf.cell0 x0); (have x1 := hf.cell0 x1); (have HFc := Lib.hid (Fr0.trans (Fr0.trans HFc.out (by repeat (first | exact Fr.refl _ _ | apply Fr.drew | apply Fr.alloc))) hf)); clear hf) | (go_at_call 30; refine (e30 (HBK.out.fr (Fr0.trans HFc.out (by repeat (first | exact Fr.refl _ _ | apply Fr.drew | apply Fr.alloc)))) [] (nil_rows _) (Nat.le_refl _) 0 50 (b30 HB0.out _)).mono ?_; rintro e W ⟨rfl, hf⟩; (have x0 := hf.cell0 x0); (have x1 := hf.cell0 x1); (have HFc := Lib.hid (Fr0.trans (Fr0.trans HFc.out (by repeat (first | exact Fr.refl _ _ | apply Fr.drew | apply Fr.alloc))) hf)); clear hf))
      refine start_ (n := 11) (S := fun w' => w'.cell? (adx.add (n * 2)) = some (.int .i64 g) ∧ w'.cell? ⟨(adx.add (n * 2)).block, (adx.add (n * 2)).off + 1, none⟩ = some (.slice A l.length c)) (ds := []) #[false, false, false, false, false, false, false, false, false, false, false] (by kernel_rfl) rfl rfl ⟨x0, x1⟩ (fun hHeld => ?_)
      refine pure_ (i := 0) (N := some 183) (v := ?_) (a' := ?_) #[true, false, false, false, false, false, false, false, false, false, false] rfl rfl (by kernel_rfl) (fun _ _ _ h => h) (Or.inl ⟨by rfl, ?_⟩) ?_ ?_
      rotate_left
      · intro w'
        go_simp
        with_reducible rfl
      rotate_left
      · simp only [Act.put, List.setIfInBounds_toArray, List.set_cons_zero, List.set_cons_succ, i64_w, i32_w]
        rfl
      refine pure_ (i := 1) (N := some 184) (v := ?_) (a' := ?_) #[true, true, false, false, false, false, false, false, false, false, false] rfl rfl (by kernel_rfl) (fun _ _ _ h => h) (Or.inl ⟨by rfl, ?_⟩) ?_ ?_
      rotate_left
      · intro w'
        go_simp
        with_reducible rfl
      rotate_left
      · simp only [Act.put, List.setIfInBounds_toArray, List.set_cons_zero, List.set_cons_succ, i64_w, i32_w]
        rfl
      refine pure_ (i := 2) (N := some 185) (v := ?_) (a' := ?_) #[true, true, true, false, false, false, false, false, false, false, false] rfl rfl (by kernel_rfl) (fun _ _ _ h => h) (Or.inl ⟨by rfl, ?_⟩) ?_ ?_
      rotate_left
      · intro w'
        go_simp
        with_reducible rfl
      rotate_left
      · simp only [Act.put, List.setIfInBounds_toArray, List.set_cons_zero, List.set_cons_succ, i64_w, i32_w]
        rfl
      refine take_ (i := 3) (N := some 186) (v := ?_) (a' := ?_) #[true, true, true, true, false, false, false, false, false, false, false] rfl rfl (by kernel_rfl) (fun _ _ _ h => h) (Or.inl ⟨by rfl, ?_⟩) hHeld ?_ ?_
      rotate_left
      · rintro w' ⟨s0, s1⟩
        go_simp
        with_reducible rfl
      rotate_left
      · simp only [Act.put, List.setIfInBounds_toArray, List.set_cons_zero, List.set_cons_succ, i64_w, i32_w]
        rfl
      refine one_ (i := 4) (N := some 187) #[true, true, true, true, true, false, false, false, false, false, false] rfl rfl (by kernel_rfl) (by decide) (fun K hK => ?_)
      refine goes_ Tryd.func46 (by kernel_rfl) rfl #[.int .i64 (-1), .int .i64 0] (by rfl) rfl rfl (by simp only [List.map_toArray, List.map_cons, List.map_nil]; rfl) ?_
      with_reducible refine (at46 (-1) 0 _).mono ?_
      rintro e w4 ⟨rfl, hf4⟩
      refine ⟨_, rfl, ?_⟩
      have H4 := Lib.hid (Fr0.trans (Fr.drew (Fr.refl _ W)) hf4)
      refine hK.out _ _ ⟨(H4.out.cell0 x0), (H4.out.cell0 x1)⟩ (fun hHeld => ?_)
      clear hK K
      refine norm_ (a' := ?_) ?_ ?_
      rotate_left
      · show Act.put _ (some 187) _ = _
        simp only [Act.put, List.setIfInBounds_toArray, List.set_cons_zero, List.set_cons_succ, i64_w, i32_w]
        rfl
      refine one_ (i := 5) (N := some 188) #[true, true, true, true, true, true, false, false, false, false, false] rfl rfl (by kernel_rfl) (by decide) (fun K hK => ?_)
      refine goes_ Tryd.func32 (by kernel_rfl) rfl #[.agg #[.int .i64 g, .slice A l.length c], .agg #[.int .i64 (-1), .int .i64 0], .slice none 0 0] (by rfl) rfl rfl (by simp only [List.map_toArray, List.map_cons, List.map_nil]; rfl) ?_
      with_reducible refine (e32n (HBK.out.fr (Fr0.trans HFc.out H4.out)) (-1) 0 50 (b32 HB0.out _ _ _)).mono ?_
      rintro e W5 ⟨v32, rfl, hf5⟩
      refine ⟨_, rfl, ?_⟩
      have H5 := Lib.hid (Fr0.trans H4.out hf5)
      refine hK.out _ _ ⟨(H5.out.cell0 x0), (H5.out.cell0 x1)⟩ (fun hHeld => ?_)
      clear hK K
      refine norm_ (a' := ?_) ?_ ?_
      rotate_left
      · show Act.put _ (some 188) _ = _
        simp only [Act.put, List.setIfInBounds_toArray, List.set_cons_zero, List.set_cons_succ, i64_w, i32_w]
        rfl
      refine pure_ (i := 6) (N := some 182) (v := ?_) (a' := ?_) #[true, true, true, true, true, true, true, false, false, false, false] rfl rfl (by kernel_rfl) (fun _ _ _ h => h) (Or.inl ⟨by rfl, ?_⟩) ?_ ?_
      rotate_left
      · intro w'
        go_simp
        with_reducible rfl
      rotate_left
      · simp only [Act.put, List.setIfInBounds_toArray, List.set_cons_zero, List.set_cons_succ, i64_w, i32_w]
        rfl
      refine pure_ (i := 7) (N := some 189) (v := ?_) (a' := ?_) #[true, true, true, true, true, true, true, true, false, false, false] rfl rfl (by kernel_rfl) (fun _ _ _ h => h) (Or.inl ⟨by rfl, ?_⟩) ?_ ?_
      rotate_left
      · intro w'
        go_simp
        with_reducible rfl
      rotate_left
      · simp only [Act.put, List.setIfInBounds_toArray, List.set_cons_zero, List.set_cons_succ, i64_w, i32_w]
        rfl
      refine pure_ (i := 8) (N := some 190) (v := ?_) (a' := ?_) #[true, true, true, true, true, true, true, true, true, false, false] rfl rfl (by kernel_rfl) (fun _ _ _ h => h) (Or.inl ⟨by rfl, ?_⟩) ?_ ?_
      rotate_left
      · intro w'
        go_simp
        with_reducible rfl
      rotate_left
      · simp only [Act.put, List.setIfInBounds_toArray, List.set_cons_zero, List.set_cons_succ, i64_w, i32_w]
        rfl
      refine pure_ (i := 9) (N := some 15) (v := ?_) (a' := ?_) #[true, true, true, true, true, true, true, true, true, true, false] rfl rfl (by kernel_rfl) (fun _ _ _ h => h) (Or.inl ⟨by rfl, ?_⟩) ?_ ?_
      rotate_left
      · intro w'
        go_simp
        with_reducible rfl
      rotate_left
      · simp only [Act.put, List.setIfInBounds_toArray, List.set_cons_zero, List.set_cons_succ, i64_w, i32_w]
        rfl
      refine pure_ (i := 10) (N := some 16) (v := ?_) (a' := ?_) #[true, true, true, true, true, true, true, true, true, true, true] rfl rfl (by kernel_rfl) (fun _ _ _ h => h) (Or.inl ⟨by rfl, ?_⟩) ?_ ?_
      rotate_left
      · intro w'
        go_simp
        with_reducible rfl
      rotate_left
      · simp only [Act.put, List.setIfInBounds_toArray, List.set_cons_zero, List.set_cons_succ, i64_w, i32_w]
        rfl
      refine done_ (by kernel_rfl) ?_
      have HFc := Lib.hid (Fr0.trans HFc.out H5.out)
      have x0 := H5.out.cell0 x0
      have x1 := H5.out.cell0 x1
      clear H4 H5
      generalize W5 = W at *
      as_aux_lemma =>
      go_upto_region 22 with (first | (go_at_call 35; refine (e35 (HBK.out.fr (Fr0.trans HFc.out (by repeat (first | exact Fr.refl _ _ | apply Fr.drew | apply Fr.alloc)))) (-1) 0 50 (b35 HB0.out _ _)).mono ?_; rintro e W ⟨s0, s1, t0, t1, rfl, hf⟩; (have x0 := hf.cell0 x0); (have x1 := hf.cell0 x1); (have HFc := Lib.hid (Fr0.trans (Fr0.trans HFc.out (by repeat (first | exact Fr.refl _ _ | apply Fr.drew | apply Fr.alloc))) hf)); clear hf))
      have hfa : Fr0 W ((W.alloc (.cells #[.int .i64 s0, .int .i64 s1] 38)).alloc (.cells #[.int .i64 t0, .int .i64 t1] 38)) := ((Fr.refl _ _).alloc _).alloc _
      have x0 := hfa.cell0 x0
      have x1 := hfa.cell0 x1
      have HFc := Lib.hid (Fr0.trans HFc.out hfa)
      clear hfa
      generalize ((W.alloc (.cells #[.int .i64 s0, .int .i64 s1] 38)).alloc (.cells #[.int .i64 t0, .int .i64 t1] 38)) = W at *
      go_wp2_with (first | (go_at_call 37; refine (e37 (HBK.out.fr (Fr0.trans HFc.out (by repeat (first | exact Fr.refl _ _ | apply Fr.drew | apply Fr.alloc)))) (-1) 0 50 (b37 HB0.out _)).mono ?_; rintro e W ⟨rfl, hf⟩; (have x0 := hf.cell0 x0); (have x1 := hf.cell0 x1); (have HFc := Lib.hid (Fr0.trans (Fr0.trans HFc.out (by repeat (first | exact Fr.refl _ _ | apply Fr.drew | apply Fr.alloc))) hf)); clear hf) | (go_at_call 17; refine (e17 (HBK.out.fr (Fr0.trans HFc.out (by repeat (first | exact Fr.refl _ _ | apply Fr.drew | apply Fr.alloc)))) (b17 HB0.out)).mono ?_; rintro e W ⟨rfl, hf⟩; (have x0 := hf.cell0 x0); (have x1 := hf.cell0 x1); (have HFc := Lib.hid (Fr0.trans (Fr0.trans HFc.out (by repeat (first | exact Fr.refl _ _ | apply Fr.drew | apply Fr.alloc))) hf)); clear hf))
      go_roundw
      case rel => exact ⟨n + 1, by omega, by go_num, Fr0.trans HFW.out HFc.out⟩
      case measure => simp [intOf]; omega
    · have hle : ¬ (n : Int) < 10 := by omega
      have HGq := Lib.hid (HG7.out.fr hfw)
      have HF := Lib.hid (Fr0.trans HF.out hfw)
      clear hfw
      as_aux_lemma =>
      go_upto_region 26 with (first
        | (go_at_call 50; refine (mk_book _ ?hg).mono ?_; (case hg => exact HGq.out.fr (by repeat (first | exact Fr.refl _ _ | apply Fr.drew | apply Fr.alloc))); rintro e W ⟨A0, c0, rfl, hBk, hf⟩; (have HF := Lib.hid (Fr0.trans (Fr0.trans HF.out (by repeat (first | exact Fr.refl _ _ | apply Fr.drew | apply Fr.alloc))) hf)); (have HGq := Lib.hid (HGq.out.fr (Fr0.trans (by repeat (first | exact Fr.refl _ _ | apply Fr.drew | apply Fr.alloc)) hf))); (have HBK := Lib.hid hBk); clear hBk; clear hf)
        | (go_at_call 14; refine (e14 (HBK.out.fr (by repeat (first | exact Fr.refl _ _ | apply Fr.drew | apply Fr.alloc))) 2 0 51 a14a).mono ?_; rintro e W ⟨q14a, rfl, hf⟩; (have HF := Lib.hid (Fr0.trans (Fr0.trans HF.out (by repeat (first | exact Fr.refl _ _ | apply Fr.drew | apply Fr.alloc))) hf)); (have HGq := Lib.hid (HGq.out.fr (Fr0.trans (by repeat (first | exact Fr.refl _ _ | apply Fr.drew | apply Fr.alloc)) hf))); clear hf))
      as_aux_lemma =>
      go_upto_region 27 with (first
        | (go_at_call 50; refine (mk_book _ ?hg).mono ?_; (case hg => exact HGq.out.fr (by repeat (first | exact Fr.refl _ _ | apply Fr.drew | apply Fr.alloc))); rintro e W ⟨A0, c0, rfl, hBk, hf⟩; (have HF := Lib.hid (Fr0.trans (Fr0.trans HF.out (by repeat (first | exact Fr.refl _ _ | apply Fr.drew | apply Fr.alloc))) hf)); (have HGq := Lib.hid (HGq.out.fr (Fr0.trans (by repeat (first | exact Fr.refl _ _ | apply Fr.drew | apply Fr.alloc)) hf))); (have HBK := Lib.hid hBk); clear hBk; clear hf)
        | (go_at_call 14; refine (e14 (HBK.out.fr (by repeat (first | exact Fr.refl _ _ | apply Fr.drew | apply Fr.alloc))) 0 100001 51 a14b).mono ?_; rintro e W ⟨q14b, rfl, hf⟩; (have HF := Lib.hid (Fr0.trans (Fr0.trans HF.out (by repeat (first | exact Fr.refl _ _ | apply Fr.drew | apply Fr.alloc))) hf)); (have HGq := Lib.hid (HGq.out.fr (Fr0.trans (by repeat (first | exact Fr.refl _ _ | apply Fr.drew | apply Fr.alloc)) hf))); clear hf))
      as_aux_lemma =>
      go_upto_region 29 with (first
        | (go_at_call 50; refine (mk_book _ ?hg).mono ?_; (case hg => exact HGq.out.fr (by repeat (first | exact Fr.refl _ _ | apply Fr.drew | apply Fr.alloc))); rintro e W ⟨A0, c0, rfl, hBk, hf⟩; (have HF := Lib.hid (Fr0.trans (Fr0.trans HF.out (by repeat (first | exact Fr.refl _ _ | apply Fr.drew | apply Fr.alloc))) hf)); (have HGq := Lib.hid (HGq.out.fr (Fr0.trans (by repeat (first | exact Fr.refl _ _ | apply Fr.drew | apply Fr.alloc)) hf))); (have HBK := Lib.hid hBk); clear hBk; clear hf)
        | (go_at_call 19; refine (e19 (HBK.out.fr (by repeat (first | exact Fr.refl _ _ | apply Fr.drew | apply Fr.alloc))) 0 3 0 0 51 a19).mono ?_; rintro e W ⟨rfl, hf⟩; (have HF := Lib.hid (Fr0.trans (Fr0.trans HF.out (by repeat (first | exact Fr.refl _ _ | apply Fr.drew | apply Fr.alloc))) hf)); (have HGq := Lib.hid (HGq.out.fr (Fr0.trans (by repeat (first | exact Fr.refl _ _ | apply Fr.drew | apply Fr.alloc)) hf))); clear hf)
        | (go_at_call 21; refine (e21 (HBK.out.fr (by repeat (first | exact Fr.refl _ _ | apply Fr.drew | apply Fr.alloc))) 0 (-1) 0 51 a21).mono ?_; rintro e W ⟨rfl, hf⟩; (have HF := Lib.hid (Fr0.trans (Fr0.trans HF.out (by repeat (first | exact Fr.refl _ _ | apply Fr.drew | apply Fr.alloc))) hf)); (have HGq := Lib.hid (HGq.out.fr (Fr0.trans (by repeat (first | exact Fr.refl _ _ | apply Fr.drew | apply Fr.alloc)) hf))); clear hf))
      as_aux_lemma =>
      go_upto_region 30 with (first
        | (go_at_call 50; refine (mk_book _ ?hg).mono ?_; (case hg => exact HGq.out.fr (by repeat (first | exact Fr.refl _ _ | apply Fr.drew | apply Fr.alloc))); rintro e W ⟨A0, c0, rfl, hBk, hf⟩; (have HF := Lib.hid (Fr0.trans (Fr0.trans HF.out (by repeat (first | exact Fr.refl _ _ | apply Fr.drew | apply Fr.alloc))) hf)); (have HGq := Lib.hid (HGq.out.fr (Fr0.trans (by repeat (first | exact Fr.refl _ _ | apply Fr.drew | apply Fr.alloc)) hf))); (have HBK := Lib.hid hBk); clear hBk; clear hf)
        | (go_at_call 46; refine (at46 _ _ _).mono ?_; rintro e W ⟨rfl, hf⟩; (have HF := Lib.hid (Fr0.trans (Fr0.trans HF.out (by repeat (first | exact Fr.refl _ _ | apply Fr.drew | apply Fr.alloc))) hf)); (have HGq := Lib.hid (HGq.out.fr (Fr0.trans (by repeat (first | exact Fr.refl _ _ | apply Fr.drew | apply Fr.alloc)) hf))); (try have HBK := Lib.hid (HBK.out.fr (Fr0.trans (by repeat (first | exact Fr.refl _ _ | apply Fr.drew | apply Fr.alloc)) hf))); clear hf)
        | (go_at_call 24; refine (e24 (HBK.out.fr (by repeat (first | exact Fr.refl _ _ | apply Fr.drew | apply Fr.alloc))) 1 4 1 51 a24a).mono ?_; rintro e W ⟨q24a, rfl, hf⟩; (have HF := Lib.hid (Fr0.trans (Fr0.trans HF.out (by repeat (first | exact Fr.refl _ _ | apply Fr.drew | apply Fr.alloc))) hf)); (have HGq := Lib.hid (HGq.out.fr (Fr0.trans (by repeat (first | exact Fr.refl _ _ | apply Fr.drew | apply Fr.alloc)) hf))); clear hf))
      as_aux_lemma =>
      go_upto_region 31 with (first
        | (go_at_call 50; refine (mk_book _ ?hg).mono ?_; (case hg => exact HGq.out.fr (by repeat (first | exact Fr.refl _ _ | apply Fr.drew | apply Fr.alloc))); rintro e W ⟨A0, c0, rfl, hBk, hf⟩; (have HF := Lib.hid (Fr0.trans (Fr0.trans HF.out (by repeat (first | exact Fr.refl _ _ | apply Fr.drew | apply Fr.alloc))) hf)); (have HGq := Lib.hid (HGq.out.fr (Fr0.trans (by repeat (first | exact Fr.refl _ _ | apply Fr.drew | apply Fr.alloc)) hf))); (have HBK := Lib.hid hBk); clear hBk; clear hf)
        | (go_at_call 46; refine (at46 _ _ _).mono ?_; rintro e W ⟨rfl, hf⟩; (have HF := Lib.hid (Fr0.trans (Fr0.trans HF.out (by repeat (first | exact Fr.refl _ _ | apply Fr.drew | apply Fr.alloc))) hf)); (have HGq := Lib.hid (HGq.out.fr (Fr0.trans (by repeat (first | exact Fr.refl _ _ | apply Fr.drew | apply Fr.alloc)) hf))); (try have HBK := Lib.hid (HBK.out.fr (Fr0.trans (by repeat (first | exact Fr.refl _ _ | apply Fr.drew | apply Fr.alloc)) hf))); clear hf)
        | (go_at_call 24; refine (e24 (HBK.out.fr (by repeat (first | exact Fr.refl _ _ | apply Fr.drew | apply Fr.alloc))) 0 0 65 51 a24b).mono ?_; rintro e W ⟨q24b, rfl, hf⟩; (have HF := Lib.hid (Fr0.trans (Fr0.trans HF.out (by repeat (first | exact Fr.refl _ _ | apply Fr.drew | apply Fr.alloc))) hf)); (have HGq := Lib.hid (HGq.out.fr (Fr0.trans (by repeat (first | exact Fr.refl _ _ | apply Fr.drew | apply Fr.alloc)) hf))); clear hf))
      as_aux_lemma =>
      go_upto_region 32 with (first
        | (go_at_call 50; refine (mk_book _ ?hg).mono ?_; (case hg => exact HGq.out.fr (by repeat (first | exact Fr.refl _ _ | apply Fr.drew | apply Fr.alloc))); rintro e W ⟨A0, c0, rfl, hBk, hf⟩; (have HF := Lib.hid (Fr0.trans (Fr0.trans HF.out (by repeat (first | exact Fr.refl _ _ | apply Fr.drew | apply Fr.alloc))) hf)); (have HGq := Lib.hid (HGq.out.fr (Fr0.trans (by repeat (first | exact Fr.refl _ _ | apply Fr.drew | apply Fr.alloc)) hf))); (have HBK := Lib.hid hBk); clear hBk; clear hf)
        | (go_at_call 51; refine (mk_some _).mono ?_; rintro e W ⟨As, cs, rfl, hSo, hcs, hf⟩; (have HF := Lib.hid (Fr0.trans (Fr0.trans HF.out (by repeat (first | exact Fr.refl _ _ | apply Fr.drew | apply Fr.alloc))) hf)); (have HGq := Lib.hid (HGq.out.fr (Fr0.trans (by repeat (first | exact Fr.refl _ _ | apply Fr.drew | apply Fr.alloc)) hf))); (try have HBK := Lib.hid (HBK.out.fr (Fr0.trans (by repeat (first | exact Fr.refl _ _ | apply Fr.drew | apply Fr.alloc)) hf))); (have HSO := Lib.hid hSo); clear hSo; clear hf)
        | (go_at_call 27; refine (e27 (HBK.out.fr (by repeat (first | exact Fr.refl _ _ | apply Fr.drew | apply Fr.alloc))) someL (C_fr HSO.out (by repeat (first | exact Fr.refl _ _ | apply Fr.drew | apply Fr.alloc))) hcs 7 51 a27a).mono ?_; rintro e W ⟨q27a, rfl, hf⟩; (have HF := Lib.hid (Fr0.trans (Fr0.trans HF.out (by repeat (first | exact Fr.refl _ _ | apply Fr.drew | apply Fr.alloc))) hf)); (have HGq := Lib.hid (HGq.out.fr (Fr0.trans (by repeat (first | exact Fr.refl _ _ | apply Fr.drew | apply Fr.alloc)) hf))); clear hf))
      as_aux_lemma =>
      go_upto_region 33 with (first
        | (go_at_call 50; refine (mk_book _ ?hg).mono ?_; (case hg => exact HGq.out.fr (by repeat (first | exact Fr.refl _ _ | apply Fr.drew | apply Fr.alloc))); rintro e W ⟨A0, c0, rfl, hBk, hf⟩; (have HF := Lib.hid (Fr0.trans (Fr0.trans HF.out (by repeat (first | exact Fr.refl _ _ | apply Fr.drew | apply Fr.alloc))) hf)); (have HGq := Lib.hid (HGq.out.fr (Fr0.trans (by repeat (first | exact Fr.refl _ _ | apply Fr.drew | apply Fr.alloc)) hf))); (have HBK := Lib.hid hBk); clear hBk; clear hf)
        | (go_at_call 27; refine (e27 (HBK.out.fr (by repeat (first | exact Fr.refl _ _ | apply Fr.drew | apply Fr.alloc))) [[2, 2]] (r22 _) (Nat.le_refl 1) 0 51 a27b).mono ?_; rintro e W ⟨q27b, rfl, hf⟩; (have HF := Lib.hid (Fr0.trans (Fr0.trans HF.out (by repeat (first | exact Fr.refl _ _ | apply Fr.drew | apply Fr.alloc))) hf)); (have HGq := Lib.hid (HGq.out.fr (Fr0.trans (by repeat (first | exact Fr.refl _ _ | apply Fr.drew | apply Fr.alloc)) hf))); clear hf))
      as_aux_lemma =>
      go_upto_region 35 with (first
        | (go_at_call 50; refine (mk_book _ ?hg).mono ?_; (case hg => exact HGq.out.fr (by repeat (first | exact Fr.refl _ _ | apply Fr.drew | apply Fr.alloc))); rintro e W ⟨A0, c0, rfl, hBk, hf⟩; (have HF := Lib.hid (Fr0.trans (Fr0.trans HF.out (by repeat (first | exact Fr.refl _ _ | apply Fr.drew | apply Fr.alloc))) hf)); (have HGq := Lib.hid (HGq.out.fr (Fr0.trans (by repeat (first | exact Fr.refl _ _ | apply Fr.drew | apply Fr.alloc)) hf))); (have HBK := Lib.hid hBk); clear hBk; clear hf)
        | (go_at_call 51; refine (mk_some _).mono ?_; rintro e W ⟨As, cs, rfl, hSo, hcs, hf⟩; (have HF := Lib.hid (Fr0.trans (Fr0.trans HF.out (by repeat (first | exact Fr.refl _ _ | apply Fr.drew | apply Fr.alloc))) hf)); (have HGq := Lib.hid (HGq.out.fr (Fr0.trans (by repeat (first | exact Fr.refl _ _ | apply Fr.drew | apply Fr.alloc)) hf))); (try have HBK := Lib.hid (HBK.out.fr (Fr0.trans (by repeat (first | exact Fr.refl _ _ | apply Fr.drew | apply Fr.alloc)) hf))); (have HSO := Lib.hid hSo); clear hSo; clear hf)
        | (go_at_call 46; refine (at46 _ _ _).mono ?_; rintro e W ⟨rfl, hf⟩; (have HF := Lib.hid (Fr0.trans (Fr0.trans HF.out (by repeat (first | exact Fr.refl _ _ | apply Fr.drew | apply Fr.alloc))) hf)); (have HGq := Lib.hid (HGq.out.fr (Fr0.trans (by repeat (first | exact Fr.refl _ _ | apply Fr.drew | apply Fr.alloc)) hf))); (try have HBK := Lib.hid (HBK.out.fr (Fr0.trans (by repeat (first | exact Fr.refl _ _ | apply Fr.drew | apply Fr.alloc)) hf))); clear hf)
        | (go_at_call 30; refine (e30 (HBK.out.fr (by repeat (first | exact Fr.refl _ _ | apply Fr.drew | apply Fr.alloc))) [[3]] (r3 _) (Nat.le_refl 1) 0 51 a30).mono ?_; rintro e W ⟨rfl, hf⟩; (have HF := Lib.hid (Fr0.trans (Fr0.trans HF.out (by repeat (first | exact Fr.refl _ _ | apply Fr.drew | apply Fr.alloc))) hf)); (have HGq := Lib.hid (HGq.out.fr (Fr0.trans (by repeat (first | exact Fr.refl _ _ | apply Fr.drew | apply Fr.alloc)) hf))); clear hf)
        | (go_at_call 32; refine (e32 (HBK.out.fr (by repeat (first | exact Fr.refl _ _ | apply Fr.drew | apply Fr.alloc))) 0 8 someL (C_fr HSO.out (by repeat (first | exact Fr.refl _ _ | apply Fr.drew | apply Fr.alloc))) hcs 51 a32).mono ?_; rintro e W ⟨q32, rfl, hf⟩; (have HF := Lib.hid (Fr0.trans (Fr0.trans HF.out (by repeat (first | exact Fr.refl _ _ | apply Fr.drew | apply Fr.alloc))) hf)); (have HGq := Lib.hid (HGq.out.fr (Fr0.trans (by repeat (first | exact Fr.refl _ _ | apply Fr.drew | apply Fr.alloc)) hf))); clear hf))
      as_aux_lemma =>
      go_upto_region 39 with (first
        | (go_at_call 50; refine (mk_book _ ?hg).mono ?_; (case hg => exact HGq.out.fr (by repeat (first | exact Fr.refl _ _ | apply Fr.drew | apply Fr.alloc))); rintro e W ⟨A0, c0, rfl, hBk, hf⟩; (have HF := Lib.hid (Fr0.trans (Fr0.trans HF.out (by repeat (first | exact Fr.refl _ _ | apply Fr.drew | apply Fr.alloc))) hf)); (have HGq := Lib.hid (HGq.out.fr (Fr0.trans (by repeat (first | exact Fr.refl _ _ | apply Fr.drew | apply Fr.alloc)) hf))); (have HBK := Lib.hid hBk); clear hBk; clear hf)
        | (go_at_call 35; refine (e35 (HBK.out.fr (by repeat (first | exact Fr.refl _ _ | apply Fr.drew | apply Fr.alloc))) 0 0 51 a35).mono ?_; rintro e W ⟨j0, j1, j2, j3, rfl, hf⟩; (have HF := Lib.hid (Fr0.trans (Fr0.trans HF.out (by repeat (first | exact Fr.refl _ _ | apply Fr.drew | apply Fr.alloc))) hf)); (have HGq := Lib.hid (HGq.out.fr (Fr0.trans (by repeat (first | exact Fr.refl _ _ | apply Fr.drew | apply Fr.alloc)) hf))); clear hf)
        | (go_at_call 37; refine (e37 (HBK.out.fr (by repeat (first | exact Fr.refl _ _ | apply Fr.drew | apply Fr.alloc))) 7 0 51 a37).mono ?_; rintro e W ⟨rfl, hf⟩; (have HF := Lib.hid (Fr0.trans (Fr0.trans HF.out (by repeat (first | exact Fr.refl _ _ | apply Fr.drew | apply Fr.alloc))) hf)); (have HGq := Lib.hid (HGq.out.fr (Fr0.trans (by repeat (first | exact Fr.refl _ _ | apply Fr.drew | apply Fr.alloc)) hf))); clear hf))
      as_aux_lemma =>
      go_upto_region 40 with fail
      have hfo : Fr0 W ((((((W.alloc (.cells #[.int .i64 4] 3)).alloc (.cells #[] 3)).alloc (.cells #[.int .i64 0, .int .i64 1, .int .i64 3] 3)).alloc (.cells #[.slice (some ⟨W.heap.size, 0, none⟩) 1 1, .slice (some ⟨W.heap.size + 1, 0, none⟩) 0 0, .slice (some ⟨W.heap.size + 1 + 1, 0, none⟩) 3 3] 26)).alloc (.cells #[.int .i64 5, .slice (some ⟨W.heap.size + 1 + 1 + 1, 0, none⟩) 3 3] 63)).alloc (.cells #[.int .i64 3, .slice (some ⟨W.heap.size + 1 + 1 + 1 + 1, 0, none⟩) 1 1] 24)) := (((((((Fr.refl _ _).alloc _).alloc _).alloc _).alloc _).alloc _).alloc _)
      have hob : Book ((((((W.alloc (.cells #[.int .i64 4] 3)).alloc (.cells #[] 3)).alloc (.cells #[.int .i64 0, .int .i64 1, .int .i64 3] 3)).alloc (.cells #[.slice (some ⟨W.heap.size, 0, none⟩) 1 1, .slice (some ⟨W.heap.size + 1, 0, none⟩) 0 0, .slice (some ⟨W.heap.size + 1 + 1, 0, none⟩) 3 3] 26)).alloc (.cells #[.int .i64 5, .slice (some ⟨W.heap.size + 1 + 1 + 1, 0, none⟩) 3 3] 63)).alloc (.cells #[.int .i64 3, .slice (some ⟨W.heap.size + 1 + 1 + 1 + 1, 0, none⟩) 1 1] 24)) (some ⟨W.heap.size + 1 + 1 + 1 + 1, 0, none⟩) 1 oddL := ⟨C_fr (odd_book W) ((Fr.refl _ _).alloc _), Nat.le_refl 1, HGq.out.fr hfo⟩
      have q0 : (((((((W.alloc (.cells #[.int .i64 4] 3)).alloc (.cells #[] 3)).alloc (.cells #[.int .i64 0, .int .i64 1, .int .i64 3] 3)).alloc (.cells #[.slice (some ⟨W.heap.size, 0, none⟩) 1 1, .slice (some ⟨W.heap.size + 1, 0, none⟩) 0 0, .slice (some ⟨W.heap.size + 1 + 1, 0, none⟩) 3 3] 26)).alloc (.cells #[.int .i64 5, .slice (some ⟨W.heap.size + 1 + 1 + 1, 0, none⟩) 3 3] 63)).alloc (.cells #[.int .i64 3, .slice (some ⟨W.heap.size + 1 + 1 + 1 + 1, 0, none⟩) 1 1] 24))).cell? ⟨W.heap.size + 1 + 1 + 1 + 1 + 1, 0, none⟩ = some (.int .i64 3) := (Bx.of_new (by simp)).at_ 0 rfl
      have q1 : (((((((W.alloc (.cells #[.int .i64 4] 3)).alloc (.cells #[] 3)).alloc (.cells #[.int .i64 0, .int .i64 1, .int .i64 3] 3)).alloc (.cells #[.slice (some ⟨W.heap.size, 0, none⟩) 1 1, .slice (some ⟨W.heap.size + 1, 0, none⟩) 0 0, .slice (some ⟨W.heap.size + 1 + 1, 0, none⟩) 3 3] 26)).alloc (.cells #[.int .i64 5, .slice (some ⟨W.heap.size + 1 + 1 + 1, 0, none⟩) 3 3] 63)).alloc (.cells #[.int .i64 3, .slice (some ⟨W.heap.size + 1 + 1 + 1 + 1, 0, none⟩) 1 1] 24))).cell? ⟨W.heap.size + 1 + 1 + 1 + 1 + 1, 1, none⟩ = some (.slice (some ⟨W.heap.size + 1 + 1 + 1 + 1, 0, none⟩) 1 1) := (Bx.of_new (by simp)).at_ 1 rfl
      have HF := Lib.hid (Fr0.trans HF.out hfo)
      have HGq := Lib.hid (HGq.out.fr hfo)
      have HOD := Lib.hid hob
      clear hfo hob
      generalize W.heap.size = go at *
      generalize ((((((W.alloc (.cells #[.int .i64 4] 3)).alloc (.cells #[] 3)).alloc (.cells #[.int .i64 0, .int .i64 1, .int .i64 3] 3)).alloc (.cells #[.slice (some ⟨go, 0, none⟩) 1 1, .slice (some ⟨go + 1, 0, none⟩) 0 0, .slice (some ⟨go + 1 + 1, 0, none⟩) 3 3] 26)).alloc (.cells #[.int .i64 5, .slice (some ⟨go + 1 + 1 + 1, 0, none⟩) 3 3] 63)).alloc (.cells #[.int .i64 3, .slice (some ⟨go + 1 + 1 + 1 + 1, 0, none⟩) 1 1] 24)) = W at *
      as_aux_lemma =>
      go_upto_region 42 with (first
        | (go_at_call 19; refine (e19 (HOD.out.fr (by repeat (first | exact Fr.refl _ _ | apply Fr.drew | apply Fr.alloc))) 0 1 0 0 4 n19).mono ?_; rintro e W ⟨rfl, hf⟩; (have HF := Lib.hid (Fr0.trans (Fr0.trans HF.out (by repeat (first | exact Fr.refl _ _ | apply Fr.drew | apply Fr.alloc))) hf)); (have HGq := Lib.hid (HGq.out.fr (Fr0.trans (by repeat (first | exact Fr.refl _ _ | apply Fr.drew | apply Fr.alloc)) hf))); (have HOD := Lib.hid (HOD.out.fr (Fr0.trans (by repeat (first | exact Fr.refl _ _ | apply Fr.drew | apply Fr.alloc)) hf))); (have q0 := hf.cell0 q0); (have q1 := hf.cell0 q1); clear hf)
        | (go_at_call 21; refine (e21 (HOD.out.fr (by repeat (first | exact Fr.refl _ _ | apply Fr.drew | apply Fr.alloc))) 0 1 0 4 n21a).mono ?_; rintro e W ⟨rfl, hf⟩; (have HF := Lib.hid (Fr0.trans (Fr0.trans HF.out (by repeat (first | exact Fr.refl _ _ | apply Fr.drew | apply Fr.alloc))) hf)); (have HGq := Lib.hid (HGq.out.fr (Fr0.trans (by repeat (first | exact Fr.refl _ _ | apply Fr.drew | apply Fr.alloc)) hf))); (have HOD := Lib.hid (HOD.out.fr (Fr0.trans (by repeat (first | exact Fr.refl _ _ | apply Fr.drew | apply Fr.alloc)) hf))); (have q0 := hf.cell0 q0); (have q1 := hf.cell0 q1); clear hf))
      as_aux_lemma =>
      go_upto_region 43 with (first
        | (go_at_call 21; refine (e21 (HOD.out.fr (by repeat (first | exact Fr.refl _ _ | apply Fr.drew | apply Fr.alloc))) 0 2 0 4 n21b).mono ?_; rintro e W ⟨rfl, hf⟩; (have HF := Lib.hid (Fr0.trans (Fr0.trans HF.out (by repeat (first | exact Fr.refl _ _ | apply Fr.drew | apply Fr.alloc))) hf)); (have HGq := Lib.hid (HGq.out.fr (Fr0.trans (by repeat (first | exact Fr.refl _ _ | apply Fr.drew | apply Fr.alloc)) hf))); clear hf))
      as_aux_lemma =>
      go_upto_region 44 with (first
        | (go_at_call 50; refine (mk_book _ ?hg).mono ?_; (case hg => exact HGq.out.fr (by repeat (first | exact Fr.refl _ _ | apply Fr.drew | apply Fr.alloc))); rintro e W ⟨A0, c0, rfl, hBk, hf⟩; (have HF := Lib.hid (Fr0.trans (Fr0.trans HF.out (by repeat (first | exact Fr.refl _ _ | apply Fr.drew | apply Fr.alloc))) hf)); (have HGq := Lib.hid (HGq.out.fr (Fr0.trans (by repeat (first | exact Fr.refl _ _ | apply Fr.drew | apply Fr.alloc)) hf))); (have HBK := Lib.hid hBk); clear hBk; clear hf)
        | (go_at_call 30; refine (e30 (HBK.out.fr (by repeat (first | exact Fr.refl _ _ | apply Fr.drew | apply Fr.alloc))) [[2], [2]] (r2r2 _) (Nat.le_refl 2) 0 4 n30).mono ?_; rintro e W ⟨rfl, hf⟩; (have HF := Lib.hid (Fr0.trans (Fr0.trans HF.out (by repeat (first | exact Fr.refl _ _ | apply Fr.drew | apply Fr.alloc))) hf)); (have HGq := Lib.hid (HGq.out.fr (Fr0.trans (by repeat (first | exact Fr.refl _ _ | apply Fr.drew | apply Fr.alloc)) hf))); clear hf))
      as_aux_lemma =>
      go_upto_region 45 with (first
        | (go_at_call 50; refine (mk_book _ ?hg).mono ?_; (case hg => exact HGq.out.fr (by repeat (first | exact Fr.refl _ _ | apply Fr.drew | apply Fr.alloc))); rintro e W ⟨A0, c0, rfl, hBk, hf⟩; (have HF := Lib.hid (Fr0.trans (Fr0.trans HF.out (by repeat (first | exact Fr.refl _ _ | apply Fr.drew | apply Fr.alloc))) hf)); (have HGq := Lib.hid (HGq.out.fr (Fr0.trans (by repeat (first | exact Fr.refl _ _ | apply Fr.drew | apply Fr.alloc)) hf))); (have HBK := Lib.hid hBk); clear hBk; clear hf)
        | (go_at_call 51; refine (mk_some _).mono ?_; rintro e W ⟨As, cs, rfl, hSo, hcs, hf⟩; (have HF := Lib.hid (Fr0.trans (Fr0.trans HF.out (by repeat (first | exact Fr.refl _ _ | apply Fr.drew | apply Fr.alloc))) hf)); (have HGq := Lib.hid (HGq.out.fr (Fr0.trans (by repeat (first | exact Fr.refl _ _ | apply Fr.drew | apply Fr.alloc)) hf))); (try have HBK := Lib.hid (HBK.out.fr (Fr0.trans (by repeat (first | exact Fr.refl _ _ | apply Fr.drew | apply Fr.alloc)) hf))); (have HSO := Lib.hid hSo); clear hSo; clear hf)
        | (go_at_call 46; refine (at46 _ _ _).mono ?_; rintro e W ⟨rfl, hf⟩; (have HF := Lib.hid (Fr0.trans (Fr0.trans HF.out (by repeat (first | exact Fr.refl _ _ | apply Fr.drew | apply Fr.alloc))) hf)); (have HGq := Lib.hid (HGq.out.fr (Fr0.trans (by repeat (first | exact Fr.refl _ _ | apply Fr.drew | apply Fr.alloc)) hf))); (try have HBK := Lib.hid (HBK.out.fr (Fr0.trans (by repeat (first | exact Fr.refl _ _ | apply Fr.drew | apply Fr.alloc)) hf))); clear hf)
        | (go_at_call 32; refine (e32 (HBK.out.fr (by repeat (first | exact Fr.refl _ _ | apply Fr.drew | apply Fr.alloc))) 0 1 someL (C_fr HSO.out (by repeat (first | exact Fr.refl _ _ | apply Fr.drew | apply Fr.alloc))) hcs 4 n32).mono ?_; rintro e W ⟨p32, rfl, hf⟩; (have HF := Lib.hid (Fr0.trans (Fr0.trans HF.out (by repeat (first | exact Fr.refl _ _ | apply Fr.drew | apply Fr.alloc))) hf)); (have HGq := Lib.hid (HGq.out.fr (Fr0.trans (by repeat (first | exact Fr.refl _ _ | apply Fr.drew | apply Fr.alloc)) hf))); clear hf))
      as_aux_lemma =>
      go_upto_region 49 with (first
        | (go_at_call 50; refine (mk_book _ ?hg).mono ?_; (case hg => exact HGq.out.fr (by repeat (first | exact Fr.refl _ _ | apply Fr.drew | apply Fr.alloc))); rintro e W ⟨A0, c0, rfl, hBk, hf⟩; (have HF := Lib.hid (Fr0.trans (Fr0.trans HF.out (by repeat (first | exact Fr.refl _ _ | apply Fr.drew | apply Fr.alloc))) hf)); (have HGq := Lib.hid (HGq.out.fr (Fr0.trans (by repeat (first | exact Fr.refl _ _ | apply Fr.drew | apply Fr.alloc)) hf))); (have HBK := Lib.hid hBk); clear hBk; clear hf)
        | (go_at_call 35; refine (e35 (HBK.out.fr (by repeat (first | exact Fr.refl _ _ | apply Fr.drew | apply Fr.alloc))) 0 4 4 n35).mono ?_; rintro e W ⟨k0, k1, k2, k3, rfl, hf⟩; (have HF := Lib.hid (Fr0.trans (Fr0.trans HF.out (by repeat (first | exact Fr.refl _ _ | apply Fr.drew | apply Fr.alloc))) hf)); (have HGq := Lib.hid (HGq.out.fr (Fr0.trans (by repeat (first | exact Fr.refl _ _ | apply Fr.drew | apply Fr.alloc)) hf))); clear hf)
        | (go_at_call 37; refine (e37 (Book.mk (twin_book _) (Nat.le_refl 2) (HGq.out.fr (by repeat (first | exact Fr.refl _ _ | apply Fr.drew | apply Fr.alloc)))) 0 0 4 n37).mono ?_; rintro e W ⟨rfl, hf⟩; (have HF := Lib.hid (Fr0.trans (Fr0.trans HF.out (by repeat (first | exact Fr.refl _ _ | apply Fr.drew | apply Fr.alloc))) hf)); (have HGq := Lib.hid (HGq.out.fr (Fr0.trans (by repeat (first | exact Fr.refl _ _ | apply Fr.drew | apply Fr.alloc)) hf))); clear hf))
      as_aux_lemma =>
      go_upto_region 51 with (first
        | (go_at_call 50; refine (mk_book _ ?hg).mono ?_; (case hg => exact HGq.out.fr (by repeat (first | exact Fr.refl _ _ | apply Fr.drew | apply Fr.alloc))); rintro e W ⟨A0, c0, rfl, hBk, hf⟩; (have HF := Lib.hid (Fr0.trans (Fr0.trans HF.out (by repeat (first | exact Fr.refl _ _ | apply Fr.drew | apply Fr.alloc))) hf)); (have HGq := Lib.hid (HGq.out.fr (Fr0.trans (by repeat (first | exact Fr.refl _ _ | apply Fr.drew | apply Fr.alloc)) hf))); (have HBK := Lib.hid hBk); clear hBk; clear hf)
        | (go_at_call 14; refine (e14n (HBK.out.fr (by repeat (first | exact Fr.refl _ _ | apply Fr.drew | apply Fr.alloc))) 0 5 v14).mono ?_; rintro e W ⟨A14, c14, rfl, hf⟩; (have HF := Lib.hid (Fr0.trans (Fr0.trans HF.out (by repeat (first | exact Fr.refl _ _ | apply Fr.drew | apply Fr.alloc))) hf)); (have HGq := Lib.hid (HGq.out.fr (Fr0.trans (by repeat (first | exact Fr.refl _ _ | apply Fr.drew | apply Fr.alloc)) hf))); clear hf)
        | (go_at_call 19; refine (e19 (HBK.out.fr (by repeat (first | exact Fr.refl _ _ | apply Fr.drew | apply Fr.alloc))) 0 1 4 7 0 v19a).mono ?_; rintro e W ⟨rfl, hf⟩; (have HF := Lib.hid (Fr0.trans (Fr0.trans HF.out (by repeat (first | exact Fr.refl _ _ | apply Fr.drew | apply Fr.alloc))) hf)); (have HGq := Lib.hid (HGq.out.fr (Fr0.trans (by repeat (first | exact Fr.refl _ _ | apply Fr.drew | apply Fr.alloc)) hf))); clear hf))
      as_aux_lemma =>
      go_upto_region 52 with (first
        | (go_at_call 50; refine (mk_book _ ?hg).mono ?_; (case hg => exact HGq.out.fr (by repeat (first | exact Fr.refl _ _ | apply Fr.drew | apply Fr.alloc))); rintro e W ⟨A0, c0, rfl, hBk, hf⟩; (have HF := Lib.hid (Fr0.trans (Fr0.trans HF.out (by repeat (first | exact Fr.refl _ _ | apply Fr.drew | apply Fr.alloc))) hf)); (have HGq := Lib.hid (HGq.out.fr (Fr0.trans (by repeat (first | exact Fr.refl _ _ | apply Fr.drew | apply Fr.alloc)) hf))); (have HBK := Lib.hid hBk); clear hBk; clear hf)
        | (go_at_call 21; refine (e21 (HBK.out.fr (by repeat (first | exact Fr.refl _ _ | apply Fr.drew | apply Fr.alloc))) 0 0 8 0 v21a).mono ?_; rintro e W ⟨rfl, hf⟩; (have HF := Lib.hid (Fr0.trans (Fr0.trans HF.out (by repeat (first | exact Fr.refl _ _ | apply Fr.drew | apply Fr.alloc))) hf)); (have HGq := Lib.hid (HGq.out.fr (Fr0.trans (by repeat (first | exact Fr.refl _ _ | apply Fr.drew | apply Fr.alloc)) hf))); clear hf))
      as_aux_lemma =>
      go_upto_region 53 with (first
        | (go_at_call 50; refine (mk_book _ ?hg).mono ?_; (case hg => exact HGq.out.fr (by repeat (first | exact Fr.refl _ _ | apply Fr.drew | apply Fr.alloc))); rintro e W ⟨A0, c0, rfl, hBk, hf⟩; (have HF := Lib.hid (Fr0.trans (Fr0.trans HF.out (by repeat (first | exact Fr.refl _ _ | apply Fr.drew | apply Fr.alloc))) hf)); (have HGq := Lib.hid (HGq.out.fr (Fr0.trans (by repeat (first | exact Fr.refl _ _ | apply Fr.drew | apply Fr.alloc)) hf))); (have HBK := Lib.hid hBk); clear hBk; clear hf)
        | (go_at_call 21; refine (e21 (HBK.out.fr (by repeat (first | exact Fr.refl _ _ | apply Fr.drew | apply Fr.alloc))) 0 1 4 0 v21b).mono ?_; rintro e W ⟨rfl, hf⟩; (have HF := Lib.hid (Fr0.trans (Fr0.trans HF.out (by repeat (first | exact Fr.refl _ _ | apply Fr.drew | apply Fr.alloc))) hf)); (have HGq := Lib.hid (HGq.out.fr (Fr0.trans (by repeat (first | exact Fr.refl _ _ | apply Fr.drew | apply Fr.alloc)) hf))); clear hf))
      as_aux_lemma =>
      go_upto_region 54 with (first
        | (go_at_call 50; refine (mk_book _ ?hg).mono ?_; (case hg => exact HGq.out.fr (by repeat (first | exact Fr.refl _ _ | apply Fr.drew | apply Fr.alloc))); rintro e W ⟨A0, c0, rfl, hBk, hf⟩; (have HF := Lib.hid (Fr0.trans (Fr0.trans HF.out (by repeat (first | exact Fr.refl _ _ | apply Fr.drew | apply Fr.alloc))) hf)); (have HGq := Lib.hid (HGq.out.fr (Fr0.trans (by repeat (first | exact Fr.refl _ _ | apply Fr.drew | apply Fr.alloc)) hf))); (have HBK := Lib.hid hBk); clear hBk; clear hf)
        | (go_at_call 51; refine (mk_some _).mono ?_; rintro e W ⟨As, cs, rfl, hSo, hcs, hf⟩; (have HF := Lib.hid (Fr0.trans (Fr0.trans HF.out (by repeat (first | exact Fr.refl _ _ | apply Fr.drew | apply Fr.alloc))) hf)); (have HGq := Lib.hid (HGq.out.fr (Fr0.trans (by repeat (first | exact Fr.refl _ _ | apply Fr.drew | apply Fr.alloc)) hf))); (try have HBK := Lib.hid (HBK.out.fr (Fr0.trans (by repeat (first | exact Fr.refl _ _ | apply Fr.drew | apply Fr.alloc)) hf))); (have HSO := Lib.hid hSo); clear hSo; clear hf)
        | (go_at_call 27; refine (e27v (HBK.out.fr (by repeat (first | exact Fr.refl _ _ | apply Fr.drew | apply Fr.alloc))) someL (C_fr HSO.out (by repeat (first | exact Fr.refl _ _ | apply Fr.drew | apply Fr.alloc))) hcs 0 _ 0 v27).mono ?_; rintro e W ⟨A27, c27, rfl, hS, hc27, hf⟩; (have HF := Lib.hid (Fr0.trans (Fr0.trans HF.out (by repeat (first | exact Fr.refl _ _ | apply Fr.drew | apply Fr.alloc))) hf)); (have HGq := Lib.hid (HGq.out.fr (Fr0.trans (by repeat (first | exact Fr.refl _ _ | apply Fr.drew | apply Fr.alloc)) hf))); (have HS := Lib.hid hS); clear hS; clear hf))
      as_aux_lemma =>
      go_upto_region 57 with (first
        | (go_at_call 50; refine (mk_book _ ?hg).mono ?_; (case hg => exact HGq.out.fr (by repeat (first | exact Fr.refl _ _ | apply Fr.drew | apply Fr.alloc))); rintro e W ⟨A0, c0, rfl, hBk, hf⟩; (have HF := Lib.hid (Fr0.trans (Fr0.trans HF.out (by repeat (first | exact Fr.refl _ _ | apply Fr.drew | apply Fr.alloc))) hf)); (have HGq := Lib.hid (HGq.out.fr (Fr0.trans (by repeat (first | exact Fr.refl _ _ | apply Fr.drew | apply Fr.alloc)) hf))); (try have HS := Lib.hid (C_fr HS.out (Fr0.trans (by repeat (first | exact Fr.refl _ _ | apply Fr.drew | apply Fr.alloc)) hf))); (have HBK := Lib.hid hBk); clear hBk; clear hf)
        | (go_at_call 51; refine (mk_some _).mono ?_; rintro e W ⟨As, cs, rfl, hSo, hcs, hf⟩; (have HF := Lib.hid (Fr0.trans (Fr0.trans HF.out (by repeat (first | exact Fr.refl _ _ | apply Fr.drew | apply Fr.alloc))) hf)); (have HGq := Lib.hid (HGq.out.fr (Fr0.trans (by repeat (first | exact Fr.refl _ _ | apply Fr.drew | apply Fr.alloc)) hf))); (try have HBK := Lib.hid (HBK.out.fr (Fr0.trans (by repeat (first | exact Fr.refl _ _ | apply Fr.drew | apply Fr.alloc)) hf))); (try have HS := Lib.hid (C_fr HS.out (Fr0.trans (by repeat (first | exact Fr.refl _ _ | apply Fr.drew | apply Fr.alloc)) hf))); (have HSO := Lib.hid hSo); clear hSo; clear hf)
        | (go_at_call 30; refine (e30 (HBK.out.fr (by repeat (first | exact Fr.refl _ _ | apply Fr.drew | apply Fr.alloc))) someL (C_fr HSO.out (by repeat (first | exact Fr.refl _ _ | apply Fr.drew | apply Fr.alloc))) hcs 0 0 v30).mono ?_; rintro e W ⟨rfl, hf⟩; (have HF := Lib.hid (Fr0.trans (Fr0.trans HF.out (by repeat (first | exact Fr.refl _ _ | apply Fr.drew | apply Fr.alloc))) hf)); (have HGq := Lib.hid (HGq.out.fr (Fr0.trans (by repeat (first | exact Fr.refl _ _ | apply Fr.drew | apply Fr.alloc)) hf))); (try have HS := Lib.hid (C_fr HS.out (Fr0.trans (by repeat (first | exact Fr.refl _ _ | apply Fr.drew | apply Fr.alloc)) hf))); clear hf)
        | (go_at_call 37; refine (e37 (HBK.out.fr (by repeat (first | exact Fr.refl _ _ | apply Fr.drew | apply Fr.alloc))) 0 4 0 v37).mono ?_; rintro e W ⟨rfl, hf⟩; (have HF := Lib.hid (Fr0.trans (Fr0.trans HF.out (by repeat (first | exact Fr.refl _ _ | apply Fr.drew | apply Fr.alloc))) hf)); (have HGq := Lib.hid (HGq.out.fr (Fr0.trans (by repeat (first | exact Fr.refl _ _ | apply Fr.drew | apply Fr.alloc)) hf))); (try have HS := Lib.hid (C_fr HS.out (Fr0.trans (by repeat (first | exact Fr.refl _ _ | apply Fr.drew | apply Fr.alloc)) hf))); clear hf)
        | (go_at_call 19; refine (e19 (HBK.out.fr (by repeat (first | exact Fr.refl _ _ | apply Fr.drew | apply Fr.alloc))) 1 0 100000 100003 0 v19b).mono ?_; rintro e W ⟨rfl, hf⟩; (have HF := Lib.hid (Fr0.trans (Fr0.trans HF.out (by repeat (first | exact Fr.refl _ _ | apply Fr.drew | apply Fr.alloc))) hf)); (have HGq := Lib.hid (HGq.out.fr (Fr0.trans (by repeat (first | exact Fr.refl _ _ | apply Fr.drew | apply Fr.alloc)) hf))); (try have HS := Lib.hid (C_fr HS.out (Fr0.trans (by repeat (first | exact Fr.refl _ _ | apply Fr.drew | apply Fr.alloc)) hf))); clear hf))
      go_wp2_with (first
        | (go_at_call 46; refine (at46 _ _ _).mono ?_; rintro e W ⟨rfl, hf⟩; (have HF := Lib.hid (Fr0.trans (Fr0.trans HF.out (by repeat (first | exact Fr.refl _ _ | apply Fr.drew | apply Fr.alloc))) hf)); (have HGq := Lib.hid (HGq.out.fr (Fr0.trans (by repeat (first | exact Fr.refl _ _ | apply Fr.drew | apply Fr.alloc)) hf))); (try have HS := Lib.hid (C_fr HS.out (Fr0.trans (by repeat (first | exact Fr.refl _ _ | apply Fr.drew | apply Fr.alloc)) hf))); clear hf)
        | (go_at_call 29; refine (same04 (C_fr HS.out (by repeat (first | exact Fr.refl _ _ | apply Fr.drew | apply Fr.alloc))) hc27 (spots04 _) (Nat.le_refl 2)).mono ?_; rintro e W ⟨rfl, hf⟩; (have HF := Lib.hid (Fr0.trans (Fr0.trans HF.out (by repeat (first | exact Fr.refl _ _ | apply Fr.drew | apply Fr.alloc))) hf)); (have HGq := Lib.hid (HGq.out.fr (Fr0.trans (by repeat (first | exact Fr.refl _ _ | apply Fr.drew | apply Fr.alloc)) hf))); clear hf)
        | (go_at_call 23; refine (marked_any _ (HGq.out.fr (by repeat (first | exact Fr.refl _ _ | apply Fr.drew | apply Fr.alloc)))).mono ?_; rintro e W ⟨rfl, hb⟩; (have hf := mk_fr hb); (have HF := Lib.hid (Fr0.trans (Fr0.trans HF.out (by repeat (first | exact Fr.refl _ _ | apply Fr.drew | apply Fr.alloc))) hf)); clear hb hf))
      refine bodyPost_ret (v := .bool true) (by simp [results, Tryd.results13, go_sem]) rfl ⟨rfl, ?_⟩
      exact HF.out

end Go.Proofs.YtephecfapclgfaaDoor.R
