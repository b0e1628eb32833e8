import Derived.Test.YtfmpbkolpjlfbaaDoorG5
set_option linter.unusedVariables false
set_option linter.unusedSimpArgs false
namespace Go.Proofs.YtfmpbkolpjlfbaaDoor.R
open Go.RowKit Go.Shelf Go.Proofs.YtfmpbkolpjlfbaaDoorW.PrintWords Go.Proofs.YtfmpbkolpjlfbaaDoorW.PrintLast Go.Proofs.YtfmpbkolpjlfbaaDoor.PRaspKeys Go.Proofs.YtfmpbkolpjlfbaaDoor.X
attribute [local go_sem] Oper.semAt_some

theorem frb {w w' : World} (h : Below w.heap.size w w') : Fr0 w w' := X.Fr.of_below h
theorem tr0 {a b c : World} (h : Fr0 a b) (k : Fr0 b c) : Fr0 a c := Fr.trans h k
/-! ### What the functions tell -/
section
variable {w : World} {A0 : Option Addr} {c0 : Nat} {l0 : List S57} {lo hi : Int} {A3 : Option Addr} {c3 : Nat} {l3 : List S69}
theorem e18 (hB : Book w A0 c0 l0 A3 c3 l3) (E : Int) (h : checkE l0 lo hi l3 = E) : Calls Tryd.prog 18 #[.agg #[.slice A0 l0.length c0, .int .i64 lo, .int .i64 hi, .slice A3 l3.length c3]] w fun e w' => e = .returned (.int .i64 E) ∧ Fr0 w w' := by
  subst h
  exact (check_any A0 c0 l0 lo hi A3 c3 l3 w hB.r0 hB.c0 hB.r3 hB.c3).mono fun e w' h => ⟨h.1, frb h.2⟩
theorem e16 (hB : Book w A0 c0 l0 A3 c3 l3) (off metal a b E : Int) (h : nextF l0 lo hi l3 off metal = (a, b, E)) : Calls Tryd.prog 16 #[.agg #[.slice A0 l0.length c0, .int .i64 lo, .int .i64 hi, .slice A3 l3.length c3], .int .i64 off, .int .i64 metal] w fun e w' => e = .returned (.tuple #[.int .i64 a, .int .i64 b, .int .i64 E]) ∧ Fr0 w w' := by
  have k := next_any A0 c0 l0 lo hi A3 c3 l3 off metal w hB
  rw [h] at k
  exact k.mono fun e w' h => ⟨h.1, frb h.2⟩
theorem e20 (hB : Book w A0 c0 l0 A3 c3 l3) (off metal a E : Int) (h : luckyF l0 lo hi l3 off metal = (a, E)) : Calls Tryd.prog 20 #[.agg #[.slice A0 l0.length c0, .int .i64 lo, .int .i64 hi, .slice A3 l3.length c3], .int .i64 off, .int .i64 metal] w fun e w' => e = .returned (.tuple #[.int .i64 a, .int .i64 E]) ∧ Fr0 w w' := by
  have k := lucky_any A0 c0 l0 lo hi A3 c3 l3 off metal w hB
  rw [h] at k
  exact k.mono fun e w' h => ⟨h.1, frb h.2⟩
theorem e23 (hB : Book w A0 c0 l0 A3 c3 l3) (ix a E : Int) (h : strokesF l0 lo hi l3 ix = (a, E)) : Calls Tryd.prog 23 #[.agg #[.slice A0 l0.length c0, .int .i64 lo, .int .i64 hi, .slice A3 l3.length c3], .int .i64 ix] w fun e w' => e = .returned (.tuple #[.int .i64 a, .int .i64 E]) ∧ Fr0 w w' := by
  have k := strokes_of_any A0 c0 l0 lo hi A3 c3 l3 ix w hB
  rw [h] at k
  exact k.mono fun e w' h => ⟨h.1, frb h.2⟩
theorem e30 (hB : Book w A0 c0 l0 A3 c3 l3) (off a E : Int) (h : needF l0 lo hi l3 off = (a, E)) : Calls Tryd.prog 30 #[.agg #[.slice A0 l0.length c0, .int .i64 lo, .int .i64 hi, .slice A3 l3.length c3], .int .i64 off] w fun e w' => e = .returned (.tuple #[.int .i64 a, .int .i64 E]) ∧ Fr0 w w' := by
  have k := need_any A0 c0 l0 lo hi A3 c3 l3 off w hB
  rw [h] at k
  exact k.mono fun e w' h => ⟨h.1, frb h.2⟩
theorem e28 (hB : Book w A0 c0 l0 A3 c3 l3) (a E : Int) (h : totalF l0 lo hi l3 = (a, E)) : Calls Tryd.prog 28 #[.agg #[.slice A0 l0.length c0, .int .i64 lo, .int .i64 hi, .slice A3 l3.length c3]] w fun e w' => e = .returned (.tuple #[.int .i64 a, .int .i64 E]) ∧ Fr0 w w' := by
  have k := total_any A0 c0 l0 lo hi A3 c3 l3 w hB
  rw [h] at k
  exact k.mono fun e w' h => ⟨h.1, frb h.2⟩
theorem e25 (hB : Book w A0 c0 l0 A3 c3 l3) (E : Int) (h : (spoiltF l0 lo hi l3).2 = E) : Calls Tryd.prog 25 #[.agg #[.slice A0 l0.length c0, .int .i64 lo, .int .i64 hi, .slice A3 l3.length c3]] w fun e w' => ∃ v, e = .returned (.tuple #[v, .int .i64 E]) ∧ Fr0 w w' := by
  subst h
  exact (spoilts_any A0 c0 l0 lo hi A3 c3 l3 w hB).mono fun e w' ⟨v, h, _, hb⟩ => ⟨v, h, frb hb⟩
theorem e32 (hB : Book w A0 c0 l0 A3 c3 l3) (ki off : Int) {Am : Option Addr} {cm : Nat} (lm : List Int) (hm : Kd.C (Kd.int .i64) w Am lm.length lm) (hcm : lm.length ≤ cm) (E : Int) (h : (playF l0 lo hi l3 ki off lm).2.2 = E) : Calls Tryd.prog 32 #[.agg #[.slice A0 l0.length c0, .int .i64 lo, .int .i64 hi, .slice A3 l3.length c3], .int .i64 ki, .int .i64 off, .slice Am lm.length cm] w fun e w' => ∃ (v : Value) (a : Int), e = .returned (.tuple #[v, .int .i64 a, .int .i64 E]) ∧ Fr0 w w' := by
  subst h
  exact (play_any A0 c0 l0 lo hi A3 c3 l3 ki off Am cm lm w hB hm hcm).mono fun e w' ⟨v, h, _, hb⟩ => ⟨v, _, h, frb hb⟩
theorem e34 (hB : Book w A0 c0 l0 A3 c3 l3) {Am : Option Addr} {cm : Nat} (lm : List Int) (hm : Kd.C (Kd.int .i64) w Am lm.length lm) (hcm : lm.length ≤ cm) (r : List (List Int)) (E : Int) (h : rasp_Told.f 99 l0 lo hi l3 lm = some (r, E)) : Calls Tryd.prog 34 #[.agg #[.slice A0 l0.length c0, .int .i64 lo, .int .i64 hi, .slice A3 l3.length c3], .slice Am lm.length cm] w fun e w' => ∃ A c, e = .returned (.tuple #[.slice A r.length c, .int .i64 E]) ∧ Fr0 w w' := by
  refine (rasp_Told.calls 99 A0 c0 l0 lo hi A3 c3 l3 Am cm lm r E w hB.r0 hB.c0 hB.r3 hB.c3 hm hcm hB.glob h).mono ?_
  rintro e w' ⟨v0, rfl, ⟨A, c, rfl, _, _⟩, hb⟩
  exact ⟨A, c, rfl, frb hb⟩
theorem no_ints (W : World) : Kd.C (Kd.int .i64) W none ([] : List Int).length [] := ⟨rfl, by simp, fun h => absurd h (by simp)⟩
theorem e32n (hB : Book w A0 c0 l0 A3 c3 l3) (ki off E : Int) (h : (playF l0 lo hi l3 ki off []).2.2 = E) : Calls Tryd.prog 32 #[.agg #[.slice A0 l0.length c0, .int .i64 lo, .int .i64 hi, .slice A3 l3.length c3], .int .i64 ki, .int .i64 off, .slice none 0 0] w fun e w' => ∃ (v : Value) (a : Int), e = .returned (.tuple #[v, .int .i64 a, .int .i64 E]) ∧ Fr0 w w' := e32 (cm := 0) hB ki off [] (no_ints w) (Nat.le_refl 0) E h
theorem e34n (hB : Book w A0 c0 l0 A3 c3 l3) (E : Int) (h : rasp_Told.f 99 l0 lo hi l3 [] = some ([], E)) : Calls Tryd.prog 34 #[.agg #[.slice A0 l0.length c0, .int .i64 lo, .int .i64 hi, .slice A3 l3.length c3], .slice none 0 0] w fun e w' => ∃ A c, e = .returned (.tuple #[.slice A 0 c, .int .i64 E]) ∧ Fr0 w w' := e34 (cm := 0) hB [] (no_ints w) (Nat.le_refl 0) [] E h
theorem nob (hb : bookOk l0 lo hi l3 = false) (ok : Bool) : openV l0 lo hi l3 ok = 30 := by unfold openV checkE; rw [hb]; rfl
theorem b18 (hb : bookOk l0 lo hi l3 = false) : checkE l0 lo hi l3 = 30 := by unfold checkE; rw [hb]; rfl
theorem b16 (hb : bookOk l0 lo hi l3 = false) (a b : Int) : nextF l0 lo hi l3 a b = (0, 0, 30) := by unfold nextF; rw [nob hb]; rfl
theorem b20 (hb : bookOk l0 lo hi l3 = false) (a b : Int) : luckyF l0 lo hi l3 a b = (0, 30) := by unfold luckyF; rw [nob hb]; rfl
theorem b23 (hb : bookOk l0 lo hi l3 = false) (a : Int) : strokesF l0 lo hi l3 a = (0, 30) := by unfold strokesF; rw [nob hb]; rfl
theorem b30 (hb : bookOk l0 lo hi l3 = false) (a : Int) : needF l0 lo hi l3 a = (0, 30) := by unfold needF; rw [nob hb]; rfl
theorem b28 (hb : bookOk l0 lo hi l3 = false) : totalF l0 lo hi l3 = (0, 30) := by unfold totalF; rw [nob hb]; rfl
theorem b25 (hb : bookOk l0 lo hi l3 = false) : (spoiltF l0 lo hi l3).2 = 30 := by unfold spoiltF; rw [nob hb]; rfl
theorem b32 (hb : bookOk l0 lo hi l3 = false) (a b : Int) (m : List Int) : (playF l0 lo hi l3 a b m).2.2 = 30 := by unfold playF; rw [nob hb]; rfl
end
/-! ### Rows out of blocks -/
theorem flat_get {α : Type} {enc : α → List Value} {n : Nat} (hs : ∀ x, (enc x).length = n) : ∀ (xs : List α) (j i : Nat) (p : α) (u : Value), xs[j]? = some p → (enc p)[i]? = some u → (xs.flatMap enc)[j * n + i]? = some u
  | [], j, i, p, u, hj, hi => by simp at hj
  | x :: xs, 0, i, p, u, hj, hi => by
    obtain rfl : x = p := by simpa using hj
    have hl : i < (enc x).length := (List.getElem?_eq_some_iff.1 hi).1
    rw [List.flatMap_cons, List.getElem?_append_left (by omega)]
    simpa using hi
  | x :: xs, j + 1, i, p, u, hj, hi => by
    rw [List.flatMap_cons, List.getElem?_append_right (by rw [hs, Nat.succ_mul]; omega), hs]
    have := flat_get hs xs j i p u (by simpa using hj) hi
    rw [show (j + 1) * n + i - n = j * n + i by rw [Nat.succ_mul]; omega]
    exact this
theorem at_add (b j : Nat) : (⟨b, 0, none⟩ : Addr).add j = ⟨b, j, none⟩ := by
  unfold Addr.add
  by_cases h0 : j = 0 <;> simp [h0]
theorem C_mk {α : Type} (d : Kd α) {W : World} {b : Nat} {t : TypeId} {cells : Array Value} (xs : List α) (enc : α → List Value) (hK : ∀ x ∈ xs, d.K W x (enc x)) (hs : ∀ x, (enc x).length = d.sz) (hc : cells = (xs.flatMap enc).toArray) (hl : xs.length ≤ 9223372036854775807) (h : Bx W b t cells) :
    Kd.C d W (some ⟨b, 0, none⟩) xs.length xs := by
  subst hc
  refine ⟨rfl, hl, fun _ => ⟨_, rfl, fun j p hp => ⟨enc p, hs p, hK p (List.mem_of_getElem? hp), fun i u hu => ?_⟩⟩⟩
  have := h.at_ (j * d.sz + i) (v := u) (by rw [List.getElem?_toArray]; exact flat_get hs xs j i p u hp hu)
  rw [at_add]
  exact this
theorem tools_C {W : World} {b : Nat} {t : TypeId} {cells : Array Value} (xs : List S57) (h : Bx W b t cells) (hc : cells = (xs.flatMap fun x => [.int .i64 x.f0.f0, .int .i64 x.f0.f1, .int .i64 x.f1]).toArray) (hl : xs.length ≤ 9223372036854775807) : Kd.C k57 W (some ⟨b, 0, none⟩) xs.length xs :=
  C_mk k57 xs _ (fun x _ => k57_mk W x) (fun _ => rfl) hc hl h
theorem keys_C {W : World} {b : Nat} {t : TypeId} {cells : Array Value} (xs : List S69) (h : Bx W b t cells) (hc : cells = (xs.flatMap fun x => [.int .i64 x.f0.f0, .int .i64 x.f0.f1, .int .i64 x.f1]).toArray) (hl : xs.length ≤ 9223372036854775807) : Kd.C k69 W (some ⟨b, 0, none⟩) xs.length xs :=
  C_mk k69 xs _ (fun x _ => k69_mk W x) (fun _ => rfl) hc hl h
theorem ints_C {W : World} {b : Nat} {t : TypeId} {cells : Array Value} (xs : List Int) (h : Bx W b t cells) (hc : cells = (xs.flatMap fun x => [.int .i64 x]).toArray) (hl : xs.length ≤ 9223372036854775807) : Kd.C (Kd.int .i64) W (some ⟨b, 0, none⟩) xs.length xs :=
  C_mk (Kd.int .i64) xs _ (fun x _ => rfl) (fun _ => rfl) hc hl h
theorem no_tools (W : World) : Kd.C k57 W none ([] : List S57).length [] := ⟨rfl, by simp, fun h => absurd h (by simp)⟩
theorem no_keys (W : World) : Kd.C k69 W none ([] : List S69).length [] := ⟨rfl, by simp, fun h => absurd h (by simp)⟩
/-- Ten shops, none of which is one. -/
def BadRow (W : World) (ad : Addr) : Prop := ∀ n : Nat, n < 10 → ∃ A0 c0 l0 lo hi A3 c3 l3, W.cell? (ad.add (n * 4)) = some (.slice A0 l0.length c0) ∧ W.cell? ⟨(ad.add (n * 4)).block, (ad.add (n * 4)).off + 1, none⟩ = some (.int .i64 lo) ∧ W.cell? ⟨(ad.add (n * 4)).block, (ad.add (n * 4)).off + 2, none⟩ = some (.int .i64 hi) ∧ W.cell? ⟨(ad.add (n * 4)).block, (ad.add (n * 4)).off + 3, none⟩ = some (.slice A3 l3.length c3) ∧ Book W A0 c0 l0 A3 c3 l3 ∧ bookOk l0 lo hi l3 = false ∧ rasp_Told.f 99 l0 lo hi l3 [] = some ([], 30)
theorem bad_at {W : World} {gx : Nat} {t : TypeId} {cs : Array Value} (h : Bx W gx t cs) (n : Nat) {A0 : Option Addr} {c0 : Nat} {l0 : List S57} {lo hi : Int} {A3 : Option Addr} {c3 : Nat} {l3 : List S69} (v0 : cs[n * 4]? = some (.slice A0 l0.length c0)) (v1 : cs[n * 4 + 1]? = some (.int .i64 lo)) (v2 : cs[n * 4 + 2]? = some (.int .i64 hi)) (v3 : cs[n * 4 + 3]? = some (.slice A3 l3.length c3)) (h0 : l0.length ≤ c0) (C0 : Kd.C k57 W A0 l0.length l0) (h3 : l3.length ≤ c3) (C3 : Kd.C k69 W A3 l3.length l3) (hG : Glob W) (hb : bookOk l0 lo hi l3 = false) (ht : rasp_Told.f 99 l0 lo hi l3 [] = some ([], 30)) :
    ∃ A0 c0 l0 lo hi A3 c3 l3, W.cell? ((⟨gx, 0, none⟩ : Addr).add (n * 4)) = some (.slice A0 l0.length c0) ∧ W.cell? ⟨((⟨gx, 0, none⟩ : Addr).add (n * 4)).block, ((⟨gx, 0, none⟩ : Addr).add (n * 4)).off + 1, none⟩ = some (.int .i64 lo) ∧ W.cell? ⟨((⟨gx, 0, none⟩ : Addr).add (n * 4)).block, ((⟨gx, 0, none⟩ : Addr).add (n * 4)).off + 2, none⟩ = some (.int .i64 hi) ∧ W.cell? ⟨((⟨gx, 0, none⟩ : Addr).add (n * 4)).block, ((⟨gx, 0, none⟩ : Addr).add (n * 4)).off + 3, none⟩ = some (.slice A3 l3.length c3) ∧ Book W A0 c0 l0 A3 c3 l3 ∧ bookOk l0 lo hi l3 = false ∧ rasp_Told.f 99 l0 lo hi l3 [] = some ([], 30) := by
  refine ⟨A0, c0, l0, lo, hi, A3, c3, l3, ?_, ?_, ?_, ?_, ⟨C0, h0, C3, h3, hG⟩, hb, ht⟩ <;> rw [at_add]
  · exact h.at_ _ v0
  · exact h.at_ _ v1
  · exact h.at_ _ v2
  · exact h.at_ _ v3
theorem BadRow.fr {W W' : World} {ad : Addr} (h : BadRow W ad) (hf : Fr0 W W') : BadRow W' ad := fun n hn => by
  obtain ⟨A0, c0, l0, lo, hi, A3, c3, l3, x0, x1, x2, x3, hB, hb⟩ := h n hn
  exact ⟨A0, c0, l0, lo, hi, A3, c3, l3, hf.cell0 x0, hf.cell0 x1, hf.cell0 x2, hf.cell0 x3, hB.fr hf, hb⟩
/-! ### The law's shop, block by block -/
structure BookP (W : World) (bT bK : Nat) (T K : Array Value) : Prop where
  t : Bx W bT 57 T
  k : Bx W bK 69 K
abbrev T0 : Array Value := #[.int .i64 (-6), .int .i64 (-4), .int .i64 2, .int .i64 2, .int .i64 3, .int .i64 1]
abbrev K0 : Array Value := #[.int .i64 5, .int .i64 9, .int .i64 6, .int .i64 (-7), .int .i64 (-5), .int .i64 3, .int .i64 20, .int .i64 21, .int .i64 6]
section
variable {W W' : World} {bT bK : Nat} {T K : Array Value}
theorem BookP.fr0 (h : BookP W bT bK T K) (hf : Fr0 W W') : BookP W' bT bK T K := ⟨h.t.fr0 hf, h.k.fr0 hf⟩
theorem BookP.far (h : BookP W bT bK T K) {p : Addr} (h1 : bT ≠ p.block) (h2 : bK ≠ p.block) (u : Value) : BookP (W.setCell p u) bT bK T K := ⟨h.t.far h1 u, h.k.far h2 u⟩
theorem BookP.setT (h : BookP W bT bK T K) (hn : bK ≠ bT) (i : Nat) (u : Value) : BookP (W.setCell ⟨bT, i, none⟩ u) bT bK (T.setIfInBounds i u) K := ⟨h.t.set_ i u, h.k.far hn u⟩
theorem BookP.setK (h : BookP W bT bK T K) (hn : bT ≠ bK) (i : Nat) (u : Value) : BookP (W.setCell ⟨bK, i, none⟩ u) bT bK T (K.setIfInBounds i u) := ⟨h.t.far hn u, h.k.set_ i u⟩
end
/-! ### What is told of the law's own shop -/
theorem a16a : nextF tl (-2) 2 ks 61 0 = (0, 0, 31) := by kernel_rfl
theorem a16b : nextF tl (-2) 2 ks 0 31 = (0, 0, 31) := by kernel_rfl
theorem a23 : strokesF tl (-2) 2 ks 3 = (0, 31) := by kernel_rfl
theorem a30 : needF tl (-2) 2 ks (-61) = (0, 31) := by kernel_rfl
theorem a20 : luckyF tl (-2) 2 ks 0 (-1) = (0, 31) := by kernel_rfl
theorem a32 : (playF tl (-2) 2 ks 0 4 []).2.2 = 31 := by kernel_rfl
theorem a34a : rasp_Told.f 99 tl (-2) 2 ks [] = some ([], 31) := by kernel_rfl
theorem a34b : rasp_Told.f 99 tl (-2) 2 ks [61] = some ([], 31) := by kernel_rfl
theorem n16 : nextF tl (-2) 2 ks 7 4 = (0, 0, 4) := by kernel_rfl
theorem n23 : strokesF tl (-2) 2 ks 2 = (0, 4) := by kernel_rfl
theorem n28 : totalF tl (-2) 2 ks = (0, 4) := by kernel_rfl
theorem n32a : (playF tl (-2) 2 ks 0 7 [-4, -6]).2.2 = 32 := by kernel_rfl
theorem n32b : (playF tl (-2) 2 ks 0 7 [-3, -6, 2]).2.2 = 32 := by kernel_rfl
theorem n32c : (playF tl (-2) 2 ks 2 20 []).2.2 = 4 := by kernel_rfl
theorem n34 : rasp_Told.f 99 tl (-2) 2 ks [7, 8] = some ([], 4) := by kernel_rfl
theorem n20 : luckyF tl (-2) 2 ks 20 3 = (0, 4) := by kernel_rfl
theorem v16a : nextF tl (-2) 2 ks 3 3 = (0, 2, 0) := by kernel_rfl
theorem v16b : nextF tl (-2) 2 ks 1 0 = (-1, 0, 0) := by kernel_rfl
theorem v23 : strokesF tl (-2) 2 ks 1 = (3, 0) := by kernel_rfl
theorem v30a : needF tl (-2) 2 ks (-7) = (3, 0) := by kernel_rfl
theorem v30b : needF tl (-2) 2 ks 0 = (0, 0) := by kernel_rfl
theorem v20 : luckyF tl (-2) 2 ks 7 4 = (1, 0) := by kernel_rfl
theorem v34 : rasp_Told.f 99 tl (-2) 2 ks [-5] = some ([], 0) := by kernel_rfl
theorem r1 (x : Int) (W : World) : Kd.C (Kd.int .i64) (W.alloc (.cells #[.int .i64 x] 3)) (some ⟨W.heap.size, 0, none⟩) ([x] : List Int).length [x] := ints_C [x] (Bx.of_new rfl) rfl (by simp)
theorem r2 (x y : Int) (W : World) : Kd.C (Kd.int .i64) (W.alloc (.cells #[.int .i64 x, .int .i64 y] 3)) (some ⟨W.heap.size, 0, none⟩) ([x, y] : List Int).length [x, y] := ints_C [x, y] (Bx.of_new rfl) rfl (by simp)
theorem r3 (x y z : Int) (W : World) : Kd.C (Kd.int .i64) (W.alloc (.cells #[.int .i64 x, .int .i64 y, .int .i64 z] 3)) (some ⟨W.heap.size, 0, none⟩) ([x, y, z] : List Int).length [x, y, z] := ints_C [x, y, z] (Bx.of_new rfl) rfl (by simp)
theorem band44 (a b : Int) (w : World) (h : saronref00_Band.f a b = some (a, b)) : Calls Tryd.prog 44 #[.int .i64 a, .int .i64 b] w fun e w' => e = .returned (.agg #[.int .i64 a, .int .i64 b]) ∧ Fr0 w w' := (saronref00_Band.calls a b a b w h).mono fun e w' h => ⟨h.1, frb h.2⟩
theorem key48 (a b c : Int) (w : World) (h : saronlaw03_key.f a b c = some (a, b, c)) : Calls Tryd.prog 48 #[.int .i64 a, .int .i64 b, .int .i64 c] w fun e w' => e = .returned (.agg #[.int .i64 a, .int .i64 b, .int .i64 c]) ∧ Fr0 w w' := (saronlaw03_key.calls a b c a b c w h).mono fun e w' h => ⟨h.1, frb h.2⟩
theorem bd1 : saronref00_Band.f (-6) (-4) = some (-6, -4) := by kernel_rfl
theorem bd2 : saronref00_Band.f 2 3 = some (2, 3) := by kernel_rfl
theorem bd3 : saronref00_Band.f (-2) 2 = some (-2, 2) := by kernel_rfl
theorem bd4 : saronref00_Band.f (-31) (-4) = some (-31, -4) := by kernel_rfl
theorem bd5 : saronref00_Band.f (-4) (-6) = some (-4, -6) := by kernel_rfl
theorem bd6 : saronref00_Band.f (-61) 2 = some (-61, 2) := by kernel_rfl
theorem bd7 : saronref00_Band.f 5 61 = some (5, 61) := by kernel_rfl
theorem ky1 : saronlaw03_key.f 5 9 6 = some (5, 9, 6) := by kernel_rfl
theorem ky2 : saronlaw03_key.f (-7) (-5) 3 = some (-7, -5, 3) := by kernel_rfl
theorem ky3 : saronlaw03_key.f 20 21 6 = some (20, 21, 6) := by kernel_rfl
theorem mk22 (w : World) : (Instr.makeSlice 22 (.int .i64 5) (.int .i64 5)).run Tryd.prog w = .ok (.slice (some ⟨w.heap.size, 0, none⟩) 5 5) (w.alloc (.cells #[.int .i64 0, .int .i64 0, .int .i64 0, .int .i64 0, .int .i64 0, .int .i64 0, .int .i64 0, .int .i64 0, .int .i64 0, .int .i64 0, .int .i64 0, .int .i64 0, .int .i64 0, .int .i64 0, .int .i64 0] 57)) := by kernel_rfl
theorem mk25 (w : World) : (Instr.makeSlice 25 (.int .i64 7) (.int .i64 7)).run Tryd.prog w = .ok (.slice (some ⟨w.heap.size, 0, none⟩) 7 7) (w.alloc (.cells #[.int .i64 0, .int .i64 0, .int .i64 0, .int .i64 0, .int .i64 0, .int .i64 0, .int .i64 0, .int .i64 0, .int .i64 0, .int .i64 0, .int .i64 0, .int .i64 0, .int .i64 0, .int .i64 0, .int .i64 0, .int .i64 0, .int .i64 0, .int .i64 0, .int .i64 0, .int .i64 0, .int .i64 0] 69)) := by kernel_rfl
theorem shop50 (w : World) (hG : Glob w) : Calls Tryd.prog 50 #[] w fun e w' => ∃ A0 c0 A3 c3, e = .returned (.agg #[.slice A0 tl.length c0, .int .i64 (-2), .int .i64 2, .slice A3 ks.length c3]) ∧ Book w' A0 c0 tl A3 c3 ks ∧ Fr0 w w' := shop_any w hG
set_option maxHeartbeats 4000000 in
set_option maxRecDepth 100000 in
theorem book50x (w : World) : Calls Tryd.prog 50 #[] w fun e w' => ∃ t k, e = .returned (.agg #[.slice (some ⟨t, 0, none⟩) 2 2, .int .i64 (-2), .int .i64 2, .slice (some ⟨k, 0, none⟩) 3 3]) ∧ BookP w' t k T0 K0 ∧ w.heap.size ≤ t ∧ t < k ∧ Fr0 w w' := by
  go_enter Tryd.func50, Tryd.ntmps50
  go_wp2_with (first | (go_at_call 48; (have hz_ := H5); clear hz_; refine (key48 _ _ _ _ (by kernel_rfl)).mono ?_; rintro e w6 ⟨rfl, hf⟩; (have H6 := Lib.hid hf); (have HR := Lib.hid (HR.out.fr0 hf)); (have HT := Lib.hid (HT.out.fr0 hf)); (have x0 := HR.out.at_ 0 (v := .slice none 0 0) rfl); (have x1 := HR.out.at_ 1 (v := .int .i64 0) rfl); (have x2 := HR.out.at_ 2 (v := .int .i64 0) rfl); (have x3 := HR.out.at_ 3 (v := .slice none 0 0) rfl); (have z0 := HR.out.frz 0); (have z1 := HR.out.frz 1); (have z2 := HR.out.frz 2); (have z3 := HR.out.frz 3); (have hlt := HR.out.lt); (have hlt1 : w.heap.size < w6.heap.size + 1 := by omega); clear hf) | (go_at_call 48; (have hz_ := H4); clear hz_; refine (key48 _ _ _ _ (by kernel_rfl)).mono ?_; rintro e w5 ⟨rfl, hf⟩; (have H5 := Lib.hid hf); (have HR := Lib.hid (HR.out.fr0 hf)); (have HT := Lib.hid (HT.out.fr0 hf)); clear hf) | (go_at_call 48; (have hz_ := H3); clear hz_; refine (key48 _ _ _ _ (by kernel_rfl)).mono ?_; rintro e w4 ⟨rfl, hf⟩; (have H4 := Lib.hid hf); (have HR := Lib.hid (HR.out.fr0 hf)); (have HT := Lib.hid (HT.out.fr0 hf)); clear hf) | (go_at_call 44; (have hz_ := H2); clear hz_; refine (band44 _ _ _ (by kernel_rfl)).mono ?_; rintro e w3 ⟨rfl, hf⟩; (have H3 := Lib.hid hf); (have HR := Lib.hid ((HR.out.alloc (.cells T0 57)).fr0 hf)); (have HT := Lib.hid ((Bx.of_new rfl : Bx (w2.alloc (.cells T0 57)) w2.heap.size 57 T0).fr0 hf)); clear hf) | (go_at_call 44; (have hz_ := H1); clear hz_; refine (band44 _ _ _ (by kernel_rfl)).mono ?_; rintro e w2 ⟨rfl, hf⟩; (have H2 := Lib.hid hf); (have HR := Lib.hid (HR.out.fr0 hf)); clear hf) | (go_at_call 44; refine (band44 _ _ _ (by kernel_rfl)).mono ?_; rintro e w1 ⟨rfl, hf⟩; (have H1 := Lib.hid hf); (have HR := Lib.hid ((Bx.of_new rfl : Bx (w.alloc (.cells #[.slice none 0 0, .int .i64 0, .int .i64 0, .slice none 0 0] 27)) w.heap.size 27 #[.slice none 0 0, .int .i64 0, .int .i64 0, .slice none 0 0]).fr0 hf)); clear hf))
  have s1 : w.heap.size + 1 ≤ w1.heap.size := by have := H1.out.size; simpa using this
  have s2 := H2.out.size
  have hr : Bx (((((w6.setCell ⟨w.heap.size, 0, none⟩ (.slice (some ⟨w2.heap.size, 0, none⟩) 2 2)).setCell ⟨w.heap.size, 1, none⟩ (.int .i64 (-2))).setCell ⟨w.heap.size, 2, none⟩ (.int .i64 2)).setCell ⟨w.heap.size, 3, none⟩ (.slice (some ⟨w6.heap.size, 0, none⟩) 3 3)).alloc (.cells K0 69)) w.heap.size 27 #[.slice (some ⟨w2.heap.size, 0, none⟩) 2 2, .int .i64 (-2), .int .i64 2, .slice (some ⟨w6.heap.size, 0, none⟩) 3 3] := ((((HR.out.set_ 0 (.slice (some ⟨w2.heap.size, 0, none⟩) 2 2)).set_ 1 (.int .i64 (-2))).set_ 2 (.int .i64 2)).set_ 3 (.slice (some ⟨w6.heap.size, 0, none⟩) 3 3)).alloc _
  have ht : Bx (((((w6.setCell ⟨w.heap.size, 0, none⟩ (.slice (some ⟨w2.heap.size, 0, none⟩) 2 2)).setCell ⟨w.heap.size, 1, none⟩ (.int .i64 (-2))).setCell ⟨w.heap.size, 2, none⟩ (.int .i64 2)).setCell ⟨w.heap.size, 3, none⟩ (.slice (some ⟨w6.heap.size, 0, none⟩) 3 3)).alloc (.cells K0 69)) w2.heap.size 57 T0 := ((((HT.out.far (by simp only; omega) _).far (by simp only; omega) _).far (by simp only; omega) _).far (by simp only; omega) _).alloc _
  have hk : Bx (((((w6.setCell ⟨w.heap.size, 0, none⟩ (.slice (some ⟨w2.heap.size, 0, none⟩) 2 2)).setCell ⟨w.heap.size, 1, none⟩ (.int .i64 (-2))).setCell ⟨w.heap.size, 2, none⟩ (.int .i64 2)).setCell ⟨w.heap.size, 3, none⟩ (.slice (some ⟨w6.heap.size, 0, none⟩) 3 3)).alloc (.cells K0 69)) w6.heap.size 69 K0 := Bx.of_new (by simp)
  have hf : Fr0 w (((((w6.setCell ⟨w.heap.size, 0, none⟩ (.slice (some ⟨w2.heap.size, 0, none⟩) 2 2)).setCell ⟨w.heap.size, 1, none⟩ (.int .i64 (-2))).setCell ⟨w.heap.size, 2, none⟩ (.int .i64 2)).setCell ⟨w.heap.size, 3, none⟩ (.slice (some ⟨w6.heap.size, 0, none⟩) 3 3)).alloc (.cells K0 69)) := ((((((tr0 ((Fr.refl _ w).alloc _) (tr0 H1.out (tr0 H2.out (tr0 ((Fr.refl _ w2).alloc _) (tr0 H3.out (tr0 H4.out (tr0 H5.out H6.out))))))).setCell (.inr (Nat.le_refl _)) _).setCell (.inr (Nat.le_refl _)) _).setCell (.inr (Nat.le_refl _)) _).setCell (.inr (Nat.le_refl _)) _)).alloc _
  exact bodyPost_ret (results_cell_row rfl _ _ w.heap.size 27 #[.slice (some ⟨w2.heap.size, 0, none⟩) 2 2, .int .i64 (-2), .int .i64 2, .slice (some ⟨w6.heap.size, 0, none⟩) 3 3] (0, 0) _ rfl hr Tryd.underlying27 rfl (by kernel_rfl)) rfl ⟨w2.heap.size, w6.heap.size, rfl, ⟨ht, hk⟩, by omega, HT.out.lt, hf⟩

set_option maxHeartbeats 16000000 in
set_option maxRecDepth 100000 in
theorem known_any (w : World) (hG : Glob w) : Calls Tryd.prog 15 #[] w fun e w' => e = .returned (.bool true) ∧ Fr0 w w' := by
  have HG := Lib.hid hG
  clear hG
  go_enter Tryd.func15, Tryd.ntmps15
  go_upto_region 2 with (first
    | (go_at_call 50; (have hz_ := HB8); clear hz_; refine (book50x _).mono ?_; rintro e w9 ⟨t9, k9, rfl, hbk, hle, htk, hf⟩; (have HF9 := Lib.hid (tr0 HF8.out hf)); (have HO9 := Lib.hid (And.intro (Nat.lt_of_lt_of_le (show k8 < _ from HB8.out.k.lt) hle) htk)); (have HB1 := Lib.hid (HB1.out.fr0 hf)); (have HB2 := Lib.hid (HB2.out.fr0 hf)); (have HB3 := Lib.hid (HB3.out.fr0 hf)); (have HB4 := Lib.hid (HB4.out.fr0 hf)); (have HB5 := Lib.hid (HB5.out.fr0 hf)); (have HB6 := Lib.hid (HB6.out.fr0 hf)); (have HB7 := Lib.hid (HB7.out.fr0 hf)); (have HB8 := Lib.hid (HB8.out.fr0 hf)); (have HB9 := Lib.hid hbk); clear hbk hle htk hf)
    | (go_at_call 50; (have hz_ := HB7); clear hz_; refine (book50x _).mono ?_; rintro e w8 ⟨t8, k8, rfl, hbk, hle, htk, hf⟩; (have HF8 := Lib.hid (tr0 HF7.out hf)); (have HO8 := Lib.hid (And.intro (Nat.lt_of_lt_of_le (show k7 < _ from HB7.out.k.lt) hle) htk)); (have HB1 := Lib.hid (HB1.out.fr0 hf)); (have HB2 := Lib.hid (HB2.out.fr0 hf)); (have HB3 := Lib.hid (HB3.out.fr0 hf)); (have HB4 := Lib.hid (HB4.out.fr0 hf)); (have HB5 := Lib.hid (HB5.out.fr0 hf)); (have HB6 := Lib.hid (HB6.out.fr0 hf)); (have HB7 := Lib.hid (HB7.out.fr0 hf)); (have HB8 := Lib.hid hbk); clear hbk hle htk hf)
    | (go_at_call 50; (have hz_ := HB6); clear hz_; refine (book50x _).mono ?_; rintro e w7 ⟨t7, k7, rfl, hbk, hle, htk, hf⟩; (have HF7 := Lib.hid (tr0 HF6.out hf)); (have HO7 := Lib.hid (And.intro (Nat.lt_of_lt_of_le (show k6 < _ from HB6.out.k.lt) hle) htk)); (have HB1 := Lib.hid (HB1.out.fr0 hf)); (have HB2 := Lib.hid (HB2.out.fr0 hf)); (have HB3 := Lib.hid (HB3.out.fr0 hf)); (have HB4 := Lib.hid (HB4.out.fr0 hf)); (have HB5 := Lib.hid (HB5.out.fr0 hf)); (have HB6 := Lib.hid (HB6.out.fr0 hf)); (have HB7 := Lib.hid hbk); clear hbk hle htk hf)
    | (go_at_call 50; (have hz_ := HB5); clear hz_; refine (book50x _).mono ?_; rintro e w6 ⟨t6, k6, rfl, hbk, hle, htk, hf⟩; (have HF6 := Lib.hid (tr0 HF5.out hf)); (have HO6 := Lib.hid (And.intro (Nat.lt_of_lt_of_le (show k5 < _ from HB5.out.k.lt) hle) htk)); (have HB1 := Lib.hid (HB1.out.fr0 hf)); (have HB2 := Lib.hid (HB2.out.fr0 hf)); (have HB3 := Lib.hid (HB3.out.fr0 hf)); (have HB4 := Lib.hid (HB4.out.fr0 hf)); (have HB5 := Lib.hid (HB5.out.fr0 hf)); (have HB6 := Lib.hid hbk); clear hbk hle htk hf)
    | (go_at_call 50; (have hz_ := HB4); clear hz_; refine (book50x _).mono ?_; rintro e w5 ⟨t5, k5, rfl, hbk, hle, htk, hf⟩; (have HF5 := Lib.hid (tr0 HF4.out hf)); (have HO5 := Lib.hid (And.intro (Nat.lt_of_lt_of_le (show k4 < _ from HB4.out.k.lt) hle) htk)); (have HB1 := Lib.hid (HB1.out.fr0 hf)); (have HB2 := Lib.hid (HB2.out.fr0 hf)); (have HB3 := Lib.hid (HB3.out.fr0 hf)); (have HB4 := Lib.hid (HB4.out.fr0 hf)); (have HB5 := Lib.hid hbk); clear hbk hle htk hf)
    | (go_at_call 50; (have hz_ := HB3); clear hz_; refine (book50x _).mono ?_; rintro e w4 ⟨t4, k4, rfl, hbk, hle, htk, hf⟩; (have HF4 := Lib.hid (tr0 HF3.out hf)); (have HO4 := Lib.hid (And.intro (Nat.lt_of_lt_of_le (show k3 < _ from HB3.out.k.lt) hle) htk)); (have HB1 := Lib.hid (HB1.out.fr0 hf)); (have HB2 := Lib.hid (HB2.out.fr0 hf)); (have HB3 := Lib.hid (HB3.out.fr0 hf)); (have HB4 := Lib.hid hbk); clear hbk hle htk hf)
    | (go_at_call 50; (have hz_ := HB2); clear hz_; refine (book50x _).mono ?_; rintro e w3 ⟨t3, k3, rfl, hbk, hle, htk, hf⟩; (have HF3 := Lib.hid (tr0 HF2.out hf)); (have HO3 := Lib.hid (And.intro (Nat.lt_of_lt_of_le (show k2 < _ from HB2.out.k.lt) hle) htk)); (have HB1 := Lib.hid (HB1.out.fr0 hf)); (have HB2 := Lib.hid (HB2.out.fr0 hf)); (have HB3 := Lib.hid hbk); clear hbk hle htk hf)
    | (go_at_call 50; (have hz_ := HB1); clear hz_; refine (book50x _).mono ?_; rintro e w2 ⟨t2, k2, rfl, hbk, hle, htk, hf⟩; (have HF2 := Lib.hid (tr0 HF1.out hf)); (have HO2 := Lib.hid (And.intro (Nat.lt_of_lt_of_le (show k1 < _ from HB1.out.k.lt) hle) htk)); (have HB1 := Lib.hid (HB1.out.fr0 hf)); (have HB2 := Lib.hid hbk); clear hbk hle htk hf)
    | (go_at_call 50; refine (book50x _).mono ?_; rintro e w1 ⟨t1, k1, rfl, hbk, hle, htk, hf⟩; (have HF1 := Lib.hid (tr0 (Fr.refl _ _) hf)); (have HO1 := Lib.hid (And.intro (hle) htk)); (have HB1 := Lib.hid hbk); clear hbk hle htk hf))
  have hx0 : Bx (w9.alloc (.cells #[.slice none 0 0, .int .i64 0, .int .i64 0, .slice none 0 0, .slice (some ⟨t1, 0, none⟩) 2 2, .int .i64 (-2), .int .i64 2, .slice (some ⟨k1, 0, none⟩) 3 3, .slice (some ⟨t2, 0, none⟩) 2 2, .int .i64 (-2), .int .i64 2, .slice (some ⟨k2, 0, none⟩) 3 3, .slice (some ⟨t3, 0, none⟩) 2 2, .int .i64 (-2), .int .i64 2, .slice (some ⟨k3, 0, none⟩) 3 3, .slice (some ⟨t4, 0, none⟩) 2 2, .int .i64 (-2), .int .i64 2, .slice (some ⟨k4, 0, none⟩) 3 3, .slice (some ⟨t5, 0, none⟩) 2 2, .int .i64 (-2), .int .i64 2, .slice (some ⟨k5, 0, none⟩) 3 3, .slice (some ⟨t6, 0, none⟩) 2 2, .int .i64 (-2), .int .i64 2, .slice (some ⟨k6, 0, none⟩) 3 3, .slice (some ⟨t7, 0, none⟩) 2 2, .int .i64 (-2), .int .i64 2, .slice (some ⟨k7, 0, none⟩) 3 3, .slice (some ⟨t8, 0, none⟩) 2 2, .int .i64 (-2), .int .i64 2, .slice (some ⟨k8, 0, none⟩) 3 3, .slice (some ⟨t9, 0, none⟩) 2 2, .int .i64 (-2), .int .i64 2, .slice (some ⟨k9, 0, none⟩) 3 3] 27)) w9.heap.size 27 #[.slice none 0 0, .int .i64 0, .int .i64 0, .slice none 0 0, .slice (some ⟨t1, 0, none⟩) 2 2, .int .i64 (-2), .int .i64 2, .slice (some ⟨k1, 0, none⟩) 3 3, .slice (some ⟨t2, 0, none⟩) 2 2, .int .i64 (-2), .int .i64 2, .slice (some ⟨k2, 0, none⟩) 3 3, .slice (some ⟨t3, 0, none⟩) 2 2, .int .i64 (-2), .int .i64 2, .slice (some ⟨k3, 0, none⟩) 3 3, .slice (some ⟨t4, 0, none⟩) 2 2, .int .i64 (-2), .int .i64 2, .slice (some ⟨k4, 0, none⟩) 3 3, .slice (some ⟨t5, 0, none⟩) 2 2, .int .i64 (-2), .int .i64 2, .slice (some ⟨k5, 0, none⟩) 3 3, .slice (some ⟨t6, 0, none⟩) 2 2, .int .i64 (-2), .int .i64 2, .slice (some ⟨k6, 0, none⟩) 3 3, .slice (some ⟨t7, 0, none⟩) 2 2, .int .i64 (-2), .int .i64 2, .slice (some ⟨k7, 0, none⟩) 3 3, .slice (some ⟨t8, 0, none⟩) 2 2, .int .i64 (-2), .int .i64 2, .slice (some ⟨k8, 0, none⟩) 3 3, .slice (some ⟨t9, 0, none⟩) 2 2, .int .i64 (-2), .int .i64 2, .slice (some ⟨k9, 0, none⟩) 3 3] := Bx.of_new rfl
  have hf0 : Fr0 w (w9.alloc (.cells #[.slice none 0 0, .int .i64 0, .int .i64 0, .slice none 0 0, .slice (some ⟨t1, 0, none⟩) 2 2, .int .i64 (-2), .int .i64 2, .slice (some ⟨k1, 0, none⟩) 3 3, .slice (some ⟨t2, 0, none⟩) 2 2, .int .i64 (-2), .int .i64 2, .slice (some ⟨k2, 0, none⟩) 3 3, .slice (some ⟨t3, 0, none⟩) 2 2, .int .i64 (-2), .int .i64 2, .slice (some ⟨k3, 0, none⟩) 3 3, .slice (some ⟨t4, 0, none⟩) 2 2, .int .i64 (-2), .int .i64 2, .slice (some ⟨k4, 0, none⟩) 3 3, .slice (some ⟨t5, 0, none⟩) 2 2, .int .i64 (-2), .int .i64 2, .slice (some ⟨k5, 0, none⟩) 3 3, .slice (some ⟨t6, 0, none⟩) 2 2, .int .i64 (-2), .int .i64 2, .slice (some ⟨k6, 0, none⟩) 3 3, .slice (some ⟨t7, 0, none⟩) 2 2, .int .i64 (-2), .int .i64 2, .slice (some ⟨k7, 0, none⟩) 3 3, .slice (some ⟨t8, 0, none⟩) 2 2, .int .i64 (-2), .int .i64 2, .slice (some ⟨k8, 0, none⟩) 3 3, .slice (some ⟨t9, 0, none⟩) 2 2, .int .i64 (-2), .int .i64 2, .slice (some ⟨k9, 0, none⟩) 3 3] 27)) := HF9.out.alloc _
  have hfa : Fr0 w9 (w9.alloc (.cells #[.slice none 0 0, .int .i64 0, .int .i64 0, .slice none 0 0, .slice (some ⟨t1, 0, none⟩) 2 2, .int .i64 (-2), .int .i64 2, .slice (some ⟨k1, 0, none⟩) 3 3, .slice (some ⟨t2, 0, none⟩) 2 2, .int .i64 (-2), .int .i64 2, .slice (some ⟨k2, 0, none⟩) 3 3, .slice (some ⟨t3, 0, none⟩) 2 2, .int .i64 (-2), .int .i64 2, .slice (some ⟨k3, 0, none⟩) 3 3, .slice (some ⟨t4, 0, none⟩) 2 2, .int .i64 (-2), .int .i64 2, .slice (some ⟨k4, 0, none⟩) 3 3, .slice (some ⟨t5, 0, none⟩) 2 2, .int .i64 (-2), .int .i64 2, .slice (some ⟨k5, 0, none⟩) 3 3, .slice (some ⟨t6, 0, none⟩) 2 2, .int .i64 (-2), .int .i64 2, .slice (some ⟨k6, 0, none⟩) 3 3, .slice (some ⟨t7, 0, none⟩) 2 2, .int .i64 (-2), .int .i64 2, .slice (some ⟨k7, 0, none⟩) 3 3, .slice (some ⟨t8, 0, none⟩) 2 2, .int .i64 (-2), .int .i64 2, .slice (some ⟨k8, 0, none⟩) 3 3, .slice (some ⟨t9, 0, none⟩) 2 2, .int .i64 (-2), .int .i64 2, .slice (some ⟨k9, 0, none⟩) 3 3] 27)) := (Fr.refl _ _).alloc _
  have ho : (w.heap.size ≤ t1 ∧ t1 < k1) ∧ (k1 < t2 ∧ t2 < k2) ∧ (k2 < t3 ∧ t3 < k3) ∧ (k3 < t4 ∧ t4 < k4) ∧ (k4 < t5 ∧ t5 < k5) ∧ (k5 < t6 ∧ t6 < k6) ∧ (k6 < t7 ∧ t7 < k7) ∧ (k7 < t8 ∧ t8 < k8) ∧ (k8 < t9 ∧ t9 < k9) ∧ k9 < w9.heap.size := ⟨HO1.out, HO2.out, HO3.out, HO4.out, HO5.out, HO6.out, HO7.out, HO8.out, HO9.out, HB9.out.k.lt⟩
  clear HO1 HF1 HO2 HF2 HO3 HF3 HO4 HF4 HO5 HF5 HO6 HF6 HO7 HF7 HO8 HF8 HO9 HF9
  generalize hgx : w9.heap.size = gx at hx0 ho ⊢
  generalize hW : w9.alloc (.cells #[.slice none 0 0, .int .i64 0, .int .i64 0, .slice none 0 0, .slice (some ⟨t1, 0, none⟩) 2 2, .int .i64 (-2), .int .i64 2, .slice (some ⟨k1, 0, none⟩) 3 3, .slice (some ⟨t2, 0, none⟩) 2 2, .int .i64 (-2), .int .i64 2, .slice (some ⟨k2, 0, none⟩) 3 3, .slice (some ⟨t3, 0, none⟩) 2 2, .int .i64 (-2), .int .i64 2, .slice (some ⟨k3, 0, none⟩) 3 3, .slice (some ⟨t4, 0, none⟩) 2 2, .int .i64 (-2), .int .i64 2, .slice (some ⟨k4, 0, none⟩) 3 3, .slice (some ⟨t5, 0, none⟩) 2 2, .int .i64 (-2), .int .i64 2, .slice (some ⟨k5, 0, none⟩) 3 3, .slice (some ⟨t6, 0, none⟩) 2 2, .int .i64 (-2), .int .i64 2, .slice (some ⟨k6, 0, none⟩) 3 3, .slice (some ⟨t7, 0, none⟩) 2 2, .int .i64 (-2), .int .i64 2, .slice (some ⟨k7, 0, none⟩) 3 3, .slice (some ⟨t8, 0, none⟩) 2 2, .int .i64 (-2), .int .i64 2, .slice (some ⟨k8, 0, none⟩) 3 3, .slice (some ⟨t9, 0, none⟩) 2 2, .int .i64 (-2), .int .i64 2, .slice (some ⟨k9, 0, none⟩) 3 3] 27) = W at hx0 hf0 hfa ⊢
  clear hW hgx
  have HB1 := Lib.hid (HB1.out.fr0 hfa)
  have HB2 := Lib.hid (HB2.out.fr0 hfa)
  have HB3 := Lib.hid (HB3.out.fr0 hfa)
  have HB4 := Lib.hid (HB4.out.fr0 hfa)
  have HB5 := Lib.hid (HB5.out.fr0 hfa)
  have HB6 := Lib.hid (HB6.out.fr0 hfa)
  have HB7 := Lib.hid (HB7.out.fr0 hfa)
  have HB8 := Lib.hid (HB8.out.fr0 hfa)
  have HB9 := Lib.hid (HB9.out.fr0 hfa)
  have HO := Lib.hid ho
  have HX := Lib.hid hx0
  have HF := Lib.hid hf0
  clear ho hx0 hf0 hfa
  have x4 := HX.out.at_ 4 (v := .slice (some ⟨t1, 0, none⟩) 2 2) rfl
  have z4 := HX.out.frz 4
  have hlt : gx < W.heap.size := HX.out.lt
  have hlt1 : gx < W.heap.size + 1 := by omega
  have hmk := mk22
  as_aux_lemma =>
  go_upto_region 3 with fail
  have hf' : Fr0 w ((W.setCell ⟨gx, 4, none⟩ (.slice (some ⟨W.heap.size, 0, none⟩) 5 5)).alloc (.cells #[.int .i64 0, .int .i64 0, .int .i64 0, .int .i64 0, .int .i64 0, .int .i64 0, .int .i64 0, .int .i64 0, .int .i64 0, .int .i64 0, .int .i64 0, .int .i64 0, .int .i64 0, .int .i64 0, .int .i64 0] 57)) := ((HF.out.setCell (.inr (by have ho := HO.out; simp only; omega)) _).alloc _)
  have hx' : Bx ((W.setCell ⟨gx, 4, none⟩ (.slice (some ⟨W.heap.size, 0, none⟩) 5 5)).alloc (.cells #[.int .i64 0, .int .i64 0, .int .i64 0, .int .i64 0, .int .i64 0, .int .i64 0, .int .i64 0, .int .i64 0, .int .i64 0, .int .i64 0, .int .i64 0, .int .i64 0, .int .i64 0, .int .i64 0, .int .i64 0] 57)) gx 27 #[.slice none 0 0, .int .i64 0, .int .i64 0, .slice none 0 0, .slice (some ⟨W.heap.size, 0, none⟩) 5 5, .int .i64 (-2), .int .i64 2, .slice (some ⟨k1, 0, none⟩) 3 3, .slice (some ⟨t2, 0, none⟩) 2 2, .int .i64 (-2), .int .i64 2, .slice (some ⟨k2, 0, none⟩) 3 3, .slice (some ⟨t3, 0, none⟩) 2 2, .int .i64 (-2), .int .i64 2, .slice (some ⟨k3, 0, none⟩) 3 3, .slice (some ⟨t4, 0, none⟩) 2 2, .int .i64 (-2), .int .i64 2, .slice (some ⟨k4, 0, none⟩) 3 3, .slice (some ⟨t5, 0, none⟩) 2 2, .int .i64 (-2), .int .i64 2, .slice (some ⟨k5, 0, none⟩) 3 3, .slice (some ⟨t6, 0, none⟩) 2 2, .int .i64 (-2), .int .i64 2, .slice (some ⟨k6, 0, none⟩) 3 3, .slice (some ⟨t7, 0, none⟩) 2 2, .int .i64 (-2), .int .i64 2, .slice (some ⟨k7, 0, none⟩) 3 3, .slice (some ⟨t8, 0, none⟩) 2 2, .int .i64 (-2), .int .i64 2, .slice (some ⟨k8, 0, none⟩) 3 3, .slice (some ⟨t9, 0, none⟩) 2 2, .int .i64 (-2), .int .i64 2, .slice (some ⟨k9, 0, none⟩) 3 3] := ((Bx.set_ HX.out 4 _).fr0 ((Fr.refl _ _).alloc _))
  have hb1 : BookP ((W.setCell ⟨gx, 4, none⟩ (.slice (some ⟨W.heap.size, 0, none⟩) 5 5)).alloc (.cells #[.int .i64 0, .int .i64 0, .int .i64 0, .int .i64 0, .int .i64 0, .int .i64 0, .int .i64 0, .int .i64 0, .int .i64 0, .int .i64 0, .int .i64 0, .int .i64 0, .int .i64 0, .int .i64 0, .int .i64 0] 57)) t1 k1 T0 K0 := ((BookP.far HB1.out (by have ho := HO.out; simp only; omega) (by have ho := HO.out; simp only; omega) _).fr0 ((Fr.refl _ _).alloc _))
  have hb2 : BookP ((W.setCell ⟨gx, 4, none⟩ (.slice (some ⟨W.heap.size, 0, none⟩) 5 5)).alloc (.cells #[.int .i64 0, .int .i64 0, .int .i64 0, .int .i64 0, .int .i64 0, .int .i64 0, .int .i64 0, .int .i64 0, .int .i64 0, .int .i64 0, .int .i64 0, .int .i64 0, .int .i64 0, .int .i64 0, .int .i64 0] 57)) t2 k2 T0 K0 := ((BookP.far HB2.out (by have ho := HO.out; simp only; omega) (by have ho := HO.out; simp only; omega) _).fr0 ((Fr.refl _ _).alloc _))
  have hb3 : BookP ((W.setCell ⟨gx, 4, none⟩ (.slice (some ⟨W.heap.size, 0, none⟩) 5 5)).alloc (.cells #[.int .i64 0, .int .i64 0, .int .i64 0, .int .i64 0, .int .i64 0, .int .i64 0, .int .i64 0, .int .i64 0, .int .i64 0, .int .i64 0, .int .i64 0, .int .i64 0, .int .i64 0, .int .i64 0, .int .i64 0] 57)) t3 k3 T0 K0 := ((BookP.far HB3.out (by have ho := HO.out; simp only; omega) (by have ho := HO.out; simp only; omega) _).fr0 ((Fr.refl _ _).alloc _))
  have hb4 : BookP ((W.setCell ⟨gx, 4, none⟩ (.slice (some ⟨W.heap.size, 0, none⟩) 5 5)).alloc (.cells #[.int .i64 0, .int .i64 0, .int .i64 0, .int .i64 0, .int .i64 0, .int .i64 0, .int .i64 0, .int .i64 0, .int .i64 0, .int .i64 0, .int .i64 0, .int .i64 0, .int .i64 0, .int .i64 0, .int .i64 0] 57)) t4 k4 T0 K0 := ((BookP.far HB4.out (by have ho := HO.out; simp only; omega) (by have ho := HO.out; simp only; omega) _).fr0 ((Fr.refl _ _).alloc _))
  have hb5 : BookP ((W.setCell ⟨gx, 4, none⟩ (.slice (some ⟨W.heap.size, 0, none⟩) 5 5)).alloc (.cells #[.int .i64 0, .int .i64 0, .int .i64 0, .int .i64 0, .int .i64 0, .int .i64 0, .int .i64 0, .int .i64 0, .int .i64 0, .int .i64 0, .int .i64 0, .int .i64 0, .int .i64 0, .int .i64 0, .int .i64 0] 57)) t5 k5 T0 K0 := ((BookP.far HB5.out (by have ho := HO.out; simp only; omega) (by have ho := HO.out; simp only; omega) _).fr0 ((Fr.refl _ _).alloc _))
  have hb6 : BookP ((W.setCell ⟨gx, 4, none⟩ (.slice (some ⟨W.heap.size, 0, none⟩) 5 5)).alloc (.cells #[.int .i64 0, .int .i64 0, .int .i64 0, .int .i64 0, .int .i64 0, .int .i64 0, .int .i64 0, .int .i64 0, .int .i64 0, .int .i64 0, .int .i64 0, .int .i64 0, .int .i64 0, .int .i64 0, .int .i64 0] 57)) t6 k6 T0 K0 := ((BookP.far HB6.out (by have ho := HO.out; simp only; omega) (by have ho := HO.out; simp only; omega) _).fr0 ((Fr.refl _ _).alloc _))
  have hb7 : BookP ((W.setCell ⟨gx, 4, none⟩ (.slice (some ⟨W.heap.size, 0, none⟩) 5 5)).alloc (.cells #[.int .i64 0, .int .i64 0, .int .i64 0, .int .i64 0, .int .i64 0, .int .i64 0, .int .i64 0, .int .i64 0, .int .i64 0, .int .i64 0, .int .i64 0, .int .i64 0, .int .i64 0, .int .i64 0, .int .i64 0] 57)) t7 k7 T0 K0 := ((BookP.far HB7.out (by have ho := HO.out; simp only; omega) (by have ho := HO.out; simp only; omega) _).fr0 ((Fr.refl _ _).alloc _))
  have hb8 : BookP ((W.setCell ⟨gx, 4, none⟩ (.slice (some ⟨W.heap.size, 0, none⟩) 5 5)).alloc (.cells #[.int .i64 0, .int .i64 0, .int .i64 0, .int .i64 0, .int .i64 0, .int .i64 0, .int .i64 0, .int .i64 0, .int .i64 0, .int .i64 0, .int .i64 0, .int .i64 0, .int .i64 0, .int .i64 0, .int .i64 0] 57)) t8 k8 T0 K0 := ((BookP.far HB8.out (by have ho := HO.out; simp only; omega) (by have ho := HO.out; simp only; omega) _).fr0 ((Fr.refl _ _).alloc _))
  have hb9 : BookP ((W.setCell ⟨gx, 4, none⟩ (.slice (some ⟨W.heap.size, 0, none⟩) 5 5)).alloc (.cells #[.int .i64 0, .int .i64 0, .int .i64 0, .int .i64 0, .int .i64 0, .int .i64 0, .int .i64 0, .int .i64 0, .int .i64 0, .int .i64 0, .int .i64 0, .int .i64 0, .int .i64 0, .int .i64 0, .int .i64 0] 57)) t9 k9 T0 K0 := ((BookP.far HB9.out (by have ho := HO.out; simp only; omega) (by have ho := HO.out; simp only; omega) _).fr0 ((Fr.refl _ _).alloc _))
  have hn1 : Bx ((W.setCell ⟨gx, 4, none⟩ (.slice (some ⟨W.heap.size, 0, none⟩) 5 5)).alloc (.cells #[.int .i64 0, .int .i64 0, .int .i64 0, .int .i64 0, .int .i64 0, .int .i64 0, .int .i64 0, .int .i64 0, .int .i64 0, .int .i64 0, .int .i64 0, .int .i64 0, .int .i64 0, .int .i64 0, .int .i64 0] 57)) (W.heap.size) 57 #[.int .i64 0, .int .i64 0, .int .i64 0, .int .i64 0, .int .i64 0, .int .i64 0, .int .i64 0, .int .i64 0, .int .i64 0, .int .i64 0, .int .i64 0, .int .i64 0, .int .i64 0, .int .i64 0, .int .i64 0] := (Bx.of_new (by simp))
  have hnn : gx < W.heap.size := HX.out.lt
  clear HF HX HB1 HB2 HB3 HB4 HB5 HB6 HB7 HB8 HB9 x4 z4 hlt hlt1 hmk
  generalize W.heap.size = m0 at *
  generalize hW : ((W.setCell ⟨gx, 4, none⟩ (.slice (some ⟨m0, 0, none⟩) 5 5)).alloc (.cells #[.int .i64 0, .int .i64 0, .int .i64 0, .int .i64 0, .int .i64 0, .int .i64 0, .int .i64 0, .int .i64 0, .int .i64 0, .int .i64 0, .int .i64 0, .int .i64 0, .int .i64 0, .int .i64 0, .int .i64 0] 57)) = V1 at *
  clear hW
  have HF := Lib.hid hf'
  have HX := Lib.hid hx'
  have HB1 := Lib.hid hb1
  have HB2 := Lib.hid hb2
  have HB3 := Lib.hid hb3
  have HB4 := Lib.hid hb4
  have HB5 := Lib.hid hb5
  have HB6 := Lib.hid hb6
  have HB7 := Lib.hid hb7
  have HB8 := Lib.hid hb8
  have HB9 := Lib.hid hb9
  have HNNm0 := Lib.hid hnn
  have HN1 := Lib.hid hn1
  clear hf' hx' hb1 hb2 hb3 hb4 hb5 hb6 hb7 hb8 hb9 hn1 hnn
  as_aux_lemma =>
  have x8 := HX.out.at_ 8 (v := .slice (some ⟨t2, 0, none⟩) 2 2) rfl
  have y0 := HB2.out.t.at_ 0 (v := .int .i64 (-6)) rfl
  have y1 := HB2.out.t.at_ 1 (v := .int .i64 (-4)) rfl
  have u0 := HB2.out.t.frz 0
  have u1 := HB2.out.t.frz 1
  refine start_ (n := 8) (S := fun w' => w'.cell? ⟨gx, 8, none⟩ = some (.slice (some ⟨t2, 0, none⟩) 2 2) ∧ w'.cell? ⟨t2, 0, none⟩ = some (.int .i64 (-6)) ∧ w'.cell? ⟨t2, 1, none⟩ = some (.int .i64 (-4))) (ds := [7]) #[false, false, false, false, false, false, false, false] (by kernel_rfl) rfl rfl ⟨x8, y0, y1⟩ (fun hHeld => ?_)
  refine pure_ (i := 0) (N := some 64) (v := ?_) (a' := ?_) #[true, false, false, false, false, false, false, false] rfl rfl (by kernel_rfl) (fun _ _ _ h => h) (Or.inl ⟨by rfl, ?_⟩) ?_ ?_
  rotate_left
  · intro w'
    go_simp
    with_reducible rfl
  rotate_left
  · simp only [Act.put, List.setIfInBounds_toArray, List.set_cons_zero, List.set_cons_succ, i64_w, i32_w]
    rfl
  refine pure_ (i := 1) (N := some 65) (v := ?_) (a' := ?_) #[true, true, false, false, false, false, false, false] rfl rfl (by kernel_rfl) (fun _ _ _ h => h) (Or.inl ⟨by rfl, ?_⟩) ?_ ?_
  rotate_left
  · intro w'
    go_simp
    with_reducible rfl
  rotate_left
  · simp only [Act.put, List.setIfInBounds_toArray, List.set_cons_zero, List.set_cons_succ, i64_w, i32_w]
    rfl
  refine pure_ (i := 2) (N := some 66) (v := ?_) (a' := ?_) #[true, true, true, false, false, false, false, false] rfl rfl (by kernel_rfl) (fun _ _ _ h => h) (Or.inl ⟨by rfl, ?_⟩) ?_ ?_
  rotate_left
  · intro w'
    go_simp
    with_reducible rfl
  rotate_left
  · simp only [Act.put, List.setIfInBounds_toArray, List.set_cons_zero, List.set_cons_succ, i64_w, i32_w]
    rfl
  refine take_ (i := 3) (N := some 67) (v := ?_) (a' := ?_) #[true, true, true, true, false, false, false, false] rfl rfl (by kernel_rfl) (fun _ _ _ h => h) (Or.inl ⟨by rfl, ?_⟩) hHeld ?_ ?_
  rotate_left
  · rintro w' ⟨s0, s1, s2⟩
    go_simp
    with_reducible rfl
  rotate_left
  · simp only [Act.put, List.setIfInBounds_toArray, List.set_cons_zero, List.set_cons_succ, i64_w, i32_w]
    rfl
  refine one_ (i := 4) (N := some 68) #[true, true, true, true, true, false, false, false] rfl rfl (by kernel_rfl) (by decide) (fun K hK => ?_)
  refine goes_ Tryd.func44 (by kernel_rfl) rfl #[.int .i64 (-31), .int .i64 (-4)] (by rfl) rfl rfl (by simp only [List.map_toArray, List.map_cons, List.map_nil]; rfl) ?_
  with_reducible refine (band44 _ _ _ bd4).mono ?_
  rintro e w4 ⟨rfl, hf4⟩
  refine ⟨_, rfl, ?_⟩
  have H4 := Lib.hid (tr0 (Fr.drew (Fr.refl _ V1)) hf4)
  have f0 := (HB2.out.t.fr0 H4.out).frz 0
  have f1 := (HB2.out.t.fr0 H4.out).frz 1
  refine hK.out _ _ ⟨(H4.out.cell0 x8), (H4.out.cell0 y0), (H4.out.cell0 y1)⟩ (fun hHeld => ?_)
  clear hK K
  refine norm_ (a' := ?_) ?_ ?_
  rotate_left
  · show Act.put _ (some 68) _ = _
    simp only [Act.put, List.setIfInBounds_toArray, List.set_cons_zero, List.set_cons_succ, i64_w, i32_w]
    rfl
  refine pure_ (i := 5) (N := some 69) (v := ?_) (a' := ?_) #[true, true, true, true, true, true, false, false] rfl rfl (by kernel_rfl) (fun _ _ _ h => h) (Or.inl ⟨by rfl, ?_⟩) ?_ ?_
  rotate_left
  · intro w'
    go_simp
    with_reducible rfl
  rotate_left
  · simp only [Act.put, List.setIfInBounds_toArray, List.set_cons_zero, List.set_cons_succ, i64_w, i32_w]
    rfl
  refine pure_ (i := 6) (N := some 70) (v := ?_) (a' := ?_) #[true, true, true, true, true, true, true, false] rfl rfl (by kernel_rfl) (fun _ _ _ h => h) (Or.inl ⟨by rfl, ?_⟩) ?_ ?_
  rotate_left
  · intro w'
    go_simp
    with_reducible rfl
  rotate_left
  · simp only [Act.put, List.setIfInBounds_toArray, List.set_cons_zero, List.set_cons_succ, i64_w, i32_w]
    rfl
  refine last_ (i := 7) (N := none) #[true, true, true, true, true, true, true, true] rfl rfl (by kernel_rfl) (by decide) (fun K hK => ?_)
  refine skip_ (w1 := ?_) (by rfl) rfl ?_ ?_
  rotate_left
  · go_simp
    rfl
  refine hK.out _ _ ?_
  clear hK K
  refine done_ (by kernel_rfl) ?_
  have HF := Lib.hid (tr0 HF.out H4.out)
  have HX := Lib.hid (HX.out.fr0 H4.out)
  have HB1 := Lib.hid (HB1.out.fr0 H4.out)
  have HB2 := Lib.hid (HB2.out.fr0 H4.out)
  have HB3 := Lib.hid (HB3.out.fr0 H4.out)
  have HB4 := Lib.hid (HB4.out.fr0 H4.out)
  have HB5 := Lib.hid (HB5.out.fr0 H4.out)
  have HB6 := Lib.hid (HB6.out.fr0 H4.out)
  have HB7 := Lib.hid (HB7.out.fr0 H4.out)
  have HB8 := Lib.hid (HB8.out.fr0 H4.out)
  have HB9 := Lib.hid (HB9.out.fr0 H4.out)
  have HN1 := Lib.hid (HN1.out.fr0 H4.out)
  have hf' : Fr0 w ((w4.setCell ⟨t2, 0, none⟩ (.int .i64 (-31))).setCell ⟨t2, 1, none⟩ (.int .i64 (-4))) := ((HF.out.setCell (.inr (by have ho := HO.out; simp only; omega)) _).setCell (.inr (by have ho := HO.out; simp only; omega)) _)
  have hx' : Bx ((w4.setCell ⟨t2, 0, none⟩ (.int .i64 (-31))).setCell ⟨t2, 1, none⟩ (.int .i64 (-4))) gx 27 #[.slice none 0 0, .int .i64 0, .int .i64 0, .slice none 0 0, .slice (some ⟨m0, 0, none⟩) 5 5, .int .i64 (-2), .int .i64 2, .slice (some ⟨k1, 0, none⟩) 3 3, .slice (some ⟨t2, 0, none⟩) 2 2, .int .i64 (-2), .int .i64 2, .slice (some ⟨k2, 0, none⟩) 3 3, .slice (some ⟨t3, 0, none⟩) 2 2, .int .i64 (-2), .int .i64 2, .slice (some ⟨k3, 0, none⟩) 3 3, .slice (some ⟨t4, 0, none⟩) 2 2, .int .i64 (-2), .int .i64 2, .slice (some ⟨k4, 0, none⟩) 3 3, .slice (some ⟨t5, 0, none⟩) 2 2, .int .i64 (-2), .int .i64 2, .slice (some ⟨k5, 0, none⟩) 3 3, .slice (some ⟨t6, 0, none⟩) 2 2, .int .i64 (-2), .int .i64 2, .slice (some ⟨k6, 0, none⟩) 3 3, .slice (some ⟨t7, 0, none⟩) 2 2, .int .i64 (-2), .int .i64 2, .slice (some ⟨k7, 0, none⟩) 3 3, .slice (some ⟨t8, 0, none⟩) 2 2, .int .i64 (-2), .int .i64 2, .slice (some ⟨k8, 0, none⟩) 3 3, .slice (some ⟨t9, 0, none⟩) 2 2, .int .i64 (-2), .int .i64 2, .slice (some ⟨k9, 0, none⟩) 3 3] := (Bx.far (Bx.far HX.out (by have ho := HO.out; simp only; omega) _) (by have ho := HO.out; simp only; omega) _)
  have hb1 : BookP ((w4.setCell ⟨t2, 0, none⟩ (.int .i64 (-31))).setCell ⟨t2, 1, none⟩ (.int .i64 (-4))) t1 k1 T0 K0 := (BookP.far (BookP.far HB1.out (by have ho := HO.out; simp only; omega) (by have ho := HO.out; simp only; omega) _) (by have ho := HO.out; simp only; omega) (by have ho := HO.out; simp only; omega) _)
  have hb2 : BookP ((w4.setCell ⟨t2, 0, none⟩ (.int .i64 (-31))).setCell ⟨t2, 1, none⟩ (.int .i64 (-4))) t2 k2 #[.int .i64 (-31), .int .i64 (-4), .int .i64 2, .int .i64 2, .int .i64 3, .int .i64 1] K0 := (BookP.setT (BookP.setT HB2.out (by have ho := HO.out; omega) 0 _) (by have ho := HO.out; omega) 1 _)
  have hb3 : BookP ((w4.setCell ⟨t2, 0, none⟩ (.int .i64 (-31))).setCell ⟨t2, 1, none⟩ (.int .i64 (-4))) t3 k3 T0 K0 := (BookP.far (BookP.far HB3.out (by have ho := HO.out; simp only; omega) (by have ho := HO.out; simp only; omega) _) (by have ho := HO.out; simp only; omega) (by have ho := HO.out; simp only; omega) _)
  have hb4 : BookP ((w4.setCell ⟨t2, 0, none⟩ (.int .i64 (-31))).setCell ⟨t2, 1, none⟩ (.int .i64 (-4))) t4 k4 T0 K0 := (BookP.far (BookP.far HB4.out (by have ho := HO.out; simp only; omega) (by have ho := HO.out; simp only; omega) _) (by have ho := HO.out; simp only; omega) (by have ho := HO.out; simp only; omega) _)
  have hb5 : BookP ((w4.setCell ⟨t2, 0, none⟩ (.int .i64 (-31))).setCell ⟨t2, 1, none⟩ (.int .i64 (-4))) t5 k5 T0 K0 := (BookP.far (BookP.far HB5.out (by have ho := HO.out; simp only; omega) (by have ho := HO.out; simp only; omega) _) (by have ho := HO.out; simp only; omega) (by have ho := HO.out; simp only; omega) _)
  have hb6 : BookP ((w4.setCell ⟨t2, 0, none⟩ (.int .i64 (-31))).setCell ⟨t2, 1, none⟩ (.int .i64 (-4))) t6 k6 T0 K0 := (BookP.far (BookP.far HB6.out (by have ho := HO.out; simp only; omega) (by have ho := HO.out; simp only; omega) _) (by have ho := HO.out; simp only; omega) (by have ho := HO.out; simp only; omega) _)
  have hb7 : BookP ((w4.setCell ⟨t2, 0, none⟩ (.int .i64 (-31))).setCell ⟨t2, 1, none⟩ (.int .i64 (-4))) t7 k7 T0 K0 := (BookP.far (BookP.far HB7.out (by have ho := HO.out; simp only; omega) (by have ho := HO.out; simp only; omega) _) (by have ho := HO.out; simp only; omega) (by have ho := HO.out; simp only; omega) _)
  have hb8 : BookP ((w4.setCell ⟨t2, 0, none⟩ (.int .i64 (-31))).setCell ⟨t2, 1, none⟩ (.int .i64 (-4))) t8 k8 T0 K0 := (BookP.far (BookP.far HB8.out (by have ho := HO.out; simp only; omega) (by have ho := HO.out; simp only; omega) _) (by have ho := HO.out; simp only; omega) (by have ho := HO.out; simp only; omega) _)
  have hb9 : BookP ((w4.setCell ⟨t2, 0, none⟩ (.int .i64 (-31))).setCell ⟨t2, 1, none⟩ (.int .i64 (-4))) t9 k9 T0 K0 := (BookP.far (BookP.far HB9.out (by have ho := HO.out; simp only; omega) (by have ho := HO.out; simp only; omega) _) (by have ho := HO.out; simp only; omega) (by have ho := HO.out; simp only; omega) _)
  have hn1 : Bx ((w4.setCell ⟨t2, 0, none⟩ (.int .i64 (-31))).setCell ⟨t2, 1, none⟩ (.int .i64 (-4))) (m0) 57 #[.int .i64 0, .int .i64 0, .int .i64 0, .int .i64 0, .int .i64 0, .int .i64 0, .int .i64 0, .int .i64 0, .int .i64 0, .int .i64 0, .int .i64 0, .int .i64 0, .int .i64 0, .int .i64 0, .int .i64 0] := (Bx.far (Bx.far HN1.out (by have ho := HO.out; have hn := HNNm0.out; simp only; omega) _) (by have ho := HO.out; have hn := HNNm0.out; simp only; omega) _)
  clear HF HX HB1 HB2 HB3 HB4 HB5 HB6 HB7 HB8 HB9 HN1 x8 y0 y1 u0 u1
  generalize hW : ((w4.setCell ⟨t2, 0, none⟩ (.int .i64 (-31))).setCell ⟨t2, 1, none⟩ (.int .i64 (-4))) = V2 at *
  clear hW
  have HF := Lib.hid hf'
  have HX := Lib.hid hx'
  have HB1 := Lib.hid hb1
  have HB2 := Lib.hid hb2
  have HB3 := Lib.hid hb3
  have HB4 := Lib.hid hb4
  have HB5 := Lib.hid hb5
  have HB6 := Lib.hid hb6
  have HB7 := Lib.hid hb7
  have HB8 := Lib.hid hb8
  have HB9 := Lib.hid hb9
  have HN1 := Lib.hid hn1
  clear hf' hx' hb1 hb2 hb3 hb4 hb5 hb6 hb7 hb8 hb9 hn1
  clear H4
  as_aux_lemma =>
  go_upto_region 4 with fail
  as_aux_lemma =>
  have x8 := HX.out.at_ 12 (v := .slice (some ⟨t3, 0, none⟩) 2 2) rfl
  have y0 := HB3.out.t.at_ 0 (v := .int .i64 (-6)) rfl
  have y1 := HB3.out.t.at_ 1 (v := .int .i64 (-4)) rfl
  have u0 := HB3.out.t.frz 0
  have u1 := HB3.out.t.frz 1
  refine start_ (n := 8) (S := fun w' => w'.cell? ⟨gx, 12, none⟩ = some (.slice (some ⟨t3, 0, none⟩) 2 2) ∧ w'.cell? ⟨t3, 0, none⟩ = some (.int .i64 (-6)) ∧ w'.cell? ⟨t3, 1, none⟩ = some (.int .i64 (-4))) (ds := [7]) #[false, false, false, false, false, false, false, false] (by kernel_rfl) rfl rfl ⟨x8, y0, y1⟩ (fun hHeld => ?_)
  refine pure_ (i := 0) (N := some 71) (v := ?_) (a' := ?_) #[true, false, false, false, false, false, false, false] rfl rfl (by kernel_rfl) (fun _ _ _ h => h) (Or.inl ⟨by rfl, ?_⟩) ?_ ?_
  rotate_left
  · intro w'
    go_simp
    with_reducible rfl
  rotate_left
  · simp only [Act.put, List.setIfInBounds_toArray, List.set_cons_zero, List.set_cons_succ, i64_w, i32_w]
    rfl
  refine pure_ (i := 1) (N := some 72) (v := ?_) (a' := ?_) #[true, true, false, false, false, false, false, false] rfl rfl (by kernel_rfl) (fun _ _ _ h => h) (Or.inl ⟨by rfl, ?_⟩) ?_ ?_
  rotate_left
  · intro w'
    go_simp
    with_reducible rfl
  rotate_left
  · simp only [Act.put, List.setIfInBounds_toArray, List.set_cons_zero, List.set_cons_succ, i64_w, i32_w]
    rfl
  refine pure_ (i := 2) (N := some 73) (v := ?_) (a' := ?_) #[true, true, true, false, false, false, false, false] rfl rfl (by kernel_rfl) (fun _ _ _ h => h) (Or.inl ⟨by rfl, ?_⟩) ?_ ?_
  rotate_left
  · intro w'
    go_simp
    with_reducible rfl
  rotate_left
  · simp only [Act.put, List.setIfInBounds_toArray, List.set_cons_zero, List.set_cons_succ, i64_w, i32_w]
    rfl
  refine take_ (i := 3) (N := some 74) (v := ?_) (a' := ?_) #[true, true, true, true, false, false, false, false] rfl rfl (by kernel_rfl) (fun _ _ _ h => h) (Or.inl ⟨by rfl, ?_⟩) hHeld ?_ ?_
  rotate_left
  · rintro w' ⟨s0, s1, s2⟩
    go_simp
    with_reducible rfl
  rotate_left
  · simp only [Act.put, List.setIfInBounds_toArray, List.set_cons_zero, List.set_cons_succ, i64_w, i32_w]
    rfl
  refine one_ (i := 4) (N := some 75) #[true, true, true, true, true, false, false, false] rfl rfl (by kernel_rfl) (by decide) (fun K hK => ?_)
  refine goes_ Tryd.func44 (by kernel_rfl) rfl #[.int .i64 (-4), .int .i64 (-6)] (by rfl) rfl rfl (by simp only [List.map_toArray, List.map_cons, List.map_nil]; rfl) ?_
  with_reducible refine (band44 _ _ _ bd5).mono ?_
  rintro e w4 ⟨rfl, hf4⟩
  refine ⟨_, rfl, ?_⟩
  have H4 := Lib.hid (tr0 (Fr.drew (Fr.refl _ V2)) hf4)
  have f0 := (HB3.out.t.fr0 H4.out).frz 0
  have f1 := (HB3.out.t.fr0 H4.out).frz 1
  refine hK.out _ _ ⟨(H4.out.cell0 x8), (H4.out.cell0 y0), (H4.out.cell0 y1)⟩ (fun hHeld => ?_)
  clear hK K
  refine norm_ (a' := ?_) ?_ ?_
  rotate_left
  · show Act.put _ (some 75) _ = _
    simp only [Act.put, List.setIfInBounds_toArray, List.set_cons_zero, List.set_cons_succ, i64_w, i32_w]
    rfl
  refine pure_ (i := 5) (N := some 76) (v := ?_) (a' := ?_) #[true, true, true, true, true, true, false, false] rfl rfl (by kernel_rfl) (fun _ _ _ h => h) (Or.inl ⟨by rfl, ?_⟩) ?_ ?_
  rotate_left
  · intro w'
    go_simp
    with_reducible rfl
  rotate_left
  · simp only [Act.put, List.setIfInBounds_toArray, List.set_cons_zero, List.set_cons_succ, i64_w, i32_w]
    rfl
  refine pure_ (i := 6) (N := some 77) (v := ?_) (a' := ?_) #[true, true, true, true, true, true, true, false] rfl rfl (by kernel_rfl) (fun _ _ _ h => h) (Or.inl ⟨by rfl, ?_⟩) ?_ ?_
  rotate_left
  · intro w'
    go_simp
    with_reducible rfl
  rotate_left
  · simp only [Act.put, List.setIfInBounds_toArray, List.set_cons_zero, List.set_cons_succ, i64_w, i32_w]
    rfl
  refine last_ (i := 7) (N := none) #[true, true, true, true, true, true, true, true] rfl rfl (by kernel_rfl) (by decide) (fun K hK => ?_)
  refine skip_ (w1 := ?_) (by rfl) rfl ?_ ?_
  rotate_left
  · go_simp
    rfl
  refine hK.out _ _ ?_
  clear hK K
  refine done_ (by kernel_rfl) ?_
  have HF := Lib.hid (tr0 HF.out H4.out)
  have HX := Lib.hid (HX.out.fr0 H4.out)
  have HB1 := Lib.hid (HB1.out.fr0 H4.out)
  have HB2 := Lib.hid (HB2.out.fr0 H4.out)
  have HB3 := Lib.hid (HB3.out.fr0 H4.out)
  have HB4 := Lib.hid (HB4.out.fr0 H4.out)
  have HB5 := Lib.hid (HB5.out.fr0 H4.out)
  have HB6 := Lib.hid (HB6.out.fr0 H4.out)
  have HB7 := Lib.hid (HB7.out.fr0 H4.out)
  have HB8 := Lib.hid (HB8.out.fr0 H4.out)
  have HB9 := Lib.hid (HB9.out.fr0 H4.out)
  have HN1 := Lib.hid (HN1.out.fr0 H4.out)
  have hf' : Fr0 w ((w4.setCell ⟨t3, 0, none⟩ (.int .i64 (-4))).setCell ⟨t3, 1, none⟩ (.int .i64 (-6))) := ((HF.out.setCell (.inr (by have ho := HO.out; simp only; omega)) _).setCell (.inr (by have ho := HO.out; simp only; omega)) _)
  have hx' : Bx ((w4.setCell ⟨t3, 0, none⟩ (.int .i64 (-4))).setCell ⟨t3, 1, none⟩ (.int .i64 (-6))) gx 27 #[.slice none 0 0, .int .i64 0, .int .i64 0, .slice none 0 0, .slice (some ⟨m0, 0, none⟩) 5 5, .int .i64 (-2), .int .i64 2, .slice (some ⟨k1, 0, none⟩) 3 3, .slice (some ⟨t2, 0, none⟩) 2 2, .int .i64 (-2), .int .i64 2, .slice (some ⟨k2, 0, none⟩) 3 3, .slice (some ⟨t3, 0, none⟩) 2 2, .int .i64 (-2), .int .i64 2, .slice (some ⟨k3, 0, none⟩) 3 3, .slice (some ⟨t4, 0, none⟩) 2 2, .int .i64 (-2), .int .i64 2, .slice (some ⟨k4, 0, none⟩) 3 3, .slice (some ⟨t5, 0, none⟩) 2 2, .int .i64 (-2), .int .i64 2, .slice (some ⟨k5, 0, none⟩) 3 3, .slice (some ⟨t6, 0, none⟩) 2 2, .int .i64 (-2), .int .i64 2, .slice (some ⟨k6, 0, none⟩) 3 3, .slice (some ⟨t7, 0, none⟩) 2 2, .int .i64 (-2), .int .i64 2, .slice (some ⟨k7, 0, none⟩) 3 3, .slice (some ⟨t8, 0, none⟩) 2 2, .int .i64 (-2), .int .i64 2, .slice (some ⟨k8, 0, none⟩) 3 3, .slice (some ⟨t9, 0, none⟩) 2 2, .int .i64 (-2), .int .i64 2, .slice (some ⟨k9, 0, none⟩) 3 3] := (Bx.far (Bx.far HX.out (by have ho := HO.out; simp only; omega) _) (by have ho := HO.out; simp only; omega) _)
  have hb1 : BookP ((w4.setCell ⟨t3, 0, none⟩ (.int .i64 (-4))).setCell ⟨t3, 1, none⟩ (.int .i64 (-6))) t1 k1 T0 K0 := (BookP.far (BookP.far HB1.out (by have ho := HO.out; simp only; omega) (by have ho := HO.out; simp only; omega) _) (by have ho := HO.out; simp only; omega) (by have ho := HO.out; simp only; omega) _)
  have hb2 : BookP ((w4.setCell ⟨t3, 0, none⟩ (.int .i64 (-4))).setCell ⟨t3, 1, none⟩ (.int .i64 (-6))) t2 k2 #[.int .i64 (-31), .int .i64 (-4), .int .i64 2, .int .i64 2, .int .i64 3, .int .i64 1] K0 := (BookP.far (BookP.far HB2.out (by have ho := HO.out; simp only; omega) (by have ho := HO.out; simp only; omega) _) (by have ho := HO.out; simp only; omega) (by have ho := HO.out; simp only; omega) _)
  have hb3 : BookP ((w4.setCell ⟨t3, 0, none⟩ (.int .i64 (-4))).setCell ⟨t3, 1, none⟩ (.int .i64 (-6))) t3 k3 #[.int .i64 (-4), .int .i64 (-6), .int .i64 2, .int .i64 2, .int .i64 3, .int .i64 1] K0 := (BookP.setT (BookP.setT HB3.out (by have ho := HO.out; omega) 0 _) (by have ho := HO.out; omega) 1 _)
  have hb4 : BookP ((w4.setCell ⟨t3, 0, none⟩ (.int .i64 (-4))).setCell ⟨t3, 1, none⟩ (.int .i64 (-6))) t4 k4 T0 K0 := (BookP.far (BookP.far HB4.out (by have ho := HO.out; simp only; omega) (by have ho := HO.out; simp only; omega) _) (by have ho := HO.out; simp only; omega) (by have ho := HO.out; simp only; omega) _)
  have hb5 : BookP ((w4.setCell ⟨t3, 0, none⟩ (.int .i64 (-4))).setCell ⟨t3, 1, none⟩ (.int .i64 (-6))) t5 k5 T0 K0 := (BookP.far (BookP.far HB5.out (by have ho := HO.out; simp only; omega) (by have ho := HO.out; simp only; omega) _) (by have ho := HO.out; simp only; omega) (by have ho := HO.out; simp only; omega) _)
  have hb6 : BookP ((w4.setCell ⟨t3, 0, none⟩ (.int .i64 (-4))).setCell ⟨t3, 1, none⟩ (.int .i64 (-6))) t6 k6 T0 K0 := (BookP.far (BookP.far HB6.out (by have ho := HO.out; simp only; omega) (by have ho := HO.out; simp only; omega) _) (by have ho := HO.out; simp only; omega) (by have ho := HO.out; simp only; omega) _)
  have hb7 : BookP ((w4.setCell ⟨t3, 0, none⟩ (.int .i64 (-4))).setCell ⟨t3, 1, none⟩ (.int .i64 (-6))) t7 k7 T0 K0 := (BookP.far (BookP.far HB7.out (by have ho := HO.out; simp only; omega) (by have ho := HO.out; simp only; omega) _) (by have ho := HO.out; simp only; omega) (by have ho := HO.out; simp only; omega) _)
  have hb8 : BookP ((w4.setCell ⟨t3, 0, none⟩ (.int .i64 (-4))).setCell ⟨t3, 1, none⟩ (.int .i64 (-6))) t8 k8 T0 K0 := (BookP.far (BookP.far HB8.out (by have ho := HO.out; simp only; omega) (by have ho := HO.out; simp only; omega) _) (by have ho := HO.out; simp only; omega) (by have ho := HO.out; simp only; omega) _)
  have hb9 : BookP ((w4.setCell ⟨t3, 0, none⟩ (.int .i64 (-4))).setCell ⟨t3, 1, none⟩ (.int .i64 (-6))) t9 k9 T0 K0 := (BookP.far (BookP.far HB9.out (by have ho := HO.out; simp only; omega) (by have ho := HO.out; simp only; omega) _) (by have ho := HO.out; simp only; omega) (by have ho := HO.out; simp only; omega) _)
  have hn1 : Bx ((w4.setCell ⟨t3, 0, none⟩ (.int .i64 (-4))).setCell ⟨t3, 1, none⟩ (.int .i64 (-6))) (m0) 57 #[.int .i64 0, .int .i64 0, .int .i64 0, .int .i64 0, .int .i64 0, .int .i64 0, .int .i64 0, .int .i64 0, .int .i64 0, .int .i64 0, .int .i64 0, .int .i64 0, .int .i64 0, .int .i64 0, .int .i64 0] := (Bx.far (Bx.far HN1.out (by have ho := HO.out; have hn := HNNm0.out; simp only; omega) _) (by have ho := HO.out; have hn := HNNm0.out; simp only; omega) _)
  clear HF HX HB1 HB2 HB3 HB4 HB5 HB6 HB7 HB8 HB9 HN1 x8 y0 y1 u0 u1
  generalize hW : ((w4.setCell ⟨t3, 0, none⟩ (.int .i64 (-4))).setCell ⟨t3, 1, none⟩ (.int .i64 (-6))) = V3 at *
  clear hW
  have HF := Lib.hid hf'
  have HX := Lib.hid hx'
  have HB1 := Lib.hid hb1
  have HB2 := Lib.hid hb2
  have HB3 := Lib.hid hb3
  have HB4 := Lib.hid hb4
  have HB5 := Lib.hid hb5
  have HB6 := Lib.hid hb6
  have HB7 := Lib.hid hb7
  have HB8 := Lib.hid hb8
  have HB9 := Lib.hid hb9
  have HN1 := Lib.hid hn1
  clear hf' hx' hb1 hb2 hb3 hb4 hb5 hb6 hb7 hb8 hb9 hn1
  clear H4
  have x9 := HX.out.at_ 16 (v := .slice (some ⟨t4, 0, none⟩) 2 2) rfl
  have y5 := HB4.out.t.at_ 5 (v := .int .i64 1) rfl
  have z5 := HB4.out.t.frz 5
  as_aux_lemma =>
  go_upto_region 6 with fail
  have hf' : Fr0 w (V3.setCell ⟨t4, 5, none⟩ (.int .i64 0)) := (HF.out.setCell (.inr (by have ho := HO.out; simp only; omega)) _)
  have hx' : Bx (V3.setCell ⟨t4, 5, none⟩ (.int .i64 0)) gx 27 #[.slice none 0 0, .int .i64 0, .int .i64 0, .slice none 0 0, .slice (some ⟨m0, 0, none⟩) 5 5, .int .i64 (-2), .int .i64 2, .slice (some ⟨k1, 0, none⟩) 3 3, .slice (some ⟨t2, 0, none⟩) 2 2, .int .i64 (-2), .int .i64 2, .slice (some ⟨k2, 0, none⟩) 3 3, .slice (some ⟨t3, 0, none⟩) 2 2, .int .i64 (-2), .int .i64 2, .slice (some ⟨k3, 0, none⟩) 3 3, .slice (some ⟨t4, 0, none⟩) 2 2, .int .i64 (-2), .int .i64 2, .slice (some ⟨k4, 0, none⟩) 3 3, .slice (some ⟨t5, 0, none⟩) 2 2, .int .i64 (-2), .int .i64 2, .slice (some ⟨k5, 0, none⟩) 3 3, .slice (some ⟨t6, 0, none⟩) 2 2, .int .i64 (-2), .int .i64 2, .slice (some ⟨k6, 0, none⟩) 3 3, .slice (some ⟨t7, 0, none⟩) 2 2, .int .i64 (-2), .int .i64 2, .slice (some ⟨k7, 0, none⟩) 3 3, .slice (some ⟨t8, 0, none⟩) 2 2, .int .i64 (-2), .int .i64 2, .slice (some ⟨k8, 0, none⟩) 3 3, .slice (some ⟨t9, 0, none⟩) 2 2, .int .i64 (-2), .int .i64 2, .slice (some ⟨k9, 0, none⟩) 3 3] := (Bx.far HX.out (by have ho := HO.out; simp only; omega) _)
  have hb1 : BookP (V3.setCell ⟨t4, 5, none⟩ (.int .i64 0)) t1 k1 T0 K0 := (BookP.far HB1.out (by have ho := HO.out; simp only; omega) (by have ho := HO.out; simp only; omega) _)
  have hb2 : BookP (V3.setCell ⟨t4, 5, none⟩ (.int .i64 0)) t2 k2 #[.int .i64 (-31), .int .i64 (-4), .int .i64 2, .int .i64 2, .int .i64 3, .int .i64 1] K0 := (BookP.far HB2.out (by have ho := HO.out; simp only; omega) (by have ho := HO.out; simp only; omega) _)
  have hb3 : BookP (V3.setCell ⟨t4, 5, none⟩ (.int .i64 0)) t3 k3 #[.int .i64 (-4), .int .i64 (-6), .int .i64 2, .int .i64 2, .int .i64 3, .int .i64 1] K0 := (BookP.far HB3.out (by have ho := HO.out; simp only; omega) (by have ho := HO.out; simp only; omega) _)
  have hb4 : BookP (V3.setCell ⟨t4, 5, none⟩ (.int .i64 0)) t4 k4 #[.int .i64 (-6), .int .i64 (-4), .int .i64 2, .int .i64 2, .int .i64 3, .int .i64 0] K0 := (BookP.setT HB4.out (by have ho := HO.out; omega) 5 _)
  have hb5 : BookP (V3.setCell ⟨t4, 5, none⟩ (.int .i64 0)) t5 k5 T0 K0 := (BookP.far HB5.out (by have ho := HO.out; simp only; omega) (by have ho := HO.out; simp only; omega) _)
  have hb6 : BookP (V3.setCell ⟨t4, 5, none⟩ (.int .i64 0)) t6 k6 T0 K0 := (BookP.far HB6.out (by have ho := HO.out; simp only; omega) (by have ho := HO.out; simp only; omega) _)
  have hb7 : BookP (V3.setCell ⟨t4, 5, none⟩ (.int .i64 0)) t7 k7 T0 K0 := (BookP.far HB7.out (by have ho := HO.out; simp only; omega) (by have ho := HO.out; simp only; omega) _)
  have hb8 : BookP (V3.setCell ⟨t4, 5, none⟩ (.int .i64 0)) t8 k8 T0 K0 := (BookP.far HB8.out (by have ho := HO.out; simp only; omega) (by have ho := HO.out; simp only; omega) _)
  have hb9 : BookP (V3.setCell ⟨t4, 5, none⟩ (.int .i64 0)) t9 k9 T0 K0 := (BookP.far HB9.out (by have ho := HO.out; simp only; omega) (by have ho := HO.out; simp only; omega) _)
  have hn1 : Bx (V3.setCell ⟨t4, 5, none⟩ (.int .i64 0)) (m0) 57 #[.int .i64 0, .int .i64 0, .int .i64 0, .int .i64 0, .int .i64 0, .int .i64 0, .int .i64 0, .int .i64 0, .int .i64 0, .int .i64 0, .int .i64 0, .int .i64 0, .int .i64 0, .int .i64 0, .int .i64 0] := (Bx.far HN1.out (by have ho := HO.out; have hn := HNNm0.out; simp only; omega) _)
  clear HF HX HB1 HB2 HB3 HB4 HB5 HB6 HB7 HB8 HB9 HN1 x9 y5 z5
  generalize hW : (V3.setCell ⟨t4, 5, none⟩ (.int .i64 0)) = V4 at *
  clear hW
  have HF := Lib.hid hf'
  have HX := Lib.hid hx'
  have HB1 := Lib.hid hb1
  have HB2 := Lib.hid hb2
  have HB3 := Lib.hid hb3
  have HB4 := Lib.hid hb4
  have HB5 := Lib.hid hb5
  have HB6 := Lib.hid hb6
  have HB7 := Lib.hid hb7
  have HB8 := Lib.hid hb8
  have HB9 := Lib.hid hb9
  have HN1 := Lib.hid hn1
  clear hf' hx' hb1 hb2 hb3 hb4 hb5 hb6 hb7 hb8 hb9 hn1
  have x9 := HX.out.at_ 20 (v := .slice (some ⟨t5, 0, none⟩) 2 2) rfl
  have y5 := HB5.out.t.at_ 5 (v := .int .i64 1) rfl
  have z5 := HB5.out.t.frz 5
  as_aux_lemma =>
  go_upto_region 7 with fail
  have hf' : Fr0 w (V4.setCell ⟨t5, 5, none⟩ (.int .i64 11)) := (HF.out.setCell (.inr (by have ho := HO.out; simp only; omega)) _)
  have hx' : Bx (V4.setCell ⟨t5, 5, none⟩ (.int .i64 11)) gx 27 #[.slice none 0 0, .int .i64 0, .int .i64 0, .slice none 0 0, .slice (some ⟨m0, 0, none⟩) 5 5, .int .i64 (-2), .int .i64 2, .slice (some ⟨k1, 0, none⟩) 3 3, .slice (some ⟨t2, 0, none⟩) 2 2, .int .i64 (-2), .int .i64 2, .slice (some ⟨k2, 0, none⟩) 3 3, .slice (some ⟨t3, 0, none⟩) 2 2, .int .i64 (-2), .int .i64 2, .slice (some ⟨k3, 0, none⟩) 3 3, .slice (some ⟨t4, 0, none⟩) 2 2, .int .i64 (-2), .int .i64 2, .slice (some ⟨k4, 0, none⟩) 3 3, .slice (some ⟨t5, 0, none⟩) 2 2, .int .i64 (-2), .int .i64 2, .slice (some ⟨k5, 0, none⟩) 3 3, .slice (some ⟨t6, 0, none⟩) 2 2, .int .i64 (-2), .int .i64 2, .slice (some ⟨k6, 0, none⟩) 3 3, .slice (some ⟨t7, 0, none⟩) 2 2, .int .i64 (-2), .int .i64 2, .slice (some ⟨k7, 0, none⟩) 3 3, .slice (some ⟨t8, 0, none⟩) 2 2, .int .i64 (-2), .int .i64 2, .slice (some ⟨k8, 0, none⟩) 3 3, .slice (some ⟨t9, 0, none⟩) 2 2, .int .i64 (-2), .int .i64 2, .slice (some ⟨k9, 0, none⟩) 3 3] := (Bx.far HX.out (by have ho := HO.out; simp only; omega) _)
  have hb1 : BookP (V4.setCell ⟨t5, 5, none⟩ (.int .i64 11)) t1 k1 T0 K0 := (BookP.far HB1.out (by have ho := HO.out; simp only; omega) (by have ho := HO.out; simp only; omega) _)
  have hb2 : BookP (V4.setCell ⟨t5, 5, none⟩ (.int .i64 11)) t2 k2 #[.int .i64 (-31), .int .i64 (-4), .int .i64 2, .int .i64 2, .int .i64 3, .int .i64 1] K0 := (BookP.far HB2.out (by have ho := HO.out; simp only; omega) (by have ho := HO.out; simp only; omega) _)
  have hb3 : BookP (V4.setCell ⟨t5, 5, none⟩ (.int .i64 11)) t3 k3 #[.int .i64 (-4), .int .i64 (-6), .int .i64 2, .int .i64 2, .int .i64 3, .int .i64 1] K0 := (BookP.far HB3.out (by have ho := HO.out; simp only; omega) (by have ho := HO.out; simp only; omega) _)
  have hb4 : BookP (V4.setCell ⟨t5, 5, none⟩ (.int .i64 11)) t4 k4 #[.int .i64 (-6), .int .i64 (-4), .int .i64 2, .int .i64 2, .int .i64 3, .int .i64 0] K0 := (BookP.far HB4.out (by have ho := HO.out; simp only; omega) (by have ho := HO.out; simp only; omega) _)
  have hb5 : BookP (V4.setCell ⟨t5, 5, none⟩ (.int .i64 11)) t5 k5 #[.int .i64 (-6), .int .i64 (-4), .int .i64 2, .int .i64 2, .int .i64 3, .int .i64 11] K0 := (BookP.setT HB5.out (by have ho := HO.out; omega) 5 _)
  have hb6 : BookP (V4.setCell ⟨t5, 5, none⟩ (.int .i64 11)) t6 k6 T0 K0 := (BookP.far HB6.out (by have ho := HO.out; simp only; omega) (by have ho := HO.out; simp only; omega) _)
  have hb7 : BookP (V4.setCell ⟨t5, 5, none⟩ (.int .i64 11)) t7 k7 T0 K0 := (BookP.far HB7.out (by have ho := HO.out; simp only; omega) (by have ho := HO.out; simp only; omega) _)
  have hb8 : BookP (V4.setCell ⟨t5, 5, none⟩ (.int .i64 11)) t8 k8 T0 K0 := (BookP.far HB8.out (by have ho := HO.out; simp only; omega) (by have ho := HO.out; simp only; omega) _)
  have hb9 : BookP (V4.setCell ⟨t5, 5, none⟩ (.int .i64 11)) t9 k9 T0 K0 := (BookP.far HB9.out (by have ho := HO.out; simp only; omega) (by have ho := HO.out; simp only; omega) _)
  have hn1 : Bx (V4.setCell ⟨t5, 5, none⟩ (.int .i64 11)) (m0) 57 #[.int .i64 0, .int .i64 0, .int .i64 0, .int .i64 0, .int .i64 0, .int .i64 0, .int .i64 0, .int .i64 0, .int .i64 0, .int .i64 0, .int .i64 0, .int .i64 0, .int .i64 0, .int .i64 0, .int .i64 0] := (Bx.far HN1.out (by have ho := HO.out; have hn := HNNm0.out; simp only; omega) _)
  clear HF HX HB1 HB2 HB3 HB4 HB5 HB6 HB7 HB8 HB9 HN1 x9 y5 z5
  generalize hW : (V4.setCell ⟨t5, 5, none⟩ (.int .i64 11)) = V5 at *
  clear hW
  have HF := Lib.hid hf'
  have HX := Lib.hid hx'
  have HB1 := Lib.hid hb1
  have HB2 := Lib.hid hb2
  have HB3 := Lib.hid hb3
  have HB4 := Lib.hid hb4
  have HB5 := Lib.hid hb5
  have HB6 := Lib.hid hb6
  have HB7 := Lib.hid hb7
  have HB8 := Lib.hid hb8
  have HB9 := Lib.hid hb9
  have HN1 := Lib.hid hn1
  clear hf' hx' hb1 hb2 hb3 hb4 hb5 hb6 hb7 hb8 hb9 hn1
  as_aux_lemma =>
  as_aux_lemma =>
  go_upto_region 8 with (first | (go_at_call 44; refine (band44 _ _ _ bd6).mono ?_; rintro e w4 ⟨rfl, hf4⟩; (have H4 := Lib.hid hf4); (have HXc := Lib.hid (HX.out.fr0 hf4)); (have x25 := HXc.out.at_ 25 (v := .int .i64 (-2)) rfl); (have x26 := HXc.out.at_ 26 (v := .int .i64 2) rfl); (have z25 := HXc.out.frz 25); (have z26 := HXc.out.frz 26); clear hf4))
  clear HXc
  have HF := Lib.hid (tr0 HF.out H4.out)
  have HX := Lib.hid (HX.out.fr0 H4.out)
  have HB1 := Lib.hid (HB1.out.fr0 H4.out)
  have HB2 := Lib.hid (HB2.out.fr0 H4.out)
  have HB3 := Lib.hid (HB3.out.fr0 H4.out)
  have HB4 := Lib.hid (HB4.out.fr0 H4.out)
  have HB5 := Lib.hid (HB5.out.fr0 H4.out)
  have HB6 := Lib.hid (HB6.out.fr0 H4.out)
  have HB7 := Lib.hid (HB7.out.fr0 H4.out)
  have HB8 := Lib.hid (HB8.out.fr0 H4.out)
  have HB9 := Lib.hid (HB9.out.fr0 H4.out)
  have HN1 := Lib.hid (HN1.out.fr0 H4.out)
  have hf' : Fr0 w ((w4.setCell ⟨gx, 25, none⟩ (.int .i64 (-61))).setCell ⟨gx, 26, none⟩ (.int .i64 2)) := ((HF.out.setCell (.inr (by have ho := HO.out; simp only; omega)) _).setCell (.inr (by have ho := HO.out; simp only; omega)) _)
  have hx' : Bx ((w4.setCell ⟨gx, 25, none⟩ (.int .i64 (-61))).setCell ⟨gx, 26, none⟩ (.int .i64 2)) gx 27 #[.slice none 0 0, .int .i64 0, .int .i64 0, .slice none 0 0, .slice (some ⟨m0, 0, none⟩) 5 5, .int .i64 (-2), .int .i64 2, .slice (some ⟨k1, 0, none⟩) 3 3, .slice (some ⟨t2, 0, none⟩) 2 2, .int .i64 (-2), .int .i64 2, .slice (some ⟨k2, 0, none⟩) 3 3, .slice (some ⟨t3, 0, none⟩) 2 2, .int .i64 (-2), .int .i64 2, .slice (some ⟨k3, 0, none⟩) 3 3, .slice (some ⟨t4, 0, none⟩) 2 2, .int .i64 (-2), .int .i64 2, .slice (some ⟨k4, 0, none⟩) 3 3, .slice (some ⟨t5, 0, none⟩) 2 2, .int .i64 (-2), .int .i64 2, .slice (some ⟨k5, 0, none⟩) 3 3, .slice (some ⟨t6, 0, none⟩) 2 2, .int .i64 (-61), .int .i64 2, .slice (some ⟨k6, 0, none⟩) 3 3, .slice (some ⟨t7, 0, none⟩) 2 2, .int .i64 (-2), .int .i64 2, .slice (some ⟨k7, 0, none⟩) 3 3, .slice (some ⟨t8, 0, none⟩) 2 2, .int .i64 (-2), .int .i64 2, .slice (some ⟨k8, 0, none⟩) 3 3, .slice (some ⟨t9, 0, none⟩) 2 2, .int .i64 (-2), .int .i64 2, .slice (some ⟨k9, 0, none⟩) 3 3] := (Bx.set_ (Bx.set_ HX.out 25 _) 26 _)
  have hb1 : BookP ((w4.setCell ⟨gx, 25, none⟩ (.int .i64 (-61))).setCell ⟨gx, 26, none⟩ (.int .i64 2)) t1 k1 T0 K0 := (BookP.far (BookP.far HB1.out (by have ho := HO.out; simp only; omega) (by have ho := HO.out; simp only; omega) _) (by have ho := HO.out; simp only; omega) (by have ho := HO.out; simp only; omega) _)
  have hb2 : BookP ((w4.setCell ⟨gx, 25, none⟩ (.int .i64 (-61))).setCell ⟨gx, 26, none⟩ (.int .i64 2)) t2 k2 #[.int .i64 (-31), .int .i64 (-4), .int .i64 2, .int .i64 2, .int .i64 3, .int .i64 1] K0 := (BookP.far (BookP.far HB2.out (by have ho := HO.out; simp only; omega) (by have ho := HO.out; simp only; omega) _) (by have ho := HO.out; simp only; omega) (by have ho := HO.out; simp only; omega) _)
  have hb3 : BookP ((w4.setCell ⟨gx, 25, none⟩ (.int .i64 (-61))).setCell ⟨gx, 26, none⟩ (.int .i64 2)) t3 k3 #[.int .i64 (-4), .int .i64 (-6), .int .i64 2, .int .i64 2, .int .i64 3, .int .i64 1] K0 := (BookP.far (BookP.far HB3.out (by have ho := HO.out; simp only; omega) (by have ho := HO.out; simp only; omega) _) (by have ho := HO.out; simp only; omega) (by have ho := HO.out; simp only; omega) _)
  have hb4 : BookP ((w4.setCell ⟨gx, 25, none⟩ (.int .i64 (-61))).setCell ⟨gx, 26, none⟩ (.int .i64 2)) t4 k4 #[.int .i64 (-6), .int .i64 (-4), .int .i64 2, .int .i64 2, .int .i64 3, .int .i64 0] K0 := (BookP.far (BookP.far HB4.out (by have ho := HO.out; simp only; omega) (by have ho := HO.out; simp only; omega) _) (by have ho := HO.out; simp only; omega) (by have ho := HO.out; simp only; omega) _)
  have hb5 : BookP ((w4.setCell ⟨gx, 25, none⟩ (.int .i64 (-61))).setCell ⟨gx, 26, none⟩ (.int .i64 2)) t5 k5 #[.int .i64 (-6), .int .i64 (-4), .int .i64 2, .int .i64 2, .int .i64 3, .int .i64 11] K0 := (BookP.far (BookP.far HB5.out (by have ho := HO.out; simp only; omega) (by have ho := HO.out; simp only; omega) _) (by have ho := HO.out; simp only; omega) (by have ho := HO.out; simp only; omega) _)
  have hb6 : BookP ((w4.setCell ⟨gx, 25, none⟩ (.int .i64 (-61))).setCell ⟨gx, 26, none⟩ (.int .i64 2)) t6 k6 T0 K0 := (BookP.far (BookP.far HB6.out (by have ho := HO.out; simp only; omega) (by have ho := HO.out; simp only; omega) _) (by have ho := HO.out; simp only; omega) (by have ho := HO.out; simp only; omega) _)
  have hb7 : BookP ((w4.setCell ⟨gx, 25, none⟩ (.int .i64 (-61))).setCell ⟨gx, 26, none⟩ (.int .i64 2)) t7 k7 T0 K0 := (BookP.far (BookP.far HB7.out (by have ho := HO.out; simp only; omega) (by have ho := HO.out; simp only; omega) _) (by have ho := HO.out; simp only; omega) (by have ho := HO.out; simp only; omega) _)
  have hb8 : BookP ((w4.setCell ⟨gx, 25, none⟩ (.int .i64 (-61))).setCell ⟨gx, 26, none⟩ (.int .i64 2)) t8 k8 T0 K0 := (BookP.far (BookP.far HB8.out (by have ho := HO.out; simp only; omega) (by have ho := HO.out; simp only; omega) _) (by have ho := HO.out; simp only; omega) (by have ho := HO.out; simp only; omega) _)
  have hb9 : BookP ((w4.setCell ⟨gx, 25, none⟩ (.int .i64 (-61))).setCell ⟨gx, 26, none⟩ (.int .i64 2)) t9 k9 T0 K0 := (BookP.far (BookP.far HB9.out (by have ho := HO.out; simp only; omega) (by have ho := HO.out; simp only; omega) _) (by have ho := HO.out; simp only; omega) (by have ho := HO.out; simp only; omega) _)
  have hn1 : Bx ((w4.setCell ⟨gx, 25, none⟩ (.int .i64 (-61))).setCell ⟨gx, 26, none⟩ (.int .i64 2)) (m0) 57 #[.int .i64 0, .int .i64 0, .int .i64 0, .int .i64 0, .int .i64 0, .int .i64 0, .int .i64 0, .int .i64 0, .int .i64 0, .int .i64 0, .int .i64 0, .int .i64 0, .int .i64 0, .int .i64 0, .int .i64 0] := (Bx.far (Bx.far HN1.out (by have ho := HO.out; have hn := HNNm0.out; simp only; omega) _) (by have ho := HO.out; have hn := HNNm0.out; simp only; omega) _)
  clear HF HX HB1 HB2 HB3 HB4 HB5 HB6 HB7 HB8 HB9 HN1 x25 x26 z25 z26
  generalize hW : ((w4.setCell ⟨gx, 25, none⟩ (.int .i64 (-61))).setCell ⟨gx, 26, none⟩ (.int .i64 2)) = V6 at *
  clear hW
  have HF := Lib.hid hf'
  have HX := Lib.hid hx'
  have HB1 := Lib.hid hb1
  have HB2 := Lib.hid hb2
  have HB3 := Lib.hid hb3
  have HB4 := Lib.hid hb4
  have HB5 := Lib.hid hb5
  have HB6 := Lib.hid hb6
  have HB7 := Lib.hid hb7
  have HB8 := Lib.hid hb8
  have HB9 := Lib.hid hb9
  have HN1 := Lib.hid hn1
  clear hf' hx' hb1 hb2 hb3 hb4 hb5 hb6 hb7 hb8 hb9 hn1
  clear H4
  as_aux_lemma =>
  have x8 := HX.out.at_ 31 (v := .slice (some ⟨k7, 0, none⟩) 3 3) rfl
  have y0 := HB7.out.k.at_ 0 (v := .int .i64 (5)) rfl
  have y1 := HB7.out.k.at_ 1 (v := .int .i64 (9)) rfl
  have u0 := HB7.out.k.frz 0
  have u1 := HB7.out.k.frz 1
  refine start_ (n := 8) (S := fun w' => w'.cell? ⟨gx, 31, none⟩ = some (.slice (some ⟨k7, 0, none⟩) 3 3) ∧ w'.cell? ⟨k7, 0, none⟩ = some (.int .i64 (5)) ∧ w'.cell? ⟨k7, 1, none⟩ = some (.int .i64 (9))) (ds := [7]) #[false, false, false, false, false, false, false, false] (by kernel_rfl) rfl rfl ⟨x8, y0, y1⟩ (fun hHeld => ?_)
  refine pure_ (i := 0) (N := some 94) (v := ?_) (a' := ?_) #[true, false, false, false, false, false, false, false] rfl rfl (by kernel_rfl) (fun _ _ _ h => h) (Or.inl ⟨by rfl, ?_⟩) ?_ ?_
  rotate_left
  · intro w'
    go_simp
    with_reducible rfl
  rotate_left
  · simp only [Act.put, List.setIfInBounds_toArray, List.set_cons_zero, List.set_cons_succ, i64_w, i32_w]
    rfl
  refine pure_ (i := 1) (N := some 95) (v := ?_) (a' := ?_) #[true, true, false, false, false, false, false, false] rfl rfl (by kernel_rfl) (fun _ _ _ h => h) (Or.inl ⟨by rfl, ?_⟩) ?_ ?_
  rotate_left
  · intro w'
    go_simp
    with_reducible rfl
  rotate_left
  · simp only [Act.put, List.setIfInBounds_toArray, List.set_cons_zero, List.set_cons_succ, i64_w, i32_w]
    rfl
  refine pure_ (i := 2) (N := some 96) (v := ?_) (a' := ?_) #[true, true, true, false, false, false, false, false] rfl rfl (by kernel_rfl) (fun _ _ _ h => h) (Or.inl ⟨by rfl, ?_⟩) ?_ ?_
  rotate_left
  · intro w'
    go_simp
    with_reducible rfl
  rotate_left
  · simp only [Act.put, List.setIfInBounds_toArray, List.set_cons_zero, List.set_cons_succ, i64_w, i32_w]
    rfl
  refine take_ (i := 3) (N := some 97) (v := ?_) (a' := ?_) #[true, true, true, true, false, false, false, false] rfl rfl (by kernel_rfl) (fun _ _ _ h => h) (Or.inl ⟨by rfl, ?_⟩) hHeld ?_ ?_
  rotate_left
  · rintro w' ⟨s0, s1, s2⟩
    go_simp
    with_reducible rfl
  rotate_left
  · simp only [Act.put, List.setIfInBounds_toArray, List.set_cons_zero, List.set_cons_succ, i64_w, i32_w]
    rfl
  refine one_ (i := 4) (N := some 98) #[true, true, true, true, true, false, false, false] rfl rfl (by kernel_rfl) (by decide) (fun K hK => ?_)
  refine goes_ Tryd.func44 (by kernel_rfl) rfl #[.int .i64 (5), .int .i64 (61)] (by rfl) rfl rfl (by simp only [List.map_toArray, List.map_cons, List.map_nil]; rfl) ?_
  with_reducible refine (band44 _ _ _ bd7).mono ?_
  rintro e w4 ⟨rfl, hf4⟩
  refine ⟨_, rfl, ?_⟩
  have H4 := Lib.hid (tr0 (Fr.drew (Fr.refl _ V6)) hf4)
  have f0 := (HB7.out.k.fr0 H4.out).frz 0
  have f1 := (HB7.out.k.fr0 H4.out).frz 1
  refine hK.out _ _ ⟨(H4.out.cell0 x8), (H4.out.cell0 y0), (H4.out.cell0 y1)⟩ (fun hHeld => ?_)
  clear hK K
  refine norm_ (a' := ?_) ?_ ?_
  rotate_left
  · show Act.put _ (some 98) _ = _
    simp only [Act.put, List.setIfInBounds_toArray, List.set_cons_zero, List.set_cons_succ, i64_w, i32_w]
    rfl
  refine pure_ (i := 5) (N := some 99) (v := ?_) (a' := ?_) #[true, true, true, true, true, true, false, false] rfl rfl (by kernel_rfl) (fun _ _ _ h => h) (Or.inl ⟨by rfl, ?_⟩) ?_ ?_
  rotate_left
  · intro w'
    go_simp
    with_reducible rfl
  rotate_left
  · simp only [Act.put, List.setIfInBounds_toArray, List.set_cons_zero, List.set_cons_succ, i64_w, i32_w]
    rfl
  refine pure_ (i := 6) (N := some 100) (v := ?_) (a' := ?_) #[true, true, true, true, true, true, true, false] rfl rfl (by kernel_rfl) (fun _ _ _ h => h) (Or.inl ⟨by rfl, ?_⟩) ?_ ?_
  rotate_left
  · intro w'
    go_simp
    with_reducible rfl
  rotate_left
  · simp only [Act.put, List.setIfInBounds_toArray, List.set_cons_zero, List.set_cons_succ, i64_w, i32_w]
    rfl
  refine last_ (i := 7) (N := none) #[true, true, true, true, true, true, true, true] rfl rfl (by kernel_rfl) (by decide) (fun K hK => ?_)
  refine skip_ (w1 := ?_) (by rfl) rfl ?_ ?_
  rotate_left
  · go_simp
    rfl
  refine hK.out _ _ ?_
  clear hK K
  refine done_ (by kernel_rfl) ?_
  have HF := Lib.hid (tr0 HF.out H4.out)
  have HX := Lib.hid (HX.out.fr0 H4.out)
  have HB1 := Lib.hid (HB1.out.fr0 H4.out)
  have HB2 := Lib.hid (HB2.out.fr0 H4.out)
  have HB3 := Lib.hid (HB3.out.fr0 H4.out)
  have HB4 := Lib.hid (HB4.out.fr0 H4.out)
  have HB5 := Lib.hid (HB5.out.fr0 H4.out)
  have HB6 := Lib.hid (HB6.out.fr0 H4.out)
  have HB7 := Lib.hid (HB7.out.fr0 H4.out)
  have HB8 := Lib.hid (HB8.out.fr0 H4.out)
  have HB9 := Lib.hid (HB9.out.fr0 H4.out)
  have HN1 := Lib.hid (HN1.out.fr0 H4.out)
  have hf' : Fr0 w ((w4.setCell ⟨k7, 0, none⟩ (.int .i64 (5))).setCell ⟨k7, 1, none⟩ (.int .i64 (61))) := ((HF.out.setCell (.inr (by have ho := HO.out; simp only; omega)) _).setCell (.inr (by have ho := HO.out; simp only; omega)) _)
  have hx' : Bx ((w4.setCell ⟨k7, 0, none⟩ (.int .i64 (5))).setCell ⟨k7, 1, none⟩ (.int .i64 (61))) gx 27 #[.slice none 0 0, .int .i64 0, .int .i64 0, .slice none 0 0, .slice (some ⟨m0, 0, none⟩) 5 5, .int .i64 (-2), .int .i64 2, .slice (some ⟨k1, 0, none⟩) 3 3, .slice (some ⟨t2, 0, none⟩) 2 2, .int .i64 (-2), .int .i64 2, .slice (some ⟨k2, 0, none⟩) 3 3, .slice (some ⟨t3, 0, none⟩) 2 2, .int .i64 (-2), .int .i64 2, .slice (some ⟨k3, 0, none⟩) 3 3, .slice (some ⟨t4, 0, none⟩) 2 2, .int .i64 (-2), .int .i64 2, .slice (some ⟨k4, 0, none⟩) 3 3, .slice (some ⟨t5, 0, none⟩) 2 2, .int .i64 (-2), .int .i64 2, .slice (some ⟨k5, 0, none⟩) 3 3, .slice (some ⟨t6, 0, none⟩) 2 2, .int .i64 (-61), .int .i64 2, .slice (some ⟨k6, 0, none⟩) 3 3, .slice (some ⟨t7, 0, none⟩) 2 2, .int .i64 (-2), .int .i64 2, .slice (some ⟨k7, 0, none⟩) 3 3, .slice (some ⟨t8, 0, none⟩) 2 2, .int .i64 (-2), .int .i64 2, .slice (some ⟨k8, 0, none⟩) 3 3, .slice (some ⟨t9, 0, none⟩) 2 2, .int .i64 (-2), .int .i64 2, .slice (some ⟨k9, 0, none⟩) 3 3] := (Bx.far (Bx.far HX.out (by have ho := HO.out; simp only; omega) _) (by have ho := HO.out; simp only; omega) _)
  have hb1 : BookP ((w4.setCell ⟨k7, 0, none⟩ (.int .i64 (5))).setCell ⟨k7, 1, none⟩ (.int .i64 (61))) t1 k1 T0 K0 := (BookP.far (BookP.far HB1.out (by have ho := HO.out; simp only; omega) (by have ho := HO.out; simp only; omega) _) (by have ho := HO.out; simp only; omega) (by have ho := HO.out; simp only; omega) _)
  have hb2 : BookP ((w4.setCell ⟨k7, 0, none⟩ (.int .i64 (5))).setCell ⟨k7, 1, none⟩ (.int .i64 (61))) t2 k2 #[.int .i64 (-31), .int .i64 (-4), .int .i64 2, .int .i64 2, .int .i64 3, .int .i64 1] K0 := (BookP.far (BookP.far HB2.out (by have ho := HO.out; simp only; omega) (by have ho := HO.out; simp only; omega) _) (by have ho := HO.out; simp only; omega) (by have ho := HO.out; simp only; omega) _)
  have hb3 : BookP ((w4.setCell ⟨k7, 0, none⟩ (.int .i64 (5))).setCell ⟨k7, 1, none⟩ (.int .i64 (61))) t3 k3 #[.int .i64 (-4), .int .i64 (-6), .int .i64 2, .int .i64 2, .int .i64 3, .int .i64 1] K0 := (BookP.far (BookP.far HB3.out (by have ho := HO.out; simp only; omega) (by have ho := HO.out; simp only; omega) _) (by have ho := HO.out; simp only; omega) (by have ho := HO.out; simp only; omega) _)
  have hb4 : BookP ((w4.setCell ⟨k7, 0, none⟩ (.int .i64 (5))).setCell ⟨k7, 1, none⟩ (.int .i64 (61))) t4 k4 #[.int .i64 (-6), .int .i64 (-4), .int .i64 2, .int .i64 2, .int .i64 3, .int .i64 0] K0 := (BookP.far (BookP.far HB4.out (by have ho := HO.out; simp only; omega) (by have ho := HO.out; simp only; omega) _) (by have ho := HO.out; simp only; omega) (by have ho := HO.out; simp only; omega) _)
  have hb5 : BookP ((w4.setCell ⟨k7, 0, none⟩ (.int .i64 (5))).setCell ⟨k7, 1, none⟩ (.int .i64 (61))) t5 k5 #[.int .i64 (-6), .int .i64 (-4), .int .i64 2, .int .i64 2, .int .i64 3, .int .i64 11] K0 := (BookP.far (BookP.far HB5.out (by have ho := HO.out; simp only; omega) (by have ho := HO.out; simp only; omega) _) (by have ho := HO.out; simp only; omega) (by have ho := HO.out; simp only; omega) _)
  have hb6 : BookP ((w4.setCell ⟨k7, 0, none⟩ (.int .i64 (5))).setCell ⟨k7, 1, none⟩ (.int .i64 (61))) t6 k6 T0 K0 := (BookP.far (BookP.far HB6.out (by have ho := HO.out; simp only; omega) (by have ho := HO.out; simp only; omega) _) (by have ho := HO.out; simp only; omega) (by have ho := HO.out; simp only; omega) _)
  have hb7 : BookP ((w4.setCell ⟨k7, 0, none⟩ (.int .i64 (5))).setCell ⟨k7, 1, none⟩ (.int .i64 (61))) t7 k7 T0 #[.int .i64 (5), .int .i64 (61), .int .i64 6, .int .i64 (-7), .int .i64 (-5), .int .i64 3, .int .i64 20, .int .i64 21, .int .i64 6] := (BookP.setK (BookP.setK HB7.out (by have ho := HO.out; omega) 0 _) (by have ho := HO.out; omega) 1 _)
  have hb8 : BookP ((w4.setCell ⟨k7, 0, none⟩ (.int .i64 (5))).setCell ⟨k7, 1, none⟩ (.int .i64 (61))) t8 k8 T0 K0 := (BookP.far (BookP.far HB8.out (by have ho := HO.out; simp only; omega) (by have ho := HO.out; simp only; omega) _) (by have ho := HO.out; simp only; omega) (by have ho := HO.out; simp only; omega) _)
  have hb9 : BookP ((w4.setCell ⟨k7, 0, none⟩ (.int .i64 (5))).setCell ⟨k7, 1, none⟩ (.int .i64 (61))) t9 k9 T0 K0 := (BookP.far (BookP.far HB9.out (by have ho := HO.out; simp only; omega) (by have ho := HO.out; simp only; omega) _) (by have ho := HO.out; simp only; omega) (by have ho := HO.out; simp only; omega) _)
  have hn1 : Bx ((w4.setCell ⟨k7, 0, none⟩ (.int .i64 (5))).setCell ⟨k7, 1, none⟩ (.int .i64 (61))) (m0) 57 #[.int .i64 0, .int .i64 0, .int .i64 0, .int .i64 0, .int .i64 0, .int .i64 0, .int .i64 0, .int .i64 0, .int .i64 0, .int .i64 0, .int .i64 0, .int .i64 0, .int .i64 0, .int .i64 0, .int .i64 0] := (Bx.far (Bx.far HN1.out (by have ho := HO.out; have hn := HNNm0.out; simp only; omega) _) (by have ho := HO.out; have hn := HNNm0.out; simp only; omega) _)
  clear HF HX HB1 HB2 HB3 HB4 HB5 HB6 HB7 HB8 HB9 HN1 x8 y0 y1 u0 u1
  generalize hW : ((w4.setCell ⟨k7, 0, none⟩ (.int .i64 (5))).setCell ⟨k7, 1, none⟩ (.int .i64 (61))) = V7 at *
  clear hW
  have HF := Lib.hid hf'
  have HX := Lib.hid hx'
  have HB1 := Lib.hid hb1
  have HB2 := Lib.hid hb2
  have HB3 := Lib.hid hb3
  have HB4 := Lib.hid hb4
  have HB5 := Lib.hid hb5
  have HB6 := Lib.hid hb6
  have HB7 := Lib.hid hb7
  have HB8 := Lib.hid hb8
  have HB9 := Lib.hid hb9
  have HN1 := Lib.hid hn1
  clear hf' hx' hb1 hb2 hb3 hb4 hb5 hb6 hb7 hb8 hb9 hn1
  clear H4
  have x9 := HX.out.at_ 35 (v := .slice (some ⟨k8, 0, none⟩) 3 3) rfl
  have y2 := HB8.out.k.at_ 2 (v := .int .i64 6) rfl
  have z2 := HB8.out.k.frz 2
  as_aux_lemma =>
  go_upto_region 10 with fail
  have hf' : Fr0 w (V7.setCell ⟨k8, 2, none⟩ (.int .i64 31)) := (HF.out.setCell (.inr (by have ho := HO.out; simp only; omega)) _)
  have hx' : Bx (V7.setCell ⟨k8, 2, none⟩ (.int .i64 31)) gx 27 #[.slice none 0 0, .int .i64 0, .int .i64 0, .slice none 0 0, .slice (some ⟨m0, 0, none⟩) 5 5, .int .i64 (-2), .int .i64 2, .slice (some ⟨k1, 0, none⟩) 3 3, .slice (some ⟨t2, 0, none⟩) 2 2, .int .i64 (-2), .int .i64 2, .slice (some ⟨k2, 0, none⟩) 3 3, .slice (some ⟨t3, 0, none⟩) 2 2, .int .i64 (-2), .int .i64 2, .slice (some ⟨k3, 0, none⟩) 3 3, .slice (some ⟨t4, 0, none⟩) 2 2, .int .i64 (-2), .int .i64 2, .slice (some ⟨k4, 0, none⟩) 3 3, .slice (some ⟨t5, 0, none⟩) 2 2, .int .i64 (-2), .int .i64 2, .slice (some ⟨k5, 0, none⟩) 3 3, .slice (some ⟨t6, 0, none⟩) 2 2, .int .i64 (-61), .int .i64 2, .slice (some ⟨k6, 0, none⟩) 3 3, .slice (some ⟨t7, 0, none⟩) 2 2, .int .i64 (-2), .int .i64 2, .slice (some ⟨k7, 0, none⟩) 3 3, .slice (some ⟨t8, 0, none⟩) 2 2, .int .i64 (-2), .int .i64 2, .slice (some ⟨k8, 0, none⟩) 3 3, .slice (some ⟨t9, 0, none⟩) 2 2, .int .i64 (-2), .int .i64 2, .slice (some ⟨k9, 0, none⟩) 3 3] := (Bx.far HX.out (by have ho := HO.out; simp only; omega) _)
  have hb1 : BookP (V7.setCell ⟨k8, 2, none⟩ (.int .i64 31)) t1 k1 T0 K0 := (BookP.far HB1.out (by have ho := HO.out; simp only; omega) (by have ho := HO.out; simp only; omega) _)
  have hb2 : BookP (V7.setCell ⟨k8, 2, none⟩ (.int .i64 31)) t2 k2 #[.int .i64 (-31), .int .i64 (-4), .int .i64 2, .int .i64 2, .int .i64 3, .int .i64 1] K0 := (BookP.far HB2.out (by have ho := HO.out; simp only; omega) (by have ho := HO.out; simp only; omega) _)
  have hb3 : BookP (V7.setCell ⟨k8, 2, none⟩ (.int .i64 31)) t3 k3 #[.int .i64 (-4), .int .i64 (-6), .int .i64 2, .int .i64 2, .int .i64 3, .int .i64 1] K0 := (BookP.far HB3.out (by have ho := HO.out; simp only; omega) (by have ho := HO.out; simp only; omega) _)
  have hb4 : BookP (V7.setCell ⟨k8, 2, none⟩ (.int .i64 31)) t4 k4 #[.int .i64 (-6), .int .i64 (-4), .int .i64 2, .int .i64 2, .int .i64 3, .int .i64 0] K0 := (BookP.far HB4.out (by have ho := HO.out; simp only; omega) (by have ho := HO.out; simp only; omega) _)
  have hb5 : BookP (V7.setCell ⟨k8, 2, none⟩ (.int .i64 31)) t5 k5 #[.int .i64 (-6), .int .i64 (-4), .int .i64 2, .int .i64 2, .int .i64 3, .int .i64 11] K0 := (BookP.far HB5.out (by have ho := HO.out; simp only; omega) (by have ho := HO.out; simp only; omega) _)
  have hb6 : BookP (V7.setCell ⟨k8, 2, none⟩ (.int .i64 31)) t6 k6 T0 K0 := (BookP.far HB6.out (by have ho := HO.out; simp only; omega) (by have ho := HO.out; simp only; omega) _)
  have hb7 : BookP (V7.setCell ⟨k8, 2, none⟩ (.int .i64 31)) t7 k7 T0 #[.int .i64 (5), .int .i64 (61), .int .i64 6, .int .i64 (-7), .int .i64 (-5), .int .i64 3, .int .i64 20, .int .i64 21, .int .i64 6] := (BookP.far HB7.out (by have ho := HO.out; simp only; omega) (by have ho := HO.out; simp only; omega) _)
  have hb8 : BookP (V7.setCell ⟨k8, 2, none⟩ (.int .i64 31)) t8 k8 T0 #[.int .i64 5, .int .i64 9, .int .i64 31, .int .i64 (-7), .int .i64 (-5), .int .i64 3, .int .i64 20, .int .i64 21, .int .i64 6] := (BookP.setK HB8.out (by have ho := HO.out; omega) 2 _)
  have hb9 : BookP (V7.setCell ⟨k8, 2, none⟩ (.int .i64 31)) t9 k9 T0 K0 := (BookP.far HB9.out (by have ho := HO.out; simp only; omega) (by have ho := HO.out; simp only; omega) _)
  have hn1 : Bx (V7.setCell ⟨k8, 2, none⟩ (.int .i64 31)) (m0) 57 #[.int .i64 0, .int .i64 0, .int .i64 0, .int .i64 0, .int .i64 0, .int .i64 0, .int .i64 0, .int .i64 0, .int .i64 0, .int .i64 0, .int .i64 0, .int .i64 0, .int .i64 0, .int .i64 0, .int .i64 0] := (Bx.far HN1.out (by have ho := HO.out; have hn := HNNm0.out; simp only; omega) _)
  clear HF HX HB1 HB2 HB3 HB4 HB5 HB6 HB7 HB8 HB9 HN1 x9 y2 z2
  generalize hW : (V7.setCell ⟨k8, 2, none⟩ (.int .i64 31)) = V8 at *
  clear hW
  have HF := Lib.hid hf'
  have HX := Lib.hid hx'
  have HB1 := Lib.hid hb1
  have HB2 := Lib.hid hb2
  have HB3 := Lib.hid hb3
  have HB4 := Lib.hid hb4
  have HB5 := Lib.hid hb5
  have HB6 := Lib.hid hb6
  have HB7 := Lib.hid hb7
  have HB8 := Lib.hid hb8
  have HB9 := Lib.hid hb9
  have HN1 := Lib.hid hn1
  clear hf' hx' hb1 hb2 hb3 hb4 hb5 hb6 hb7 hb8 hb9 hn1
  have hmk := mk25
  have x39 := HX.out.at_ 39 (v := .slice (some ⟨k9, 0, none⟩) 3 3) rfl
  have z39 := HX.out.frz 39
  have hlt : gx < V8.heap.size := HX.out.lt
  have hlt1 : gx < V8.heap.size + 1 := by omega
  as_aux_lemma =>
  go_upto_region 11 with fail
  have hf' : Fr0 w ((V8.setCell ⟨gx, 39, none⟩ (.slice (some ⟨V8.heap.size, 0, none⟩) 7 7)).alloc (.cells #[.int .i64 0, .int .i64 0, .int .i64 0, .int .i64 0, .int .i64 0, .int .i64 0, .int .i64 0, .int .i64 0, .int .i64 0, .int .i64 0, .int .i64 0, .int .i64 0, .int .i64 0, .int .i64 0, .int .i64 0, .int .i64 0, .int .i64 0, .int .i64 0, .int .i64 0, .int .i64 0, .int .i64 0] 69)) := ((HF.out.setCell (.inr (by have ho := HO.out; simp only; omega)) _).alloc _)
  have hx' : Bx ((V8.setCell ⟨gx, 39, none⟩ (.slice (some ⟨V8.heap.size, 0, none⟩) 7 7)).alloc (.cells #[.int .i64 0, .int .i64 0, .int .i64 0, .int .i64 0, .int .i64 0, .int .i64 0, .int .i64 0, .int .i64 0, .int .i64 0, .int .i64 0, .int .i64 0, .int .i64 0, .int .i64 0, .int .i64 0, .int .i64 0, .int .i64 0, .int .i64 0, .int .i64 0, .int .i64 0, .int .i64 0, .int .i64 0] 69)) gx 27 #[.slice none 0 0, .int .i64 0, .int .i64 0, .slice none 0 0, .slice (some ⟨m0, 0, none⟩) 5 5, .int .i64 (-2), .int .i64 2, .slice (some ⟨k1, 0, none⟩) 3 3, .slice (some ⟨t2, 0, none⟩) 2 2, .int .i64 (-2), .int .i64 2, .slice (some ⟨k2, 0, none⟩) 3 3, .slice (some ⟨t3, 0, none⟩) 2 2, .int .i64 (-2), .int .i64 2, .slice (some ⟨k3, 0, none⟩) 3 3, .slice (some ⟨t4, 0, none⟩) 2 2, .int .i64 (-2), .int .i64 2, .slice (some ⟨k4, 0, none⟩) 3 3, .slice (some ⟨t5, 0, none⟩) 2 2, .int .i64 (-2), .int .i64 2, .slice (some ⟨k5, 0, none⟩) 3 3, .slice (some ⟨t6, 0, none⟩) 2 2, .int .i64 (-61), .int .i64 2, .slice (some ⟨k6, 0, none⟩) 3 3, .slice (some ⟨t7, 0, none⟩) 2 2, .int .i64 (-2), .int .i64 2, .slice (some ⟨k7, 0, none⟩) 3 3, .slice (some ⟨t8, 0, none⟩) 2 2, .int .i64 (-2), .int .i64 2, .slice (some ⟨k8, 0, none⟩) 3 3, .slice (some ⟨t9, 0, none⟩) 2 2, .int .i64 (-2), .int .i64 2, .slice (some ⟨V8.heap.size, 0, none⟩) 7 7] := ((Bx.set_ HX.out 39 _).fr0 ((Fr.refl _ _).alloc _))
  have hb1 : BookP ((V8.setCell ⟨gx, 39, none⟩ (.slice (some ⟨V8.heap.size, 0, none⟩) 7 7)).alloc (.cells #[.int .i64 0, .int .i64 0, .int .i64 0, .int .i64 0, .int .i64 0, .int .i64 0, .int .i64 0, .int .i64 0, .int .i64 0, .int .i64 0, .int .i64 0, .int .i64 0, .int .i64 0, .int .i64 0, .int .i64 0, .int .i64 0, .int .i64 0, .int .i64 0, .int .i64 0, .int .i64 0, .int .i64 0] 69)) t1 k1 T0 K0 := ((BookP.far HB1.out (by have ho := HO.out; simp only; omega) (by have ho := HO.out; simp only; omega) _).fr0 ((Fr.refl _ _).alloc _))
  have hb2 : BookP ((V8.setCell ⟨gx, 39, none⟩ (.slice (some ⟨V8.heap.size, 0, none⟩) 7 7)).alloc (.cells #[.int .i64 0, .int .i64 0, .int .i64 0, .int .i64 0, .int .i64 0, .int .i64 0, .int .i64 0, .int .i64 0, .int .i64 0, .int .i64 0, .int .i64 0, .int .i64 0, .int .i64 0, .int .i64 0, .int .i64 0, .int .i64 0, .int .i64 0, .int .i64 0, .int .i64 0, .int .i64 0, .int .i64 0] 69)) t2 k2 #[.int .i64 (-31), .int .i64 (-4), .int .i64 2, .int .i64 2, .int .i64 3, .int .i64 1] K0 := ((BookP.far HB2.out (by have ho := HO.out; simp only; omega) (by have ho := HO.out; simp only; omega) _).fr0 ((Fr.refl _ _).alloc _))
  have hb3 : BookP ((V8.setCell ⟨gx, 39, none⟩ (.slice (some ⟨V8.heap.size, 0, none⟩) 7 7)).alloc (.cells #[.int .i64 0, .int .i64 0, .int .i64 0, .int .i64 0, .int .i64 0, .int .i64 0, .int .i64 0, .int .i64 0, .int .i64 0, .int .i64 0, .int .i64 0, .int .i64 0, .int .i64 0, .int .i64 0, .int .i64 0, .int .i64 0, .int .i64 0, .int .i64 0, .int .i64 0, .int .i64 0, .int .i64 0] 69)) t3 k3 #[.int .i64 (-4), .int .i64 (-6), .int .i64 2, .int .i64 2, .int .i64 3, .int .i64 1] K0 := ((BookP.far HB3.out (by have ho := HO.out; simp only; omega) (by have ho := HO.out; simp only; omega) _).fr0 ((Fr.refl _ _).alloc _))
  have hb4 : BookP ((V8.setCell ⟨gx, 39, none⟩ (.slice (some ⟨V8.heap.size, 0, none⟩) 7 7)).alloc (.cells #[.int .i64 0, .int .i64 0, .int .i64 0, .int .i64 0, .int .i64 0, .int .i64 0, .int .i64 0, .int .i64 0, .int .i64 0, .int .i64 0, .int .i64 0, .int .i64 0, .int .i64 0, .int .i64 0, .int .i64 0, .int .i64 0, .int .i64 0, .int .i64 0, .int .i64 0, .int .i64 0, .int .i64 0] 69)) t4 k4 #[.int .i64 (-6), .int .i64 (-4), .int .i64 2, .int .i64 2, .int .i64 3, .int .i64 0] K0 := ((BookP.far HB4.out (by have ho := HO.out; simp only; omega) (by have ho := HO.out; simp only; omega) _).fr0 ((Fr.refl _ _).alloc _))
  have hb5 : BookP ((V8.setCell ⟨gx, 39, none⟩ (.slice (some ⟨V8.heap.size, 0, none⟩) 7 7)).alloc (.cells #[.int .i64 0, .int .i64 0, .int .i64 0, .int .i64 0, .int .i64 0, .int .i64 0, .int .i64 0, .int .i64 0, .int .i64 0, .int .i64 0, .int .i64 0, .int .i64 0, .int .i64 0, .int .i64 0, .int .i64 0, .int .i64 0, .int .i64 0, .int .i64 0, .int .i64 0, .int .i64 0, .int .i64 0] 69)) t5 k5 #[.int .i64 (-6), .int .i64 (-4), .int .i64 2, .int .i64 2, .int .i64 3, .int .i64 11] K0 := ((BookP.far HB5.out (by have ho := HO.out; simp only; omega) (by have ho := HO.out; simp only; omega) _).fr0 ((Fr.refl _ _).alloc _))
  have hb6 : BookP ((V8.setCell ⟨gx, 39, none⟩ (.slice (some ⟨V8.heap.size, 0, none⟩) 7 7)).alloc (.cells #[.int .i64 0, .int .i64 0, .int .i64 0, .int .i64 0, .int .i64 0, .int .i64 0, .int .i64 0, .int .i64 0, .int .i64 0, .int .i64 0, .int .i64 0, .int .i64 0, .int .i64 0, .int .i64 0, .int .i64 0, .int .i64 0, .int .i64 0, .int .i64 0, .int .i64 0, .int .i64 0, .int .i64 0] 69)) t6 k6 T0 K0 := ((BookP.far HB6.out (by have ho := HO.out; simp only; omega) (by have ho := HO.out; simp only; omega) _).fr0 ((Fr.refl _ _).alloc _))
  have hb7 : BookP ((V8.setCell ⟨gx, 39, none⟩ (.slice (some ⟨V8.heap.size, 0, none⟩) 7 7)).alloc (.cells #[.int .i64 0, .int .i64 0, .int .i64 0, .int .i64 0, .int .i64 0, .int .i64 0, .int .i64 0, .int .i64 0, .int .i64 0, .int .i64 0, .int .i64 0, .int .i64 0, .int .i64 0, .int .i64 0, .int .i64 0, .int .i64 0, .int .i64 0, .int .i64 0, .int .i64 0, .int .i64 0, .int .i64 0] 69)) t7 k7 T0 #[.int .i64 (5), .int .i64 (61), .int .i64 6, .int .i64 (-7), .int .i64 (-5), .int .i64 3, .int .i64 20, .int .i64 21, .int .i64 6] := ((BookP.far HB7.out (by have ho := HO.out; simp only; omega) (by have ho := HO.out; simp only; omega) _).fr0 ((Fr.refl _ _).alloc _))
  have hb8 : BookP ((V8.setCell ⟨gx, 39, none⟩ (.slice (some ⟨V8.heap.size, 0, none⟩) 7 7)).alloc (.cells #[.int .i64 0, .int .i64 0, .int .i64 0, .int .i64 0, .int .i64 0, .int .i64 0, .int .i64 0, .int .i64 0, .int .i64 0, .int .i64 0, .int .i64 0, .int .i64 0, .int .i64 0, .int .i64 0, .int .i64 0, .int .i64 0, .int .i64 0, .int .i64 0, .int .i64 0, .int .i64 0, .int .i64 0] 69)) t8 k8 T0 #[.int .i64 5, .int .i64 9, .int .i64 31, .int .i64 (-7), .int .i64 (-5), .int .i64 3, .int .i64 20, .int .i64 21, .int .i64 6] := ((BookP.far HB8.out (by have ho := HO.out; simp only; omega) (by have ho := HO.out; simp only; omega) _).fr0 ((Fr.refl _ _).alloc _))
  have hb9 : BookP ((V8.setCell ⟨gx, 39, none⟩ (.slice (some ⟨V8.heap.size, 0, none⟩) 7 7)).alloc (.cells #[.int .i64 0, .int .i64 0, .int .i64 0, .int .i64 0, .int .i64 0, .int .i64 0, .int .i64 0, .int .i64 0, .int .i64 0, .int .i64 0, .int .i64 0, .int .i64 0, .int .i64 0, .int .i64 0, .int .i64 0, .int .i64 0, .int .i64 0, .int .i64 0, .int .i64 0, .int .i64 0, .int .i64 0] 69)) t9 k9 T0 K0 := ((BookP.far HB9.out (by have ho := HO.out; simp only; omega) (by have ho := HO.out; simp only; omega) _).fr0 ((Fr.refl _ _).alloc _))
  have hn1 : Bx ((V8.setCell ⟨gx, 39, none⟩ (.slice (some ⟨V8.heap.size, 0, none⟩) 7 7)).alloc (.cells #[.int .i64 0, .int .i64 0, .int .i64 0, .int .i64 0, .int .i64 0, .int .i64 0, .int .i64 0, .int .i64 0, .int .i64 0, .int .i64 0, .int .i64 0, .int .i64 0, .int .i64 0, .int .i64 0, .int .i64 0, .int .i64 0, .int .i64 0, .int .i64 0, .int .i64 0, .int .i64 0, .int .i64 0] 69)) (m0) 57 #[.int .i64 0, .int .i64 0, .int .i64 0, .int .i64 0, .int .i64 0, .int .i64 0, .int .i64 0, .int .i64 0, .int .i64 0, .int .i64 0, .int .i64 0, .int .i64 0, .int .i64 0, .int .i64 0, .int .i64 0] := ((Bx.far HN1.out (by have ho := HO.out; have hn := HNNm0.out; simp only; omega) _).fr0 ((Fr.refl _ _).alloc _))
  have hn9 : Bx ((V8.setCell ⟨gx, 39, none⟩ (.slice (some ⟨V8.heap.size, 0, none⟩) 7 7)).alloc (.cells #[.int .i64 0, .int .i64 0, .int .i64 0, .int .i64 0, .int .i64 0, .int .i64 0, .int .i64 0, .int .i64 0, .int .i64 0, .int .i64 0, .int .i64 0, .int .i64 0, .int .i64 0, .int .i64 0, .int .i64 0, .int .i64 0, .int .i64 0, .int .i64 0, .int .i64 0, .int .i64 0, .int .i64 0] 69)) (V8.heap.size) 69 #[.int .i64 0, .int .i64 0, .int .i64 0, .int .i64 0, .int .i64 0, .int .i64 0, .int .i64 0, .int .i64 0, .int .i64 0, .int .i64 0, .int .i64 0, .int .i64 0, .int .i64 0, .int .i64 0, .int .i64 0, .int .i64 0, .int .i64 0, .int .i64 0, .int .i64 0, .int .i64 0, .int .i64 0] := (Bx.of_new (by simp))
  have hnn : gx < V8.heap.size := HX.out.lt
  clear HF HX HB1 HB2 HB3 HB4 HB5 HB6 HB7 HB8 HB9 HN1 hmk x39 z39 hlt hlt1
  generalize V8.heap.size = m8 at *
  generalize hW : ((V8.setCell ⟨gx, 39, none⟩ (.slice (some ⟨m8, 0, none⟩) 7 7)).alloc (.cells #[.int .i64 0, .int .i64 0, .int .i64 0, .int .i64 0, .int .i64 0, .int .i64 0, .int .i64 0, .int .i64 0, .int .i64 0, .int .i64 0, .int .i64 0, .int .i64 0, .int .i64 0, .int .i64 0, .int .i64 0, .int .i64 0, .int .i64 0, .int .i64 0, .int .i64 0, .int .i64 0, .int .i64 0] 69)) = V9 at *
  clear hW
  have HF := Lib.hid hf'
  have HX := Lib.hid hx'
  have HB1 := Lib.hid hb1
  have HB2 := Lib.hid hb2
  have HB3 := Lib.hid hb3
  have HB4 := Lib.hid hb4
  have HB5 := Lib.hid hb5
  have HB6 := Lib.hid hb6
  have HB7 := Lib.hid hb7
  have HB8 := Lib.hid hb8
  have HB9 := Lib.hid hb9
  have HN1 := Lib.hid hn1
  have HNNm8 := Lib.hid hnn
  have HN9 := Lib.hid hn9
  clear hf' hx' hb1 hb2 hb3 hb4 hb5 hb6 hb7 hb8 hb9 hn1 hn9 hnn
  as_aux_lemma =>
  have hg' := HG.out.fr HF.out
  have hbad : BadRow V9 ⟨gx, 0, none⟩ := fun n hn => match n, hn with
    | 0, _ => bad_at HX.out 0 (l0 := []) (lo := 0) (hi := 0) (l3 := []) rfl rfl rfl rfl (Nat.le_refl _) (no_tools _) (Nat.le_refl _) (no_keys _) hg' (by kernel_rfl) (by kernel_rfl)
    | 1, _ => bad_at HX.out 1 (l0 := [⟨⟨0, 0⟩, 0⟩, ⟨⟨0, 0⟩, 0⟩, ⟨⟨0, 0⟩, 0⟩, ⟨⟨0, 0⟩, 0⟩, ⟨⟨0, 0⟩, 0⟩]) (lo := -2) (hi := 2) (l3 := [⟨⟨5, 9⟩, 6⟩, ⟨⟨-7, -5⟩, 3⟩, ⟨⟨20, 21⟩, 6⟩]) rfl rfl rfl rfl (Nat.le_refl _) (tools_C [⟨⟨0, 0⟩, 0⟩, ⟨⟨0, 0⟩, 0⟩, ⟨⟨0, 0⟩, 0⟩, ⟨⟨0, 0⟩, 0⟩, ⟨⟨0, 0⟩, 0⟩] HN1.out rfl (by simp)) (Nat.le_refl _) (keys_C [⟨⟨5, 9⟩, 6⟩, ⟨⟨-7, -5⟩, 3⟩, ⟨⟨20, 21⟩, 6⟩] HB1.out.k rfl (by simp)) hg' (by kernel_rfl) (by kernel_rfl)
    | 2, _ => bad_at HX.out 2 (l0 := [⟨⟨-31, -4⟩, 2⟩, ⟨⟨2, 3⟩, 1⟩]) (lo := -2) (hi := 2) (l3 := [⟨⟨5, 9⟩, 6⟩, ⟨⟨-7, -5⟩, 3⟩, ⟨⟨20, 21⟩, 6⟩]) rfl rfl rfl rfl (Nat.le_refl _) (tools_C [⟨⟨-31, -4⟩, 2⟩, ⟨⟨2, 3⟩, 1⟩] HB2.out.t rfl (by simp)) (Nat.le_refl _) (keys_C [⟨⟨5, 9⟩, 6⟩, ⟨⟨-7, -5⟩, 3⟩, ⟨⟨20, 21⟩, 6⟩] HB2.out.k rfl (by simp)) hg' (by kernel_rfl) (by kernel_rfl)
    | 3, _ => bad_at HX.out 3 (l0 := [⟨⟨-4, -6⟩, 2⟩, ⟨⟨2, 3⟩, 1⟩]) (lo := -2) (hi := 2) (l3 := [⟨⟨5, 9⟩, 6⟩, ⟨⟨-7, -5⟩, 3⟩, ⟨⟨20, 21⟩, 6⟩]) rfl rfl rfl rfl (Nat.le_refl _) (tools_C [⟨⟨-4, -6⟩, 2⟩, ⟨⟨2, 3⟩, 1⟩] HB3.out.t rfl (by simp)) (Nat.le_refl _) (keys_C [⟨⟨5, 9⟩, 6⟩, ⟨⟨-7, -5⟩, 3⟩, ⟨⟨20, 21⟩, 6⟩] HB3.out.k rfl (by simp)) hg' (by kernel_rfl) (by kernel_rfl)
    | 4, _ => bad_at HX.out 4 (l0 := [⟨⟨-6, -4⟩, 2⟩, ⟨⟨2, 3⟩, 0⟩]) (lo := -2) (hi := 2) (l3 := [⟨⟨5, 9⟩, 6⟩, ⟨⟨-7, -5⟩, 3⟩, ⟨⟨20, 21⟩, 6⟩]) rfl rfl rfl rfl (Nat.le_refl _) (tools_C [⟨⟨-6, -4⟩, 2⟩, ⟨⟨2, 3⟩, 0⟩] HB4.out.t rfl (by simp)) (Nat.le_refl _) (keys_C [⟨⟨5, 9⟩, 6⟩, ⟨⟨-7, -5⟩, 3⟩, ⟨⟨20, 21⟩, 6⟩] HB4.out.k rfl (by simp)) hg' (by kernel_rfl) (by kernel_rfl)
    | 5, _ => bad_at HX.out 5 (l0 := [⟨⟨-6, -4⟩, 2⟩, ⟨⟨2, 3⟩, 11⟩]) (lo := -2) (hi := 2) (l3 := [⟨⟨5, 9⟩, 6⟩, ⟨⟨-7, -5⟩, 3⟩, ⟨⟨20, 21⟩, 6⟩]) rfl rfl rfl rfl (Nat.le_refl _) (tools_C [⟨⟨-6, -4⟩, 2⟩, ⟨⟨2, 3⟩, 11⟩] HB5.out.t rfl (by simp)) (Nat.le_refl _) (keys_C [⟨⟨5, 9⟩, 6⟩, ⟨⟨-7, -5⟩, 3⟩, ⟨⟨20, 21⟩, 6⟩] HB5.out.k rfl (by simp)) hg' (by kernel_rfl) (by kernel_rfl)
    | 6, _ => bad_at HX.out 6 (l0 := [⟨⟨-6, -4⟩, 2⟩, ⟨⟨2, 3⟩, 1⟩]) (lo := -61) (hi := 2) (l3 := [⟨⟨5, 9⟩, 6⟩, ⟨⟨-7, -5⟩, 3⟩, ⟨⟨20, 21⟩, 6⟩]) rfl rfl rfl rfl (Nat.le_refl _) (tools_C [⟨⟨-6, -4⟩, 2⟩, ⟨⟨2, 3⟩, 1⟩] HB6.out.t rfl (by simp)) (Nat.le_refl _) (keys_C [⟨⟨5, 9⟩, 6⟩, ⟨⟨-7, -5⟩, 3⟩, ⟨⟨20, 21⟩, 6⟩] HB6.out.k rfl (by simp)) hg' (by kernel_rfl) (by kernel_rfl)
    | 7, _ => bad_at HX.out 7 (l0 := [⟨⟨-6, -4⟩, 2⟩, ⟨⟨2, 3⟩, 1⟩]) (lo := -2) (hi := 2) (l3 := [⟨⟨5, 61⟩, 6⟩, ⟨⟨-7, -5⟩, 3⟩, ⟨⟨20, 21⟩, 6⟩]) rfl rfl rfl rfl (Nat.le_refl _) (tools_C [⟨⟨-6, -4⟩, 2⟩, ⟨⟨2, 3⟩, 1⟩] HB7.out.t rfl (by simp)) (Nat.le_refl _) (keys_C [⟨⟨5, 61⟩, 6⟩, ⟨⟨-7, -5⟩, 3⟩, ⟨⟨20, 21⟩, 6⟩] HB7.out.k rfl (by simp)) hg' (by kernel_rfl) (by kernel_rfl)
    | 8, _ => bad_at HX.out 8 (l0 := [⟨⟨-6, -4⟩, 2⟩, ⟨⟨2, 3⟩, 1⟩]) (lo := -2) (hi := 2) (l3 := [⟨⟨5, 9⟩, 31⟩, ⟨⟨-7, -5⟩, 3⟩, ⟨⟨20, 21⟩, 6⟩]) rfl rfl rfl rfl (Nat.le_refl _) (tools_C [⟨⟨-6, -4⟩, 2⟩, ⟨⟨2, 3⟩, 1⟩] HB8.out.t rfl (by simp)) (Nat.le_refl _) (keys_C [⟨⟨5, 9⟩, 31⟩, ⟨⟨-7, -5⟩, 3⟩, ⟨⟨20, 21⟩, 6⟩] HB8.out.k rfl (by simp)) hg' (by kernel_rfl) (by kernel_rfl)
    | 9, _ => bad_at HX.out 9 (l0 := [⟨⟨-6, -4⟩, 2⟩, ⟨⟨2, 3⟩, 1⟩]) (lo := -2) (hi := 2) (l3 := [⟨⟨0, 0⟩, 0⟩, ⟨⟨0, 0⟩, 0⟩, ⟨⟨0, 0⟩, 0⟩, ⟨⟨0, 0⟩, 0⟩, ⟨⟨0, 0⟩, 0⟩, ⟨⟨0, 0⟩, 0⟩, ⟨⟨0, 0⟩, 0⟩]) rfl rfl rfl rfl (Nat.le_refl _) (tools_C [⟨⟨-6, -4⟩, 2⟩, ⟨⟨2, 3⟩, 1⟩] HB9.out.t rfl (by simp)) (Nat.le_refl _) (keys_C [⟨⟨0, 0⟩, 0⟩, ⟨⟨0, 0⟩, 0⟩, ⟨⟨0, 0⟩, 0⟩, ⟨⟨0, 0⟩, 0⟩, ⟨⟨0, 0⟩, 0⟩, ⟨⟨0, 0⟩, 0⟩, ⟨⟨0, 0⟩, 0⟩] HN9.out rfl (by simp)) hg' (by kernel_rfl) (by kernel_rfl)
    | n + 10, h => absurd h (by omega)
  have HBAD := Lib.hid hbad
  have HG7 := Lib.hid hg'
  clear hbad hg' HX HO HB1 HB2 HB3 HB4 HB5 HB6 HB7 HB8 HB9 HN1 HN9 HNNm0 HNNm8
  generalize (⟨gx, 0, none⟩ : Addr) = adx at HBAD ⊢
  go_wp2
  go_loopw [2] (fun v2 wr => ∃ n : Nat, n ≤ 10 ∧ v2 = .int .i64 n ∧ Fr0 V9 wr) (fun v2 _ => (10 - intOf v2).toNat)
  case atStart => exact ⟨0, by omega, by rfl, Fr.refl _ _⟩
  case round =>
    obtain ⟨n, hn, rfl, hfw⟩ := hrel
    by_cases hlt : n < 10
    · as_aux_lemma =>
      have hle : (n : Int) < 10 := by omega
      obtain ⟨A0, c0, l0, lo, hi, A3, c3, l3, x0, x1, x2, x3, hB, hb, ht⟩ := HBAD.out.fr hfw n hlt
      have HBK := Lib.hid hB
      have HB0 := Lib.hid hb
      have HT0 := Lib.hid ht
      have HFW := Lib.hid hfw
      have HFc := Lib.hid (Fr.refl (fun _ => False) wr)
      clear hB hb hfw ht
      as_aux_lemma =>
      go_upto_region 17 with (first
        | (go_at_call 16; refine (e16 (HBK.out.fr (tr0 HFc.out (by repeat (first | exact Fr.refl _ _ | apply Fr.drew | apply Fr.alloc)))) 61 (-1) 0 0 30 (b16 HB0.out _ _)).mono ?_; rintro e W ⟨rfl, hf⟩; (have x0 := hf.cell0 x0); (have x1 := hf.cell0 x1); (have x2 := hf.cell0 x2); (have x3 := hf.cell0 x3); (have HFc := Lib.hid (tr0 (tr0 HFc.out (by repeat (first | exact Fr.refl _ _ | apply Fr.drew | apply Fr.alloc))) hf)); clear hf)
        | (go_at_call 23; refine (e23 (HBK.out.fr (tr0 HFc.out (by repeat (first | exact Fr.refl _ _ | apply Fr.drew | apply Fr.alloc)))) (-1) 0 30 (b23 HB0.out _)).mono ?_; rintro e W ⟨rfl, hf⟩; (have x0 := hf.cell0 x0); (have x1 := hf.cell0 x1); (have x2 := hf.cell0 x2); (have x3 := hf.cell0 x3); (have HFc := Lib.hid (tr0 (tr0 HFc.out (by repeat (first | exact Fr.refl _ _ | apply Fr.drew | apply Fr.alloc))) hf)); clear hf)
        | (go_at_call 25; refine (e25 (HBK.out.fr (tr0 HFc.out (by repeat (first | exact Fr.refl _ _ | apply Fr.drew | apply Fr.alloc)))) 30 (b25 HB0.out)).mono ?_; rintro e W ⟨v25, rfl, hf⟩; (have x0 := hf.cell0 x0); (have x1 := hf.cell0 x1); (have x2 := hf.cell0 x2); (have x3 := hf.cell0 x3); (have HFc := Lib.hid (tr0 (tr0 HFc.out (by repeat (first | exact Fr.refl _ _ | apply Fr.drew | apply Fr.alloc))) hf)); clear hf))
      as_aux_lemma =>
      as_aux_lemma =>
      go_upto_region 20 with (first
        | (go_at_call 28; refine (e28 (HBK.out.fr (tr0 HFc.out (by repeat (first | exact Fr.refl _ _ | apply Fr.drew | apply Fr.alloc)))) 0 30 (b28 HB0.out)).mono ?_; rintro e W ⟨rfl, hf⟩; (have x0 := hf.cell0 x0); (have x1 := hf.cell0 x1); (have x2 := hf.cell0 x2); (have x3 := hf.cell0 x3); (have HFc := Lib.hid (tr0 (tr0 HFc.out (by repeat (first | exact Fr.refl _ _ | apply Fr.drew | apply Fr.alloc))) hf)); clear hf)
        | (go_at_call 30; refine (e30 (HBK.out.fr (tr0 HFc.out (by repeat (first | exact Fr.refl _ _ | apply Fr.drew | apply Fr.alloc)))) 61 0 30 (b30 HB0.out _)).mono ?_; rintro e W ⟨rfl, hf⟩; (have x0 := hf.cell0 x0); (have x1 := hf.cell0 x1); (have x2 := hf.cell0 x2); (have x3 := hf.cell0 x3); (have HFc := Lib.hid (tr0 (tr0 HFc.out (by repeat (first | exact Fr.refl _ _ | apply Fr.drew | apply Fr.alloc))) hf)); clear hf)
        | (go_at_call 20; refine (e20 (HBK.out.fr (tr0 HFc.out (by repeat (first | exact Fr.refl _ _ | apply Fr.drew | apply Fr.alloc)))) 61 (-1) 0 30 (b20 HB0.out _ _)).mono ?_; rintro e W ⟨rfl, hf⟩; (have x0 := hf.cell0 x0); (have x1 := hf.cell0 x1); (have x2 := hf.cell0 x2); (have x3 := hf.cell0 x3); (have HFc := Lib.hid (tr0 (tr0 HFc.out (by repeat (first | exact Fr.refl _ _ | apply Fr.drew | apply Fr.alloc))) hf)); clear hf))
      as_aux_lemma =>
      go_wp2_with (first
        | (go_at_call 32; refine (e32n (HBK.out.fr (tr0 HFc.out (by repeat (first | exact Fr.refl _ _ | apply Fr.drew | apply Fr.alloc)))) (-1) 0 30 (b32 HB0.out _ _ _)).mono ?_; rintro e W ⟨v32, p32, rfl, hf⟩; (have x0 := hf.cell0 x0); (have x1 := hf.cell0 x1); (have x2 := hf.cell0 x2); (have x3 := hf.cell0 x3); (have HFc := Lib.hid (tr0 (tr0 HFc.out (by repeat (first | exact Fr.refl _ _ | apply Fr.drew | apply Fr.alloc))) hf)); clear hf)
        | (go_at_call 34; refine (e34n (HBK.out.fr (tr0 HFc.out (by repeat (first | exact Fr.refl _ _ | apply Fr.drew | apply Fr.alloc)))) 30 HT0.out).mono ?_; rintro e W ⟨A34, c34, rfl, hf⟩; (have x0 := hf.cell0 x0); (have x1 := hf.cell0 x1); (have x2 := hf.cell0 x2); (have x3 := hf.cell0 x3); (have HFc := Lib.hid (tr0 (tr0 HFc.out (by repeat (first | exact Fr.refl _ _ | apply Fr.drew | apply Fr.alloc))) hf)); clear hf)
        | (go_at_call 18; refine (e18 (HBK.out.fr (tr0 HFc.out (by repeat (first | exact Fr.refl _ _ | apply Fr.drew | apply Fr.alloc)))) 30 (b18 HB0.out)).mono ?_; rintro e W ⟨rfl, hf⟩; (have x0 := hf.cell0 x0); (have x1 := hf.cell0 x1); (have x2 := hf.cell0 x2); (have x3 := hf.cell0 x3); (have HFc := Lib.hid (tr0 (tr0 HFc.out (by repeat (first | exact Fr.refl _ _ | apply Fr.drew | apply Fr.alloc))) hf)); clear hf))
      go_roundw
      case rel => exact ⟨n + 1, by omega, by go_num, tr0 HFW.out HFc.out⟩
      case measure => simp [intOf]; omega
    · have hle : ¬ (n : Int) < 10 := by omega
      have HGq := Lib.hid (HG7.out.fr hfw)
      have HF := Lib.hid (tr0 HF.out hfw)
      clear hfw
      as_aux_lemma =>
      go_upto_region 25 with (first
        | (go_at_call 50; refine (shop50 _ ?hg).mono ?_; (case hg => exact HGq.out.fr (by repeat (first | exact Fr.refl _ _ | apply Fr.drew | apply Fr.alloc))); rintro e W ⟨A0, c0, A3, c3, rfl, hBk, hf⟩; (have HF := Lib.hid (tr0 (tr0 HF.out (by repeat (first | exact Fr.refl _ _ | apply Fr.drew | apply Fr.alloc))) hf)); (have HGq := Lib.hid (HGq.out.fr (tr0 (by repeat (first | exact Fr.refl _ _ | apply Fr.drew | apply Fr.alloc)) hf))); (have HBK := Lib.hid hBk); clear hBk; clear hf)
        | (go_at_call 16; refine (e16 (HBK.out.fr (by repeat (first | exact Fr.refl _ _ | apply Fr.drew | apply Fr.alloc))) 61 0 0 0 31 a16a).mono ?_; rintro e W ⟨rfl, hf⟩; (have HF := Lib.hid (tr0 (tr0 HF.out (by repeat (first | exact Fr.refl _ _ | apply Fr.drew | apply Fr.alloc))) hf)); (have HGq := Lib.hid (HGq.out.fr (tr0 (by repeat (first | exact Fr.refl _ _ | apply Fr.drew | apply Fr.alloc)) hf))); clear hf))
      as_aux_lemma =>
      go_upto_region 26 with (first
        | (go_at_call 50; refine (shop50 _ ?hg).mono ?_; (case hg => exact HGq.out.fr (by repeat (first | exact Fr.refl _ _ | apply Fr.drew | apply Fr.alloc))); rintro e W ⟨A0, c0, A3, c3, rfl, hBk, hf⟩; (have HF := Lib.hid (tr0 (tr0 HF.out (by repeat (first | exact Fr.refl _ _ | apply Fr.drew | apply Fr.alloc))) hf)); (have HGq := Lib.hid (HGq.out.fr (tr0 (by repeat (first | exact Fr.refl _ _ | apply Fr.drew | apply Fr.alloc)) hf))); (have HBK := Lib.hid hBk); clear hBk; clear hf)
        | (go_at_call 16; refine (e16 (HBK.out.fr (by repeat (first | exact Fr.refl _ _ | apply Fr.drew | apply Fr.alloc))) 0 31 0 0 31 a16b).mono ?_; rintro e W ⟨rfl, hf⟩; (have HF := Lib.hid (tr0 (tr0 HF.out (by repeat (first | exact Fr.refl _ _ | apply Fr.drew | apply Fr.alloc))) hf)); (have HGq := Lib.hid (HGq.out.fr (tr0 (by repeat (first | exact Fr.refl _ _ | apply Fr.drew | apply Fr.alloc)) hf))); clear hf))
      as_aux_lemma =>
      go_upto_region 29 with (first
        | (go_at_call 50; refine (shop50 _ ?hg).mono ?_; (case hg => exact HGq.out.fr (by repeat (first | exact Fr.refl _ _ | apply Fr.drew | apply Fr.alloc))); rintro e W ⟨A0, c0, A3, c3, rfl, hBk, hf⟩; (have HF := Lib.hid (tr0 (tr0 HF.out (by repeat (first | exact Fr.refl _ _ | apply Fr.drew | apply Fr.alloc))) hf)); (have HGq := Lib.hid (HGq.out.fr (tr0 (by repeat (first | exact Fr.refl _ _ | apply Fr.drew | apply Fr.alloc)) hf))); (have HBK := Lib.hid hBk); clear hBk; clear hf)
        | (go_at_call 23; refine (e23 (HBK.out.fr (by repeat (first | exact Fr.refl _ _ | apply Fr.drew | apply Fr.alloc))) 3 0 31 a23).mono ?_; rintro e W ⟨rfl, hf⟩; (have HF := Lib.hid (tr0 (tr0 HF.out (by repeat (first | exact Fr.refl _ _ | apply Fr.drew | apply Fr.alloc))) hf)); (have HGq := Lib.hid (HGq.out.fr (tr0 (by repeat (first | exact Fr.refl _ _ | apply Fr.drew | apply Fr.alloc)) hf))); clear hf)
        | (go_at_call 30; refine (e30 (HBK.out.fr (by repeat (first | exact Fr.refl _ _ | apply Fr.drew | apply Fr.alloc))) (-61) 0 31 a30).mono ?_; rintro e W ⟨rfl, hf⟩; (have HF := Lib.hid (tr0 (tr0 HF.out (by repeat (first | exact Fr.refl _ _ | apply Fr.drew | apply Fr.alloc))) hf)); (have HGq := Lib.hid (HGq.out.fr (tr0 (by repeat (first | exact Fr.refl _ _ | apply Fr.drew | apply Fr.alloc)) hf))); clear hf)
        | (go_at_call 20; refine (e20 (HBK.out.fr (by repeat (first | exact Fr.refl _ _ | apply Fr.drew | apply Fr.alloc))) 0 (-1) 0 31 a20).mono ?_; rintro e W ⟨rfl, hf⟩; (have HF := Lib.hid (tr0 (tr0 HF.out (by repeat (first | exact Fr.refl _ _ | apply Fr.drew | apply Fr.alloc))) hf)); (have HGq := Lib.hid (HGq.out.fr (tr0 (by repeat (first | exact Fr.refl _ _ | apply Fr.drew | apply Fr.alloc)) hf))); clear hf))
      as_aux_lemma =>
      go_upto_region 31 with (first
        | (go_at_call 50; refine (shop50 _ ?hg).mono ?_; (case hg => exact HGq.out.fr (by repeat (first | exact Fr.refl _ _ | apply Fr.drew | apply Fr.alloc))); rintro e W ⟨A0, c0, A3, c3, rfl, hBk, hf⟩; (have HF := Lib.hid (tr0 (tr0 HF.out (by repeat (first | exact Fr.refl _ _ | apply Fr.drew | apply Fr.alloc))) hf)); (have HGq := Lib.hid (HGq.out.fr (tr0 (by repeat (first | exact Fr.refl _ _ | apply Fr.drew | apply Fr.alloc)) hf))); (have HBK := Lib.hid hBk); clear hBk; clear hf)
        | (go_at_call 32; refine (e32n (HBK.out.fr (by repeat (first | exact Fr.refl _ _ | apply Fr.drew | apply Fr.alloc))) 0 4 31 a32).mono ?_; rintro e W ⟨y32, z32, rfl, hf⟩; (have HF := Lib.hid (tr0 (tr0 HF.out (by repeat (first | exact Fr.refl _ _ | apply Fr.drew | apply Fr.alloc))) hf)); (have HGq := Lib.hid (HGq.out.fr (tr0 (by repeat (first | exact Fr.refl _ _ | apply Fr.drew | apply Fr.alloc)) hf))); clear hf)
        | (go_at_call 34; refine (e34n (HBK.out.fr (by repeat (first | exact Fr.refl _ _ | apply Fr.drew | apply Fr.alloc))) 31 a34a).mono ?_; rintro e W ⟨B34, d34, rfl, hf⟩; (have HF := Lib.hid (tr0 (tr0 HF.out (by repeat (first | exact Fr.refl _ _ | apply Fr.drew | apply Fr.alloc))) hf)); (have HGq := Lib.hid (HGq.out.fr (tr0 (by repeat (first | exact Fr.refl _ _ | apply Fr.drew | apply Fr.alloc)) hf))); clear hf))
      as_aux_lemma =>
      go_upto_region 34 with (first
        | (go_at_call 50; refine (shop50 _ ?hg).mono ?_; (case hg => exact HGq.out.fr (by repeat (first | exact Fr.refl _ _ | apply Fr.drew | apply Fr.alloc))); rintro e W ⟨A0, c0, A3, c3, rfl, hBk, hf⟩; (have HF := Lib.hid (tr0 (tr0 HF.out (by repeat (first | exact Fr.refl _ _ | apply Fr.drew | apply Fr.alloc))) hf)); (have HGq := Lib.hid (HGq.out.fr (tr0 (by repeat (first | exact Fr.refl _ _ | apply Fr.drew | apply Fr.alloc)) hf))); (have HBK := Lib.hid hBk); clear hBk; clear hf)
        | (go_at_call 34; refine (e34 (HBK.out.fr (by repeat (first | exact Fr.refl _ _ | apply Fr.drew | apply Fr.alloc))) [61] (r1 61 _) (Nat.le_refl 1) [] 31 a34b).mono ?_; rintro e W ⟨B34, d34, rfl, hf⟩; (have HF := Lib.hid (tr0 (tr0 HF.out (by repeat (first | exact Fr.refl _ _ | apply Fr.drew | apply Fr.alloc))) hf)); (have HGq := Lib.hid (HGq.out.fr (tr0 (by repeat (first | exact Fr.refl _ _ | apply Fr.drew | apply Fr.alloc)) hf))); clear hf))
      as_aux_lemma =>
      go_upto_region 37 with (first
        | (go_at_call 50; refine (shop50 _ ?hg).mono ?_; (case hg => exact HGq.out.fr (by repeat (first | exact Fr.refl _ _ | apply Fr.drew | apply Fr.alloc))); rintro e W ⟨A0, c0, A3, c3, rfl, hBk, hf⟩; (have HF := Lib.hid (tr0 (tr0 HF.out (by repeat (first | exact Fr.refl _ _ | apply Fr.drew | apply Fr.alloc))) hf)); (have HGq := Lib.hid (HGq.out.fr (tr0 (by repeat (first | exact Fr.refl _ _ | apply Fr.drew | apply Fr.alloc)) hf))); (have HBK := Lib.hid hBk); clear hBk; clear hf)
        | (go_at_call 16; refine (e16 (HBK.out.fr (by repeat (first | exact Fr.refl _ _ | apply Fr.drew | apply Fr.alloc))) 7 4 0 0 4 n16).mono ?_; rintro e W ⟨rfl, hf⟩; (have HF := Lib.hid (tr0 (tr0 HF.out (by repeat (first | exact Fr.refl _ _ | apply Fr.drew | apply Fr.alloc))) hf)); (have HGq := Lib.hid (HGq.out.fr (tr0 (by repeat (first | exact Fr.refl _ _ | apply Fr.drew | apply Fr.alloc)) hf))); clear hf)
        | (go_at_call 23; refine (e23 (HBK.out.fr (by repeat (first | exact Fr.refl _ _ | apply Fr.drew | apply Fr.alloc))) 2 0 4 n23).mono ?_; rintro e W ⟨rfl, hf⟩; (have HF := Lib.hid (tr0 (tr0 HF.out (by repeat (first | exact Fr.refl _ _ | apply Fr.drew | apply Fr.alloc))) hf)); (have HGq := Lib.hid (HGq.out.fr (tr0 (by repeat (first | exact Fr.refl _ _ | apply Fr.drew | apply Fr.alloc)) hf))); clear hf)
        | (go_at_call 28; refine (e28 (HBK.out.fr (by repeat (first | exact Fr.refl _ _ | apply Fr.drew | apply Fr.alloc))) 0 4 n28).mono ?_; rintro e W ⟨rfl, hf⟩; (have HF := Lib.hid (tr0 (tr0 HF.out (by repeat (first | exact Fr.refl _ _ | apply Fr.drew | apply Fr.alloc))) hf)); (have HGq := Lib.hid (HGq.out.fr (tr0 (by repeat (first | exact Fr.refl _ _ | apply Fr.drew | apply Fr.alloc)) hf))); clear hf))
      as_aux_lemma =>
      go_upto_region 38 with (first
        | (go_at_call 50; refine (shop50 _ ?hg).mono ?_; (case hg => exact HGq.out.fr (by repeat (first | exact Fr.refl _ _ | apply Fr.drew | apply Fr.alloc))); rintro e W ⟨A0, c0, A3, c3, rfl, hBk, hf⟩; (have HF := Lib.hid (tr0 (tr0 HF.out (by repeat (first | exact Fr.refl _ _ | apply Fr.drew | apply Fr.alloc))) hf)); (have HGq := Lib.hid (HGq.out.fr (tr0 (by repeat (first | exact Fr.refl _ _ | apply Fr.drew | apply Fr.alloc)) hf))); (have HBK := Lib.hid hBk); clear hBk; clear hf)
        | (go_at_call 32; refine (e32 (HBK.out.fr (by repeat (first | exact Fr.refl _ _ | apply Fr.drew | apply Fr.alloc))) 0 7 [-4, -6] (r2 (-4) (-6) _) (Nat.le_refl 2) 32 n32a).mono ?_; rintro e W ⟨y32, z32, rfl, hf⟩; (have HF := Lib.hid (tr0 (tr0 HF.out (by repeat (first | exact Fr.refl _ _ | apply Fr.drew | apply Fr.alloc))) hf)); (have HGq := Lib.hid (HGq.out.fr (tr0 (by repeat (first | exact Fr.refl _ _ | apply Fr.drew | apply Fr.alloc)) hf))); clear hf))
      as_aux_lemma =>
      go_upto_region 39 with (first
        | (go_at_call 50; refine (shop50 _ ?hg).mono ?_; (case hg => exact HGq.out.fr (by repeat (first | exact Fr.refl _ _ | apply Fr.drew | apply Fr.alloc))); rintro e W ⟨A0, c0, A3, c3, rfl, hBk, hf⟩; (have HF := Lib.hid (tr0 (tr0 HF.out (by repeat (first | exact Fr.refl _ _ | apply Fr.drew | apply Fr.alloc))) hf)); (have HGq := Lib.hid (HGq.out.fr (tr0 (by repeat (first | exact Fr.refl _ _ | apply Fr.drew | apply Fr.alloc)) hf))); (have HBK := Lib.hid hBk); clear hBk; clear hf)
        | (go_at_call 32; refine (e32 (HBK.out.fr (by repeat (first | exact Fr.refl _ _ | apply Fr.drew | apply Fr.alloc))) 0 7 [-3, -6, 2] (r3 (-3) (-6) 2 _) (Nat.le_refl 3) 32 n32b).mono ?_; rintro e W ⟨y32, z32, rfl, hf⟩; (have HF := Lib.hid (tr0 (tr0 HF.out (by repeat (first | exact Fr.refl _ _ | apply Fr.drew | apply Fr.alloc))) hf)); (have HGq := Lib.hid (HGq.out.fr (tr0 (by repeat (first | exact Fr.refl _ _ | apply Fr.drew | apply Fr.alloc)) hf))); clear hf))
      as_aux_lemma =>
      go_upto_region 40 with (first
        | (go_at_call 50; refine (shop50 _ ?hg).mono ?_; (case hg => exact HGq.out.fr (by repeat (first | exact Fr.refl _ _ | apply Fr.drew | apply Fr.alloc))); rintro e W ⟨A0, c0, A3, c3, rfl, hBk, hf⟩; (have HF := Lib.hid (tr0 (tr0 HF.out (by repeat (first | exact Fr.refl _ _ | apply Fr.drew | apply Fr.alloc))) hf)); (have HGq := Lib.hid (HGq.out.fr (tr0 (by repeat (first | exact Fr.refl _ _ | apply Fr.drew | apply Fr.alloc)) hf))); (have HBK := Lib.hid hBk); clear hBk; clear hf)
        | (go_at_call 32; refine (e32n (HBK.out.fr (by repeat (first | exact Fr.refl _ _ | apply Fr.drew | apply Fr.alloc))) 2 20 4 n32c).mono ?_; rintro e W ⟨y32, z32, rfl, hf⟩; (have HF := Lib.hid (tr0 (tr0 HF.out (by repeat (first | exact Fr.refl _ _ | apply Fr.drew | apply Fr.alloc))) hf)); (have HGq := Lib.hid (HGq.out.fr (tr0 (by repeat (first | exact Fr.refl _ _ | apply Fr.drew | apply Fr.alloc)) hf))); clear hf))
      as_aux_lemma =>
      go_upto_region 44 with (first
        | (go_at_call 50; refine (shop50 _ ?hg).mono ?_; (case hg => exact HGq.out.fr (by repeat (first | exact Fr.refl _ _ | apply Fr.drew | apply Fr.alloc))); rintro e W ⟨A0, c0, A3, c3, rfl, hBk, hf⟩; (have HF := Lib.hid (tr0 (tr0 HF.out (by repeat (first | exact Fr.refl _ _ | apply Fr.drew | apply Fr.alloc))) hf)); (have HGq := Lib.hid (HGq.out.fr (tr0 (by repeat (first | exact Fr.refl _ _ | apply Fr.drew | apply Fr.alloc)) hf))); (have HBK := Lib.hid hBk); clear hBk; clear hf)
        | (go_at_call 34; refine (e34 (HBK.out.fr (by repeat (first | exact Fr.refl _ _ | apply Fr.drew | apply Fr.alloc))) [7, 8] (r2 7 8 _) (Nat.le_refl 2) [] 4 n34).mono ?_; rintro e W ⟨B34, d34, rfl, hf⟩; (have HF := Lib.hid (tr0 (tr0 HF.out (by repeat (first | exact Fr.refl _ _ | apply Fr.drew | apply Fr.alloc))) hf)); (have HGq := Lib.hid (HGq.out.fr (tr0 (by repeat (first | exact Fr.refl _ _ | apply Fr.drew | apply Fr.alloc)) hf))); clear hf)
        | (go_at_call 20; refine (e20 (HBK.out.fr (by repeat (first | exact Fr.refl _ _ | apply Fr.drew | apply Fr.alloc))) 20 3 0 4 n20).mono ?_; rintro e W ⟨rfl, hf⟩; (have HF := Lib.hid (tr0 (tr0 HF.out (by repeat (first | exact Fr.refl _ _ | apply Fr.drew | apply Fr.alloc))) hf)); (have HGq := Lib.hid (HGq.out.fr (tr0 (by repeat (first | exact Fr.refl _ _ | apply Fr.drew | apply Fr.alloc)) hf))); clear hf))
      as_aux_lemma =>
      go_upto_region 45 with (first
        | (go_at_call 50; refine (shop50 _ ?hg).mono ?_; (case hg => exact HGq.out.fr (by repeat (first | exact Fr.refl _ _ | apply Fr.drew | apply Fr.alloc))); rintro e W ⟨A0, c0, A3, c3, rfl, hBk, hf⟩; (have HF := Lib.hid (tr0 (tr0 HF.out (by repeat (first | exact Fr.refl _ _ | apply Fr.drew | apply Fr.alloc))) hf)); (have HGq := Lib.hid (HGq.out.fr (tr0 (by repeat (first | exact Fr.refl _ _ | apply Fr.drew | apply Fr.alloc)) hf))); (have HBK := Lib.hid hBk); clear hBk; clear hf)
        | (go_at_call 16; refine (e16 (HBK.out.fr (by repeat (first | exact Fr.refl _ _ | apply Fr.drew | apply Fr.alloc))) 3 3 0 2 0 v16a).mono ?_; rintro e W ⟨rfl, hf⟩; (have HF := Lib.hid (tr0 (tr0 HF.out (by repeat (first | exact Fr.refl _ _ | apply Fr.drew | apply Fr.alloc))) hf)); (have HGq := Lib.hid (HGq.out.fr (tr0 (by repeat (first | exact Fr.refl _ _ | apply Fr.drew | apply Fr.alloc)) hf))); clear hf))
      as_aux_lemma =>
      go_upto_region 46 with (first
        | (go_at_call 50; refine (shop50 _ ?hg).mono ?_; (case hg => exact HGq.out.fr (by repeat (first | exact Fr.refl _ _ | apply Fr.drew | apply Fr.alloc))); rintro e W ⟨A0, c0, A3, c3, rfl, hBk, hf⟩; (have HF := Lib.hid (tr0 (tr0 HF.out (by repeat (first | exact Fr.refl _ _ | apply Fr.drew | apply Fr.alloc))) hf)); (have HGq := Lib.hid (HGq.out.fr (tr0 (by repeat (first | exact Fr.refl _ _ | apply Fr.drew | apply Fr.alloc)) hf))); (have HBK := Lib.hid hBk); clear hBk; clear hf)
        | (go_at_call 16; refine (e16 (HBK.out.fr (by repeat (first | exact Fr.refl _ _ | apply Fr.drew | apply Fr.alloc))) 1 0 (-1) 0 0 v16b).mono ?_; rintro e W ⟨rfl, hf⟩; (have HF := Lib.hid (tr0 (tr0 HF.out (by repeat (first | exact Fr.refl _ _ | apply Fr.drew | apply Fr.alloc))) hf)); (have HGq := Lib.hid (HGq.out.fr (tr0 (by repeat (first | exact Fr.refl _ _ | apply Fr.drew | apply Fr.alloc)) hf))); clear hf))
      as_aux_lemma =>
      go_upto_region 48 with (first
        | (go_at_call 50; refine (shop50 _ ?hg).mono ?_; (case hg => exact HGq.out.fr (by repeat (first | exact Fr.refl _ _ | apply Fr.drew | apply Fr.alloc))); rintro e W ⟨A0, c0, A3, c3, rfl, hBk, hf⟩; (have HF := Lib.hid (tr0 (tr0 HF.out (by repeat (first | exact Fr.refl _ _ | apply Fr.drew | apply Fr.alloc))) hf)); (have HGq := Lib.hid (HGq.out.fr (tr0 (by repeat (first | exact Fr.refl _ _ | apply Fr.drew | apply Fr.alloc)) hf))); (have HBK := Lib.hid hBk); clear hBk; clear hf)
        | (go_at_call 23; refine (e23 (HBK.out.fr (by repeat (first | exact Fr.refl _ _ | apply Fr.drew | apply Fr.alloc))) 1 3 0 v23).mono ?_; rintro e W ⟨rfl, hf⟩; (have HF := Lib.hid (tr0 (tr0 HF.out (by repeat (first | exact Fr.refl _ _ | apply Fr.drew | apply Fr.alloc))) hf)); (have HGq := Lib.hid (HGq.out.fr (tr0 (by repeat (first | exact Fr.refl _ _ | apply Fr.drew | apply Fr.alloc)) hf))); clear hf)
        | (go_at_call 30; refine (e30 (HBK.out.fr (by repeat (first | exact Fr.refl _ _ | apply Fr.drew | apply Fr.alloc))) (-7) 3 0 v30a).mono ?_; rintro e W ⟨rfl, hf⟩; (have HF := Lib.hid (tr0 (tr0 HF.out (by repeat (first | exact Fr.refl _ _ | apply Fr.drew | apply Fr.alloc))) hf)); (have HGq := Lib.hid (HGq.out.fr (tr0 (by repeat (first | exact Fr.refl _ _ | apply Fr.drew | apply Fr.alloc)) hf))); clear hf))
      as_aux_lemma =>
      go_upto_region 51 with (first
        | (go_at_call 50; refine (shop50 _ ?hg).mono ?_; (case hg => exact HGq.out.fr (by repeat (first | exact Fr.refl _ _ | apply Fr.drew | apply Fr.alloc))); rintro e W ⟨A0, c0, A3, c3, rfl, hBk, hf⟩; (have HF := Lib.hid (tr0 (tr0 HF.out (by repeat (first | exact Fr.refl _ _ | apply Fr.drew | apply Fr.alloc))) hf)); (have HGq := Lib.hid (HGq.out.fr (tr0 (by repeat (first | exact Fr.refl _ _ | apply Fr.drew | apply Fr.alloc)) hf))); (have HBK := Lib.hid hBk); clear hBk; clear hf)
        | (go_at_call 30; refine (e30 (HBK.out.fr (by repeat (first | exact Fr.refl _ _ | apply Fr.drew | apply Fr.alloc))) 0 0 0 v30b).mono ?_; rintro e W ⟨rfl, hf⟩; (have HF := Lib.hid (tr0 (tr0 HF.out (by repeat (first | exact Fr.refl _ _ | apply Fr.drew | apply Fr.alloc))) hf)); (have HGq := Lib.hid (HGq.out.fr (tr0 (by repeat (first | exact Fr.refl _ _ | apply Fr.drew | apply Fr.alloc)) hf))); clear hf)
        | (go_at_call 20; refine (e20 (HBK.out.fr (by repeat (first | exact Fr.refl _ _ | apply Fr.drew | apply Fr.alloc))) 7 4 1 0 v20).mono ?_; rintro e W ⟨rfl, hf⟩; (have HF := Lib.hid (tr0 (tr0 HF.out (by repeat (first | exact Fr.refl _ _ | apply Fr.drew | apply Fr.alloc))) hf)); (have HGq := Lib.hid (HGq.out.fr (tr0 (by repeat (first | exact Fr.refl _ _ | apply Fr.drew | apply Fr.alloc)) hf))); clear hf)
        | (go_at_call 34; refine (e34 (HBK.out.fr (by repeat (first | exact Fr.refl _ _ | apply Fr.drew | apply Fr.alloc))) [-5] (r1 (-5) _) (Nat.le_refl 1) [] 0 v34).mono ?_; rintro e W ⟨B34, d34, rfl, hf⟩; (have HF := Lib.hid (tr0 (tr0 HF.out (by repeat (first | exact Fr.refl _ _ | apply Fr.drew | apply Fr.alloc))) hf)); (have HGq := Lib.hid (HGq.out.fr (tr0 (by repeat (first | exact Fr.refl _ _ | apply Fr.drew | apply Fr.alloc)) hf))); clear hf))
      as_aux_lemma =>
      go_wp2_with (first
        | (go_at_call 22; refine (filed_any _ (HGq.out.fr (by repeat (first | exact Fr.refl _ _ | apply Fr.drew | apply Fr.alloc)))).mono ?_; rintro e W ⟨rfl, hb⟩; (have hf := frb hb); (have HF := Lib.hid (tr0 (tr0 HF.out (by repeat (first | exact Fr.refl _ _ | apply Fr.drew | apply Fr.alloc))) hf)); clear hb hf))
      refine bodyPost_ret (v := .bool true) (by simp [results, Tryd.results15, go_sem]) rfl ⟨rfl, ?_⟩
      exact HF.out

end Go.Proofs.YtfmpbkolpjlfbaaDoor.R
