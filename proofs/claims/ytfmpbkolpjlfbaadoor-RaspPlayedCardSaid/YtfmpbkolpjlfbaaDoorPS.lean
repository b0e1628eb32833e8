import Derived.Test.YtfmpbkolpjlfbaaDoorG3
import Derived.Test.YtfmpbkolpjlfbaaDoorCS
set_option linter.unusedVariables false
set_option linter.unusedSimpArgs false
namespace Go.Proofs.YtfmpbkolpjlfbaaDoor.Q
open Go.RowKit Go.Proofs.YtfmpbkolpjlfbaaDoorW.PrintWords Go.Proofs.YtfmpbkolpjlfbaaDoorW.PrintLast Go.Proofs.YtfmpbkolpjlfbaaDoor.PRaspKeys Go.Proofs.YtfmpbkolpjlfbaaDoor.R

/-! ### Small words -/
theorem w64 {x : Int} (h : -9223372036854775808 ≤ x) (h' : x ≤ 9223372036854775807) : wrap64 x = x := by unfold wrap64; omega
theorem evc {α : Type} {g f : Nat → Option α} {r : α} (h : ∀ k, g k = f k) (k : Ev f r) : Ev g r := Ev.congr h k
theorem ebind {α β : Type} {g : Nat → Option α} {f : Nat → α → Option β} {a : α} {r : β} (h : Ev g a) (k : Ev (fun n => f n a) r) : Ev (fun n => (g n).bind (f n)) r := Ev.bind h k
theorem ev_some {α : Type} {g : Nat → Option α} {r : α} (h : ∀ k, g k = some r) : Ev g r := ⟨0, fun k _ => h k⟩
theorem ev_uniq {α : Type} {g : Nat → Option α} {r q : α} (h : Ev g r) (h' : Ev g q) : r = q := by
  obtain ⟨K, h⟩ := h
  obtain ⟨L, h'⟩ := h'
  have a := h (K + L) (by omega)
  have b := h' (K + L) (by omega)
  rw [a] at b
  exact Option.some.inj b
theorem sits_f (n lo hi : Int) : saronref00_Sits.f n lo hi = some (isIn n lo hi) := by
  unfold saronref00_Sits.f isIn
  by_cases c : lo ≤ n
  · rw [if_pos c]; simp [c]
  · rw [if_neg c]; simp [c]
theorem bears_f (a b n : Int) : saronref00_Bears.f a b n = some (isIn n a b) := by
  unfold saronref00_Bears.f
  rw [sits_f]; rfl
theorem good_f (a b lo hi : Int) : saronref00_Good.f a b lo hi = some (decide (lo ≤ a) && (decide (a ≤ b) && decide (b ≤ hi))) := by
  unfold saronref00_Good.f
  by_cases c1 : lo ≤ a <;> by_cases c2 : a ≤ b <;> simp [c1, c2]
end Go.Proofs.YtfmpbkolpjlfbaaDoor.Q
namespace Go.Proofs.YtfmpbkolpjlfbaaDoor.Q
open Go.RowKit Go.Proofs.YtfmpbkolpjlfbaaDoorW.PrintWords Go.Proofs.YtfmpbkolpjlfbaaDoorW.PrintLast Go.Proofs.YtfmpbkolpjlfbaaDoor.PRaspKeys Go.Proofs.YtfmpbkolpjlfbaaDoor.R

/-! ### Folds over a span -/
def fo {α : Type} (f : α → Int → α) : Nat → α → Int → α
  | 0, a, _ => a
  | n + 1, a, d => fo f n (f a d) (d + 1)
theorem foldl_span {α : Type} (f : α → Int → α) : ∀ (n : Nat) (a : α) (d : Int), ((List.range n).map (fun i : Nat => d + (i : Int))).foldl f a = fo f n a d
  | 0, _, _ => rfl
  | n + 1, a, d => by
    rw [List.range_succ_eq_map]
    simp only [List.map_cons, List.foldl_cons, List.map_map]
    rw [show ((fun i : Nat => d + (i : Int)) ∘ Nat.succ) = (fun i : Nat => (d + 1) + (i : Int)) from by funext i; simp; omega]
    rw [foldl_span f n]
    simp [fo]
theorem fo_congr {α : Type} {f g : α → Int → α} : ∀ (n : Nat) (a : α) (d : Int), (∀ a x, d ≤ x → x < d + n → f a x = g a x) → fo f n a d = fo g n a d
  | 0, _, _, _ => rfl
  | n + 1, a, d, h => by
    unfold fo
    rw [h a d (by omega) (by omega)]
    exact fo_congr n _ _ fun a x hx hx' => h a x (by omega) (by omega)
theorem fo_snoc {α : Type} (f : α → Int → α) : ∀ (n : Nat) (a : α) (d : Int), fo f (n + 1) a d = f (fo f n a d) (d + n)
  | 0, a, d => by simp [fo]
  | n + 1, a, d => by
    rw [show fo f (n + 1 + 1) a d = fo f (n + 1) (f a d) (d + 1) from rfl, fo_snoc f n (f a d) (d + 1), show fo f (n + 1) a d = fo f n (f a d) (d + 1) from rfl, show d + 1 + (n : Int) = d + ((n + 1 : Nat) : Int) by omega]
/-- The greatest of n values from d on, 0 at least; the least, 1000 at most. -/
theorem fo_max (G : Int → Int) : ∀ (n : Nat) (a d : Int), (a ≤ fo (fun a x => max a (G x)) n a d) ∧ (∀ x, d ≤ x → x < d + n → G x ≤ fo (fun a x => max a (G x)) n a d) ∧ (fo (fun a x => max a (G x)) n a d = a ∨ ∃ x, d ≤ x ∧ x < d + n ∧ fo (fun a x => max a (G x)) n a d = G x)
  | 0, a, d => ⟨by simp [fo], fun x h h' => by omega, .inl rfl⟩
  | n + 1, a, d => by
    obtain ⟨h1, h2, h3⟩ := fo_max G n (max a (G d)) (d + 1)
    unfold fo
    refine ⟨by omega, fun x hx hx' => ?_, ?_⟩
    · by_cases e : x = d
      · subst e; omega
      · exact h2 x (by omega) (by omega)
    · rcases h3 with h3 | ⟨x, hx, hx', h3⟩
      · by_cases c : a ≤ G d
        · exact .inr ⟨d, by omega, by omega, by rw [h3]; omega⟩
        · exact .inl (by rw [h3]; omega)
      · exact .inr ⟨x, by omega, by omega, h3⟩
theorem fo_min (G : Int → Int) : ∀ (n : Nat) (a d : Int), (fo (fun a x => min a (G x)) n a d ≤ a) ∧ (∀ x, d ≤ x → x < d + n → fo (fun a x => min a (G x)) n a d ≤ G x) ∧ (fo (fun a x => min a (G x)) n a d = a ∨ ∃ x, d ≤ x ∧ x < d + n ∧ fo (fun a x => min a (G x)) n a d = G x)
  | 0, a, d => ⟨by simp [fo], fun x h h' => by omega, .inl rfl⟩
  | n + 1, a, d => by
    obtain ⟨h1, h2, h3⟩ := fo_min G n (min a (G d)) (d + 1)
    unfold fo
    refine ⟨by omega, fun x hx hx' => ?_, ?_⟩
    · by_cases e : x = d
      · subst e; omega
      · exact h2 x (by omega) (by omega)
    · rcases h3 with h3 | ⟨x, hx, hx', h3⟩
      · by_cases c : G d ≤ a
        · exact .inr ⟨d, by omega, by omega, by rw [h3]; omega⟩
        · exact .inl (by rw [h3]; omega)
      · exact .inr ⟨x, by omega, by omega, h3⟩

/-! ### What a tool leads to -/
/-- From the first value on. -/
def ld (way : Int) (G : Int → Int) (lo hi off : Int) : Int := fo (fun a x => cnt way a (G (off + x))) (hi - lo + 1).toNat (if way = 0 then 0 else 1000) lo
theorem stp_false (way : Int) (G : Int → Int) : ∀ (l : List Int) (a : Int), l.foldl (fun st o => stp way st (G o)) (a, false) = (l.foldl (fun a o => cnt way a (G o)) a, false)
  | [], _ => rfl
  | x :: l, a => by simp only [List.foldl_cons, stp]; exact stp_false way G l _
theorem cnt_self (way a : Int) : cnt way a a = a := by unfold cnt; split <;> simp
theorem leadsTo_eq (way : Int) (G : Int → Int → Int) (t : S57) (off metal : Int) (hG : ∀ o m, 0 ≤ G o m ∧ G o m ≤ 1000) (ht : t.f0.f0 ≤ t.f0.f1) :
    leadsTo way G t off metal = ld way (fun o => G o (metal - t.f1)) t.f0.f0 t.f0.f1 off := by
  unfold leadsTo moves ld
  obtain ⟨n, hn⟩ : ∃ n, (t.f0.f1 - t.f0.f0 + 1).toNat = n + 1 := ⟨(t.f0.f1 - t.f0.f0 + 1).toNat - 1, by omega⟩
  rw [hn]
  have e : (List.map (fun i : Nat => off + (t.f0.f0 + (i : Int))) (List.range (n + 1))) = ((List.range (n + 1)).map (fun i : Nat => t.f0.f0 + (i : Int))).map (fun x => off + x) := by rw [List.map_map]; rfl
  rw [e, List.range_succ_eq_map]
  simp only [List.map_cons, List.foldl_cons, List.map_map]
  rw [show ∀ x, stp way (0, true) x = (cnt way x x, false) from fun x => rfl]
  rw [stp_false way (fun o => G o (metal - t.f1)), cnt_self]
  dsimp only
  unfold fo
  have e2 : ((fun x => off + x) ∘ (fun i : Nat => t.f0.f0 + (i : Int)) ∘ Nat.succ) = (fun x => off + x) ∘ (fun i : Nat => (t.f0.f0 + 1) + (i : Int)) := by funext i; simp; omega
  rw [e2, ← List.map_map, List.foldl_map, foldl_span]
  have hb := hG (off + t.f0.f0) (metal - t.f1)
  rw [show t.f0.f0 + ((0 : Nat) : Int) = t.f0.f0 by omega]
  congr 1
  unfold cnt
  split
  · omega
  · omega
/-- At the worst. -/
theorem ld_worst {G : Int → Int} (hG : ∀ o, 0 ≤ G o ∧ G o ≤ 1000) {lo hi off : Int} (h : lo ≤ hi) : (∀ x, lo ≤ x → x ≤ hi → G (off + x) ≤ ld 0 G lo hi off) ∧ ∃ x, lo ≤ x ∧ x ≤ hi ∧ ld 0 G lo hi off = G (off + x) := by
  have e : ld 0 G lo hi off = fo (fun a x => max a (G (off + x))) (hi - lo + 1).toNat 0 lo := rfl
  obtain ⟨h1, h2, h3⟩ := fo_max (fun x => G (off + x)) (hi - lo + 1).toNat 0 lo
  rw [e]
  refine ⟨fun x hx hx' => h2 x hx (by omega), ?_⟩
  rcases h3 with h3 | ⟨x, hx, hx', h3⟩
  · exact ⟨lo, by omega, by omega, by have := h2 lo (by omega) (by omega); have := hG (off + lo); omega⟩
  · exact ⟨x, hx, by omega, h3⟩
/-- At best. -/
theorem ld_best {G : Int → Int} (hG : ∀ o, 0 ≤ G o ∧ G o ≤ 1000) {lo hi off : Int} (h : lo ≤ hi) : (∀ x, lo ≤ x → x ≤ hi → ld 1 G lo hi off ≤ G (off + x)) ∧ ∃ x, lo ≤ x ∧ x ≤ hi ∧ ld 1 G lo hi off = G (off + x) := by
  have e : ld 1 G lo hi off = fo (fun a x => min a (G (off + x))) (hi - lo + 1).toNat 1000 lo := rfl
  obtain ⟨h1, h2, h3⟩ := fo_min (fun x => G (off + x)) (hi - lo + 1).toNat 1000 lo
  rw [e]
  refine ⟨fun x hx hx' => h2 x hx (by omega), ?_⟩
  rcases h3 with h3 | ⟨x, hx, hx', h3⟩
  · exact ⟨lo, by omega, by omega, by have := h2 lo (by omega) (by omega); have := hG (off + lo); omega⟩
  · exact ⟨x, hx, by omega, h3⟩
theorem ld_bnd {way : Int} (hw : way = 0 ∨ way = 1) {G : Int → Int} (hG : ∀ o, 0 ≤ G o ∧ G o ≤ 1000) {lo hi off : Int} (h : lo ≤ hi) : 0 ≤ ld way G lo hi off ∧ ld way G lo hi off ≤ 1000 := by
  rcases hw with rfl | rfl
  · obtain ⟨_, x, _, _, e⟩ := ld_worst hG (off := off) h
    rw [e]; exact hG _
  · obtain ⟨_, x, _, _, e⟩ := ld_best hG (off := off) h
    rw [e]; exact hG _
theorem strk_bnd (tools : List S57) (lo hi way o m : Int) : 0 ≤ (strk tools lo hi way o m).2 ∧ (strk tools lo hi way o m).2 ≤ 1000 := by
  unfold strk
  exact stk_bnd (m.toNat + 1) o m
theorem strk_out (tools : List S57) (lo hi way o m : Int) (h : ¬ (-60 ≤ o ∧ o ≤ 60)) : strk tools lo hi way o m = (-1, 1000) := by
  unfold strk stk
  rw [if_pos h]

end Go.Proofs.YtfmpbkolpjlfbaaDoor.Q
namespace Go.Proofs.YtfmpbkolpjlfbaaDoor.Q
open Go.RowKit Go.Proofs.YtfmpbkolpjlfbaaDoorW.PrintWords Go.Proofs.YtfmpbkolpjlfbaaDoorW.PrintLast Go.Proofs.YtfmpbkolpjlfbaaDoor.PRaspKeys Go.Proofs.YtfmpbkolpjlfbaaDoor.R

/-! ### The strokes: what they are -/
/-- The best of the first n tools. -/
def Bst (tools : List S57) (L : Nat → Int) (m : Int) (n : Nat) (out : Int × Int) : Prop :=
  (out = (-1, 1000) ∧ ∀ k, k < n → (tools.getD k z57).f1 ≤ m → 999 ≤ L k) ∨
  ∃ j : Nat, j < n ∧ out = ((j : Int), L j + 1) ∧ (tools.getD j z57).f1 ≤ m ∧ L j < 999 ∧ ∀ k, k < n → (tools.getD k z57).f1 ≤ m → L j ≤ L k ∧ (k < j → L j < L k)
theorem stools_bst (tools : List S57) (way : Int) (G : Int → Int → Int) (off m : Int) : ∀ n, Bst tools (fun k => leadsTo way G (tools.getD k z57) off m) m n ((List.range n).foldl (stool tools way G off m) (-1, 1000))
  | 0 => .inl ⟨rfl, fun k h => by omega⟩
  | n + 1 => by
    rw [List.range_succ, List.foldl_append, List.foldl_cons, List.foldl_nil]
    have ih := stools_bst tools way G off m n
    generalize (List.range n).foldl (stool tools way G off m) (-1, 1000) = out at *
    unfold stool
    by_cases c : m < (tools.getD n z57).f1
    · rw [if_pos c]
      rcases ih with ⟨h1, h2⟩ | ⟨j, hj, h1, h2, h3, h4⟩
      · refine .inl ⟨h1, fun k hk hc => ?_⟩
        by_cases e : k = n
        · subst e; omega
        · exact h2 k (by omega) hc
      · refine .inr ⟨j, by omega, h1, h2, h3, fun k hk hc => ?_⟩
        by_cases e : k = n
        · subst e; omega
        · exact h4 k (by omega) hc
    · rw [if_neg c]
      rcases ih with ⟨h1, h2⟩ | ⟨j, hj, h1, h2, h3, h4⟩
      · subst h1
        dsimp only
        by_cases c2 : leadsTo way G (tools.getD n z57) off m < 999
        · rw [if_pos (by omega)]
          refine .inr ⟨n, by omega, by rw [show min 1000 (leadsTo way G (tools.getD n z57) off m + 1) = leadsTo way G (tools.getD n z57) off m + 1 by omega], by omega, c2, fun k hk hc => ?_⟩
          by_cases e : k = n
          · subst e; exact ⟨Int.le_refl _, fun h => by omega⟩
          · have := h2 k (by omega) hc
            dsimp only at this ⊢
            omega
        · rw [if_neg (by omega)]
          refine .inl ⟨rfl, fun k hk hc => ?_⟩
          by_cases e : k = n
          · subst e; dsimp only; omega
          · exact h2 k (by omega) hc
      · subst h1
        dsimp only at h3 ⊢
        by_cases c2 : leadsTo way G (tools.getD n z57) off m < leadsTo way G (tools.getD j z57) off m
        · rw [if_pos (by omega)]
          refine .inr ⟨n, by omega, by rw [show min 1000 (leadsTo way G (tools.getD n z57) off m + 1) = leadsTo way G (tools.getD n z57) off m + 1 by omega], by omega, by dsimp only; omega, fun k hk hc => ?_⟩
          by_cases e : k = n
          · subst e; exact ⟨Int.le_refl _, fun h => by omega⟩
          · have := h4 k (by omega) hc
            dsimp only at this ⊢
            omega
        · rw [if_neg (by omega)]
          refine .inr ⟨j, by omega, rfl, h2, h3, fun k hk hc => ?_⟩
          by_cases e : k = n
          · subst e; dsimp only; omega
          · exact h4 k (by omega) hc
/-- What a tool leads to, at a number and with some metal. -/
def Ld (tools : List S57) (lo hi way off m : Int) (k : Nat) : Int := ld way (fun o => (strk tools lo hi way o (m - (tools.getD k z57).f1)).2) (tools.getD k z57).f0.f0 (tools.getD k z57).f0.f1 off
section
variable {tools : List S57} {lo hi way off m : Int}
theorem strk_fine (hs : Sound tools) (h0 : 0 ≤ m) (hin : -60 ≤ off ∧ off ≤ 60) (hf : lo ≤ off ∧ off ≤ hi) : strk tools lo hi way off m = (-1, 0) := by
  rw [strk_eq hs lo hi way off m h0, if_neg (by omega), if_pos hf]
theorem strk_bst (hs : Sound tools) (h0 : 0 ≤ m) (hin : -60 ≤ off ∧ off ≤ 60) (hf : ¬ (lo ≤ off ∧ off ≤ hi)) : Bst tools (Ld tools lo hi way off m) m tools.length (strk tools lo hi way off m) := by
  rw [strk_eq hs lo hi way off m h0, if_neg (by omega), if_neg hf]
  have h := stools_bst tools way (fun o mm => (strk tools lo hi way o mm).2) off m tools.length
  have e : ∀ k, k < tools.length → leadsTo way (fun o mm => (strk tools lo hi way o mm).2) (tools.getD k z57) off m = Ld tools lo hi way off m k := fun k hk =>
    leadsTo_eq way _ _ off m (fun o m => strk_bnd tools lo hi way o m) (hs.move k hk).2.1
  rcases h with ⟨h1, h2⟩ | ⟨j, hj, h1, h2, h3, h4⟩
  · exact .inl ⟨h1, fun k hk hc => by rw [← e k hk]; exact h2 k hk hc⟩
  · refine .inr ⟨j, hj, by rw [← e j hj]; exact h1, h2, by rw [← e j hj]; exact h3, fun k hk hc => ?_⟩
    rw [← e j hj, ← e k hk]
    exact h4 k hk hc
/-- A tool leads to one of its numbers, at the worst the greatest, at best the least. -/
theorem Ld_worst (hs : Sound tools) {k : Nat} (hk : k < tools.length) : (∀ x, (tools.getD k z57).f0.f0 ≤ x → x ≤ (tools.getD k z57).f0.f1 → (strk tools lo hi 0 (off + x) (m - (tools.getD k z57).f1)).2 ≤ Ld tools lo hi 0 off m k) ∧
    ∃ x, (tools.getD k z57).f0.f0 ≤ x ∧ x ≤ (tools.getD k z57).f0.f1 ∧ Ld tools lo hi 0 off m k = (strk tools lo hi 0 (off + x) (m - (tools.getD k z57).f1)).2 :=
  ld_worst (fun o => strk_bnd tools lo hi 0 o _) (hs.move k hk).2.1
theorem Ld_best (hs : Sound tools) {k : Nat} (hk : k < tools.length) : (∀ x, (tools.getD k z57).f0.f0 ≤ x → x ≤ (tools.getD k z57).f0.f1 → Ld tools lo hi 1 off m k ≤ (strk tools lo hi 1 (off + x) (m - (tools.getD k z57).f1)).2) ∧
    ∃ x, (tools.getD k z57).f0.f0 ≤ x ∧ x ≤ (tools.getD k z57).f0.f1 ∧ Ld tools lo hi 1 off m k = (strk tools lo hi 1 (off + x) (m - (tools.getD k z57).f1)).2 :=
  ld_best (fun o => strk_bnd tools lo hi 1 o _) (hs.move k hk).2.1
theorem Ld_is (hs : Sound tools) (hw : way = 0 ∨ way = 1) {k : Nat} (hk : k < tools.length) : ∃ x, (tools.getD k z57).f0.f0 ≤ x ∧ x ≤ (tools.getD k z57).f0.f1 ∧ Ld tools lo hi way off m k = (strk tools lo hi way (off + x) (m - (tools.getD k z57).f1)).2 := by
  rcases hw with rfl | rfl
  · exact (Ld_worst hs hk).2
  · exact (Ld_best hs hk).2
end
/-- No more strokes than there is metal, or never. -/
theorem strk_small {tools : List S57} (hs : Sound tools) {lo hi way : Int} (hw : way = 0 ∨ way = 1) : ∀ (n : Nat) (off m : Int), 0 ≤ m → m < n → (strk tools lo hi way off m).2 ≤ m ∨ (strk tools lo hi way off m).2 = 1000
  | 0, off, m, h0, h1 => by omega
  | n + 1, off, m, h0, h1 => by
    by_cases hin : -60 ≤ off ∧ off ≤ 60
    · by_cases hf : lo ≤ off ∧ off ≤ hi
      · rw [strk_fine hs h0 hin hf]; exact .inl h0
      · rcases strk_bst hs (way := way) h0 hin hf with ⟨h, _⟩ | ⟨j, hj, h, h2, h3, _⟩
        · rw [h]; exact .inr rfl
        · rw [h]
          have hc := hs.cost j hj
          obtain ⟨x, _, _, e⟩ := Ld_is hs (lo := lo) (hi := hi) (off := off) (m := m) hw hj
          rcases strk_small hs (lo := lo) (hi := hi) hw n (off + x) (m - (tools.getD j z57).f1) (by omega) (by omega) with h' | h'
          · exact .inl (by dsimp only; omega)
          · omega
    · rw [strk_out _ _ _ _ _ _ hin]; exact .inr rfl
theorem strk_le {tools : List S57} (hs : Sound tools) {lo hi way : Int} (hw : way = 0 ∨ way = 1) (off m : Int) (h0 : 0 ≤ m) : (strk tools lo hi way off m).2 ≤ m ∨ (strk tools lo hi way off m).2 = 1000 :=
  strk_small hs hw (m.toNat + 1) off m h0 (by omega)
/-- Where a key is fine, where it may be spoilt, and else. -/
inductive Strk (tools : List S57) (lo hi way off m : Int) : Prop
  | fine (h : lo ≤ off ∧ off ≤ hi) (e : strk tools lo hi way off m = (-1, 0))
  | none (h : ¬ (lo ≤ off ∧ off ≤ hi)) (e : strk tools lo hi way off m = (-1, 1000)) (h2 : ∀ k, k < tools.length → (tools.getD k z57).f1 ≤ m → Ld tools lo hi way off m k = 1000)
  | tool (h : ¬ (lo ≤ off ∧ off ≤ hi)) (j : Nat) (hj : j < tools.length) (e : strk tools lo hi way off m = ((j : Int), Ld tools lo hi way off m j + 1)) (hc : (tools.getD j z57).f1 ≤ m) (hl : 0 ≤ Ld tools lo hi way off m j) (hm : Ld tools lo hi way off m j ≤ m - (tools.getD j z57).f1)
      (h2 : ∀ k, k < tools.length → (tools.getD k z57).f1 ≤ m → Ld tools lo hi way off m j ≤ Ld tools lo hi way off m k ∧ (k < j → Ld tools lo hi way off m j < Ld tools lo hi way off m k))
theorem strk_cases {tools : List S57} (hs : Sound tools) {lo hi way : Int} (hw : way = 0 ∨ way = 1) (off m : Int) (h0 : 0 ≤ m) (hm : m ≤ 30) (hin : -60 ≤ off ∧ off ≤ 60) : Strk tools lo hi way off m := by
  by_cases hf : lo ≤ off ∧ off ≤ hi
  · exact .fine hf (strk_fine hs h0 hin hf)
  · rcases strk_bst hs (way := way) h0 hin hf with ⟨h, h2⟩ | ⟨j, hj, h, h2, h3, h4⟩
    · refine .none hf h fun k hk hc => ?_
      have h9 := h2 k hk hc
      have hcc := hs.cost k hk
      obtain ⟨x, _, _, e⟩ := Ld_is hs (lo := lo) (hi := hi) (off := off) (m := m) hw hk
      rcases strk_le hs (lo := lo) (hi := hi) hw (off + x) (m - (tools.getD k z57).f1) (by omega) with h' | h'
      · omega
      · omega
    · have hcc := hs.cost j hj
      obtain ⟨x, _, _, e⟩ := Ld_is hs (lo := lo) (hi := hi) (off := off) (m := m) hw hj
      have hb := strk_bnd tools lo hi way (off + x) (m - (tools.getD j z57).f1)
      refine .tool hf j hj h h2 (by omega) ?_ h4
      rcases strk_le hs (lo := lo) (hi := hi) hw (off + x) (m - (tools.getD j z57).f1) (by omega) with h' | h'
      · omega
      · omega
end Go.Proofs.YtfmpbkolpjlfbaaDoor.Q
namespace Go.Proofs.YtfmpbkolpjlfbaaDoor.Q
open Go.RowKit Go.Proofs.YtfmpbkolpjlfbaaDoorW.PrintWords Go.Proofs.YtfmpbkolpjlfbaaDoorW.PrintLast Go.Proofs.YtfmpbkolpjlfbaaDoor.PRaspKeys Go.Proofs.YtfmpbkolpjlfbaaDoor.R
theorem rd_nat (l : List Int) (n : Nat) : rd l (n : Int) = l.getD n 0 := by simp [rd]
theorem equal_l0 (l : List Int) (hl : l.length ≤ 9223372036854775807) : ∀ (d n : Nat), n + d = l.length → Ev (fun k => saronref00_Equal.l0 k l l true (n : Int)) true
  | 0, n, hd => by
    refine Ev.step (fun k => by rw [saronref00_Equal.l0, if_pos rfl, if_neg (by omega)]) ?_
    exact Ev.now _
  | d + 1, n, hd => by
    refine Ev.step (fun k => by rw [saronref00_Equal.l0, if_pos rfl, if_pos (by omega), if_pos (by omega), if_pos (by omega), w64 (by omega) (by omega), beq_self_eq_true, show ((n : Int) + 1) = ((n + 1 : Nat) : Int) by omega]) ?_
    exact equal_l0 l hl d (n + 1) (by omega)
theorem equal_self (l : List Int) (hl : l.length ≤ 9223372036854775807) : Ev (fun k => saronref00_Equal.f k l l) true := by
  refine evc (fun k => by rw [saronref00_Equal.f, beq_self_eq_true]) ?_
  exact equal_l0 l hl l.length 0 (by omega)
theorem equalRows_l0 (l : List (List Int)) (hl : l.length ≤ 9223372036854775807) (hr : ∀ x ∈ l, x.length ≤ 9223372036854775807) : ∀ (d n : Nat), n + d = l.length → Ev (fun k => saronref00_EqualRows.l0 k l l true (n : Int)) true
  | 0, n, hd => by
    refine Ev.step (fun k => by rw [saronref00_EqualRows.l0, if_pos rfl, if_neg (by omega)]) ?_
    exact Ev.now _
  | d + 1, n, hd => by
    refine Ev.step (fun k => by rw [saronref00_EqualRows.l0, if_pos rfl, if_pos (by omega), if_pos (by omega), if_pos (by omega), w64 (by omega) (by omega), show ((n : Int) + 1) = ((n + 1 : Nat) : Int) by omega]) ?_
    refine ebind (equal_self _ ?_) (equalRows_l0 l hl hr d (n + 1) (by omega))
    have hn : n < l.length := by omega
    rw [show rd_L4 l (n : Int) = l[n] by simp [rd_L4, hn]]
    exact hr _ (List.getElem_mem hn)
theorem equalRows_self (l : List (List Int)) (hl : l.length ≤ 9223372036854775807) (hr : ∀ x ∈ l, x.length ≤ 9223372036854775807) : Ev (fun k => saronref00_EqualRows.f k l l) true := by
  refine evc (fun k => by rw [saronref00_EqualRows.f, beq_self_eq_true]) ?_
  exact equalRows_l0 l hl hr l.length 0 (by omega)
end Go.Proofs.YtfmpbkolpjlfbaaDoor.Q
