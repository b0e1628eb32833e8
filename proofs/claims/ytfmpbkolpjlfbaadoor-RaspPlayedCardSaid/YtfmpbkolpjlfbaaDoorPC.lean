import Derived.Test.YtfmpbkolpjlfbaaDoorPS
set_option linter.unusedVariables false
set_option linter.unusedSimpArgs false
namespace Go.Proofs.YtfmpbkolpjlfbaaDoor.Q
open Go.RowKit Go.Proofs.YtfmpbkolpjlfbaaDoorW.PrintWords Go.Proofs.YtfmpbkolpjlfbaaDoorW.PrintLast Go.Proofs.YtfmpbkolpjlfbaaDoor.PRaspKeys Go.Proofs.YtfmpbkolpjlfbaaDoor.R
/-! ### Shops compared -/
/-- What a tool leads to is no more than what another one does, if all that follows is no more. -/
def LdLe (way' way : Int) (t' t : S57) : Prop := ∀ (off : Int) (G' G : Int → Int), (∀ o, 0 ≤ G' o ∧ G' o ≤ 1000) → (∀ o, 0 ≤ G o ∧ G o ≤ 1000) → (∀ o, G' o ≤ G o) → ld way' G' t'.f0.f0 t'.f0.f1 off ≤ ld way G t.f0.f0 t.f0.f1 off
theorem LdLe.worst {t' t : S57} (h : t'.f0.f0 ≤ t'.f0.f1) (h1 : t.f0.f0 ≤ t'.f0.f0) (h2 : t'.f0.f1 ≤ t.f0.f1) : LdLe 0 0 t' t := by
  intro off G' G b' b hG
  obtain ⟨x, hx, hx', e⟩ := (ld_worst b' (off := off) h).2
  have := (ld_worst b (off := off) (lo := t.f0.f0) (hi := t.f0.f1) (by omega)).1 x (by omega) (by omega)
  have := hG (off + x)
  omega
theorem LdLe.best {t' t : S57} (h : t.f0.f0 ≤ t.f0.f1) (h1 : t'.f0.f0 ≤ t.f0.f0) (h2 : t.f0.f1 ≤ t'.f0.f1) : LdLe 1 1 t' t := by
  intro off G' G b' b hG
  obtain ⟨x, hx, hx', e⟩ := (ld_best b (off := off) h).2
  have := (ld_best b' (off := off) (lo := t'.f0.f0) (hi := t'.f0.f1) (by omega)).1 x (by omega) (by omega)
  have := hG (off + x)
  omega
theorem LdLe.mix {t : S57} (h : t.f0.f0 ≤ t.f0.f1) : LdLe 1 0 t t := by
  intro off G' G b' b hG
  have h1 := (ld_best b' (off := off) h).1 t.f0.f0 (by omega) h
  have h2 := (ld_worst b (off := off) h).1 t.f0.f0 (by omega) h
  have := hG (off + t.f0.f0)
  omega
theorem LdLe.one {t : S57} (h : t.f0.f0 = t.f0.f1) : LdLe 0 1 t t := by
  intro off G' G b' b hG
  obtain ⟨x, hx, hx', e⟩ := (ld_worst b' (off := off) (show t.f0.f0 ≤ t.f0.f1 by omega)).2
  obtain ⟨y, hy, hy', e'⟩ := (ld_best b (off := off) (show t.f0.f0 ≤ t.f0.f1 by omega)).2
  obtain rfl : x = y := by omega
  have := hG (off + x)
  omega
theorem cmp {tools' tools : List S57} (hs' : Sound tools') (hs : Sound tools) {lo' hi' lo hi way' way : Int} (hw' : way' = 0 ∨ way' = 1) (hw : way = 0 ∨ way = 1) (h1 : lo' ≤ lo) (h2 : hi ≤ hi')
    (H : ∀ k, k < tools.length → ∃ k', k' < tools'.length ∧ (tools'.getD k' z57).f1 ≤ (tools.getD k z57).f1 ∧ LdLe way' way (tools'.getD k' z57) (tools.getD k z57)) : ∀ (n : Nat) (o m m' : Int), 0 ≤ m → m < n → m ≤ m' → m' ≤ 30 →
    (strk tools' lo' hi' way' o m').2 ≤ (strk tools lo hi way o m).2
  | 0, o, m, m', h0, hn, hm, hm' => by omega
  | n + 1, o, m, m', h0, hn, hm, hm' => by
    have hb' := strk_bnd tools' lo' hi' way' o m'
    by_cases hin : -60 ≤ o ∧ o ≤ 60
    · rcases strk_cases hs (lo := lo) (hi := hi) hw o m h0 (by omega) hin with ⟨hf, e⟩ | ⟨_, e, _⟩ | ⟨hf, j, hj, e, hc, hl, hlm, _⟩
      · rw [strk_fine hs' (by omega) hin (by omega), e]; exact Int.le_refl 0
      · rw [e]; exact hb'.2
      · rw [e]
        obtain ⟨k', hk', hck, hLe⟩ := H j hj
        have hcj := hs.cost j hj
        have hL : Ld tools' lo' hi' way' o m' k' ≤ Ld tools lo hi way o m j := by
          -- what follows is no more
          refine hLe o _ _ (fun o => strk_bnd tools' lo' hi' way' o _) (fun o => strk_bnd tools lo hi way o _) (fun x => ?_)
          exact cmp hs' hs hw' hw h1 h2 H n x (m - (tools.getD j z57).f1) (m' - (tools'.getD k' z57).f1) (by omega) (by omega) (by omega) (by have := hs'.cost k' hk'; omega)
        rcases strk_cases hs' (lo := lo') (hi := hi') hw' o m' (by omega) hm' hin with ⟨_, e'⟩ | ⟨_, e', h9⟩ | ⟨_, j', hj', e', _, _, _, h9⟩
        · rw [e']; dsimp only; omega
        · have := h9 k' hk' (by omega); omega
        · rw [e']
          have := (h9 k' hk' (by omega)).1
          dsimp only
          omega
    · rw [strk_out tools lo hi way o m hin]; exact hb'.2
/-- More metal never takes more strokes. -/
theorem more_metal {tools : List S57} (hs : Sound tools) {lo hi way : Int} (hw : way = 0 ∨ way = 1) (o m m' : Int) (h0 : 0 ≤ m) (hm : m ≤ m') (hm' : m' ≤ 30) : (strk tools lo hi way o m').2 ≤ (strk tools lo hi way o m).2 := by
  refine cmp hs hs hw hw (Int.le_refl _) (Int.le_refl _) (fun k hk => ⟨k, hk, Int.le_refl _, ?_⟩) (m.toNat + 1) o m m' h0 (by omega) hm hm'
  have hmv := hs.move k hk
  rcases hw with rfl | rfl
  · exact LdLe.worst hmv.2.1 (Int.le_refl _) (Int.le_refl _)
  · exact LdLe.best hmv.2.1 (Int.le_refl _) (Int.le_refl _)
theorem best_worst {tools : List S57} (hs : Sound tools) {lo hi : Int} (o m : Int) (h0 : 0 ≤ m) (hm : m ≤ 30) : (strk tools lo hi 1 o m).2 ≤ (strk tools lo hi 0 o m).2 :=
  cmp hs hs (.inr rfl) (.inl rfl) (Int.le_refl _) (Int.le_refl _) (fun k hk => ⟨k, hk, Int.le_refl _, LdLe.mix (hs.move k hk).2.1⟩) (m.toNat + 1) o m m h0 (by omega) (Int.le_refl _) hm
theorem keyTo_sp (tools : List S57) (lo hi a m : Int) : ∀ n : Nat, (∀ i : Nat, i < n → (strk tools lo hi 0 (a + i) m).2 ≤ keyTo tools lo hi a m n) ∧ (keyTo tools lo hi a m n = 0 ∨ ∃ i : Nat, i < n ∧ keyTo tools lo hi a m n = (strk tools lo hi 0 (a + i) m).2)
  | 0 => ⟨fun i h => by omega, .inl rfl⟩
  | n + 1 => by
    obtain ⟨h1, h2⟩ := keyTo_sp tools lo hi a m n
    unfold keyTo
    refine ⟨fun i hi => ?_, ?_⟩
    · by_cases e : i = n
      · subst e; omega
      · have := h1 i (by omega); omega
    · by_cases c : keyTo tools lo hi a m n ≤ (strk tools lo hi 0 (a + n) m).2
      · exact .inr ⟨n, by omega, by omega⟩
      · rcases h2 with h2 | ⟨i, hi, h2⟩
        · exact .inl (by omega)
        · exact .inr ⟨i, by omega, by omega⟩
theorem keyF_sm {tools : List S57} {lo hi : Int} (hs : Sound tools) (kk : S69) (h : 0 ≤ kk.f1) : keyF tools lo hi kk ≤ kk.f1 ∨ keyF tools lo hi kk = 1000 := by
  unfold keyF
  rcases (keyTo_sp tools lo hi kk.f0.f0 kk.f1 (kk.f0.f1 - kk.f0.f0 + 1).toNat).2 with h2 | ⟨i, hi', h2⟩
  · left; omega
  · rw [h2]
    exact strk_le hs (.inl rfl) _ _ h
end Go.Proofs.YtfmpbkolpjlfbaaDoor.Q
