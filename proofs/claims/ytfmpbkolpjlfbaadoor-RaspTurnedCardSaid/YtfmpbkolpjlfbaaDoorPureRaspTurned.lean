import Derived.Test.YtfmpbkolpjlfbaaDoorPH
import Derived.Test.YtfmpbkolpjlfbaaDoorPC
import Derived.Test.YtfmpbkolpjlfbaaDoorLTurned
set_option linter.unusedVariables false
set_option linter.unusedSimpArgs false
namespace Go.Proofs.YtfmpbkolpjlfbaaDoor
open Go.RowKit PRaspKeys R Q Go.Proofs.YtfmpbkolpjlfbaaDoorW.PrintWords
/-- The first n tools, turned round. -/
structure RaspTurned.Opp (l0 l : List S57) (n : Nat) : Prop where
  len : l.length = n
  at_ : ∀ k, k < n → (l.getD k z57).f0.f0 = -(l0.getD k z57).f0.f1 ∧ (l.getD k z57).f0.f1 = -(l0.getD k z57).f0.f0 ∧ (l.getD k z57).f1 = (l0.getD k z57).f1
structure RaspTurned.OppK (l0 l : List S69) (n : Nat) : Prop where
  len : l.length = n
  at_ : ∀ k, k < n → (l.getD k z69).f0.f0 = -(l0.getD k z69).f0.f1 ∧ (l.getD k z69).f0.f1 = -(l0.getD k z69).f0.f0 ∧ (l.getD k z69).f1 = (l0.getD k z69).f1
theorem RaspTurned.Opp.snoc {l0 l : List S57} {n : Nat} (h : RaspTurned.Opp l0 l n) (a b c : Int) (h1 : a = -(l0.getD n z57).f0.f1) (h2 : b = -(l0.getD n z57).f0.f0) (h3 : c = (l0.getD n z57).f1) : RaspTurned.Opp l0 (l ++ [⟨⟨a, b⟩, c⟩]) (n + 1) := by
  refine ⟨by simp [h.len], fun k hk => ?_⟩
  have hl := h.len
  by_cases e : k = n
  · subst e
    rw [show (l ++ [(⟨⟨a, b⟩, c⟩ : S57)]).getD k z57 = ⟨⟨a, b⟩, c⟩ by simp [List.getD, hl]]
    exact ⟨h1, h2, h3⟩
  · rw [show (l ++ [(⟨⟨a, b⟩, c⟩ : S57)]).getD k z57 = l.getD k z57 by simp only [List.getD]; rw [List.getElem?_append_left (by omega)]]
    exact h.at_ k (by omega)
theorem RaspTurned.OppK.snoc {l0 l : List S69} {n : Nat} (h : RaspTurned.OppK l0 l n) (a b c : Int) (h1 : a = -(l0.getD n z69).f0.f1) (h2 : b = -(l0.getD n z69).f0.f0) (h3 : c = (l0.getD n z69).f1) : RaspTurned.OppK l0 (l ++ [⟨⟨a, b⟩, c⟩]) (n + 1) := by
  refine ⟨by simp [h.len], fun k hk => ?_⟩
  have hl := h.len
  by_cases e : k = n
  · subst e
    rw [show (l ++ [(⟨⟨a, b⟩, c⟩ : S69)]).getD k z69 = ⟨⟨a, b⟩, c⟩ by simp [List.getD, hl]]
    exact ⟨h1, h2, h3⟩
  · rw [show (l ++ [(⟨⟨a, b⟩, c⟩ : S69)]).getD k z69 = l.getD k z69 by simp only [List.getD]; rw [List.getElem?_append_left (by omega)]]
    exact h.at_ k (by omega)
theorem RaspTurned.ok {l0 l : List S57} {lo hi : Int} {l3 k3 : List S69} (hb : bookOk l0 lo hi l3 = true) (h : RaspTurned.Opp l0 l l0.length) (hk : RaspTurned.OppK l3 k3 l3.length) : bookOk l (-hi) (-lo) k3 = true := by
  have hs := sound_of hb
  have hlen := len_ok hb
  unfold bookOk isIn
  rw [h.len, hk.len]
  simp only [Bool.and_eq_true, List.all_eq_true, decide_eq_true_eq]
  refine ⟨⟨by omega, by omega, by omega⟩, fun t ht => ?_, fun t ht => ?_⟩
  · obtain ⟨k, hk', rfl⟩ := List.getElem_of_mem ht
    have ho := h.at_ k (by have := h.len; omega)
    have hm := hs.move k (by have := h.len; omega)
    have hc := hs.cost k (by have := h.len; omega)
    rw [show l.getD k z57 = l[k] by simp [hk']] at ho
    unfold toolOk isIn
    simp only [Bool.and_eq_true, decide_eq_true_eq]
    omega
  · obtain ⟨k, hk', rfl⟩ := List.getElem_of_mem ht
    have ho := hk.at_ k (by have := hk.len; omega)
    have hm := key_ok_h hb k (by have := hk.len; omega)
    rw [show k3.getD k z69 = k3[k] by simp [hk']] at ho
    unfold keyOk isIn
    simp only [Bool.and_eq_true, decide_eq_true_eq]
    omega
theorem RaspTurned.ld_opp {way : Int} (hw : way = 0 ∨ way = 1) {G' G : Int → Int} (b' : ∀ o, 0 ≤ G' o ∧ G' o ≤ 1000) (b : ∀ o, 0 ≤ G o ∧ G o ≤ 1000) (hG : ∀ o, G' o = G (-o)) {lo hi off : Int} (h : lo ≤ hi) : ld way G' (-hi) (-lo) (-off) = ld way G lo hi off := by
  rcases hw with rfl | rfl
  · obtain ⟨h1, x, hx, hx', e⟩ := ld_worst b' (off := -off) (show -hi ≤ -lo by omega)
    obtain ⟨h2, y, hy, hy', e'⟩ := ld_worst b (off := off) h
    have u := h1 (-y) (by omega) (by omega)
    have v := h2 (-x) (by omega) (by omega)
    rw [hG] at u e
    rw [show -(-off + -y) = off + y by omega] at u
    rw [show -(-off + x) = off + -x by omega] at e
    omega
  · obtain ⟨h1, x, hx, hx', e⟩ := ld_best b' (off := -off) (show -hi ≤ -lo by omega)
    obtain ⟨h2, y, hy, hy', e'⟩ := ld_best b (off := off) h
    have u := h1 (-y) (by omega) (by omega)
    have v := h2 (-x) (by omega) (by omega)
    rw [hG] at u e
    rw [show -(-off + -y) = off + y by omega] at u
    rw [show -(-off + x) = off + -x by omega] at e
    omega
/-- Turned round, the strokes are the same. -/
theorem RaspTurned.strk_opp {l0 l : List S57} {lo hi way : Int} (hs : Sound l0) (hs' : Sound l) (hw : way = 0 ∨ way = 1) (h : RaspTurned.Opp l0 l l0.length) : ∀ (n : Nat) (o m : Int), 0 ≤ m → m < n → strk l (-hi) (-lo) way (-o) m = strk l0 lo hi way o m
  | 0, o, m, h0, hn => by omega
  | n + 1, o, m, h0, hn => by
    by_cases hin : -60 ≤ o ∧ o ≤ 60
    · by_cases hf : lo ≤ o ∧ o ≤ hi
      · rw [strk_fine hs h0 hin hf, strk_fine hs' h0 (by omega) (by omega)]
      · rw [strk_eq hs lo hi way o m h0, strk_eq hs' (-hi) (-lo) way (-o) m h0, if_neg (by omega), if_neg (by omega), if_neg (by omega), if_neg (by omega), h.len]
        rw [foldl_congr]
        intro out k hk
        have hk := List.mem_range.1 hk
        have ha := h.at_ k hk
        have hc := hs.cost k hk
        have hm := hs.move k hk
        unfold stool
        rw [ha.2.2]
        by_cases c : m < (l0.getD k z57).f1
        · rw [if_pos c, if_pos c]
        · have e : leadsTo way (fun o m => (strk l (-hi) (-lo) way o m).2) (l.getD k z57) (-o) m = leadsTo way (fun o m => (strk l0 lo hi way o m).2) (l0.getD k z57) o m := by
            rw [leadsTo_eq _ _ _ _ _ (fun o m => strk_bnd l (-hi) (-lo) way o m) (by omega), leadsTo_eq _ _ _ _ _ (fun o m => strk_bnd l0 lo hi way o m) (by omega), ha.1, ha.2.1, ha.2.2]
            refine RaspTurned.ld_opp hw (fun o => strk_bnd l (-hi) (-lo) way o _) (fun o => strk_bnd l0 lo hi way o _) (fun x => ?_) hm.2.1
            have := RaspTurned.strk_opp (lo := lo) (hi := hi) hs hs' hw h n (-x) (m - (l0.getD k z57).f1) (by omega) (by omega)
            rw [Int.neg_neg] at this
            rw [this]
          rw [if_neg c, if_neg c, e]
    · rw [strk_out _ _ _ _ _ _ hin, strk_out _ _ _ _ _ _ (by omega)]
section
variable {l0 l : List S57} {lo hi : Int} {l3 k3 : List S69} (hb : bookOk l0 lo hi l3 = true) (h : RaspTurned.Opp l0 l l0.length) (hk : RaspTurned.OppK l3 k3 l3.length)
theorem RaspTurned.strk0 (hb : bookOk l0 lo hi l3 = true) (h : RaspTurned.Opp l0 l l0.length) (hk : RaspTurned.OppK l3 k3 l3.length) {way : Int} (hw : way = 0 ∨ way = 1) (o m : Int) (h0 : 0 ≤ m) : strk l (-hi) (-lo) way (-o) m = strk l0 lo hi way o m :=
  RaspTurned.strk_opp (sound_of hb) (sound_of (RaspTurned.ok hb h hk)) hw h (m.toNat + 1) o m h0 (by omega)
theorem RaspTurned.keyF_opp (hb : bookOk l0 lo hi l3 = true) (h : RaspTurned.Opp l0 l l0.length) (hk : RaspTurned.OppK l3 k3 l3.length) (i : Nat) (hi' : i < l3.length) : keyF l (-hi) (-lo) (k3.getD i z69) = keyF l0 lo hi (l3.getD i z69) := by
  have ha := hk.at_ i hi'
  have ho := key_ok_h hb i hi'
  unfold keyF
  rw [ha.1, ha.2.1, ha.2.2, show -(l3.getD i z69).f0.f0 - -(l3.getD i z69).f0.f1 + 1 = (l3.getD i z69).f0.f1 - (l3.getD i z69).f0.f0 + 1 by omega]
  generalize hA : (l3.getD i z69).f0.f0 = A at *
  generalize hB : (l3.getD i z69).f0.f1 = B at *
  generalize hM : (l3.getD i z69).f1 = M at *
  obtain ⟨p1, p2⟩ := keyTo_sp l (-hi) (-lo) (-B) M (B - A + 1).toNat
  obtain ⟨q1, q2⟩ := keyTo_sp l0 lo hi A M (B - A + 1).toNat
  have hpb := keyTo_bnd l (-hi) (-lo) (-B) M (B - A + 1).toNat
  have hqb := keyTo_bnd l0 lo hi A M (B - A + 1).toNat
  have key : ∀ x : Int, (strk l (-hi) (-lo) 0 (-x) M) = strk l0 lo hi 0 x M := fun x => RaspTurned.strk0 hb h hk (.inl rfl) x M (by omega)
  refine Int.le_antisymm ?_ ?_
  · rcases p2 with p2 | ⟨j, hj, p2⟩
    · omega
    · have := q1 (B - A - j).toNat (by omega)
      have hx := key (A + ((B - A - j).toNat : Int))
      rw [show -(A + ((B - A - j).toNat : Int)) = -B + (j : Int) by omega] at hx
      rw [p2, hx]
      exact this
  · rcases q2 with q2 | ⟨j, hj, q2⟩
    · omega
    · have := p1 (B - A - j).toNat (by omega)
      have hx := key (A + (j : Int))
      rw [show -(A + (j : Int)) = -B + ((B - A - j).toNat : Int) by omega] at hx
      rw [hx] at this
      rw [q2]
      exact this
theorem RaspTurned.spList_opp (hb : bookOk l0 lo hi l3 = true) (h : RaspTurned.Opp l0 l l0.length) (hk : RaspTurned.OppK l3 k3 l3.length) : ∀ n, n ≤ l3.length → spList l (-hi) (-lo) k3 n = spList l0 lo hi l3 n
  | 0, _ => rfl
  | n + 1, hn => by
    unfold spList
    rw [RaspTurned.spList_opp hb h hk n (by omega)]
    have e : spoiltAt l (-hi) (-lo) k3 k3.length n = spoiltAt l0 lo hi l3 l3.length n := by
      unfold spoiltAt
      rw [hk.len, RaspTurned.keyF_opp hb h hk n (by omega)]
    rw [e]
theorem RaspTurned.need_opp (hb : bookOk l0 lo hi l3 = true) (h : RaspTurned.Opp l0 l l0.length) (hk : RaspTurned.OppK l3 k3 l3.length) (o : Int) : ∀ d n, needFrom l (-hi) (-lo) (-o) d n = needFrom l0 lo hi o d n
  | 0, _ => rfl
  | d + 1, n => by
    unfold needFrom
    rw [RaspTurned.need_opp hb h hk o d (n + 1), RaspTurned.strk0 hb h hk (.inl rfl) o n (by omega)]
theorem RaspTurned.end_f (hb : bookOk l0 lo hi l3 = true) (h : RaspTurned.Opp l0 l l0.length) (hk : RaspTurned.OppK l3 k3 l3.length) (a b : Int) : ∀ (g : Nat → Option Bool), (∀ k, g k = saronlaw03_RaspTurned.l1 k (l3.length : Int) l0 lo hi l3 a b l (-hi) (-lo) k3) → Ev g true := by
  intro g hg
  have hb' := RaspTurned.ok hb h hk
  have hlen := len_ok hb
  refine evc hg ?_
  refine Ev.step (fun k => by rw [saronlaw03_RaspTurned.l1, if_neg (by omega), state_f, Option.bind_some, rasp_Next.f, Option.bind_some, rasp_Next.f, Option.bind_some, rasp_Need.f, Option.bind_some, rasp_Need.f, Option.bind_some]) ?_
  have ha := Int.emod_nonneg a (show (121 : Int) ≠ 0 by omega)
  have ha' := Int.emod_lt_of_pos a (show (0 : Int) < 121 by omega)
  have hbb := Int.emod_nonneg b (show (31 : Int) ≠ 0 by omega)
  have hbb' := Int.emod_lt_of_pos b (show (0 : Int) < 31 by omega)
  generalize ho : a % 121 - 60 = o
  generalize hm' : b % 31 = m at *
  have hin : -60 ≤ o ∧ o ≤ 60 := by omega
  have en : nextF l (-hi) (-lo) k3 (-o) m = nextF l0 lo hi l3 o m := by
    rw [next_ok hb' (by omega) (by omega) (by omega), next_ok hb hin (by omega) (by omega), RaspTurned.strk0 hb h hk (.inl rfl) o m (by omega)]
  have el : luckyF l (-hi) (-lo) k3 (-o) m = luckyF l0 lo hi l3 o m := by
    rw [lucky_ok hb' (by omega) (by omega) (by omega), lucky_ok hb hin (by omega) (by omega), RaspTurned.strk0 hb h hk (.inr rfl) o m (by omega)]
  have ed : needF l (-hi) (-lo) k3 (-o) = needF l0 lo hi l3 o := by
    unfold needF
    rw [asked_of (o := -o) (m := 0) (by omega) (by omega) (by omega), asked_of (o := o) (m := 0) hin (by omega) (by omega), openV_ok hb, openV_ok hb', RaspTurned.need_opp hb h hk]
  have es : spoiltF l (-hi) (-lo) k3 = spoiltF l0 lo hi l3 := by
    unfold spoiltF
    rw [openV_ok hb, openV_ok hb', hk.len, RaspTurned.spList_opp hb h hk _ (Nat.le_refl _)]
  have hsl : (spoiltF l0 lo hi l3).1.length ≤ 9223372036854775807 := by
    unfold spoiltF
    split
    · simp
    · have := spList_len l0 lo hi l3 l3.length
      dsimp only
      omega
  refine evc (fun k => by rw [w64 (x := -o) (by omega) (by omega), en, ed, if_pos rfl, if_pos rfl, if_pos rfl, if_pos rfl, bne_self_eq_false]) ?_
  refine Ev.step (fun k => by rw [saronlaw03_RaspTurned.j2, if_neg (by simp), rasp_Lucky.f, Option.bind_some, rasp_Lucky.f, Option.bind_some, w64 (x := -o) (by omega) (by omega), el, rasp_Spoilt.f, Option.bind_some, rasp_Spoilt.f, Option.bind_some, es, if_pos rfl, if_pos rfl]) ?_
  refine ebind (equal_self _ hsl) ?_
  refine ev_some fun k => ?_
  rw [if_pos rfl, if_pos rfl]
  rfl
end
theorem RaspTurned.l1_f {l0 l : List S57} {lo hi : Int} {l3 : List S69} (hb : bookOk l0 lo hi l3 = true) (h : RaspTurned.Opp l0 l l0.length) (a b : Int) : ∀ (d n : Nat) (k3 : List S69), n + d = l3.length → RaspTurned.OppK l3 k3 n →
    Ev (fun k => saronlaw03_RaspTurned.l1 k (n : Int) l0 lo hi l3 a b l (-hi) (-lo) k3) true
  | 0, n, k3, hd, hk => by
    obtain rfl : n = l3.length := by omega
    exact RaspTurned.end_f hb h hk a b _ fun k => rfl
  | d + 1, n, k3, hd, hk => by
    have hlen := len_ok hb
    have hmv := key_ok_h hb n (by omega)
    have hll := hk.len
    refine Ev.step (fun k => by rw [saronlaw03_RaspTurned.l1, if_pos (by omega), if_pos (by omega), show rd_T69 l3 (n : Int) = l3.getD n z69 by simp [rd_T69], saronlaw03_key.f, saronref00_Band.f, Option.bind_some, Option.bind_some, if_pos (by omega), w64 (x := (n : Int) + 1) (by omega) (by omega), w64 (x := -(l3.getD n z69).f0.f1) (by omega) (by omega), w64 (x := -(l3.getD n z69).f0.f0) (by omega) (by omega), show ((n : Int) + 1) = ((n + 1 : Nat) : Int) by omega]) ?_
    exact RaspTurned.l1_f hb h a b d (n + 1) _ (by omega) (hk.snoc _ _ _ rfl rfl rfl)
theorem RaspTurned.l0_f {l0 : List S57} {lo hi : Int} {l3 : List S69} (hb : bookOk l0 lo hi l3 = true) (a b : Int) : ∀ (d n : Nat) (l : List S57), n + d = l0.length → RaspTurned.Opp l0 l n →
    Ev (fun k => saronlaw03_RaspTurned.l0 k (n : Int) l0 lo hi l3 a b l (-hi) (-lo)) true
  | 0, n, l, hd, h => by
    obtain rfl : n = l0.length := by omega
    refine Ev.step (fun k => by rw [saronlaw03_RaspTurned.l0, if_neg (by omega)]) ?_
    exact RaspTurned.l1_f hb h a b l3.length 0 [] (by omega) ⟨rfl, fun k hk => by omega⟩
  | d + 1, n, l, hd, h => by
    have hlen := len_ok hb
    have hmv := (sound_of hb).move n (by omega)
    have hll := h.len
    refine Ev.step (fun k => by rw [saronlaw03_RaspTurned.l0, if_pos (by omega), if_pos (by omega), show rd_T57 l0 (n : Int) = l0.getD n z57 by simp [rd_T57], saronref00_Band.f, Option.bind_some, if_pos (by omega), w64 (x := (n : Int) + 1) (by omega) (by omega), w64 (x := -(l0.getD n z57).f0.f1) (by omega) (by omega), w64 (x := -(l0.getD n z57).f0.f0) (by omega) (by omega), show ((n : Int) + 1) = ((n + 1 : Nat) : Int) by omega]) ?_
    exact RaspTurned.l0_f hb a b d (n + 1) _ (by omega) (h.snoc _ _ _ rfl rfl rfl)
theorem RaspTurned.pure (l0 : List S57) (lo hi : Int) (l3 : List S69) (h0 : l0.length ≤ 9223372036854775807) (h3 : l3.length ≤ 9223372036854775807) (a b : Int) (wa : (Lit.int .i64 a).wf = true) (wb : (Lit.int .i64 b).wf = true) :
    ∃ k, saronlaw03_RaspTurned.f k l0 lo hi l3 a b = some true := by
  refine Ev.rounds (g := fun k => saronlaw03_RaspTurned.f k l0 lo hi l3 a b) ?_
  refine ebind (sound_f l0 lo hi l3 h0 h3) ?_
  by_cases hb : bookOk l0 lo hi l3 = true
  · have hlen := len_ok hb
    refine evc (fun k => by rw [if_pos hb, saronref00_Band.f, Option.bind_some, w64 (x := -hi) (by omega) (by omega), w64 (x := -lo) (by omega) (by omega)]) ?_
    exact RaspTurned.l0_f hb a b l0.length 0 [] (by omega) ⟨rfl, fun k hk => by omega⟩
  · refine ev_some fun k => ?_
    rw [if_neg hb]
    rfl
end Go.Proofs.YtfmpbkolpjlfbaaDoor
