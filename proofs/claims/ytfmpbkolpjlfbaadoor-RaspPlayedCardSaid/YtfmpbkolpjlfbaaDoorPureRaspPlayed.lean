import Derived.Test.YtfmpbkolpjlfbaaDoorPH
import Derived.Test.YtfmpbkolpjlfbaaDoorPC
import Derived.Test.YtfmpbkolpjlfbaaDoorPTD
import Derived.Test.YtfmpbkolpjlfbaaDoorLPlayed
set_option linter.unusedVariables false
set_option linter.unusedSimpArgs false
namespace Go.Proofs.YtfmpbkolpjlfbaaDoor
open Go.RowKit PRaspKeys R Q Go.Proofs.YtfmpbkolpjlfbaaDoorW.PrintWords
theorem RaspPlayed.grows_l0 (l : List Int) (below : Int) (hl : l.length ≤ 1000) : ∀ (d n : Nat) (last : Int), n + d = l.length → (l.drop n).Pairwise (· < ·) → (∀ x ∈ l.drop n, last < x ∧ x < below) → Ev (fun k => saronref00_Grows.l0 k l below last (n : Int)) true
  | 0, n, last, hd, hp, ha => by
    refine Ev.step (fun k => by rw [saronref00_Grows.l0, if_neg (by omega)]) ?_
    exact Ev.now true
  | d + 1, n, last, hd, hp, ha => by
    have hn : n < l.length := by omega
    rw [List.drop_eq_getElem_cons hn] at hp ha
    have h1 := ha l[n] List.mem_cons_self
    rw [List.pairwise_cons] at hp
    refine Ev.step (fun k => by rw [saronref00_Grows.l0, if_pos (by omega), if_pos (by omega), rd_nat, show l.getD n 0 = l[n] by simp [hn], if_neg (by omega), if_neg (by omega), w64 (by omega) (by omega), show ((n : Int) + 1) = ((n + 1 : Nat) : Int) by omega]) ?_
    exact RaspPlayed.grows_l0 l below hl d (n + 1) _ (by omega) hp.2 fun x hx => ⟨hp.1 x hx, (ha x (List.mem_cons_of_mem _ hx)).2⟩
theorem RaspPlayed.where_l0 (l : List Int) (v : Int) (hl : l.length ≤ 1000) : ∀ (d n : Nat), n + d = l.length → ∃ r, Ev (fun k => saronref00_Where.l0 k l v (n : Int)) r ∧ (0 ≤ r ↔ v ∈ l.drop n)
  | 0, n, hd => by
    refine ⟨-1, ?_, ?_⟩
    · refine Ev.step (fun k => by rw [saronref00_Where.l0, if_neg (by omega)]) ?_
      exact Ev.now _
    · rw [List.drop_of_length_le (by omega)]
      simp
  | d + 1, n, hd => by
    have hn : n < l.length := by omega
    obtain ⟨r, hr, hi⟩ := RaspPlayed.where_l0 l v hl d (n + 1) (by omega)
    rw [List.drop_eq_getElem_cons hn]
    by_cases c : l[n] = v
    · refine ⟨n, ?_, ?_⟩
      · refine Ev.step (fun k => by rw [saronref00_Where.l0, if_pos (by omega), if_pos (by omega), rd_nat, show l.getD n 0 = l[n] by simp [hn], if_pos c]) ?_
        exact Ev.now _
      · simp [c]
    · refine ⟨r, ?_, ?_⟩
      · refine Ev.step (fun k => by rw [saronref00_Where.l0, if_pos (by omega), if_pos (by omega), rd_nat, show l.getD n 0 = l[n] by simp [hn], if_neg c, w64 (by omega) (by omega), show ((n : Int) + 1) = ((n + 1 : Nat) : Int) by omega]) ?_
        exact hr
      · rw [hi, List.mem_cons]
        exact ⟨.inr, fun h => h.resolve_left (fun e => c e.symm)⟩
theorem RaspPlayed.tl_mem (tools : List S57) (d : Int) : ∀ (n : Nat) (v : Int), v ∈ tlF tools d n ↔ ∃ i : Nat, i < n ∧ v = i ∧ isIn d (tools.getD i z57).f0.f0 (tools.getD i z57).f0.f1 = true
  | 0, v => by simp [tlF]
  | n + 1, v => by
    unfold tlF
    have ih := RaspPlayed.tl_mem tools d n v
    by_cases c : isIn d (tools.getD n z57).f0.f0 (tools.getD n z57).f0.f1 = true
    · rw [if_pos c, List.mem_append, List.mem_singleton, ih]
      constructor
      · rintro (⟨i, h1, h2, h3⟩ | h)
        · exact ⟨i, by omega, h2, h3⟩
        · exact ⟨n, by omega, h, c⟩
      · rintro ⟨i, h1, h2, h3⟩
        by_cases e : i = n
        · subst e; exact .inr h2
        · exact .inl ⟨i, by omega, h2, h3⟩
    · rw [if_neg c, ih]
      constructor
      · rintro ⟨i, h1, h2, h3⟩
        exact ⟨i, by omega, h2, h3⟩
      · rintro ⟨i, h1, h2, h3⟩
        by_cases e : i = n
        · subst e; exact absurd h3 c
        · exact ⟨i, by omega, h2, h3⟩
theorem RaspPlayed.tl_grows (tools : List S57) (d : Int) : ∀ (n : Nat), (tlF tools d n).Pairwise (· < ·)
  | 0 => by simp [tlF]
  | n + 1 => by
    unfold tlF
    split
    · rw [List.pairwise_append]
      refine ⟨RaspPlayed.tl_grows tools d n, by simp, fun x hx y hy => ?_⟩
      obtain ⟨i, h1, h2, _⟩ := (RaspPlayed.tl_mem tools d n x).1 hx
      rw [List.mem_singleton.1 hy, h2]
      omega
    · exact RaspPlayed.tl_grows tools d n
/-- A plan that is followed: after each stroke the key is off by H, with the metal M. -/
structure RaspPlayed.Run (l0 : List S57) (lo hi o0 m0 : Int) (T V H : List Int) (M : Nat → Int) : Prop where
  lenV : V.length = T.length
  lenH : H.length = T.length + 1
  off0 : H.getD 0 0 = o0
  met0 : M 0 = m0
  at_ : ∀ i, i ≤ T.length → -60 ≤ H.getD i 0 ∧ H.getD i 0 ≤ 60 ∧ 0 ≤ M i ∧ M i + i ≤ 30 ∧ (strk l0 lo hi 0 (H.getD i 0) (M i)).2 ≠ 1000 ∧ (strk l0 lo hi 0 (H.getD i 0) (M i)).2 + i ≤ (strk l0 lo hi 0 o0 m0).2
  step : ∀ i, i < T.length → ¬ (lo ≤ H.getD i 0 ∧ H.getD i 0 ≤ hi) ∧ (strk l0 lo hi 0 (H.getD i 0) (M i)).1 = T.getD i 0 ∧ 0 ≤ T.getD i 0 ∧ (T.getD i 0).toNat < l0.length ∧ (l0.getD (T.getD i 0).toNat z57).f0.f0 ≤ V.getD i 0 ∧ V.getD i 0 ≤ (l0.getD (T.getD i 0).toNat z57).f0.f1 ∧ H.getD (i + 1) 0 = H.getD i 0 + V.getD i 0 ∧ M (i + 1) = M i - (l0.getD (T.getD i 0).toNat z57).f1
theorem RaspPlayed.getD_append (l : List Int) (v : Int) (i : Nat) (h : i < l.length) : (l ++ [v]).getD i 0 = l.getD i 0 := by
  simp only [List.getD]; rw [List.getElem?_append_left h]
theorem RaspPlayed.getD_last (l : List Int) (v : Int) (i : Nat) (h : i = l.length) : (l ++ [v]).getD i 0 = v := by
  subst h; simp [List.getD]
/-- The plan, followed with moves that begin as V does. -/
theorem RaspPlayed.play {l0 : List S57} {lo hi o0 m0 : Int} {T V H : List Int} {M : Nat → Int} (h : RaspPlayed.Run l0 lo hi o0 m0 T V H M) (hfin : lo ≤ H.getD T.length 0 ∧ H.getD T.length 0 ≤ hi) (mv : List Int) (hag : ∀ i, i < T.length → i < mv.length → mv.getD i 0 = V.getD i 0) : ∀ (d i : Nat) (told : List Int), told.length = i → i + d = mv.length → i ≤ T.length →
    playTo l0 lo hi mv d told (H.getD i 0) (M i) = if mv.length = T.length then (told ++ T.drop i, H.getD T.length 0, 0) else ([], 0, 32)
  | 0, i, told, ht, hd, hi' => by
    unfold playTo
    by_cases e : mv.length = T.length
    · have : i = T.length := by omega
      subst this
      rw [if_pos hfin, if_pos e, List.drop_of_length_le (Nat.le_refl _), List.append_nil]
    · rw [if_neg e, if_neg (h.step i (by omega)).1]
  | d + 1, i, told, ht, hd, hi' => by
    unfold playTo
    by_cases e : i = T.length
    · subst e
      rw [if_pos hfin, if_neg (by omega)]
    · obtain ⟨s1, s2, s3, s4, s5, s6, s7, s8⟩ := h.step i (by omega)
      rw [if_neg s1, s2, if_neg (by omega), ht, hag i (by omega) (by omega), if_pos (isIn_iff.2 ⟨s5, s6⟩), ← s7, ← s8]
      rw [RaspPlayed.play h hfin mv hag d (i + 1) (told ++ [T.getD i 0]) (by simp [ht]) (by omega) (by omega)]
      have hlt : i < T.length := by omega
      rw [List.append_assoc, List.singleton_append, List.drop_eq_getElem_cons hlt, show T.getD i 0 = T[i] by simp [hlt]]
section
variable {l0 : List S57} {lo hi : Int} {l3 : List S69}
theorem RaspPlayed.playF_ok (hb : bookOk l0 lo hi l3 = true) (ki : Nat) (hk : ki < l3.length) (o0 : Int) (ho : (l3.getD ki z69).f0.f0 ≤ o0 ∧ o0 ≤ (l3.getD ki z69).f0.f1) (mv : List Int) : playF l0 lo hi l3 (ki : Int) o0 mv = if (strk l0 lo hi 0 o0 (l3.getD ki z69).f1).2 = 1000 then ([], 0, 4) else playTo l0 lo hi mv mv.length [] o0 (l3.getD ki z69).f1 := by
  have e : playOk l3 (ki : Int) o0 = true := by
    unfold playOk
    rw [Bool.and_eq_true, isIn_iff, isIn_iff, Int.toNat_natCast]
    exact ⟨by omega, ho⟩
  unfold playF
  rw [e, openV_ok hb, if_neg (by simp), Int.toNat_natCast]
theorem RaspPlayed.rows_f {o0 m0 : Int} {T V H : List Int} {M : Nat → Int} (h : RaspPlayed.Run l0 lo hi o0 m0 T V H M) (h4 : l0.length ≤ 4) (hT : T.length ≤ 30) : ∀ (d n : Nat), n + d = T.length →
    Ev (fun k => saronlaw03_RaspPlayed.l1 k T ((List.range T.length).map fun i => tlF l0 (H.getD (i + 1) 0 - H.getD i 0) l0.length) (n : Int) l0 lo hi l3) true
  | 0, n, hd => by
    refine Ev.step (fun k => by rw [saronlaw03_RaspPlayed.l1, if_neg (by simp; omega)]) ?_
    exact Ev.now true
  | d + 1, n, hd => by
    have hn : n < T.length := by omega
    obtain ⟨s1, s2, s3, s4, s5, s6, s7, s8⟩ := h.step n hn
    have hrow : rd_L4 ((List.range T.length).map fun i => tlF l0 (H.getD (i + 1) 0 - H.getD i 0) l0.length) (n : Int) = tlF l0 (H.getD (n + 1) 0 - H.getD n 0) l0.length := by
      simp [rd_L4, hn]
    have hlen := tlF_len l0 (H.getD (n + 1) 0 - H.getD n 0) l0.length
    refine Ev.step (fun k => by rw [saronlaw03_RaspPlayed.l1, if_pos (by simp; omega), if_pos (by omega), if_pos (by omega), hrow, rd_nat]) ?_
    obtain ⟨r, hr, hri⟩ := RaspPlayed.where_l0 (tlF l0 (H.getD (n + 1) 0 - H.getD n 0) l0.length) (T.getD n 0) (by omega) (tlF l0 (H.getD (n + 1) 0 - H.getD n 0) l0.length).length 0 (by omega)
    have hr0 : 0 ≤ r := by
      rw [hri, List.drop_zero, RaspPlayed.tl_mem]
      exact ⟨(T.getD n 0).toNat, s4, by omega, isIn_iff.2 (by omega)⟩
    refine ebind (show Ev (fun k => saronref00_Where.f k (tlF l0 (H.getD (n + 1) 0 - H.getD n 0) l0.length) (T.getD n 0)) r from hr) ?_
    refine evc (fun k => by rw [if_neg (by omega)]) ?_
    have hgr : Ev (fun k => saronref00_Grows.f k (tlF l0 (H.getD (n + 1) 0 - H.getD n 0) l0.length) (l0.length : Int)) true := by
      refine RaspPlayed.grows_l0 _ _ (by omega) (tlF l0 (H.getD (n + 1) 0 - H.getD n 0) l0.length).length 0 (-1) (by omega) ?_ ?_
      · rw [List.drop_zero]; exact RaspPlayed.tl_grows l0 _ _
      · rw [List.drop_zero]
        intro x hx
        obtain ⟨i, h1, h2, _⟩ := (RaspPlayed.tl_mem l0 _ _ x).1 hx
        omega
    refine ebind hgr ?_
    refine evc (fun k => by rw [if_pos rfl, w64 (by omega) (by omega), show ((n : Int) + 1) = ((n + 1 : Nat) : Int) by omega]) ?_
    exact RaspPlayed.rows_f h h4 hT d (n + 1) (by omega)
theorem RaspPlayed.rowT_run {o0 m0 : Int} {T V H : List Int} {M : Nat → Int} (h : RaspPlayed.Run l0 lo hi o0 m0 T V H M) : ∀ (d i : Nat), i + d = T.length →
    rowT l0 H d i ((List.range i).map fun i => tlF l0 (H.getD (i + 1) 0 - H.getD i 0) l0.length) = ((List.range T.length).map fun i => tlF l0 (H.getD (i + 1) 0 - H.getD i 0) l0.length, 0)
  | 0, i, hd => by
    obtain rfl : i = T.length := by omega
    rfl
  | d + 1, i, hd => by
    obtain ⟨s1, s2, s3, s4, s5, s6, s7, s8⟩ := h.step i (by omega)
    unfold rowT
    have hmem : T.getD i 0 ∈ tlF l0 (H.getD (i + 1) 0 - H.getD i 0) l0.length := (RaspPlayed.tl_mem l0 _ _ _).2 ⟨(T.getD i 0).toNat, s4, by omega, isIn_iff.2 (by omega)⟩
    rw [if_neg (by have := List.length_pos_of_mem hmem; omega)]
    have := RaspPlayed.rowT_run h d (i + 1) (by omega)
    rw [List.range_succ, List.map_append] at this
    exact this
theorem RaspPlayed.end_f (hb : bookOk l0 lo hi l3 = true) (ki : Nat) (hk : ki < l3.length) (o0 : Int) (ho : (l3.getD ki z69).f0.f0 ≤ o0 ∧ o0 ≤ (l3.getD ki z69).f0.f1) {T V H : List Int} {M : Nat → Int} (h : RaspPlayed.Run l0 lo hi o0 (l3.getD ki z69).f1 T V H M) (hT : T.length ≤ 30) (hfin : lo ≤ H.getD T.length 0 ∧ H.getD T.length 0 ≤ hi) :
    Ev (fun k => saronlaw03_RaspPlayed.j2 k (ki : Int) (H.getD T.length 0) o0 T V H l0 lo hi l3) true := by
  have hlen := len_ok hb
  have hkk := key_ok_h hb ki hk
  have h0 := h.at_ 0 (Nat.zero_le _)
  rw [h.off0, h.met0] at h0
  have hne : (strk l0 lo hi 0 o0 (l3.getD ki z69).f1).2 ≠ 1000 := h0.2.2.2.2.1
  have hplay : ∀ mv : List Int, (∀ i, i < T.length → i < mv.length → mv.getD i 0 = V.getD i 0) → playF l0 lo hi l3 (ki : Int) o0 mv = if mv.length = T.length then (T, H.getD T.length 0, 0) else ([], 0, 32) := by
    intro mv hag
    rw [RaspPlayed.playF_ok hb ki hk o0 ho mv, if_neg hne]
    have := RaspPlayed.play h hfin mv hag mv.length 0 [] rfl (by omega) (Nat.zero_le _)
    rw [h.off0, h.met0] at this
    rw [this]
    rfl
  have hst : strokesF l0 lo hi l3 (ki : Int) = if keyF l0 lo hi (l3.getD ki z69) = 1000 then (0, 4) else (keyF l0 lo hi (l3.getD ki z69), 0) := by
    unfold strokesF
    rw [show isIn (ki : Int) 0 ((l3.length : Int) - 1) = true from isIn_iff.2 (by omega), openV_ok hb, if_neg (by simp), Int.toNat_natCast]
  have hle : (T.length : Int) ≤ keyF l0 lo hi (l3.getD ki z69) := by
    have h1 := (h.at_ T.length (Nat.le_refl _)).2.2.2.2.2
    have h2 := strk_bnd l0 lo hi 0 (H.getD T.length 0) (M T.length)
    have h3 := (keyTo_sp l0 lo hi (l3.getD ki z69).f0.f0 (l3.getD ki z69).f1 ((l3.getD ki z69).f0.f1 - (l3.getD ki z69).f0.f0 + 1).toNat).1 (o0 - (l3.getD ki z69).f0.f0).toNat (by omega)
    rw [show (l3.getD ki z69).f0.f0 + (((o0 - (l3.getD ki z69).f0.f0).toNat : Nat) : Int) = o0 by omega] at h3
    unfold keyF
    omega
  refine Ev.step (fun k => by rw [saronlaw03_RaspPlayed.j2, rasp_Play.f, Option.bind_some, hplay V (fun _ _ _ => rfl), if_pos h.lenV, rasp_Strokes.f, Option.bind_some, hst, if_pos rfl]) ?_
  refine ebind (equal_self T (by omega)) ?_
  have hj3 : Ev (fun k => saronlaw03_RaspPlayed.j3 k (ki : Int) o0 T V H false l0 lo hi l3) true := by
    have hmore : saronref00_More.f V 0 = some (V ++ [0]) := by
      have := h.lenV
      unfold saronref00_More.f
      simp only [Option.bind_some, List.length_nil, List.nil_append]
      rw [if_pos (by omega), if_pos (by omega)]
    have hp1 : playF l0 lo hi l3 (ki : Int) o0 (V ++ [0]) = ([], 0, 32) := by
      rw [hplay (V ++ [0]) (fun i hi' _ => RaspPlayed.getD_append V 0 i (by have := h.lenV; omega)), if_neg (by have := h.lenV; simp; omega)]
    have hj4 : Ev (fun k => saronlaw03_RaspPlayed.j4 k T H l0 lo hi l3) true := by
      have hall : H.all (fun x => isIn x (-60) 60) = true := by
        rw [List.all_eq_true]
        intro x hx
        obtain ⟨i, hi', rfl⟩ := List.getElem_of_mem hx
        have := h.at_ i (by have := h.lenH; omega)
        rw [show H.getD i 0 = H[i] by simp [hi']] at this
        exact isIn_iff.2 ⟨this.1, this.2.1⟩
      have htold : toldG l0 lo hi l3 H = ((List.range T.length).map fun i => tlF l0 (H.getD (i + 1) 0 - H.getD i 0) l0.length, 0) := by
        unfold toldG toldOk
        have hlH := h.lenH
        rw [hall, show isIn (H.length : Int) 1 31 = true from isIn_iff.2 (by omega), show (true && true) = true from rfl, openV_ok hb, if_neg (by simp), hlH]
        have := RaspPlayed.rowT_run h T.length 0 (by omega)
        exact this
      refine Ev.step (fun k => by rw [saronlaw03_RaspPlayed.j4]) ?_
      refine ebind (Told_f l0 lo hi l3 H (by omega) (by omega) (by have := h.lenH; omega)) ?_
      rw [htold]
      refine evc (fun k => by rw [if_pos rfl]) ?_
      refine Ev.step (fun k => by rw [saronlaw03_RaspPlayed.j5, if_neg (by simp)]) ?_
      exact RaspPlayed.rows_f h (by omega) hT T.length 0 (by omega)
    refine Ev.step (fun k => by rw [saronlaw03_RaspPlayed.j3, if_neg (by simp), hmore, Option.bind_some, rasp_Play.f, Option.bind_some, hp1, if_pos rfl]) ?_
    have hlV := h.lenV
    by_cases hz : (V.length : Int) > 0
    · have hp2 : playF l0 lo hi l3 (ki : Int) o0 (V.take (V.length - 1)) = ([], 0, 32) := by
        rw [hplay _ (fun i hi' hi2 => by simp only [List.length_take] at hi2; simp only [List.getD]; rw [List.getElem?_take_of_lt (by omega)]), if_neg (by simp only [List.length_take]; omega)]
      refine evc (fun k => by rw [if_pos hz, w64 (by omega) (by omega), if_pos (by omega), if_pos (by omega), show ((V.length : Int) - 1).toNat = V.length - 1 by omega, rasp_Play.f, Option.bind_some, hp2, if_pos rfl]) ?_
      exact hj4
    · refine evc (fun k => by rw [if_neg hz]) ?_
      exact hj4
  refine evc (fun k => by rw [if_pos rfl, if_pos rfl, bears_f, Option.bind_some, if_pos (isIn_iff.2 hfin)]) ?_
  by_cases c : keyF l0 lo hi (l3.getD ki z69) = 1000
  · refine evc (fun k => by rw [if_pos c, if_neg (by simp)]) ?_
    exact hj3
  · refine evc (fun k => by rw [if_neg c, if_pos rfl, show decide ((T.length : Int) > keyF l0 lo hi (l3.getD ki z69)) = false from decide_eq_false (by omega)]) ?_
    exact hj3
theorem RaspPlayed.l0_f (hb : bookOk l0 lo hi l3 = true) (bits : List Int) (hm : bits.length ≤ 9223372036854775807) (ki : Nat) (hk : ki < l3.length) (o0 : Int) (ho : (l3.getD ki z69).f0.f0 ≤ o0 ∧ o0 ≤ (l3.getD ki z69).f0.f1) : ∀ (d : Nat) (T V H : List Int) (M : Nat → Int), M T.length < d → RaspPlayed.Run l0 lo hi o0 (l3.getD ki z69).f1 T V H M →
    Ev (fun k => saronlaw03_RaspPlayed.l0 k bits (ki : Int) (H.getD T.length 0) (M T.length) o0 T V H l0 lo hi l3) true
  | 0, T, V, H, M, hd, h => by have := (h.at_ T.length (Nat.le_refl _)).2.2.1; omega
  | d + 1, T, V, H, M, hd, h => by
    have hlen := len_ok hb
    have hs := sound_of hb
    obtain ⟨a1, a2, a3, a4, a5, a6⟩ := h.at_ T.length (Nat.le_refl _)
    have hnx := next_ok hb (o := H.getD T.length 0) (m := M T.length) ⟨a1, a2⟩ a3 (by omega)
    rw [if_neg a5] at hnx
    refine Ev.step (fun k => by rw [saronlaw03_RaspPlayed.l0, if_pos (by omega), rasp_Next.f, Option.bind_some, hnx, if_pos rfl]) ?_
    by_cases hf : lo ≤ H.getD T.length 0 ∧ H.getD T.length 0 ≤ hi
    · refine evc (fun k => by rw [strk_fine hs a3 ⟨a1, a2⟩ hf, if_pos rfl]) ?_
      exact RaspPlayed.end_f hb ki hk o0 ho h (by omega) hf
    · obtain ⟨j, hj, e1, hc, hc1, hs1, hst⟩ := step_ok hs (H.getD T.length 0) (M T.length) a3 (by omega) ⟨a1, a2⟩ hf a5
      have hmv := hs.move j hj
      obtain ⟨v, hv⟩ := nth_f bits (T.length : Int) hm
      obtain ⟨x, hx, hx1, hx2⟩ := draw_f (l0.getD j z57).f0.f0 (l0.getD j z57).f0.f1 v (by omega) (by omega) (by omega)
      obtain ⟨g1, g2, g3, g4⟩ := hst x hx1 hx2
      have hlV := h.lenV
      have hlH := h.lenH
      rw [e1]
      refine evc (fun k => by rw [if_neg (by omega), sits_f, Option.bind_some, w64 (x := (l0.length : Int) - 1) (by omega) (by omega), if_pos (isIn_iff.2 (by omega)), if_pos (by omega), if_pos (by omega), hv, Option.bind_some, show rd_T57 l0 (j : Int) = l0.getD j z57 by simp [rd_T57], hx, Option.bind_some, if_pos (by omega), if_pos (by omega), if_pos (by omega), w64 (x := H.getD T.length 0 + x) (by omega) (by omega), w64 (x := M T.length - (l0.getD j z57).f1) (by omega) (by omega)]) ?_
      have hrun : RaspPlayed.Run l0 lo hi o0 (l3.getD ki z69).f1 (T ++ [(j : Int)]) (V ++ [x]) (H ++ [H.getD T.length 0 + x]) (fun i => if i = T.length + 1 then M T.length - (l0.getD j z57).f1 else M i) := by
        refine ⟨by simp [hlV], by simp [hlH], ?_, ?_, fun i hi' => ?_, fun i hi' => ?_⟩
        · rw [RaspPlayed.getD_append _ _ _ (by omega)]; exact h.off0
        · rw [if_neg (by omega)]; exact h.met0
        · rw [List.length_append, List.length_singleton] at hi'
          by_cases e : i = T.length + 1
          · subst e
            rw [RaspPlayed.getD_last _ _ _ (by omega)]
            rw [if_pos rfl]
            refine ⟨g3, g4, by omega, by omega, g1, by omega⟩
          · rw [RaspPlayed.getD_append _ _ _ (by omega)]
            rw [if_neg e]
            exact h.at_ i (by omega)
        · rw [List.length_append, List.length_singleton] at hi'
          by_cases e : i = T.length
          · subst e
            rw [RaspPlayed.getD_append H _ _ (by omega), RaspPlayed.getD_last H _ _ (by omega), RaspPlayed.getD_last T _ _ rfl, RaspPlayed.getD_last V _ _ (by omega), if_neg (by omega), if_pos rfl, Int.toNat_natCast]
            exact ⟨hf, e1, by omega, hj, hx1, hx2, rfl, rfl⟩
          · rw [RaspPlayed.getD_append H _ _ (by omega), RaspPlayed.getD_append H _ _ (by omega), RaspPlayed.getD_append T _ _ (by omega), RaspPlayed.getD_append V _ _ (by omega), if_neg (by omega), if_neg (by omega)]
            exact h.step i (by omega)
      have ih := RaspPlayed.l0_f hb bits hm ki hk o0 ho d _ _ _ _ (by simp only [List.length_append, List.length_singleton, if_true]; omega) hrun
      rw [List.length_append, List.length_singleton, RaspPlayed.getD_last _ _ _ (by omega)] at ih
      simp only [if_true] at ih
      exact ih
end
theorem RaspPlayed.pure (l0 : List S57) (lo hi : Int) (l3 : List S69) (h0 : l0.length ≤ 9223372036854775807) (h3 : l3.length ≤ 9223372036854775807) (a b : Int) (wa : (Lit.int .i64 a).wf = true) (wb : (Lit.int .i64 b).wf = true) (bits : List Int) (hm : bits.length ≤ 9223372036854775807) :
    ∃ k, saronlaw03_RaspPlayed.f k l0 lo hi l3 a b bits = some true := by
  refine Ev.rounds (g := fun k => saronlaw03_RaspPlayed.f k l0 lo hi l3 a b bits) ?_
  refine ebind (sound_f l0 lo hi l3 h0 h3) ?_
  by_cases hb : bookOk l0 lo hi l3 = true
  · have hlen := len_ok hb
    refine evc (fun k => by rw [if_pos hb]) ?_
    by_cases hz : l3.length = 0
    · rw [hz]
      refine Ev.step (fun k => by rw [saronlaw03_RaspPlayed.j0, if_pos (by rfl)]) ?_
      exact Ev.now true
    · have hp := Int.emod_nonneg a (show (l3.length : Int) ≠ 0 by omega)
      have hlt := Int.emod_lt_of_pos a (show (0 : Int) < l3.length by omega)
      obtain ⟨ki, hki⟩ : ∃ ki : Nat, a % (l3.length : Int) = ki := ⟨(a % (l3.length : Int)).toNat, by omega⟩
      have hkk := key_ok_h hb ki (by omega)
      obtain ⟨x, hx, hx1, hx2⟩ := draw_f (l3.getD ki z69).f0.f0 (l3.getD ki z69).f0.f1 b (by omega) (by omega) (by omega)
      refine Ev.step (fun k => by rw [saronlaw03_RaspPlayed.j0, if_neg (by rw [beq_iff_eq]; omega), turn_f _ _ (by omega) (by omega), Option.bind_some, hki, if_pos (by omega), if_pos (by omega), show rd_T69 l3 (ki : Int) = l3.getD ki z69 by simp [rd_T69], hx, Option.bind_some]) ?_
      by_cases hn : (strk l0 lo hi 0 x (l3.getD ki z69).f1).2 = 1000
      · have hnx := next_ok hb (o := x) (m := (l3.getD ki z69).f1) (by omega) (by omega) (by omega)
        rw [if_pos hn] at hnx
        refine Ev.step (fun k => by rw [saronlaw03_RaspPlayed.l0, if_pos (by simp), rasp_Next.f, Option.bind_some, hnx, if_neg (by simp), rasp_Play.f, Option.bind_some, RaspPlayed.playF_ok hb ki (by omega) x ⟨hx1, hx2⟩, if_pos hn]) ?_
        exact Ev.now true
      · have := RaspPlayed.l0_f hb bits hm ki (by omega) x ⟨hx1, hx2⟩ 31 [] [] [x] (fun _ => (l3.getD ki z69).f1) (by omega) ⟨rfl, rfl, rfl, rfl, fun i hi' => by
          obtain rfl : i = 0 := by simpa using hi'
          refine ⟨by show -60 ≤ x; omega, by show x ≤ 60; omega, by omega, by omega, hn, ?_⟩
          show (strk l0 lo hi 0 x (l3.getD ki z69).f1).2 + ((0 : Nat) : Int) ≤ _
          omega, fun i hi' => by simp at hi'⟩
        exact this
  · refine evc (fun k => by rw [if_neg hb]) ?_
    refine Ev.step (fun k => by rw [saronlaw03_RaspPlayed.j0, if_pos rfl]) ?_
    exact Ev.now true
end Go.Proofs.YtfmpbkolpjlfbaaDoor
