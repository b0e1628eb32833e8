import Derived.Test.YtephecfapclgfaaDoorG2
set_option linter.unusedVariables false
set_option linter.unusedSimpArgs false
namespace Go.Proofs.YtephecfapclgfaaDoor.R
open Go.RowKit Go.Shelf Go.Proofs.YtephecfapclgfaaDoorW.PrintWords Go.Proofs.YtephecfapclgfaaDoorW.PrintLast Go.Proofs.YtephecfapclgfaaDoor.PRaspKeys Go.Proofs.YtephecfapclgfaaDoor.X
attribute [local go_sem] Oper.semAt_some

structure Hop (p : Prop) : Prop where
  out : p
theorem grows_any (b : Int) (hb : -1000000 ≤ b ∧ b ≤ 1000000) (A : Option Addr) (c : Nat) (l : List Int) (w : World) (hr : Kd.C (Kd.int .i64) w A l.length l) (hc : l.length ≤ c) :
    Calls Tryd.prog 62 #[.slice A l.length c, .int .i64 b] w fun e w' => e = .returned (.bool (gr b (-1) l)) ∧ Fr0 w w' := by
  obtain ⟨K, hK⟩ := grows_f b hb l (C_len hr)
  refine (cycle_grows.calls K A c l b (gr b (-1) l) w hr hc (hK K (Nat.le_refl _))).mono fun e w' h => ⟨h.1, ?_⟩
  obtain ⟨nd, rfl⟩ := h.2
  exact (Fr.refl _ _).drewN _
set_option maxHeartbeats 1000000 in
theorem bad_any (g : Int) (hg : 1 ≤ g ∧ g ≤ 5) (b0 : Nat) (A : Option Addr) (c : Nat) (l : List Int) (w : World) (hr : Kd.C (Kd.int .i64) w A l.length l) (hc : l.length ≤ c) (hb0 : w.cell? ⟨b0, 0, none⟩ = some (.int .i64 g)) :
    Calls Tryd.prog 94 #[.slice A l.length c, .pointer (some ⟨b0, 0, none⟩)] w fun e w' => e = .returned (.bool (!gr g (-1) l)) ∧ Fr0 w w' := by
  have HC := Lib.hid (fun W (hW : Fr0 w W) => grows_any g (by omega) A c l W (C_fr hr hW) hc)
  clear hr hc
  go_enter Tryd.func94, Tryd.ntmps94
  go_wp2_with (go_at_call 62; (with_reducible refine (HC.out _ ?hw).mono ?_); (case hw => exact Fr.refl _ _); rintro e W1 ⟨rfl, hf⟩)
  go_ret
  exact ⟨rfl, hf⟩
/-- The first row that doesn't grow, from place n on; -1: none. -/
def badFrom (g : Int) (l : List (List Int)) : Nat → Nat → Int
  | 0, _ => -1
  | d + 1, n => if gr g (-1) (l.getD n []) = true then badFrom g l d (n + 1) else n
theorem badFrom_any (g : Int) (l : List (List Int)) : ∀ (d n : Nat), n + d = l.length → (0 ≤ badFrom g l d n ↔ (l.drop n).all (fun r => gr g (-1) r) = false)
  | 0, n, h => by
    rw [List.drop_of_length_le (by omega)]
    simp [badFrom]
  | d + 1, n, h => by
    have hn : n < l.length := by omega
    rw [List.drop_eq_getElem_cons hn, List.all_cons]
    unfold badFrom
    rw [show l.getD n [] = l[n] by simp [hn]]
    have ih := badFrom_any g l d (n + 1) (by omega)
    cases gr g (-1) l[n]
    · simp
    · simpa using ih
set_option maxHeartbeats 2000000 in
set_option maxRecDepth 100000 in
theorem index_any (g : Int) (hg : 1 ≤ g ∧ g ≤ 5) (b0 : Nat) (A : Option Addr) (c : Nat) (l : List (List Int)) (w : World) (hr : Kd.C (Kd.slice 3 (Kd.int .i64)) w A l.length l) (hc : l.length ≤ c) (hb0 : w.cell? ⟨b0, 0, none⟩ = some (.int .i64 g)) :
    Calls Tryd.prog 98 #[.slice A l.length c, .func (.func 94) #[] #[.pointer (some ⟨b0, 0, none⟩)]] w fun e w' => e = .returned (.int .i64 (badFrom g l l.length 0)) ∧ Fr0 w w' := by
  have HR := Lib.hid hr
  have hlen : (l.length : Int) ≤ 9223372036854775807 := by have := hr.2.1; omega
  have HB0 := Lib.hid hb0
  clear hr hb0
  go_enter Tryd.func98, Tryd.ntmps98
  go_wp2
  go_loopw [8] (fun v8 wr => ∃ n : Nat, n ≤ l.length ∧ v8 = .int .i64 n ∧ Hop (badFrom g l l.length 0 = badFrom g l (l.length - n) n) ∧ Fr0 w wr) (fun v8 _ => (l.length - intOf v8).toNat)
  case atStart => exact ⟨0, by omega, by rfl, ⟨rfl⟩, Fr.refl _ _⟩
  case round =>
    obtain ⟨n, hn, rfl, HBF, hf⟩ := hrel
    have HF := Lib.hid hf
    by_cases hlt : n < l.length
    · have hle : (n : Int) < l.length := by omega
      obtain ⟨ad, A1, c1, ead, hx, hc1, hC1⟩ := at_L1 (C_fr HR.out hf) (n : Int) (by omega) hle
      cases ead
      obtain ⟨d, hd⟩ : ∃ d, l.length - n = d + 1 := ⟨l.length - n - 1, by omega⟩
      have hrd : rd_L1 l (n : Int) = l.getD n [] := rfl
      rw [hrd] at hx hc1 hC1
      have hx' : wr.cell? (ad.add n) = some (.slice A1 (l.getD n []).length c1) := hx
      have HST := Lib.hid (show badFrom g l (l.length - n) n = if gr g (-1) (l.getD n []) = true then badFrom g l d (n + 1) else n from by rw [hd]; rfl)
      have HD := Lib.hid hd
      have HC := Lib.hid (bad_any g hg b0 A1 c1 (l.getD n []) wr hC1 hc1 (hf.cell0 HB0.out))
      clear hx hf hd hrd hC1 hc1
      generalize l.getD n [] = x at *
      by_cases hask : gr g (-1) x = true
      · go_wp2_with (go_at_call 94; refine HC.out.mono ?_; rintro e W1 ⟨rfl, hf1⟩)
        refine ⟨⟨n + 1, by omega, by go_num, ⟨?_⟩, HF.out.trans hf1⟩, by simp [intOf]; omega⟩
        rw [HBF.out, HST.out, if_pos hask]
        congr 1
        have := HD.out
        omega
      · rw [Bool.not_eq_true] at hask
        go_wp2_with (go_at_call 94; refine HC.out.mono ?_; rintro e W1 ⟨rfl, hf1⟩)
        refine bodyPost_ret (v := .int .i64 n) (by simp [results, Tryd.results98, go_sem]) rfl ⟨by rw [HBF.out, HST.out, if_neg (by simp [hask])], HF.out.trans hf1⟩
    · obtain rfl : n = l.length := by omega
      have hle : ¬ ((l.length : Int) < l.length) := by omega
      clear hf
      go_wp2
      refine bodyPost_ret (v := .int .i64 (-1)) (by simp [results, Tryd.results98, go_sem]) rfl ⟨by rw [HBF.out, Nat.sub_self]; rfl, HF.out⟩
set_option maxHeartbeats 1000000 in
theorem contains_any (g : Int) (hg : 1 ≤ g ∧ g ≤ 5) (b0 : Nat) (A : Option Addr) (c : Nat) (l : List (List Int)) (w : World) (hr : Kd.C (Kd.slice 3 (Kd.int .i64)) w A l.length l) (hc : l.length ≤ c) (hb0 : w.cell? ⟨b0, 0, none⟩ = some (.int .i64 g)) :
    Calls Tryd.prog 93 #[.slice A l.length c, .func (.func 94) #[] #[.pointer (some ⟨b0, 0, none⟩)]] w fun e w' => e = .returned (.bool (!l.all (fun r => gr g (-1) r))) ∧ Fr0 w w' := by
  have hb := badFrom_any g l l.length 0 (by omega)
  rw [List.drop_zero] at hb
  have HC := Lib.hid (index_any g hg b0 A c l w hr hc hb0)
  have HB := Lib.hid hb
  clear hb hr hb0
  generalize badFrom g l l.length 0 = B at *
  go_enter Tryd.func93, Tryd.ntmps93
  go_wp2_with (go_at_call 98; refine HC.out.mono ?_; rintro e W1 ⟨rfl, hf⟩)
  refine bodyPost_ret (v := .bool (decide (0 ≤ B))) (by simp [results, Tryd.results93, go_sem]) rfl ⟨?_, hf⟩
  congr 2
  have h := HB.out
  cases hq : l.all (fun r => gr g (-1) r)
  · rw [hq] at h; simpa using h
  · rw [hq] at h; simpa using h
/-- What can be what was heard. -/
def heardB (g : Int) (l : List (List Int)) : Bool := isIn l.length 1 64 && l.all (fun r => gr g (-1) r)
set_option maxHeartbeats 1000000 in
theorem isHeard_any (g : Int) (hg : 1 ≤ g ∧ g ≤ 5) (A : Option Addr) (n c : Nat) (m : Option Nat) (Ah : Option Addr) (ch : Nat) (hd : List (List Int)) (w : World) (hr : Kd.C (Kd.slice 3 (Kd.int .i64)) w Ah hd.length hd) (hc : hd.length ≤ ch) :
    Calls Tryd.prog 75 #[bookV g A n c m, .slice Ah hd.length ch] w fun e w' => e = .returned (.bool (heardB g hd)) ∧ Fr0 w w' := by
  have HC := Lib.hid (fun (b0 : Nat) W (hW : Fr0 w W) (hb : W.cell? ⟨b0, 0, none⟩ = some (.int .i64 g)) => contains_any g hg b0 Ah ch hd W (C_fr hr hW) hc hb)
  have HL := Lib.hid (fun W => lies_any (hd.length : Int) 1 64 W)
  clear hr
  unfold heardB
  by_cases c0 : isIn (hd.length : Int) 1 64 = true
  · rw [c0] at HL ⊢
    go_enter Tryd.func75, Tryd.ntmps75
    go_wp2_with (first | (go_at_call 61; refine (HL.out _).mono ?_; rintro e W1 ⟨rfl, hf1⟩; (have hb := Bx.fr0 (Bx.new w 83 (bookC g A n c m)) hf1); (have HB := Lib.hid hb)) | (go_at_call 93; (with_reducible refine (HC.out _ _ ?hw ?hb).mono ?_); (case hw => exact Fr0.trans ((Fr.refl _ _).alloc _) hf1); (case hb => exact HB.out.at_ 0 rfl); rintro e W2 ⟨rfl, hf2⟩))
    go_ret
    exact ⟨by simp, Fr0.trans (Fr0.trans ((Fr.refl _ _).alloc _) hf1) hf2⟩
  · rw [Bool.not_eq_true] at c0
    rw [c0] at HL ⊢
    go_enter Tryd.func75, Tryd.ntmps75
    go_wp2_with (first | (go_at_call 61; refine (HL.out _).mono ?_; rintro e W1 ⟨rfl, hf1⟩))
    go_ret
    exact ⟨by simp, Fr0.trans ((Fr.refl _ _).alloc _) hf1⟩
end Go.Proofs.YtephecfapclgfaaDoor.R
namespace Go.Proofs.YtephecfapclgfaaDoor.R
open Go.RowKit Go.Shelf Go.Proofs.YtephecfapclgfaaDoorW.PrintWords Go.Proofs.YtephecfapclgfaaDoorW.PrintLast Go.Proofs.YtephecfapclgfaaDoor.PRaspKeys Go.Proofs.YtephecfapclgfaaDoor.X
attribute [local go_sem] Oper.semAt_some

theorem mk81 (W : World) : (Instr.makeMap 81 none).run Tryd.prog W = .ok (.map (some W.heap.size)) (W.alloc (.map #[] 0)) := by
  unfold Instr.makeMap
  simp only [Sem.run_bind, run_underlying Tryd.underlying81, Result.andThen_ok]
  rfl
/-- What the map tells. -/
def Mp (H : Int → Int → Nat → Bool) (mb : Nat) (w : World) : Prop := ∃ f, MapFn w mb f ∧ ∀ a b : Int, (f a b).getD (gv fun _ => false) = gv (H a b)
theorem Mp.fr {H : Int → Int → Nat → Bool} {mb : Nat} {w w' : World} (h : Mp H mb w) (hf : Fr0 w w') : Mp H mb w' := by
  obtain ⟨f, hm, hv⟩ := h
  exact ⟨f, hm.same (hf.block _ hm.lt (fun h => h)), hv⟩
theorem gv_congr {h h' : Nat → Bool} (e : ∀ i, h i = h' i) : gv h = gv h' := by rw [show h = h' from funext e]
/-- What was laid: forms, gongs, strokes. -/
def hT1 (l : List S63) (n : Nat) (a b : Int) (i : Nat) : Bool := decide (0 ≤ a ∧ a < n) && hits l a b i
def hT2 (l : List S63) (n gi : Nat) (a b : Int) (i : Nat) : Bool := hT1 l n a b i || (decide (a = n ∧ i < gi) && hits l n b i)
def hT3 (l : List S63) (n gi k : Nat) (a b : Int) (i : Nat) : Bool := hT2 l n gi a b i || (decide (a = n ∧ i = gi) && ((row l n gi).take k).contains b)
theorem hT2_0 (l : List S63) (n : Nat) : hT2 l n 0 = hT1 l n := by
  funext a b i
  simp [hT2]
theorem hT3_0 (l : List S63) (n gi : Nat) : hT3 l n gi 0 = hT2 l n gi := by
  funext a b i
  simp [hT3]
theorem hT3_all (l : List S63) (n gi : Nat) : hT3 l n gi (row l n gi).length = hT2 l n (gi + 1) := by
  funext a b i
  unfold hT3
  rw [List.take_length]
  unfold hT2
  by_cases ha : a = n
  · by_cases hi : i = gi
    · subst hi ha
      simp [hits]
    · rw [decide_eq_false (show ¬ (a = n ∧ i = gi) by simp [hi]), show decide (a = (n : Int) ∧ i < gi + 1) = decide (a = (n : Int) ∧ i < gi) by congr 1; simp [ha]; omega]
      simp
  · simp [ha]
theorem hT2_all (l : List S63) (n : Nat) : hT2 l n (rd_T63 l n).f1.length = hT1 l (n + 1) := by
  funext a b i
  unfold hT2 hT1
  by_cases ha : a = n
  · subst ha
    rw [decide_eq_false (show ¬ (0 ≤ (n : Int) ∧ (n : Int) < n) by omega), decide_eq_true (show 0 ≤ (n : Int) ∧ (n : Int) < ((n + 1 : Nat) : Int) by omega)]
    by_cases hi : i < (rd_T63 l n).f1.length
    · simp [hi]
    · have : hits l n b i = false := by
        unfold hits row
        rw [List.getD_eq_getElem?_getD, List.getElem?_eq_none (by omega)]
        rfl
      rw [this]; simp
  · rw [decide_eq_false (show ¬ (a = (n : Int) ∧ i < (rd_T63 l n).f1.length) by simp [ha]), show decide (0 ≤ a ∧ a < ((n + 1 : Nat) : Int)) = decide (0 ≤ a ∧ a < (n : Int)) by congr 1; simp; omega]
    simp
theorem hT3_step (l : List S63) (n gi k : Nat) (hk : k < (row l n gi).length) (a b : Int) (i : Nat) :
    hT3 l n gi (k + 1) a b i = if a = n ∧ b = (row l n gi)[k] then (if i = gi then true else hT3 l n gi k n ((row l n gi)[k]) i) else hT3 l n gi k a b i := by
  have hc : ∀ b, ((row l n gi).take (k + 1)).contains b = (((row l n gi).take k).contains b || b == (row l n gi)[k]) := fun b => by
    rw [List.take_succ_eq_append_getElem hk, Bool.eq_iff_iff]
    simp only [List.contains_eq_mem, List.mem_append, List.mem_singleton, Bool.or_eq_true, decide_eq_true_eq, beq_iff_eq]
  unfold hT3
  rw [hc]
  generalize (row l n gi)[k] = x
  generalize (row l n gi).take k = T
  by_cases ha : a = n
  · subst ha
    by_cases hb : b = x
    · rw [if_pos ⟨rfl, hb⟩, hb]
      by_cases hi : i = gi
      · simp [hi]
      · simp [hi]
    · rw [if_neg (by simp [hb]), show (b == x) = false by simpa using hb, Bool.or_false]
  · rw [if_neg (by simp [ha])]
    simp [ha]
/-- What holds while a book is opened. -/
structure Opn (w : World) (g : Int) (A : Option Addr) (n c mb g4 g7 : Nat) (H : Int → Int → Nat → Bool) (W : World) : Prop where
  fr : Fr0 w W
  b7 : Bx W g7 83 (bookC g A n c (some mb))
  b4 : Bx W g4 83 #[.int .i64 0, .slice none 0 0, .map none]
  m : Mp H mb W
  o : w.heap.size ≤ mb
theorem Opn.fr0 {w : World} {g : Int} {A : Option Addr} {n c mb g4 g7 : Nat} {H : Int → Int → Nat → Bool} {W W' : World} (h : Opn w g A n c mb g4 g7 H W) (hf : Fr0 W W') : Opn w g A n c mb g4 g7 H W' :=
  ⟨Fr0.trans h.fr hf, h.b7.fr0 hf, h.b4.fr0 hf, h.m.fr hf, h.o⟩
theorem Opn.of_eq {w : World} {g : Int} {A : Option Addr} {n c mb g4 g7 : Nat} {H H' : Int → Int → Nat → Bool} {W : World} (h : Opn w g A n c mb g4 g7 H W) (e : H = H') : Opn w g A n c mb g4 g7 H' W := e ▸ h
/-- A stroke is laid. -/
theorem Opn.put {w : World} {g : Int} {A : Option Addr} {n c mb g4 g7 : Nat} {H : Int → Int → Nat → Bool} {W : World} (h : Opn w g A n c mb g4 g7 H W) (x y : Int) (v : Nat → Bool) :
    ∃ o, (Instr.mapUpdate 81 (.map (some mb)) (.agg #[.int .i64 x, .int .i64 y]) (.agg #[.bool (v 0), .bool (v 1), .bool (v 2), .bool (v 3), .bool (v 4)])).run Tryd.prog W = .ok () (W.putObj mb o) ∧ Opn w g A n c mb g4 g7 (fun a b i => if a = x ∧ b = y then v i else H a b i) (W.putObj mb o) := by
  obtain ⟨f, hm, hv⟩ := h.m
  obtain ⟨es, ck, hmo⟩ := hm.obj
  obtain ⟨o, _, _, hru, hm'⟩ := update_k2 key38 Tryd.underlying81 hm x y (gv v)
  have hf : Fr (· = mb) W (W.putObj mb o) := Fr.put1 _ _ _
  refine ⟨o, hru, Fr.step (S := fun _ => False) h.fr hf (fun k hk e => by have := h.o; have e : k = mb := e; omega), h.b7.fr hf (h.b7.not_map hmo), h.b4.fr hf (h.b4.not_map hmo), ⟨_, hm', fun a b => ?_⟩, h.o⟩
  by_cases c : a = x ∧ b = y
  · simp only [if_pos c]
    rfl
  · simp only [if_neg c]
    exact hv a b
theorem Opn.look {w : World} {g : Int} {A : Option Addr} {n c mb g4 g7 : Nat} {H : Int → Int → Nat → Bool} {W : World} (h : Opn w g A n c mb g4 g7 H W) (x y : Int) :
    (Instr.lookup 81 (.map (some mb)) (.agg #[.int .i64 x, .int .i64 y]) false).run Tryd.prog W = .ok (.agg #[.bool (H x y 0), .bool (H x y 1), .bool (H x y 2), .bool (H x y 3), .bool (H x y 4)]) W := by
  obtain ⟨f, hm, hv⟩ := h.m
  have := lookup_k2' key38 Tryd.underlying81 zero89 hm x y
  rw [hv] at this
  exact this
theorem Opn.st {w : World} {g : Int} {A : Option Addr} {c mb g4 g7 : Nat} {l : List S63} {W : World} (h : Opn w g A l.length c mb g4 g7 (hT1 l l.length) W) (hr : Kd.C k63 w A l.length l) (hc : l.length ≤ c) (hG : Glob w) : St g A c l mb W := by
  obtain ⟨f, hm, hv⟩ := h.m
  refine ⟨C_fr hr h.fr, hc, ⟨f, hm, fun a b h0 h1 => ?_⟩, hG.fr h.fr⟩
  rw [hv]
  refine gv_congr fun i => ?_
  unfold hT1
  rw [decide_eq_true ⟨h0, h1⟩, Bool.true_and]
set_option maxRecDepth 100000 in
theorem put_in {w : World} {g : Int} {A : Option Addr} {n c mb g4 g7 : Nat} {H : Int → Int → Nat → Bool} {W0 W : World} (h : Opn w g A n c mb g4 g7 H W0) (hf : Fr0 W0 W) {x y : Int} (v : Nat → Bool) {op : Oper} {a : Act} {K : Act → World → Prop} {Q : Exit → Act → World → Prop}
    (hk : ∀ o, Opn w g A n c mb g4 g7 (fun a b i => if a = x ∧ b = y then v i else H a b i) (W.putObj mb o) → Oper.upon Tryd.prog op a K Q (Result.ok Next.skip (W.putObj mb o))) :
    Oper.upon Tryd.prog op a K Q ((Sem.run Tryd.prog (Instr.mapUpdate 81 (.map (some mb)) (.agg #[.int .i64 x, .int .i64 y]) (.agg #[.bool (v 0), .bool (v 1), .bool (v 2), .bool (v 3), .bool (v 4)])) W).andThen fun _ w' => Result.ok Next.skip w') := by
  obtain ⟨o, hru, hO⟩ := (h.fr0 hf).put x y v
  rw [hru]
  exact hk o hO
theorem three_fr {w W : World} {g : Nat} (h : Fr0 w W) (hg : w.heap.size ≤ g) (b0 b1 b2 : Value) : Fr0 w (((W.setCell ⟨g, 0, none⟩ b0).setCell ⟨g, 1, none⟩ b1).setCell ⟨g, 2, none⟩ b2) := ((h.setCell (.inr hg) _).setCell (.inr hg) _).setCell (.inr hg) _
theorem St.put3 {g : Int} {A : Option Addr} {c : Nat} {l : List S63} {mb : Nat} {w0 w : World} {gb : Nat} (h : St g A c l mb w) (hr : Kd.C k63 w0 A l.length l) (h0 : Fr0 w0 w) (hgb : w0.heap.size ≤ gb) (hne : gb ≠ mb) (hG : Glob w0) (b0 b1 b2 : Value) : St g A c l mb (((w.setCell ⟨gb, 0, none⟩ b0).setCell ⟨gb, 1, none⟩ b1).setCell ⟨gb, 2, none⟩ b2) := by
  obtain ⟨f, hm, hv⟩ := h.m
  have hf := three_fr h0 hgb b0 b1 b2
  have hf1 : Fr (· = gb) w (((w.setCell ⟨gb, 0, none⟩ b0).setCell ⟨gb, 1, none⟩ b1).setCell ⟨gb, 2, none⟩ b2) := Fr.setCell (S := (· = gb)) (Fr.setCell (S := (· = gb)) (Fr.setCell (S := (· = gb)) (Fr.refl _ _) (.inl rfl) _) (.inl rfl) _) (.inl rfl) _
  exact ⟨C_fr hr hf, h.c, ⟨f, hm.same (hf1.block _ hm.lt (fun e => hne e.symm)), hv⟩, hG.fr hf⟩
def openE (g : Int) (l : List S63) (ok : Bool) : Int := if bookOk g l = true then (if ok = true then 0 else 51) else 50
theorem res52 {w : World} {g : Nat} {b0 b1 b2 E : Value} {tmps : Array Value} (h4 : tmps[4]?.getD undef = .pointer (some ⟨g, 0, none⟩)) (h5 : tmps[5]?.getD undef = E) (h : Bx w g 83 #[b0, b1, b2]) : (results Tryd.f52 tmps).run Tryd.prog w = .ok (.tuple #[.agg #[b0, b1, b2], E]) w := by
  have e0 := h.at_ 0 rfl
  have e1 := h.at_ 1 rfl
  have e2 := h.at_ 2 rfl
  simp only [results, Tryd.results52]
  simp [h4, h5, go_sem, e0, e1, e2]
theorem three_set {W : World} {g : Nat} {a0 a1 a2 : Value} (h : Bx W g 83 #[a0, a1, a2]) (b0 b1 b2 : Value) : Bx (((W.setCell ⟨g, 0, none⟩ b0).setCell ⟨g, 1, none⟩ b1).setCell ⟨g, 2, none⟩ b2) g 83 #[b0, b1, b2] := by
  have h := ((h.set_ 0 b0).set_ 1 b1).set_ 2 b2
  simp at h
  exact h
theorem rows_len {g : Int} {l : List S63} (h : bookOk g l = true) : ∀ n : Nat, n < l.length → (rd_T63 l n).f1.length ≤ 5 := fun n hn => by
  unfold bookOk at h
  simp only [Bool.and_eq_true, isIn_iff, List.all_eq_true] at h
  have := h.2 _ (List.getElem_mem hn)
  rw [show rd_T63 l (n : Int) = l[n] by simp [rd_T63, hn]]
  unfold formOk at this
  simp only [Bool.and_eq_true, isIn_iff, beq_iff_eq] at this
  omega
set_option maxHeartbeats 4000000 in
set_option maxRecDepth 100000 in
theorem opened_any (F : FuncId) (lb : Array Value) (eF : ∀ args w, (callFunc F args).run Tryd.prog w = .ok (.enter F args) w) (g : Int) (A : Option Addr) (c : Nat) (l : List S63) (ok : Bool) (w : World) (hr : Kd.C k63 w A l.length l) (hc : l.length ≤ c) (hG : Glob w)
    (hright : bookOk g l = true → ∀ mb W, Fr0 w W → St g A c l mb W → Calls Tryd.prog F (#[bookV g A l.length c (some mb)] ++ lb) W fun e w' => e = .returned (.bool ok) ∧ Fr0 W w') :
    Calls Tryd.prog 52 #[.agg #[.int .i64 g, .slice A l.length c], .func (.func F) #[] lb] w fun e w' =>
      ∃ g' A' n' c' o', e = .returned (.tuple #[bookV g' A' n' c' o', .int .i64 (openE g l ok)]) ∧ Fr0 w w' ∧ (openE g l ok = 0 → ∃ mb, g' = g ∧ A' = A ∧ n' = l.length ∧ c' = c ∧ o' = some mb ∧ St g A c l mb w') := by
  have HR := Lib.hid hr
  have HG := Lib.hid hG
  have hn : (l.length : Int) ≤ 9223372036854775807 := by have := C_len hr; omega
  have HC := Lib.hid hc
  by_cases hb : bookOk g l = true
  · have HX := Lib.hid (hright hb)
    have hE : checkE g l = 0 := by unfold checkE; rw [if_pos hb]
    have HCK := Lib.hid (fun W (hW : Fr0 w W) => check_any g A c l W (C_fr hr hW) hc)
    rw [hE] at HCK
    have HBK := Lib.hid hb
    have HO := Lib.hid (show openE g l ok = if ok = true then 0 else 51 by unfold openE; rw [if_pos hb])
    clear hr hG hright hE hb hc
    have hu83 := Tryd.underlying83
    go_enter Tryd.func52, Tryd.ntmps52
    go_wp2_with (go_at_call 17; (with_reducible refine (HCK.out _ ?hw).mono ?_); (case hw => repeat (first | exact Fr.refl _ _ | apply Fr.alloc)); rintro e W1 ⟨rfl, hf1⟩; (have B2 := Bx.fr0 ((Bx.new w 24 #[.int .i64 g, .slice A l.length c]).alloc (.cells #[.int .i64 0, .slice none 0 0, .map none] 83)) hf1); (have B4 := Bx.fr0 (Bx.of_new (w := w.alloc (.cells #[.int .i64 g, .slice A l.length c] 24)) (g := w.heap.size + 1) (t := 83) (cs := #[.int .i64 0, .slice none 0 0, .map none]) (by simp)) hf1); (have y0 := B2.at_ 0 (v := .int .i64 g) rfl); (have y1 := B2.at_ 1 (v := .slice A l.length c) rfl); (have l2 := B2.lt); (have l4 := B4.lt); (have l2' := Nat.lt_succ_of_lt l2); (have l4' := Nat.lt_succ_of_lt l4); (have l2'' := Nat.lt_succ_of_lt l2'); (have hf01 : Fr0 w W1 := Fr0.trans (((Fr.refl _ _).alloc _).alloc _) hf1))
    rw [mk81]
    have hW2 : Fr0 W1 ((W1.alloc (.map #[] 0)).alloc (.cells (bookC g A l.length c (some W1.heap.size)) 83)) := ((Fr.refl _ _).alloc _).alloc _
    have hI : Opn w g A l.length c W1.heap.size (w.heap.size + 1) (W1.heap.size + 1) (hT1 l 0) ((W1.alloc (.map #[] 0)).alloc (.cells (bookC g A l.length c (some W1.heap.size)) 83)) :=
      ⟨Fr0.trans hf01 hW2, Bx.of_new (by simp), B4.fr0 hW2, ⟨_, (MapFn.new W1).same (Below.heap_alloc _ _ _ (by simp)), fun a b => by show gv (fun _ => false) = _; refine gv_congr fun i => ?_; unfold hT1; rw [decide_eq_false (by omega)]; rfl⟩, hf01.size⟩
    have y1' := (B2.fr0 hW2).at_ 1 (v := .slice A l.length c) rfl
    clear y0 y1 B2 B4 hf1
    have HI := Lib.hid hI
    have HN4 := Lib.hid l4
    go_wp2
    generalize hmb : W1.heap.size = mb at *
    clear y1' hI hW2 hmb l2 l4 l2' l4' l2'' hf01
    have HRL := Lib.hid (rows_len HBK.out)
    go_loopw [28] (fun v28 wr => ∃ n : Nat, n ≤ l.length ∧ v28 = .int .i64 n ∧ Opn w g A l.length c mb (w.heap.size + 1) (mb + 1) (hT1 l n) wr) (fun v28 _ => (l.length - intOf v28).toNat)
    case atStart => exact ⟨0, by omega, by rfl, HI.out⟩
    case round =>
      obtain ⟨n, hn', rfl, hO⟩ := hrel
      have HO1 := Lib.hid hO
      clear hO
      by_cases hlt : n < l.length
      · have hle : (n : Int) < l.length := by omega
        obtain ⟨ad, A1, c1, eA, hx0, hx1, hc1, hC1⟩ := at_T63 HR.out (n : Int) (by omega) hle
        subst eA
        have hz0 : wr.cell? (ad.add (n * 2)) = some (.int .i64 (rd_T63 l n).f0) := HO1.out.fr.cell0 hx0
        have hz1 : wr.cell? ⟨(ad.add (n * 2)).block, (ad.add (n * 2)).off + 1, none⟩ = some (.slice A1 (rd_T63 l n).f1.length c1) := HO1.out.fr.cell0 hx1
        have h5 := HRL.out n hlt
        have HRW := Lib.hid (show ∀ gi, row l n gi = (rd_T63 l n).f1.getD gi [] from fun _ => rfl)
        have HALL := Lib.hid (hT2_all l n)
        have HC1 := Lib.hid hC1
        clear hx0 hx1 hC1
        generalize (rd_T63 l n).f0 = B at *
        generalize (rd_T63 l n).f1 = rows at *
        have hrl : (rows.length : Int) ≤ 5 := by omega
        go_wp2
        have HOb := Lib.hid (HO1.out.fr0 ((Fr.refl _ _).alloc (.cells #[.int .i64 B, .slice A1 rows.length c1] 63)))
        clear hz0 hz1
        go_loopw [36] (fun v36 wr2 => ∃ gi : Nat, gi ≤ rows.length ∧ v36 = .int .i64 gi ∧ Opn w g (some ad) l.length c mb (w.heap.size + 1) (mb + 1) (hT2 l n gi) wr2) (fun v36 _ => (rows.length - intOf v36).toNat)
        case atStart => exact ⟨0, by omega, by rfl, HOb.out.of_eq (hT2_0 l n).symm⟩
        case round =>
          obtain ⟨gi, hgi, rfl, hO2⟩ := hrel
          have HO2 := Lib.hid hO2
          clear hO2
          by_cases hlt2 : gi < rows.length
          · have hle2 : (gi : Int) < rows.length := by omega
            obtain ⟨ad2, A2, c2, eA2, hy, hc2, hC2⟩ := at_L1 HC1.out (gi : Int) (by omega) hle2
            subst eA2
            have hrr : rd_L1 rows (gi : Int) = row l n gi := by rw [HRW.out]; rfl
            rw [hrr] at hy hc2 hC2
            have hy1 : wr.cell? (ad2.add gi) = some (.slice A2 (row l n gi).length c2) := HO2.out.fr.cell0 hy
            have HC2 := Lib.hid hC2
            have hrl2 : ((row l n gi).length : Int) ≤ 9223372036854775807 := by have := C_len hC2; omega
            have HA3 := Lib.hid (hT3_all l n gi)
            have HS3 := Lib.hid (hT3_step l n gi)
            clear hy hC2 hrr
            generalize row l n gi = r at *
            go_wp2
            clear hy1
            go_loopw [43] (fun v43 wr3 => ∃ k : Nat, k ≤ r.length ∧ v43 = .int .i64 k ∧ Opn w g (some ad) l.length c mb (w.heap.size + 1) (mb + 1) (hT3 l n gi k) wr3) (fun v43 _ => (r.length - intOf v43).toNat)
            case atStart => exact ⟨0, by omega, by rfl, HO2.out.of_eq (hT3_0 l n gi).symm⟩
            case round =>
              obtain ⟨k, hk, rfl, hO3⟩ := hrel
              have HO3 := Lib.hid hO3
              clear hO3
              by_cases hlt3 : k < r.length
              · have hle3 : (k : Int) < r.length := by omega
                obtain ⟨ad3, e3, hx3⟩ := Kd.at_int HC2.out (k : Int) (by omega) hle3
                subst e3
                have hx4 : wr.cell? (ad3.add k) = some (.int .i64 (r.getD k 0)) := HO3.out.fr.cell0 hx3
                have hxk : r.getD k 0 = r[k] := by simp [hlt3]
                have HST := Lib.hid (HS3.out k hlt3)
                rw [← hxk] at HST
                clear hx3 hxk
                generalize r.getD k 0 = x at *
                have hlk := (HO3.out.fr0 ((Fr.refl _ _).alloc (.cells #[.int .i64 n, .int .i64 x] 38))).look (n : Int) x
                have hm7 := HO3.out.b7.at_ 2 (v := .map (some mb)) rfl
                have hl7 := HO3.out.b7.lt
                have hl7' := Nat.lt_succ_of_lt hl7
                have hl7'' := Nat.lt_succ_of_lt hl7'
                have hg5 : gi = 0 ∨ gi = 1 ∨ gi = 2 ∨ gi = 3 ∨ gi = 4 := by omega
                rcases hg5 with rfl | rfl | rfl | rfl | rfl
                · go_wp2
                  refine put_in HO3.out ((((Fr.refl _ _).alloc _).alloc _)) (fun i => if i = 0 then true else hT3 l n 0 k n x i) (fun o hO4 => ?_)
                  go_wp2
                  have hO5 := hO4.of_eq (funext fun a => funext fun b => funext fun i => (HST.out a b i).symm)
                  refine ⟨?_, by simp [intOf]; omega⟩
                  (repeat apply Exists.intro)
                  exact ⟨⟨k + 1, by omega, by go_num, hO5⟩, rfl⟩
                · go_wp2
                  refine put_in HO3.out ((((Fr.refl _ _).alloc _).alloc _)) (fun i => if i = 1 then true else hT3 l n 1 k n x i) (fun o hO4 => ?_)
                  go_wp2
                  have hO5 := hO4.of_eq (funext fun a => funext fun b => funext fun i => (HST.out a b i).symm)
                  refine ⟨?_, by simp [intOf]; omega⟩
                  (repeat apply Exists.intro)
                  exact ⟨⟨k + 1, by omega, by go_num, hO5⟩, rfl⟩
                · go_wp2
                  refine put_in HO3.out ((((Fr.refl _ _).alloc _).alloc _)) (fun i => if i = 2 then true else hT3 l n 2 k n x i) (fun o hO4 => ?_)
                  go_wp2
                  have hO5 := hO4.of_eq (funext fun a => funext fun b => funext fun i => (HST.out a b i).symm)
                  refine ⟨?_, by simp [intOf]; omega⟩
                  (repeat apply Exists.intro)
                  exact ⟨⟨k + 1, by omega, by go_num, hO5⟩, rfl⟩
                · go_wp2
                  refine put_in HO3.out ((((Fr.refl _ _).alloc _).alloc _)) (fun i => if i = 3 then true else hT3 l n 3 k n x i) (fun o hO4 => ?_)
                  go_wp2
                  have hO5 := hO4.of_eq (funext fun a => funext fun b => funext fun i => (HST.out a b i).symm)
                  refine ⟨?_, by simp [intOf]; omega⟩
                  (repeat apply Exists.intro)
                  exact ⟨⟨k + 1, by omega, by go_num, hO5⟩, rfl⟩
                · go_wp2
                  refine put_in HO3.out ((((Fr.refl _ _).alloc _).alloc _)) (fun i => if i = 4 then true else hT3 l n 4 k n x i) (fun o hO4 => ?_)
                  go_wp2
                  have hO5 := hO4.of_eq (funext fun a => funext fun b => funext fun i => (HST.out a b i).symm)
                  refine ⟨?_, by simp [intOf]; omega⟩
                  (repeat apply Exists.intro)
                  exact ⟨⟨k + 1, by omega, by go_num, hO5⟩, rfl⟩
              · obtain rfl : k = r.length := by omega
                have hle3 : ¬ ((r.length : Int) < r.length) := by omega
                go_wp2
                exact ⟨⟨gi + 1, by omega, by go_num, HO3.out.of_eq HA3.out⟩, by simp [intOf]; omega⟩
          · obtain rfl : gi = rows.length := by omega
            have hle2 : ¬ ((rows.length : Int) < rows.length) := by omega
            go_wp2
            exact ⟨⟨n + 1, by omega, by go_num, HO2.out.of_eq HALL.out⟩, by simp [intOf]; omega⟩
      · obtain rfl : n = l.length := by omega
        have hle : ¬ ((l.length : Int) < l.length) := by omega
        have hst := HO1.out.st HR.out HC.out HG.out
        have HST := Lib.hid hst
        have HCL := Lib.hid (HX.out mb wr HO1.out.fr hst)
        have q0 := HO1.out.b7.at_ 0 (v := .int .i64 g) rfl
        have q1 := HO1.out.b7.at_ 1 (v := .slice A l.length c) rfl
        have q2 := HO1.out.b7.at_ 2 (v := .map (some mb)) rfl
        clear hst
        go_wp2
        refine Calls.mono HCL.out ?_
        rintro e W5 ⟨rfl, hf5⟩
        have hI5 := HO1.out.fr0 hf5
        have HI5 := Lib.hid hI5
        have HST5 := Lib.hid (HST.out.fr hf5)
        have p0 := hI5.b7.at_ 0 (v := .int .i64 g) rfl
        have p1 := hI5.b7.at_ 1 (v := .slice A l.length c) rfl
        have p2 := hI5.b7.at_ 2 (v := .map (some mb)) rfl
        have r0 := hI5.b4.at_ 0 (v := .int .i64 0) rfl
        have r1 := hI5.b4.at_ 1 (v := .slice none 0 0) rfl
        have r2 := hI5.b4.at_ 2 (v := .map none) rfl
        have z0 := hI5.b4.frz 0
        have z1 := hI5.b4.frz 1
        have z2 := hI5.b4.frz 2
        have hle4 := hI5.b4.lt
        clear hI5 q0 q1 q2
        cases ok
        · go_wp2
          refine bodyPost_ret (res52 rfl rfl (three_set HI5.out.b4 _ _ _)) rfl ⟨0, none, 0, 0, none, by rw [HO.out]; rfl, three_fr HI5.out.fr (by omega) _ _ _, fun h => ?_⟩
          rw [HO.out] at h
          simp at h
        · go_wp2
          refine bodyPost_ret (res52 rfl rfl (three_set HI5.out.b4 _ _ _)) rfl ⟨g, A, l.length, c, some mb, by rw [HO.out]; rfl, three_fr HI5.out.fr (by omega) _ _ _, fun h => ⟨mb, rfl, rfl, rfl, rfl, rfl, ?_⟩⟩
          exact HST5.out.put3 HR.out HI5.out.fr (by omega) (by have := HN4.out; omega) HG.out _ _ _
  · have hE : checkE g l = 50 := by unfold checkE; rw [if_neg hb]
    have HCK := Lib.hid (fun W (hW : Fr0 w W) => check_any g A c l W (C_fr hr hW) hc)
    rw [hE] at HCK
    have HO := Lib.hid (show openE g l ok = 50 by unfold openE; rw [if_neg hb])
    clear hr hG hright hE hb hc
    go_enter Tryd.func52, Tryd.ntmps52
    go_wp2_with (go_at_call 17; (with_reducible refine (HCK.out _ ?hw).mono ?_); (case hw => repeat (first | exact Fr.refl _ _ | apply Fr.alloc)); rintro e W1 ⟨rfl, hf1⟩; (have B4 := Bx.fr0 (Bx.of_new (w := w.alloc (.cells #[.int .i64 g, .slice A l.length c] 24)) (g := w.heap.size + 1) (t := 83) (cs := #[.int .i64 0, .slice none 0 0, .map none]) (by simp)) hf1); (have r0 := B4.at_ 0 (v := .int .i64 0) rfl); (have r1 := B4.at_ 1 (v := .slice none 0 0) rfl); (have r2 := B4.at_ 2 (v := .map none) rfl); (have z0 := B4.frz 0); (have z1 := B4.frz 1); (have z2 := B4.frz 2); (have hf01 : Fr0 w W1 := Fr0.trans (((Fr.refl _ _).alloc _).alloc _) hf1))
    refine bodyPost_ret (res52 rfl rfl (three_set B4 _ _ _)) rfl ⟨0, none, 0, 0, none, by rw [HO.out]; rfl, three_fr hf01 (by omega) _ _ _, fun h => ?_⟩
    rw [HO.out] at h
    simp at h
end Go.Proofs.YtephecfapclgfaaDoor.R
namespace Go.Proofs.YtephecfapclgfaaDoor.R
open Go.RowKit Go.Shelf Go.Proofs.YtephecfapclgfaaDoorW.PrintWords Go.Proofs.YtephecfapclgfaaDoorW.PrintLast Go.Proofs.YtephecfapclgfaaDoor.PRaspKeys Go.Proofs.YtephecfapclgfaaDoor.X
attribute [local go_sem] Oper.semAt_some

theorem gong_of {g : Int} {l : List S63} (h : bookOk g l = true) : 1 ≤ g ∧ g ≤ 5 := by
  unfold bookOk at h
  simp only [Bool.and_eq_true, isIn_iff] at h
  exact h.1.1
def okStruck (g : Int) (l : List S63) (form : Int) (beat : Int) : Bool := isIn form 0 ((l.length : Int) - 1) && isIn beat 0 100000
set_option maxHeartbeats 2000000 in
theorem right53 (g : Int) (A : Option Addr) (c : Nat) (l : List S63) (mb : Nat) (bform : Nat) (form : Int) (bbeat : Nat) (beat : Int) (W : World) (hb : bookOk g l = true) (hS : St g A c l mb W) (hpform : W.cell? ⟨bform, 0, none⟩ = some (.int .i64 form)) (hpbeat : W.cell? ⟨bbeat, 0, none⟩ = some (.int .i64 beat)) :
    Calls Tryd.prog 53 (#[bookV g A l.length c (some mb)] ++ #[.pointer (some ⟨bform, 0, none⟩), .pointer (some ⟨bbeat, 0, none⟩)]) W fun e w' => e = .returned (.bool (okStruck g l form beat)) ∧ Fr0 W w' := by
  have hn := C_len hS.r
  have hgg := gong_of hb
  unfold okStruck
  have HC0 := Lib.hid (fun W' (hF : Fr0 W W') => isForm_any g A l.length c (some mb) form W' hn)
  have HC1 := Lib.hid (fun W' (hF : Fr0 W W') => isBeat_any beat W')
  have HP := Lib.hid (show (W.cell? ⟨bform, 0, none⟩ = some (.int .i64 form)) ∧ (W.cell? ⟨bbeat, 0, none⟩ = some (.int .i64 beat)) from ⟨hpform, hpbeat⟩)
  have llhpform := World.block_lt_of_cell? W _ hpform
  have llhpbeat := World.block_lt_of_cell? W _ hpbeat
  dsimp only at llhpform llhpbeat
  clear hS  
  by_cases q0 : isIn form 0 ((l.length : Int) - 1) = true
  · rw [q0] at HC0 ⊢
    clear q0
    go_enter Tryd.func53, Tryd.ntmps53
    go_wp2_with (first
      | (go_at_call 54; (with_reducible refine (HC0.out _ ?hw).mono ?_); (case hw => exact (Fr.refl _ _).alloc _); rintro e W1 ⟨rfl, hf1⟩; (have hf01 : Fr0 W W1 := Fr0.trans ((Fr.refl _ _).alloc _) hf1); (have hp1hpform := hf01.cell0 HP.out.1); (have hp1hpbeat := hf01.cell0 HP.out.2); (have HBX1 := Bx.fr0 (Bx.new W 83 (bookC g A l.length c (some mb))) hf1); (have y10 := HBX1.at_ 0 (v := .int .i64 g) rfl); (have y11 := HBX1.at_ 1 (v := .slice A l.length c) rfl); (have y12 := HBX1.at_ 2 (v := .map (some mb)) rfl))
      | (go_at_call 55; (with_reducible refine (HC1.out _ ?hw).mono ?_); (case hw => exact hf01); rintro e W2 ⟨rfl, hf2⟩; (have hf02 : Fr0 W W2 := Fr0.trans (hf01) hf2); (have hp2hpform := hf02.cell0 HP.out.1); (have hp2hpbeat := hf02.cell0 HP.out.2); (have HBX2 := Bx.fr0 HBX1 hf2); (have y20 := HBX2.at_ 0 (v := .int .i64 g) rfl); (have y21 := HBX2.at_ 1 (v := .slice A l.length c) rfl); (have y22 := HBX2.at_ 2 (v := .map (some mb)) rfl)))
    go_ret
    exact ⟨by simp, hf02⟩
  · rw [Bool.not_eq_true] at q0
    rw [q0] at HC0 ⊢
    clear q0
    go_enter Tryd.func53, Tryd.ntmps53
    go_wp2_with (first
      | (go_at_call 54; (with_reducible refine (HC0.out _ ?hw).mono ?_); (case hw => exact (Fr.refl _ _).alloc _); rintro e W1 ⟨rfl, hf1⟩; (have hf01 : Fr0 W W1 := Fr0.trans ((Fr.refl _ _).alloc _) hf1); (have hp1hpform := hf01.cell0 HP.out.1); (have hp1hpbeat := hf01.cell0 HP.out.2); (have HBX1 := Bx.fr0 (Bx.new W 83 (bookC g A l.length c (some mb))) hf1); (have y10 := HBX1.at_ 0 (v := .int .i64 g) rfl); (have y11 := HBX1.at_ 1 (v := .slice A l.length c) rfl); (have y12 := HBX1.at_ 2 (v := .map (some mb)) rfl)))
    go_ret
    exact ⟨by simp, hf01⟩
def okNext (g : Int) (l : List S63) (form : Int) (gong : Int) (beat : Int) : Bool := isIn form 0 ((l.length : Int) - 1) && isIn gong 0 (g - 1) && isIn beat 0 100000
set_option maxHeartbeats 2000000 in
theorem right64 (g : Int) (A : Option Addr) (c : Nat) (l : List S63) (mb : Nat) (bform : Nat) (form : Int) (bgong : Nat) (gong : Int) (bbeat : Nat) (beat : Int) (W : World) (hb : bookOk g l = true) (hS : St g A c l mb W) (hpform : W.cell? ⟨bform, 0, none⟩ = some (.int .i64 form)) (hpgong : W.cell? ⟨bgong, 0, none⟩ = some (.int .i64 gong)) (hpbeat : W.cell? ⟨bbeat, 0, none⟩ = some (.int .i64 beat)) :
    Calls Tryd.prog 64 (#[bookV g A l.length c (some mb)] ++ #[.pointer (some ⟨bform, 0, none⟩), .pointer (some ⟨bgong, 0, none⟩), .pointer (some ⟨bbeat, 0, none⟩)]) W fun e w' => e = .returned (.bool (okNext g l form gong beat)) ∧ Fr0 W w' := by
  have hn := C_len hS.r
  have hgg := gong_of hb
  unfold okNext
  have HC0 := Lib.hid (fun W' (hF : Fr0 W W') => isForm_any g A l.length c (some mb) form W' hn)
  have HC1 := Lib.hid (fun W' (hF : Fr0 W W') => isGong_any g A l.length c (some mb) gong W' hgg.1 hgg.2)
  have HC2 := Lib.hid (fun W' (hF : Fr0 W W') => isBeat_any beat W')
  have HP := Lib.hid (show (W.cell? ⟨bform, 0, none⟩ = some (.int .i64 form)) ∧ (W.cell? ⟨bgong, 0, none⟩ = some (.int .i64 gong)) ∧ (W.cell? ⟨bbeat, 0, none⟩ = some (.int .i64 beat)) from ⟨hpform, hpgong, hpbeat⟩)
  have llhpform := World.block_lt_of_cell? W _ hpform
  have llhpgong := World.block_lt_of_cell? W _ hpgong
  have llhpbeat := World.block_lt_of_cell? W _ hpbeat
  dsimp only at llhpform llhpgong llhpbeat
  clear hS   
  by_cases q0 : isIn form 0 ((l.length : Int) - 1) = true
  · rw [q0] at HC0 ⊢
    clear q0
    by_cases q1 : isIn gong 0 (g - 1) = true
    · rw [q1] at HC1 ⊢
      clear q1
      go_enter Tryd.func64, Tryd.ntmps64
      go_wp2_with (first
        | (go_at_call 54; (with_reducible refine (HC0.out _ ?hw).mono ?_); (case hw => exact (Fr.refl _ _).alloc _); rintro e W1 ⟨rfl, hf1⟩; (have hf01 : Fr0 W W1 := Fr0.trans ((Fr.refl _ _).alloc _) hf1); (have hp1hpform := hf01.cell0 HP.out.1); (have hp1hpgong := hf01.cell0 HP.out.2.1); (have hp1hpbeat := hf01.cell0 HP.out.2.2); (have HBX1 := Bx.fr0 (Bx.new W 83 (bookC g A l.length c (some mb))) hf1); (have y10 := HBX1.at_ 0 (v := .int .i64 g) rfl); (have y11 := HBX1.at_ 1 (v := .slice A l.length c) rfl); (have y12 := HBX1.at_ 2 (v := .map (some mb)) rfl))
        | (go_at_call 65; (with_reducible refine (HC1.out _ ?hw).mono ?_); (case hw => exact hf01); rintro e W2 ⟨rfl, hf2⟩; (have hf02 : Fr0 W W2 := Fr0.trans (hf01) hf2); (have hp2hpform := hf02.cell0 HP.out.1); (have hp2hpgong := hf02.cell0 HP.out.2.1); (have hp2hpbeat := hf02.cell0 HP.out.2.2); (have HBX2 := Bx.fr0 HBX1 hf2); (have y20 := HBX2.at_ 0 (v := .int .i64 g) rfl); (have y21 := HBX2.at_ 1 (v := .slice A l.length c) rfl); (have y22 := HBX2.at_ 2 (v := .map (some mb)) rfl))
        | (go_at_call 55; (with_reducible refine (HC2.out _ ?hw).mono ?_); (case hw => exact hf02); rintro e W3 ⟨rfl, hf3⟩; (have hf03 : Fr0 W W3 := Fr0.trans (hf02) hf3); (have hp3hpform := hf03.cell0 HP.out.1); (have hp3hpgong := hf03.cell0 HP.out.2.1); (have hp3hpbeat := hf03.cell0 HP.out.2.2); (have HBX3 := Bx.fr0 HBX2 hf3); (have y30 := HBX3.at_ 0 (v := .int .i64 g) rfl); (have y31 := HBX3.at_ 1 (v := .slice A l.length c) rfl); (have y32 := HBX3.at_ 2 (v := .map (some mb)) rfl)))
      go_ret
      exact ⟨by simp, hf03⟩
    · rw [Bool.not_eq_true] at q1
      rw [q1] at HC1 ⊢
      clear q1
      go_enter Tryd.func64, Tryd.ntmps64
      go_wp2_with (first
        | (go_at_call 54; (with_reducible refine (HC0.out _ ?hw).mono ?_); (case hw => exact (Fr.refl _ _).alloc _); rintro e W1 ⟨rfl, hf1⟩; (have hf01 : Fr0 W W1 := Fr0.trans ((Fr.refl _ _).alloc _) hf1); (have hp1hpform := hf01.cell0 HP.out.1); (have hp1hpgong := hf01.cell0 HP.out.2.1); (have hp1hpbeat := hf01.cell0 HP.out.2.2); (have HBX1 := Bx.fr0 (Bx.new W 83 (bookC g A l.length c (some mb))) hf1); (have y10 := HBX1.at_ 0 (v := .int .i64 g) rfl); (have y11 := HBX1.at_ 1 (v := .slice A l.length c) rfl); (have y12 := HBX1.at_ 2 (v := .map (some mb)) rfl))
        | (go_at_call 65; (with_reducible refine (HC1.out _ ?hw).mono ?_); (case hw => exact hf01); rintro e W2 ⟨rfl, hf2⟩; (have hf02 : Fr0 W W2 := Fr0.trans (hf01) hf2); (have hp2hpform := hf02.cell0 HP.out.1); (have hp2hpgong := hf02.cell0 HP.out.2.1); (have hp2hpbeat := hf02.cell0 HP.out.2.2); (have HBX2 := Bx.fr0 HBX1 hf2); (have y20 := HBX2.at_ 0 (v := .int .i64 g) rfl); (have y21 := HBX2.at_ 1 (v := .slice A l.length c) rfl); (have y22 := HBX2.at_ 2 (v := .map (some mb)) rfl)))
      go_ret
      exact ⟨by simp, hf02⟩
  · rw [Bool.not_eq_true] at q0
    rw [q0] at HC0 ⊢
    clear q0
    go_enter Tryd.func64, Tryd.ntmps64
    go_wp2_with (first
      | (go_at_call 54; (with_reducible refine (HC0.out _ ?hw).mono ?_); (case hw => exact (Fr.refl _ _).alloc _); rintro e W1 ⟨rfl, hf1⟩; (have hf01 : Fr0 W W1 := Fr0.trans ((Fr.refl _ _).alloc _) hf1); (have hp1hpform := hf01.cell0 HP.out.1); (have hp1hpgong := hf01.cell0 HP.out.2.1); (have hp1hpbeat := hf01.cell0 HP.out.2.2); (have HBX1 := Bx.fr0 (Bx.new W 83 (bookC g A l.length c (some mb))) hf1); (have y10 := HBX1.at_ 0 (v := .int .i64 g) rfl); (have y11 := HBX1.at_ 1 (v := .slice A l.length c) rfl); (have y12 := HBX1.at_ 2 (v := .map (some mb)) rfl)))
    go_ret
    exact ⟨by simp, hf01⟩
def okEven (g : Int) (l : List S63) (form : Int) (gong : Int) : Bool := isIn form 0 ((l.length : Int) - 1) && isIn gong 0 (g - 1)
set_option maxHeartbeats 2000000 in
theorem right68 (g : Int) (A : Option Addr) (c : Nat) (l : List S63) (mb : Nat) (bform : Nat) (form : Int) (bgong : Nat) (gong : Int) (W : World) (hb : bookOk g l = true) (hS : St g A c l mb W) (hpform : W.cell? ⟨bform, 0, none⟩ = some (.int .i64 form)) (hpgong : W.cell? ⟨bgong, 0, none⟩ = some (.int .i64 gong)) :
    Calls Tryd.prog 68 (#[bookV g A l.length c (some mb)] ++ #[.pointer (some ⟨bform, 0, none⟩), .pointer (some ⟨bgong, 0, none⟩)]) W fun e w' => e = .returned (.bool (okEven g l form gong)) ∧ Fr0 W w' := by
  have hn := C_len hS.r
  have hgg := gong_of hb
  unfold okEven
  have HC0 := Lib.hid (fun W' (hF : Fr0 W W') => isForm_any g A l.length c (some mb) form W' hn)
  have HC1 := Lib.hid (fun W' (hF : Fr0 W W') => isGong_any g A l.length c (some mb) gong W' hgg.1 hgg.2)
  have HP := Lib.hid (show (W.cell? ⟨bform, 0, none⟩ = some (.int .i64 form)) ∧ (W.cell? ⟨bgong, 0, none⟩ = some (.int .i64 gong)) from ⟨hpform, hpgong⟩)
  have llhpform := World.block_lt_of_cell? W _ hpform
  have llhpgong := World.block_lt_of_cell? W _ hpgong
  dsimp only at llhpform llhpgong
  clear hS  
  by_cases q0 : isIn form 0 ((l.length : Int) - 1) = true
  · rw [q0] at HC0 ⊢
    clear q0
    go_enter Tryd.func68, Tryd.ntmps68
    go_wp2_with (first
      | (go_at_call 54; (with_reducible refine (HC0.out _ ?hw).mono ?_); (case hw => exact (Fr.refl _ _).alloc _); rintro e W1 ⟨rfl, hf1⟩; (have hf01 : Fr0 W W1 := Fr0.trans ((Fr.refl _ _).alloc _) hf1); (have hp1hpform := hf01.cell0 HP.out.1); (have hp1hpgong := hf01.cell0 HP.out.2); (have HBX1 := Bx.fr0 (Bx.new W 83 (bookC g A l.length c (some mb))) hf1); (have y10 := HBX1.at_ 0 (v := .int .i64 g) rfl); (have y11 := HBX1.at_ 1 (v := .slice A l.length c) rfl); (have y12 := HBX1.at_ 2 (v := .map (some mb)) rfl))
      | (go_at_call 65; (with_reducible refine (HC1.out _ ?hw).mono ?_); (case hw => exact hf01); rintro e W2 ⟨rfl, hf2⟩; (have hf02 : Fr0 W W2 := Fr0.trans (hf01) hf2); (have hp2hpform := hf02.cell0 HP.out.1); (have hp2hpgong := hf02.cell0 HP.out.2); (have HBX2 := Bx.fr0 HBX1 hf2); (have y20 := HBX2.at_ 0 (v := .int .i64 g) rfl); (have y21 := HBX2.at_ 1 (v := .slice A l.length c) rfl); (have y22 := HBX2.at_ 2 (v := .map (some mb)) rfl)))
    go_ret
    exact ⟨by simp, hf02⟩
  · rw [Bool.not_eq_true] at q0
    rw [q0] at HC0 ⊢
    clear q0
    go_enter Tryd.func68, Tryd.ntmps68
    go_wp2_with (first
      | (go_at_call 54; (with_reducible refine (HC0.out _ ?hw).mono ?_); (case hw => exact (Fr.refl _ _).alloc _); rintro e W1 ⟨rfl, hf1⟩; (have hf01 : Fr0 W W1 := Fr0.trans ((Fr.refl _ _).alloc _) hf1); (have hp1hpform := hf01.cell0 HP.out.1); (have hp1hpgong := hf01.cell0 HP.out.2); (have HBX1 := Bx.fr0 (Bx.new W 83 (bookC g A l.length c (some mb))) hf1); (have y10 := HBX1.at_ 0 (v := .int .i64 g) rfl); (have y11 := HBX1.at_ 1 (v := .slice A l.length c) rfl); (have y12 := HBX1.at_ 2 (v := .map (some mb)) rfl)))
    go_ret
    exact ⟨by simp, hf01⟩
def okPassage (g : Int) (l : List S63) (sf sb : Int) (many : Int) : Bool := isSpotB l sf sb && isIn many 1 64
set_option maxHeartbeats 2000000 in
theorem right69 (g : Int) (A : Option Addr) (c : Nat) (l : List S63) (mb : Nat) (bs : Nat) (sf sb : Int) (bmany : Nat) (many : Int) (W : World) (hb : bookOk g l = true) (hS : St g A c l mb W) (hps0 : W.cell? ⟨bs, 0, none⟩ = some (.int .i64 sf)) (hps1 : W.cell? ⟨bs, 1, none⟩ = some (.int .i64 sb)) (hpmany : W.cell? ⟨bmany, 0, none⟩ = some (.int .i64 many)) :
    Calls Tryd.prog 69 (#[bookV g A l.length c (some mb)] ++ #[.pointer (some ⟨bs, 0, none⟩), .pointer (some ⟨bmany, 0, none⟩)]) W fun e w' => e = .returned (.bool (okPassage g l sf sb many)) ∧ Fr0 W w' := by
  have hn := C_len hS.r
  have hgg := gong_of hb
  unfold okPassage
  have HC0 := Lib.hid (fun W' (hF : Fr0 W W') => isSpot_any g A c l mb (beats_of hb) sf sb W' (hS.fr hF))
  have HC1 := Lib.hid (fun W' (hF : Fr0 W W') => lies_any many 1 64 W')
  have HP := Lib.hid (show (W.cell? ⟨bs, 0, none⟩ = some (.int .i64 sf)) ∧ (W.cell? ⟨bs, 1, none⟩ = some (.int .i64 sb)) ∧ (W.cell? ⟨bmany, 0, none⟩ = some (.int .i64 many)) from ⟨hps0, hps1, hpmany⟩)
  have llhps0 := World.block_lt_of_cell? W _ hps0
  have llhps1 := World.block_lt_of_cell? W _ hps1
  have llhpmany := World.block_lt_of_cell? W _ hpmany
  dsimp only at llhps0 llhps1 llhpmany
  clear hS  
  by_cases q0 : isSpotB l sf sb = true
  · rw [q0] at HC0 ⊢
    clear q0
    go_enter Tryd.func69, Tryd.ntmps69
    go_wp2_with (first
      | (go_at_call 70; (with_reducible refine (HC0.out _ ?hw).mono ?_); (case hw => exact (Fr.refl _ _).alloc _); rintro e W1 ⟨rfl, hf1⟩; (have hf01 : Fr0 W W1 := Fr0.trans ((Fr.refl _ _).alloc _) hf1); (have hp1hps0 := hf01.cell0 HP.out.1); (have hp1hps1 := hf01.cell0 HP.out.2.1); (have hp1hpmany := hf01.cell0 HP.out.2.2); (have HBX1 := Bx.fr0 (Bx.new W 83 (bookC g A l.length c (some mb))) hf1); (have y10 := HBX1.at_ 0 (v := .int .i64 g) rfl); (have y11 := HBX1.at_ 1 (v := .slice A l.length c) rfl); (have y12 := HBX1.at_ 2 (v := .map (some mb)) rfl))
      | (go_at_call 61; (with_reducible refine (HC1.out _ ?hw).mono ?_); (case hw => exact hf01); rintro e W2 ⟨rfl, hf2⟩; (have hf02 : Fr0 W W2 := Fr0.trans (hf01) hf2); (have hp2hps0 := hf02.cell0 HP.out.1); (have hp2hps1 := hf02.cell0 HP.out.2.1); (have hp2hpmany := hf02.cell0 HP.out.2.2); (have HBX2 := Bx.fr0 HBX1 hf2); (have y20 := HBX2.at_ 0 (v := .int .i64 g) rfl); (have y21 := HBX2.at_ 1 (v := .slice A l.length c) rfl); (have y22 := HBX2.at_ 2 (v := .map (some mb)) rfl)))
    go_ret
    exact ⟨by simp, hf02⟩
  · rw [Bool.not_eq_true] at q0
    rw [q0] at HC0 ⊢
    clear q0
    go_enter Tryd.func69, Tryd.ntmps69
    go_wp2_with (first
      | (go_at_call 70; (with_reducible refine (HC0.out _ ?hw).mono ?_); (case hw => exact (Fr.refl _ _).alloc _); rintro e W1 ⟨rfl, hf1⟩; (have hf01 : Fr0 W W1 := Fr0.trans ((Fr.refl _ _).alloc _) hf1); (have hp1hps0 := hf01.cell0 HP.out.1); (have hp1hps1 := hf01.cell0 HP.out.2.1); (have hp1hpmany := hf01.cell0 HP.out.2.2); (have HBX1 := Bx.fr0 (Bx.new W 83 (bookC g A l.length c (some mb))) hf1); (have y10 := HBX1.at_ 0 (v := .int .i64 g) rfl); (have y11 := HBX1.at_ 1 (v := .slice A l.length c) rfl); (have y12 := HBX1.at_ 2 (v := .map (some mb)) rfl)))
    go_ret
    exact ⟨by simp, hf01⟩
def okPlaces (g : Int) (l : List S63) (hd : List (List Int)) (lost : Int) : Bool := heardB g hd && isIn lost 0 6
set_option maxHeartbeats 2000000 in
theorem right74 (g : Int) (A : Option Addr) (c : Nat) (l : List S63) (mb : Nat) (bhd : Nat) (Ahd : Option Addr) (chd : Nat) (hd : List (List Int)) (blost : Nat) (lost : Int) (W : World) (hb : bookOk g l = true) (hS : St g A c l mb W) (hphd : W.cell? ⟨bhd, 0, none⟩ = some (.slice Ahd hd.length chd)) (hrhd : Kd.C (Kd.slice 3 (Kd.int .i64)) W Ahd hd.length hd) (hchd : hd.length ≤ chd) (hplost : W.cell? ⟨blost, 0, none⟩ = some (.int .i64 lost)) :
    Calls Tryd.prog 74 (#[bookV g A l.length c (some mb)] ++ #[.pointer (some ⟨bhd, 0, none⟩), .pointer (some ⟨blost, 0, none⟩)]) W fun e w' => e = .returned (.bool (okPlaces g l hd lost)) ∧ Fr0 W w' := by
  have hn := C_len hS.r
  have hgg := gong_of hb
  unfold okPlaces
  have HC0 := Lib.hid (fun W' (hF : Fr0 W W') => isHeard_any g hgg A l.length c (some mb) Ahd chd hd W' (C_fr hrhd hF) hchd)
  have HC1 := Lib.hid (fun W' (hF : Fr0 W W') => lies_any lost 0 6 W')
  have HP := Lib.hid (show (W.cell? ⟨bhd, 0, none⟩ = some (.slice Ahd hd.length chd)) ∧ (W.cell? ⟨blost, 0, none⟩ = some (.int .i64 lost)) from ⟨hphd, hplost⟩)
  have llhphd := World.block_lt_of_cell? W _ hphd
  have llhplost := World.block_lt_of_cell? W _ hplost
  dsimp only at llhphd llhplost
  clear hS hrhd 
  by_cases q0 : heardB g hd = true
  · rw [q0] at HC0 ⊢
    clear q0
    go_enter Tryd.func74, Tryd.ntmps74
    go_wp2_with (first
      | (go_at_call 75; (with_reducible refine (HC0.out _ ?hw).mono ?_); (case hw => exact (Fr.refl _ _).alloc _); rintro e W1 ⟨rfl, hf1⟩; (have hf01 : Fr0 W W1 := Fr0.trans ((Fr.refl _ _).alloc _) hf1); (have hp1hphd := hf01.cell0 HP.out.1); (have hp1hplost := hf01.cell0 HP.out.2); (have HBX1 := Bx.fr0 (Bx.new W 83 (bookC g A l.length c (some mb))) hf1); (have y10 := HBX1.at_ 0 (v := .int .i64 g) rfl); (have y11 := HBX1.at_ 1 (v := .slice A l.length c) rfl); (have y12 := HBX1.at_ 2 (v := .map (some mb)) rfl))
      | (go_at_call 61; (with_reducible refine (HC1.out _ ?hw).mono ?_); (case hw => exact hf01); rintro e W2 ⟨rfl, hf2⟩; (have hf02 : Fr0 W W2 := Fr0.trans (hf01) hf2); (have hp2hphd := hf02.cell0 HP.out.1); (have hp2hplost := hf02.cell0 HP.out.2); (have HBX2 := Bx.fr0 HBX1 hf2); (have y20 := HBX2.at_ 0 (v := .int .i64 g) rfl); (have y21 := HBX2.at_ 1 (v := .slice A l.length c) rfl); (have y22 := HBX2.at_ 2 (v := .map (some mb)) rfl)))
    go_ret
    exact ⟨by simp, hf02⟩
  · rw [Bool.not_eq_true] at q0
    rw [q0] at HC0 ⊢
    clear q0
    go_enter Tryd.func74, Tryd.ntmps74
    go_wp2_with (first
      | (go_at_call 75; (with_reducible refine (HC0.out _ ?hw).mono ?_); (case hw => exact (Fr.refl _ _).alloc _); rintro e W1 ⟨rfl, hf1⟩; (have hf01 : Fr0 W W1 := Fr0.trans ((Fr.refl _ _).alloc _) hf1); (have hp1hphd := hf01.cell0 HP.out.1); (have hp1hplost := hf01.cell0 HP.out.2); (have HBX1 := Bx.fr0 (Bx.new W 83 (bookC g A l.length c (some mb))) hf1); (have y10 := HBX1.at_ 0 (v := .int .i64 g) rfl); (have y11 := HBX1.at_ 1 (v := .slice A l.length c) rfl); (have y12 := HBX1.at_ 2 (v := .map (some mb)) rfl)))
    go_ret
    exact ⟨by simp, hf01⟩
def okLeast (g : Int) (l : List S63) (hd : List (List Int)) : Bool := heardB g hd
set_option maxHeartbeats 2000000 in
theorem right81 (g : Int) (A : Option Addr) (c : Nat) (l : List S63) (mb : Nat) (bhd : Nat) (Ahd : Option Addr) (chd : Nat) (hd : List (List Int)) (W : World) (hb : bookOk g l = true) (hS : St g A c l mb W) (hphd : W.cell? ⟨bhd, 0, none⟩ = some (.slice Ahd hd.length chd)) (hrhd : Kd.C (Kd.slice 3 (Kd.int .i64)) W Ahd hd.length hd) (hchd : hd.length ≤ chd) :
    Calls Tryd.prog 81 (#[bookV g A l.length c (some mb)] ++ #[.pointer (some ⟨bhd, 0, none⟩)]) W fun e w' => e = .returned (.bool (okLeast g l hd)) ∧ Fr0 W w' := by
  have hn := C_len hS.r
  have hgg := gong_of hb
  unfold okLeast
  have HC0 := Lib.hid (fun W' (hF : Fr0 W W') => isHeard_any g hgg A l.length c (some mb) Ahd chd hd W' (C_fr hrhd hF) hchd)
  have HP := Lib.hid hphd
  have llhphd := World.block_lt_of_cell? W _ hphd
  dsimp only at llhphd
  clear hS hrhd
  go_enter Tryd.func81, Tryd.ntmps81
  go_wp2_with (first
    | (go_at_call 75; (with_reducible refine (HC0.out _ ?hw).mono ?_); (case hw => exact (Fr.refl _ _).alloc _); rintro e W1 ⟨rfl, hf1⟩; (have hf01 : Fr0 W W1 := Fr0.trans ((Fr.refl _ _).alloc _) hf1); (have hp1hphd := hf01.cell0 HP.out); (have HBX1 := Bx.fr0 (Bx.new W 83 (bookC g A l.length c (some mb))) hf1); (have y10 := HBX1.at_ 0 (v := .int .i64 g) rfl); (have y11 := HBX1.at_ 1 (v := .slice A l.length c) rfl); (have y12 := HBX1.at_ 2 (v := .map (some mb)) rfl)))
  go_ret
  exact ⟨by simp, hf01⟩
def okMissing (g : Int) (l : List S63) (hd : List (List Int)) (sf sb : Int) : Bool := heardB g hd && isSpotB l sf sb
set_option maxHeartbeats 2000000 in
theorem right82 (g : Int) (A : Option Addr) (c : Nat) (l : List S63) (mb : Nat) (bhd : Nat) (Ahd : Option Addr) (chd : Nat) (hd : List (List Int)) (bs : Nat) (sf sb : Int) (W : World) (hb : bookOk g l = true) (hS : St g A c l mb W) (hphd : W.cell? ⟨bhd, 0, none⟩ = some (.slice Ahd hd.length chd)) (hrhd : Kd.C (Kd.slice 3 (Kd.int .i64)) W Ahd hd.length hd) (hchd : hd.length ≤ chd) (hps0 : W.cell? ⟨bs, 0, none⟩ = some (.int .i64 sf)) (hps1 : W.cell? ⟨bs, 1, none⟩ = some (.int .i64 sb)) :
    Calls Tryd.prog 82 (#[bookV g A l.length c (some mb)] ++ #[.pointer (some ⟨bhd, 0, none⟩), .pointer (some ⟨bs, 0, none⟩)]) W fun e w' => e = .returned (.bool (okMissing g l hd sf sb)) ∧ Fr0 W w' := by
  have hn := C_len hS.r
  have hgg := gong_of hb
  unfold okMissing
  have HC0 := Lib.hid (fun W' (hF : Fr0 W W') => isHeard_any g hgg A l.length c (some mb) Ahd chd hd W' (C_fr hrhd hF) hchd)
  have HC1 := Lib.hid (fun W' (hF : Fr0 W W') => isSpot_any g A c l mb (beats_of hb) sf sb W' (hS.fr hF))
  have HP := Lib.hid (show (W.cell? ⟨bhd, 0, none⟩ = some (.slice Ahd hd.length chd)) ∧ (W.cell? ⟨bs, 0, none⟩ = some (.int .i64 sf)) ∧ (W.cell? ⟨bs, 1, none⟩ = some (.int .i64 sb)) from ⟨hphd, hps0, hps1⟩)
  have llhphd := World.block_lt_of_cell? W _ hphd
  have llhps0 := World.block_lt_of_cell? W _ hps0
  have llhps1 := World.block_lt_of_cell? W _ hps1
  dsimp only at llhphd llhps0 llhps1
  clear hS hrhd 
  by_cases q0 : heardB g hd = true
  · rw [q0] at HC0 ⊢
    clear q0
    go_enter Tryd.func82, Tryd.ntmps82
    go_wp2_with (first
      | (go_at_call 75; (with_reducible refine (HC0.out _ ?hw).mono ?_); (case hw => exact (Fr.refl _ _).alloc _); rintro e W1 ⟨rfl, hf1⟩; (have hf01 : Fr0 W W1 := Fr0.trans ((Fr.refl _ _).alloc _) hf1); (have hp1hphd := hf01.cell0 HP.out.1); (have hp1hps0 := hf01.cell0 HP.out.2.1); (have hp1hps1 := hf01.cell0 HP.out.2.2); (have HBX1 := Bx.fr0 (Bx.new W 83 (bookC g A l.length c (some mb))) hf1); (have y10 := HBX1.at_ 0 (v := .int .i64 g) rfl); (have y11 := HBX1.at_ 1 (v := .slice A l.length c) rfl); (have y12 := HBX1.at_ 2 (v := .map (some mb)) rfl))
      | (go_at_call 70; (with_reducible refine (HC1.out _ ?hw).mono ?_); (case hw => exact hf01); rintro e W2 ⟨rfl, hf2⟩; (have hf02 : Fr0 W W2 := Fr0.trans (hf01) hf2); (have hp2hphd := hf02.cell0 HP.out.1); (have hp2hps0 := hf02.cell0 HP.out.2.1); (have hp2hps1 := hf02.cell0 HP.out.2.2); (have HBX2 := Bx.fr0 HBX1 hf2); (have y20 := HBX2.at_ 0 (v := .int .i64 g) rfl); (have y21 := HBX2.at_ 1 (v := .slice A l.length c) rfl); (have y22 := HBX2.at_ 2 (v := .map (some mb)) rfl)))
    go_ret
    exact ⟨by simp, hf02⟩
  · rw [Bool.not_eq_true] at q0
    rw [q0] at HC0 ⊢
    clear q0
    go_enter Tryd.func82, Tryd.ntmps82
    go_wp2_with (first
      | (go_at_call 75; (with_reducible refine (HC0.out _ ?hw).mono ?_); (case hw => exact (Fr.refl _ _).alloc _); rintro e W1 ⟨rfl, hf1⟩; (have hf01 : Fr0 W W1 := Fr0.trans ((Fr.refl _ _).alloc _) hf1); (have hp1hphd := hf01.cell0 HP.out.1); (have hp1hps0 := hf01.cell0 HP.out.2.1); (have hp1hps1 := hf01.cell0 HP.out.2.2); (have HBX1 := Bx.fr0 (Bx.new W 83 (bookC g A l.length c (some mb))) hf1); (have y10 := HBX1.at_ 0 (v := .int .i64 g) rfl); (have y11 := HBX1.at_ 1 (v := .slice A l.length c) rfl); (have y12 := HBX1.at_ 2 (v := .map (some mb)) rfl)))
    go_ret
    exact ⟨by simp, hf01⟩
def okConfused (g : Int) (l : List S63) (lost : Int) (many : Int) : Bool := isIn lost 0 6 && isIn many 1 64
set_option maxHeartbeats 2000000 in
theorem right83 (g : Int) (A : Option Addr) (c : Nat) (l : List S63) (mb : Nat) (blost : Nat) (lost : Int) (bmany : Nat) (many : Int) (W : World) (hb : bookOk g l = true) (hS : St g A c l mb W) (hplost : W.cell? ⟨blost, 0, none⟩ = some (.int .i64 lost)) (hpmany : W.cell? ⟨bmany, 0, none⟩ = some (.int .i64 many)) :
    Calls Tryd.prog 83 (#[bookV g A l.length c (some mb)] ++ #[.pointer (some ⟨blost, 0, none⟩), .pointer (some ⟨bmany, 0, none⟩)]) W fun e w' => e = .returned (.bool (okConfused g l lost many)) ∧ Fr0 W w' := by
  have hn := C_len hS.r
  have hgg := gong_of hb
  unfold okConfused
  have HC0 := Lib.hid (fun W' (hF : Fr0 W W') => lies_any lost 0 6 W')
  have HC1 := Lib.hid (fun W' (hF : Fr0 W W') => lies_any many 1 64 W')
  have HP := Lib.hid (show (W.cell? ⟨blost, 0, none⟩ = some (.int .i64 lost)) ∧ (W.cell? ⟨bmany, 0, none⟩ = some (.int .i64 many)) from ⟨hplost, hpmany⟩)
  have llhplost := World.block_lt_of_cell? W _ hplost
  have llhpmany := World.block_lt_of_cell? W _ hpmany
  dsimp only at llhplost llhpmany
  clear hS  
  by_cases q0 : isIn lost 0 6 = true
  · rw [q0] at HC0 ⊢
    clear q0
    go_enter Tryd.func83, Tryd.ntmps83
    go_wp2_with (first
      | (go_at_call 61; (with_reducible refine (HC0.out _ ?hw).mono ?_); (case hw => exact (Fr.refl _ _).alloc _); rintro e W1 ⟨rfl, hf1⟩; (have hf01 : Fr0 W W1 := Fr0.trans ((Fr.refl _ _).alloc _) hf1); (have hp1hplost := hf01.cell0 HP.out.1); (have hp1hpmany := hf01.cell0 HP.out.2); (have HBX1 := Bx.fr0 (Bx.new W 83 (bookC g A l.length c (some mb))) hf1); (have y10 := HBX1.at_ 0 (v := .int .i64 g) rfl); (have y11 := HBX1.at_ 1 (v := .slice A l.length c) rfl); (have y12 := HBX1.at_ 2 (v := .map (some mb)) rfl))
      | (go_at_call 61; (with_reducible refine (HC1.out _ ?hw).mono ?_); (case hw => exact hf01); rintro e W2 ⟨rfl, hf2⟩; (have hf02 : Fr0 W W2 := Fr0.trans (hf01) hf2); (have hp2hplost := hf02.cell0 HP.out.1); (have hp2hpmany := hf02.cell0 HP.out.2); (have HBX2 := Bx.fr0 HBX1 hf2); (have y20 := HBX2.at_ 0 (v := .int .i64 g) rfl); (have y21 := HBX2.at_ 1 (v := .slice A l.length c) rfl); (have y22 := HBX2.at_ 2 (v := .map (some mb)) rfl)))
    go_ret
    exact ⟨by simp, hf02⟩
  · rw [Bool.not_eq_true] at q0
    rw [q0] at HC0 ⊢
    clear q0
    go_enter Tryd.func83, Tryd.ntmps83
    go_wp2_with (first
      | (go_at_call 61; (with_reducible refine (HC0.out _ ?hw).mono ?_); (case hw => exact (Fr.refl _ _).alloc _); rintro e W1 ⟨rfl, hf1⟩; (have hf01 : Fr0 W W1 := Fr0.trans ((Fr.refl _ _).alloc _) hf1); (have hp1hplost := hf01.cell0 HP.out.1); (have hp1hpmany := hf01.cell0 HP.out.2); (have HBX1 := Bx.fr0 (Bx.new W 83 (bookC g A l.length c (some mb))) hf1); (have y10 := HBX1.at_ 0 (v := .int .i64 g) rfl); (have y11 := HBX1.at_ 1 (v := .slice A l.length c) rfl); (have y12 := HBX1.at_ 2 (v := .map (some mb)) rfl)))
    go_ret
    exact ⟨by simp, hf01⟩
def okSure (g : Int) (l : List S63) (lost : Int) : Bool := isIn lost 0 6
set_option maxHeartbeats 2000000 in
theorem right88 (g : Int) (A : Option Addr) (c : Nat) (l : List S63) (mb : Nat) (blost : Nat) (lost : Int) (W : World) (hb : bookOk g l = true) (hS : St g A c l mb W) (hplost : W.cell? ⟨blost, 0, none⟩ = some (.int .i64 lost)) :
    Calls Tryd.prog 88 (#[bookV g A l.length c (some mb)] ++ #[.pointer (some ⟨blost, 0, none⟩)]) W fun e w' => e = .returned (.bool (okSure g l lost)) ∧ Fr0 W w' := by
  have hn := C_len hS.r
  have hgg := gong_of hb
  unfold okSure
  have HC0 := Lib.hid (fun W' (hF : Fr0 W W') => lies_any lost 0 6 W')
  have HP := Lib.hid hplost
  have llhplost := World.block_lt_of_cell? W _ hplost
  dsimp only at llhplost
  clear hS 
  go_enter Tryd.func88, Tryd.ntmps88
  go_wp2_with (first
    | (go_at_call 61; (with_reducible refine (HC0.out _ ?hw).mono ?_); (case hw => exact (Fr.refl _ _).alloc _); rintro e W1 ⟨rfl, hf1⟩; (have hf01 : Fr0 W W1 := Fr0.trans ((Fr.refl _ _).alloc _) hf1); (have hp1hplost := hf01.cell0 HP.out); (have HBX1 := Bx.fr0 (Bx.new W 83 (bookC g A l.length c (some mb))) hf1); (have y10 := HBX1.at_ 0 (v := .int .i64 g) rfl); (have y11 := HBX1.at_ 1 (v := .slice A l.length c) rfl); (have y12 := HBX1.at_ 2 (v := .map (some mb)) rfl)))
  go_ret
  exact ⟨by simp, hf01⟩
end Go.Proofs.YtephecfapclgfaaDoor.R
namespace Go.Proofs.YtephecfapclgfaaDoor.PRaspKeys
open Go.RowKit Go.Proofs.YtephecfapclgfaaDoorW.PrintWords Go.Proofs.YtephecfapclgfaaDoorW.PrintLast Go.Proofs.YtephecfapclgfaaDoor.R
abbrev Glob := Go.Proofs.YtephecfapclgfaaDoor.R.Glob
theorem Glob.fr {w w' : World} (h : Glob w) (hf : Go.Proofs.YtephecfapclgfaaDoor.X.Fr0 w w') : Glob w' := Go.Proofs.YtephecfapclgfaaDoor.R.Glob.fr h hf
theorem cut_max {P : Program} (t e : TypeId) {i : TypeInfo} (ht : P.underlying t = some (.slice e)) (hi : P.info? e = some i) (A : Option Addr) (n c : Nat) (hc : n ≤ c) :
    ∀ W : World, (Instr.slice t (.slice A n c) none (some (.int .i64 n)) (some (.int .i64 n))).run P W = .ok (.slice A n n) W := by
  intro W
  have hel : P.elem t = e := by simp [Program.elem, ht]
  have hu : P.underlying t = some (.slice (P.elem t)) := by rw [hel]; exact ht
  have ha : (A.map fun x => x.add 0) = A := by cases A <;> simp [Addr.add]
  rw [run_slice_hm W t A n c hu .i64 .i64 n n (by omega) (by omega) (by omega), hel]
  simp [sizeOf, typeInfo, hi, sliced, Result.andThen, ha]
theorem V_cap {α : Type} {d : Kd α} {e base : Nat} {ok : Nat → Prop} {W : World} {A : Option Addr} {n c : Nat} {xs : List α} (h : d.V e W base ok (.slice A n c) xs) : n ≤ c := by
  obtain ⟨A', c', hv, hc, hF⟩ := h
  cases hv
  exact hc
theorem V_cut' {α : Type} {d : Kd α} {e base : Nat} {ok : Nat → Prop} {W : World} {A : Option Addr} {n c : Nat} {xs : List α} (h : d.V e W base ok (.slice A n c) xs) : d.V e W base ok (.slice A n n) xs := by
  obtain ⟨A', c', hv, hc, hF⟩ := h
  cases hv
  exact ⟨A, _, rfl, Nat.le_refl _, hF⟩
theorem Fr.of_below {S : Nat → Prop} {a b : World} (h : Below a.heap.size a b) : Go.Proofs.YtephecfapclgfaaDoor.X.Fr S a b := Go.Proofs.YtephecfapclgfaaDoor.X.Fr.of_below h
end Go.Proofs.YtephecfapclgfaaDoor.PRaspKeys
namespace Go.Proofs.YtephecfapclgfaaDoor.R
open Go.RowKit Go.Shelf Go.Proofs.YtephecfapclgfaaDoorW.PrintWords Go.Proofs.YtephecfapclgfaaDoorW.PrintLast Go.Proofs.YtephecfapclgfaaDoor.PRaspKeys Go.Proofs.YtephecfapclgfaaDoor.X
attribute [local go_sem] Oper.semAt_some

/-- What a book's rows hold. -/
structure Book (w : World) (A : Option Addr) (c : Nat) (l : List S63) : Prop where
  r : Kd.C k63 w A l.length l
  c : l.length ≤ c
  glob : Glob w
theorem Book.fr {w w' : World} {A : Option Addr} {c : Nat} {l : List S63} (h : Book w A c l) (hf : Fr0 w w') : Book w' A c l := ⟨C_fr h.r hf, h.c, h.glob.fr hf⟩
theorem fr_below {w w' : World} (h : Fr0 w w') : Below w.heap.size w w' := h.below (Nat.le_refl _) (fun _ _ h => h)
/-- What 'opened' tells. -/
def Opens (g : Int) (A : Option Addr) (c : Nat) (l : List S63) (E : Int) (w : World) (e : Ending) (w' : World) : Prop :=
  ∃ g' A' n' c' o', e = .returned (.tuple #[bookV g' A' n' c' o', .int .i64 E]) ∧ Fr0 w w' ∧ (E = 0 → ∃ mb, g' = g ∧ A' = A ∧ n' = l.length ∧ c' = c ∧ o' = some mb ∧ St g A c l mb w')
theorem openE_ok {g : Int} {l : List S63} {ok : Bool} (h : openE g l ok = 0) : bookOk g l = true ∧ ok = true := by
  unfold openE at h
  by_cases hb : bookOk g l = true
  · rw [if_pos hb] at h
    cases ok
    · simp at h
    · exact ⟨hb, rfl⟩
  · rw [if_neg hb] at h
    simp at h
theorem info_3 : ∃ i, Tryd.prog.info? 3 = some i := by
  cases h : Tryd.prog.info? 3 with
  | none => have := info3; rw [h] at this; cases this
  | some i => exact ⟨i, rfl⟩
theorem cut26 (A : Option Addr) (n c : Nat) (hc : n ≤ c) : ∀ W : World, (Instr.slice 26 (.slice A n c) none (some (.int .i64 n)) (some (.int .i64 n))).run Tryd.prog W = .ok (.slice A n n) W := by
  obtain ⟨i, hi⟩ := info_3
  exact cut_max 26 3 Tryd.underlying26 hi A n c hc
/-! ### Struck -/
theorem open_struck (g : Int) (A : Option Addr) (c : Nat) (l : List S63) (form beat : Int) (b1 b2 : Nat) (W : World) (hB : Book W A c l) (h1 : W.cell? ⟨b1, 0, none⟩ = some (.int .i64 form)) (h2 : W.cell? ⟨b2, 0, none⟩ = some (.int .i64 beat)) :
    Calls Tryd.prog 52 #[.agg #[.int .i64 g, .slice A l.length c], .func (.func 53) #[] #[.pointer (some ⟨b1, 0, none⟩), .pointer (some ⟨b2, 0, none⟩)]] W (Opens g A c l (openE g l (okStruck g l form beat)) W) :=
  opened_any 53 _ (fun _ _ => by kernel_rfl) g A c l _ W hB.r hB.c hB.glob (fun hb mb W' hf hS => right53 g A c l mb b1 form b2 beat W' hb hS (hf.cell0 h1) (hf.cell0 h2))
def struckF (g : Int) (l : List S63) (form beat : Int) : List Int × Int :=
  if openE g l (okStruck g l form beat) = 0 then (lst (hits l form (beat % (rd_T63 l form).f0)) 5, 0) else ([], openE g l (okStruck g l form beat))
set_option maxHeartbeats 2000000 in
set_option maxRecDepth 100000 in
theorem struck_any (g : Int) (A : Option Addr) (c : Nat) (l : List S63) (form beat : Int) (w : World) (hB : Book w A c l) :
    Calls Tryd.prog 14 #[.agg #[.int .i64 g, .slice A l.length c], .int .i64 form, .int .i64 beat] w fun e w' =>
      ∃ v0_ : Value, e = .returned (.tuple #[v0_, .int .i64 (struckF g l form beat).2]) ∧ Kd.V (Kd.int .i64) 3 w' w.heap.size (fun k_ => (w.heap.size ≤ k_)) v0_ (struckF g l form beat).1 ∧ Below w.heap.size w w' := by
  have HOP := Lib.hid (fun (b1 b2 : Nat) W (hf : Fr0 w W) h1 h2 => open_struck g A c l form beat b1 b2 W (hB.fr hf) h1 h2)
  have hfw : Fr0 w (((w.alloc (.cells #[.int .i64 g, .slice A l.length c] 24)).alloc (.cells #[.int .i64 form] 3)).alloc (.cells #[.int .i64 beat] 3)) := (((Fr.refl _ _).alloc _).alloc _).alloc _
  have c1 : Bx (((w.alloc (.cells #[.int .i64 g, .slice A l.length c] 24)).alloc (.cells #[.int .i64 form] 3)).alloc (.cells #[.int .i64 beat] 3)) (w.heap.size + 1) 3 #[.int .i64 form] := (Bx.of_new (by simp)).alloc _
  have c2 : Bx (((w.alloc (.cells #[.int .i64 g, .slice A l.length c] 24)).alloc (.cells #[.int .i64 form] 3)).alloc (.cells #[.int .i64 beat] 3)) (w.heap.size + 1 + 1) 3 #[.int .i64 beat] := Bx.of_new (by simp)
  have HFW := Lib.hid hfw
  have HC1 := Lib.hid c1
  have HC2 := Lib.hid c2
  clear hfw c1 c2
  by_cases hz : openE g l (okStruck g l form beat) = 0
  · have hN : struckF g l form beat = (lst (hits l form (beat % (rd_T63 l form).f0)) 5, 0) := by unfold struckF; rw [if_pos hz]
    obtain ⟨hbk, hok⟩ := openE_ok hz
    unfold okStruck at hok
    rw [Bool.and_eq_true, isIn_iff, isIn_iff] at hok
    have HAT := Lib.hid (fun mb W hS => at_any g A c l mb (beats_of hbk) form beat W hS (by omega) (by omega) (by omega) (by omega))
    have HLI := Lib.hid (fun W => list_any (hits l form (beat % (rd_T63 l form).f0)) W)
    rw [hN]
    rw [hz] at HOP
    clear hz hN hok hbk
    generalize hits l form (beat % (rd_T63 l form).f0) = H at *
    go_enter Tryd.func14, Tryd.ntmps14
    go_wp2_with (first
      | (go_at_call 52; (with_reducible refine (HOP.out _ _ _ ?hw ?h1 ?h2).mono ?_); (case hw => exact HFW.out); (case h1 => exact HC1.out.at_ 0 rfl); (case h2 => exact HC2.out.at_ 0 rfl); rintro e W5 ⟨g', A', n', c', o', rfl, hf5, hop⟩; obtain ⟨mb, rfl, rfl, rfl, rfl, rfl, hS5⟩ := hop rfl; (have HS5 := Lib.hid hS5); (have p1 := (HC1.out.fr0 hf5).at_ 0 (v := .int .i64 form) rfl); (have p2 := (HC2.out.fr0 hf5).at_ 0 (v := .int .i64 beat) rfl); (have l1 := (HC1.out.fr0 hf5).lt); (have l2 := (HC2.out.fr0 hf5).lt); clear hop hS5)
      | (go_at_call 56; (with_reducible refine (HAT.out _ _ ?hw).mono ?_); (case hw => exact HS5.out.fr ((Fr.refl _ _).alloc _)); rintro e W6 ⟨rfl, hf6⟩)
      | (go_at_call 57; (with_reducible refine (HLI.out _).mono ?_); rintro e W7 ⟨v, rfl, hR, hf7⟩; obtain ⟨A2, c2, rfl, hcl, -⟩ := Kd.R_reads hR; (have hcut := cut26 A2 _ c2 hcl); (have HR := Lib.hid hR); clear hR hcl))
    refine bodyPost_ret (v := .tuple #[.slice A2 (lst H 5).length (lst H 5).length, .int .i64 0]) (by simp [results, Tryd.results14, go_sem]) rfl ⟨_, rfl, ?_, ?_⟩
    · have hf06 : Fr0 w W6 := Fr0.trans (Fr.alloc (Fr0.trans HFW.out hf5) _) hf6
      exact Kd.V_mono (V_cut' (Kd.R_V (base' := w.heap.size) HR.out)) (fun k hk => Nat.le_trans hf06.size hk)
    · exact fr_below (Fr0.trans (Fr0.trans (Fr.alloc (Fr0.trans HFW.out hf5) _) hf6) hf7)
  · have hN : struckF g l form beat = ([], openE g l (okStruck g l form beat)) := by unfold struckF; rw [if_neg hz]
    rw [hN]
    clear hN
    generalize openE g l (okStruck g l form beat) = E at *
    go_enter Tryd.func14, Tryd.ntmps14
    go_wp2_with (first
      | (go_at_call 52; (with_reducible refine (HOP.out _ _ _ ?hw ?h1 ?h2).mono ?_); (case hw => exact HFW.out); (case h1 => exact HC1.out.at_ 0 rfl); (case h2 => exact HC2.out.at_ 0 rfl); rintro e W5 ⟨g', A', n', c', o', rfl, hf5, hop⟩))
    refine bodyPost_ret (v := .tuple #[.slice none 0 0, .int .i64 E]) (by simp [results, Tryd.results14, go_sem]) rfl ⟨_, rfl, Kd.V_nil _ _ _ _ _, ?_⟩
    exact fr_below (Fr.alloc (Fr0.trans HFW.out hf5) _)
end Go.Proofs.YtephecfapclgfaaDoor.R
