import Derived.Test.YtephecfapclgfaaDoorG5
import Derived.Deep.Cut
set_option linter.unusedVariables false
set_option linter.unusedSimpArgs false
namespace Go.Proofs.YtephecfapclgfaaDoor.R
open Go.RowKit Go.Shelf Go.Proofs.YtephecfapclgfaaDoorW.PrintWords Go.Proofs.YtephecfapclgfaaDoorW.PrintLast Go.Proofs.YtephecfapclgfaaDoorW.PrintMore Go.Proofs.YtephecfapclgfaaDoor.PRaspKeys Go.Proofs.YtephecfapclgfaaDoor.X
attribute [local go_sem] Oper.semAt_some

/-! ### Confused -/
theorem open_confused (g : Int) (A : Option Addr) (c : Nat) (l : List S63) (lost many : Int) (b1 b2 : Nat) (W : World) (hB : Book W A c l) (h1 : W.cell? ⟨b1, 0, none⟩ = some (.int .i64 lost)) (h2 : W.cell? ⟨b2, 0, none⟩ = some (.int .i64 many)) :
    Calls Tryd.prog 52 #[.agg #[.int .i64 g, .slice A l.length c], .func (.func 83) #[] #[.pointer (some ⟨b1, 0, none⟩), .pointer (some ⟨b2, 0, none⟩)]] W (Opens g A c l (openE g l (okConfused g l lost many)) W) :=
  opened_any 83 _ (fun _ _ => by kernel_rfl) g A c l _ W hB.r hB.c hB.glob (fun hb mb W' hf hS => right83 g A c l mb b1 lost b2 many W' hb hS (hf.cell0 h1) (hf.cell0 h2))
def confP (l : List S63) (lost many : Int) (st : S38 × S38) : Bool := decide (untilF l st.1.f0 st.1.f1 st.2.f0 st.2.f1 lost ≥ many)
def confF (g : Int) (l : List S63) (lost many : Int) : (S38 × S38) × Int :=
  if openE g l (okConfused g l lost many) = 0 then (match (pairsL (spotsN l l.length)).find? (confP l lost many) with | some st => (st, 0) | none => ((⟨0, 0⟩, ⟨0, 0⟩), 4)) else ((⟨0, 0⟩, ⟨0, 0⟩), openE g l (okConfused g l lost many))
theorem res35 {w : World} {g6 g7 g8 : Nat} {a b c d e : Value} {tmps : Array Value} (h6 : tmps[6]?.getD undef = .pointer (some ⟨g6, 0, none⟩)) (h7 : tmps[7]?.getD undef = .pointer (some ⟨g7, 0, none⟩)) (h8 : tmps[8]?.getD undef = .pointer (some ⟨g8, 0, none⟩)) (h : Bx w g6 38 #[a, b]) (h' : Bx w g7 38 #[c, d]) (h'' : Bx w g8 27 #[e]) :
    (results Tryd.f35 tmps).run Tryd.prog w = .ok (.tuple #[.agg #[a, b], .agg #[c, d], e]) w := by
  have e0 := h.at_ 0 rfl
  have e1 := h.at_ 1 rfl
  have e2 := h'.at_ 0 rfl
  have e3 := h'.at_ 1 rfl
  have e4 := h''.at_ 0 rfl
  simp only [results, Tryd.results35]
  simp [h6, h7, h8, go_sem, e0, e1, e2, e3, e4]
theorem ef84 (args : Array Value) (w : World) : (callFunc 84 args).run Tryd.prog w = .ok (.enter 84 args) w := by kernel_rfl
theorem pairs_in {ss : List S38} {st : S38 × S38} (h : st ∈ pairsL ss) : st.1 ∈ ss ∧ st.2 ∈ ss := by
  unfold pairsL pairsS at h
  simp only [List.mem_flatMap, List.mem_map, List.mem_filter] at h
  obtain ⟨s, hs, t, ⟨ht, _⟩, rfl⟩ := h
  exact ⟨hs, ht⟩
theorem find_at {α : Type} {p : α → Bool} {pre rest : List α} {x : α} (hall : ∀ y ∈ pre, p y = false) (hx : p x = true) : (pre ++ x :: rest).find? p = some x := by
  rw [List.find?_append, List.find?_eq_none.2 (fun y hy => by rw [hall y hy]; simp), List.find?_cons_of_pos hx]; rfl
theorem two_set {W : World} {g t : Nat} {a0 a1 : Value} (h : Bx W g t #[a0, a1]) (b0 b1 : Value) : Bx ((W.setCell ⟨g, 0, none⟩ b0).setCell ⟨g, 1, none⟩ b1) g t #[b0, b1] := by
  have h := (h.set_ 0 b0).set_ 1 b1
  simpa using h
set_option maxHeartbeats 4000000 in
set_option maxRecDepth 100000 in
theorem confused_any (g : Int) (A : Option Addr) (c : Nat) (l : List S63) (lost many : Int) (w : World) (hB : Book w A c l) :
    Calls Tryd.prog 35 #[.agg #[.int .i64 g, .slice A l.length c], .int .i64 lost, .int .i64 many] w fun e w' =>
      e = .returned (.tuple #[.agg #[.int .i64 (confF g l lost many).1.1.f0, .int .i64 (confF g l lost many).1.1.f1], .agg #[.int .i64 (confF g l lost many).1.2.f0, .int .i64 (confF g l lost many).1.2.f1], .int .i64 (confF g l lost many).2]) ∧ Below w.heap.size w w' := by
  have HOP := Lib.hid (fun (b1 b2 : Nat) W (hf : Fr0 w W) h1 h2 => open_confused g A c l lost many b1 b2 W (hB.fr hf) h1 h2)
  obtain ⟨W0, hW0⟩ : ∃ W0, (((((w.alloc (.cells #[.int .i64 g, .slice A l.length c] 24)).alloc (.cells #[.int .i64 lost] 3)).alloc (.cells #[.int .i64 many] 3)).alloc (.cells #[.int .i64 0, .int .i64 0] 38)).alloc (.cells #[.int .i64 0, .int .i64 0] 38)).alloc (.cells #[.int .i64 0] 27) = W0 := ⟨_, rfl⟩
  have hfw : Fr0 w W0 := by rw [← hW0]; exact ((((((Fr.refl _ _).alloc _).alloc _).alloc _).alloc _).alloc _).alloc _
  have c1 : Bx W0 (w.heap.size + 1) 3 #[.int .i64 lost] := by rw [← hW0]; exact ((((Bx.of_new (by simp)).alloc _).alloc _).alloc _).alloc _
  have c2 : Bx W0 (w.heap.size + 1 + 1) 3 #[.int .i64 many] := by rw [← hW0]; exact (((Bx.of_new (by simp)).alloc _).alloc _).alloc _
  have c3 : Bx W0 (w.heap.size + 1 + 1 + 1) 38 #[.int .i64 0, .int .i64 0] := by rw [← hW0]; exact ((Bx.of_new (by simp)).alloc _).alloc _
  have c4 : Bx W0 (w.heap.size + 1 + 1 + 1 + 1) 38 #[.int .i64 0, .int .i64 0] := by rw [← hW0]; exact (Bx.of_new (by simp)).alloc _
  have c5 : Bx W0 (w.heap.size + 1 + 1 + 1 + 1 + 1) 27 #[.int .i64 0] := by rw [← hW0]; exact Bx.of_new (by simp)
  have HFW := Lib.hid hfw
  have HC1 := Lib.hid c1
  have HC2 := Lib.hid c2
  have HC3 := Lib.hid c3
  have HC4 := Lib.hid c4
  have HC5 := Lib.hid c5
  clear hfw c1 c2 c3 c4 c5
  rw [← hW0] at HFW HC1 HC2 HC3 HC4 HC5
  clear hW0
  have HBk := Lib.hid hB
  clear hB
  have HCF := Lib.hid (show confF g l lost many = if openE g l (okConfused g l lost many) = 0 then (match (pairsL (spotsN l l.length)).find? (confP l lost many) with | some st => (st, 0) | none => ((⟨0, 0⟩, ⟨0, 0⟩), 4)) else ((⟨0, 0⟩, ⟨0, 0⟩), openE g l (okConfused g l lost many)) from rfl)
  have HOK := Lib.hid (fun (h : openE g l (okConfused g l lost many) = 0) => openE_ok h)
  generalize confF g l lost many = CF at *
  generalize openE g l (okConfused g l lost many) = E at *
  refine calls_of_marks Tryd.func35 rfl ?_
  simp only [Tryd.ntmps35, List.size_toArray, List.length_cons, List.length_nil, Nat.reduceAdd, Nat.reduceSub, Array.replicate_succ, Array.replicate_zero, List.push_toArray, List.append_toArray, List.nil_append, List.cons_append]
  go_upto_region 2 with (first
      | (go_at_call 52; (with_reducible refine (HOP.out _ _ _ ?hw ?h1 ?h2).mono ?_); (case hw => exact HFW.out); (case h1 => exact HC1.out.at_ 0 rfl); (case h2 => exact HC2.out.at_ 0 rfl); rintro e W5 ⟨g', A', n', c', o', rfl, hf5, hop⟩; (have l5 := (HC5.out.fr0 hf5).lt); (have z5 := (HC5.out.fr0 hf5).frz 0); (have q5 := (HC5.out.fr0 hf5).at_ 0 (v := .int .i64 0) rfl); (have l5' := Nat.lt_succ_of_lt l5); (have HOPS := Lib.hid hop); clear hop))
  have hz5 : w.heap.size + 6 ≤ W5.heap.size := by have := l5; omega
  have hsz5 : (W5.setCell ⟨w.heap.size + 1 + 1 + 1 + 1 + 1, 0, none⟩ (.int .i64 E)).heap.size = W5.heap.size := by simp [World.setCell]
  have hf6 : Fr0 w ((W5.setCell ⟨w.heap.size + 1 + 1 + 1 + 1 + 1, 0, none⟩ (.int .i64 E)).alloc (.cells #[.int .i64 g', .slice A' n' c', .map o'] 83)) := ((Fr0.trans HFW.out hf5).setCell (.inr (by simp; omega)) _).alloc _
  have D1 : Bx ((W5.setCell ⟨w.heap.size + 1 + 1 + 1 + 1 + 1, 0, none⟩ (.int .i64 E)).alloc (.cells #[.int .i64 g', .slice A' n' c', .map o'] 83)) (w.heap.size + 1) 3 #[.int .i64 lost] := ((HC1.out.fr0 hf5).far (by simp) _).alloc _
  have D2 : Bx ((W5.setCell ⟨w.heap.size + 1 + 1 + 1 + 1 + 1, 0, none⟩ (.int .i64 E)).alloc (.cells #[.int .i64 g', .slice A' n' c', .map o'] 83)) (w.heap.size + 1 + 1) 3 #[.int .i64 many] := ((HC2.out.fr0 hf5).far (by simp) _).alloc _
  have D3 : Bx ((W5.setCell ⟨w.heap.size + 1 + 1 + 1 + 1 + 1, 0, none⟩ (.int .i64 E)).alloc (.cells #[.int .i64 g', .slice A' n' c', .map o'] 83)) (w.heap.size + 1 + 1 + 1) 38 #[.int .i64 0, .int .i64 0] := ((HC3.out.fr0 hf5).far (by simp) _).alloc _
  have D4 : Bx ((W5.setCell ⟨w.heap.size + 1 + 1 + 1 + 1 + 1, 0, none⟩ (.int .i64 E)).alloc (.cells #[.int .i64 g', .slice A' n' c', .map o'] 83)) (w.heap.size + 1 + 1 + 1 + 1) 38 #[.int .i64 0, .int .i64 0] := ((HC4.out.fr0 hf5).far (by simp) _).alloc _
  have D5 : Bx ((W5.setCell ⟨w.heap.size + 1 + 1 + 1 + 1 + 1, 0, none⟩ (.int .i64 E)).alloc (.cells #[.int .i64 g', .slice A' n' c', .map o'] 83)) (w.heap.size + 1 + 1 + 1 + 1 + 1) 27 #[.int .i64 E] := Bx.alloc (by simpa using (HC5.out.fr0 hf5).set_ 0 (.int .i64 E)) _
  have D9 : Bx ((W5.setCell ⟨w.heap.size + 1 + 1 + 1 + 1 + 1, 0, none⟩ (.int .i64 E)).alloc (.cells #[.int .i64 g', .slice A' n' c', .map o'] 83)) W5.heap.size 83 #[.int .i64 g', .slice A' n' c', .map o'] := Bx.of_new (by simp [World.setCell])
  have HOP6 := Lib.hid (show E = 0 → ∃ mb, g' = g ∧ A' = A ∧ n' = l.length ∧ c' = c ∧ o' = some mb ∧ St g A c l mb ((W5.setCell ⟨w.heap.size + 1 + 1 + 1 + 1 + 1, 0, none⟩ (.int .i64 E)).alloc (.cells #[.int .i64 g', .slice A' n' c', .map o'] 83)) from fun hE => by
    obtain ⟨mb, e1, e2, e3, e4, e5, hS⟩ := HOPS.out hE
    refine ⟨mb, e1, e2, e3, e4, e5, C_fr HBk.out.r hf6, HBk.out.c, ?_, HBk.out.glob.fr hf6⟩
    obtain ⟨f, hm, hv⟩ := hS.m
    have hne : mb ≠ w.heap.size + 1 + 1 + 1 + 1 + 1 := by
      rintro rfl
      obtain ⟨es, cc, h1⟩ := hm.obj
      have h2 : W5.heap[w.heap.size + 1 + 1 + 1 + 1 + 1]? = _ := HC5.out.fr0 hf5
      rw [h1] at h2
      cases h2
    refine ⟨f, hm.same ?_, hv⟩
    have hfm : Fr (fun k => k = w.heap.size + 1 + 1 + 1 + 1 + 1) W5 ((W5.setCell ⟨w.heap.size + 1 + 1 + 1 + 1 + 1, 0, none⟩ (.int .i64 E)).alloc (.cells #[.int .i64 g', .slice A' n' c', .map o'] 83)) := Fr.alloc (Fr.setCell (S := fun k => k = w.heap.size + 1 + 1 + 1 + 1 + 1) (Fr.refl _ _) (.inl rfl) _) _
    exact hfm.block mb hm.lt (fun e => hne e))
  obtain ⟨W6, hW6⟩ : ∃ W6, ((W5.setCell ⟨w.heap.size + 1 + 1 + 1 + 1 + 1, 0, none⟩ (.int .i64 E)).alloc (.cells #[.int .i64 g', .slice A' n' c', .map o'] 83)) = W6 := ⟨_, rfl⟩
  rw [hW6] at hf6 D1 D2 D3 D4 D5 D9 HOP6 ⊢
  clear hW6
  have HF6 := Lib.hid hf6
  have HD1 := Lib.hid D1
  have HD2 := Lib.hid D2
  have HD3 := Lib.hid D3
  have HD4 := Lib.hid D4
  have HD5 := Lib.hid D5
  have HD9 := Lib.hid D9
  have q3 := D3.at_ 0 (v := .int .i64 0) rfl
  have q3' := D3.at_ 1 (v := .int .i64 0) rfl
  have q4 := D4.at_ 0 (v := .int .i64 0) rfl
  have q4' := D4.at_ 1 (v := .int .i64 0) rfl
  have q5 := D5.at_ 0 (v := .int .i64 E) rfl
  have h65 : W5.heap.size < W6.heap.size := D9.lt
  clear hf6 D1 D2 D3 D4 D5 D9 HOPS hf5 z5 l5' hsz5 HC1 HC2 HC3 HC4 HC5 HFW HOP
  by_cases hE : E = 0
  · obtain ⟨mb, rfl, rfl, rfl, rfl, rfl, hS6⟩ := HOP6.out hE
    have hcf := HCF.out
    rw [if_pos hE] at hcf
    have HCF1 := Lib.hid hcf
    obtain ⟨hbk, hok⟩ := HOK.out hE
    clear hcf HCF HOK HOP6
    subst hE
    have u0 := HD9.out.at_ 0 (v := .int .i64 g') rfl
    have u1 := HD9.out.at_ 1 (v := .slice A' l.length c') rfl
    have u2 := HD9.out.at_ 2 (v := .map (some mb)) rfl
    have HS6 := Lib.hid hS6
    clear hS6
    go_wp2
    have B10 := Bx.new W6 110 #[.func (.func 84) #[bookV g' A' l.length c' (some mb)] #[]]
    have hf67 : Fr0 W6 (W6.alloc (.cells #[.func (.func 84) #[bookV g' A' l.length c' (some mb)] #[]] 110)) := (Fr.refl _ _).alloc _
    have u0 := hf67.cell0 u0
    have u1 := hf67.cell0 u1
    have u2 := hf67.cell0 u2
    have HF67 := Lib.hid hf67
    have HB10 := Lib.hid B10
    obtain ⟨W7, hW7⟩ : ∃ W7, W6.alloc (.cells #[.func (.func 84) #[bookV g' A' l.length c' (some mb)] #[]] 110) = W7 := ⟨_, rfl⟩
    rw [hW7] at u0 u1 u2 HF67 HB10 ⊢
    clear hW7 hf67 B10
    refine start_ (n := 3) (S := fun w' => w'.cell? ⟨W5.heap.size, 0, none⟩ = some (.int .i64 g') ∧ w'.cell? ⟨W5.heap.size, 1, none⟩ = some (.slice A' l.length c') ∧ w'.cell? ⟨W5.heap.size, 2, none⟩ = some (.map (some mb))) (ds := []) #[false, false, false] (by kernel_rfl) rfl rfl ⟨u0, u1, u2⟩ (fun hHeld => ?_)
    refine take_ (i := 0) (N := some 25) (v := ?_) (a' := ?_) #[true, false, false] rfl rfl (by kernel_rfl) (fun _ _ _ h => h) (Or.inl ⟨by rfl, ?_⟩) hHeld ?_ ?_
    rotate_left
    · rintro w' ⟨s0, s1, s2⟩
      go_simp
      with_reducible rfl
    rotate_left
    · simp only [Act.put, List.setIfInBounds_toArray, List.set_cons_zero, List.set_cons_succ, i64_w, i32_w]
      rfl
    refine one_ (i := 1) (N := some 26) #[true, true, false] rfl rfl (by kernel_rfl) (by decide) (fun K hK => ?_)
    refine goes_ Tryd.func86 (by kernel_rfl) rfl #[] (by rfl) rfl rfl (by first | rfl | simp) ?_
    with_reducible refine (beforeV_any _).mono ?_
    rintro e w3 ⟨rfl, hf3⟩
    refine ⟨_, rfl, ?_⟩
    have HW3 := Lib.hid (Fr0.trans (Fr.drew (Fr.refl _ W7)) hf3)
    refine hK.out _ _ ⟨(HW3.out.cell0 u0), (HW3.out.cell0 u1), (HW3.out.cell0 u2)⟩ (fun hHeld => ?_)
    clear hK K
    refine norm_ (a' := ?_) ?_ ?_
    rotate_left
    · show Act.put _ (some 26) _ = _
      simp only [Act.put, List.setIfInBounds_toArray, List.set_cons_zero, List.set_cons_succ, i64_w, i32_w]
      rfl
    refine one_ (i := 2) (N := some 27) #[true, true, true] rfl rfl (by kernel_rfl) (by decide) (fun K hK => ?_)
    refine goes_ Tryd.func85 (by kernel_rfl) rfl #[bookV g' A' l.length c' (some mb), .agg #[.func (.func 97) #[] #[]]] (by rfl) rfl rfl (by simp only [List.map_toArray, List.map_cons, List.map_nil]; rfl) ?_
    with_reducible refine (pairsV_any _ _ _ _ _ _).mono ?_
    rintro e w4 ⟨rfl, hw4⟩
    refine ⟨_, rfl, ?_⟩
    have HPB := Lib.hid (show Bx w4 w3.heap.size 83 (bookC g' A' l.length c' (some mb)) from by rw [hw4]; exact (Bx.new _ _ _).alloc _)
    have HPO := Lib.hid (show Bx w4 (w3.heap.size + 1) 115 #[.func (.func 97) #[] #[]] from by rw [hw4]; exact Bx.of_new (by simp))
    have HW4 := Lib.hid (show Fr0 W7 w4 from by rw [hw4]; exact (HW3.out.alloc _).alloc _)
    have hs4 : w4.heap.size = w3.heap.size + 2 := by rw [hw4]; simp
    clear hw4
    refine hK.out _ _ ⟨(HW4.out.cell0 u0), (HW4.out.cell0 u1), (HW4.out.cell0 u2)⟩ (fun hHeld => ?_)
    clear hK K
    refine norm_ (a' := ?_) ?_ ?_
    rotate_left
    · show Act.put _ (some 27) _ = _
      simp only [Act.put, List.setIfInBounds_toArray, List.set_cons_zero, List.set_cons_succ, i64_w, i32_w]
      rfl
    refine done_ (by kernel_rfl) ?_
    go_wp2
    have HW47 := Lib.hid (Fr0.trans HF67.out HW4.out)
    have hwz : w.heap.size + 6 ≤ W6.heap.size := by omega
    have hw67 : W6.heap.size ≤ W7.heap.size := HF67.out.size
    have hlt10 : W6.heap.size < W7.heap.size := HB10.out.lt
    have hw73 : W7.heap.size ≤ w3.heap.size := HW3.out.size
    have hl := beats_of hbk
    unfold okConfused at hok
    rw [Bool.and_eq_true, isIn_iff, isIn_iff] at hok
    have HHL := Lib.hid hl
    have HSOK := Lib.hid (spots_ok hbk)
    have hit := pairs_iter w g' A' c' l (some mb) hl w3.heap.size (w3.heap.size + 1)
    have HFW4 := Lib.hid (Fr0.trans HF6.out HW47.out)
    clear u0 u1 u2 q3 q3' q4 q4' q5
    refine wpIn_wide.1 (range_top (g := .tmp 27) (by rfl) (fun args w => by kernel_rfl) hit (fun _ => rfl) (fun k => k = w.heap.size + 3 ∨ k = w.heap.size + 4 ∨ k = w.heap.size + 5) ?hS ?hN
      (fun pre W' => (∀ st ∈ pre, confP l lost many st = false) ∧ Fr (fun k => k = w.heap.size + 3 ∨ k = w.heap.size + 4 ∨ k = w.heap.size + 5) w4 W' ∧ Bx W' (w.heap.size + 3) 38 #[.int .i64 0, .int .i64 0] ∧ Bx W' (w.heap.size + 4) 38 #[.int .i64 0, .int .i64 0] ∧ Bx W' (w.heap.size + 5) 27 #[.int .i64 0])
      (fun cd pre W' => cd = .ret ∧ ∃ st : S38 × S38, (pairsL (spotsN l l.length)).find? (confP l lost many) = some st ∧ Fr (fun k => k = w.heap.size + 3 ∨ k = w.heap.size + 4 ∨ k = w.heap.size + 5) w4 W' ∧ Bx W' (w.heap.size + 3) 38 #[.int .i64 st.1.f0, .int .i64 st.1.f1] ∧ Bx W' (w.heap.size + 4) 38 #[.int .i64 st.2.f0, .int .i64 st.2.f1] ∧ Bx W' (w.heap.size + 5) 27 #[.int .i64 0])
      ?hJ ?hJx ?h0 ?hround ?hdone ?hstop)
    case hS => rintro k (rfl | rfl | rfl) <;> omega
    case hN =>
      intro W9 S' h89 hS'
      refine ⟨fr_below (Fr0.trans HFW4.out h89), HBk.out.r, HBk.out.c, (HPB.out.fr0 h89).at_ 0 rfl, (HPB.out.fr0 h89).at_ 1 rfl, (HPB.out.fr0 h89).at_ 2 rfl, (HPO.out.fr0 h89).at_ 0 rfl, ?_⟩
      intro k hk
      rcases hS' k hk with (rfl | rfl | rfl) | h <;> omega
    case hJ => exact fun pre A B h hf => ⟨h.1, h.2.1.step hf (fun k hk e => by omega), h.2.2.1.fr hf (by omega), h.2.2.2.1.fr hf (by omega), h.2.2.2.2.fr hf (by omega)⟩
    case hJx =>
      rintro cd pre A B ⟨e, st, h1, h2, h3, h4, h5⟩ hf
      exact ⟨e, st, h1, h2.step hf (fun k hk e => by omega), h3.fr hf (by omega), h4.fr hf (by omega), h5.fr hf (by omega)⟩
    case h0 =>
      intro W9 h49
      have h69 := Fr0.trans HW47.out h49
      exact ⟨(fun st h => by cases h), Fr.of0 h49, HD3.out.fr0 h69, HD4.out.fr0 h69, HD5.out.fr0 h69⟩
    case hdone =>
      rintro W9 ⟨hall, hf49, h3, h4, h5⟩ hD
      have HN := Lib.hid (show CF = ((⟨0, 0⟩, ⟨0, 0⟩), 4) by rw [HCF1.out, List.find?_eq_none.2 (fun y hy => by rw [hall y hy]; simp)])
      have HF49 := Lib.hid hf49
      have HD9' := Lib.hid hD
      have K3 := Lib.hid h3
      have K4 := Lib.hid h4
      have K5 := Lib.hid h5
      have hs49 := hf49.size
      have q3 : W9.cell? ⟨w.heap.size + 1 + 1 + 1, 0, none⟩ = some (.int .i64 0) := K3.out.at_ 0 rfl
      have q3' : W9.cell? ⟨w.heap.size + 1 + 1 + 1, 1, none⟩ = some (.int .i64 0) := K3.out.at_ 1 rfl
      have q4 : W9.cell? ⟨w.heap.size + 1 + 1 + 1 + 1, 0, none⟩ = some (.int .i64 0) := K4.out.at_ 0 rfl
      have q4' : W9.cell? ⟨w.heap.size + 1 + 1 + 1 + 1, 1, none⟩ = some (.int .i64 0) := K4.out.at_ 1 rfl
      have q5 : W9.cell? ⟨w.heap.size + 1 + 1 + 1 + 1 + 1, 0, none⟩ = some (.int .i64 0) := K5.out.at_ 0 rfl
      have z3 : W9.frozen? ⟨w.heap.size + 1 + 1 + 1, 0, none⟩ = false := K3.out.frz 0
      have z3' : W9.frozen? ⟨w.heap.size + 1 + 1 + 1, 1, none⟩ = false := K3.out.frz 1
      have z4 : W9.frozen? ⟨w.heap.size + 1 + 1 + 1 + 1, 0, none⟩ = false := K4.out.frz 0
      have z4' : W9.frozen? ⟨w.heap.size + 1 + 1 + 1 + 1, 1, none⟩ = false := K4.out.frz 1
      have z5 : W9.frozen? ⟨w.heap.size + 1 + 1 + 1 + 1 + 1, 0, none⟩ = false := K5.out.frz 0
      have l3 : w.heap.size + 1 + 1 + 1 < W9.heap.size := K3.out.lt
      have l4 : w.heap.size + 1 + 1 + 1 + 1 < W9.heap.size := K4.out.lt
      have l5 : w.heap.size + 1 + 1 + 1 + 1 + 1 < W9.heap.size := K5.out.lt
      clear hall hf49 hD h3 h4 h5 hit hl
      go_upto_region 9 with fail
      refine start_ (n := 5) (S := fun w' => w'.cell? ⟨w.heap.size + 1 + 1 + 1, 0, none⟩ = some (.int .i64 0) ∧ w'.cell? ⟨w.heap.size + 1 + 1 + 1, 1, none⟩ = some (.int .i64 0) ∧ w'.cell? ⟨w.heap.size + 1 + 1 + 1 + 1, 0, none⟩ = some (.int .i64 0) ∧ w'.cell? ⟨w.heap.size + 1 + 1 + 1 + 1, 1, none⟩ = some (.int .i64 0)) (ds := [4]) #[false, false, false, false, false] (by kernel_rfl) rfl rfl ⟨q3, q3', q4, q4'⟩ (fun hHeld => ?_)
      refine take_ (i := 0) (N := some 39) (v := ?_) (a' := ?_) #[true, false, false, false, false] rfl rfl (by kernel_rfl) (fun _ _ _ h => h) (Or.inl ⟨by rfl, ?_⟩) hHeld ?_ ?_
      rotate_left
      · rintro w' ⟨s0, s1, s2, s3⟩
        go_simp
        with_reducible rfl
      rotate_left
      · simp only [Act.put, List.setIfInBounds_toArray, List.set_cons_zero, List.set_cons_succ, i64_w, i32_w]
        rfl
      refine take_ (i := 1) (N := some 40) (v := ?_) (a' := ?_) #[true, true, false, false, false] rfl rfl (by kernel_rfl) (fun _ _ _ h => h) (Or.inl ⟨by rfl, ?_⟩) hHeld ?_ ?_
      rotate_left
      · rintro w' ⟨s0, s1, s2, s3⟩
        go_simp
        with_reducible rfl
      rotate_left
      · simp only [Act.put, List.setIfInBounds_toArray, List.set_cons_zero, List.set_cons_succ, i64_w, i32_w]
        rfl
      refine one_ (i := 2) (N := none) #[true, true, true, false, false] rfl rfl (by kernel_rfl) (by decide) (fun K hK => ?_)
      refine skip_ (w1 := ?_) (by rfl) rfl ?_ ?_
      rotate_left
      · go_simp
        rfl
      have KA3 := Lib.hid (Bx.drew (two_set (show Bx W9 (w.heap.size + 1 + 1 + 1) 38 #[.int .i64 0, .int .i64 0] from K3.out) (.int .i64 0) (.int .i64 0)))
      have KA4 := Lib.hid (Bx.drew (Bx.far (Bx.far (show Bx W9 (w.heap.size + 1 + 1 + 1 + 1) 38 #[.int .i64 0, .int .i64 0] from K4.out) (p := ⟨w.heap.size + 1 + 1 + 1, 0, none⟩) (by dsimp only; omega) (.int .i64 0)) (p := ⟨w.heap.size + 1 + 1 + 1, 1, none⟩) (by dsimp only; omega) (.int .i64 0)))
      have KA5 := Lib.hid (Bx.drew (Bx.far (Bx.far (show Bx W9 (w.heap.size + 1 + 1 + 1 + 1 + 1) 27 #[.int .i64 0] from K5.out) (p := ⟨w.heap.size + 1 + 1 + 1, 0, none⟩) (by dsimp only; omega) (.int .i64 0)) (p := ⟨w.heap.size + 1 + 1 + 1, 1, none⟩) (by dsimp only; omega) (.int .i64 0)))
      refine hK.out _ _ ⟨(KA3.out.at_ 0 rfl), (KA3.out.at_ 1 rfl), (KA4.out.at_ 0 rfl), (KA4.out.at_ 1 rfl)⟩ (fun hHeld => ?_)
      clear hK K
      refine one_ (i := 3) (N := none) #[true, true, true, true, false] rfl rfl (by kernel_rfl) (by decide) (fun K hK => ?_)
      refine skip_ (w1 := ?_) (by rfl) rfl ?_ ?_
      rotate_left
      · go_simp
        rfl
      have KC3 := Lib.hid (Bx.drew (Bx.far (Bx.far (two_set (show Bx W9 (w.heap.size + 1 + 1 + 1) 38 #[.int .i64 0, .int .i64 0] from K3.out) (.int .i64 0) (.int .i64 0)) (p := ⟨w.heap.size + 1 + 1 + 1 + 1, 0, none⟩) (by dsimp only; omega) (.int .i64 0)) (p := ⟨w.heap.size + 1 + 1 + 1 + 1, 1, none⟩) (by dsimp only; omega) (.int .i64 0)))
      have KC4 := Lib.hid (Bx.drew (two_set (Bx.far (Bx.far (show Bx W9 (w.heap.size + 1 + 1 + 1 + 1) 38 #[.int .i64 0, .int .i64 0] from K4.out) (p := ⟨w.heap.size + 1 + 1 + 1, 0, none⟩) (by dsimp only; omega) (.int .i64 0)) (p := ⟨w.heap.size + 1 + 1 + 1, 1, none⟩) (by dsimp only; omega) (.int .i64 0)) (.int .i64 0) (.int .i64 0)))
      have KC5 := Lib.hid (Bx.drew (Bx.far (Bx.far (Bx.far (Bx.far (show Bx W9 (w.heap.size + 1 + 1 + 1 + 1 + 1) 27 #[.int .i64 0] from K5.out) (p := ⟨w.heap.size + 1 + 1 + 1, 0, none⟩) (by dsimp only; omega) (.int .i64 0)) (p := ⟨w.heap.size + 1 + 1 + 1, 1, none⟩) (by dsimp only; omega) (.int .i64 0)) (p := ⟨w.heap.size + 1 + 1 + 1 + 1, 0, none⟩) (by dsimp only; omega) (.int .i64 0)) (p := ⟨w.heap.size + 1 + 1 + 1 + 1, 1, none⟩) (by dsimp only; omega) (.int .i64 0)))
      refine hK.out _ _ ⟨(KC3.out.at_ 0 rfl), (KC3.out.at_ 1 rfl), (KC4.out.at_ 0 rfl), (KC4.out.at_ 1 rfl)⟩ (fun hHeld => ?_)
      clear hK K
      refine last_ (i := 4) (N := none) #[true, true, true, true, true] rfl rfl (by kernel_rfl) (by decide) (fun K hK => ?_)
      refine skip_ (w1 := ?_) (by rfl) rfl ?_ ?_
      rotate_left
      · go_simp
        rfl
      refine hK.out _ _ ?_
      clear hK K
      refine done_ (by kernel_rfl) ?_
      have N3 := Lib.hid (Bx.drew (Bx.far (Bx.far (Bx.far (two_set (show Bx W9 (w.heap.size + 1 + 1 + 1) 38 #[.int .i64 0, .int .i64 0] from K3.out) (.int .i64 0) (.int .i64 0)) (p := ⟨w.heap.size + 1 + 1 + 1 + 1, 0, none⟩) (by dsimp only; omega) (.int .i64 0)) (p := ⟨w.heap.size + 1 + 1 + 1 + 1, 1, none⟩) (by dsimp only; omega) (.int .i64 0)) (p := ⟨w.heap.size + 1 + 1 + 1 + 1 + 1, 0, none⟩) (by dsimp only; omega) (.int .i64 4)))
      have N4 := Lib.hid (Bx.drew (Bx.far (two_set (Bx.far (Bx.far (show Bx W9 (w.heap.size + 1 + 1 + 1 + 1) 38 #[.int .i64 0, .int .i64 0] from K4.out) (p := ⟨w.heap.size + 1 + 1 + 1, 0, none⟩) (by dsimp only; omega) (.int .i64 0)) (p := ⟨w.heap.size + 1 + 1 + 1, 1, none⟩) (by dsimp only; omega) (.int .i64 0)) (.int .i64 0) (.int .i64 0)) (p := ⟨w.heap.size + 1 + 1 + 1 + 1 + 1, 0, none⟩) (by dsimp only; omega) (.int .i64 4)))
      have N5 := Lib.hid (Bx.drew (Bx.set_ (Bx.far (Bx.far (Bx.far (Bx.far (show Bx W9 (w.heap.size + 1 + 1 + 1 + 1 + 1) 27 #[.int .i64 0] from K5.out) (p := ⟨w.heap.size + 1 + 1 + 1, 0, none⟩) (by dsimp only; omega) (.int .i64 0)) (p := ⟨w.heap.size + 1 + 1 + 1, 1, none⟩) (by dsimp only; omega) (.int .i64 0)) (p := ⟨w.heap.size + 1 + 1 + 1 + 1, 0, none⟩) (by dsimp only; omega) (.int .i64 0)) (p := ⟨w.heap.size + 1 + 1 + 1 + 1, 1, none⟩) (by dsimp only; omega) (.int .i64 0)) 0 (.int .i64 4)))
      go_wp2
      have hff : Fr (fun k => w.heap.size ≤ k) w W9 := (HFW4.out.of0.step HF49.out (fun k hk e => by omega))
      have hfn := Fr.drew (((((hff.setCell (p := ⟨w.heap.size + 1 + 1 + 1, 0, none⟩) (.inl (by dsimp only; omega)) (.int .i64 0)).setCell (p := ⟨w.heap.size + 1 + 1 + 1, 1, none⟩) (.inl (by dsimp only; omega)) (.int .i64 0)).setCell (p := ⟨w.heap.size + 1 + 1 + 1 + 1, 0, none⟩) (.inl (by dsimp only; omega)) (.int .i64 0)).setCell (p := ⟨w.heap.size + 1 + 1 + 1 + 1, 1, none⟩) (.inl (by dsimp only; omega)) (.int .i64 0)).setCell (p := ⟨w.heap.size + 1 + 1 + 1 + 1 + 1, 0, none⟩) (.inl (by dsimp only; omega)) (.int .i64 4))
      have hdd := Fr.drew (((((Fr.refl (fun k => w.heap.size + 3 ≤ k ∧ k ≤ w.heap.size + 5) W9).setCell (p := ⟨w.heap.size + 1 + 1 + 1, 0, none⟩) (.inl (by dsimp only; omega)) (.int .i64 0)).setCell (p := ⟨w.heap.size + 1 + 1 + 1, 1, none⟩) (.inl (by dsimp only; omega)) (.int .i64 0)).setCell (p := ⟨w.heap.size + 1 + 1 + 1 + 1, 0, none⟩) (.inl (by dsimp only; omega)) (.int .i64 0)).setCell (p := ⟨w.heap.size + 1 + 1 + 1 + 1, 1, none⟩) (.inl (by dsimp only; omega)) (.int .i64 0) |>.setCell (p := ⟨w.heap.size + 1 + 1 + 1 + 1 + 1, 0, none⟩) (.inl (by dsimp only; omega)) (.int .i64 4))
      refine ret_marks (.tuple #[.agg #[.int .i64 0, .int .i64 0], .agg #[.int .i64 0, .int .i64 0], .int .i64 4]) [w4.heap.size] (fun D hD => by rw [List.mem_singleton.1 hD]; exact hdd.heap HD9'.out (by omega)) (by simp) (res35 rfl rfl rfl (N3.out.fr (Fr.put1 _ _ _) (by omega)) (N4.out.fr (Fr.put1 _ _ _) (by omega)) (N5.out.fr (Fr.put1 _ _ _) (by omega))) ⟨by rw [HN.out], ?_⟩
      exact (hfn.step (Fr.put1 _ _ _) (fun k hk e => by omega)).below (Nat.le_refl _) (fun k hk => by omega)
    case hstop =>
      rintro cd pre W9 ⟨rfl, st, hfind, hf49, h3, h4, h5⟩ hD
      rw [hfind] at HCF1
      dsimp only at HCF1
      rw [wpIn_wide]
      have HF49 := Lib.hid hf49
      have HD9' := Lib.hid hD
      have H3 := Lib.hid h3
      have H4 := Lib.hid h4
      have H5 := Lib.hid h5
      clear hf49 hD h3 h4 h5 hfind hit hl
      go_wp2
      have hff : Fr (fun k => w.heap.size ≤ k) w W9 := (HFW4.out.of0.step HF49.out (fun k hk e => by omega))
      refine ret_marks (.tuple #[.agg #[.int .i64 st.1.f0, .int .i64 st.1.f1], .agg #[.int .i64 st.2.f0, .int .i64 st.2.f1], .int .i64 0]) [w4.heap.size] (fun D hD => by rw [List.mem_singleton.1 hD]; exact HD9'.out) (by simp) (res35 rfl rfl rfl (H3.out.fr (Fr.put1 _ _ _) (by omega)) (H4.out.fr (Fr.put1 _ _ _) (by omega)) (H5.out.fr (Fr.put1 _ _ _) (by omega))) ⟨by rw [HCF1.out], ?_⟩
      exact (hff.step (Fr.put1 _ _ _) (fun k hk e => by omega)).below (Nat.le_refl _) (fun k hk => by omega)
    case hround =>
      rintro pre x rest W9 hx ⟨hall, hf49, h3, h4, h5⟩ ⟨r, hl9⟩
      have hlb : w4.heap.size + 1 < W9.heap.size := (Array.getElem?_eq_some_iff.1 hl9).1
      have hin := pairs_in (show x ∈ pairsL (spotsN l l.length) by rw [hx]; simp)
      have hx1 := HSOK.out _ hin.1
      have hx2 := HSOK.out _ hin.2
      have HX := Lib.hid hx
      obtain ⟨⟨s0, s1⟩, ⟨t0, t1⟩⟩ := x
      dsimp only at hx1 hx2
      have HCP := Lib.hid (show confP l lost many (⟨s0, s1⟩, ⟨t0, t1⟩) = decide (untilF l s0 s1 t0 t1 lost ≥ many) from rfl)
      have HALL := Lib.hid hall
      simp only [List.zip_toArray, List.zip_cons_cons, List.zip_nil_right, List.foldl_toArray', List.foldl_cons, List.foldl_nil, List.setIfInBounds_toArray, List.set_cons_zero, List.set_cons_succ]
      have HF49 := Lib.hid hf49
      have H3 := Lib.hid h3
      have H4 := Lib.hid h4
      have H5 := Lib.hid h5
      clear hl9 hx hin hf49 h3 h4 h5 hall hit hl
      gi_wp2
      refine ⟨(Fr.refl _ _).alloc _, fun W10 h10 hl10 => ?_⟩
      clear hl10
      have B11 := Lib.hid ((Bx.new W9 118 #[.int .i64 s0, .int .i64 s1, .int .i64 t0, .int .i64 t1]).fr h10 (by omega))
      have F910 : Fr (fun k => k = w4.heap.size + 1) W9 W10 := ((Fr.refl _ _).alloc _).trans h10
      have f410 := HF49.out.step F910 (fun k hk e => by omega)
      have F410 := Lib.hid f410
      have FW10 := Lib.hid (show Fr0 w W10 from HFW4.out.step f410 (fun k hk e => by omega))
      have J3 := Lib.hid (H3.out.fr F910 (by omega))
      have J4 := Lib.hid (H4.out.fr F910 (by omega))
      have J5 := Lib.hid (H5.out.fr F910 (by omega))
      have hs910 : W9.heap.size < W10.heap.size := B11.out.lt
      have fb := ((HB10.out.fr0 HW4.out).fr f410 (by omega)).at_ 0 (v := .func (.func 84) #[bookV g' A' l.length c' (some mb)] #[]) rfl
      have d1 := ((HD1.out.fr0 HW47.out).fr f410 (by omega)).at_ 0 (v := .int .i64 lost) rfl
      have d2 := ((HD2.out.fr0 HW47.out).fr f410 (by omega)).at_ 0 (v := .int .i64 many) rfl
      have x0 := B11.out.at_ 0 (v := .int .i64 s0) rfl
      have x1 := B11.out.at_ 1 (v := .int .i64 s1) rfl
      have x2 := B11.out.at_ 2 (v := .int .i64 t0) rfl
      have x3 := B11.out.at_ 3 (v := .int .i64 t1) rfl
      have hS10 : St g' A' c' l mb W10 := by
        obtain ⟨f, hm, hv⟩ := HS6.out.m
        have n3 : mb ≠ w.heap.size + 3 := by
          rintro rfl
          obtain ⟨es, cc, e1⟩ := hm.obj
          have e2 : W6.heap[w.heap.size + 3]? = _ := HD3.out
          rw [e1] at e2; cases e2
        have n4 : mb ≠ w.heap.size + 4 := by
          rintro rfl
          obtain ⟨es, cc, e1⟩ := hm.obj
          have e2 : W6.heap[w.heap.size + 4]? = _ := HD4.out
          rw [e1] at e2; cases e2
        have n5 : mb ≠ w.heap.size + 5 := by
          rintro rfl
          obtain ⟨es, cc, e1⟩ := hm.obj
          have e2 : W6.heap[w.heap.size + 5]? = _ := HD5.out
          rw [e1] at e2; cases e2
        have hm4 := hm.same (HW47.out.block mb hm.lt (fun h => h))
        exact ⟨C_fr HBk.out.r FW10.out, HBk.out.c, ⟨f, hm4.same (f410.block mb hm4.lt (fun e => by rcases e with e | e | e <;> contradiction)), hv⟩, HBk.out.glob.fr FW10.out⟩
      have HUN := Lib.hid (fun W (hf : Fr0 W10 W) => until_any g' A' c' l mb HHL.out s0 s1 t0 t1 lost W (hS10.fr hf) hx1.1 hx1.2.1 hx2.1 hx2.2.1 ⟨hx1.2.2.1, hx1.2.2.2⟩ ⟨hx2.2.2.1, hx2.2.2.2⟩)
      generalize untilF l s0 s1 t0 t1 lost = U at *
      clear F910 f410 h10 hS10
      gi_wp2
      refine start_round (n := 6) (S := fun w' => w'.cell? ⟨W6.heap.size, 0, none⟩ = some (.func (.func 84) #[bookV g' A' l.length c' (some mb)] #[]) ∧ w'.cell? ⟨W9.heap.size, 0, none⟩ = some (.int .i64 s0) ∧ w'.cell? ⟨W9.heap.size, 1, none⟩ = some (.int .i64 s1) ∧ w'.cell? ⟨W9.heap.size, 2, none⟩ = some (.int .i64 t0) ∧ w'.cell? ⟨W9.heap.size, 3, none⟩ = some (.int .i64 t1) ∧ w'.cell? ⟨w.heap.size + 1, 0, none⟩ = some (.int .i64 lost) ∧ w'.cell? ⟨w.heap.size + 1 + 1, 0, none⟩ = some (.int .i64 many)) (ds := []) #[false, false, false, false, false, false] (by kernel_rfl) (by kernel_rfl) rfl rfl ⟨fb, x0, x1, x2, x3, d1, d2⟩ (fun hHeld => ?_)
      refine take_ (i := 0) (N := some 29) (v := ?_) (a' := ?_) #[true, false, false, false, false, false] rfl rfl (by kernel_rfl) (fun _ _ _ h => h) (Or.inl ⟨by rfl, ?_⟩) hHeld ?_ ?_
      rotate_left
      · rintro w' ⟨s0, s1, s2, s3, s4, s5, s6⟩
        go_simp
        with_reducible rfl
      rotate_left
      · simp only [Act.put, List.setIfInBounds_toArray, List.set_cons_zero, List.set_cons_succ, i64_w, i32_w]
        rfl
      refine take_ (i := 1) (N := some 30) (v := ?_) (a' := ?_) #[true, true, false, false, false, false] rfl rfl (by kernel_rfl) (fun _ _ _ h => h) (Or.inl ⟨by rfl, ?_⟩) hHeld ?_ ?_
      rotate_left
      · rintro w' ⟨s0, s1, s2, s3, s4, s5, s6⟩
        go_simp
        with_reducible rfl
      rotate_left
      · simp only [Act.put, List.setIfInBounds_toArray, List.set_cons_zero, List.set_cons_succ, i64_w, i32_w]
        rfl
      refine take_ (i := 2) (N := some 31) (v := ?_) (a' := ?_) #[true, true, true, false, false, false] rfl rfl (by kernel_rfl) (fun _ _ _ h => h) (Or.inl ⟨by rfl, ?_⟩) hHeld ?_ ?_
      rotate_left
      · rintro w' ⟨s0, s1, s2, s3, s4, s5, s6⟩
        go_simp
        with_reducible rfl
      rotate_left
      · simp only [Act.put, List.setIfInBounds_toArray, List.set_cons_zero, List.set_cons_succ, i64_w, i32_w]
        rfl
      refine take_ (i := 4) (N := some 33) (v := ?_) (a' := ?_) #[true, true, true, false, true, false] rfl rfl (by kernel_rfl) (fun _ _ _ h => h) (Or.inl ⟨by rfl, ?_⟩) hHeld ?_ ?_
      rotate_left
      · rintro w' ⟨s0, s1, s2, s3, s4, s5, s6⟩
        go_simp
        with_reducible rfl
      rotate_left
      · simp only [Act.put, List.setIfInBounds_toArray, List.set_cons_zero, List.set_cons_succ, i64_w, i32_w]
        rfl
      refine one_ (i := 3) (N := some 32) #[true, true, true, true, true, false] rfl rfl (by kernel_rfl) (by decide) (fun K hK => ?_)
      refine call_ 84 #[bookV g' A' l.length c' (some mb), twoV s0 s1 t0 t1, .int .i64 lost] (by rfl) rfl ?_ ?_
      · unfold execOp
        simp [resolve, Deferred.ofValue, invoke, Act.eval, ef84]
      refine (HUN.out _ (Fr.drew (Fr.refl _ _))).mono ?_
      rintro e w11 ⟨rfl, hf11⟩
      have HW11 := Lib.hid (Fr0.trans (Fr.drew (Fr.refl _ W10)) hf11)
      refine ⟨_, rfl, ?_⟩
      refine hK.out _ _ ⟨(HW11.out.cell0 fb), (HW11.out.cell0 x0), (HW11.out.cell0 x1), (HW11.out.cell0 x2), (HW11.out.cell0 x3), (HW11.out.cell0 d1), (HW11.out.cell0 d2)⟩ (fun hHeld => ?_)
      clear hK K
      refine norm_ (a' := ?_) ?_ ?_
      rotate_left
      · show Act.put _ (some 32) _ = _
        simp only [Act.put, List.setIfInBounds_toArray, List.set_cons_zero, List.set_cons_succ, i64_w, i32_w]
        rfl
      refine pure_ (i := 5) (N := some 34) (v := ?_) (a' := ?_) #[true, true, true, true, true, true] rfl rfl (by kernel_rfl) (fun _ _ _ h => h) (Or.inl ⟨by rfl, ?_⟩) ?_ ?_
      rotate_left
      · intro w'
        go_simp
        with_reducible rfl
      rotate_left
      · simp only [Act.put, List.setIfInBounds_toArray, List.set_cons_zero, List.set_cons_succ, i64_w, i32_w]
        rfl
      refine done_ (by kernel_rfl) ?_
      refine noOut_normal ?_
      have K3 := Lib.hid (J3.out.fr0 HW11.out)
      have K4 := Lib.hid (J4.out.fr0 HW11.out)
      have K5 := Lib.hid (J5.out.fr0 HW11.out)
      have X11 := Lib.hid (B11.out.fr0 HW11.out)
      have hs11 := HW11.out.size
      clear fb d1 d2 x0 x1 x2 x3
      by_cases hu : U ≥ many
      · have HUU := Lib.hid hu
        have x0 := X11.out.at_ 0 (v := .int .i64 s0) rfl
        have x1 := X11.out.at_ 1 (v := .int .i64 s1) rfl
        have x2 := X11.out.at_ 2 (v := .int .i64 t0) rfl
        have x3 := X11.out.at_ 3 (v := .int .i64 t1) rfl
        have q3 : w11.cell? ⟨w.heap.size + 1 + 1 + 1, 0, none⟩ = some (.int .i64 0) := K3.out.at_ 0 rfl
        have q3' : w11.cell? ⟨w.heap.size + 1 + 1 + 1, 1, none⟩ = some (.int .i64 0) := K3.out.at_ 1 rfl
        have q4 : w11.cell? ⟨w.heap.size + 1 + 1 + 1 + 1, 0, none⟩ = some (.int .i64 0) := K4.out.at_ 0 rfl
        have q4' : w11.cell? ⟨w.heap.size + 1 + 1 + 1 + 1, 1, none⟩ = some (.int .i64 0) := K4.out.at_ 1 rfl
        have q5 : w11.cell? ⟨w.heap.size + 1 + 1 + 1 + 1 + 1, 0, none⟩ = some (.int .i64 0) := K5.out.at_ 0 rfl
        have z3 : w11.frozen? ⟨w.heap.size + 1 + 1 + 1, 0, none⟩ = false := K3.out.frz 0
        have z3' : w11.frozen? ⟨w.heap.size + 1 + 1 + 1, 1, none⟩ = false := K3.out.frz 1
        have z4 : w11.frozen? ⟨w.heap.size + 1 + 1 + 1 + 1, 0, none⟩ = false := K4.out.frz 0
        have z4' : w11.frozen? ⟨w.heap.size + 1 + 1 + 1 + 1, 1, none⟩ = false := K4.out.frz 1
        have z5 : w11.frozen? ⟨w.heap.size + 1 + 1 + 1 + 1 + 1, 0, none⟩ = false := K5.out.frz 0
        have l3 : w.heap.size + 1 + 1 + 1 < w11.heap.size := K3.out.lt
        have l4 : w.heap.size + 1 + 1 + 1 + 1 < w11.heap.size := K4.out.lt
        have l5 : w.heap.size + 1 + 1 + 1 + 1 + 1 < w11.heap.size := K5.out.lt
        gi_wp2
        refine start_round (n := 7) (S := fun w' => w'.cell? ⟨W9.heap.size, 0, none⟩ = some (.int .i64 s0) ∧ w'.cell? ⟨W9.heap.size, 1, none⟩ = some (.int .i64 s1) ∧ w'.cell? ⟨W9.heap.size, 2, none⟩ = some (.int .i64 t0) ∧ w'.cell? ⟨W9.heap.size, 3, none⟩ = some (.int .i64 t1)) (ds := [6]) #[false, false, false, false, false, false, false] (by kernel_rfl) (by kernel_rfl) rfl rfl ⟨x0, x1, x2, x3⟩ (fun hHeld => ?_)
        refine pure_ (i := 0) (N := some 35) (v := ?_) (a' := ?_) #[true, false, false, false, false, false, false] rfl rfl (by kernel_rfl) (fun _ _ _ h => h) (Or.inl ⟨by rfl, ?_⟩) ?_ ?_
        rotate_left
        · intro w'
          go_simp
          with_reducible rfl
        rotate_left
        · simp only [Act.put, List.setIfInBounds_toArray, List.set_cons_zero, List.set_cons_succ, i64_w, i32_w]
          rfl
        refine pure_ (i := 2) (N := some 37) (v := ?_) (a' := ?_) #[true, false, true, false, false, false, false] rfl rfl (by kernel_rfl) (fun _ _ _ h => h) (Or.inl ⟨by rfl, ?_⟩) ?_ ?_
        rotate_left
        · intro w'
          go_simp
          with_reducible rfl
        rotate_left
        · simp only [Act.put, List.setIfInBounds_toArray, List.set_cons_zero, List.set_cons_succ, i64_w, i32_w]
          rfl
        refine take_ (i := 1) (N := some 36) (v := ?_) (a' := ?_) #[true, true, true, false, false, false, false] rfl rfl (by kernel_rfl) (fun _ _ _ h => h) (Or.inl ⟨by rfl, ?_⟩) hHeld ?_ ?_
        rotate_left
        · rintro w' ⟨s0, s1, s2, s3⟩
          go_simp
          with_reducible rfl
        rotate_left
        · simp only [Act.put, List.setIfInBounds_toArray, List.set_cons_zero, List.set_cons_succ, i64_w, i32_w]
          rfl
        refine take_ (i := 3) (N := some 38) (v := ?_) (a' := ?_) #[true, true, true, true, false, false, false] rfl rfl (by kernel_rfl) (fun _ _ _ h => h) (Or.inl ⟨by rfl, ?_⟩) hHeld ?_ ?_
        rotate_left
        · rintro w' ⟨s0, s1, s2, s3⟩
          go_simp
          with_reducible rfl
        rotate_left
        · simp only [Act.put, List.setIfInBounds_toArray, List.set_cons_zero, List.set_cons_succ, i64_w, i32_w]
          rfl
        refine one_ (i := 4) (N := none) #[true, true, true, true, true, false, false] rfl rfl (by kernel_rfl) (by decide) (fun K hK => ?_)
        refine skip_ (w1 := ?_) (by rfl) rfl ?_ ?_
        rotate_left
        · go_simp
          rfl
        have Y11 := Lib.hid (Bx.drew (Bx.far (Bx.far X11.out (p := ⟨w.heap.size + 1 + 1 + 1, 0, none⟩) (by dsimp only; omega) (.int .i64 s0)) (p := ⟨w.heap.size + 1 + 1 + 1, 1, none⟩) (by dsimp only; omega) (.int .i64 s1)))
        refine hK.out _ _ ⟨(Y11.out.at_ 0 rfl), (Y11.out.at_ 1 rfl), (Y11.out.at_ 2 rfl), (Y11.out.at_ 3 rfl)⟩ (fun hHeld => ?_)
        clear hK K
        refine one_ (i := 5) (N := none) #[true, true, true, true, true, true, false] rfl rfl (by kernel_rfl) (by decide) (fun K hK => ?_)
        refine skip_ (w1 := ?_) (by rfl) rfl ?_ ?_
        rotate_left
        · go_simp
          rfl
        have Z11 := Lib.hid (Bx.drew (Bx.far (Bx.far (Bx.far (Bx.far X11.out (p := ⟨w.heap.size + 1 + 1 + 1, 0, none⟩) (by dsimp only; omega) (.int .i64 s0)) (p := ⟨w.heap.size + 1 + 1 + 1, 1, none⟩) (by dsimp only; omega) (.int .i64 s1)) (p := ⟨w.heap.size + 1 + 1 + 1 + 1, 0, none⟩) (by dsimp only; omega) (.int .i64 t0)) (p := ⟨w.heap.size + 1 + 1 + 1 + 1, 1, none⟩) (by dsimp only; omega) (.int .i64 t1)))
        refine hK.out _ _ ⟨(Z11.out.at_ 0 rfl), (Z11.out.at_ 1 rfl), (Z11.out.at_ 2 rfl), (Z11.out.at_ 3 rfl)⟩ (fun hHeld => ?_)
        clear hK K
        refine last_ (i := 6) (N := none) #[true, true, true, true, true, true, true] rfl rfl (by kernel_rfl) (by decide) (fun K hK => ?_)
        refine skip_ (w1 := ?_) (by rfl) rfl ?_ ?_
        rotate_left
        · go_simp
          rfl
        refine hK.out _ _ ?_
        clear hK K
        refine done_ (by kernel_rfl) ?_
        refine noOut_normal ?_
        have T3 := Lib.hid (Bx.drew (Bx.far (Bx.far (Bx.far (two_set (show Bx w11 (w.heap.size + 1 + 1 + 1) 38 #[.int .i64 0, .int .i64 0] from K3.out) (.int .i64 s0) (.int .i64 s1)) (p := ⟨w.heap.size + 1 + 1 + 1 + 1, 0, none⟩) (by dsimp only; omega) (.int .i64 t0)) (p := ⟨w.heap.size + 1 + 1 + 1 + 1, 1, none⟩) (by dsimp only; omega) (.int .i64 t1)) (p := ⟨w.heap.size + 1 + 1 + 1 + 1 + 1, 0, none⟩) (by dsimp only; omega) (.int .i64 0)))
        have T4 := Lib.hid (Bx.drew (Bx.far (two_set (Bx.far (Bx.far (show Bx w11 (w.heap.size + 1 + 1 + 1 + 1) 38 #[.int .i64 0, .int .i64 0] from K4.out) (p := ⟨w.heap.size + 1 + 1 + 1, 0, none⟩) (by dsimp only; omega) (.int .i64 s0)) (p := ⟨w.heap.size + 1 + 1 + 1, 1, none⟩) (by dsimp only; omega) (.int .i64 s1)) (.int .i64 t0) (.int .i64 t1)) (p := ⟨w.heap.size + 1 + 1 + 1 + 1 + 1, 0, none⟩) (by dsimp only; omega) (.int .i64 0)))
        have T5 := Lib.hid (Bx.drew (Bx.set_ (Bx.far (Bx.far (Bx.far (Bx.far (show Bx w11 (w.heap.size + 1 + 1 + 1 + 1 + 1) 27 #[.int .i64 0] from K5.out) (p := ⟨w.heap.size + 1 + 1 + 1, 0, none⟩) (by dsimp only; omega) (.int .i64 s0)) (p := ⟨w.heap.size + 1 + 1 + 1, 1, none⟩) (by dsimp only; omega) (.int .i64 s1)) (p := ⟨w.heap.size + 1 + 1 + 1 + 1, 0, none⟩) (by dsimp only; omega) (.int .i64 t0)) (p := ⟨w.heap.size + 1 + 1 + 1 + 1, 1, none⟩) (by dsimp only; omega) (.int .i64 t1)) 0 (.int .i64 0)))
        have FF := Lib.hid (Fr.drew (Fr.setCell (Fr.setCell (Fr.setCell (Fr.setCell (Fr.setCell (Fr.of0 (S := fun k => k = w.heap.size + 3 ∨ k = w.heap.size + 4 ∨ k = w.heap.size + 5) HW11.out) (p := ⟨w.heap.size + 1 + 1 + 1, 0, none⟩) (.inl (.inl rfl)) (.int .i64 s0)) (p := ⟨w.heap.size + 1 + 1 + 1, 1, none⟩) (.inl (.inl rfl)) (.int .i64 s1)) (p := ⟨w.heap.size + 1 + 1 + 1 + 1, 0, none⟩) (.inl (.inr (.inl rfl))) (.int .i64 t0)) (p := ⟨w.heap.size + 1 + 1 + 1 + 1, 1, none⟩) (.inl (.inr (.inl rfl))) (.int .i64 t1)) (p := ⟨w.heap.size + 1 + 1 + 1 + 1 + 1, 0, none⟩) (.inl (.inr (.inr rfl))) (.int .i64 0)))
        gi_wp2
        refine ⟨FF.out, rfl, (⟨s0, s1⟩, ⟨t0, t1⟩), ?_, F410.out.trans FF.out, T3.out, T4.out, T5.out⟩
        rw [HX.out]
        exact find_at HALL.out (by rw [HCP.out]; exact decide_eq_true HUU.out)
      · have HUU := Lib.hid hu
        have HA2 := Lib.hid (show ∀ st ∈ pre ++ [((⟨s0, s1⟩ : S38), (⟨t0, t1⟩ : S38))], confP l lost many st = false from by
          intro st h
          rcases List.mem_append.1 h with h | h
          · exact HALL.out st h
          · rw [List.mem_singleton.1 h, HCP.out]; exact decide_eq_false HUU.out)
        gi_wp2
        refine ⟨Fr.of0 HW11.out, ?_, F410.out.step0 HW11.out, K3.out, K4.out, K5.out⟩
        exact fun a b h => HA2.out (a, b) h
  · have hcf := HCF.out
    rw [if_neg hE] at hcf
    have HCF1 := Lib.hid hcf
    clear hcf HCF HOK HOP6
    have z3 := HD3.out.frz 0
    have z3' := HD3.out.frz 1
    have l3 := HD3.out.lt
    have z4 := HD4.out.frz 0
    have z4' := HD4.out.frz 1
    have l4 := HD4.out.lt
    have z5 := HD5.out.frz 0
    have l5 := HD5.out.lt
    go_upto_region 3 with fail
    refine start_ (n := 6) (S := fun w' => w'.cell? ⟨w.heap.size + 1 + 1 + 1, 0, none⟩ = some (.int .i64 0) ∧ w'.cell? ⟨w.heap.size + 1 + 1 + 1, 1, none⟩ = some (.int .i64 0) ∧ w'.cell? ⟨w.heap.size + 1 + 1 + 1 + 1, 0, none⟩ = some (.int .i64 0) ∧ w'.cell? ⟨w.heap.size + 1 + 1 + 1 + 1, 1, none⟩ = some (.int .i64 0) ∧ w'.cell? ⟨w.heap.size + 1 + 1 + 1 + 1 + 1, 0, none⟩ = some (.int .i64 E)) (ds := [5]) #[false, false, false, false, false, false] (by kernel_rfl) rfl rfl ⟨q3, q3', q4, q4', q5⟩ (fun hHeld => ?_)
    refine take_ (i := 0) (N := some 20) (v := ?_) (a' := ?_) #[true, false, false, false, false, false] rfl rfl (by kernel_rfl) (fun _ _ _ h => h) (Or.inl ⟨by rfl, ?_⟩) hHeld ?_ ?_
    rotate_left
    · rintro w' ⟨s0, s1, s2, s3, s4⟩
      go_simp
      with_reducible rfl
    rotate_left
    · simp only [Act.put, List.setIfInBounds_toArray, List.set_cons_zero, List.set_cons_succ, i64_w, i32_w]
      rfl
    refine take_ (i := 1) (N := some 21) (v := ?_) (a' := ?_) #[true, true, false, false, false, false] rfl rfl (by kernel_rfl) (fun _ _ _ h => h) (Or.inl ⟨by rfl, ?_⟩) hHeld ?_ ?_
    rotate_left
    · rintro w' ⟨s0, s1, s2, s3, s4⟩
      go_simp
      with_reducible rfl
    rotate_left
    · simp only [Act.put, List.setIfInBounds_toArray, List.set_cons_zero, List.set_cons_succ, i64_w, i32_w]
      rfl
    refine take_ (i := 2) (N := some 22) (v := ?_) (a' := ?_) #[true, true, true, false, false, false] rfl rfl (by kernel_rfl) (fun _ _ _ h => h) (Or.inl ⟨by rfl, ?_⟩) hHeld ?_ ?_
    rotate_left
    · rintro w' ⟨s0, s1, s2, s3, s4⟩
      go_simp
      with_reducible rfl
    rotate_left
    · simp only [Act.put, List.setIfInBounds_toArray, List.set_cons_zero, List.set_cons_succ, i64_w, i32_w]
      rfl
    refine one_ (i := 3) (N := none) #[true, true, true, true, false, false] rfl rfl (by kernel_rfl) (by decide) (fun K hK => ?_)
    refine skip_ (w1 := ?_) (by rfl) rfl ?_ ?_
    rotate_left
    · go_simp
      rfl
    have KA3 := Lib.hid (Bx.drew (two_set (show Bx W6 (w.heap.size + 1 + 1 + 1) 38 #[.int .i64 0, .int .i64 0] from HD3.out) (.int .i64 0) (.int .i64 0)))
    have KA4 := Lib.hid (Bx.drew (Bx.far (Bx.far (show Bx W6 (w.heap.size + 1 + 1 + 1 + 1) 38 #[.int .i64 0, .int .i64 0] from HD4.out) (p := ⟨w.heap.size + 1 + 1 + 1, 0, none⟩) (by dsimp only; omega) (.int .i64 0)) (p := ⟨w.heap.size + 1 + 1 + 1, 1, none⟩) (by dsimp only; omega) (.int .i64 0)))
    have KA5 := Lib.hid (Bx.drew (Bx.far (Bx.far (show Bx W6 (w.heap.size + 1 + 1 + 1 + 1 + 1) 27 #[.int .i64 E] from HD5.out) (p := ⟨w.heap.size + 1 + 1 + 1, 0, none⟩) (by dsimp only; omega) (.int .i64 0)) (p := ⟨w.heap.size + 1 + 1 + 1, 1, none⟩) (by dsimp only; omega) (.int .i64 0)))
    refine hK.out _ _ ⟨(KA3.out.at_ 0 rfl), (KA3.out.at_ 1 rfl), (KA4.out.at_ 0 rfl), (KA4.out.at_ 1 rfl), (KA5.out.at_ 0 rfl)⟩ (fun hHeld => ?_)
    clear hK K
    refine one_ (i := 4) (N := none) #[true, true, true, true, true, false] rfl rfl (by kernel_rfl) (by decide) (fun K hK => ?_)
    refine skip_ (w1 := ?_) (by rfl) rfl ?_ ?_
    rotate_left
    · go_simp
      rfl
    have KC3 := Lib.hid (Bx.drew (Bx.far (Bx.far (two_set (show Bx W6 (w.heap.size + 1 + 1 + 1) 38 #[.int .i64 0, .int .i64 0] from HD3.out) (.int .i64 0) (.int .i64 0)) (p := ⟨w.heap.size + 1 + 1 + 1 + 1, 0, none⟩) (by dsimp only; omega) (.int .i64 0)) (p := ⟨w.heap.size + 1 + 1 + 1 + 1, 1, none⟩) (by dsimp only; omega) (.int .i64 0)))
    have KC4 := Lib.hid (Bx.drew (two_set (Bx.far (Bx.far (show Bx W6 (w.heap.size + 1 + 1 + 1 + 1) 38 #[.int .i64 0, .int .i64 0] from HD4.out) (p := ⟨w.heap.size + 1 + 1 + 1, 0, none⟩) (by dsimp only; omega) (.int .i64 0)) (p := ⟨w.heap.size + 1 + 1 + 1, 1, none⟩) (by dsimp only; omega) (.int .i64 0)) (.int .i64 0) (.int .i64 0)))
    have KC5 := Lib.hid (Bx.drew (Bx.far (Bx.far (Bx.far (Bx.far (show Bx W6 (w.heap.size + 1 + 1 + 1 + 1 + 1) 27 #[.int .i64 E] from HD5.out) (p := ⟨w.heap.size + 1 + 1 + 1, 0, none⟩) (by dsimp only; omega) (.int .i64 0)) (p := ⟨w.heap.size + 1 + 1 + 1, 1, none⟩) (by dsimp only; omega) (.int .i64 0)) (p := ⟨w.heap.size + 1 + 1 + 1 + 1, 0, none⟩) (by dsimp only; omega) (.int .i64 0)) (p := ⟨w.heap.size + 1 + 1 + 1 + 1, 1, none⟩) (by dsimp only; omega) (.int .i64 0)))
    refine hK.out _ _ ⟨(KC3.out.at_ 0 rfl), (KC3.out.at_ 1 rfl), (KC4.out.at_ 0 rfl), (KC4.out.at_ 1 rfl), (KC5.out.at_ 0 rfl)⟩ (fun hHeld => ?_)
    clear hK K
    refine last_ (i := 5) (N := none) #[true, true, true, true, true, true] rfl rfl (by kernel_rfl) (by decide) (fun K hK => ?_)
    refine skip_ (w1 := ?_) (by rfl) rfl ?_ ?_
    rotate_left
    · go_simp
      rfl
    refine hK.out _ _ ?_
    clear hK K
    refine done_ (by kernel_rfl) ?_
    have N3 := Lib.hid (Bx.drew (Bx.far (Bx.far (Bx.far (two_set (show Bx W6 (w.heap.size + 1 + 1 + 1) 38 #[.int .i64 0, .int .i64 0] from HD3.out) (.int .i64 0) (.int .i64 0)) (p := ⟨w.heap.size + 1 + 1 + 1 + 1, 0, none⟩) (by dsimp only; omega) (.int .i64 0)) (p := ⟨w.heap.size + 1 + 1 + 1 + 1, 1, none⟩) (by dsimp only; omega) (.int .i64 0)) (p := ⟨w.heap.size + 1 + 1 + 1 + 1 + 1, 0, none⟩) (by dsimp only; omega) (.int .i64 E)))
    have N4 := Lib.hid (Bx.drew (Bx.far (two_set (Bx.far (Bx.far (show Bx W6 (w.heap.size + 1 + 1 + 1 + 1) 38 #[.int .i64 0, .int .i64 0] from HD4.out) (p := ⟨w.heap.size + 1 + 1 + 1, 0, none⟩) (by dsimp only; omega) (.int .i64 0)) (p := ⟨w.heap.size + 1 + 1 + 1, 1, none⟩) (by dsimp only; omega) (.int .i64 0)) (.int .i64 0) (.int .i64 0)) (p := ⟨w.heap.size + 1 + 1 + 1 + 1 + 1, 0, none⟩) (by dsimp only; omega) (.int .i64 E)))
    have N5 := Lib.hid (Bx.drew (Bx.set_ (Bx.far (Bx.far (Bx.far (Bx.far (show Bx W6 (w.heap.size + 1 + 1 + 1 + 1 + 1) 27 #[.int .i64 E] from HD5.out) (p := ⟨w.heap.size + 1 + 1 + 1, 0, none⟩) (by dsimp only; omega) (.int .i64 0)) (p := ⟨w.heap.size + 1 + 1 + 1, 1, none⟩) (by dsimp only; omega) (.int .i64 0)) (p := ⟨w.heap.size + 1 + 1 + 1 + 1, 0, none⟩) (by dsimp only; omega) (.int .i64 0)) (p := ⟨w.heap.size + 1 + 1 + 1 + 1, 1, none⟩) (by dsimp only; omega) (.int .i64 0)) 0 (.int .i64 E)))
    go_wp2
    refine ret_marks (.tuple #[.agg #[.int .i64 0, .int .i64 0], .agg #[.int .i64 0, .int .i64 0], .int .i64 E]) [] (marks_nil _) List.nodup_nil (res35 rfl rfl rfl N3.out N4.out N5.out) ⟨by rw [HCF1.out], ?_⟩
    exact fr_below (Fr.drew (((((HF6.out.setCell (.inr (by dsimp only; omega)) _).setCell (.inr (by dsimp only; omega)) _).setCell (.inr (by dsimp only; omega)) _).setCell (.inr (by dsimp only; omega)) _).setCell (.inr (by dsimp only; omega)) _))
end Go.Proofs.YtephecfapclgfaaDoor.R
namespace Go.Proofs.YtephecfapclgfaaDoor.R
open Go.RowKit Go.Shelf Go.Proofs.YtephecfapclgfaaDoorW.PrintWords Go.Proofs.YtephecfapclgfaaDoorW.PrintLast Go.Proofs.YtephecfapclgfaaDoorW.PrintMore Go.Proofs.YtephecfapclgfaaDoor.PRaspKeys Go.Proofs.YtephecfapclgfaaDoor.X
attribute [local go_sem] Oper.semAt_some

/-! ### Sure -/
theorem untilN_bnd (a1 a2 : Nat → Int) (lost : Int) : ∀ (n b : Nat) (d1 d2 : Int), b + n ≤ 64 → 0 ≤ untilN a1 a2 lost n b d1 d2 ∧ untilN a1 a2 lost n b d1 d2 ≤ 64
  | 0, _, _, _, _ => by unfold untilN; omega
  | n + 1, b, d1, d2, h => by
    unfold untilN
    split
    · omega
    · exact untilN_bnd a1 a2 lost n (b + 1) _ _ (by omega)
theorem untilF_bnd (l : List S63) (sf sb tf tb lost : Int) : 0 ≤ untilF l sf sb tf tb lost ∧ untilF l sf sb tf tb lost ≤ 64 := untilN_bnd _ _ _ _ _ _ _ (by omega)
def sureS (l : List S63) (lost : Int) (acc : Int) (st : S38 × S38) : Int := mx acc (untilF l st.1.f0 st.1.f1 st.2.f0 st.2.f1 lost)
theorem sureS_bnd (l : List S63) (lost : Int) : ∀ (ps : List (S38 × S38)) (acc : Int), 0 ≤ acc ∧ acc ≤ 64 → 0 ≤ ps.foldl (sureS l lost) acc ∧ ps.foldl (sureS l lost) acc ≤ 64
  | [], acc, h => h
  | p :: ps, acc, h => sureS_bnd l lost ps _ (mx_bnd h (untilF_bnd _ _ _ _ _ _))
def sureM (l : List S63) (lost : Int) : Int := (pairsL (spotsN l l.length)).foldl (sureS l lost) 0
def sureF (g : Int) (l : List S63) (lost : Int) : Int × Int :=
  if openE g l (okSure g l lost) = 0 then (if sureM l lost = 64 then (0, 4) else (sureM l lost + 1, 0)) else (0, openE g l (okSure g l lost))
theorem open_sure (g : Int) (A : Option Addr) (c : Nat) (l : List S63) (lost : Int) (b1 : Nat) (W : World) (hB : Book W A c l) (h1 : W.cell? ⟨b1, 0, none⟩ = some (.int .i64 lost)) :
    Calls Tryd.prog 52 #[.agg #[.int .i64 g, .slice A l.length c], .func (.func 88) #[] #[.pointer (some ⟨b1, 0, none⟩)]] W (Opens g A c l (openE g l (okSure g l lost)) W) :=
  opened_any 88 _ (fun _ _ => by kernel_rfl) g A c l _ W hB.r hB.c hB.glob (fun hb mb W' hf hS => right88 g A c l mb b1 lost W' hb hS (hf.cell0 h1))
set_option maxHeartbeats 4000000 in
set_option maxRecDepth 100000 in
theorem sure_any (g : Int) (A : Option Addr) (c : Nat) (l : List S63) (lost : Int) (w : World) (hB : Book w A c l) :
    Calls Tryd.prog 37 #[.agg #[.int .i64 g, .slice A l.length c], .int .i64 lost] w fun e w' =>
      e = .returned (.tuple #[.int .i64 (sureF g l lost).1, .int .i64 (sureF g l lost).2]) ∧ Below w.heap.size w w' := by
  have HOP := Lib.hid (fun (b1 : Nat) W (hf : Fr0 w W) h1 => open_sure g A c l lost b1 W (hB.fr hf) h1)
  have hfw : Fr0 w ((w.alloc (.cells #[.int .i64 g, .slice A l.length c] 24)).alloc (.cells #[.int .i64 lost] 3)) := ((Fr.refl _ _).alloc _).alloc _
  have c1 : Bx ((w.alloc (.cells #[.int .i64 g, .slice A l.length c] 24)).alloc (.cells #[.int .i64 lost] 3)) (w.heap.size + 1) 3 #[.int .i64 lost] := Bx.of_new (by simp)
  have HFW := Lib.hid hfw
  have HC1 := Lib.hid c1
  clear hfw c1
  have HBk := Lib.hid hB
  clear hB
  by_cases hz : openE g l (okSure g l lost) = 0
  · have hN : sureF g l lost = if sureM l lost = 64 then (0, 4) else (sureM l lost + 1, 0) := by unfold sureF; rw [if_pos hz]
    obtain ⟨hbk, hok⟩ := openE_ok hz
    have HNN := Lib.hid hN
    rw [hz] at HOP
    have hl := beats_of hbk
    have HHL := Lib.hid hl
    have HSOK := Lib.hid (spots_ok hbk)
    have HSM := Lib.hid (show sureM l lost = (pairsL (spotsN l l.length)).foldl (sureS l lost) 0 from rfl)
    have HSB := Lib.hid (sureS_bnd l lost)
    clear hz hN hok hbk
    generalize sureM l lost = SM at *
    generalize sureF g l lost = SF at *
    refine calls_of_marks Tryd.func37 rfl ?_
    simp only [Tryd.ntmps37, List.size_toArray, List.length_cons, List.length_nil, Nat.reduceAdd, Nat.reduceSub, Array.replicate_succ, Array.replicate_zero, List.push_toArray, List.append_toArray, List.nil_append, List.cons_append]
    go_wp2_with (first
      | (go_at_call 52; (with_reducible refine (HOP.out _ _ ?hw ?h1).mono ?_); (case hw => exact HFW.out); (case h1 => exact HC1.out.at_ 0 rfl); rintro e W5 ⟨g', A', n', c', o', rfl, hf5, hop⟩; obtain ⟨mb, rfl, rfl, rfl, rfl, rfl, hS5⟩ := hop rfl; (have HS5 := Lib.hid hS5); clear hop hS5))
    have hf57 : Fr0 W5 ((W5.alloc (.cells #[.int .i64 g', .slice A' l.length c', .map (some mb)] 83)).alloc (.cells #[.int .i64 0] 3)) := ((Fr.refl _ _).alloc _).alloc _
    have b6 : Bx ((W5.alloc (.cells #[.int .i64 g', .slice A' l.length c', .map (some mb)] 83)).alloc (.cells #[.int .i64 0] 3)) W5.heap.size 83 #[.int .i64 g', .slice A' l.length c', .map (some mb)] := (Bx.new _ _ _).alloc _
    have b8 : Bx ((W5.alloc (.cells #[.int .i64 g', .slice A' l.length c', .map (some mb)] 83)).alloc (.cells #[.int .i64 0] 3)) (W5.heap.size + 1) 3 #[.int .i64 0] := Bx.of_new (by simp)
    have hz7 : ((W5.alloc (.cells #[.int .i64 g', .slice A' l.length c', .map (some mb)] 83)).alloc (.cells #[.int .i64 0] 3)).heap.size = W5.heap.size + 2 := by simp
    obtain ⟨W7, hW7⟩ : ∃ W7, (W5.alloc (.cells #[.int .i64 g', .slice A' l.length c', .map (some mb)] 83)).alloc (.cells #[.int .i64 0] 3) = W7 := ⟨_, rfl⟩
    rw [hW7] at hf57 b6 b8 hz7 ⊢
    clear hW7
    have HF7 := Lib.hid (Fr0.trans (Fr0.trans HFW.out hf5) hf57)
    have HD1 := Lib.hid (HC1.out.fr0 (Fr0.trans hf5 hf57))
    have HS7 := Lib.hid (HS5.out.fr hf57)
    have HB6 := Lib.hid b6
    have HB8 := Lib.hid b8
    have u0 := b6.at_ 0 (v := .int .i64 g') rfl
    have u1 := b6.at_ 1 (v := .slice A' l.length c') rfl
    have u2 := b6.at_ 2 (v := .map (some mb)) rfl
    have hw5 : w.heap.size + 2 ≤ W5.heap.size := by have := (HC1.out.fr0 hf5).lt; omega
    have hmb : mb < W5.heap.size := HS5.out.heap
    clear hf5 hf57 b6 b8 HC1 HFW HOP HS5
    refine start_ (n := 3) (S := fun w' => w'.cell? ⟨W5.heap.size, 0, none⟩ = some (.int .i64 g') ∧ w'.cell? ⟨W5.heap.size, 1, none⟩ = some (.slice A' l.length c') ∧ w'.cell? ⟨W5.heap.size, 2, none⟩ = some (.map (some mb))) (ds := []) #[false, false, false] (by kernel_rfl) rfl rfl ⟨u0, u1, u2⟩ (fun hHeld => ?_)
    refine take_ (i := 0) (N := some 19) (v := ?_) (a' := ?_) #[true, false, false] rfl rfl (by kernel_rfl) (fun _ _ _ h => h) (Or.inl ⟨by rfl, ?_⟩) hHeld ?_ ?_
    rotate_left
    · rintro w' ⟨s0, s1, s2⟩
      go_simp
      with_reducible rfl
    rotate_left
    · simp only [Act.put, List.setIfInBounds_toArray, List.set_cons_zero, List.set_cons_succ, i64_w, i32_w]
      rfl
    refine one_ (i := 1) (N := some 20) #[true, true, false] rfl rfl (by kernel_rfl) (by decide) (fun K hK => ?_)
    refine goes_ Tryd.func86 (by kernel_rfl) rfl #[] (by rfl) rfl rfl (by first | rfl | simp) ?_
    with_reducible refine (beforeV_any _).mono ?_
    rintro e w3 ⟨rfl, hf3⟩
    refine ⟨_, rfl, ?_⟩
    have HW3 := Lib.hid (Fr0.trans (Fr.drew (Fr.refl _ W7)) hf3)
    refine hK.out _ _ ⟨(HW3.out.cell0 u0), (HW3.out.cell0 u1), (HW3.out.cell0 u2)⟩ (fun hHeld => ?_)
    clear hK K
    refine norm_ (a' := ?_) ?_ ?_
    rotate_left
    · show Act.put _ (some 20) _ = _
      simp only [Act.put, List.setIfInBounds_toArray, List.set_cons_zero, List.set_cons_succ, i64_w, i32_w]
      rfl
    refine one_ (i := 2) (N := some 21) #[true, true, true] rfl rfl (by kernel_rfl) (by decide) (fun K hK => ?_)
    refine goes_ Tryd.func85 (by kernel_rfl) rfl #[bookV g' A' l.length c' (some mb), .agg #[.func (.func 97) #[] #[]]] (by rfl) rfl rfl (by simp only [List.map_toArray, List.map_cons, List.map_nil]; rfl) ?_
    with_reducible refine (pairsV_any _ _ _ _ _ _).mono ?_
    rintro e w4 ⟨rfl, hw4⟩
    refine ⟨_, rfl, ?_⟩
    have HPB := Lib.hid (show Bx w4 w3.heap.size 83 (bookC g' A' l.length c' (some mb)) from by rw [hw4]; exact (Bx.new _ _ _).alloc _)
    have HPO := Lib.hid (show Bx w4 (w3.heap.size + 1) 115 #[.func (.func 97) #[] #[]] from by rw [hw4]; exact Bx.of_new (by simp))
    have HW4 := Lib.hid (show Fr0 W7 w4 from by rw [hw4]; exact (HW3.out.alloc _).alloc _)
    have hs4 : w4.heap.size = w3.heap.size + 2 := by rw [hw4]; simp
    clear hw4
    refine hK.out _ _ ⟨(HW4.out.cell0 u0), (HW4.out.cell0 u1), (HW4.out.cell0 u2)⟩ (fun hHeld => ?_)
    clear hK K
    refine norm_ (a' := ?_) ?_ ?_
    rotate_left
    · show Act.put _ (some 21) _ = _
      simp only [Act.put, List.setIfInBounds_toArray, List.set_cons_zero, List.set_cons_succ, i64_w, i32_w]
      rfl
    refine done_ (by kernel_rfl) ?_
    go_wp2
    have hw73 : W7.heap.size ≤ w3.heap.size := HW3.out.size
    have hit := pairs_iter w g' A' c' l (some mb) hl w3.heap.size (w3.heap.size + 1)
    have HFW4 := Lib.hid (Fr0.trans HF7.out HW4.out)
    clear u0 u1 u2
    refine wpIn_wide.1 (range_top (g := .tmp 21) (by rfl) (fun args w => by kernel_rfl) hit (fun _ => rfl) (fun k => k = W5.heap.size + 1) ?hS ?hN
      (fun pre W' => Fr (fun k => k = W5.heap.size + 1) w4 W' ∧ Bx W' (W5.heap.size + 1) 3 #[.int .i64 (pre.foldl (sureS l lost) 0)])
      (fun _ _ _ => False) ?hJ (fun _ _ _ _ h _ => h) ?h0 ?hround ?hdone (fun _ _ _ h => h.elim))
    case hS => rintro k rfl; omega
    case hN =>
      intro W9 S' h89 hS'
      refine ⟨fr_below (Fr0.trans HFW4.out h89), HBk.out.r, HBk.out.c, (HPB.out.fr0 h89).at_ 0 rfl, (HPB.out.fr0 h89).at_ 1 rfl, (HPB.out.fr0 h89).at_ 2 rfl, (HPO.out.fr0 h89).at_ 0 rfl, ?_⟩
      intro k hk
      rcases hS' k hk with rfl | h <;> omega
    case hJ => exact fun pre A B h hf => ⟨h.1.step hf (fun k hk e => by omega), h.2.fr hf (by omega)⟩
    case h0 => exact fun W9 h49 => ⟨Fr.of0 h49, HB8.out.fr0 (Fr0.trans HW4.out h49)⟩
    case hdone =>
      rintro W9 ⟨hf49, h8⟩ hD
      rw [← HSM.out] at h8
      have hsb := HSB.out (pairsL (spotsN l l.length)) 0 (by omega)
      rw [← HSM.out] at hsb
      have HF49 := Lib.hid hf49
      have HD9' := Lib.hid hD
      have q8 := h8.at_ 0 (v := .int .i64 SM) rfl
      have hff : Fr (fun k => w.heap.size ≤ k) w W9 := HFW4.out.of0.step hf49 (fun k hk e => by omega)
      have HFF := Lib.hid hff
      clear hf49 hD h8 hit hl hff
      by_cases hm : SM = 64
      · have HM := Lib.hid hm
        subst hm
        go_wp2
        refine ret_marks (.tuple #[.int .i64 0, .int .i64 4]) [w3.heap.size + 2] (fun D hD => by rw [List.mem_singleton.1 hD, ← hs4]; exact HD9'.out) (by simp) (by simp [results, Tryd.results37, go_sem, shut]) ⟨by rw [HNN.out]; simp, ?_⟩
        exact (HFF.out.step (Fr.put1 _ _ _) (fun k hk e => by omega)).below (Nat.le_refl _) (fun k hk => by omega)
      · have HM := Lib.hid hm
        have hbm : (SM == 64) = false := by simpa using hm
        have HW := Lib.hid (show wrap64 (SM + 1) = SM + 1 by rw [w64 (by omega) (by omega)])
        go_wp2
        refine ret_marks (.tuple #[.int .i64 (SM + 1), .int .i64 0]) [w4.heap.size] (fun D hD => by rw [List.mem_singleton.1 hD]; exact HD9'.out) (by simp) (by simp [results, Tryd.results37, go_sem, shut, HW.out]) ⟨by rw [HNN.out, if_neg HM.out], ?_⟩
        exact (HFF.out.step (Fr.put1 _ _ _) (fun k hk e => by omega)).below (Nat.le_refl _) (fun k hk => by omega)
    case hround =>
      rintro pre x rest W9 hx ⟨hf49, h8⟩ ⟨r, hl9⟩
      have hlb : w4.heap.size + 1 < W9.heap.size := (Array.getElem?_eq_some_iff.1 hl9).1
      have hin := pairs_in (show x ∈ pairsL (spotsN l l.length) by rw [hx]; simp)
      have hx1 := HSOK.out _ hin.1
      have hx2 := HSOK.out _ hin.2
      have HXS := Lib.hid (show (pre ++ [x]).foldl (sureS l lost) 0 = sureS l lost (pre.foldl (sureS l lost) 0) x by rw [List.foldl_append]; rfl)
      obtain ⟨⟨s0, s1⟩, ⟨t0, t1⟩⟩ := x
      dsimp only at hx1 hx2
      have HSS := Lib.hid (show ∀ acc, sureS l lost acc (⟨s0, s1⟩, ⟨t0, t1⟩) = mx acc (untilF l s0 s1 t0 t1 lost) from fun _ => rfl)
      simp only [List.zip_toArray, List.zip_cons_cons, List.zip_nil_right, List.foldl_toArray', List.foldl_cons, List.foldl_nil, List.setIfInBounds_toArray, List.set_cons_zero, List.set_cons_succ]
      generalize hacc : pre.foldl (sureS l lost) 0 = acc at *
      clear hacc
      have HF49 := Lib.hid hf49
      have H8 := Lib.hid h8
      clear hl9 hx hin hf49 h8 hit hl
      gi_wp2
      refine ⟨(Fr.refl _ _).alloc _, fun W10 h10 hl10 => ?_⟩
      clear hl10
      have B11 := Lib.hid ((Bx.new W9 118 #[.int .i64 s0, .int .i64 s1, .int .i64 t0, .int .i64 t1]).fr h10 (by omega))
      have F910 : Fr (fun k => k = w4.heap.size + 1) W9 W10 := ((Fr.refl _ _).alloc _).trans h10
      have f410 := HF49.out.step F910 (fun k hk e => by omega)
      have F410 := Lib.hid f410
      have FW10 := Lib.hid (show Fr0 w W10 from HFW4.out.step f410 (fun k hk e => by omega))
      have J8 := Lib.hid (H8.out.fr F910 (by omega))
      have hs910 : W9.heap.size < W10.heap.size := B11.out.lt
      have b6 := (HB6.out.fr0 HW4.out).fr f410 (by omega)
      have q8 := J8.out.at_ 0 (v := .int .i64 acc) rfl
      have u0 := b6.at_ 0 (v := .int .i64 g') rfl
      have u1 := b6.at_ 1 (v := .slice A' l.length c') rfl
      have u2 := b6.at_ 2 (v := .map (some mb)) rfl
      have d1 := ((HD1.out.fr0 HW4.out).fr f410 (by omega)).at_ 0 (v := .int .i64 lost) rfl
      have x0 := B11.out.at_ 0 (v := .int .i64 s0) rfl
      have x1 := B11.out.at_ 1 (v := .int .i64 s1) rfl
      have x2 := B11.out.at_ 2 (v := .int .i64 t0) rfl
      have x3 := B11.out.at_ 3 (v := .int .i64 t1) rfl
      have hS10 : St g' A' c' l mb W10 := by
        have h4 := HS7.out.fr HW4.out
        obtain ⟨f, hm, hv⟩ := h4.m
        exact ⟨C_fr HBk.out.r FW10.out, HBk.out.c, ⟨f, hm.same (f410.block mb hm.lt (fun e => by omega)), hv⟩, HBk.out.glob.fr FW10.out⟩
      have HUN := Lib.hid (fun W (hf : Fr0 W10 W) => until_any g' A' c' l mb HHL.out s0 s1 t0 t1 lost W (hS10.fr hf) hx1.1 hx1.2.1 hx2.1 hx2.2.1 ⟨hx1.2.2.1, hx1.2.2.2⟩ ⟨hx2.2.2.1, hx2.2.2.2⟩)
      generalize untilF l s0 s1 t0 t1 lost = U at *
      clear F910 f410 h10 hS10 b6
      gi_wp2
      refine start_round (n := 8) (S := fun w' => w'.cell? ⟨W5.heap.size + 1, 0, none⟩ = some (.int .i64 acc) ∧ w'.cell? ⟨W5.heap.size, 0, none⟩ = some (.int .i64 g') ∧ w'.cell? ⟨W5.heap.size, 1, none⟩ = some (.slice A' l.length c') ∧ w'.cell? ⟨W5.heap.size, 2, none⟩ = some (.map (some mb)) ∧ w'.cell? ⟨W9.heap.size, 0, none⟩ = some (.int .i64 s0) ∧ w'.cell? ⟨W9.heap.size, 1, none⟩ = some (.int .i64 s1) ∧ w'.cell? ⟨W9.heap.size, 2, none⟩ = some (.int .i64 t0) ∧ w'.cell? ⟨W9.heap.size, 3, none⟩ = some (.int .i64 t1) ∧ w'.cell? ⟨w.heap.size + 1, 0, none⟩ = some (.int .i64 lost)) (ds := [7]) #[false, false, false, false, false, false, false, false] (by kernel_rfl) (by kernel_rfl) rfl rfl ⟨q8, u0, u1, u2, x0, x1, x2, x3, d1⟩ (fun hHeld => ?_)
      refine take_ (i := 0) (N := some 23) (v := ?_) (a' := ?_) #[true, false, false, false, false, false, false, false] rfl rfl (by kernel_rfl) (fun _ _ _ h => h) (Or.inl ⟨by rfl, ?_⟩) hHeld ?_ ?_
      rotate_left
      · rintro w' ⟨s0, s1, s2, s3, s4, s5, s6, s7, s8⟩
        go_simp
        with_reducible rfl
      rotate_left
      · simp only [Act.put, List.setIfInBounds_toArray, List.set_cons_zero, List.set_cons_succ, i64_w, i32_w]
        rfl
      refine take_ (i := 1) (N := some 24) (v := ?_) (a' := ?_) #[true, true, false, false, false, false, false, false] rfl rfl (by kernel_rfl) (fun _ _ _ h => h) (Or.inl ⟨by rfl, ?_⟩) hHeld ?_ ?_
      rotate_left
      · rintro w' ⟨s0, s1, s2, s3, s4, s5, s6, s7, s8⟩
        go_simp
        with_reducible rfl
      rotate_left
      · simp only [Act.put, List.setIfInBounds_toArray, List.set_cons_zero, List.set_cons_succ, i64_w, i32_w]
        rfl
      refine take_ (i := 2) (N := some 25) (v := ?_) (a' := ?_) #[true, true, true, false, false, false, false, false] rfl rfl (by kernel_rfl) (fun _ _ _ h => h) (Or.inl ⟨by rfl, ?_⟩) hHeld ?_ ?_
      rotate_left
      · rintro w' ⟨s0, s1, s2, s3, s4, s5, s6, s7, s8⟩
        go_simp
        with_reducible rfl
      rotate_left
      · simp only [Act.put, List.setIfInBounds_toArray, List.set_cons_zero, List.set_cons_succ, i64_w, i32_w]
        rfl
      refine take_ (i := 3) (N := some 26) (v := ?_) (a' := ?_) #[true, true, true, true, false, false, false, false] rfl rfl (by kernel_rfl) (fun _ _ _ h => h) (Or.inl ⟨by rfl, ?_⟩) hHeld ?_ ?_
      rotate_left
      · rintro w' ⟨s0, s1, s2, s3, s4, s5, s6, s7, s8⟩
        go_simp
        with_reducible rfl
      rotate_left
      · simp only [Act.put, List.setIfInBounds_toArray, List.set_cons_zero, List.set_cons_succ, i64_w, i32_w]
        rfl
      refine one_ (i := 4) (N := some 27) #[true, true, true, true, true, false, false, false] rfl rfl (by kernel_rfl) (by decide) (fun K hK => ?_)
      refine goes_ Tryd.func84 (by kernel_rfl) rfl #[bookV g' A' l.length c' (some mb), twoV s0 s1 t0 t1, .int .i64 lost] (by rfl) rfl rfl (by simp only [List.map_toArray, List.map_cons, List.map_nil]; rfl) ?_
      with_reducible refine (HUN.out _ (Fr.drew (Fr.refl _ _))).mono ?_
      rintro e w11 ⟨rfl, hf11⟩
      refine ⟨_, rfl, ?_⟩
      have HW11 := Lib.hid (Fr0.trans (Fr.drew (Fr.refl _ W10)) hf11)
      refine hK.out _ _ ⟨(HW11.out.cell0 q8), (HW11.out.cell0 u0), (HW11.out.cell0 u1), (HW11.out.cell0 u2), (HW11.out.cell0 x0), (HW11.out.cell0 x1), (HW11.out.cell0 x2), (HW11.out.cell0 x3), (HW11.out.cell0 d1)⟩ (fun hHeld => ?_)
      clear hK K
      refine norm_ (a' := ?_) ?_ ?_
      rotate_left
      · show Act.put _ (some 27) _ = _
        simp only [Act.put, List.setIfInBounds_toArray, List.set_cons_zero, List.set_cons_succ, i64_w, i32_w]
        rfl
      refine one_ (i := 5) (N := some 28) #[true, true, true, true, true, true, false, false] rfl rfl (by kernel_rfl) (by decide) (fun K hK => ?_)
      refine value_ (w1 := ?_) (v := ?_) (by rfl) rfl ?_ ?_
      rotate_left 2
      · go_simp
        constructor
        · rfl
        · rfl
      refine hK.out _ _ ⟨((HW11.out.alloc _).cell0 q8), ((HW11.out.alloc _).cell0 u0), ((HW11.out.alloc _).cell0 u1), ((HW11.out.alloc _).cell0 u2), ((HW11.out.alloc _).cell0 x0), ((HW11.out.alloc _).cell0 x1), ((HW11.out.alloc _).cell0 x2), ((HW11.out.alloc _).cell0 x3), ((HW11.out.alloc _).cell0 d1)⟩ (fun hHeld => ?_)
      clear hK K
      refine norm_ (a' := ?_) ?_ ?_
      rotate_left
      · show Act.put _ (some 28) _ = _
        simp only [Act.put, List.setIfInBounds_toArray, List.set_cons_zero, List.set_cons_succ, i64_w, i32_w]
        rfl
      refine one_ (i := 6) (N := some 29) #[true, true, true, true, true, true, true, false] rfl rfl (by kernel_rfl) (by decide) (fun K hK => ?_)
      refine goes_ Tryd.func89 (by kernel_rfl) rfl #[.int .i64 acc, .slice (some ⟨w11.heap.size, 0, none⟩) 1 1] (by rfl) rfl rfl (by simp only [List.map_toArray, List.map_cons, List.map_nil]; rfl) ?_
      with_reducible refine (greatest_any acc U ⟨w11.heap.size, 0, none⟩ _ ((Bx.new w11 3 #[.int .i64 U]).at_ 0 rfl)).mono ?_
      rintro e w12 ⟨rfl, hf12⟩
      refine ⟨_, rfl, ?_⟩
      have HW12 := Lib.hid (Fr0.trans (HW11.out.alloc (.cells #[.int .i64 U] 3)) hf12)
      have HJ12 := Lib.hid (J8.out.fr0 HW12.out)
      have z8 := HJ12.out.frz 0
      have l8 := HJ12.out.lt
      refine hK.out _ _ ⟨(HW12.out.cell0 q8), (HW12.out.cell0 u0), (HW12.out.cell0 u1), (HW12.out.cell0 u2), (HW12.out.cell0 x0), (HW12.out.cell0 x1), (HW12.out.cell0 x2), (HW12.out.cell0 x3), (HW12.out.cell0 d1)⟩ (fun hHeld => ?_)
      clear hK K
      refine norm_ (a' := ?_) ?_ ?_
      rotate_left
      · show Act.put _ (some 29) _ = _
        simp only [Act.put, List.setIfInBounds_toArray, List.set_cons_zero, List.set_cons_succ, i64_w, i32_w]
        rfl
      refine last_ (i := 7) (N := none) #[true, true, true, true, true, true, true, true] rfl rfl (by kernel_rfl) (by decide) (fun K hK => ?_)
      refine skip_ (w1 := ?_) (by rfl) rfl ?_ ?_
      rotate_left
      · go_simp
        rfl
      refine hK.out _ _ ?_
      clear hK K
      refine done_ (by kernel_rfl) ?_
      gi_wp2
      have hset := HJ12.out.set_ 0 (.int .i64 (mx acc U))
      have hfs : Fr (fun k => k = W5.heap.size + 1) W10 (w12.setCell ⟨W5.heap.size + 1, 0, none⟩ (.int .i64 (mx acc U))) := Fr.setCell (S := fun k => k = W5.heap.size + 1) (Fr.of0 HW12.out) (.inl rfl) _
      refine ⟨hfs, F410.out.trans hfs, ?_⟩
      rw [HXS.out, HSS.out]
      exact hset
  · have hN : sureF g l lost = (0, openE g l (okSure g l lost)) := by unfold sureF; rw [if_neg hz]
    rw [hN]
    clear hN
    generalize openE g l (okSure g l lost) = E at *
    go_enter Tryd.func37, Tryd.ntmps37
    go_wp2_with (first
      | (go_at_call 52; (with_reducible refine (HOP.out _ _ ?hw ?h1).mono ?_); (case hw => exact HFW.out); (case h1 => exact HC1.out.at_ 0 rfl); rintro e W5 ⟨g', A', n', c', o', rfl, hf5, hop⟩))
    refine bodyPost_ret (v := .tuple #[.int .i64 0, .int .i64 E]) (by simp [results, Tryd.results37, go_sem]) rfl ⟨rfl, ?_⟩
    exact fr_below (Fr.alloc (Fr0.trans HFW.out hf5) _)
end Go.Proofs.YtephecfapclgfaaDoor.R
namespace Go.Proofs.YtephecfapclgfaaDoor.PRaspKeys
open Go.RowKit Go.Proofs.YtephecfapclgfaaDoorW.PrintWords Go.Proofs.YtephecfapclgfaaDoorW.PrintLast Go.Proofs.YtephecfapclgfaaDoor.R
def cycle_Passage.f (a0_0 : Int) (l0_1 : List S63) (a1_0 : Int) (a1_1 : Int) (a2 : Int) : Option (List (List Int) × Int) := some (passF a0_0 l0_1 a1_0 a1_1 a2)
theorem cycle_Passage.calls (a0_0 : Int) (A0_1 : Option Addr) (c0_1 : Nat) (l0_1 : List S63) (a1_0 : Int) (a1_1 : Int) (a2 : Int) (r1 : List (List Int)) (r2 : Int) (w : World) (hr0_1 : Kd.C k63 w A0_1 l0_1.length l0_1) (hc0_1 : l0_1.length ≤ c0_1) (hG : Glob w) (h : cycle_Passage.f a0_0 l0_1 a1_0 a1_1 a2 = some (r1, r2)) :
    Calls Tryd.prog 24 #[.agg #[.int .i64 a0_0, .slice A0_1 l0_1.length c0_1], .agg #[.int .i64 a1_0, .int .i64 a1_1], .int .i64 a2] w fun e w' => ∃ v0_ : Value, e = .returned (.tuple #[v0_, .int .i64 r2]) ∧ Kd.V (Kd.slice 3 (Kd.int .i64)) 26 w' w.heap.size (fun k_ => (w.heap.size ≤ k_)) v0_ r1 ∧ Below w.heap.size w w' := by
  have h : passF a0_0 l0_1 a1_0 a1_1 a2 = (r1, r2) := Option.some.inj h
  have hc := passages_any a0_0 A0_1 c0_1 l0_1 a1_0 a1_1 a2 w ⟨hr0_1, hc0_1, hG⟩
  rw [h] at hc
  exact hc
def cycle_Places.f (a0_0 : Int) (l0_1 : List S63) (l1 : List (List Int)) (a2 : Int) : Option (List S38 × Int) := some (placesF a0_0 l0_1 l1 a2)
theorem cycle_Places.calls (a0_0 : Int) (A0_1 : Option Addr) (c0_1 : Nat) (l0_1 : List S63) (A1 : Option Addr) (c1 : Nat) (l1 : List (List Int)) (a2 : Int) (r1 : List S38) (r2 : Int) (w : World) (hr0_1 : Kd.C k63 w A0_1 l0_1.length l0_1) (hc0_1 : l0_1.length ≤ c0_1) (hr1 : Kd.C (Kd.slice 3 (Kd.int .i64)) w A1 l1.length l1) (hc1 : l1.length ≤ c1) (hG : Glob w) (h : cycle_Places.f a0_0 l0_1 l1 a2 = some (r1, r2)) :
    Calls Tryd.prog 27 #[.agg #[.int .i64 a0_0, .slice A0_1 l0_1.length c0_1], .slice A1 l1.length c1, .int .i64 a2] w fun e w' => ∃ v0_ : Value, e = .returned (.tuple #[v0_, .int .i64 r2]) ∧ Kd.V k38 38 w' w.heap.size (fun k_ => (w.heap.size ≤ k_)) v0_ r1 ∧ Below w.heap.size w w' := by
  have h : placesF a0_0 l0_1 l1 a2 = (r1, r2) := Option.some.inj h
  have hc := places_any a0_0 A0_1 c0_1 l0_1 A1 c1 l1 a2 w ⟨hr0_1, hc0_1, hG⟩ hr1 hc1
  rw [h] at hc
  exact hc
def cycle_Least.f (a0_0 : Int) (l0_1 : List S63) (l1 : List (List Int)) : Option (Int × Int) := some (leastF a0_0 l0_1 l1)
theorem cycle_Least.calls (a0_0 : Int) (A0_1 : Option Addr) (c0_1 : Nat) (l0_1 : List S63) (A1 : Option Addr) (c1 : Nat) (l1 : List (List Int)) (r1 : Int) (r2 : Int) (w : World) (hr0_1 : Kd.C k63 w A0_1 l0_1.length l0_1) (hc0_1 : l0_1.length ≤ c0_1) (hr1 : Kd.C (Kd.slice 3 (Kd.int .i64)) w A1 l1.length l1) (hc1 : l1.length ≤ c1) (hG : Glob w) (h : cycle_Least.f a0_0 l0_1 l1 = some (r1, r2)) :
    Calls Tryd.prog 30 #[.agg #[.int .i64 a0_0, .slice A0_1 l0_1.length c0_1], .slice A1 l1.length c1] w fun e w' => e = .returned (.tuple #[.int .i64 r1, .int .i64 r2]) ∧ Below w.heap.size w w' := by
  have h : leastF a0_0 l0_1 l1 = (r1, r2) := Option.some.inj h
  have hc := least_any a0_0 A0_1 c0_1 l0_1 A1 c1 l1 w ⟨hr0_1, hc0_1, hG⟩ hr1 hc1
  rw [h] at hc
  exact hc
def cycle_Missing.f (a0_0 : Int) (l0_1 : List S63) (a1_0 : Int) (a1_1 : Int) (l2 : List (List Int)) : Option (List S97 × Int) := some (missingF a0_0 l0_1 a1_0 a1_1 l2)
theorem cycle_Missing.calls (a0_0 : Int) (A0_1 : Option Addr) (c0_1 : Nat) (l0_1 : List S63) (a1_0 : Int) (a1_1 : Int) (A2 : Option Addr) (c2 : Nat) (l2 : List (List Int)) (r1 : List S97) (r2 : Int) (w : World) (hr0_1 : Kd.C k63 w A0_1 l0_1.length l0_1) (hc0_1 : l0_1.length ≤ c0_1) (hr2 : Kd.C (Kd.slice 3 (Kd.int .i64)) w A2 l2.length l2) (hc2 : l2.length ≤ c2) (hG : Glob w) (h : cycle_Missing.f a0_0 l0_1 a1_0 a1_1 l2 = some (r1, r2)) :
    Calls Tryd.prog 32 #[.agg #[.int .i64 a0_0, .slice A0_1 l0_1.length c0_1], .agg #[.int .i64 a1_0, .int .i64 a1_1], .slice A2 l2.length c2] w fun e w' => ∃ v0_ : Value, e = .returned (.tuple #[v0_, .int .i64 r2]) ∧ Kd.V k97 97 w' w.heap.size (fun k_ => (w.heap.size ≤ k_)) v0_ r1 ∧ Below w.heap.size w w' := by
  have h : missingF a0_0 l0_1 a1_0 a1_1 l2 = (r1, r2) := Option.some.inj h
  have hc := missings_any a0_0 A0_1 c0_1 l0_1 a1_0 a1_1 A2 c2 l2 w ⟨hr0_1, hc0_1, hG⟩ hr2 hc2
  rw [h] at hc
  exact hc
def cycle_Confused.f (a0_0 : Int) (l0_1 : List S63) (a1 : Int) (a2 : Int) : Option (Int × Int × Int × Int × Int) := some ((confF a0_0 l0_1 a1 a2).1.1.f0, (confF a0_0 l0_1 a1 a2).1.1.f1, (confF a0_0 l0_1 a1 a2).1.2.f0, (confF a0_0 l0_1 a1 a2).1.2.f1, (confF a0_0 l0_1 a1 a2).2)
theorem cycle_Confused.calls (a0_0 : Int) (A0_1 : Option Addr) (c0_1 : Nat) (l0_1 : List S63) (a1 : Int) (a2 : Int) (r1_0 r1_1 r2_0 r2_1 r3 : Int) (w : World) (hr0_1 : Kd.C k63 w A0_1 l0_1.length l0_1) (hc0_1 : l0_1.length ≤ c0_1) (hG : Glob w) (h : cycle_Confused.f a0_0 l0_1 a1 a2 = some (r1_0, r1_1, r2_0, r2_1, r3)) :
    Calls Tryd.prog 35 #[.agg #[.int .i64 a0_0, .slice A0_1 l0_1.length c0_1], .int .i64 a1, .int .i64 a2] w fun e w' => e = .returned (.tuple #[.agg #[.int .i64 r1_0, .int .i64 r1_1], .agg #[.int .i64 r2_0, .int .i64 r2_1], .int .i64 r3]) ∧ Below w.heap.size w w' := by
  have h := Option.some.inj h
  simp only [Prod.mk.injEq] at h
  obtain ⟨h1, h2, h3, h4, h5⟩ := h
  have hc := confused_any a0_0 A0_1 c0_1 l0_1 a1 a2 w ⟨hr0_1, hc0_1, hG⟩
  rw [h1, h2, h3, h4, h5] at hc
  exact hc
def cycle_Sure.f (a0_0 : Int) (l0_1 : List S63) (a1 : Int) : Option (Int × Int) := some (sureF a0_0 l0_1 a1)
theorem cycle_Sure.calls (a0_0 : Int) (A0_1 : Option Addr) (c0_1 : Nat) (l0_1 : List S63) (a1 : Int) (r1 : Int) (r2 : Int) (w : World) (hr0_1 : Kd.C k63 w A0_1 l0_1.length l0_1) (hc0_1 : l0_1.length ≤ c0_1) (hG : Glob w) (h : cycle_Sure.f a0_0 l0_1 a1 = some (r1, r2)) :
    Calls Tryd.prog 37 #[.agg #[.int .i64 a0_0, .slice A0_1 l0_1.length c0_1], .int .i64 a1] w fun e w' => e = .returned (.tuple #[.int .i64 r1, .int .i64 r2]) ∧ Below w.heap.size w w' := by
  have h : sureF a0_0 l0_1 a1 = (r1, r2) := Option.some.inj h
  have hc := sure_any a0_0 A0_1 c0_1 l0_1 a1 w ⟨hr0_1, hc0_1, hG⟩
  rw [h] at hc
  exact hc
end Go.Proofs.YtephecfapclgfaaDoor.PRaspKeys
namespace Go.Proofs.YtephecfapclgfaaDoor.R
open Go.RowKit Go.Proofs.YtephecfapclgfaaDoorW.PrintWords Go.Proofs.YtephecfapclgfaaDoorW.PrintLast Go.Proofs.YtephecfapclgfaaDoor.PRaspKeys

/-! ### What the eight functions tell of the law's own book -/
abbrev bookL : List S63 := [⟨8, [[7], [3, 7], [0, 2, 4, 6]]⟩, ⟨4, [[3], [1], [0, 2]]⟩]
theorem bk_struck : struckF 3 bookL 0 15 = ([0, 1], 0) := by kernel_rfl
theorem bk_next : nextF 3 bookL 0 1 8 = (11, 0) := by kernel_rfl
theorem bk_even : evenF 3 bookL 0 2 = (2, 0) := by kernel_rfl
theorem bk_passage : passF 3 bookL 0 5 4 = ([[], [2], [0, 1], [2]], 0) := by kernel_rfl
theorem bk_places : placesF 3 bookL [[2], [], [2]] 1 = ([⟨0, 0⟩, ⟨0, 2⟩, ⟨0, 4⟩, ⟨1, 0⟩, ⟨1, 2⟩], 0) := by kernel_rfl
theorem bk_missing : missingF 3 bookL 0 6 [[2], [], [2]] = ([⟨1, 0⟩, ⟨1, 1⟩], 0) := by kernel_rfl
theorem bk_confused : confF 3 bookL 0 3 = ((⟨0, 0⟩, ⟨0, 4⟩), 0) := by kernel_rfl
theorem bk_sure : sureF 3 bookL 1 = (12, 0) := by kernel_rfl
theorem bk_least : leastF 3 bookL [[1], [2], [], [2], [1]] = (1, 0) := by kernel_rfl
end Go.Proofs.YtephecfapclgfaaDoor.R
namespace Go.Proofs.YtephecfapclgfaaDoor.R
open Go.RowKit Go.Shelf Go.Proofs.YtephecfapclgfaaDoorW.PrintWords Go.Proofs.YtephecfapclgfaaDoorW.PrintLast Go.Proofs.YtephecfapclgfaaDoorW.PrintMore Go.Proofs.YtephecfapclgfaaDoor.PRaspKeys Go.Proofs.YtephecfapclgfaaDoor.X

/-! ### The calls of 'marked', each with what it tells of the law's own book -/
theorem mk_fr {w w' : World} (h : Below w.heap.size w w') : Fr0 w w' := Go.Proofs.YtephecfapclgfaaDoor.X.Fr.of_below h
theorem mk_book (w : World) (hG : Glob w) : Calls Tryd.prog 50 #[] w fun e w' => ∃ A c, e = .returned (.agg #[.int .i64 3, .slice A bookL.length c]) ∧ Book w' A c bookL ∧ Fr0 w w' := by
  refine (saronlaw05_book.calls 3 bookL w rfl).mono ?_
  rintro e w' ⟨v, rfl, hN, hb⟩
  obtain ⟨A, c, rfl⟩ := Kd.N_slice hN
  have h := Kd.N_reads' hN
  exact ⟨A, c, rfl, ⟨h.2.2, h.2.1, hG.fr (mk_fr hb)⟩, mk_fr hb⟩
theorem mk_some (w : World) : Calls Tryd.prog 51 #[] w fun e w' => ∃ A c, e = .returned (.slice A ([[2], [], [2]] : List (List Int)).length c) ∧ Kd.C (Kd.slice 3 (Kd.int .i64)) w' A ([[2], [], [2]] : List (List Int)).length [[2], [], [2]] ∧ 3 ≤ c ∧ Fr0 w w' := by
  refine (saronlaw05_some.calls [[2], [], [2]] w rfl).mono ?_
  rintro e w' ⟨v, rfl, hN, hb⟩
  obtain ⟨A, c, rfl⟩ := Kd.N_slice hN
  have h := Kd.N_reads' hN
  exact ⟨A, c, rfl, h.2.2, h.2.1, mk_fr hb⟩
theorem mk_struck {w : World} {A : Option Addr} {c : Nat} (hB : Book w A c bookL) : Calls Tryd.prog 14 #[.agg #[.int .i64 3, .slice A bookL.length c], .int .i64 0, .int .i64 15] w fun e w' => ∃ A2 c2, e = .returned (.tuple #[.slice A2 ([0, 1] : List Int).length c2, .int .i64 0]) ∧ Kd.C (Kd.int .i64) w' A2 ([0, 1] : List Int).length [0, 1] ∧ 2 ≤ c2 ∧ Fr0 w w' := by
  have h := struck_any 3 A c bookL 0 15 w hB
  rw [bk_struck] at h
  refine h.mono ?_
  rintro e w' ⟨v, rfl, ⟨A2, c2, rfl, hc, hF⟩, hb⟩
  exact ⟨A2, c2, rfl, Kd.F_now hF, hc, mk_fr hb⟩
theorem mk_next {w : World} {A : Option Addr} {c : Nat} (hB : Book w A c bookL) : Calls Tryd.prog 19 #[.agg #[.int .i64 3, .slice A bookL.length c], .int .i64 0, .int .i64 1, .int .i64 8] w fun e w' => e = .returned (.tuple #[.int .i64 11, .int .i64 0]) ∧ Fr0 w w' := by
  have h := nexts_any 3 A c bookL 0 1 8 w hB
  rw [bk_next] at h
  exact h.mono fun e w' h => ⟨h.1, mk_fr h.2⟩
theorem mk_even {w : World} {A : Option Addr} {c : Nat} (hB : Book w A c bookL) : Calls Tryd.prog 21 #[.agg #[.int .i64 3, .slice A bookL.length c], .int .i64 0, .int .i64 2] w fun e w' => e = .returned (.tuple #[.int .i64 2, .int .i64 0]) ∧ Fr0 w w' := by
  have h := even_any 3 A c bookL 0 2 w hB
  rw [bk_even] at h
  exact h.mono fun e w' h => ⟨h.1, mk_fr h.2⟩
theorem mk_passage {w : World} {A : Option Addr} {c : Nat} (hB : Book w A c bookL) : Calls Tryd.prog 24 #[.agg #[.int .i64 3, .slice A bookL.length c], .agg #[.int .i64 0, .int .i64 5], .int .i64 4] w fun e w' => ∃ A2 c2, e = .returned (.tuple #[.slice A2 ([[], [2], [0, 1], [2]] : List (List Int)).length c2, .int .i64 0]) ∧ Kd.C (Kd.slice 3 (Kd.int .i64)) w' A2 ([[], [2], [0, 1], [2]] : List (List Int)).length [[], [2], [0, 1], [2]] ∧ 4 ≤ c2 ∧ Fr0 w w' := by
  have h := passages_any 3 A c bookL 0 5 4 w hB
  rw [bk_passage] at h
  refine h.mono ?_
  rintro e w' ⟨v, rfl, ⟨A2, c2, rfl, hc, hF⟩, hb⟩
  exact ⟨A2, c2, rfl, Kd.F_now hF, hc, mk_fr hb⟩
theorem mk_places {w : World} {A Ap : Option Addr} {c cp : Nat} (hB : Book w A c bookL) (hr : Kd.C (Kd.slice 3 (Kd.int .i64)) w Ap ([[2], [], [2]] : List (List Int)).length [[2], [], [2]]) (hc : 3 ≤ cp) : Calls Tryd.prog 27 #[.agg #[.int .i64 3, .slice A bookL.length c], .slice Ap ([[2], [], [2]] : List (List Int)).length cp, .int .i64 1] w fun e w' =>
    ∃ A2 c2, e = .returned (.tuple #[.slice A2 ([⟨0, 0⟩, ⟨0, 2⟩, ⟨0, 4⟩, ⟨1, 0⟩, ⟨1, 2⟩] : List S38).length c2, .int .i64 0]) ∧ Kd.C k38 w' A2 ([⟨0, 0⟩, ⟨0, 2⟩, ⟨0, 4⟩, ⟨1, 0⟩, ⟨1, 2⟩] : List S38).length [⟨0, 0⟩, ⟨0, 2⟩, ⟨0, 4⟩, ⟨1, 0⟩, ⟨1, 2⟩] ∧ 5 ≤ c2 ∧ Fr0 w w' := by
  have h := places_any 3 A c bookL Ap cp [[2], [], [2]] 1 w hB hr hc
  rw [bk_places] at h
  refine h.mono ?_
  rintro e w' ⟨v, rfl, ⟨A2, c2, rfl, hc, hF⟩, hb⟩
  exact ⟨A2, c2, rfl, Kd.F_now hF, hc, mk_fr hb⟩
theorem mk_missing {w : World} {A Ap : Option Addr} {c cp : Nat} (hB : Book w A c bookL) (hr : Kd.C (Kd.slice 3 (Kd.int .i64)) w Ap ([[2], [], [2]] : List (List Int)).length [[2], [], [2]]) (hc : 3 ≤ cp) : Calls Tryd.prog 32 #[.agg #[.int .i64 3, .slice A bookL.length c], .agg #[.int .i64 0, .int .i64 6], .slice Ap ([[2], [], [2]] : List (List Int)).length cp] w fun e w' =>
    ∃ A2 c2, e = .returned (.tuple #[.slice A2 ([⟨1, 0⟩, ⟨1, 1⟩] : List S97).length c2, .int .i64 0]) ∧ Kd.C k97 w' A2 ([⟨1, 0⟩, ⟨1, 1⟩] : List S97).length [⟨1, 0⟩, ⟨1, 1⟩] ∧ 2 ≤ c2 ∧ Fr0 w w' := by
  have h := missings_any 3 A c bookL 0 6 Ap cp [[2], [], [2]] w hB hr hc
  rw [bk_missing] at h
  refine h.mono ?_
  rintro e w' ⟨v, rfl, ⟨A2, c2, rfl, hc, hF⟩, hb⟩
  exact ⟨A2, c2, rfl, Kd.F_now hF, hc, mk_fr hb⟩
theorem mk_confused {w : World} {A : Option Addr} {c : Nat} (hB : Book w A c bookL) : Calls Tryd.prog 35 #[.agg #[.int .i64 3, .slice A bookL.length c], .int .i64 0, .int .i64 3] w fun e w' => e = .returned (.tuple #[.agg #[.int .i64 0, .int .i64 0], .agg #[.int .i64 0, .int .i64 4], .int .i64 0]) ∧ Fr0 w w' := by
  have h := confused_any 3 A c bookL 0 3 w hB
  rw [bk_confused] at h
  exact h.mono fun e w' h => ⟨h.1, mk_fr h.2⟩
theorem mk_sure {w : World} {A : Option Addr} {c : Nat} (hB : Book w A c bookL) : Calls Tryd.prog 37 #[.agg #[.int .i64 3, .slice A bookL.length c], .int .i64 1] w fun e w' => e = .returned (.tuple #[.int .i64 12, .int .i64 0]) ∧ Fr0 w w' := by
  have h := sure_any 3 A c bookL 1 w hB
  rw [bk_sure] at h
  exact h.mono fun e w' h => ⟨h.1, mk_fr h.2⟩
theorem mk_least {w : World} {A Ap : Option Addr} {c cp : Nat} (hB : Book w A c bookL) (hr : Kd.C (Kd.slice 3 (Kd.int .i64)) w Ap ([[1], [2], [], [2], [1]] : List (List Int)).length [[1], [2], [], [2], [1]]) (hc : 5 ≤ cp) : Calls Tryd.prog 30 #[.agg #[.int .i64 3, .slice A bookL.length c], .slice Ap ([[1], [2], [], [2], [1]] : List (List Int)).length cp] w fun e w' => e = .returned (.tuple #[.int .i64 1, .int .i64 0]) ∧ Fr0 w w' := by
  have h := least_any 3 A c bookL Ap cp [[1], [2], [], [2], [1]] w hB hr hc
  rw [bk_least] at h
  exact h.mono fun e w' h => ⟨h.1, mk_fr h.2⟩
theorem mk_dr {w w' : World} (h : Drawn0 w w') : Fr0 w w' := by obtain ⟨n, rfl⟩ := h; exact (Fr.refl _ _).drewN n
theorem mk_equal {w : World} {A B : Option Addr} {c d : Nat} (hA : Kd.C (Kd.int .i64) w A ([0, 1] : List Int).length [0, 1]) (hc : 2 ≤ c) (hB : Kd.C (Kd.int .i64) w B ([0, 1] : List Int).length [0, 1]) (hd : 2 ≤ d) :
    Calls Tryd.prog 16 #[.slice A ([0, 1] : List Int).length c, .slice B ([0, 1] : List Int).length d] w fun e w' => e = .returned (.bool true) ∧ Fr0 w w' :=
  (saronref00_Equal.calls 10 A c [0, 1] B d [0, 1] true w hA hc hB hd (by kernel_rfl)).mono fun e w' h => ⟨h.1, mk_dr h.2⟩
theorem mk_rows {w : World} {A B : Option Addr} {c d : Nat} (hA : Kd.C (Kd.slice 3 (Kd.int .i64)) w A ([[], [2], [0, 1], [2]] : List (List Int)).length [[], [2], [0, 1], [2]]) (hc : 4 ≤ c) (hB : Kd.C (Kd.slice 3 (Kd.int .i64)) w B ([[], [2], [0, 1], [2]] : List (List Int)).length [[], [2], [0, 1], [2]]) (hd : 4 ≤ d) :
    Calls Tryd.prog 26 #[.slice A ([[], [2], [0, 1], [2]] : List (List Int)).length c, .slice B ([[], [2], [0, 1], [2]] : List (List Int)).length d] w fun e w' => e = .returned (.bool true) ∧ Fr0 w w' :=
  (saronref00_EqualRows.calls 20 A c _ B d _ true w hA hc hB hd (by kernel_rfl)).mono fun e w' h => ⟨h.1, mk_dr h.2⟩
theorem mk_spots {w : World} {A B : Option Addr} {c d : Nat} (hA : Kd.C k38 w A ([⟨0, 0⟩, ⟨0, 2⟩, ⟨0, 4⟩, ⟨1, 0⟩, ⟨1, 2⟩] : List S38).length [⟨0, 0⟩, ⟨0, 2⟩, ⟨0, 4⟩, ⟨1, 0⟩, ⟨1, 2⟩]) (hc : 5 ≤ c) (hB : Kd.C k38 w B ([⟨0, 0⟩, ⟨0, 2⟩, ⟨0, 4⟩, ⟨1, 0⟩, ⟨1, 2⟩] : List S38).length [⟨0, 0⟩, ⟨0, 2⟩, ⟨0, 4⟩, ⟨1, 0⟩, ⟨1, 2⟩]) (hd : 5 ≤ d) :
    Calls Tryd.prog 29 #[.slice A ([⟨0, 0⟩, ⟨0, 2⟩, ⟨0, 4⟩, ⟨1, 0⟩, ⟨1, 2⟩] : List S38).length c, .slice B ([⟨0, 0⟩, ⟨0, 2⟩, ⟨0, 4⟩, ⟨1, 0⟩, ⟨1, 2⟩] : List S38).length d] w fun e w' => e = .returned (.bool true) ∧ Fr0 w w' :=
  (saronref05_SameSpots.calls 20 A c _ B d _ true w hA hc hB hd (by kernel_rfl)).mono fun e w' h => ⟨h.1, mk_dr h.2⟩
theorem mk_strokes {w : World} {A B : Option Addr} {c d : Nat} (hA : Kd.C k97 w A ([⟨1, 0⟩, ⟨1, 1⟩] : List S97).length [⟨1, 0⟩, ⟨1, 1⟩]) (hc : 2 ≤ c) (hB : Kd.C k97 w B ([⟨1, 0⟩, ⟨1, 1⟩] : List S97).length [⟨1, 0⟩, ⟨1, 1⟩]) (hd : 2 ≤ d) :
    Calls Tryd.prog 34 #[.slice A ([⟨1, 0⟩, ⟨1, 1⟩] : List S97).length c, .slice B ([⟨1, 0⟩, ⟨1, 1⟩] : List S97).length d] w fun e w' => e = .returned (.bool true) ∧ Fr0 w w' :=
  (saronref05_SameStrokes.calls 20 A c _ B d _ true w hA hc hB hd (by kernel_rfl)).mono fun e w' h => ⟨h.1, mk_dr h.2⟩
end Go.Proofs.YtephecfapclgfaaDoor.R
namespace Go.Proofs.YtephecfapclgfaaDoor.R
open Go.RowKit Go.Shelf Go.Proofs.YtephecfapclgfaaDoorW.PrintWords Go.Proofs.YtephecfapclgfaaDoorW.PrintLast Go.Proofs.YtephecfapclgfaaDoorW.PrintMore Go.Proofs.YtephecfapclgfaaDoor.PRaspKeys Go.Proofs.YtephecfapclgfaaDoor.X
attribute [local go_sem] Oper.semAt_some

/-! ### marked -/
theorem flat_get {α : Type} {enc : α → List Value} {n : Nat} (hs : ∀ x, (enc x).length = n) : ∀ (xs : List α) (j i : Nat) (p : α) (u : Value), xs[j]? = some p → (enc p)[i]? = some u → (xs.flatMap enc)[j * n + i]? = some u
  | [], j, i, p, u, hj, hi => by simp at hj
  | x :: xs, 0, i, p, u, hj, hi => by
    obtain rfl : x = p := by simpa using hj
    have hl : i < (enc x).length := (List.getElem?_eq_some_iff.1 hi).1
    rw [List.flatMap_cons, List.getElem?_append_left (by omega)]
    simpa using hi
  | x :: xs, j + 1, i, p, u, hj, hi => by
    rw [List.flatMap_cons, List.getElem?_append_right (by rw [hs, Nat.succ_mul]; omega), hs]
    have := flat_get hs xs j i p u (by simpa using hj) hi
    rw [show (j + 1) * n + i - n = j * n + i by rw [Nat.succ_mul]; omega]
    exact this
theorem C_mk {α : Type} (d : Kd α) {W : World} {b : Nat} {t : TypeId} {cells : Array Value} (xs : List α) (enc : α → List Value) (hK : ∀ x ∈ xs, d.K W x (enc x)) (hs : ∀ x, (enc x).length = d.sz) (hc : cells = (xs.flatMap enc).toArray) (hl : xs.length ≤ 9223372036854775807) (h : Bx W b t cells) :
    Kd.C d W (some ⟨b, 0, none⟩) xs.length xs := by
  subst hc
  refine ⟨rfl, hl, fun _ => ⟨_, rfl, fun j p hp => ⟨enc p, hs p, hK p (List.mem_of_getElem? hp), fun i u hu => ?_⟩⟩⟩
  have := h.at_ (j * d.sz + i) (v := u) (by rw [List.getElem?_toArray]; exact flat_get hs xs j i p u hp hu)
  have e : (⟨b, 0, none⟩ : Addr).add (j * d.sz + i) = ⟨b, j * d.sz + i, none⟩ := by
    generalize j * d.sz + i = m
    unfold Addr.add
    by_cases h0 : m = 0 <;> simp [h0]
  rw [e]
  exact this
theorem flat_one : ∀ xs : List Int, xs.flatMap (fun x => [Value.int .i64 x]) = xs.map (Value.int .i64)
  | [] => rfl
  | x :: xs => by rw [List.flatMap_cons, flat_one xs]; rfl
theorem C_ints {W : World} {b : Nat} {t : TypeId} {cells : Array Value} (xs : List Int) (h : Bx W b t cells) (hc : cells = (xs.map (Value.int .i64)).toArray) (hl : xs.length ≤ 9223372036854775807) : Kd.C (Kd.int .i64) W (some ⟨b, 0, none⟩) xs.length xs :=
  C_mk (Kd.int .i64) xs (fun x => [.int .i64 x]) (fun x _ => rfl) (fun _ => rfl) (by rw [hc, flat_one xs]) hl h
end Go.Proofs.YtephecfapclgfaaDoor.R
