import Derived.Test.YtfmpbkolpjlfbaaDoorPS
import Derived.Test.YtfmpbkolpjlfbaaDoorC0
set_option linter.unusedVariables false
set_option linter.unusedSimpArgs false
namespace Go.Proofs.YtfmpbkolpjlfbaaDoor.Q
open Go.RowKit Go.Proofs.YtfmpbkolpjlfbaaDoorW.PrintWords Go.Proofs.YtfmpbkolpjlfbaaDoorW.PrintLast Go.Proofs.YtfmpbkolpjlfbaaDoor.PRaspKeys Go.Proofs.YtfmpbkolpjlfbaaDoor.R

theorem isState_f (a b : Int) : saronref03_isState.f a b = some (asked a b) := by
  unfold saronref03_isState.f asked
  rw [sits_f, sits_f]
  simp only [Option.bind_some]
  cases isIn a (-60) 60 <;> simp

/-! ### Check -/
theorem rcheck_l1 (l0 : List S57) (lo hi : Int) (l3 : List S69) (hs : l3.length ≤ 9223372036854775807) : ∀ (d n : Nat) (q : Bool), n + d = l3.length →
    Ev (fun k => saronref03_Check.l1 k q (n : Int) l0 lo hi l3) (if (q && (l3.drop n).all keyOk) = true then 0 else 30)
  | d, n, false, hd => by
    refine Ev.step (fun k => by rw [saronref03_Check.l1, if_neg (by simp)]) ?_
    refine Ev.step (fun k => by rw [saronref03_Check.j4, if_neg (by simp), if_neg (by simp)]) ?_
    simpa using Ev.now (30 : Int)
  | 0, n, true, hd => by
    refine Ev.step (fun k => by rw [saronref03_Check.l1, if_pos rfl, show decide ((n : Int) < (l3.length : Int)) = false by simp; omega]) ?_
    refine Ev.step (fun k => by rw [saronref03_Check.j4, if_neg (by simp), if_pos rfl]) ?_
    rw [List.drop_of_length_le (by omega)]
    simpa using Ev.now (0 : Int)
  | d + 1, n, true, hd => by
    have hn : n < l3.length := by omega
    refine Ev.step (fun k => by rw [saronref03_Check.l1, if_pos rfl, show decide ((n : Int) < (l3.length : Int)) = true by simp; omega]) ?_
    have hrd : rd_T69 l3 (n : Int) = l3[n] := by simp [rd_T69, hn]
    rw [List.drop_eq_getElem_cons hn, List.all_cons]
    refine Ev.step (fun k => by rw [saronref03_Check.j4, if_pos rfl, if_pos (by omega), if_pos (by omega), hrd, good_f, Option.bind_some, w64 (by omega) (by omega), show ((n : Int) + 1) = ((n + 1 : Nat) : Int) by omega]) ?_
    by_cases c : (decide (-60 ≤ l3[n].f0.f0) && (decide (l3[n].f0.f0 ≤ l3[n].f0.f1) && decide (l3[n].f0.f1 ≤ 60))) = true
    · refine evc (fun k => by rw [if_pos c, sits_f, Option.bind_some]) ?_
      have := rcheck_l1 l0 lo hi l3 hs d (n + 1) (isIn l3[n].f1 0 30) (by omega)
      unfold keyOk at this ⊢
      rw [c]
      simpa using this
    · refine evc (fun k => by rw [if_neg c]) ?_
      have := rcheck_l1 l0 lo hi l3 hs d (n + 1) false (by omega)
      unfold keyOk at this ⊢
      rw [Bool.not_eq_true] at c
      rw [c]
      simpa using this
theorem rcheck_l0 (l0 : List S57) (lo hi : Int) (l3 : List S69) (hs0 : l0.length ≤ 9223372036854775807) (hs : l3.length ≤ 9223372036854775807) : ∀ (d n : Nat) (q : Bool), n + d = l0.length →
    Ev (fun k => saronref03_Check.l0 k q (n : Int) l0 lo hi l3) (if (q && ((l0.drop n).all toolOk && l3.all keyOk)) = true then 0 else 30)
  | d, n, false, hd => by
    refine Ev.step (fun k => by rw [saronref03_Check.l0, if_neg (by simp)]) ?_
    refine Ev.step (fun k => by rw [saronref03_Check.j2, if_neg (by simp)]) ?_
    have := rcheck_l1 l0 lo hi l3 hs l3.length 0 false (by omega)
    simpa using this
  | 0, n, true, hd => by
    refine Ev.step (fun k => by rw [saronref03_Check.l0, if_pos rfl, show decide ((n : Int) < (l0.length : Int)) = false by simp; omega]) ?_
    refine Ev.step (fun k => by rw [saronref03_Check.j2, if_neg (by simp)]) ?_
    rw [List.drop_of_length_le (by omega)]
    have := rcheck_l1 l0 lo hi l3 hs l3.length 0 true (by omega)
    simpa using this
  | d + 1, n, true, hd => by
    have hn : n < l0.length := by omega
    refine Ev.step (fun k => by rw [saronref03_Check.l0, if_pos rfl, show decide ((n : Int) < (l0.length : Int)) = true by simp; omega]) ?_
    have hrd : rd_T57 l0 (n : Int) = l0[n] := by simp [rd_T57, hn]
    rw [List.drop_eq_getElem_cons hn, List.all_cons]
    refine Ev.step (fun k => by rw [saronref03_Check.j2, if_pos rfl, if_pos (by omega), if_pos (by omega), hrd, good_f, Option.bind_some, w64 (by omega) (by omega), show ((n : Int) + 1) = ((n + 1 : Nat) : Int) by omega]) ?_
    by_cases c : (decide (-30 ≤ l0[n].f0.f0) && (decide (l0[n].f0.f0 ≤ l0[n].f0.f1) && decide (l0[n].f0.f1 ≤ 30))) = true
    · refine evc (fun k => by rw [if_pos c, sits_f, Option.bind_some]) ?_
      have := rcheck_l0 l0 lo hi l3 hs0 hs d (n + 1) (isIn l0[n].f1 1 10) (by omega)
      unfold toolOk at this ⊢
      rw [c]
      simpa [Bool.and_assoc] using this
    · refine evc (fun k => by rw [if_neg c]) ?_
      have := rcheck_l0 l0 lo hi l3 hs0 hs d (n + 1) false (by omega)
      unfold toolOk at this ⊢
      rw [Bool.not_eq_true] at c
      rw [c]
      simpa using this
theorem rcheck_f (l0 : List S57) (lo hi : Int) (l3 : List S69) (hs0 : l0.length ≤ 9223372036854775807) (hs : l3.length ≤ 9223372036854775807) : Ev (fun k => saronref03_Check.f k l0 lo hi l3) (checkE l0 lo hi l3) := by
  have hj : ∀ q, Ev (fun k => saronref03_Check.j0 k q l0 lo hi l3) (if (q && (l0.all toolOk && l3.all keyOk)) = true then 0 else 30) := by
    intro q
    refine Ev.step (fun k => by rw [saronref03_Check.j0]) ?_
    have := rcheck_l0 l0 lo hi l3 hs0 hs l0.length 0 q (by omega)
    simpa using this
  unfold checkE bookOk isIn
  by_cases c1 : 1 ≤ (l0.length : Int)
  · by_cases c2 : (l0.length : Int) ≤ 4
    · by_cases c3 : (decide (-60 ≤ lo) && (decide (lo ≤ hi) && decide (hi ≤ 60))) = true
      · refine evc (fun k => by rw [saronref03_Check.f, if_pos c1, if_pos c2, good_f, Option.bind_some, if_pos c3]) ?_
        have e : decide ((l3.length : Int) ≤ 6) = decide (l3.length ≤ 6) := by by_cases h : l3.length ≤ 6 <;> simp [h] <;> omega
        have := hj (decide ((l3.length : Int) ≤ 6))
        rw [e] at this ⊢
        rw [c3, show decide ((1 : Int) ≤ (l0.length : Int)) = true by simpa using c1, show decide ((l0.length : Int) ≤ 4) = true by simpa using c2]
        simpa [Bool.and_assoc] using this
      · refine evc (fun k => by rw [saronref03_Check.f, if_pos c1, if_pos c2, good_f, Option.bind_some, if_neg c3]) ?_
        rw [Bool.not_eq_true] at c3
        rw [c3]
        simpa using hj false
    · refine evc (fun k => by rw [saronref03_Check.f, if_pos c1, if_neg c2]) ?_
      rw [show decide ((l0.length : Int) ≤ 4) = false by simpa using c2]
      simpa using hj false
  · refine evc (fun k => by rw [saronref03_Check.f, if_neg c1]) ?_
    rw [show decide ((1 : Int) ≤ (l0.length : Int)) = false by simpa using c1]
    simpa using hj false
theorem rasked_f (l0 : List S57) (lo hi : Int) (l3 : List S69) (ok : Bool) (hs0 : l0.length ≤ 9223372036854775807) (hs : l3.length ≤ 9223372036854775807) : Ev (fun k => saronref03_asked.f k l0 lo hi l3 ok) (openV l0 lo hi l3 ok) := by
  refine ebind (rcheck_f l0 lo hi l3 hs0 hs) ?_
  unfold openV openE
  refine ev_some fun k => ?_
  by_cases h : checkE l0 lo hi l3 = 0
  · simp only [h, if_true, ne_eq, not_true_eq_false, if_false]
    cases ok <;> rfl
  · rw [if_neg h, if_pos h]
end Go.Proofs.YtfmpbkolpjlfbaaDoor.Q
namespace Go.Proofs.YtfmpbkolpjlfbaaDoor.Q
open Go.RowKit Go.Proofs.YtfmpbkolpjlfbaaDoorW.PrintWords Go.Proofs.YtfmpbkolpjlfbaaDoorW.PrintLast Go.Proofs.YtfmpbkolpjlfbaaDoor.PRaspKeys Go.Proofs.YtfmpbkolpjlfbaaDoor.R

/-! ### The reference's rows -/
section
variable (tools : List S57) (lo hi : Int) (l3 : List S69)
def wyB (worst : Bool) : Int := if worst = true then 0 else 1
def rowOf (way : Int) (m : Int) : List Int := (List.range 121).map fun i : Nat => (strk tools lo hi way (-60 + (i : Int)) m).2
def rowsTo (way : Int) (n : Nat) : List S93 := (List.range n).map fun m : Nat => (⟨rowOf tools lo hi way (m : Int)⟩ : S93)
theorem rowOf_len (way m : Int) : (rowOf tools lo hi way m).length = 121 := by simp [rowOf]
theorem rowsTo_len (way : Int) (n : Nat) : (rowsTo tools lo hi way n).length = n := by simp [rowsTo]
theorem rowsTo_rd (way : Int) (n : Nat) (m : Int) (h0 : 0 ≤ m) (h1 : m < n) : rd_T93 (rowsTo tools lo hi way n) m = ⟨rowOf tools lo hi way m⟩ := by
  unfold rd_T93 rowsTo
  have h : m.toNat < n := by omega
  simp [List.getD, h, Int.toNat_of_nonneg h0]
theorem row_at_f (way m o : Int) (hb : -1000 ≤ o) (hb' : o ≤ 1000) : saronref03_row_at.f (rowOf tools lo hi way m) o = some (strk tools lo hi way o m).2 := by
  unfold saronref03_row_at.f
  rw [sits_f, Option.bind_some]
  by_cases h : -60 ≤ o ∧ o ≤ 60
  · rw [if_pos (isIn_iff.2 h), w64 (by omega) (by omega), if_pos (by omega), if_pos (by rw [rowOf_len]; omega)]
    congr 1
    unfold rd rowOf
    have h' : (o + 60).toNat < 121 := by omega
    simp [List.getD, h']
    congr 2
    omega
  · rw [if_neg (by rw [isIn_iff]; exact h), strk_out _ _ _ _ _ _ h]
theorem leads_l0 (way m : Int) (worst : Bool) (hw : way = wyB worst) (off tlo thi tc : Int) (hb : -60 ≤ off) (hb' : off ≤ 60) (ht : -30 ≤ tlo) (ht' : thi ≤ 30) : ∀ (n : Nat) (a d : Int), d + n = thi + 1 → -30 ≤ d →
    Ev (fun k => saronref03_leads.l0 k off worst a d (rowOf tools lo hi way m) tlo thi tc) (fo (fun a x => cnt way a (strk tools lo hi way (off + x) m).2) n a d)
  | 0, a, d, hd, h0 => by
    refine Ev.step (fun k => by rw [saronref03_leads.l0, if_neg (by omega)]) ?_
    exact Ev.now _
  | n + 1, a, d, hd, h0 => by
    have ih := leads_l0 way m worst hw off tlo thi tc hb hb' ht ht' n (cnt way a (strk tools lo hi way (off + d) m).2) (d + 1) (by omega) (by omega)
    unfold fo
    cases worst with
    | true =>
      refine Ev.step (fun k => by rw [saronref03_leads.l0, if_pos (by omega), if_pos rfl, w64 (x := off + d) (by omega) (by omega), row_at_f _ _ _ _ _ _ (by omega) (by omega), Option.bind_some, w64 (x := d + 1) (by omega) (by omega)]) ?_
      have e : ∀ b, mx a b = cnt way a b := fun b => by rw [hw]; unfold mx cnt wyB; simp; omega
      rw [e]
      exact ih
    | false =>
      refine Ev.step (fun k => by rw [saronref03_leads.l0, if_pos (by omega), if_neg (by simp), w64 (x := off + d) (by omega) (by omega), row_at_f _ _ _ _ _ _ (by omega) (by omega), Option.bind_some, w64 (x := d + 1) (by omega) (by omega)]) ?_
      have e : ∀ b, mn a b = cnt way a b := fun b => by rw [hw]; unfold mn cnt wyB; simp; omega
      rw [e]
      exact ih
theorem leads_f (way m : Int) (worst : Bool) (hw : way = wyB worst) (off tlo thi tc : Int) (hb : -60 ≤ off) (hb' : off ≤ 60) (ht : -30 ≤ tlo) (hlh : tlo ≤ thi) (ht' : thi ≤ 30) :
    Ev (fun k => saronref03_leads.f k (rowOf tools lo hi way m) tlo thi tc off worst) (ld way (fun o => (strk tools lo hi way o m).2) tlo thi off) := by
  have h := leads_l0 tools lo hi way m worst hw off tlo thi tc hb hb' ht ht' (thi - tlo + 1).toNat (if way = 0 then 0 else 1000) tlo (by omega) ht
  unfold ld
  cases worst with
  | true =>
    have hw' : way = 0 := by rw [hw]; rfl
    refine evc (fun k => by rw [saronref03_leads.f, if_pos rfl]) ?_
    refine Ev.step (fun k => by rw [saronref03_leads.j0]) ?_
    rw [if_pos hw'] at h ⊢
    exact h
  | false =>
    have hw' : ¬ way = 0 := by rw [hw]; simp [wyB]
    refine evc (fun k => by rw [saronref03_leads.f, if_neg (by simp)]) ?_
    refine Ev.step (fun k => by rw [saronref03_leads.j0]) ?_
    rw [if_neg hw'] at h ⊢
    exact h
theorem sound_at (hs : Sound tools) (k : Nat) (hk : k < tools.length) : rd_T57 tools (k : Int) = tools.getD k z57 := by simp [rd_T57]
theorem stool_le (way : Int) (G : Int → Int → Int) (off metal : Int) (out : Int × Int) (k : Nat) (h : out.2 ≤ 1000) : (stool tools way G off metal out k).2 ≤ 1000 := by
  unfold stool
  split
  · exact h
  · split
    · show min 1000 _ ≤ 1000; omega
    · exact h
theorem best_l0 (hs : Sound tools) (hl : tools.length ≤ 4) (way : Int) (worst : Bool) (hw : way = wyB worst) (N : Nat) (off m : Int) (hb : -60 ≤ off) (hb' : off ≤ 60) (h0 : 0 ≤ m) (hm : m ≤ N) (hN : N ≤ 31) : ∀ (d n : Nat) (out : Int × Int), n + d = tools.length → out.2 ≤ 1000 →
    Ev (fun k => saronref03_best.l0 k (rowsTo tools lo hi way N) off m worst out.1 out.2 (n : Int) tools lo hi l3) ((List.range' n d).foldl (stool tools way (fun o mm => (strk tools lo hi way o mm).2) off m) out)
  | 0, n, out, hd, ho => by
    refine Ev.step (fun k => by rw [saronref03_best.l0, if_neg (by omega)]) ?_
    exact Ev.now _
  | d + 1, n, out, hd, ho => by
    have hn : n < tools.length := by omega
    have hrd := sound_at tools hs n hn
    have hc := hs.cost n hn
    have hmv := hs.move n hn
    have ih := fun out ho => best_l0 hs hl way worst hw N off m hb hb' h0 hm hN d (n + 1) out (by omega) ho
    rw [List.range'_succ, List.foldl_cons]
    have ho' := stool_le tools way (fun o mm => (strk tools lo hi way o mm).2) off m out n ho
    refine Ev.step (fun k => by rw [saronref03_best.l0, if_pos (by omega), if_pos (by omega), hrd, w64 (x := (n : Int) + 1) (by omega) (by omega), w64 (x := m - _) (by omega) (by omega), show ((n : Int) + 1) = ((n + 1 : Nat) : Int) by omega]) ?_
    by_cases c : (tools.getD n z57).f1 > m
    · refine evc (fun k => by rw [if_pos c]) ?_
      have e : stool tools way (fun o mm => (strk tools lo hi way o mm).2) off m out n = out := by unfold stool; rw [if_pos (by omega)]
      rw [e]
      exact ih out ho
    · refine evc (fun k => by rw [if_neg c, if_pos (by omega), if_pos (by rw [rowsTo_len]; omega), rowsTo_rd _ _ _ _ _ _ (by omega) (by omega)]) ?_
      refine ebind (leads_f tools lo hi way (m - (tools.getD n z57).f1) worst hw off _ _ _ hb hb' (by omega) (by omega) (by omega)) ?_
      have hL := leadsTo_eq way (fun o mm => (strk tools lo hi way o mm).2) (tools.getD n z57) off m (fun o m => strk_bnd tools lo hi way o m) (by omega)
      have e : stool tools way (fun o mm => (strk tools lo hi way o mm).2) off m out n = if min 1000 (leadsTo way (fun o mm => (strk tools lo hi way o mm).2) (tools.getD n z57) off m + 1) < out.2 then ((n : Int), min 1000 (leadsTo way (fun o mm => (strk tools lo hi way o mm).2) (tools.getD n z57) off m + 1)) else out := by
        unfold stool; rw [if_neg (by omega)]
      rw [e, hL]
      rw [e, hL] at ho'
      have hLb := ld_bnd (way := way) (by rw [hw]; cases worst <;> simp [wyB]) (fun o => strk_bnd tools lo hi way o (m - (tools.getD n z57).f1)) (lo := (tools.getD n z57).f0.f0) (hi := (tools.getD n z57).f0.f1) (off := off) (by omega)
      generalize ld way (fun o => (strk tools lo hi way o (m - (tools.getD n z57).f1)).2) (tools.getD n z57).f0.f0 (tools.getD n z57).f0.f1 off = L at *
      clear hL e
      by_cases c1 : L < 1000
      · by_cases c2 : L + 1 < out.2
        · refine evc (fun k => by rw [if_pos c1, w64 (x := L + 1) (by omega) (by omega), if_pos c2]) ?_
          rw [show min 1000 (L + 1) = L + 1 by omega] at ho' ⊢
          rw [if_pos c2] at ho' ⊢
          exact ih _ ho'
        · refine evc (fun k => by rw [if_pos c1, w64 (x := L + 1) (by omega) (by omega), if_neg c2]) ?_
          rw [show min 1000 (L + 1) = L + 1 by omega] at ho' ⊢
          rw [if_neg c2] at ho' ⊢
          exact ih _ ho'
      · refine evc (fun k => by rw [if_neg c1]) ?_
        rw [show min 1000 (L + 1) = 1000 by omega] at ho' ⊢
        rw [if_neg (by omega)] at ho' ⊢
        exact ih _ ho'
theorem best_f (hs : Sound tools) (hl : tools.length ≤ 4) (way : Int) (worst : Bool) (hw : way = wyB worst) (N : Nat) (off m : Int) (hb : -60 ≤ off) (hb' : off ≤ 60) (h0 : 0 ≤ m) (hm : m ≤ N) (hN : N ≤ 31) :
    Ev (fun k => saronref03_best.f k tools lo hi l3 (rowsTo tools lo hi way N) off m worst) (strk tools lo hi way off m) := by
  rw [strk_eq hs lo hi way off m h0, if_neg (by omega)]
  by_cases c : lo ≤ off ∧ off ≤ hi
  · refine evc (fun k => by rw [saronref03_best.f, bears_f, Option.bind_some, if_pos (isIn_iff.2 c)]) ?_
    rw [if_pos c]
    exact Ev.now _
  · refine evc (fun k => by rw [saronref03_best.f, bears_f, Option.bind_some, if_neg (by rw [isIn_iff]; exact c)]) ?_
    rw [if_neg c, List.range_eq_range']
    exact best_l0 tools lo hi l3 hs hl way worst hw N off m hb hb' h0 hm hN tools.length 0 (-1, 1000) (by omega) (by simp)
theorem rowOf_get (way m : Int) (j : Nat) (hj : j < 121) : (rowOf tools lo hi way m)[j]? = some (strk tools lo hi way (-60 + (j : Int)) m).2 := by
  simp [rowOf, hj]
theorem rowOf_take (way m : Int) (j : Nat) (hj : j < 121) : (rowOf tools lo hi way m).take (j + 1) = (rowOf tools lo hi way m).take j ++ [(strk tools lo hi way (-60 + (j : Int)) m).2] := by
  rw [List.take_add_one, rowOf_get tools lo hi way m j hj]; rfl
theorem rowsTo_succ (way : Int) (m : Nat) : rowsTo tools lo hi way m ++ [(⟨rowOf tools lo hi way m⟩ : S93)] = rowsTo tools lo hi way (m + 1) := by
  simp [rowsTo, List.range_succ]
theorem rows_l1 (hs : Sound tools) (hl : tools.length ≤ 4) (way : Int) (worst : Bool) (hw : way = wyB worst) (m : Nat) (hm : m ≤ 30) (R : List S93)
    (h : Ev (fun k => saronref03_rows.l0 k worst (rowsTo tools lo hi way (m + 1)) ((m + 1 : Nat) : Int) tools lo hi l3) R) : ∀ (d j : Nat), j + d = 121 →
    Ev (fun k => saronref03_rows.l1 k worst (rowsTo tools lo hi way m) (m : Int) (-60 + (j : Int)) tools lo hi l3 ((rowOf tools lo hi way m).take j)) R
  | 0, j, hd => by
    refine Ev.step (fun k => by rw [saronref03_rows.l1, if_neg (by omega), if_pos (by rw [rowsTo_len]; omega), w64 (by omega) (by omega), List.take_of_length_le (by rw [rowOf_len]; omega), rowsTo_succ, show ((m : Int) + 1) = ((m + 1 : Nat) : Int) by omega]) ?_
    exact h
  | d + 1, j, hd => by
    refine Ev.step (fun k => by rw [saronref03_rows.l1, if_pos (by omega)]) ?_
    refine ebind (best_f tools lo hi l3 hs hl way worst hw m (-60 + (j : Int)) m (by omega) (by omega) (by omega) (by omega) (by omega)) ?_
    refine evc (fun k => by rw [if_pos (by simp [rowOf_len]; omega), w64 (by omega) (by omega), ← rowOf_take tools lo hi way m j (by omega), show (-60 + (j : Int) + 1) = -60 + ((j + 1 : Nat) : Int) by omega]) ?_
    exact rows_l1 hs hl way worst hw m hm R h d (j + 1) (by omega)
theorem rows_l0 (hs : Sound tools) (hl : tools.length ≤ 4) (way : Int) (worst : Bool) (hw : way = wyB worst) : ∀ (d m : Nat), m + d = 31 →
    Ev (fun k => saronref03_rows.l0 k worst (rowsTo tools lo hi way m) (m : Int) tools lo hi l3) (rowsTo tools lo hi way 31)
  | 0, m, hd => by
    refine Ev.step (fun k => by rw [saronref03_rows.l0, if_neg (by omega)]) ?_
    obtain rfl : m = 31 := by omega
    exact Ev.now _
  | d + 1, m, hd => by
    refine Ev.step (fun k => by rw [saronref03_rows.l0, if_pos (by omega)]) ?_
    have := rows_l1 tools lo hi l3 hs hl way worst hw m (by omega) _ (rows_l0 hs hl way worst hw d (m + 1) (by omega)) 121 0 (by omega)
    simpa using this
theorem rows_f (hs : Sound tools) (hl : tools.length ≤ 4) (worst : Bool) : Ev (fun k => saronref03_rows.f k tools lo hi l3 worst) (rowsTo tools lo hi (wyB worst) 31) := by
  have := rows_l0 tools lo hi l3 hs hl (wyB worst) worst rfl 31 0 (by omega)
  refine evc (fun k => by rw [saronref03_rows.f]) ?_
  simpa [rowsTo] using this
end
end Go.Proofs.YtfmpbkolpjlfbaaDoor.Q
