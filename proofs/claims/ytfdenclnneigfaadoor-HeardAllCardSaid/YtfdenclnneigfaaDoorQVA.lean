import Derived.Test.YtfdenclnneigfaaDoorQU
import Derived.Test.YtfdenclnneigfaaDoorGF
import Derived.Test.YtfdenclnneigfaaDoorCFA
set_option linter.unusedVariables false
set_option linter.unusedSimpArgs false
namespace Go.Proofs.YtfdenclnneigfaaDoor.Q
open Go.RowKit Go.Proofs.YtfdenclnneigfaaDoorW.PrintWords Go.Proofs.YtfdenclnneigfaaDoorW.PrintLast Go.Proofs.YtfdenclnneigfaaDoor.PRaspKeys Go.Proofs.YtfdenclnneigfaaDoor.R
/-! ### The reference: All -/
theorem rd30 (ns : List S30) (n : Nat) (h : n < ns.length) : rd_T30 ns (n : Int) = ns[n] := by simp [rd_T30, h]
section
variable {g : Int} {l : List S114} {ps : List S62}
theorem tf_of (hk : hbookOk g l ps = true) {piece : Int} (h0 : 0 ≤ piece) (h1 : piece < ps.length) {t gs : List Int} {lost wrong : Int} (hn : noteB t gs lost wrong = true) (hg : gs.length ≤ 9223372036854775807) : TF g l ps piece t gs ∧ 1 ≤ t.length ∧ (0 ≤ lost ∧ lost ≤ 6) ∧ 0 ≤ wrong ∧ wrong ≤ 6 := by
  unfold noteB at hn
  rw [Bool.and_eq_true, Bool.and_eq_true, Bool.and_eq_true, isIn_iff, isIn_iff, tonesB_iff] at hn
  exact ⟨⟨hk, h0, h1, by omega, hn.2.1.1.2, hg⟩, by omega, hn.2.1.2, hn.2.2⟩
def finA (g : Int) (l : List S114) (ps : List S62) (ns : List S30) (ok : Bool) : List Int × Int :=
  if askE g l ps ok = 0 then (lst (fun k => ns.all (fitN g l ps k)) ps.length, 0) else ([], askE g l ps ok)
theorem rall_l2 (hs : Small l) (hk : hbookOk g l ps = true) (ns : List S30) (hn6 : ns.length ≤ 6) (hok : ns.all nOk = true) (hn : ∀ x ∈ ns, x.f0.length ≤ 9223372036854775807 ∧ x.f1.length ≤ 9223372036854775807) (p : Nat) (hp : p < ps.length) {R : List Int × Int}
    (hnext : Ev (fun k => rA.l1 k ns (lst (fun k => ns.all (fitN g l ps k)) (p + 1)) ((p + 1 : Nat) : Int) g l ps) R) : ∀ (d i : Nat), i + d = ns.length →
    Ev (fun k => rA.l2 k ns (lst (fun k => ns.all (fitN g l ps k)) p) (p : Int) ((ns.take i).all (fitN g l ps p)) (i : Int) g l ps) R
  | 0, i, hd => by
    obtain rfl : i = ns.length := by omega
    have hp6 := (pbook_iff.1 hk).2.1
    have hll := lst_len (fun k => ns.all (fitN g l ps k)) p
    have ew : wrap64 ((p : Int) + 1) = ((p + 1 : Nat) : Int) := by rw [w64 (by omega) (by omega)]; omega
    rw [lst_step] at hnext
    rw [List.take_length]
    refine Ev.step (fun k => by rw [rA.l2, if_neg (by omega)]) ?_
    cases c : ns.all (fitN g l ps p)
    · rw [if_neg (by rw [c]; simp)] at hnext
      exact evc (fun k => by rw [if_neg (by simp), ew]) hnext
    · rw [if_pos c] at hnext
      exact evc (fun k => by rw [if_pos rfl, if_pos (by omega), ew]) hnext
  | d + 1, i, hd => by
    have ih := rall_l2 hs hk ns hn6 hok hn p hp hnext d (i + 1) (by omega)
    have hi : i < ns.length := by omega
    have ew : wrap64 ((i : Int) + 1) = ((i + 1 : Nat) : Int) := by rw [w64 (by omega) (by omega)]; omega
    rw [List.take_succ_eq_append_getElem hi, List.all_append, List.all_cons, List.all_nil, Bool.and_true] at ih
    refine Ev.step (fun k => by rw [rA.l2, if_pos (by omega)]) ?_
    cases c : (ns.take i).all (fitN g l ps p)
    · rw [c, Bool.false_and] at ih
      exact evc (fun k => by rw [if_neg (by simp), ew]) ih
    · rw [c, Bool.true_and] at ih
      have hx := List.all_eq_true.1 hok ns[i] (List.getElem_mem hi)
      obtain ⟨hT, ht1, hl, hw⟩ := tf_of hk (show (0 : Int) ≤ (p : Int) by omega) (by omega) hx (hn ns[i] (List.getElem_mem hi)).2
      have hb := begins_f hs hT ht1 ns[i].f2 ns[i].f3 ns[i].f2
      have hf := fits_eq (g := g) (l := l) (ps := ps) (piece := (p : Int)) (t := ns[i].f0) (gs := ns[i].f1) ht1 (wrong := ns[i].f3) (lost := ns[i].f2) (L := ns[i].f2) hl.1 (by omega)
      rw [show (hcx g l ps (p : Int) ns[i].f0 ns[i].f1 ns[i].f2 ns[i].f3).fitsB ns[i].f2 = fitN g l ps p ns[i] from rfl] at hf
      refine evc (fun k => by rw [if_pos rfl, if_pos (by omega), rd30 ns i hi]) ?_
      refine ebind hb ?_
      rw [← hf] at ih
      refine evc (fun k => by rw [ew]) ?_
      refine evc (fun k => ?_) ih
      rw [show decide (((lst (begR (cF l ps (p : Int) ns[i].f0 ns[i].f1) ns[i].f0.length (rd_T62 ps (p : Int)).f1.length ns[i].f3 ns[i].f2) (rd_T62 ps (p : Int)).f1.length).length : Int) > 0) = decide (0 < (lst (begR (cF l ps (p : Int) ns[i].f0 ns[i].f1) ns[i].f0.length (rd_T62 ps (p : Int)).f1.length ns[i].f3 ns[i].f2) (rd_T62 ps (p : Int)).f1.length).length) from decide_eq_decide.2 (by omega)]
theorem rall_l1 (hs : Small l) (hk : hbookOk g l ps = true) (ns : List S30) (hn6 : ns.length ≤ 6) (hok : ns.all nOk = true) (hn : ∀ x ∈ ns, x.f0.length ≤ 9223372036854775807 ∧ x.f1.length ≤ 9223372036854775807) : ∀ (d p : Nat), p + d = ps.length →
    Ev (fun k => rA.l1 k ns (lst (fun k => ns.all (fitN g l ps k)) p) (p : Int) g l ps) (lst (fun k => ns.all (fitN g l ps k)) ps.length, 0)
  | 0, p, hd => by
    obtain rfl : p = ps.length := by omega
    exact Ev.step (fun k => by rw [rA.l1, if_neg (by omega)]) (Ev.now _)
  | d + 1, p, hd => by
    have h2 := rall_l2 hs hk ns hn6 hok hn p (by omega) (rall_l1 hs hk ns hn6 hok hn d (p + 1) (by omega)) ns.length 0 (Nat.zero_add _)
    exact Ev.step (fun k => by rw [rA.l1, if_pos (by omega)]; rfl) h2
theorem rall_j1 (hs : Small l) (hp : ps.length ≤ 9223372036854775807) (hpp : ∀ f ∈ ps, f.f1.length ≤ 9223372036854775807) (ns : List S30) (hn : ∀ x ∈ ns, x.f0.length ≤ 9223372036854775807 ∧ x.f1.length ≤ 9223372036854775807) (ok : Bool) (hok : ok = true → ns.length ≤ 6 ∧ ns.all nOk = true) :
    Ev (fun k => rA.j1 k ns ok g l ps) (finA g l ps ns ok) := by
  have ha := hasked_f hs hp hpp (g := g) ok
  unfold finA
  refine Ev.step (fun k => by rw [rA.j1]) ?_
  refine ebind ha ?_
  by_cases c : askE g l ps ok = 0
  · have h := askE_ok c
    have h2 := hok h.2
    rw [if_pos c]
    exact evc (fun k => by rw [if_pos c]; rfl) (rall_l1 hs h.1 ns h2.1 h2.2 hn ps.length 0 (Nat.zero_add _))
  · rw [if_neg c]
    exact evc (fun k => by rw [if_neg c]) (Ev.now _)
theorem rall_l0 (hs : Small l) (hp : ps.length ≤ 9223372036854775807) (hpp : ∀ f ∈ ps, f.f1.length ≤ 9223372036854775807) (ns : List S30) (hnl : ns.length ≤ 9223372036854775807) (hn : ∀ x ∈ ns, x.f0.length ≤ 9223372036854775807 ∧ x.f1.length ≤ 9223372036854775807) : ∀ (d n : Nat), n + d = ns.length →
    Ev (fun k => rA.l0 k ns (isIn (ns.length : Int) 1 6 && (ns.take n).all nOk) (n : Int) g l ps) (finA g l ps ns (isIn (ns.length : Int) 1 6 && ns.all nOk))
  | 0, n, hd => by
    obtain rfl : n = ns.length := by omega
    rw [List.take_length]
    have hj := rall_j1 hs hp hpp (g := g) ns hn (isIn (ns.length : Int) 1 6 && ns.all nOk) (fun h => by rw [Bool.and_eq_true, isIn_iff] at h; exact ⟨by omega, h.2⟩)
    generalize (isIn (ns.length : Int) 1 6 && ns.all nOk) = q at *
    cases q
    · exact Ev.step (fun k => by rw [rA.l0, if_neg (by simp)]) hj
    · exact Ev.step (fun k => by rw [rA.l0, if_pos rfl, if_neg (by omega)]) hj
  | d + 1, n, hd => by
    have hi : n < ns.length := by omega
    have ih := rall_l0 hs hp hpp ns hnl hn d (n + 1) (by omega)
    rw [List.take_succ_eq_append_getElem hi, List.all_append, List.all_cons, List.all_nil, Bool.and_true, ← Bool.and_assoc] at ih
    cases c : isIn (ns.length : Int) 1 6 && (ns.take n).all nOk
    · have hf : (isIn (ns.length : Int) 1 6 && ns.all nOk) = false := by
        cases h : isIn (ns.length : Int) 1 6 && ns.all nOk
        · rfl
        · rw [Bool.and_eq_true] at h
          rw [h.1, Bool.true_and] at c
          rw [List.all_eq_false] at c
          obtain ⟨x, hx, hx2⟩ := c
          exact absurd (List.all_eq_true.1 h.2 x (List.mem_of_mem_take hx)) hx2
      rw [hf]
      exact Ev.step (fun k => by rw [rA.l0, if_neg (by simp)]) (rall_j1 hs hp hpp ns hn false (fun h => by cases h))
    · rw [c, Bool.true_and] at ih
      have ew : wrap64 ((n : Int) + 1) = ((n + 1 : Nat) : Int) := by rw [w64 (by omega) (by omega)]; omega
      have hx := hn ns[n] (List.getElem_mem hi)
      refine Ev.step (fun k => by rw [rA.l0, if_pos rfl, if_pos (by omega), if_pos (by omega), rd30 ns n hi]) ?_
      refine ebind (rnote_f ns[n].f0 ns[n].f1 ns[n].f2 ns[n].f3 hx.1 hx.2) ?_
      exact evc (fun k => by rw [ew]; rfl) ih
theorem finA_eq (ns : List S30) : finA g l ps ns (isIn (ns.length : Int) 1 6 && ns.all nOk) = allF g l ps ns := by
  unfold finA allF askE hcheckE
  by_cases hk : hbookOk g l ps = true
  · rw [if_pos hk, if_pos hk, if_pos rfl]
    by_cases ho : (isIn (ns.length : Int) 1 6 && ns.all nOk) = true
    · rw [if_pos ho, if_pos ho, if_pos rfl]
    · rw [if_neg ho, if_neg ho, if_neg (by omega)]
  · rw [if_neg hk, if_neg hk, if_neg (by omega), if_neg (by omega)]
theorem rall_f (hs : Small l) (hp : ps.length ≤ 9223372036854775807) (hpp : ∀ f ∈ ps, f.f1.length ≤ 9223372036854775807) (ns : List S30) (hnl : ns.length ≤ 9223372036854775807) (hn : ∀ x ∈ ns, x.f0.length ≤ 9223372036854775807 ∧ x.f1.length ≤ 9223372036854775807) : Ev (fun k => rA.f k g l ps ns) (allF g l ps ns) := by
  rw [← finA_eq]
  have h := rall_l0 hs hp hpp (g := g) ns hnl hn ns.length 0 (Nat.zero_add _)
  rw [List.take_zero, List.all_nil, Bool.and_true] at h
  exact evc (fun k => by rw [rA.f, sits_f, Option.bind_some]; rfl) h
end
end Go.Proofs.YtfdenclnneigfaaDoor.Q
