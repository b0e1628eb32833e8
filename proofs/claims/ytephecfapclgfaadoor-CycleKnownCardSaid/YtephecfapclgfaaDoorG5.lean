import Derived.Test.YtephecfapclgfaaDoorG4
import Derived.Sort.CutIn
set_option linter.unusedVariables false
set_option linter.unusedSimpArgs false
namespace Go.Proofs.YtephecfapclgfaaDoor.R
open Go.RowKit Go.Shelf Go.Proofs.YtephecfapclgfaaDoorW.PrintWords Go.Proofs.YtephecfapclgfaaDoorW.PrintLast Go.Proofs.YtephecfapclgfaaDoorW.PrintMore Go.Proofs.YtephecfapclgfaaDoor.PRaspKeys Go.Proofs.YtephecfapclgfaaDoor.X
attribute [local go_sem] Oper.semAt_some

/-! ### spots -/
theorem inf38 : (Tryd.prog.info? 38).map (fun i => (i.zero, i.size, i.bytes)) = some (some (.agg #[.int .i64 0, .int .i64 0]), 2, 16) := by kernel_rfl
def spotsB (f n : Nat) : List S38 := (List.range n).map fun b : Nat => ⟨(f : Int), (b : Int)⟩
theorem spotsB_snoc (f n : Nat) : spotsB f (n + 1) = spotsB f n ++ [⟨(f : Int), (n : Int)⟩] := by simp [spotsB, List.range_succ]
theorem spotsB_len (f n : Nat) : (spotsB f n).length = n := by simp [spotsB]
def spotsN (l : List S63) : Nat → List S38
  | 0 => []
  | k + 1 => spotsN l k ++ spotsB k (rd_T63 l (k : Nat)).f0.toNat
theorem spotsN_len {l : List S63} (hl : Beats l) : ∀ k, k ≤ l.length → (spotsN l k).length ≤ 32 * k
  | 0, _ => by simp [spotsN]
  | k + 1, h => by
    have := spotsN_len hl k (by omega)
    have h2 := hl.two (k : Nat) (by omega) (by omega)
    unfold spotsN
    rw [List.length_append, spotsB_len]
    omega
set_option maxHeartbeats 4000000 in
set_option maxRecDepth 100000 in
theorem spots_any (g : Int) (A : Option Addr) (c : Nat) (l : List S63) (m : Option Nat) (hl : Beats l) (w : World) (hr : Kd.C k63 w A l.length l) (hc : l.length ≤ c) :
    Calls Tryd.prog 76 #[bookV g A l.length c m] w fun e w' => ∃ v, e = .returned v ∧ Kd.R k38 38 w' w.heap.size (fun k => w.heap.size ≤ k) v (spotsN l l.length) ∧ Fr0 w w' := by
  have hn : l.length ≤ 4 := by have := hl.len; omega
  go_enter Tryd.func76, Tryd.ntmps76
  go_wp2
  have hf0 : Fr0 w (w.alloc (.cells (bookC g A l.length c m) 83)) := (Fr.refl _ _).alloc _
  have B8 := Bx.new w 83 (bookC g A l.length c m)
  have HF0 := Lib.hid hf0
  have hlt8 : w.heap.size < (w.alloc (.cells (bookC g A l.length c m) 83)).heap.size := by simp
  generalize hW8 : World.alloc _ _ = W8 at *
  clear hW8
  have HQ1 := Lib.hid (B8.at_ 1 (v := .slice A l.length c) rfl)
  have HRR := Lib.hid (C_fr hr HF0.out)
  have HL := Lib.hid hl
  clear hf0 B8 hr hl
  go_loopw [3, 10] (fun v3 v10 wr => ∃ f : Nat, f ≤ l.length ∧ v10 = .int .i64 f ∧ Kd.R k38 38 wr W8.heap.size (fun k => W8.heap.size ≤ k) v3 (spotsN l f) ∧ Below W8.heap.size W8 wr) (fun _ v10 _ => (l.length - intOf v10).toNat)
  case atStart => exact ⟨0, by omega, by rfl, Kd.R_nil _ _ _ _ _, Below.refl _ _⟩
  case round =>
    obtain ⟨f, hfn, rfl, hR, hb⟩ := hrel
    by_cases hlt : f < l.length
    · have hle : (f : Int) < l.length := by omega
      have q1 := (hb.cell hlt8).trans HQ1.out
      obtain ⟨ad, A1, c1, rfl, x0, -⟩ := at_T63 (Kd.C_below HRR.out hb) (f : Int) (by omega) hle
      have h2 := HL.out.two (f : Int) (by omega) hle
      have HSN := Lib.hid (spotsN_len HL.out f (by omega))
      have HST := Lib.hid (show spotsN l (f + 1) = spotsN l f ++ spotsB f (rd_T63 l (f : Nat)).f0.toNat from rfl)
      obtain ⟨B, hB⟩ : ∃ B : Nat, (rd_T63 l (f : Int)).f0 = B := ⟨(rd_T63 l (f : Int)).f0.toNat, by omega⟩
      rw [hB] at x0 h2 HST
      rw [Int.toNat_natCast] at HST x0
      generalize hxs : spotsN l f = xs at *
      have HR := Lib.hid hR
      have HBL := Lib.hid hb
      clear hR hb hB hxs
      go_wp2
      clear q1 x0
      go_loopw [3, 20] (fun v3 v20 wr => ∃ b : Nat, b ≤ B ∧ v20 = .int .i64 b ∧ Kd.R k38 38 wr W8.heap.size (fun k => W8.heap.size ≤ k) v3 (xs ++ spotsB f b) ∧ Below W8.heap.size W8 wr) (fun _ v20 _ => (B - intOf v20).toNat)
      case atStart => exact ⟨0, by omega, by rfl, by rw [show xs ++ spotsB f 0 = xs by simp [spotsB]]; exact HR.out, HBL.out⟩
      case round =>
        clear HR HBL
        obtain ⟨b, hbn, rfl, hR, hb⟩ := hrel
        have HBL := Lib.hid hb
        by_cases hltb : b < B
        · have hleb : (b : Int) < B := by omega
          have HSS := Lib.hid (show xs ++ spotsB f (b + 1) = (xs ++ spotsB f b) ++ [⟨(f : Int), (b : Int)⟩] by rw [spotsB_snoc, List.append_assoc])
          have hyl : (xs ++ spotsB f b).length ≤ 32 * f + b := by rw [List.length_append, spotsB_len]; have := HSN.out; omega
          have HYL := Lib.hid hyl
          generalize hys : xs ++ spotsB f b = ys at *
          have HR := Lib.hid hR
          clear hR hb hys hyl
          go_wp2_with (first | ((with_reducible refine gate_builtin (b := .append) (xs := #[.tmp 23, .tmp 27]) rfl ?_); at_builtin; refine Kd.R_append k38 (w0 := W8) W8.heap.size rfl (.tmp 23) (.tmp 27) 45 38 (.agg #[.int .i64 0, .int .i64 0]) 16 rfl Tryd.underlying45 inf38 rfl (by decide) (by omega) _ ys ⟨(f : Int), (b : Int)⟩ [.int .i64 (f : Int), .int .i64 (b : Int)] (fun k => W8.heap.size ≤ k) (fun _ => False) rfl rfl ?aP (fun _ hk => hk.elim) ?aF ?aO ?aB ?aS ?aL ?_; (case aP => exact k38_mkM _ _ _ _); (case aB => exact HBL.out); (case aF => exact (fun k hk => Nat.le_trans HBL.out.size hk)); (case aO => exact HR.out); (case aS => exact HBL.out.size); (case aL => have := HYL.out; omega); intro v104 w6 ho hb hg hat))
          go_roundw
          case rel => exact ⟨b + 1, by omega, by go_num, by rw [HSS.out]; exact ho, hb⟩
          case measure => simp [intOf]; omega
        · obtain rfl : b = B := by omega
          have hle' : ¬ ((b : Int) < b) := by omega
          have HR := Lib.hid hR
          clear hR hb
          go_wp2
          go_roundw
          case rel => exact ⟨f + 1, by omega, by go_num, by rw [HST.out]; simpa using HR.out, HBL.out⟩
          case measure => simp [intOf]; omega
    · obtain rfl : f = l.length := by omega
      have hle' : ¬ ((l.length : Int) < l.length) := by omega
      have HR := Lib.hid hR
      have HBL := Lib.hid hb
      clear hR hb
      go_wp2
      go_ret
      exact ⟨_, rfl, Kd.R_mono (Kd.R_lower HR.out HF0.out.size) (fun k hk => Nat.le_trans HF0.out.size hk), HF0.out.trans (Go.Proofs.YtephecfapclgfaaDoor.X.Fr.of_below HBL.out)⟩
end Go.Proofs.YtephecfapclgfaaDoor.R
namespace Go.Proofs.YtephecfapclgfaaDoor.R
open Go.RowKit Go.Shelf Go.Proofs.YtephecfapclgfaaDoorW.PrintWords Go.Proofs.YtephecfapclgfaaDoorW.PrintLast Go.Proofs.YtephecfapclgfaaDoorW.PrintMore Go.Proofs.YtephecfapclgfaaDoor.PRaspKeys Go.Proofs.YtephecfapclgfaaDoor.X
attribute [local go_sem] Oper.semAt_some

/-! ### A region of a fixed order, within a round -/
theorem oper_in {P : Program} {Q : Exit → Act → World → Prop} {l : Nat} {o : Oper} {K K' : Act → World → Prop} {a : Act} {w : World} (hd : ∀ c, o.op ≠ .defer c) (hK : ∀ a w, K a w → K' a w) (h : Oper.wp P o a w K (noOut Q)) : Oper.wpIn (Fence.wide.inRound l) 0 P o a w K' Q := by
  refine ⟨fun _ _ => trivial, ?_⟩
  unfold Oper.wp at h
  rw [Oper.semAt_eq _ _ _ hd]
  generalize (execOp a.eval o).run P w = r at *
  cases r with
  | ok x w' =>
    cases x <;> simp only [Oper.upon] at h <;> simp only [Oper.uponIn]
    case value u => exact hK _ _ h
    case skip => exact hK _ _ h
    case defer d => exact hK _ _ h
    case enter f args =>
      refine ⟨fun hs => by simp [Fence.wide] at hs, ?_⟩
      refine (show CallsIn Fence.wide _ P f args w' _ from callsIn_wide.2 (h.mono fun e w'' he => ?_))
      cases e with
      | returned v => exact hK _ _ he
      | panicked c => exact he
      | outgrown => exact he.elim fun _ h => h.elim fun _ h => h.elim
    case row row args =>
      refine ⟨fun hs => by simp [Fence.wide] at hs, ?_⟩
      intro c cs _
      obtain ⟨v, w'', hr, hs⟩ := h c cs
      exact ⟨v, w'', hK _ _ hr, stepsIn_wide.2 hs⟩
  | halt x w' =>
    cases x <;> simp only [Oper.upon] at h <;> simp only [Oper.uponIn]
    case panic u => exact h
theorem list_in {P : Program} {Q : Exit → Act → World → Prop} {l : Nat} {ops : Array Oper} : ∀ (os : List Oper) (a : Act) (w : World), (∀ o ∈ os, ∀ c, o.op ≠ .defer c) → wpList P ops (noOut Q) os a w → wpListIn (Fence.wide.inRound l) 0 P ops Q os a w
  | [], _, _, _, h => h
  | o :: os, a, w, hd, h => by
    unfold wpList at h
    unfold wpListIn
    by_cases hw : Region.wanted o (yielded ops a.tmps) = true
    · rw [if_pos hw] at h ⊢
      rcases h with h | ⟨_, _, _, hf⟩
      · exact oper_in (hd o List.mem_cons_self) (fun a w => list_in os a w (fun o ho => hd o (List.mem_cons_of_mem _ ho))) h
      · exact hf.elim
    · rw [if_neg hw] at h ⊢
      exact ⟨fun _ _ => trivial, list_in os _ _ (fun o ho => hd o (List.mem_cons_of_mem _ ho)) h⟩
theorem region_in {P : Program} {Q : Exit → Act → World → Prop} {l id : Nat} {ops : Array Oper} {a : Act} {w : World} (hd : noDefer ops = true) (h : wpList P ops (noOut Q) ops.toList a w) : (Code.region id ops false).wpIn (Fence.wide.inRound l) 0 P Q a w :=
  wpIn_region_list (list_in _ _ _ (fun o ho c => by obtain ⟨i, hi⟩ := List.getElem?_of_mem ho; exact noDefer_spec hd i o (by simpa using hi) c) h)
theorem noOut_normal {Q : Exit → Act → World → Prop} {a : Act} {w : World} (h : Q .normal a w) : noOut Q .normal a w := h
/-! ### missing -/
theorem inf97 : (Tryd.prog.info? 97).map (fun i => (i.zero, i.size, i.bytes)) = some (some (.agg #[.int .i64 0, .int .i64 0]), 2, 16) := by kernel_rfl
theorem gr_fresh {b : Int} : ∀ (xs : List Int) (y : Int) (ys : List Int) (last : Int), gr b last (xs ++ y :: ys) = true → y ∉ xs
  | [], _, _, _, _ => by simp
  | x :: xs, y, ys, last, h => by
    rw [List.cons_append] at h
    unfold gr at h
    rw [Bool.and_eq_true] at h
    have h1 := gr_in _ _ h.2 y (by simp)
    have h2 := gr_fresh xs y ys x h.2
    simp only [List.mem_cons, not_or]
    exact ⟨by omega, h2⟩
theorem take_cons_drop {α : Type} {l : List α} {j : Nat} (h : j < l.length) : l.take j ++ l[j] :: l.drop (j + 1) = l := by rw [← List.drop_eq_getElem_cons h, List.take_append_drop]
/-- What is struck and was not heard. -/
def missH (H : Nat → Bool) (r : List Int) (i : Nat) : Bool := H i && !r.contains (i : Int)
theorem missH_nil (H : Nat → Bool) : missH H [] = H := by funext i; simp [missH]
theorem missH_snoc (H : Nat → Bool) (r : List Int) (x : Nat) (i : Nat) : missH H (r ++ [(x : Int)]) i = (missH H r i && !(i == x)) := by
  have : (List.contains (r ++ [(x : Int)]) (i : Int)) = (r.contains (i : Int) || (i == x)) := by
    by_cases e : i = x
    · subst e; simp
    · have e' : ¬ (i : Int) = x := by omega
      rw [Bool.eq_iff_iff]; simp [e, e']
  unfold missH
  rw [this]
  cases H i <;> cases r.contains (i : Int) <;> cases (i == x) <;> rfl
def pRow (p : List (List Int)) (k : Nat) : List Int := p.getD k []
def fitK (l : List S63) (sf sb : Int) (p : List (List Int)) (k : Nat) : Bool := (pRow p k).all (fun x => passH l sf sb k x.toNat)
def lostK (l : List S63) (sf sb : Int) (p : List (List Int)) (k : Nat) : List S97 := (lst (missH (passH l sf sb k) (pRow p k)) 5).map (fun g => ⟨(k : Int), g⟩)
def lostN (l : List S63) (sf sb : Int) (p : List (List Int)) : Nat → List S97
  | 0 => []
  | k + 1 => lostN l sf sb p k ++ lostK l sf sb p k
def fitN (l : List S63) (sf sb : Int) (p : List (List Int)) : Nat → Bool
  | 0 => true
  | k + 1 => fitN l sf sb p k && fitK l sf sb p k
theorem lostN_len (l : List S63) (sf sb : Int) (p : List (List Int)) : ∀ k, (lostN l sf sb p k).length ≤ 5 * k
  | 0 => by simp [lostN]
  | k + 1 => by
    have := lostN_len l sf sb p k
    have h5 := lst_len (missH (passH l sf sb k) (pRow p k)) 5
    unfold lostN lostK
    rw [List.length_append, List.length_map]
    omega
theorem fitN_le (l : List S63) (sf sb : Int) (p : List (List Int)) : ∀ n k, k < n → fitK l sf sb p k = false → fitN l sf sb p n = false
  | 0, k, h, _ => by omega
  | n + 1, k, h, hk => by
    unfold fitN
    by_cases e : k = n
    · rw [← e, hk]; simp
    · rw [fitN_le l sf sb p n k (by omega) hk]; rfl
def missF (l : List S63) (sf sb : Int) (p : List (List Int)) : List S97 × Bool := if fitN l sf sb p p.length = true then (lostN l sf sb p p.length, true) else ([], false)
structure MJ (W8 : World) (b : Nat) (xs : List S97) (W : World) : Prop where
  v : ∃ v, Bx W (b + 5) 50 #[v] ∧ Kd.R k97 97 W (W8.heap.size + 2) (fun k => W8.heap.size + 2 ≤ k) v xs
  r6 : Bx W (b + 3) 50 #[.slice none 0 0]
  r7 : Bx W (b + 4) 4 #[.bool false]
  fr : Fr (fun k => b + 3 ≤ k) W8 W
theorem R_fr {α : Type} {d : Kd α} {e base : Nat} {ok S : Nat → Prop} {a b : World} {v : Value} {xs : List α} (h : Kd.R d e a base ok v xs) (hf : Fr S a b) (hn : ∀ k, ok k → ¬ S k) : Kd.R d e b base ok v xs := Kd.R_step h (fun k hk hlt => hf.block k hlt (hn k hk))
theorem MJ.keep {W8 : World} {b : Nat} {xs : List S97} {A B : World} (h : MJ W8 b xs A) (hb : b + 5 < W8.heap.size) (hf : Fr (· = W8.heap.size + 1) A B) : MJ W8 b xs B := by
  obtain ⟨v, h1, h2⟩ := h.v
  exact ⟨⟨v, h1.fr hf (by omega), R_fr h2 hf (fun k hk => by omega)⟩, h.r6.fr hf (by omega), h.r7.fr hf (by omega), h.fr.step hf (fun k hk e => by omega)⟩
theorem MJ.keep0 {W8 : World} {b : Nat} {xs : List S97} {A B : World} (h : MJ W8 b xs A) (hf : Fr0 A B) : MJ W8 b xs B := by
  obtain ⟨v, h1, h2⟩ := h.v
  exact ⟨⟨v, h1.fr0 hf, R_fr h2 hf (fun k hk h => h)⟩, h.r6.fr0 hf, h.r7.fr0 hf, h.fr.step0 hf⟩
structure MX (W8 : World) (b : Nat) (W : World) : Prop where
  r6 : Bx W (b + 3) 50 #[.slice none 0 0]
  r7 : Bx W (b + 4) 4 #[.bool false]
  fr : Fr (fun k => b + 3 ≤ k) W8 W
theorem MX.keep {W8 : World} {b : Nat} {A B : World} (h : MX W8 b A) (hb : b + 5 < W8.heap.size) (hf : Fr (· = W8.heap.size + 1) A B) : MX W8 b B :=
  ⟨h.r6.fr hf (by omega), h.r7.fr hf (by omega), h.fr.step hf (fun k hk e => by omega)⟩
theorem res77 {w : World} {g6 g7 : Nat} {a b : Value} {tmps : Array Value} (h6 : tmps[6]?.getD undef = .pointer (some ⟨g6, 0, none⟩)) (h7 : tmps[7]?.getD undef = .pointer (some ⟨g7, 0, none⟩)) (h : Bx w g6 50 #[a]) (h' : Bx w g7 4 #[b]) :
    (results Tryd.f77 tmps).run Tryd.prog w = .ok (.tuple #[a, b]) w := by
  have e0 := h.at_ 0 rfl
  have e1 := h'.at_ 0 rfl
  simp only [results, Tryd.results77]
  simp [h6, h7, go_sem, e0, e1]
set_option maxHeartbeats 4000000 in
set_option maxRecDepth 100000 in
theorem missing_any (g : Int) (A : Option Addr) (c : Nat) (l : List S63) (mb : Nat) (hl : Beats l) (sf sb : Int) (Ap : Option Addr) (cp : Nat) (p : List (List Int)) (w : World) (hS : St g A c l mb w) (h1 : 0 ≤ sf) (h1' : sf < l.length) (h3 : 0 ≤ sb ∧ sb ≤ 1000)
    (hr : Kd.C (Kd.slice 3 (Kd.int .i64)) w Ap p.length p) (hc : p.length ≤ cp) (hp : ∀ r ∈ p, gr 5 (-1) r = true) (hpl : p.length ≤ 1000) :
    Calls Tryd.prog 77 #[bookV g A l.length c (some mb), .agg #[.int .i64 sf, .int .i64 sb], .slice Ap p.length cp] w fun e w' =>
      ∃ v, e = .returned (.tuple #[v, .bool (missF l sf sb p).2]) ∧ Kd.R k97 97 w' w.heap.size (fun k => w.heap.size ≤ k) v (missF l sf sb p).1 ∧ Fr0 w w' := by
  have HPI := Lib.hid (fun bM bB bS => passage_iter w g A c l mb hl sf sb p.length h1 h1' h3 hpl bM bB bS)
  have HS := Lib.hid hS
  have HR := Lib.hid hr
  have HP := Lib.hid hp
  clear hS hr hp hl
  refine calls_of_marks Tryd.func77 rfl ?_
  simp only [Tryd.ntmps77, List.size_toArray, List.length_cons, List.length_nil, Nat.reduceAdd, Nat.reduceSub, Array.replicate_succ, Array.replicate_zero, List.push_toArray, List.append_toArray, List.nil_append, List.cons_append]
  go_wp2_with (first
    | (go_at_call 71; refine (passage_any _ _ _ _ _ _ _ _ _).mono ?_; rintro e W8 ⟨rfl, hW8⟩))
  have hf8 : Fr0 w W8 := by rw [hW8]; exact (((((((((Fr.refl _ _).alloc _).alloc _).alloc _).alloc _).alloc _).alloc _).alloc _).alloc _).alloc _
  have hz8 : W8.heap.size = w.heap.size + 9 := by rw [hW8]; simp
  have B2 : Bx W8 (w.heap.size + 2) 39 #[.slice Ap p.length cp] := by rw [hW8]; exact ((((((Bx.of_new (by simp)).alloc _).alloc _).alloc _).alloc _).alloc _).alloc _
  have B3 : Bx W8 (w.heap.size + 3) 50 #[.slice none 0 0] := by rw [hW8]; exact (((((Bx.of_new (by simp)).alloc _).alloc _).alloc _).alloc _).alloc _
  have B4 : Bx W8 (w.heap.size + 4) 4 #[.bool false] := by rw [hW8]; exact ((((Bx.of_new (by simp)).alloc _).alloc _).alloc _).alloc _
  have B5 : Bx W8 (w.heap.size + 5) 50 #[.slice none 0 0] := by rw [hW8]; exact (((Bx.of_new (by simp)).alloc _).alloc _).alloc _
  have BB : Bx W8 (w.heap.size + 6) 83 (bookC g A l.length c (some mb)) := by rw [hW8]; exact ((Bx.of_new (by simp)).alloc _).alloc _
  have BS : Bx W8 (w.heap.size + 7) 38 #[.int .i64 sf, .int .i64 sb] := by rw [hW8]; exact (Bx.of_new (by simp)).alloc _
  have BM : Bx W8 (w.heap.size + 8) 3 #[.int .i64 p.length] := by rw [hW8]; exact Bx.of_new (by simp)
  rw [← hW8]
  clear hW8
  simp only [Nat.add_assoc, Nat.reduceAdd]
  have hmb : mb < w.heap.size := HS.out.heap
  have hS8 := HS.out.fr hf8
  have HF8 := Lib.hid hf8
  have HB2 := Lib.hid B2
  clear B2 hf8
  refine wpIn_wide.1 (range_topG (g := .tmp 19) (by rfl) (fun args w => by kernel_rfl) (HPI.out (w.heap.size + 8) (w.heap.size + 6) (w.heap.size + 7)) (fun _ => rfl) (fun k => w.heap.size + 3 ≤ k ∧ k ≤ w.heap.size + 5 ∨ W8.heap.size + 2 ≤ k) ?hS0 ?hS1 ?hN
    (fun pre W' => fitN l sf sb p pre.length = true ∧ MJ W8 w.heap.size (lostN l sf sb p pre.length) W') (fun c _ W' => c = .ret ∧ fitN l sf sb p p.length = false ∧ MX W8 w.heap.size W') ?hJ ?hJx ?h0 ?hround ?hdone ?hstop)
  case hS0 => omega
  case hS1 => omega
  case hN =>
    intro W6 S' h86 hS'
    refine ⟨fr_below (Fr0.trans HF8.out h86), HS.out.r, HS.out.c, HS.out.glob, (hS8.fr h86).m, (BM.fr0 h86).at_ 0 rfl, (BB.fr0 h86).at_ 0 rfl, (BB.fr0 h86).at_ 1 rfl, (BB.fr0 h86).at_ 2 rfl, (BS.fr0 h86).at_ 0 rfl, (BS.fr0 h86).at_ 1 rfl, ?_⟩
    intro k hk
    rcases hS' k hk with (h | h) | h <;> omega
  case hJ => exact fun pre A B h hf => ⟨h.1, h.2.keep (by omega) hf⟩
  case hJx => exact fun c pre A B h hf => ⟨h.1, h.2.1, h.2.2.keep (by omega) hf⟩
  case h0 =>
    intro W6 h86
    exact ⟨rfl, ⟨_, B5.fr0 h86, Kd.R_nil _ _ _ _ _⟩, B3.fr0 h86, B4.fr0 h86, Fr.of0 h86⟩
  case hdone =>
    intro W6 hj hD
    rw [List.length_range] at hj
    obtain ⟨hfit, ⟨v, hbv, hR6⟩, h6, h7, hf86⟩ := hj
    have hM : missF l sf sb p = (lostN l sf sb p p.length, true) := by unfold missF; rw [if_pos hfit]
    obtain ⟨A1, c1, rfl⟩ := Kd.R_slice hR6
    have HR6 := Lib.hid hR6
    have HF86 := Lib.hid hf86
    have HD6 := Lib.hid hD
    have H6 := Lib.hid h6
    have H7 := Lib.hid h7
    have q5 := hbv.at_ 0 (v := .slice A1 (lostN l sf sb p p.length).length c1) rfl
    have z6 := h6.frz 0
    have z7 := h7.frz 0
    have q6 := h6.at_ 0 rfl
    have q7 := h7.at_ 0 rfl
    have l6 := h6.lt
    have l7 := h7.lt
    have HM := Lib.hid hM
    clear hR6 hf86 hD hbv h6 h7 B3 B4 B5 BB BS BM hS8 hfit hM
    have hsz : W8.heap.size ≤ W6.heap.size := HF86.out.size
    generalize lostN l sf sb p p.length = rows at *
    go_wp2
    have hfr : Fr (fun k => k = w.heap.size + 3 ∨ k = w.heap.size + 4) W6 ((W6.setCell ⟨w.heap.size + 3, 0, none⟩ (.slice A1 rows.length c1)).setCell ⟨w.heap.size + 4, 0, none⟩ (.bool true)) := ((Fr.refl _ _).setCell (.inl (.inl rfl)) _).setCell (.inl (.inr rfl)) _
    have hx6 : Bx ((W6.setCell ⟨w.heap.size + 3, 0, none⟩ (.slice A1 rows.length c1)).setCell ⟨w.heap.size + 4, 0, none⟩ (.bool true)) (w.heap.size + 3) 50 #[.slice A1 rows.length c1] := Bx.far (by simpa using H6.out.set_ 0 (.slice A1 rows.length c1)) (by simp) _
    have hx7 : Bx ((W6.setCell ⟨w.heap.size + 3, 0, none⟩ (.slice A1 rows.length c1)).setCell ⟨w.heap.size + 4, 0, none⟩ (.bool true)) (w.heap.size + 4) 4 #[.bool true] := by simpa using (H7.out.far (p := ⟨w.heap.size + 3, 0, none⟩) (by simp) (.slice A1 rows.length c1)).set_ 0 (.bool true)
    rw [HM.out]
    refine ret_marks (.tuple #[.slice A1 rows.length c1, .bool true]) [W8.heap.size] (fun D hD => by rw [List.mem_singleton.1 hD]; exact hfr.heap HD6.out (by omega)) (by simp) (res77 rfl rfl (hx6.fr (Fr.put1 _ _ _) (by omega)) (hx7.fr (Fr.put1 _ _ _) (by omega))) ⟨_, rfl, ?_, ?_⟩
    · exact Kd.R_mono (Kd.R_lower (R_fr (R_fr HR6.out hfr (fun k hk => by omega)) (Fr.put1 _ _ _) (fun k hk => by omega)) (by omega)) (fun k hk => by omega)
    · exact ((HF8.out.step HF86.out (fun k hk e => by omega)).step hfr (fun k hk e => by omega)).step (Fr.put1 _ _ _) (fun k hk e => by omega)
  case hstop =>
    rintro c0 pre W6 ⟨rfl, hfit, h6, h7, hf86⟩ hD
    have hM : missF l sf sb p = ([], false) := by unfold missF; rw [if_neg (by rw [hfit]; simp)]
    have HM := Lib.hid hM
    have HF86 := Lib.hid hf86
    have HD6 := Lib.hid hD
    have H6 := Lib.hid h6
    have H7 := Lib.hid h7
    clear hf86 hD h6 h7 B3 B4 B5 BB BS BM hS8 hfit hM
    rw [wpIn_wide]
    go_wp2
    rw [HM.out]
    refine ret_marks (.tuple #[.slice none 0 0, .bool false]) [W8.heap.size] (fun D hD => by rw [List.mem_singleton.1 hD]; exact HD6.out) (by simp) (res77 rfl rfl (H6.out.fr (Fr.put1 _ _ _) (by omega)) (H7.out.fr (Fr.put1 _ _ _) (by omega))) ⟨_, rfl, Kd.R_nil _ _ _ _ _, ?_⟩
    exact (HF8.out.step HF86.out (fun k hk e => by omega)).step (Fr.put1 _ _ _) (fun k hk e => by omega)
  case hround =>
    rintro pre x rest W6 hx ⟨hfit, hj⟩ ⟨r, hl⟩
    have hlb : W8.heap.size + 1 < W6.heap.size := (Array.getElem?_eq_some_iff.1 hl).1
    obtain ⟨hk, hkp⟩ : x = pre.length ∧ pre.length < p.length := by
      have h1 := congrArg List.length hx
      have h2 := congrArg (fun l => l[pre.length]?) hx
      simp at h1 h2
      rw [List.getElem?_range (by omega)] at h2
      have h2 := Option.some.inj h2
      omega
    simp only [List.zip_toArray, List.zip_cons_cons, List.zip_nil_right, List.foldl_toArray', List.foldl_cons, List.foldl_nil, List.setIfInBounds_toArray, List.set_cons_zero, List.set_cons_succ]
    have HLN := Lib.hid (show (pre ++ [x]).length = pre.length + 1 by simp)
    subst hk
    have HXF := Lib.hid (show fitN l sf sb p (pre.length + 1) = (fitN l sf sb p pre.length && fitK l sf sb p pre.length) from rfl)
    have HXL := Lib.hid (show lostN l sf sb p (pre.length + 1) = lostN l sf sb p pre.length ++ lostK l sf sb p pre.length from rfl)
    have HLL := Lib.hid (lostN_len l sf sb p pre.length)
    have HNO := Lib.hid (fun (h : fitK l sf sb p pre.length = false) => fitN_le l sf sb p p.length pre.length hkp h)
    have HFK := Lib.hid (show fitK l sf sb p pre.length = (pRow p pre.length).all (fun x => passH l sf sb pre.length x.toNat) from rfl)
    have HLK := Lib.hid (show lostK l sf sb p pre.length = (lst (missH (passH l sf sb pre.length) (pRow p pre.length)) 5).map (fun g => (⟨(pre.length : Int), g⟩ : S97)) from rfl)
    have HGR := Lib.hid (show gr 5 (-1) (pRow p pre.length) = true from HP.out _ (by unfold pRow; rw [List.getD_eq_getElem?_getD, List.getElem?_eq_getElem hkp]; exact List.getElem_mem hkp))
    have HPR := Lib.hid (show rd_L1 p (pre.length : Int) = pRow p pre.length by simp [rd_L1, pRow])
    have HJ6 := Lib.hid hj
    have HFT := Lib.hid hfit
    generalize lostN l sf sb p pre.length = xs at *
    generalize passH l sf sb pre.length = H at *
    generalize fitK l sf sb p pre.length = FK at *
    generalize pRow p pre.length = rr at *
    clear hl hx hj hfit B3 B4 B5 BB BS BM hS8
    have hj0 := HJ6.out.keep0 (B := W6.alloc (.cells (gc H) 89)) ((Fr.refl _ _).alloc _)
    have h12 : Bx (W6.alloc (.cells (gc H) 89)) W6.heap.size 89 (gc H) := Bx.new _ _ _
    have HJ0 := Lib.hid hj0
    have H12 := Lib.hid h12
    clear hj0 h12
    unfold gc gv at *
    gi_wp2
    refine ⟨(Fr.refl _ _).alloc _, fun W7 h67 hl7 => ?_⟩
    clear hl7
    have HJ7 := Lib.hid (HJ0.out.keep (by omega) h67)
    have H127 := Lib.hid (H12.out.fr h67 (by omega))
    have hs7 : W6.heap.size + 1 ≤ W7.heap.size := by have := h67.size; simp at this; omega
    have HF7 := Lib.hid (show Fr0 w W7 from HF8.out.step HJ7.out.fr (fun k hk e => by omega))
    obtain ⟨ad, A0, c0, rfl, x0, hc0, hC0⟩ := at_L1 HR.out (pre.length : Int) (by omega) (by omega)
    rw [HPR.out] at x0 hc0 hC0
    rw [Int.toNat_natCast] at x0
    have x0 := HF7.out.cell0 x0
    have q2 := (HB2.out.fr HJ7.out.fr (by omega)).at_ 0 (v := .slice (some ad) p.length cp) rfl
    have HC0 := Lib.hid hC0
    have hrl := C_len hC0
    have hkp' : (pre.length : Int) < p.length := by omega
    have HF67 := Lib.hid (show Fr (fun k => k = W8.heap.size + 1) W6 W7 from ((Fr.refl _ _).alloc _).trans h67)
    clear h67 hC0
    gi_wp2
    clear q2 x0
    gi_loopw [27] (fun v wr => ∃ j : Nat, j ≤ rr.length ∧ v = .int .i64 j ∧ Bx wr W6.heap.size 89 (gc (missH H (rr.take j))) ∧ (∀ x ∈ rr.take j, H x.toNat = true) ∧ Fr (fun k => k = W6.heap.size) W7 wr) (fun v _ => (rr.length - intOf v).toNat)
    case atStart => exact ⟨0, by omega, by rfl, by rw [List.take_zero, missH_nil]; exact H127.out, by simp, Fr.refl _ _⟩
    case round =>
      obtain ⟨j, hj, rfl, hB, hall, hf⟩ := hrel
      have HFW := Lib.hid (show Fr0 w wr from HF7.out.step hf (fun k hk e => by omega))
      by_cases hlt : j < rr.length
      · have hle : (j : Int) < rr.length := by omega
        obtain ⟨ad2, e2, x1⟩ := Kd.at_int (C_fr HC0.out HFW.out) (j : Int) (by omega) hle
        subst e2
        have hin := gr_in _ _ HGR.out rr[j] (List.getElem_mem hlt)
        obtain ⟨xn, hxn⟩ : ∃ xn : Nat, rr[j] = xn := ⟨rr[j].toNat, by omega⟩
        have hx5 : xn < 5 := by omega
        have htk : rr.take (j + 1) = rr.take j ++ [(xn : Int)] := by rw [List.take_add_one, List.getElem?_eq_getElem hlt, hxn]; rfl
        have hfr : (xn : Int) ∉ rr.take j := gr_fresh (rr.take j) (xn : Int) (rr.drop (j + 1)) (-1) (by rw [← hxn, take_cons_drop hlt]; exact HGR.out)
        have hmx : missH H (rr.take j) xn = H xn := by unfold missH; rw [List.contains_eq_mem, decide_eq_false hfr]; simp
        have hx1 : wr.cell? (ad2.add j) = some (.int .i64 xn) := by rw [← hxn]; rw [rd_nat] at x1; simpa [hlt] using x1
        have hy := hB.at_ xn (gc_at _ xn hx5)
        rw [hmx] at hy
        have hz := hB.frz xn
        have hlb12 := hB.lt
        have HSN := Lib.hid (fun i => missH_snoc H (rr.take j) xn i)
        have HALL := Lib.hid hall
        have HB := Lib.hid hB
        have HF := Lib.hid hf
        have HXN := Lib.hid hxn
        have HTK := Lib.hid htk
        have hx5' : (xn : Int) < 5 := by omega
        clear x1 hin hfr hall hB hf hmx hxn htk hc0
        by_cases hs : H xn = true
        · have HS1 := Lib.hid hs
          rw [hs] at hy
          clear hs
          gi_wp2
          go_roundw
          case rel =>
            refine ⟨j + 1, by omega, by go_num, ?_, ?_, ?_⟩
            · rw [HTK.out]
              have := gc_set (missH H (rr.take j)) (missH H (rr.take j ++ [(xn : Int)])) xn hx5 (fun i hi => by rw [HSN.out]; simp [hi])
              rw [← this, HSN.out]
              simpa using HB.out.set_ xn (.bool false)
            · rw [HTK.out]
              intro x hx
              rcases List.mem_append.1 hx with h | h
              · exact HALL.out x h
              · rw [List.mem_singleton.1 h, Int.toNat_natCast]; exact HS1.out
            · exact HF.out.setCell (.inl rfl) _
          case measure => simp [intOf]; omega
        · have hs' : H xn = false := by simpa using hs
          have HS1 := Lib.hid (show FK = false by rw [HFK.out]; rw [List.all_eq_false]; exact ⟨rr[j], List.getElem_mem hlt, by rw [HXN.out, Int.toNat_natCast]; exact hs⟩)
          rw [hs'] at hy
          clear hs hs'
          have h6 := HJ7.out.r6.fr HF.out (by omega)
          have h7 := HJ7.out.r7.fr HF.out (by omega)
          have z6 := h6.frz 0
          have z7 := h7.frz 0
          have q6 := h6.at_ 0 rfl
          have q7 := h7.at_ 0 rfl
          have l6 := h6.lt
          have l7 := h7.lt
          have H6 := Lib.hid h6
          have H7 := Lib.hid h7
          clear h6 h7
          gi_wp2
          refine ⟨((HF.out.wide (S' := fun k => w.heap.size + 3 ≤ k ∧ k ≤ w.heap.size + 5 ∨ W8.heap.size + 2 ≤ k) (fun k _ e => by omega)).setCell (.inl (.inl (by simp))) _).setCell (.inl (.inl (by simp))) _, rfl, HNO.out HS1.out, Bx.far (by simpa using H6.out.set_ 0 (.slice none 0 0)) (by simp) _, by simpa using (H7.out.far (p := ⟨w.heap.size + 3, 0, none⟩) (by simp) (.slice none 0 0)).set_ 0 (.bool false), ?_⟩
          exact ((HJ7.out.fr.step HF.out (fun k hk e => by omega)).setCell (.inl (by simp)) _).setCell (.inl (by simp)) _
      · skip
        obtain rfl : j = rr.length := by omega
        have hle : ¬ ((rr.length : Int) < rr.length) := by omega
        rw [List.take_length] at hB hall
        have HFK1 := Lib.hid (show FK = true by rw [HFK.out, List.all_eq_true]; exact hall)
        have y0 := hB.at_ 0 (v := .bool (missH H rr 0)) rfl
        have y1 := hB.at_ 1 (v := .bool (missH H rr 1)) rfl
        have y2 := hB.at_ 2 (v := .bool (missH H rr 2)) rfl
        have y3 := hB.at_ 3 (v := .bool (missH H rr 3)) rfl
        have y4 := hB.at_ 4 (v := .bool (missH H rr 4)) rfl
        have HLI := Lib.hid (show Calls Tryd.prog 57 #[.agg #[.bool (missH H rr 0), .bool (missH H rr 1), .bool (missH H rr 2), .bool (missH H rr 3), .bool (missH H rr 4)]] wr fun e w' => ∃ v, e = .returned v ∧ Kd.R (Kd.int .i64) 3 w' wr.heap.size (fun k => wr.heap.size ≤ k) v (lst (missH H rr) 5) ∧ Fr0 wr w' from list_any (missH H rr) wr)
        have HL5 := Lib.hid (lst_len (missH H rr) 5)
        have HF := Lib.hid hf
        generalize missH H rr = K at *
        generalize lst K 5 = gs at *
        clear hB hall hf hc0
        gi_wp2
        refine ⟨trivial, rfl, CallsIn.mono (CallsIn.inRound _ (callsIn_wide.2 HLI.out)) ?_⟩
        rintro e W9 ⟨v9, rfl, hR9, hf9⟩
        obtain ⟨A2, c2, rfl, hcl, hC2⟩ := Kd.R_reads hR9
        have HFG := Lib.hid (Kd.F_bound (Kd.R_F hR9))
        have HF9 := Lib.hid hf9
        have hs9 := hf9.size
        clear y0 y1 y2 y3 y4 hR9 hcl hC2 hf9
        have hwr := HF.out.size
        have hhl : W6.heap.size < W7.heap.size := by omega
        have HF69 := Lib.hid (show Fr (fun k => k = W8.heap.size + 1 ∨ k = W6.heap.size) W6 W9 from ((HF67.out.wide (fun k _ e => .inl e)).step HF.out (fun k hk e => .inr e)).step0 HF9.out)
        obtain ⟨v0, hb0, hr0⟩ := HJ6.out.v
        have HB0 := Lib.hid (show Bx W9 (w.heap.size + 5) 50 #[v0] from hb0.fr HF69.out (by omega))
        have HR0 := Lib.hid (show Kd.R k97 97 W9 (W8.heap.size + 2) (fun m => W8.heap.size + 2 ≤ m ∧ (m < W6.heap.size ∨ W9.heap.size ≤ m)) v0 xs from
          R_fr (Kd.R_mono (Kd.R_bound hr0) (fun k hk => ⟨hk.1, .inl hk.2.2.1⟩)) HF69.out (fun k hk => by omega))
        clear hb0 hr0
        gi_wp2
        generalize hwa : wr = wa at *
        clear hwa
        gi_loopw [41] (fun v wq => ∃ j : Nat, j ≤ gs.length ∧ v = .int .i64 j ∧ (∃ u, Bx wq (w.heap.size + 5) 50 #[u] ∧ Kd.R k97 97 wq (W8.heap.size + 2) (fun m => W8.heap.size + 2 ≤ m ∧ (m < W6.heap.size ∨ W9.heap.size ≤ m)) u (xs ++ (gs.take j).map (fun g => (⟨(pre.length : Int), g⟩ : S97)))) ∧
          Fr (fun m => m = w.heap.size + 5 ∨ (W8.heap.size + 2 ≤ m ∧ (m < W6.heap.size ∨ W9.heap.size ≤ m))) W9 wq) (fun v _ => (gs.length - intOf v).toNat)
        case atStart => exact ⟨0, by omega, by rfl, ⟨v0, HB0.out, by rw [List.take_zero, List.map_nil, List.append_nil]; exact HR0.out⟩, Fr.refl _ _⟩
        case round =>
          obtain ⟨j, hj, rfl, ⟨u, hbu, hru⟩, hfq⟩ := hrel
          have hg5 := HL5.out
          by_cases hlt : j < gs.length
          · have hle : (j : Int) < gs.length := by omega
            have hCq := Kd.F_now (Kd.F_step HFG.out (fun k hk hlt => hfq.block k hlt (fun e => by have h1 : wa.heap.size ≤ k := hk.1; omega)))
            obtain ⟨ad3, e3, x3⟩ := Kd.at_int hCq (j : Int) (by omega) hle
            subst e3
            rw [rd_nat, Int.toNat_natCast] at x3
            have htk : gs.take (j + 1) = gs.take j ++ [gs.getD j 0] := by rw [List.take_add_one, List.getElem?_eq_getElem hlt, List.getD_eq_getElem?_getD, List.getElem?_eq_getElem hlt]; rfl
            have HYS := Lib.hid (show xs ++ (gs.take (j + 1)).map (fun g => (⟨(pre.length : Int), g⟩ : S97)) = (xs ++ (gs.take j).map (fun g => (⟨(pre.length : Int), g⟩ : S97))) ++ [⟨(pre.length : Int), gs.getD j 0⟩] by rw [htk, List.map_append, List.map_singleton, List.append_assoc])
            have hyl : (xs ++ (gs.take j).map (fun g => (⟨(pre.length : Int), g⟩ : S97))).length ≤ 5 * pre.length + 5 := by rw [List.length_append, List.length_map, List.length_take]; have := HLL.out; have := HL5.out; omega
            have HYL := Lib.hid hyl
            generalize xs ++ (gs.take j).map (fun g => (⟨(pre.length : Int), g⟩ : S97)) = ys at *
            generalize gs.getD j 0 = gj at *
            have HRU := Lib.hid hru
            have HBU := Lib.hid hbu
            have HFQ := Lib.hid hfq
            have q5 := hbu.at_ 0 (v := u) rfl
            have hsq := hfq.size
            clear htk hyl hru hbu hfq hCq
            gi_upto_region 15 with fail
            refine region_in (by kernel_rfl) ?_
            go_wp2_with (first | ((with_reducible refine gate_builtin (b := .append) (xs := #[.tmp 45, .tmp 49]) rfl ?_); at_builtin; refine Kd.R_append k97 (w0 := wr) (W8.heap.size + 2) rfl (.tmp 45) (.tmp 49) 50 97 (.agg #[.int .i64 0, .int .i64 0]) 16 rfl Tryd.underlying50 inf97 rfl (by decide) (by omega) u ys ⟨(pre.length : Int), gj⟩ [.int .i64 (pre.length : Int), .int .i64 gj] (fun m => W8.heap.size + 2 ≤ m ∧ (m < W6.heap.size ∨ W9.heap.size ≤ m)) (fun _ => False) rfl rfl ?aP (fun _ hk => hk.elim) ?aF ?aO ?aB ?aS ?aL ?_; (case aP => exact k97_mkM _ _ _ _); (case aB => exact Below.refl _ _); (case aF => exact (fun k hk => by omega)); (case aO => exact HRU.out); (case aS => omega); (case aL => have := HYL.out; omega); intro v104 w6 ho hb hg hat; obtain ⟨A4, c4, rfl⟩ := Kd.R_slice ho; (have HB1 := Lib.hid (show Bx w6 (w.heap.size + 5) 50 #[u] from blk_grown HBU.out hg (fun h => by have := (HRU.out.1 _ h.symm); omega))); (have z5 := HB1.out.frz 0); (have l5 := HB1.out.lt); (have q5' := HB1.out.at_ 0 (v := u) rfl); (have HO := Lib.hid ho); (have HG := Lib.hid hg); (have HBL := Lib.hid hb); clear ho hb hg hat))
            refine noOut_normal ?_
            gi_wp2
            have hln : (ys ++ [(⟨(pre.length : Int), gj⟩ : S97)]).length = ys.length + 1 := by simp
            have HO2 := HO.out
            rw [hln] at HO2
            have hg6 : Fr (fun m => m = w.heap.size + 5 ∨ (W8.heap.size + 2 ≤ m ∧ (m < W6.heap.size ∨ W9.heap.size ≤ m))) wr w6 := ⟨HBL.out.os, HBL.out.tape, HBL.out.output, HBL.out.size, fun i hi hn => HG.out.block i hi (fun e => hn (.inr (HRU.out.1 i e.symm)))⟩
            go_roundw
            case rel =>
              refine ⟨j + 1, by omega, by go_num, ⟨_, by simpa using HB1.out.set_ 0 (.slice A4 (ys.length + 1) c4), ?_⟩, (HFQ.out.trans hg6).setCell (.inl (.inl rfl)) _⟩
              rw [HYS.out]
              exact R_fr HO2 ((Fr.refl (fun k => k = w.heap.size + 5) w6).setCell (.inl rfl) _) (fun k hk => by omega)
            case measure => simp [intOf]; omega
          · obtain rfl : j = gs.length := by omega
            have hle : ¬ ((gs.length : Int) < gs.length) := by omega
            rw [List.take_length] at hru
            have HRU := Lib.hid hru
            have HBU := Lib.hid hbu
            have HFQ := Lib.hid hfq
            clear hru hbu hfq
            gi_wp2
            have hf7 : Fr (fun k => w.heap.size + 3 ≤ k ∧ k ≤ w.heap.size + 5 ∨ W8.heap.size + 2 ≤ k) W7 wr := ((HF.out.wide (fun k _ e => by omega)).step0 HF9.out).step HFQ.out (fun k hk e => by omega)
            refine ⟨by rw [← hz8]; exact hf7, ?_, ?_⟩
            · rw [HLN.out, HXF.out, HFT.out, HFK1.out]; rfl
            · rw [HLN.out, HXL.out, HLK.out]
              have hx7 : Fr (fun k => k = W6.heap.size ∨ k = w.heap.size + 5 ∨ (W8.heap.size + 2 ≤ k ∧ (k < W6.heap.size ∨ W9.heap.size ≤ k))) W7 wr := ((HF.out.wide (fun k _ e => .inl e)).step0 HF9.out).step HFQ.out (fun k hk e => .inr e)
              exact ⟨⟨u, HBU.out, Kd.R_mono HRU.out (fun k hk => hk.1)⟩, HJ7.out.r6.fr hx7 (by omega), HJ7.out.r7.fr hx7 (by omega), HJ7.out.fr.step hf7 (fun k hk e => by omega)⟩
end Go.Proofs.YtephecfapclgfaaDoor.R
namespace Go.Proofs.YtephecfapclgfaaDoor.R
open Go.RowKit Go.Shelf Go.Proofs.YtephecfapclgfaaDoorW.PrintWords Go.Proofs.YtephecfapclgfaaDoorW.PrintLast Go.Proofs.YtephecfapclgfaaDoorW.PrintMore Go.Proofs.YtephecfapclgfaaDoor.PRaspKeys Go.Proofs.YtephecfapclgfaaDoor.X
attribute [local go_sem] Oper.semAt_some

/-! ### Missing -/
theorem gr_mono {a b : Int} (hab : a ≤ b) : ∀ (l : List Int) (last : Int), gr a last l = true → gr b last l = true
  | [], _, _ => rfl
  | x :: l, last, h => by
    unfold gr at h ⊢
    rw [Bool.and_eq_true, isIn_iff] at h ⊢
    exact ⟨by omega, gr_mono hab l x h.2⟩
theorem heard_gr {g : Int} (hg : g ≤ 5) {p : List (List Int)} (h : heardB g p = true) : p.length ≤ 1000 ∧ ∀ r ∈ p, gr 5 (-1) r = true := by
  unfold heardB at h
  rw [Bool.and_eq_true, isIn_iff, List.all_eq_true] at h
  exact ⟨by omega, fun r hr => gr_mono hg _ _ (h.2 r hr)⟩
theorem cut50 (A : Option Addr) (n c : Nat) (hc : n ≤ c) : ∀ W : World, (Instr.slice 50 (.slice A n c) none (some (.int .i64 n)) (some (.int .i64 n))).run Tryd.prog W = .ok (.slice A n n) W := by
  cases h : Tryd.prog.info? 97 with
  | none => have := inf97; rw [h] at this; cases this
  | some i => exact cut_max 50 97 Tryd.underlying50 h A n c hc
theorem cut45 (A : Option Addr) (n c : Nat) (hc : n ≤ c) : ∀ W : World, (Instr.slice 45 (.slice A n c) none (some (.int .i64 n)) (some (.int .i64 n))).run Tryd.prog W = .ok (.slice A n n) W := by
  cases h : Tryd.prog.info? 38 with
  | none => have := inf38; rw [h] at this; cases this
  | some i => exact cut_max 45 38 Tryd.underlying45 h A n c hc
theorem open_missing (g : Int) (A : Option Addr) (c : Nat) (l : List S63) (Ap : Option Addr) (cp : Nat) (p : List (List Int)) (sf sb : Int) (b1 b2 : Nat) (W : World) (hB : Book W A c l) (hr : Kd.C (Kd.slice 3 (Kd.int .i64)) W Ap p.length p) (hc : p.length ≤ cp) (h1 : W.cell? ⟨b1, 0, none⟩ = some (.slice Ap p.length cp)) (h2 : W.cell? ⟨b2, 0, none⟩ = some (.int .i64 sf)) (h2' : W.cell? ⟨b2, 1, none⟩ = some (.int .i64 sb)) :
    Calls Tryd.prog 52 #[.agg #[.int .i64 g, .slice A l.length c], .func (.func 82) #[] #[.pointer (some ⟨b1, 0, none⟩), .pointer (some ⟨b2, 0, none⟩)]] W (Opens g A c l (openE g l (okMissing g l p sf sb)) W) :=
  opened_any 82 _ (fun _ _ => by kernel_rfl) g A c l _ W hB.r hB.c hB.glob (fun hb mb W' hf hS => right82 g A c l mb b1 Ap cp p b2 sf sb W' hb hS (hf.cell0 h1) (C_fr hr hf) hc (hf.cell0 h2) (hf.cell0 h2'))
def missingF (g : Int) (l : List S63) (sf sb : Int) (p : List (List Int)) : List S97 × Int :=
  if openE g l (okMissing g l p sf sb) = 0 then (if (missF l sf sb p).2 = true then ((missF l sf sb p).1, 0) else ([], 4)) else ([], openE g l (okMissing g l p sf sb))
set_option maxHeartbeats 4000000 in
set_option maxRecDepth 100000 in
theorem missings_any (g : Int) (A : Option Addr) (c : Nat) (l : List S63) (sf sb : Int) (Ap : Option Addr) (cp : Nat) (p : List (List Int)) (w : World) (hB : Book w A c l) (hr : Kd.C (Kd.slice 3 (Kd.int .i64)) w Ap p.length p) (hc : p.length ≤ cp) :
    Calls Tryd.prog 32 #[.agg #[.int .i64 g, .slice A l.length c], .agg #[.int .i64 sf, .int .i64 sb], .slice Ap p.length cp] w fun e w' =>
      ∃ v0_ : Value, e = .returned (.tuple #[v0_, .int .i64 (missingF g l sf sb p).2]) ∧ Kd.V k97 97 w' w.heap.size (fun k_ => (w.heap.size ≤ k_)) v0_ (missingF g l sf sb p).1 ∧ Below w.heap.size w w' := by
  have HOP := Lib.hid (fun (b1 b2 : Nat) W (hf : Fr0 w W) h1 h2 h2' => open_missing g A c l Ap cp p sf sb b1 b2 W (hB.fr hf) (C_fr hr hf) hc h1 h2 h2')
  have hfw : Fr0 w (((w.alloc (.cells #[.int .i64 g, .slice A l.length c] 24)).alloc (.cells #[.int .i64 sf, .int .i64 sb] 38)).alloc (.cells #[.slice Ap p.length cp] 39)) := (((Fr.refl _ _).alloc _).alloc _).alloc _
  have c1 : Bx (((w.alloc (.cells #[.int .i64 g, .slice A l.length c] 24)).alloc (.cells #[.int .i64 sf, .int .i64 sb] 38)).alloc (.cells #[.slice Ap p.length cp] 39)) (w.heap.size + 1) 38 #[.int .i64 sf, .int .i64 sb] := (Bx.of_new (by simp)).alloc _
  have c2 : Bx (((w.alloc (.cells #[.int .i64 g, .slice A l.length c] 24)).alloc (.cells #[.int .i64 sf, .int .i64 sb] 38)).alloc (.cells #[.slice Ap p.length cp] 39)) (w.heap.size + 1 + 1) 39 #[.slice Ap p.length cp] := Bx.of_new (by simp)
  have HFW := Lib.hid hfw
  have HC1 := Lib.hid c1
  have HC2 := Lib.hid c2
  clear hfw c1 c2
  by_cases hz : openE g l (okMissing g l p sf sb) = 0
  · have hN : missingF g l sf sb p = if (missF l sf sb p).2 = true then ((missF l sf sb p).1, 0) else ([], 4) := by unfold missingF; rw [if_pos hz]
    obtain ⟨hbk, hok⟩ := openE_ok hz
    have hgg := gong_of hbk
    unfold okMissing isSpotB at hok
    simp only [Bool.and_eq_true, isIn_iff] at hok
    have hgr := heard_gr (show g ≤ 5 by omega) hok.1
    have h2 := (beats_of hbk).two sf (by omega) (by omega)
    have HMI := Lib.hid (fun mb W (hf : Fr0 w W) hS => missing_any g A c l mb (beats_of hbk) sf sb Ap cp p W hS (by omega) (by omega) (by omega) (C_fr hr hf) hc hgr.2 hgr.1)
    rw [hN]
    rw [hz] at HOP
    clear hz hN hok hbk hB hr hgr h2 hgg
    generalize missF l sf sb p = M at *
    obtain ⟨ms, mo⟩ := M
    dsimp only at HMI ⊢
    cases mo
    · go_enter Tryd.func32, Tryd.ntmps32
      go_wp2_with (first
        | (go_at_call 52; (with_reducible refine (HOP.out _ _ _ ?hw ?h1 ?h2 ?h2').mono ?_); (case hw => exact HFW.out); (case h1 => exact HC2.out.at_ 0 rfl); (case h2 => exact HC1.out.at_ 0 rfl); (case h2' => exact HC1.out.at_ 1 rfl); rintro e W5 ⟨g', A', n', c', o', rfl, hf5, hop⟩; obtain ⟨mb, rfl, rfl, rfl, rfl, rfl, hS5⟩ := hop rfl; (have HS5 := Lib.hid hS5); (have p1 := (HC1.out.fr0 hf5).at_ 0 (v := .int .i64 sf) rfl); (have p1' := (HC1.out.fr0 hf5).at_ 1 (v := .int .i64 sb) rfl); (have p2 := (HC2.out.fr0 hf5).at_ 0 (v := .slice Ap p.length cp) rfl); (have l1 := (HC1.out.fr0 hf5).lt); (have l2 := (HC2.out.fr0 hf5).lt); clear hop hS5)
        | (go_at_call 77; (with_reducible refine (HMI.out _ _ ?hw ?hs).mono ?_); (case hw => exact Fr.alloc (Fr0.trans HFW.out hf5) _); (case hs => exact HS5.out.fr ((Fr.refl _ _).alloc _)); rintro e W6 ⟨v, rfl, hR6, hf6⟩))
      refine bodyPost_ret (v := .tuple #[.slice none 0 0, .int .i64 4]) (by simp [results, Tryd.results32, go_sem]) rfl ⟨_, rfl, Kd.V_nil _ _ _ _ _, ?_⟩
      exact fr_below (Fr0.trans (Fr.alloc (Fr0.trans HFW.out hf5) _) hf6)
    · go_enter Tryd.func32, Tryd.ntmps32
      go_wp2_with (first
        | (go_at_call 52; (with_reducible refine (HOP.out _ _ _ ?hw ?h1 ?h2 ?h2').mono ?_); (case hw => exact HFW.out); (case h1 => exact HC2.out.at_ 0 rfl); (case h2 => exact HC1.out.at_ 0 rfl); (case h2' => exact HC1.out.at_ 1 rfl); rintro e W5 ⟨g', A', n', c', o', rfl, hf5, hop⟩; obtain ⟨mb, rfl, rfl, rfl, rfl, rfl, hS5⟩ := hop rfl; (have HS5 := Lib.hid hS5); (have p1 := (HC1.out.fr0 hf5).at_ 0 (v := .int .i64 sf) rfl); (have p1' := (HC1.out.fr0 hf5).at_ 1 (v := .int .i64 sb) rfl); (have p2 := (HC2.out.fr0 hf5).at_ 0 (v := .slice Ap p.length cp) rfl); (have l1 := (HC1.out.fr0 hf5).lt); (have l2 := (HC2.out.fr0 hf5).lt); clear hop hS5)
        | (go_at_call 77; (with_reducible refine (HMI.out _ _ ?hw ?hs).mono ?_); (case hw => exact Fr.alloc (Fr0.trans HFW.out hf5) _); (case hs => exact HS5.out.fr ((Fr.refl _ _).alloc _)); rintro e W6 ⟨v, rfl, hR6, hf6⟩; obtain ⟨A2, c2, rfl, hcl, -⟩ := Kd.R_reads hR6; (have hcut := cut50 A2 _ c2 hcl); (have HR := Lib.hid hR6); clear hR6 hcl))
      refine bodyPost_ret (v := .tuple #[.slice A2 ms.length ms.length, .int .i64 0]) (by simp [results, Tryd.results32, go_sem]) rfl ⟨_, rfl, ?_, ?_⟩
      · have hf0 : Fr0 w (W5.alloc (.cells #[.int .i64 g', .slice A' l.length c', .map (some mb)] 83)) := Fr.alloc (Fr0.trans HFW.out hf5) _
        exact Kd.V_mono (V_cut' (Kd.R_V (base' := w.heap.size) HR.out)) (fun k hk => Nat.le_trans hf0.size hk)
      · exact fr_below (Fr0.trans (Fr.alloc (Fr0.trans HFW.out hf5) _) hf6)
  · have hN : missingF g l sf sb p = ([], openE g l (okMissing g l p sf sb)) := by unfold missingF; rw [if_neg hz]
    rw [hN]
    clear hN
    generalize openE g l (okMissing g l p sf sb) = E at *
    go_enter Tryd.func32, Tryd.ntmps32
    go_wp2_with (first
      | (go_at_call 52; (with_reducible refine (HOP.out _ _ _ ?hw ?h1 ?h2 ?h2').mono ?_); (case hw => exact HFW.out); (case h1 => exact HC2.out.at_ 0 rfl); (case h2 => exact HC1.out.at_ 0 rfl); (case h2' => exact HC1.out.at_ 1 rfl); rintro e W5 ⟨g', A', n', c', o', rfl, hf5, hop⟩))
    refine bodyPost_ret (v := .tuple #[.slice none 0 0, .int .i64 E]) (by simp [results, Tryd.results32, go_sem]) rfl ⟨_, rfl, Kd.V_nil _ _ _ _ _, ?_⟩
    exact fr_below (Fr.alloc (Fr0.trans HFW.out hf5) _)
end Go.Proofs.YtephecfapclgfaaDoor.R
namespace Go.Proofs.YtephecfapclgfaaDoor.R
open Go.RowKit Go.Shelf Go.Proofs.YtephecfapclgfaaDoorW.PrintWords Go.Proofs.YtephecfapclgfaaDoorW.PrintLast Go.Proofs.YtephecfapclgfaaDoorW.PrintMore Go.Proofs.YtephecfapclgfaaDoor.PRaspKeys Go.Proofs.YtephecfapclgfaaDoor.X
attribute [local go_sem] Oper.semAt_some

theorem noGoto_ret {Q : Exit → Act → World → Prop} {a : Act} {w : World} (h : Q .ret a w) : Exit.noGoto Q .ret a w := h
/-! ### Places -/
theorem spotsN_in (l : List S63) : ∀ k, ∀ s ∈ spotsN l k, 0 ≤ s.f0 ∧ s.f0 < k ∧ 0 ≤ s.f1 ∧ s.f1 < (rd_T63 l s.f0).f0
  | 0, s, h => by simp [spotsN] at h
  | k + 1, s, h => by
    unfold spotsN at h
    rcases List.mem_append.1 h with h | h
    · have := spotsN_in l k s h
      omega
    · unfold spotsB at h
      obtain ⟨b, hb, rfl⟩ := List.mem_map.1 h
      rw [List.mem_range] at hb
      exact ⟨by simp, by simp; omega, by simp, by simp; omega⟩
theorem spots_ok {g : Int} {l : List S63} (hb : bookOk g l = true) : ∀ s ∈ spotsN l l.length, 0 ≤ s.f0 ∧ s.f0 < l.length ∧ 0 ≤ s.f1 ∧ s.f1 ≤ 1000 := by
  intro s hs
  have h := spotsN_in l _ s hs
  have h2 := (beats_of hb).two s.f0 h.1 h.2.1
  omega
def fitsP (l : List S63) (p : List (List Int)) (lost : Int) (s : S38) : Bool := (missF l s.f0 s.f1 p).2 && decide (((missF l s.f0 s.f1 p).1.length : Int) ≤ lost)
def placesF (g : Int) (l : List S63) (p : List (List Int)) (lost : Int) : List S38 × Int :=
  if openE g l (okPlaces g l p lost) = 0 then ((spotsN l l.length).filter (fitsP l p lost), 0) else ([], openE g l (okPlaces g l p lost))
theorem open_places (g : Int) (A : Option Addr) (c : Nat) (l : List S63) (Ap : Option Addr) (cp : Nat) (p : List (List Int)) (lost : Int) (b1 b2 : Nat) (W : World) (hB : Book W A c l) (hr : Kd.C (Kd.slice 3 (Kd.int .i64)) W Ap p.length p) (hc : p.length ≤ cp) (h1 : W.cell? ⟨b1, 0, none⟩ = some (.slice Ap p.length cp)) (h2 : W.cell? ⟨b2, 0, none⟩ = some (.int .i64 lost)) :
    Calls Tryd.prog 52 #[.agg #[.int .i64 g, .slice A l.length c], .func (.func 74) #[] #[.pointer (some ⟨b1, 0, none⟩), .pointer (some ⟨b2, 0, none⟩)]] W (Opens g A c l (openE g l (okPlaces g l p lost)) W) :=
  opened_any 74 _ (fun _ _ => by kernel_rfl) g A c l _ W hB.r hB.c hB.glob (fun hb mb W' hf hS => right74 g A c l mb b1 Ap cp p b2 lost W' hb hS (hf.cell0 h1) (C_fr hr hf) hc (hf.cell0 h2))
set_option maxHeartbeats 4000000 in
set_option maxRecDepth 100000 in
theorem places_any (g : Int) (A : Option Addr) (c : Nat) (l : List S63) (Ap : Option Addr) (cp : Nat) (p : List (List Int)) (lost : Int) (w : World) (hB : Book w A c l) (hr : Kd.C (Kd.slice 3 (Kd.int .i64)) w Ap p.length p) (hc : p.length ≤ cp) :
    Calls Tryd.prog 27 #[.agg #[.int .i64 g, .slice A l.length c], .slice Ap p.length cp, .int .i64 lost] w fun e w' =>
      ∃ v0_ : Value, e = .returned (.tuple #[v0_, .int .i64 (placesF g l p lost).2]) ∧ Kd.V k38 38 w' w.heap.size (fun k_ => (w.heap.size ≤ k_)) v0_ (placesF g l p lost).1 ∧ Below w.heap.size w w' := by
  have HOP := Lib.hid (fun (b1 b2 : Nat) W (hf : Fr0 w W) h1 h2 => open_places g A c l Ap cp p lost b1 b2 W (hB.fr hf) (C_fr hr hf) hc h1 h2)
  have hfw : Fr0 w (((w.alloc (.cells #[.int .i64 g, .slice A l.length c] 24)).alloc (.cells #[.slice Ap p.length cp] 39)).alloc (.cells #[.int .i64 lost] 3)) := (((Fr.refl _ _).alloc _).alloc _).alloc _
  have c1 : Bx (((w.alloc (.cells #[.int .i64 g, .slice A l.length c] 24)).alloc (.cells #[.slice Ap p.length cp] 39)).alloc (.cells #[.int .i64 lost] 3)) (w.heap.size + 1) 39 #[.slice Ap p.length cp] := (Bx.of_new (by simp)).alloc _
  have c2 : Bx (((w.alloc (.cells #[.int .i64 g, .slice A l.length c] 24)).alloc (.cells #[.slice Ap p.length cp] 39)).alloc (.cells #[.int .i64 lost] 3)) (w.heap.size + 1 + 1) 3 #[.int .i64 lost] := Bx.of_new (by simp)
  have HFW := Lib.hid hfw
  have HC1 := Lib.hid c1
  have HC2 := Lib.hid c2
  clear hfw c1 c2
  by_cases hz : openE g l (okPlaces g l p lost) = 0
  · have hN : placesF g l p lost = ((spotsN l l.length).filter (fitsP l p lost), 0) := by unfold placesF; rw [if_pos hz]
    obtain ⟨hbk, hok⟩ := openE_ok hz
    have hgg := gong_of hbk
    unfold okPlaces at hok
    simp only [Bool.and_eq_true, isIn_iff] at hok
    have hgr := heard_gr (show g ≤ 5 by omega) hok.1
    have HMI := Lib.hid (fun mb (s : S38) (h1 : 0 ≤ s.f0) (h1' : s.f0 < l.length) (h3 : 0 ≤ s.f1 ∧ s.f1 ≤ 1000) W (hf : Fr0 w W) hS => missing_any g A c l mb (beats_of hbk) s.f0 s.f1 Ap cp p W hS h1 h1' h3 (C_fr hr hf) hc hgr.2 hgr.1)
    have HSP := Lib.hid (fun m W (hf : Fr0 w W) => spots_any g A c l m (beats_of hbk) W (C_fr hB.r hf) hB.c)
    have HOK := Lib.hid (spots_ok hbk)
    have HLN := Lib.hid (spotsN_len (beats_of hbk) l.length (Nat.le_refl _))
    have hl4 := (beats_of hbk).len
    rw [hN]
    rw [hz] at HOP
    clear hz hN hok hbk hB hr hgr hgg
    generalize spotsN l l.length = ss at *
    go_enter Tryd.func27, Tryd.ntmps27
    go_wp2
    go_step3
    go_wp2_with (first
      | (go_at_call 52; (with_reducible refine (HOP.out _ _ _ ?hw ?h1 ?h2).mono ?_); (case hw => exact HFW.out); (case h1 => exact HC1.out.at_ 0 rfl); (case h2 => exact HC2.out.at_ 0 rfl); rintro e W5 ⟨g', A', n', c', o', rfl, hf5, hop⟩; obtain ⟨mb, rfl, rfl, rfl, rfl, rfl, hS5⟩ := hop rfl; (have HS5 := Lib.hid hS5); clear hop hS5))
    go_step3
    go_wp2_with (first
      | (go_at_call 76; (with_reducible refine (HSP.out _ _ ?hw).mono ?_); (case hw => exact Fr.alloc (Fr0.trans HFW.out hf5) _); rintro e W7 ⟨v, rfl, hR7, hf7⟩; obtain ⟨As, cs, rfl⟩ := Kd.R_slice hR7; (have HR7 := Lib.hid hR7); clear hR7))
    have hf6 : Fr0 w (W5.alloc (.cells #[.int .i64 g', .slice A' l.length c', .map (some mb)] 83)) := Fr.alloc (Fr0.trans HFW.out hf5) _
    have HF7 := Lib.hid (Fr0.trans hf6 hf7)
    have HS7 := Lib.hid (HS5.out.fr (Fr0.trans ((Fr.refl _ _).alloc _) hf7))
    have HB8 := Lib.hid ((Bx.new W5 83 #[.int .i64 g', .slice A' l.length c', .map (some mb)]).fr0 hf7)
    have HD1 := Lib.hid (HC1.out.fr0 (Fr0.trans (Fr0.trans hf5 ((Fr.refl _ _).alloc _)) hf7))
    have HD2 := Lib.hid (HC2.out.fr0 (Fr0.trans (Fr0.trans hf5 ((Fr.refl _ _).alloc _)) hf7))
    have HCS := Lib.hid (Kd.R_reads' HR7.out).2.2
    clear hf6 hf7 hf5
    generalize hg10 : W5.heap.size = g10 at *
    clear hg10
    go_loopw [10, 27] (fun v10 v27 wr => ∃ j : Nat, j ≤ ss.length ∧ v27 = .int .i64 j ∧ Kd.R k38 38 wr W7.heap.size (fun k => W7.heap.size ≤ k) v10 ((ss.take j).filter (fitsP l p lost)) ∧ Below W7.heap.size W7 wr) (fun _ v27 _ => (ss.length - intOf v27).toNat)
    case atStart => exact ⟨0, by omega, by rfl, by simpa using Kd.R_nil _ _ _ _ _, Below.refl _ _⟩
    case round =>
      obtain ⟨j, hj, rfl, hR, hb⟩ := hrel
      by_cases hlt : j < ss.length
      · have hle : (j : Int) < ss.length := by omega
        have hsl : ss.length ≤ 128 := by have := HLN.out; omega
        have hfw : Fr0 W7 wr := Go.Proofs.YtephecfapclgfaaDoor.X.Fr.of_below hb
        obtain ⟨ads, es, x0, x1⟩ := at_T38 (C_fr HCS.out hfw) (j : Int) (by omega) hle
        subst es
        rw [Int.toNat_natCast] at x0 x1
        have hsj : rd_T38 ss (j : Int) = ss[j] := by simp [rd_T38, hlt]
        have hsm := HOK.out (rd_T38 ss (j : Int)) (by rw [hsj]; exact List.getElem_mem hlt)
        have htk : ss.take (j + 1) = ss.take j ++ [rd_T38 ss (j : Int)] := by rw [List.take_add_one, List.getElem?_eq_getElem hlt, hsj]; rfl
        have hlf : ((ss.take j).filter (fitsP l p lost)).length ≤ 128 := by have h1 := List.length_filter_le (fitsP l p lost) (ss.take j); rw [List.length_take] at h1; have := HLN.out; omega
        generalize rd_T38 ss (j : Int) = s at *
        obtain ⟨s0, s1⟩ := s
        dsimp only at x0 x1 hsm
        have HM1 := Lib.hid (fun W (hf : Fr0 w W) hS => HMI.out mb ⟨s0, s1⟩ hsm.1 hsm.2.1 ⟨hsm.2.2.1, hsm.2.2.2⟩ W hf hS)
        have HFI := Lib.hid (show (ss.take (j + 1)).filter (fitsP l p lost) = (ss.take j).filter (fitsP l p lost) ++ (if (missF l s0 s1 p).2 && decide (((missF l s0 s1 p).1.length : Int) ≤ lost) then [⟨s0, s1⟩] else []) by rw [htk, List.filter_append]; congr 1; simp only [List.filter_cons, List.filter_nil]; rfl)
        dsimp only at HM1
        generalize (ss.take j).filter (fitsP l p lost) = xs at *
        generalize missF l s0 s1 p = M at *
        have HR := Lib.hid hR
        have HBW := Lib.hid hb
        have HW := Lib.hid hfw
        have HLF := Lib.hid hlf
        have b8 := HB8.out.fr0 hfw
        have d1 := HD1.out.fr0 hfw
        have d2 := HD2.out.fr0 hfw
        have q0 := b8.at_ 0 (v := .int .i64 g') rfl
        have q1 := b8.at_ 1 (v := .slice A' l.length c') rfl
        have q2 := b8.at_ 2 (v := .map (some mb)) rfl
        have q3 := d1.at_ 0 (v := .slice Ap p.length cp) rfl
        have q4 := d2.at_ 0 (v := .int .i64 lost) rfl
        have l0 := b8.lt
        have l1 := d1.lt
        have l2 := d2.lt
        clear hR hb hfw hsj hsm htk hlf b8 d1 d2
        obtain ⟨ms, mo⟩ := M
        dsimp only at HM1 HFI
        cases mo
        · go_wp2_with (go_at_call 77; (with_reducible refine (HM1.out _ ?hw ?hs).mono ?_); (case hw => exact Fr.alloc (Fr0.trans HF7.out HW.out) _); (case hs => exact HS7.out.fr (Fr.alloc HW.out _)); rintro e W9 ⟨v, rfl, hR9, hf9⟩)
          go_roundw
          case rel => exact ⟨j + 1, by omega, by go_num, by rw [HFI.out]; simpa using R_fr (R_fr HR.out ((Fr.refl (fun _ => False) _).alloc _) (fun _ _ h => h)) hf9 (fun _ _ h => h), HBW.out.trans (Fr.below (Fr0.trans ((Fr.refl _ _).alloc _) hf9) HBW.out.size (fun _ _ h => h))⟩
          case measure => simp [intOf]; omega
        · by_cases hml : (ms.length : Int) ≤ lost
          · have hml' : ¬ ((ms.length : Int) > lost) := by omega
            have hmd : decide ((ms.length : Int) ≤ lost) = true := decide_eq_true hml
            rw [hmd] at HFI
            have HX := Lib.hid hml
            clear hml hmd
            go_wp2_with (first
              | (go_at_call 77; (with_reducible refine (HM1.out _ ?hw ?hs).mono ?_); (case hw => exact Fr.alloc (Fr0.trans HF7.out HW.out) _); (case hs => exact HS7.out.fr (Fr.alloc HW.out _)); rintro e W9 ⟨v, rfl, hR9, hf9⟩; obtain ⟨A2, c2, rfl⟩ := Kd.R_slice hR9; (have HW9 := Lib.hid (Fr0.trans ((Fr.refl (fun _ => False) wr).alloc (.cells #[.int .i64 s0, .int .i64 s1] 38)) hf9)); (have B12 := (Bx.new wr 38 #[.int .i64 s0, .int .i64 s1]).fr0 hf9); (have y0 := B12.at_ 0 (v := .int .i64 s0) rfl); (have y1 := B12.at_ 1 (v := .int .i64 s1) rfl); (have l9 := B12.lt); (have q4' := HW9.out.cell0 q4); clear hR9 hf9 B12)
              | ((with_reducible refine gate_builtin (b := .append) (xs := #[.tmp 46, .tmp 48]) rfl ?_); at_builtin; refine Kd.R_append k38 (w0 := W7) W7.heap.size rfl (.tmp 46) (.tmp 48) 45 38 (.agg #[.int .i64 0, .int .i64 0]) 16 rfl Tryd.underlying45 inf38 rfl (by decide) (by omega) _ xs ⟨s0, s1⟩ [.int .i64 s0, .int .i64 s1] (fun k => W7.heap.size ≤ k) (fun _ => False) rfl rfl ?aP (fun _ hk => hk.elim) ?aF ?aO ?aB ?aS ?aL ?_; (case aP => exact k38_mkM _ _ _ _); (case aB => exact HBW.out.trans (Fr.below HW9.out HBW.out.size (fun _ _ h => h))); (case aF => exact (fun k hk => Nat.le_trans (Nat.le_trans HBW.out.size HW9.out.size) hk)); (case aO => exact R_fr HR.out HW9.out (fun _ _ h => h)); (case aS => exact Nat.le_trans HBW.out.size HW9.out.size); (case aL => have := HLF.out; omega); intro v104 w6 ho hb hg hat))
            go_roundw
            case rel => exact ⟨j + 1, by omega, by go_num, by rw [HFI.out]; exact ho, hb⟩
            case measure => simp [intOf]; omega
          · have hml' : (ms.length : Int) > lost := by omega
            have hmd : decide ((ms.length : Int) ≤ lost) = false := decide_eq_false hml
            rw [hmd] at HFI
            clear hml hmd
            go_wp2_with (first
              | (go_at_call 77; (with_reducible refine (HM1.out _ ?hw ?hs).mono ?_); (case hw => exact Fr.alloc (Fr0.trans HF7.out HW.out) _); (case hs => exact HS7.out.fr (Fr.alloc HW.out _)); rintro e W9 ⟨v, rfl, hR9, hf9⟩; obtain ⟨A2, c2, rfl⟩ := Kd.R_slice hR9; (have HW9 := Lib.hid (Fr0.trans ((Fr.refl (fun _ => False) wr).alloc (.cells #[.int .i64 s0, .int .i64 s1] 38)) hf9)); (have q4' := HW9.out.cell0 q4); clear hR9 hf9))
            go_roundw
            case rel => exact ⟨j + 1, by omega, by go_num, by rw [HFI.out]; simpa using R_fr HR.out HW9.out (fun _ _ h => h), HBW.out.trans (Fr.below HW9.out HBW.out.size (fun _ _ h => h))⟩
            case measure => simp [intOf]; omega
      · obtain rfl : j = ss.length := by omega
        have hle : ¬ ((ss.length : Int) < ss.length) := by omega
        rw [List.take_length] at hR
        obtain ⟨A2, c2, rfl, hcl, -⟩ := Kd.R_reads hR
        have hcut := cut45 A2 _ c2 hcl
        have HR := Lib.hid hR
        have HBW := Lib.hid hb
        clear hR hb hcl
        go_wp2
        refine bodyPost_ret (v := .tuple #[.slice A2 (ss.filter (fitsP l p lost)).length (ss.filter (fitsP l p lost)).length, .int .i64 0]) (by simp [results, Tryd.results27, go_sem]) rfl ⟨_, rfl, ?_, ?_⟩
        · exact Kd.V_mono (V_cut' (Kd.R_V (base' := w.heap.size) HR.out)) (fun k hk => Nat.le_trans HF7.out.size hk)
        · exact fr_below (Fr0.trans HF7.out (Go.Proofs.YtephecfapclgfaaDoor.X.Fr.of_below HBW.out))
  · have hN : placesF g l p lost = ([], openE g l (okPlaces g l p lost)) := by unfold placesF; rw [if_neg hz]
    rw [hN]
    clear hN
    generalize openE g l (okPlaces g l p lost) = E at *
    go_enter Tryd.func27, Tryd.ntmps27
    go_wp2
    go_step3
    go_wp2_with (first
      | (go_at_call 52; (with_reducible refine (HOP.out _ _ _ ?hw ?h1 ?h2).mono ?_); (case hw => exact HFW.out); (case h1 => exact HC1.out.at_ 0 rfl); (case h2 => exact HC2.out.at_ 0 rfl); rintro e W5 ⟨g', A', n', c', o', rfl, hf5, hop⟩))
    refine noGoto_ret (bodyPost_ret (v := .tuple #[.slice none 0 0, .int .i64 E]) (by simp [results, Tryd.results27, go_sem]) rfl ⟨_, rfl, Kd.V_nil _ _ _ _ _, ?_⟩)
    exact fr_below (Fr.alloc (Fr0.trans HFW.out hf5) _)
end Go.Proofs.YtephecfapclgfaaDoor.R
namespace Go.Proofs.YtephecfapclgfaaDoor.R
open Go.RowKit Go.Shelf Go.Proofs.YtephecfapclgfaaDoorW.PrintWords Go.Proofs.YtephecfapclgfaaDoorW.PrintLast Go.Proofs.YtephecfapclgfaaDoorW.PrintMore Go.Proofs.YtephecfapclgfaaDoor.PRaspKeys Go.Proofs.YtephecfapclgfaaDoor.X
attribute [local go_sem] Oper.semAt_some

/-! ### Least -/
def stepL (l : List S63) (p : List (List Int)) (acc : Int) (s : S38) : Int := if (missF l s.f0 s.f1 p).2 = true ∧ (acc < 0 ∨ ((missF l s.f0 s.f1 p).1.length : Int) < acc) then ((missF l s.f0 s.f1 p).1.length : Int) else acc
def leastN (l : List S63) (p : List (List Int)) : Int := (spotsN l l.length).foldl (stepL l p) (-1)
def leastF (g : Int) (l : List S63) (p : List (List Int)) : Int × Int :=
  if openE g l (okLeast g l p) = 0 then (if leastN l p < 0 then (0, 4) else (leastN l p, 0)) else (0, openE g l (okLeast g l p))
theorem open_least (g : Int) (A : Option Addr) (c : Nat) (l : List S63) (Ap : Option Addr) (cp : Nat) (p : List (List Int)) (b1 : Nat) (W : World) (hB : Book W A c l) (hr : Kd.C (Kd.slice 3 (Kd.int .i64)) W Ap p.length p) (hc : p.length ≤ cp) (h1 : W.cell? ⟨b1, 0, none⟩ = some (.slice Ap p.length cp)) :
    Calls Tryd.prog 52 #[.agg #[.int .i64 g, .slice A l.length c], .func (.func 81) #[] #[.pointer (some ⟨b1, 0, none⟩)]] W (Opens g A c l (openE g l (okLeast g l p)) W) :=
  opened_any 81 _ (fun _ _ => by kernel_rfl) g A c l _ W hB.r hB.c hB.glob (fun hb mb W' hf hS => right81 g A c l mb b1 Ap cp p W' hb hS (hf.cell0 h1) (C_fr hr hf) hc)
set_option maxHeartbeats 4000000 in
set_option maxRecDepth 100000 in
theorem least_any (g : Int) (A : Option Addr) (c : Nat) (l : List S63) (Ap : Option Addr) (cp : Nat) (p : List (List Int)) (w : World) (hB : Book w A c l) (hr : Kd.C (Kd.slice 3 (Kd.int .i64)) w Ap p.length p) (hc : p.length ≤ cp) :
    Calls Tryd.prog 30 #[.agg #[.int .i64 g, .slice A l.length c], .slice Ap p.length cp] w fun e w' =>
      e = .returned (.tuple #[.int .i64 (leastF g l p).1, .int .i64 (leastF g l p).2]) ∧ Below w.heap.size w w' := by
  have HOP := Lib.hid (fun (b1 : Nat) W (hf : Fr0 w W) h1 => open_least g A c l Ap cp p b1 W (hB.fr hf) (C_fr hr hf) hc h1)
  have hfw : Fr0 w ((w.alloc (.cells #[.int .i64 g, .slice A l.length c] 24)).alloc (.cells #[.slice Ap p.length cp] 39)) := ((Fr.refl _ _).alloc _).alloc _
  have c1 : Bx ((w.alloc (.cells #[.int .i64 g, .slice A l.length c] 24)).alloc (.cells #[.slice Ap p.length cp] 39)) (w.heap.size + 1) 39 #[.slice Ap p.length cp] := Bx.of_new (by simp)
  have HFW := Lib.hid hfw
  have HC1 := Lib.hid c1
  clear hfw c1
  by_cases hz : openE g l (okLeast g l p) = 0
  · have hN : leastF g l p = if leastN l p < 0 then (0, 4) else (leastN l p, 0) := by unfold leastF; rw [if_pos hz]
    obtain ⟨hbk, hok⟩ := openE_ok hz
    have hgg := gong_of hbk
    unfold okLeast at hok
    have hgr := heard_gr (show g ≤ 5 by omega) hok
    have HMI := Lib.hid (fun mb (s : S38) (h1 : 0 ≤ s.f0) (h1' : s.f0 < l.length) (h3 : 0 ≤ s.f1 ∧ s.f1 ≤ 1000) W (hf : Fr0 w W) hS => missing_any g A c l mb (beats_of hbk) s.f0 s.f1 Ap cp p W hS h1 h1' h3 (C_fr hr hf) hc hgr.2 hgr.1)
    have HSP := Lib.hid (fun m W (hf : Fr0 w W) => spots_any g A c l m (beats_of hbk) W (C_fr hB.r hf) hB.c)
    have HOK := Lib.hid (spots_ok hbk)
    have HLN := Lib.hid (spotsN_len (beats_of hbk) l.length (Nat.le_refl _))
    have hl4 := (beats_of hbk).len
    have HNN := Lib.hid hN
    rw [hz] at HOP
    have HLE := Lib.hid (show leastN l p = (spotsN l l.length).foldl (stepL l p) (-1) from rfl)
    clear hz hN hok hbk hB hr hgr hgg
    generalize spotsN l l.length = ss at *
    generalize leastN l p = LN at *
    generalize leastF g l p = LF at *
    go_enter Tryd.func30, Tryd.ntmps30
    go_wp2_with (first
      | (go_at_call 52; (with_reducible refine (HOP.out _ _ ?hw ?h1).mono ?_); (case hw => exact HFW.out); (case h1 => exact HC1.out.at_ 0 rfl); rintro e W5 ⟨g', A', n', c', o', rfl, hf5, hop⟩; obtain ⟨mb, rfl, rfl, rfl, rfl, rfl, hS5⟩ := hop rfl; (have HS5 := Lib.hid hS5); clear hop hS5)
      | (go_at_call 76; (with_reducible refine (HSP.out _ _ ?hw).mono ?_); (case hw => exact Fr.alloc (Fr0.trans HFW.out hf5) _); rintro e W7 ⟨v, rfl, hR7, hf7⟩; obtain ⟨As, cs, rfl⟩ := Kd.R_slice hR7; (have HR7 := Lib.hid hR7); clear hR7))
    have hf6 : Fr0 w (W5.alloc (.cells #[.int .i64 g', .slice A' l.length c', .map (some mb)] 83)) := Fr.alloc (Fr0.trans HFW.out hf5) _
    have HF7 := Lib.hid (Fr0.trans hf6 hf7)
    have HS7 := Lib.hid (HS5.out.fr (Fr0.trans ((Fr.refl _ _).alloc _) hf7))
    have HB8 := Lib.hid ((Bx.new W5 83 #[.int .i64 g', .slice A' l.length c', .map (some mb)]).fr0 hf7)
    have HD1 := Lib.hid (HC1.out.fr0 (Fr0.trans (Fr0.trans hf5 ((Fr.refl _ _).alloc _)) hf7))
    have HCS := Lib.hid (Kd.R_reads' HR7.out).2.2
    clear hf6 hf7 hf5
    generalize hg10 : W5.heap.size = g10 at *
    clear hg10
    go_loopw [8, 25] (fun v8 v25 wr => ∃ j : Nat, j ≤ ss.length ∧ v25 = .int .i64 j ∧ v8 = .int .i64 ((ss.take j).foldl (stepL l p) (-1)) ∧ Fr0 W7 wr) (fun _ v25 _ => (ss.length - intOf v25).toNat)
    case atStart => exact ⟨0, by omega, by rfl, by rfl, Fr.refl _ _⟩
    case round =>
      obtain ⟨j, hj, rfl, rfl, hfw⟩ := hrel
      by_cases hlt : j < ss.length
      · have hle : (j : Int) < ss.length := by omega
        have hsl : ss.length ≤ 128 := by have := HLN.out; omega
        obtain ⟨ads, es, x0, x1⟩ := at_T38 (C_fr HCS.out hfw) (j : Int) (by omega) hle
        subst es
        rw [Int.toNat_natCast] at x0 x1
        have hsj : rd_T38 ss (j : Int) = ss[j] := by simp [rd_T38, hlt]
        have hsm := HOK.out (rd_T38 ss (j : Int)) (by rw [hsj]; exact List.getElem_mem hlt)
        have htk : ss.take (j + 1) = ss.take j ++ [rd_T38 ss (j : Int)] := by rw [List.take_add_one, List.getElem?_eq_getElem hlt, hsj]; rfl
        generalize rd_T38 ss (j : Int) = s at *
        obtain ⟨s0, s1⟩ := s
        dsimp only at x0 x1 hsm
        have HM1 := Lib.hid (fun W (hf : Fr0 w W) hS => HMI.out mb ⟨s0, s1⟩ hsm.1 hsm.2.1 ⟨hsm.2.2.1, hsm.2.2.2⟩ W hf hS)
        have HFI := Lib.hid (show (ss.take (j + 1)).foldl (stepL l p) (-1) = (if (missF l s0 s1 p).2 = true ∧ ((ss.take j).foldl (stepL l p) (-1) < 0 ∨ ((missF l s0 s1 p).1.length : Int) < (ss.take j).foldl (stepL l p) (-1)) then ((missF l s0 s1 p).1.length : Int) else (ss.take j).foldl (stepL l p) (-1)) by rw [htk, List.foldl_append]; rfl)
        dsimp only at HM1
        generalize (ss.take j).foldl (stepL l p) (-1) = acc at *
        generalize missF l s0 s1 p = M at *
        have HW := Lib.hid hfw
        have b8 := HB8.out.fr0 hfw
        have d1 := HD1.out.fr0 hfw
        have q0 := b8.at_ 0 (v := .int .i64 g') rfl
        have q1 := b8.at_ 1 (v := .slice A' l.length c') rfl
        have q2 := b8.at_ 2 (v := .map (some mb)) rfl
        have q3 := d1.at_ 0 (v := .slice Ap p.length cp) rfl
        have l0 := b8.lt
        have l1 := d1.lt
        clear hfw hsj hsm htk b8 d1
        obtain ⟨ms, mo⟩ := M
        dsimp only at HM1 HFI
        cases mo
        · go_wp2_with (go_at_call 77; (with_reducible refine (HM1.out _ ?hw ?hs).mono ?_); (case hw => exact Fr.alloc (Fr0.trans HF7.out HW.out) _); (case hs => exact HS7.out.fr (Fr.alloc HW.out _)); rintro e W9 ⟨v, rfl, hR9, hf9⟩)
          go_roundw
          case rel => exact ⟨j + 1, by omega, by go_num, by rw [HFI.out, if_neg (by simp)], HW.out.trans (Fr0.trans ((Fr.refl _ _).alloc _) hf9)⟩
          case measure => simp [intOf]; omega
        · by_cases ha : acc < 0
          · go_wp2_with (go_at_call 77; (with_reducible refine (HM1.out _ ?hw ?hs).mono ?_); (case hw => exact Fr.alloc (Fr0.trans HF7.out HW.out) _); (case hs => exact HS7.out.fr (Fr.alloc HW.out _)); rintro e W9 ⟨v, rfl, hR9, hf9⟩; obtain ⟨A2, c2, rfl⟩ := Kd.R_slice hR9)
            go_roundw
            case rel => exact ⟨j + 1, by omega, by go_num, by rw [HFI.out, if_pos (by refine ⟨by trivial, ?_⟩; omega)], HW.out.trans (Fr0.trans ((Fr.refl _ _).alloc _) hf9)⟩
            case measure => simp [intOf]; omega
          · by_cases hm : (ms.length : Int) < acc
            · go_wp2_with (go_at_call 77; (with_reducible refine (HM1.out _ ?hw ?hs).mono ?_); (case hw => exact Fr.alloc (Fr0.trans HF7.out HW.out) _); (case hs => exact HS7.out.fr (Fr.alloc HW.out _)); rintro e W9 ⟨v, rfl, hR9, hf9⟩; obtain ⟨A2, c2, rfl⟩ := Kd.R_slice hR9)
              go_roundw
              case rel => exact ⟨j + 1, by omega, by go_num, by rw [HFI.out, if_pos (by refine ⟨by trivial, ?_⟩; omega)], HW.out.trans (Fr0.trans ((Fr.refl _ _).alloc _) hf9)⟩
              case measure => simp [intOf]; omega
            · go_wp2_with (go_at_call 77; (with_reducible refine (HM1.out _ ?hw ?hs).mono ?_); (case hw => exact Fr.alloc (Fr0.trans HF7.out HW.out) _); (case hs => exact HS7.out.fr (Fr.alloc HW.out _)); rintro e W9 ⟨v, rfl, hR9, hf9⟩; obtain ⟨A2, c2, rfl⟩ := Kd.R_slice hR9)
              go_roundw
              case rel => exact ⟨j + 1, by omega, by go_num, by rw [HFI.out, if_neg (by rintro ⟨_, h | h⟩ <;> omega)], HW.out.trans (Fr0.trans ((Fr.refl _ _).alloc _) hf9)⟩
              case measure => simp [intOf]; omega
      · obtain rfl : j = ss.length := by omega
        have hle : ¬ ((ss.length : Int) < ss.length) := by omega
        have HFE := Lib.hid (show LN = (ss.take ss.length).foldl (stepL l p) (-1) by rw [List.take_length]; exact HLE.out)
        generalize (ss.take ss.length).foldl (stepL l p) (-1) = acc at *
        have HW := Lib.hid hfw
        clear hfw
        by_cases ha : acc < 0
        · have HA := Lib.hid ha
          go_wp2
          refine bodyPost_ret (v := .tuple #[.int .i64 0, .int .i64 4]) (by simp [results, Tryd.results30, go_sem]) rfl ⟨by rw [HNN.out, if_pos (by rw [HFE.out]; exact HA.out)], ?_⟩
          exact fr_below (Fr0.trans HF7.out HW.out)
        · have HA := Lib.hid ha
          go_wp2
          refine bodyPost_ret (v := .tuple #[.int .i64 acc, .int .i64 0]) (by simp [results, Tryd.results30, go_sem]) rfl ⟨by rw [HNN.out, if_neg (by rw [HFE.out]; have := HA.out; omega), HFE.out], ?_⟩
          exact fr_below (Fr0.trans HF7.out HW.out)
  · have hN : leastF g l p = (0, openE g l (okLeast g l p)) := by unfold leastF; rw [if_neg hz]
    rw [hN]
    clear hN
    generalize openE g l (okLeast g l p) = E at *
    go_enter Tryd.func30, Tryd.ntmps30
    go_wp2_with (first
      | (go_at_call 52; (with_reducible refine (HOP.out _ _ ?hw ?h1).mono ?_); (case hw => exact HFW.out); (case h1 => exact HC1.out.at_ 0 rfl); rintro e W5 ⟨g', A', n', c', o', rfl, hf5, hop⟩))
    refine bodyPost_ret (v := .tuple #[.int .i64 0, .int .i64 E]) (by simp [results, Tryd.results30, go_sem]) rfl ⟨rfl, ?_⟩
    exact fr_below (Fr.alloc (Fr0.trans HFW.out hf5) _)
end Go.Proofs.YtephecfapclgfaaDoor.R
namespace Go.Proofs.YtephecfapclgfaaDoor.R
open Go.RowKit Go.Shelf Go.Proofs.YtephecfapclgfaaDoorW.PrintWords Go.Proofs.YtephecfapclgfaaDoorW.PrintLast Go.Proofs.YtephecfapclgfaaDoorW.PrintMore Go.Proofs.YtephecfapclgfaaDoor.PRaspKeys Go.Proofs.YtephecfapclgfaaDoor.X
attribute [local go_sem] Oper.semAt_some

/-! ### until -/
theorem C_one {w : World} {ad : Addr} {y : Int} (h : w.cell? ad = some (.int .i64 y)) : Kd.C (Kd.int .i64) w (some ad) ([y] : List Int).length [y] := by
  refine ⟨rfl, by simp, fun _ => ⟨ad, rfl, fun j p hj => ?_⟩⟩
  match j, hj with
  | 0, hj =>
    obtain rfl : y = p := by simpa using hj
    refine ⟨[.int .i64 y], rfl, rfl, fun i u hu => ?_⟩
    match i, hu with
    | 0, hu =>
      obtain rfl := Option.some.inj hu
      have : ad.add 0 = ad := by simp [Addr.add]
      simpa [this] using h
theorem greatest_f (x y : Int) : Ev (fun k => cycle_greatest_int.f k x [y]) (mx x y) := by
  refine Ev.step (fun k => by rw [cycle_greatest_int.f, cycle_greatest_int.l0, if_pos (by simp), if_pos (by omega), if_pos (by simp), show rd [y] 0 = y from rfl, w64 (x := 0 + 1) (by omega) (by omega)]) ?_
  refine Ev.step (fun k => by rw [cycle_greatest_int.l0, if_neg (by simp)]) ?_
  exact Ev.now _
theorem greatest_any (x y : Int) (ad : Addr) (w : World) (h : w.cell? ad = some (.int .i64 y)) : Calls Tryd.prog 89 #[.int .i64 x, .slice (some ad) 1 1] w fun e w' => e = .returned (.int .i64 (mx x y)) ∧ Fr0 w w' := by
  obtain ⟨K, hK⟩ := greatest_f x y
  exact (cycle_greatest_int.calls K x (some ad) 1 [y] (mx x y) w (C_one h) (Nat.le_refl _) (hK K (Nat.le_refl _))).mono fun e w' h => ⟨h.1, Go.Proofs.YtephecfapclgfaaDoor.X.Fr.of_below h.2⟩
def untilN (a1 a2 : Nat → Int) (lost : Int) : Nat → Nat → Int → Int → Int
  | 0, _, _, _ => 64
  | n + 1, b, d1, d2 => if mx (d1 + a1 b) (d2 + a2 b) > lost then (b : Int) else untilN a1 a2 lost n (b + 1) (d1 + a1 b) (d2 + a2 b)
def untilF (l : List S63) (sf sb tf tb lost : Int) : Int := untilN (fun b => aloneF l sf sb tf tb b) (fun b => aloneF l tf tb sf sb b) lost 64 0 0 0
theorem slice55 (b : Nat) : ∀ W : World, (Instr.sliceAt 55 (.pointer (some ⟨b, 0, none⟩)) (some (.int .i64 1)) none none).run Tryd.prog W = .ok (.slice (some ⟨b, 1, none⟩) 1 1) W := by
  intro W
  have hu := Tryd.underlying55
  cases h : Tryd.prog.info? 3 with
  | none => have := info3; rw [h] at this; cases this
  | some i =>
    have hs : i.size = 1 := by have := info3; rw [h] at this; simp at this; exact this.2.1
    unfold Instr.sliceAt
    simp [run_underlying hu, Instr.sliceBounds, Instr.sliceBound, Sem.run_bind, Result.andThen_ok, sizeOf, typeInfo, h, hs, Addr.add, go_sem]
theorem ef115 (args : Array Value) (w : World) : (callFunc 115 args).run Tryd.prog w = .ok (.enter 115 args) w := by kernel_rfl
theorem ef117 (args : Array Value) (w : World) : (callFunc 117 args).run Tryd.prog w = .ok (.enter 117 args) w := by kernel_rfl
theorem mx_bnd {a b m : Int} (h1 : 0 ≤ a ∧ a ≤ m) (h2 : 0 ≤ b ∧ b ≤ m) : 0 ≤ mx a b ∧ mx a b ≤ m := by unfold mx; split <;> omega
set_option maxHeartbeats 4000000 in
set_option maxRecDepth 100000 in
theorem until_any (g : Int) (A : Option Addr) (c : Nat) (l : List S63) (mb : Nat) (hl : Beats l) (sf sb tf tb lost : Int) (w : World) (h : St g A c l mb w) (h1 : 0 ≤ sf) (h1' : sf < l.length) (h2 : 0 ≤ tf) (h2' : tf < l.length) (h3 : 0 ≤ sb ∧ sb ≤ 1000) (h4 : 0 ≤ tb ∧ tb ≤ 1000) :
    Calls Tryd.prog 84 #[bookV g A l.length c (some mb), twoV sf sb tf tb, .int .i64 lost] w fun e w' => e = .returned (.int .i64 (untilF l sf sb tf tb lost)) ∧ Fr0 w w' := by
  have HM := Lib.hid (fun (b : Nat) (hb : b ≤ 1000) W (hf : Fr0 w W) => mine_any g A c l mb hl sf sb tf tb b W (h.fr hf) h1 h1' h2 h2' h3 h4 (by omega))
  have HT := Lib.hid (fun (b : Nat) (hb : b ≤ 1000) W (hf : Fr0 w W) => theirs_any g A c l mb hl sf sb tf tb b W (h.fr hf) h1 h1' h2 h2' h3 h4 (by omega))
  have HU := Lib.hid (show untilF l sf sb tf tb lost = untilN (fun b => aloneF l sf sb tf tb b) (fun b => aloneF l tf tb sf sb b) lost 64 0 0 0 from rfl)
  have hb1 : ∀ b : Nat, 0 ≤ aloneF l sf sb tf tb b ∧ aloneF l sf sb tf tb b ≤ 5 := fun b => cntG_bnd _
  have hb2 : ∀ b : Nat, 0 ≤ aloneF l tf tb sf sb b ∧ aloneF l tf tb sf sb b ≤ 5 := fun b => cntG_bnd _
  have HB1 := Lib.hid hb1
  have HB2 := Lib.hid hb2
  have HG := Lib.hid h.glob
  generalize ha1 : (fun b : Nat => aloneF l sf sb tf tb (b : Int)) = a1 at *
  generalize ha2 : (fun b : Nat => aloneF l tf tb sf sb (b : Int)) = a2 at *
  have e1 : ∀ b : Nat, aloneF l sf sb tf tb (b : Int) = a1 b := fun b => by rw [← ha1]
  have e2 : ∀ b : Nat, aloneF l tf tb sf sb (b : Int) = a2 b := fun b => by rw [← ha2]
  simp only [e1] at HM HB1
  simp only [e2] at HT HB2
  clear ha1 ha2 e1 e2 hb1 hb2 h hl
  generalize untilF l sf sb tf tb lost = UF at *
  go_enter Tryd.func84, Tryd.ntmps84
  go_wp2
  have hf0 : Fr0 w (((w.alloc (.cells (bookC g A l.length c (some mb)) 83)).alloc (.cells #[.int .i64 sf, .int .i64 sb, .int .i64 tf, .int .i64 tb] 118)).alloc (.cells #[.int .i64 0, .int .i64 0] 55)) := (((Fr.refl _ _).alloc _).alloc _).alloc _
  have BK : Bx (((w.alloc (.cells (bookC g A l.length c (some mb)) 83)).alloc (.cells #[.int .i64 sf, .int .i64 sb, .int .i64 tf, .int .i64 tb] 118)).alloc (.cells #[.int .i64 0, .int .i64 0] 55)) w.heap.size 83 (bookC g A l.length c (some mb)) := ((Bx.new _ _ _).alloc _).alloc _
  have BT : Bx (((w.alloc (.cells (bookC g A l.length c (some mb)) 83)).alloc (.cells #[.int .i64 sf, .int .i64 sb, .int .i64 tf, .int .i64 tb] 118)).alloc (.cells #[.int .i64 0, .int .i64 0] 55)) (w.heap.size + 1) 118 #[.int .i64 sf, .int .i64 sb, .int .i64 tf, .int .i64 tb] := (Bx.of_new (by simp)).alloc _
  have BD : Bx (((w.alloc (.cells (bookC g A l.length c (some mb)) 83)).alloc (.cells #[.int .i64 sf, .int .i64 sb, .int .i64 tf, .int .i64 tb] 118)).alloc (.cells #[.int .i64 0, .int .i64 0] 55)) (w.heap.size + 1 + 1) 55 #[.int .i64 0, .int .i64 0] := Bx.of_new (by simp)
  have hs3 : w.heap.size + 3 = (((w.alloc (.cells (bookC g A l.length c (some mb)) 83)).alloc (.cells #[.int .i64 sf, .int .i64 sb, .int .i64 tf, .int .i64 tb] 118)).alloc (.cells #[.int .i64 0, .int .i64 0] 55)).heap.size := by simp
  have hwg : 0 < w.heap.size := HG.out.lt
  generalize hW3 : World.alloc _ _ = W3 at *
  clear hW3
  have HF0 := Lib.hid hf0
  have HBK := Lib.hid BK
  have HBT := Lib.hid BT
  have HBD0 := Lib.hid BD
  clear hf0 BK BT BD
  go_loopw [11] (fun v wr => ∃ b : Nat, b ≤ 64 ∧ v = .int .i64 b ∧ ∃ d1 d2 : Int, (0 ≤ d1 ∧ d1 ≤ 5 * b) ∧ (0 ≤ d2 ∧ d2 ≤ 5 * b) ∧ UF = untilN a1 a2 lost (64 - b) b d1 d2 ∧ Bx wr (w.heap.size + 1 + 1) 55 #[.int .i64 d1, .int .i64 d2] ∧ Fr (fun k => k = w.heap.size + 1 + 1) W3 wr) (fun v _ => (64 - intOf v).toNat)
  case atStart => exact ⟨0, by omega, by rfl, 0, 0, by omega, by omega, HU.out, HBD0.out, Fr.refl _ _⟩
  case round =>
    clear HBD0 HU
    obtain ⟨b, hb, rfl, d1, d2, hd1, hd2, hU, hBD, hf⟩ := hrel
    have HU := Lib.hid hU
    clear hU
    by_cases hlt : b < 64
    · have hle : (b : Int) < 64 := by omega
      have hWr : Fr0 w wr := HF0.out.step hf (fun k hk e => by omega)
      have gl := HG.out.fr hWr
      have g0 := gl.g0
      have g1 := gl.g1
      have HA1 := HB1.out b
      have HA2 := HB2.out b
      have HUS := Lib.hid (show UF = if mx (d1 + a1 b) (d2 + a2 b) > lost then (b : Int) else untilN a1 a2 lost (64 - (b + 1)) (b + 1) (d1 + a1 b) (d2 + a2 b) by rw [HU.out, show 64 - b = (64 - (b + 1)) + 1 by omega]; rfl)
      have HMB := Lib.hid (HM.out b (by omega))
      have HTB := Lib.hid (HT.out b (by omega))
      generalize a1 b = x1 at *
      generalize a2 b = x2 at *
      have HBD1 := Lib.hid hBD
      have HF := Lib.hid hf
      clear hBD hf HU gl hWr
      go_wp2
      have hix0 : ∀ W : World, (Instr.index 128 (.agg #[.func (.func 115) #[] #[], .func (.func 117) #[] #[]]) (.int .i64 0)).run Tryd.prog W = .ok (.func (.func 115) #[] #[]) W := fun _ => by kernel_rfl
      have hix1 : ∀ W : World, (Instr.index 128 (.agg #[.func (.func 115) #[] #[], .func (.func 117) #[] #[]]) (.int .i64 1)).run Tryd.prog W = .ok (.func (.func 117) #[] #[]) W := fun _ => by kernel_rfl
      have HIX0 := Lib.hid hix0
      have HIX1 := Lib.hid hix1
      clear hix0 hix1 g0 g1
      go_loopw [15] (fun v wq => ((v = .int .i64 0 ∧ Bx wq (w.heap.size + 1 + 1) 55 #[.int .i64 d1, .int .i64 d2]) ∨ (v = .int .i64 1 ∧ Bx wq (w.heap.size + 1 + 1) 55 #[.int .i64 (d1 + x1), .int .i64 d2]) ∨ (v = .int .i64 2 ∧ Bx wq (w.heap.size + 1 + 1) 55 #[.int .i64 (d1 + x1), .int .i64 (d2 + x2)])) ∧ Fr (fun k => k = w.heap.size + 1 + 1) W3 wq) (fun v _ => (2 - intOf v).toNat)
      case atStart => exact ⟨.inl ⟨rfl, HBD1.out⟩, HF.out⟩
      case round =>
        clear HBD1 HF
        obtain ⟨hcase, hf⟩ := hrel
        have hWr : Fr0 w wr := HF0.out.step hf (fun k hk e => by omega)
        have HWR := Lib.hid hWr
        have HF := Lib.hid hf
        have k0 := (HBK.out.fr hf (by omega)).at_ 0 (v := .int .i64 g) rfl
        have k1 := (HBK.out.fr hf (by omega)).at_ 1 (v := .slice A l.length c) rfl
        have k2 := (HBK.out.fr hf (by omega)).at_ 2 (v := .map (some mb)) rfl
        have t0 := (HBT.out.fr hf (by omega)).at_ 0 (v := .int .i64 sf) rfl
        have t1 := (HBT.out.fr hf (by omega)).at_ 1 (v := .int .i64 sb) rfl
        have t2 := (HBT.out.fr hf (by omega)).at_ 2 (v := .int .i64 tf) rfl
        have t3 := (HBT.out.fr hf (by omega)).at_ 3 (v := .int .i64 tb) rfl
        clear hf hWr
        rcases hcase with ⟨rfl, hBD⟩ | ⟨rfl, hBD⟩ | ⟨rfl, hBD⟩
        · have HBD := Lib.hid hBD
          have e0 := hBD.at_ 0 (v := .int .i64 d1) rfl
          have hix := HIX0.out
          have HA115 := Lib.hid (fun W (hf : Fr0 wr W) => HMB.out W (Fr0.trans HWR.out hf))
          clear hBD
          go_wp2
          clear hix
          refine start_ (n := 11) (S := fun w' => w'.cell? ⟨w.heap.size, 0, none⟩ = some (.int .i64 g) ∧ w'.cell? ⟨w.heap.size, 1, none⟩ = some (.slice A l.length c) ∧ w'.cell? ⟨w.heap.size, 2, none⟩ = some (.map (some mb)) ∧ w'.cell? ⟨w.heap.size + 1, 0, none⟩ = some (.int .i64 sf) ∧ w'.cell? ⟨w.heap.size + 1, 1, none⟩ = some (.int .i64 sb) ∧ w'.cell? ⟨w.heap.size + 1, 2, none⟩ = some (.int .i64 tf) ∧ w'.cell? ⟨w.heap.size + 1, 3, none⟩ = some (.int .i64 tb) ∧ w'.cell? ⟨w.heap.size + 1 + 1, 0, none⟩ = some (.int .i64 d1)) (ds := [10]) #[false, false, false, false, false, false, false, false, false, false, false] (by kernel_rfl) rfl rfl ⟨k0, k1, k2, t0, t1, t2, t3, e0⟩ (fun hHeld => ?_)
          refine pure_ (i := 0) (N := some 19) (v := ?_) (a' := ?_) #[true, false, false, false, false, false, false, false, false, false, false] rfl rfl (by kernel_rfl) (fun _ _ _ h => h) (Or.inl ⟨by rfl, ?_⟩) ?_ ?_
          rotate_left
          · intro w'
            go_simp
            with_reducible rfl
          rotate_left
          · simp only [Act.put, List.setIfInBounds_toArray, List.set_cons_zero, List.set_cons_succ, i64_w, i32_w]
            rfl
          refine pure_ (i := 1) (N := some 20) (v := ?_) (a' := ?_) #[true, true, false, false, false, false, false, false, false, false, false] rfl rfl (by kernel_rfl) (fun _ _ _ h => h) (Or.inl ⟨by rfl, ?_⟩) ?_ ?_
          rotate_left
          · intro w'
            go_simp
            with_reducible rfl
          rotate_left
          · simp only [Act.put, List.setIfInBounds_toArray, List.set_cons_zero, List.set_cons_succ, i64_w, i32_w]
            rfl
          refine pure_ (i := 3) (N := some 22) (v := ?_) (a' := ?_) #[true, true, false, true, false, false, false, false, false, false, false] rfl rfl (by kernel_rfl) (fun _ _ _ h => h) (Or.inl ⟨by rfl, ?_⟩) ?_ ?_
          rotate_left
          · intro w'
            go_simp
            with_reducible rfl
          rotate_left
          · simp only [Act.put, List.setIfInBounds_toArray, List.set_cons_zero, List.set_cons_succ, i64_w, i32_w]
            rfl
          refine pure_ (i := 6) (N := some 25) (v := ?_) (a' := ?_) #[true, true, false, true, false, false, true, false, false, false, false] rfl rfl (by kernel_rfl) (fun _ _ _ h => h) (Or.inl ⟨by rfl, ?_⟩) ?_ ?_
          rotate_left
          · intro w'
            go_simp
            with_reducible rfl
          rotate_left
          · simp only [Act.put, List.setIfInBounds_toArray, List.set_cons_zero, List.set_cons_succ, i64_w, i32_w]
            rfl
          refine take_ (i := 2) (N := some 21) (v := ?_) (a' := ?_) #[true, true, true, true, false, false, true, false, false, false, false] rfl rfl (by kernel_rfl) (fun _ _ _ h => h) (Or.inl ⟨by rfl, ?_⟩) hHeld ?_ ?_
          rotate_left
          · rintro w' ⟨s0, s1, s2, s3, s4, s5, s6, s7⟩
            go_simp
            with_reducible rfl
          rotate_left
          · simp only [Act.put, List.setIfInBounds_toArray, List.set_cons_zero, List.set_cons_succ, i64_w, i32_w]
            rfl
          refine take_ (i := 4) (N := some 23) (v := ?_) (a' := ?_) #[true, true, true, true, true, false, true, false, false, false, false] rfl rfl (by kernel_rfl) (fun _ _ _ h => h) (Or.inl ⟨by rfl, ?_⟩) hHeld ?_ ?_
          rotate_left
          · rintro w' ⟨s0, s1, s2, s3, s4, s5, s6, s7⟩
            go_simp
            with_reducible rfl
          rotate_left
          · simp only [Act.put, List.setIfInBounds_toArray, List.set_cons_zero, List.set_cons_succ, i64_w, i32_w]
            rfl
          refine take_ (i := 5) (N := some 24) (v := ?_) (a' := ?_) #[true, true, true, true, true, true, true, false, false, false, false] rfl rfl (by kernel_rfl) (fun _ _ _ h => h) (Or.inl ⟨by rfl, ?_⟩) hHeld ?_ ?_
          rotate_left
          · rintro w' ⟨s0, s1, s2, s3, s4, s5, s6, s7⟩
            go_simp
            with_reducible rfl
          rotate_left
          · simp only [Act.put, List.setIfInBounds_toArray, List.set_cons_zero, List.set_cons_succ, i64_w, i32_w]
            rfl
          refine one_ (i := 7) (N := some 26) #[true, true, true, true, true, true, true, true, false, false, false] rfl rfl (by kernel_rfl) (by decide) (fun K hK => ?_)
          refine call_ 115 #[twoV sf sb tf tb, bookV g A l.length c (some mb), .int .i64 (b : Int)] (by rfl) rfl ?_ ?_
          · unfold execOp
            simp [resolve, Deferred.ofValue, invoke, Act.eval, ef115]
          refine (HA115.out _ (Fr.drew (Fr.refl _ _))).mono ?_
          rintro e w3 ⟨rfl, hf3⟩
          have HW3 := Lib.hid (Fr0.trans (Fr.drew (Fr.refl _ wr)) hf3)
          have HBD3 := Lib.hid (HBD.out.fr0 HW3.out)
          have hz3 := HBD3.out.frz 0
          have hlt3 := HBD3.out.lt
          refine ⟨_, rfl, ?_⟩
          refine hK.out _ _ ⟨(HW3.out.cell0 k0), (HW3.out.cell0 k1), (HW3.out.cell0 k2), (HW3.out.cell0 t0), (HW3.out.cell0 t1), (HW3.out.cell0 t2), (HW3.out.cell0 t3), (HW3.out.cell0 e0)⟩ (fun hHeld => ?_)
          clear hK K
          refine norm_ (a' := ?_) ?_ ?_
          rotate_left
          · show Act.put _ (some 26) _ = _
            simp only [Act.put, List.setIfInBounds_toArray, List.set_cons_zero, List.set_cons_succ, i64_w, i32_w]
            rfl
          refine pure_ (i := 8) (N := some 27) (v := ?_) (a' := ?_) #[true, true, true, true, true, true, true, true, true, false, false] rfl rfl (by kernel_rfl) (fun _ _ _ h => h) (Or.inl ⟨by rfl, ?_⟩) ?_ ?_
          rotate_left
          · intro w'
            go_simp
            with_reducible rfl
          rotate_left
          · simp only [Act.put, List.setIfInBounds_toArray, List.set_cons_zero, List.set_cons_succ, i64_w, i32_w]
            rfl
          refine pure_ (i := 9) (N := some 28) (v := ?_) (a' := ?_) #[true, true, true, true, true, true, true, true, true, true, false] rfl rfl (by kernel_rfl) (fun _ _ _ h => h) (Or.inl ⟨by rfl, ?_⟩) ?_ ?_
          rotate_left
          · intro w'
            go_simp
            with_reducible rfl
          rotate_left
          · simp only [Act.put, List.setIfInBounds_toArray, List.set_cons_zero, List.set_cons_succ, i64_w, i32_w]
            rfl
          refine last_ (i := 10) (N := none) #[true, true, true, true, true, true, true, true, true, true, true] rfl rfl (by kernel_rfl) (by decide) (fun K hK => ?_)
          refine skip_ (w1 := ?_) (by rfl) rfl ?_ ?_
          rotate_left
          · go_simp
            rfl
          refine hK.out _ _ ?_
          clear hK K
          refine done_ (by kernel_rfl) ?_
          have HW1 := Lib.hid (show wrap64 (d1 + x1) = d1 + x1 by rw [w64 (by omega) (by omega)])
          have hset := HBD3.out.set_ 0 (.int .i64 (wrap64 (d1 + x1)))
          have HSET := Lib.hid hset
          clear hset
          go_wp2
          go_roundw
          case rel => exact ⟨.inr (.inl ⟨by go_num, by have := HSET.out; rw [HW1.out] at this ⊢; simpa using this⟩), (HF.out.step0 HW3.out).setCell (.inl rfl) _⟩
          case measure => simp [intOf] <;> omega
        · have HBD := Lib.hid hBD
          have e1 := hBD.at_ 1 (v := .int .i64 d2) rfl
          have hix := HIX1.out
          have HA117 := Lib.hid (fun W (hf : Fr0 wr W) => HTB.out W (Fr0.trans HWR.out hf))
          clear hBD
          go_wp2
          clear hix
          refine start_ (n := 11) (S := fun w' => w'.cell? ⟨w.heap.size, 0, none⟩ = some (.int .i64 g) ∧ w'.cell? ⟨w.heap.size, 1, none⟩ = some (.slice A l.length c) ∧ w'.cell? ⟨w.heap.size, 2, none⟩ = some (.map (some mb)) ∧ w'.cell? ⟨w.heap.size + 1, 0, none⟩ = some (.int .i64 sf) ∧ w'.cell? ⟨w.heap.size + 1, 1, none⟩ = some (.int .i64 sb) ∧ w'.cell? ⟨w.heap.size + 1, 2, none⟩ = some (.int .i64 tf) ∧ w'.cell? ⟨w.heap.size + 1, 3, none⟩ = some (.int .i64 tb) ∧ w'.cell? ⟨w.heap.size + 1 + 1, 1, none⟩ = some (.int .i64 d2)) (ds := [10]) #[false, false, false, false, false, false, false, false, false, false, false] (by kernel_rfl) rfl rfl ⟨k0, k1, k2, t0, t1, t2, t3, e1⟩ (fun hHeld => ?_)
          refine pure_ (i := 0) (N := some 19) (v := ?_) (a' := ?_) #[true, false, false, false, false, false, false, false, false, false, false] rfl rfl (by kernel_rfl) (fun _ _ _ h => h) (Or.inl ⟨by rfl, ?_⟩) ?_ ?_
          rotate_left
          · intro w'
            go_simp
            with_reducible rfl
          rotate_left
          · simp only [Act.put, List.setIfInBounds_toArray, List.set_cons_zero, List.set_cons_succ, i64_w, i32_w]
            rfl
          refine pure_ (i := 1) (N := some 20) (v := ?_) (a' := ?_) #[true, true, false, false, false, false, false, false, false, false, false] rfl rfl (by kernel_rfl) (fun _ _ _ h => h) (Or.inl ⟨by rfl, ?_⟩) ?_ ?_
          rotate_left
          · intro w'
            go_simp
            with_reducible rfl
          rotate_left
          · simp only [Act.put, List.setIfInBounds_toArray, List.set_cons_zero, List.set_cons_succ, i64_w, i32_w]
            rfl
          refine pure_ (i := 3) (N := some 22) (v := ?_) (a' := ?_) #[true, true, false, true, false, false, false, false, false, false, false] rfl rfl (by kernel_rfl) (fun _ _ _ h => h) (Or.inl ⟨by rfl, ?_⟩) ?_ ?_
          rotate_left
          · intro w'
            go_simp
            with_reducible rfl
          rotate_left
          · simp only [Act.put, List.setIfInBounds_toArray, List.set_cons_zero, List.set_cons_succ, i64_w, i32_w]
            rfl
          refine pure_ (i := 6) (N := some 25) (v := ?_) (a' := ?_) #[true, true, false, true, false, false, true, false, false, false, false] rfl rfl (by kernel_rfl) (fun _ _ _ h => h) (Or.inl ⟨by rfl, ?_⟩) ?_ ?_
          rotate_left
          · intro w'
            go_simp
            with_reducible rfl
          rotate_left
          · simp only [Act.put, List.setIfInBounds_toArray, List.set_cons_zero, List.set_cons_succ, i64_w, i32_w]
            rfl
          refine take_ (i := 2) (N := some 21) (v := ?_) (a' := ?_) #[true, true, true, true, false, false, true, false, false, false, false] rfl rfl (by kernel_rfl) (fun _ _ _ h => h) (Or.inl ⟨by rfl, ?_⟩) hHeld ?_ ?_
          rotate_left
          · rintro w' ⟨s0, s1, s2, s3, s4, s5, s6, s7⟩
            go_simp
            with_reducible rfl
          rotate_left
          · simp only [Act.put, List.setIfInBounds_toArray, List.set_cons_zero, List.set_cons_succ, i64_w, i32_w]
            rfl
          refine take_ (i := 4) (N := some 23) (v := ?_) (a' := ?_) #[true, true, true, true, true, false, true, false, false, false, false] rfl rfl (by kernel_rfl) (fun _ _ _ h => h) (Or.inl ⟨by rfl, ?_⟩) hHeld ?_ ?_
          rotate_left
          · rintro w' ⟨s0, s1, s2, s3, s4, s5, s6, s7⟩
            go_simp
            with_reducible rfl
          rotate_left
          · simp only [Act.put, List.setIfInBounds_toArray, List.set_cons_zero, List.set_cons_succ, i64_w, i32_w]
            rfl
          refine take_ (i := 5) (N := some 24) (v := ?_) (a' := ?_) #[true, true, true, true, true, true, true, false, false, false, false] rfl rfl (by kernel_rfl) (fun _ _ _ h => h) (Or.inl ⟨by rfl, ?_⟩) hHeld ?_ ?_
          rotate_left
          · rintro w' ⟨s0, s1, s2, s3, s4, s5, s6, s7⟩
            go_simp
            with_reducible rfl
          rotate_left
          · simp only [Act.put, List.setIfInBounds_toArray, List.set_cons_zero, List.set_cons_succ, i64_w, i32_w]
            rfl
          refine one_ (i := 7) (N := some 26) #[true, true, true, true, true, true, true, true, false, false, false] rfl rfl (by kernel_rfl) (by decide) (fun K hK => ?_)
          refine call_ 117 #[twoV sf sb tf tb, bookV g A l.length c (some mb), .int .i64 (b : Int)] (by rfl) rfl ?_ ?_
          · unfold execOp
            simp [resolve, Deferred.ofValue, invoke, Act.eval, ef117]
          refine (HA117.out _ (Fr.drew (Fr.refl _ _))).mono ?_
          rintro e w3 ⟨rfl, hf3⟩
          have HW3 := Lib.hid (Fr0.trans (Fr.drew (Fr.refl _ wr)) hf3)
          have HBD3 := Lib.hid (HBD.out.fr0 HW3.out)
          have hz3 := HBD3.out.frz 1
          have hlt3 := HBD3.out.lt
          refine ⟨_, rfl, ?_⟩
          refine hK.out _ _ ⟨(HW3.out.cell0 k0), (HW3.out.cell0 k1), (HW3.out.cell0 k2), (HW3.out.cell0 t0), (HW3.out.cell0 t1), (HW3.out.cell0 t2), (HW3.out.cell0 t3), (HW3.out.cell0 e1)⟩ (fun hHeld => ?_)
          clear hK K
          refine norm_ (a' := ?_) ?_ ?_
          rotate_left
          · show Act.put _ (some 26) _ = _
            simp only [Act.put, List.setIfInBounds_toArray, List.set_cons_zero, List.set_cons_succ, i64_w, i32_w]
            rfl
          refine pure_ (i := 8) (N := some 27) (v := ?_) (a' := ?_) #[true, true, true, true, true, true, true, true, true, false, false] rfl rfl (by kernel_rfl) (fun _ _ _ h => h) (Or.inl ⟨by rfl, ?_⟩) ?_ ?_
          rotate_left
          · intro w'
            go_simp
            with_reducible rfl
          rotate_left
          · simp only [Act.put, List.setIfInBounds_toArray, List.set_cons_zero, List.set_cons_succ, i64_w, i32_w]
            rfl
          refine pure_ (i := 9) (N := some 28) (v := ?_) (a' := ?_) #[true, true, true, true, true, true, true, true, true, true, false] rfl rfl (by kernel_rfl) (fun _ _ _ h => h) (Or.inl ⟨by rfl, ?_⟩) ?_ ?_
          rotate_left
          · intro w'
            go_simp
            with_reducible rfl
          rotate_left
          · simp only [Act.put, List.setIfInBounds_toArray, List.set_cons_zero, List.set_cons_succ, i64_w, i32_w]
            rfl
          refine last_ (i := 10) (N := none) #[true, true, true, true, true, true, true, true, true, true, true] rfl rfl (by kernel_rfl) (by decide) (fun K hK => ?_)
          refine skip_ (w1 := ?_) (by rfl) rfl ?_ ?_
          rotate_left
          · go_simp
            rfl
          refine hK.out _ _ ?_
          clear hK K
          refine done_ (by kernel_rfl) ?_
          have HW1 := Lib.hid (show wrap64 (d2 + x2) = d2 + x2 by rw [w64 (by omega) (by omega)])
          have hset := HBD3.out.set_ 1 (.int .i64 (wrap64 (d2 + x2)))
          have HSET := Lib.hid hset
          clear hset
          go_wp2
          go_roundw
          case rel => exact ⟨.inr (.inr ⟨by go_num, by have := HSET.out; rw [HW1.out] at this ⊢; simpa using this⟩), (HF.out.step0 HW3.out).setCell (.inl rfl) _⟩
          case measure => simp [intOf] <;> omega
        · have HBD := Lib.hid hBD
          have e0 := hBD.at_ 0 (v := .int .i64 (d1 + x1)) rfl
          have e1 := hBD.at_ 1 (v := .int .i64 (d2 + x2)) rfl
          have HGR := Lib.hid (fun W (hf : Fr0 wr W) => greatest_any (d1 + x1) (d2 + x2) ⟨w.heap.size + 1 + 1, 1, none⟩ W (hf.cell0 e1))
          have hsl := slice55 (w.heap.size + 1 + 1)
          have hmb := mx_bnd (a := d1 + x1) (b := d2 + x2) (m := 5 * b + 5) (by omega) (by omega)
          generalize mx (d1 + x1) (d2 + x2) = M at *
          clear hBD k0 k1 k2 t0 t1 t2 t3
          go_wp2
          refine start_ (n := 6) (S := fun w' => w'.cell? ⟨w.heap.size + 1 + 1, 0, none⟩ = some (.int .i64 (d1 + x1))) (ds := []) #[false, false, false, false, false, false] (by kernel_rfl) rfl rfl (e0) (fun hHeld => ?_)
          refine pure_ (i := 0) (N := some 30) (v := ?_) (a' := ?_) #[true, false, false, false, false, false] rfl rfl (by kernel_rfl) (fun _ _ _ h => h) (Or.inl ⟨by rfl, ?_⟩) ?_ ?_
          rotate_left
          · intro w'
            go_simp
            with_reducible rfl
          rotate_left
          · simp only [Act.put, List.setIfInBounds_toArray, List.set_cons_zero, List.set_cons_succ, i64_w, i32_w]
            rfl
          refine pure_ (i := 2) (N := some 32) (v := ?_) (a' := ?_) #[true, false, true, false, false, false] rfl rfl (by kernel_rfl) (fun _ _ _ h => h) (Or.inl ⟨by rfl, ?_⟩) ?_ ?_
          rotate_left
          · intro w'
            go_simp
            with_reducible rfl
          rotate_left
          · simp only [Act.put, List.setIfInBounds_toArray, List.set_cons_zero, List.set_cons_succ, i64_w, i32_w]
            rfl
          refine pure_ (i := 4) (N := some 34) (v := ?_) (a' := ?_) #[true, false, true, false, true, false] rfl rfl (by kernel_rfl) (fun _ _ _ h => h) (Or.inl ⟨by rfl, ?_⟩) ?_ ?_
          rotate_left
          · intro w'
            go_simp
            with_reducible rfl
          rotate_left
          · simp only [Act.put, List.setIfInBounds_toArray, List.set_cons_zero, List.set_cons_succ, i64_w, i32_w]
            rfl
          refine take_ (i := 1) (N := some 31) (v := ?_) (a' := ?_) #[true, true, true, false, true, false] rfl rfl (by kernel_rfl) (fun _ _ _ h => h) (Or.inl ⟨by rfl, ?_⟩) hHeld ?_ ?_
          rotate_left
          · intro w' s0
            go_simp
            with_reducible rfl
          rotate_left
          · simp only [Act.put, List.setIfInBounds_toArray, List.set_cons_zero, List.set_cons_succ, i64_w, i32_w]
            rfl
          refine one_ (i := 3) (N := some 33) #[true, true, true, true, true, false] rfl rfl (by kernel_rfl) (by decide) (fun K hK => ?_)
          refine goes_ Tryd.func89 (by kernel_rfl) rfl #[.int .i64 (d1 + x1), .slice (some ⟨w.heap.size + 1 + 1, 1, none⟩) 1 1] (by rfl) rfl rfl (by simp only [List.map_toArray, List.map_cons, List.map_nil]; rfl) ?_
          with_reducible refine (HGR.out _ (Fr.drew (Fr.refl _ _))).mono ?_
          rintro e w3 ⟨rfl, hf3⟩
          refine ⟨_, rfl, ?_⟩
          have HW3 := Lib.hid (Fr0.trans (Fr.drew (Fr.refl _ wr)) hf3)
          refine hK.out _ _ ((HW3.out.cell0 e0)) (fun hHeld => ?_)
          clear hK K
          refine norm_ (a' := ?_) ?_ ?_
          rotate_left
          · show Act.put _ (some 33) _ = _
            simp only [Act.put, List.setIfInBounds_toArray, List.set_cons_zero, List.set_cons_succ, i64_w, i32_w]
            rfl
          refine pure_ (i := 5) (N := some 35) (v := ?_) (a' := ?_) #[true, true, true, true, true, true] rfl rfl (by kernel_rfl) (fun _ _ _ h => h) (Or.inl ⟨by rfl, ?_⟩) ?_ ?_
          rotate_left
          · intro w'
            go_simp
            with_reducible rfl
          rotate_left
          · simp only [Act.put, List.setIfInBounds_toArray, List.set_cons_zero, List.set_cons_succ, i64_w, i32_w]
            rfl
          refine done_ (by kernel_rfl) ?_
          clear hsl e0 e1
          by_cases hm : M > lost
          · have HM1 := Lib.hid hm
            go_wp2
            go_ret
            exact ⟨by rw [HUS.out, if_pos HM1.out]; rfl, HF0.out.step (HF.out.step0 HW3.out) (fun k hk e => by omega)⟩
          · have HM1 := Lib.hid hm
            go_wp2
            go_roundw
            case rel => exact ⟨b + 1, by omega, by go_num, d1 + x1, d2 + x2, by omega, by omega, by rw [HUS.out, if_neg HM1.out], HBD.out.fr0 HW3.out, HF.out.step0 HW3.out⟩
            case measure => simp [intOf] <;> omega
    · obtain rfl : b = 64 := by omega
      have HUE := Lib.hid (show UF = 64 by rw [HU.out]; rfl)
      have HF := Lib.hid hf
      clear hf hBD
      go_wp2
      go_ret
      exact ⟨by rw [HUE.out]; rfl, HF0.out.step HF.out (fun k hk e => by omega)⟩
end Go.Proofs.YtephecfapclgfaaDoor.R
namespace Go.Proofs.YtephecfapclgfaaDoor.R
open Go.RowKit Go.Shelf Go.Proofs.YtephecfapclgfaaDoorW.PrintWords Go.Proofs.YtephecfapclgfaaDoorW.PrintLast Go.Proofs.YtephecfapclgfaaDoorW.PrintMore Go.Proofs.YtephecfapclgfaaDoor.PRaspKeys Go.Proofs.YtephecfapclgfaaDoor.X
attribute [local go_sem] Oper.semAt_some

/-! ### Pairs of spots -/
def befB (s t : S38) : Bool := decide (s.f0 < t.f0) || (decide (s.f0 = t.f0) && decide (s.f1 < t.f1))
set_option maxHeartbeats 1000000 in
theorem before_any (s0 s1 t0 t1 : Int) (w : World) : Calls Tryd.prog 97 #[.agg #[.int .i64 s0, .int .i64 s1], .agg #[.int .i64 t0, .int .i64 t1]] w fun e w' => e = .returned (.bool (befB ⟨s0, s1⟩ ⟨t0, t1⟩)) ∧ Fr0 w w' := by
  have heq : ∀ W : World, (Op.equal 38 (.agg #[.int .i64 s0, .int .i64 s1]) (.agg #[.int .i64 t0, .int .i64 t1])).run Tryd.prog W = .ok (s0 == t0 && s1 == t1) W := fun W => key38.eq W s0 s1 t0 t1
  have HBF := Lib.hid (show befB ⟨s0, s1⟩ ⟨t0, t1⟩ = (decide (s0 < t0) || (decide (s0 = t0) && decide (s1 < t1))) from rfl)
  generalize befB ⟨s0, s1⟩ ⟨t0, t1⟩ = B at *
  go_enter Tryd.func97, Tryd.ntmps97
  go_wp2
  all_goals
    go_ret
    refine ⟨?_, ((Fr.refl _ _).alloc _).alloc _⟩
    rw [HBF.out]
    congr 2
    clear heq HBF
    simp_all
theorem beforeV_any (w : World) : Calls Tryd.prog 86 #[] w fun e w' => e = .returned (.agg #[.func (.func 97) #[] #[]]) ∧ Fr0 w w' := by
  go_enter Tryd.func86, Tryd.ntmps86
  go_wp2
  refine bodyPost_ret (v := .agg #[.func (.func 97) #[] #[]]) (by simp [results, Tryd.results86, go_sem]) rfl ⟨rfl, ?_⟩
  exact (Fr.refl _ _).alloc _
theorem pairsV_any (g : Int) (A : Option Addr) (n c : Nat) (m : Option Nat) (w : World) :
    Calls Tryd.prog 85 #[bookV g A n c m, .agg #[.func (.func 97) #[] #[]]] w fun e w' =>
      e = .returned (.func (.func 96) #[] #[.pointer (some ⟨w.heap.size, 0, none⟩), .pointer (some ⟨w.heap.size + 1, 0, none⟩)]) ∧
      w' = (w.alloc (.cells (bookC g A n c m) 83)).alloc (.cells #[.func (.func 97) #[] #[]] 115) := by
  go_enter Tryd.func85, Tryd.ntmps85
  go_wp2_with fail
  go_ret
  exact ⟨rfl, rfl⟩
def pairsS (ss : List S38) (s : S38) : List (S38 × S38) := (ss.filter (befB s)).map fun t => (s, t)
def pairsL (ss : List S38) : List (S38 × S38) := ss.flatMap (pairsS ss)
theorem pairs_split {ss : List S38} {i k : Nat} (hi : i < ss.length) (hk : k < ss.length) (hb : befB ss[i] ss[k] = true) :
    ∃ rest, pairsL ss = ((ss.take i).flatMap (pairsS ss) ++ ((ss.take k).filter (befB ss[i])).map (fun t => (ss[i], t))) ++ (ss[i], ss[k]) :: rest := by
  have h1 : pairsL ss = (ss.take i ++ ss[i] :: ss.drop (i + 1)).flatMap (pairsS ss) := by rw [take_cons_drop hi]; rfl
  have h2 : pairsS ss ss[i] = ((ss.take k ++ ss[k] :: ss.drop (k + 1)).filter (befB ss[i])).map (fun t => (ss[i], t)) := by rw [take_cons_drop hk]; rfl
  rw [h1, List.flatMap_append, List.flatMap_cons, h2, List.filter_append, List.filter_cons_of_pos hb, List.map_append, List.map_cons]
  exact ⟨_, by simp only [List.append_assoc, List.cons_append]; rfl⟩
structure PairAt (w0 : World) (g : Int) (A : Option Addr) (c : Nat) (l : List S63) (m : Option Nat) (bB bO : Nat) (W : World) (S : Nat → Prop) : Prop where
  base : Below w0.heap.size w0 W
  r : Kd.C k63 w0 A l.length l
  hc : l.length ≤ c
  b0 : W.cell? ⟨bB, 0, none⟩ = some (.int .i64 g)
  b1 : W.cell? ⟨bB, 1, none⟩ = some (.slice A l.length c)
  b2 : W.cell? ⟨bB, 2, none⟩ = some (.map m)
  o0 : W.cell? ⟨bO, 0, none⟩ = some (.func (.func 97) #[] #[])
  n0 : ∀ k, S k → w0.heap.size ≤ k ∧ k ≠ bB ∧ k ≠ bO
theorem PairAt.fr {w0 : World} {g : Int} {A : Option Addr} {c : Nat} {l : List S63} {m : Option Nat} {bB bO : Nat} {W W' : World} {S : Nat → Prop} (h : PairAt w0 g A c l m bB bO W S) (hf : Fr S W W') : PairAt w0 g A c l m bB bO W' S :=
  ⟨h.base.trans (hf.below h.base.size (fun k hk hS => by have := (h.n0 k hS).1; omega)), h.r, h.hc,
    hf.cell h.b0 (fun hS => (h.n0 _ hS).2.1 rfl), hf.cell h.b1 (fun hS => (h.n0 _ hS).2.1 rfl), hf.cell h.b2 (fun hS => (h.n0 _ hS).2.1 rfl), hf.cell h.o0 (fun hS => (h.n0 _ hS).2.2 rfl), h.n0⟩
set_option maxHeartbeats 4000000 in
set_option maxRecDepth 100000 in
theorem pairs_iter (w0 : World) (g : Int) (A : Option Addr) (c : Nat) (l : List S63) (m : Option Nat) (hl : Beats l) (bB bO : Nat) :
    Iter Tryd.prog 96 #[.pointer (some ⟨bB, 0, none⟩), .pointer (some ⟨bO, 0, none⟩)] (fun st : S38 × S38 => #[twoV st.1.f0 st.1.f1 st.2.f0 st.2.f1]) (pairsL (spotsN l l.length))
      (PairAt w0 g A c l m bB bO) := by
  intro lY S J Jx W hN hS hJ hJx hY h0
  have HN := Lib.hid hN
  have HS := Lib.hid hS
  have HJ := Lib.hid hJ
  have HY := Lib.hid hY
  have HSP := Lib.hid (fun W (hW : Kd.C k63 W A l.length l) => spots_any g A c l m hl W hW hN.hc)
  have HLN := Lib.hid (spotsN_len hl l.length (Nat.le_refl _))
  have hl4 := hl.len
  have q0 := hN.b0
  have q1 := hN.b1
  have q2 := hN.b2
  clear hN hS hJ hJx hY hl
  generalize spotsN l l.length = ss at *
  have hsl : ss.length ≤ 128 := by have := HLN.out; omega
  refine callsIn_of_wp Tryd.func96 rfl trivial ?_ rfl
  simp only [Tryd.ntmps96, List.size_toArray, List.length_cons, List.length_nil, Nat.reduceAdd, Nat.reduceSub, Array.replicate_succ, Array.replicate_zero, List.push_toArray, List.append_toArray, List.nil_append, List.cons_append]
  gi_wp2
  refine ⟨trivial, rfl, CallsIn.mono (callsIn_wide.2 (HSP.out _ (Kd.C_below HN.out.r HN.out.base))) ?_⟩
  rintro e W1 ⟨v, rfl, hR1, hf1⟩
  obtain ⟨As, cs, rfl⟩ := Kd.R_slice hR1
  have HR1 := Lib.hid (Kd.F_bound (Kd.R_F hR1))
  have HF1 := Lib.hid hf1
  have h0' := Lib.hid (HJ.out _ _ _ h0 hf1)
  have hs1 := hf1.size
  clear q0 q1 q2 hR1 hf1 h0
  gi_wp2
  gi_loopw [11] (fun v wr => ∃ i : Nat, i ≤ ss.length ∧ v = .int .i64 i ∧ J ((ss.take i).flatMap (pairsS ss)) wr ∧ Fr S W1 wr) (fun v _ => (ss.length - intOf v).toNat)
  case atStart => exact ⟨0, by omega, by rfl, h0'.out, Fr.refl _ _⟩
  case round =>
    clear h0'
    obtain ⟨i, hi, rfl, hj, hf⟩ := hrel
    by_cases hlt : i < ss.length
    · have hle : (i : Int) < ss.length := by omega
      have hNr := HN.out.fr ((Fr.of0 HF1.out).trans hf)
      have hCr := Kd.F_now (Kd.F_step HR1.out (fun k hk hlt => hf.block k hlt (fun e => by have h1 : W.heap.size ≤ k := hk.1; have := HS.out k e; omega)))
      obtain ⟨ads, es, x0, x1⟩ := at_T38 hCr (i : Int) (by omega) hle
      rw [Int.toNat_natCast] at x0 x1
      have hsj : rd_T38 ss (i : Int) = ss[i] := by simp [rd_T38, hlt]
      have HSI := Lib.hid hsj
      have q0 := hNr.b0
      have q1 := hNr.b1
      have q2 := hNr.b2
      have lB := World.block_lt_of_cell? _ _ q0
      subst es
      have HNr := Lib.hid hNr
      have HJr := Lib.hid hj
      have HF := Lib.hid hf
      clear hNr hCr hsj hj hf
      generalize hs : rd_T38 ss (i : Int) = s at *
      have HS_ := Lib.hid hs
      clear hs
      obtain ⟨s0, s1⟩ := s
      dsimp only at x0 x1
      gi_wp2
      refine ⟨trivial, rfl, CallsIn.mono (callsIn_wide.2 (HSP.out _ (Kd.C_below HN.out.r (HNr.out.base.trans (((Fr.refl (fun _ => False) wr).alloc _).below HNr.out.base.size (fun _ _ h => h)))))) ?_⟩
      rintro e W2 ⟨v2, rfl, hR2, hf2⟩
      obtain ⟨At, ct, rfl⟩ := Kd.R_slice hR2
      have HR2 := Lib.hid (Kd.F_bound (Kd.R_F hR2))
      have HF2 := Lib.hid (Fr0.trans ((Fr.refl (fun _ => False) wr).alloc (.cells #[.int .i64 s0, .int .i64 s1] 38)) hf2)
      have HB5 := Lib.hid ((Bx.new wr 38 #[.int .i64 s0, .int .i64 s1]).fr0 hf2)
      have hJ2 := Lib.hid (HJ.out _ _ _ HJr.out HF2.out)
      have hs2 := HF2.out.size
      have hwr := HF.out.size
      have hg5 : W.heap.size ≤ wr.heap.size := by omega
      generalize hb5 : wr.heap.size = b5 at *
      clear hR2 hf2 q0 q1 q2 x0 x1
      gi_wp2
      generalize hwa : wr = wa at *
      clear hwa
      gi_loopw [18] (fun v wr => ∃ k : Nat, k ≤ ss.length ∧ v = .int .i64 k ∧ J ((ss.take i).flatMap (pairsS ss) ++ ((ss.take k).filter (befB ⟨s0, s1⟩)).map (fun t => ((⟨s0, s1⟩ : S38), t))) wr ∧ Fr S W2 wr) (fun v _ => (ss.length - intOf v).toNat)
      case atStart => exact ⟨0, by omega, by rfl, by simpa using hJ2.out, Fr.refl _ _⟩
      case round =>
        clear hJ2
        obtain ⟨k, hk, rfl, hj, hf⟩ := hrel
        by_cases hltk : k < ss.length
        · have hlek : (k : Int) < ss.length := by omega
          have hf12 : Fr S W1 wr := (HF.out.trans (Fr.of0 HF2.out)).trans hf
          have hNr := HN.out.fr ((Fr.of0 HF1.out).trans hf12)
          have hCr := Kd.F_now (Kd.F_step HR2.out (fun k hk hlt => hf.block k hlt (fun e => by have h1 : (wa.alloc _).heap.size ≤ k := hk.1; have := HS.out k e; simp at h1; omega)))
          obtain ⟨adt, et, y0, y1⟩ := at_T38 hCr (k : Int) (by omega) hlek
          rw [Int.toNat_natCast] at y0 y1
          have hsj : rd_T38 ss (k : Int) = ss[k] := by simp [rd_T38, hltk]
          have HSK := Lib.hid hsj
          have hb5r := HB5.out.fr hf (fun e => by have := HS.out b5 e; omega)
          have z0 := hb5r.at_ 0 (v := .int .i64 s0) rfl
          have z1 := hb5r.at_ 1 (v := .int .i64 s1) rfl
          have l5 := hb5r.lt
          have o0 := hNr.o0
          have lO := World.block_lt_of_cell? _ _ o0
          subst et
          have hsp := fun (hb : befB ss[i] ss[k] = true) => pairs_split hlt hltk hb
          have htk : ss.take (k + 1) = ss.take k ++ [ss[k]] := by rw [List.take_add_one, List.getElem?_eq_getElem hltk]; try rfl
          have HNR := Lib.hid hNr
          have HJK := Lib.hid hj
          have HFK := Lib.hid hf
          have hsi : ss[i] = ⟨s0, s1⟩ := HSI.out.symm
          rw [hsi] at hsp
          rw [← hsj] at hsp htk
          have HSPL := Lib.hid hsp
          have HTK := Lib.hid htk
          clear hNr hCr hsj hj hf hsp htk hsi hf12 hb5r
          generalize hs : rd_T38 ss (k : Int) = t at *
          clear hs
          obtain ⟨t0, t1⟩ := t
          dsimp only at y0 y1
          have HBF := Lib.hid (fun W => before_any s0 s1 t0 t1 W)
          gi_wp2
          refine ⟨trivial, rfl, CallsIn.mono (callsIn_wide.2 (HBF.out _)) ?_⟩
          rintro e W3 ⟨rfl, hf3⟩
          have h03 : Fr0 wr W3 := Fr0.trans ((Fr.refl (fun _ => False) wr).alloc (.cells #[.int .i64 t0, .int .i64 t1] 38)) hf3
          have HF3 := Lib.hid h03
          have u0 := h03.cell0 z0
          have u1 := h03.cell0 z1
          have b7 := (Bx.new wr 38 #[.int .i64 t0, .int .i64 t1]).fr0 hf3
          have u2 := b7.at_ 0 (v := .int .i64 t0) rfl
          have u3 := b7.at_ 1 (v := .int .i64 t1) rfl
          clear h03 hf3 b7 z0 z1 y0 y1 o0
          cases hbb : befB ⟨s0, s1⟩ ⟨t0, t1⟩
          · have HBB := Lib.hid hbb
            clear hbb
            gi_wp2
            refine ⟨(fun f h => by cases h), ?_⟩
            gi_wp2
            go_roundw
            case rel =>
              refine ⟨k + 1, by omega, by go_num, ?_, HFK.out.step0 HF3.out⟩
              rw [HTK.out, List.filter_append, List.filter_cons_of_neg (by rw [HBB.out]; simp), List.filter_nil, List.append_nil]
              exact HJ.out _ _ _ HJK.out HF3.out
            case measure => simp [intOf] <;> omega
          · have HBB := Lib.hid hbb
            obtain ⟨rest, hsp⟩ := HSPL.out hbb
            obtain ⟨fn, tmps, assign, body, hy, hRR⟩ := HY.out _ _ rest W3 hsp (HJ.out _ _ _ HJK.out HF3.out)
            clear hbb hsp
            gi_wp2
            refine ⟨rfl, hRR.mono ?_⟩
            clear hRR hy
            rintro e W' (⟨rfl, hj', hk'⟩ | ⟨rfl, hj', hk'⟩)
            · gi_wp2
              go_roundw
              case rel =>
                refine ⟨k + 1, by omega, by go_num, ?_, (HFK.out.step0 HF3.out).trans hk'⟩
                rw [HTK.out, List.filter_append, List.filter_cons_of_pos HBB.out, List.filter_nil, List.map_append, List.map_singleton, ← List.append_assoc]
                exact hj'
              case measure => simp [intOf] <;> omega
            · gi_wp2
              refine bodyPost_ret (results_none rfl _ _ _) rfl ?_
              exact ⟨⟨_, rfl⟩, .inr ⟨_, hj'⟩⟩
        · obtain rfl : k = ss.length := by omega
          have hle' : ¬ ((ss.length : Int) < ss.length) := by omega
          rw [List.take_length] at hj
          have HJK := Lib.hid hj
          have HFK := Lib.hid hf
          clear hj hf
          gi_wp2
          go_roundw
          case rel =>
            refine ⟨i + 1, by omega, by go_num, ?_, (HF.out.trans (Fr.of0 HF2.out)).trans HFK.out⟩
            have htk : ss.take (i + 1) = ss.take i ++ [ss[i]] := by rw [List.take_add_one, List.getElem?_eq_getElem hlt]; try rfl
            have hsi : ss[i] = ⟨s0, s1⟩ := HSI.out.symm
            rw [htk, List.flatMap_append, hsi]
            simpa [pairsS] using HJK.out
          case measure => simp [intOf] <;> omega
    · obtain rfl : i = ss.length := by omega
      have hle : ¬ ((ss.length : Int) < ss.length) := by omega
      rw [List.take_length] at hj
      have HJr := Lib.hid hj
      clear hj
      gi_wp2
      go_end0
      exact ⟨⟨_, rfl⟩, .inl HJr.out⟩
end Go.Proofs.YtephecfapclgfaaDoor.R
