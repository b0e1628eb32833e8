import Derived.Test.YtfmpbkolpjlfbaaDoorG3
import Derived.Test.YtfmpbkolpjlfbaaDoorM0
set_option linter.unusedVariables false
set_option linter.unusedSimpArgs false
namespace Go.Proofs.YtfmpbkolpjlfbaaDoor.R
open Go.RowKit Go.Shelf Go.Proofs.YtfmpbkolpjlfbaaDoorW.PrintWords Go.Proofs.YtfmpbkolpjlfbaaDoorW.PrintLast Go.Proofs.YtfmpbkolpjlfbaaDoor.PRaspKeys Go.Proofs.YtfmpbkolpjlfbaaDoor.X Go.Proofs.YtfmpbkolpjlfbaaDoor.M
attribute [local go_sem] Oper.semAt_some
/-- The plan, followed: d moves are left. -/
def playTo (tools : List S57) (lo hi : Int) (moves : List Int) : Nat → List Int → Int → Int → List Int × Int × Int
 | 0, told, off, _ => if lo ≤ off ∧ off ≤ hi then (told, off, 0) else ([], 0, 32)
 | d + 1, told, off, metal =>
  if lo ≤ off ∧ off ≤ hi then ([], 0, 32)
  else if (strk tools lo hi 0 off metal).1 < 0 then ([], 0, 32)
  else if isIn (moves.getD told.length 0) (tools.getD (strk tools lo hi 0 off metal).1.toNat z57).f0.f0 (tools.getD (strk tools lo hi 0 off metal).1.toNat z57).f0.f1 = true then
   playTo tools lo hi moves d (told ++ [(strk tools lo hi 0 off metal).1]) (off + moves.getD told.length 0) (metal - (tools.getD (strk tools lo hi 0 off metal).1.toNat z57).f1)
  else ([], 0, 32)
def playOk (l3 : List S69) (ki off : Int) : Bool := isIn ki 0 ((l3.length : Int) - 1) && isIn off (l3.getD ki.toNat z69).f0.f0 (l3.getD ki.toNat z69).f0.f1
def playF (l0 : List S57) (lo hi : Int) (l3 : List S69) (ki off : Int) (moves : List Int) : List Int × Int × Int :=
 if openV l0 lo hi l3 (playOk l3 ki off) ≠ 0 then ([], 0, openV l0 lo hi l3 (playOk l3 ki off))
 else if (strk l0 lo hi 0 off (l3.getD ki.toNat z69).f1).2 = 1000 then ([], 0, 4)
 else playTo l0 lo hi moves moves.length [] off (l3.getD ki.toNat z69).f1
theorem _root_.Go.Proofs.YtfmpbkolpjlfbaaDoor.X.Bx.below {w W : World} {g B : Nat} {t : TypeId} {cs : Array Value} (h : Bx w g t cs) (hb : Below B w W) (hg : g < B) : Bx W g t cs := (hb.block g hg).trans h
theorem _root_.Go.Proofs.YtfmpbkolpjlfbaaDoor.X.Fr.stepB {S : Nat → Prop} {a b c : World} (h : Fr S a b) (hb : Below a.heap.size b c) : Fr S a c :=
 ⟨hb.os.trans h.os, hb.tape.trans h.tape, hb.output.trans h.output, Nat.le_trans h.size hb.size, fun i hi hn => (hb.block i hi).trans (h.block i hi hn)⟩
theorem Sop.below {c : Cfg} {w W : World} {B : Nat} (h : Sop c w) (hb : Below B w W) (hB : c.w0.heap.size ≤ B) (h0 : c.m0 < B) (h1 : c.m1 < B) (hp : 0 < B) : Sop c W := by
 have keep : ∀ way, Cfg.mb { c with way := way } < B → Memo { c with way := way } w → Memo { c with way := way } W := by
  rintro way hlt ⟨f, hm, hv⟩
  exact ⟨f, hm.same (hb.block _ hlt), hv⟩
 refine ⟨h.base.trans ⟨hb.os, hb.tape, hb.output, hb.size, fun i hi => hb.block i (by omega)⟩, keep 0 (by simpa [Cfg.mb] using h0) h.mem0, keep 1 (by simpa [Cfg.mb] using h1) h.mem1, h.ne, ?_, ?_⟩
 ·exact (World.cell?_of_block (hb.block 0 hp)).trans h.g0
 ·exact (World.cell?_of_block (hb.block 0 hp)).trans h.g1
theorem R_fr {k : IntKind} {e : TypeId} {W W' : World} {base : Nat} {ok : Nat → Prop} {v : Value} {xs : List Int} {S : Nat → Prop} (h : Kd.R (Kd.int k) e W base ok v xs) (hf : Fr S W W') (hn : ∀ g, base ≤ g → ¬ S g) : Kd.R (Kd.int k) e W' base ok v xs := by
 obtain ⟨h1, inner, ⟨hl, hc⟩, hr⟩ := h
 refine ⟨h1, inner, ⟨hl, ?_⟩, hr⟩
 rcases hc with h | ⟨g, cap, cur, e1, e2, e3, e4, e5, e6⟩
 ·exact .inl h
 ·exact .inr ⟨g, cap, cur, e1, e2, hf.heap e3 (hn g e2), e4, e5, e6⟩
/-- A tool that is told can be used. -/
theorem strk_tool {tools : List S57} (hs : Sound tools) {lo hi way off metal : Int} (h0 : 0 ≤ metal) (h : 0 ≤ (strk tools lo hi way off metal).1) :
  (strk tools lo hi way off metal).1.toNat < tools.length ∧ (tools.getD (strk tools lo hi way off metal).1.toNat z57).f1 ≤ metal ∧ -60 ≤ off ∧ off ≤ 60 := by
 rw [strk_eq hs _ _ _ _ _ h0] at h ⊢
 by_cases h1 : ¬ (-60 ≤ off ∧ off ≤ 60)
 ·rw [if_pos h1] at h; simp at h
 ·rw [if_neg h1] at h ⊢
  by_cases h2 : lo ≤ off ∧ off ≤ hi
  ·rw [if_pos h2] at h; simp at h
  ·rw [if_neg h2] at h ⊢
   have key : ∀ (l : List Nat) (out : Int × Int), (∀ k ∈ l, k < tools.length) → (0 ≤ out.1 → out.1.toNat < tools.length ∧ (tools.getD out.1.toNat z57).f1 ≤ metal) →
     (0 ≤ (l.foldl (stool tools way (fun o m => (strk tools lo hi way o m).2) off metal) out).1 → (l.foldl (stool tools way (fun o m => (strk tools lo hi way o m).2) off metal) out).1.toNat < tools.length ∧ (tools.getD (l.foldl (stool tools way (fun o m => (strk tools lo hi way o m).2) off metal) out).1.toNat z57).f1 ≤ metal) := by
    intro l
    induction l with
    | nil => exact fun out _ h => h
    | cons k l ih =>
     intro out hk ho
     refine ih _ (fun j hj => hk j (List.mem_cons_of_mem _ hj)) ?_
     have hk' := hk k List.mem_cons_self
     unfold stool
     split
     ·exact ho
     ·split
      ·intro _
       dsimp only
       simp only [Int.toNat_natCast]
       exact ⟨hk', by omega⟩
      ·exact ho
   have := key (List.range tools.length) (-1, 1000) (fun k hk => by simpa using hk) (fun h => by simp at h) h
   exact ⟨this.1, this.2, by omega, by omega⟩
def playG (l0 : List S57) (lo hi : Int) (l3 : List S69) (off klo khi km : Int) (lm : List Int) : List Int × Int × Int := if openV l0 lo hi l3 (isIn off klo khi) ≠ 0 then ([], 0, openV l0 lo hi l3 (isIn off klo khi)) else if (strk l0 lo hi 0 off km).2 = 1000 then ([], 0, 4) else playTo l0 lo hi lm lm.length [] off km
set_option maxHeartbeats 4000000 in
set_option maxRecDepth 100000 in
theorem play_in (A0 : Option Addr) (c0 : Nat) (l0 : List S57) (lo hi : Int) (ad : Addr) (c3 : Nat) (l3 : List S69) (off : Int) (Am : Option Addr) (cm : Nat) (lm : List Int) (n : Nat) (klo khi km : Int) (w : World) (hB : Book w A0 c0 l0 (some ad) c3 l3) (hm : Kd.C (Kd.int .i64) w Am lm.length lm) (hcm : lm.length ≤ cm) (hn : n < l3.length) (hkk : l3.getD n z69 = ⟨⟨klo, khi⟩, km⟩) :
  Calls Tryd.prog 32 #[bookV A0 c0 l0 lo hi (some ad) c3 l3, .int .i64 (n : Int), .int .i64 off, .slice Am lm.length cm] w fun e w' =>
   ∃ v0_ : Value, e = .returned (.tuple #[v0_, .int .i64 (playG l0 lo hi l3 off klo khi km lm).2.1, .int .i64 (playG l0 lo hi l3 off klo khi km lm).2.2]) ∧ Kd.V (Kd.int .i64) 3 w' w.heap.size (fun k_ => (w.heap.size ≤ k_)) v0_ (playG l0 lo hi l3 off klo khi km lm).1 ∧ Below w.heap.size w w' := by
 have HB := Lib.hid hB
 clear hB
 have hw64 : wrap64 ((l3.length : Int) - 1) = (l3.length : Int) - 1 := by have := HB.out.r3.2.1; unfold wrap64; omega
 have hlies : ∀ W : World, Calls Tryd.prog 58 #[.int .i64 (n : Int), .int .i64 0, .int .i64 (wrap64 ((l3.length : Int) - 1))] W fun e w' => e = .returned (.bool true) ∧ Fr0 W w' := fun W => by
  rw [hw64, ← show isIn (n : Int) 0 ((l3.length : Int) - 1) = true from isIn_iff.2 ⟨by omega, by omega⟩]
  exact lies_fr _ _ _ W
 have HLI := Lib.hid hlies
 clear hw64 hlies
 go_enter Tryd.func32, Tryd.ntmps32
 go_wp2_with fail
 have hBW : Book (w.alloc (.cells (bookC A0 c0 l0 lo hi (some ad) c3 l3) 27)) A0 c0 l0 (some ad) c3 l3 := HB.out.fr ((Fr.refl _ _).alloc _)
 have B0 := Bx.new w 27 (bookC A0 c0 l0 lo hi (some ad) c3 l3)
 have hf0 : Fr0 w (w.alloc (.cells (bookC A0 c0 l0 lo hi (some ad) c3 l3) 27)) := (Fr.refl _ _).alloc _
 generalize hg0 : w.heap.size = g at *
 generalize hW0 : w.alloc (.cells (bookC A0 c0 l0 lo hi (some ad) c3 l3) 27) = W0 at *
 have y0 := B0.at_ 0 rfl
 have y1 := B0.at_ 1 rfl
 have y2 := B0.at_ 2 rfl
 have y3 := B0.at_ 3 rfl
 have HB0 := Lib.hid B0
 have HBW := Lib.hid hBW
 clear hBW B0
 obtain ⟨ad', had, ky0, ky1, ky2⟩ := k69_at HBW.out.r3 n hn
 cases had
 rw [hkk] at ky0 ky1 ky2
 dsimp only at ky0 ky1 ky2
 have hnI : (n : Int) < l3.length := by omega
 have H0 := Lib.hid (Fr.drew (Fr.refl (fun _ => False) W0))
 refine start_ (n := 32) (S := fun w' => w'.cell? ⟨g, 0, none⟩ = some (.slice A0 l0.length c0) ∧ w'.cell? ⟨g, 1, none⟩ = some (.int .i64 lo) ∧ w'.cell? ⟨g, 2, none⟩ = some (.int .i64 hi) ∧ w'.cell? ⟨g, 3, none⟩ = some (.slice (some ad) l3.length c3) ∧ w'.cell? (ad.add (n * 3)) = some (.int .i64 klo) ∧ w'.cell? ⟨(ad.add (n * 3)).block, (ad.add (n * 3)).off + 1, none⟩ = some (.int .i64 khi)) (ds := [30]) (.replicate 32 false) (by kernel_rfl) rfl rfl ⟨y0, y1, y2, y3, ky0, ky1⟩ (fun hHeld => ?_)
 refine pu 1 17 (bt 32 2) (k := ?_)
 refine pu 2 18 (bt 32 6) (k := ?_)
 refine tk6 0 16 (bt 32 7) hHeld (k := ?_)
 refine tk6 3 19 (bt 32 15) hHeld (k := ?_)
 refine pu 4 20 (bt 32 31) (k := ?_)
 refine pu 5 21 (bt 32 63) (k := ?_)
 refine join_ (σ := Sg) 2 (bt 32 1073741823) (fun s => [(22, .bool true), (23, .bool true), (24, .int .i64 off), (25, .pointer (some ⟨g, 3, none⟩)), (26, .slice (some ad) l3.length c3), (27, .int .i64 (n : Int)), (28, .pointer (some (ad.add (n * 3)))), (29, .pointer (some (ad.add (n * 3)))), (30, .pointer (some (ad.add (n * 3)))), (31, .int .i64 klo), (32, .pointer (some ⟨g, 3, none⟩)), (33, .slice (some ad) l3.length c3), (34, .int .i64 (n : Int)), (35, .pointer (some (ad.add (n * 3)))), (36, .pointer (some (ad.add (n * 3)))), (37, .pointer (some ⟨(ad.add (n * 3)).block, (ad.add (n * 3)).off + 1, none⟩)), (38, .int .i64 khi), (39, .bool (isIn off klo khi)), (40, .bool (isIn off klo khi)), (41, .tuple #[shopV s.2.1 s.2.2.1 s.2.2.2.1 s.2.2.2.2.1 s.2.2.2.2.2.1 s.2.2.2.2.2.2, .int .i64 (openV l0 lo hi l3 (isIn off klo khi))]), (15, .tuple #[shopV s.2.1 s.2.2.1 s.2.2.2.1 s.2.2.2.2.1 s.2.2.2.2.2.1 s.2.2.2.2.2.2, .int .i64 (openV l0 lo hi l3 (isIn off klo khi))]), (42, shopV s.2.1 s.2.2.1 s.2.2.2.1 s.2.2.2.2.1 s.2.2.2.2.2.1 s.2.2.2.2.2.2), (43, .int .i64 (openV l0 lo hi l3 (isIn off klo khi))), (11, .pointer (some ⟨s.1, 0, none⟩))]) (fun s w' => ((w'.cell? ⟨g, 0, none⟩ = some (.slice A0 l0.length c0)) ∧ (w'.cell? ⟨g, 1, none⟩ = some (.int .i64 lo)) ∧ (w'.cell? ⟨g, 2, none⟩ = some (.int .i64 hi)) ∧ (w'.cell? ⟨g, 3, none⟩ = some (.slice (some ad) l3.length c3)) ∧ (w'.cell? (ad.add (n * 3)) = some (.int .i64 klo)) ∧ (w'.cell? ⟨(ad.add (n * 3)).block, (ad.add (n * 3)).off + 1, none⟩ = some (.int .i64 khi))) ∧ OpAt 0 W0 A0 c0 l0 lo hi (some ad) c3 l3 (isIn off klo khi) s w') ?_ ?_
 rotate_left
 ·intro hCont
  refine two_ (i := 6) (j := 29) (Ni := some 22) (Nj := some 11) (bt 32 127) (bt 32 536870975) rfl rfl rfl rfl (by kernel_rfl) (by decide) (by decide) (fun K hK => ?_) (fun K hK => ?_)
  ·skip
   refine goes_ Tryd.func58 (by kernel_rfl) rfl #[.int .i64 (n : Int), .int .i64 0, .int .i64 (wrap64 ((l3.length : Int) - 1))] (by rfl) rfl rfl TN ?_
   with_reducible refine (HLI.out _).mono ?_
   rintro e w3_0 ⟨rfl, hf0⟩
   refine ⟨_, rfl, ?_⟩
   have H1 := Lib.hid (Fr0.trans H0.out hf0)
   refine hK.out _ _ ⟨(H1.out.cell0 y0), (H1.out.cell0 y1), (H1.out.cell0 y2), (H1.out.cell0 y3), (H1.out.cell0 ky0), (H1.out.cell0 ky1)⟩ (fun hHeld => ?_)
   clear hK K
   refine norm_ (a' := ?_) ?_ ?_
   rotate_left
   ·show Act.put _ (some 22) _ = _
    simp only [Act.put, lA, lZ, lS, i64_w, i32_w]
    rfl
   refine pu 7 23 (bt 32 255) (k := ?_)
   refine pu 8 24 (bt 32 511) (k := ?_)
   refine pu 9 25 (bt 32 1023) (k := ?_)
   refine tk6 10 26 (bt 32 2047) hHeld (k := ?_)
   refine pu 11 27 (bt 32 4095) (k := ?_)
   refine pu 12 28 (bt 32 8191) (k := ?_)
   refine pu 13 29 (bt 32 16383) (k := ?_)
   refine pu 14 30 (bt 32 32767) (k := ?_)
   refine tk6 15 31 (bt 32 65535) hHeld (k := ?_)
   refine pu 16 32 (bt 32 131071) (k := ?_)
   refine tk6 17 33 (bt 32 262143) hHeld (k := ?_)
   refine pu 18 34 (bt 32 524287) (k := ?_)
   refine pu 19 35 (bt 32 1048575) (k := ?_)
   refine pu 20 36 (bt 32 2097151) (k := ?_)
   refine pu 21 37 (bt 32 4194303) (k := ?_)
   refine tk6 22 38 (bt 32 8388607) hHeld (k := ?_)
   refine two_ (i := 23) (j := 29) (Ni := some 39) (Nj := some 11) (bt 32 16777215) (bt 32 545259519) rfl rfl rfl rfl (by kernel_rfl) (by decide) (by decide) (fun K hK => ?_) (fun K hK => ?_)
   ·skip
    refine goes_ Tryd.func58 (by kernel_rfl) rfl #[.int .i64 off, .int .i64 klo, .int .i64 khi] (by rfl) rfl rfl TN ?_
    with_reducible refine (lies_fr off klo khi _).mono ?_
    rintro e w3_1 ⟨rfl, hf1⟩
    refine ⟨_, rfl, ?_⟩
    have H2 := Lib.hid (Fr0.trans H1.out hf1)
    refine hK.out _ _ ⟨(H2.out.cell0 y0), (H2.out.cell0 y1), (H2.out.cell0 y2), (H2.out.cell0 y3), (H2.out.cell0 ky0), (H2.out.cell0 ky1)⟩ (fun hHeld => ?_)
    clear hK K
    refine norm_ (a' := ?_) ?_ ?_
    rotate_left
    ·show Act.put _ (some 39) _ = _
     simp only [Act.put, lA, lZ, lS, i64_w, i32_w]
     rfl
    refine pu 24 40 (bt 32 33554431) (k := ?_)
    refine two_ (i := 25) (j := 29) (Ni := some 41) (Nj := some 11) (bt 32 67108863) (bt 32 570425343) rfl rfl rfl rfl (by kernel_rfl) (by decide) (by decide) (fun K hK => ?_) (fun K hK => ?_)
    ·skip
     refine goes_ Tryd.func51 (by kernel_rfl) rfl #[bookV A0 c0 l0 lo hi (some ad) c3 l3, .bool (isIn off klo khi)] (by rfl) rfl rfl TN ?_
     with_reducible refine (open_any 0 (.inl rfl) A0 c0 l0 lo hi (some ad) c3 l3 (isIn off klo khi) _ (HBW.out.fr H2.out)).mono ?_
     rintro e w3_2 ⟨tv, lo', hi', kv', o0, o1, rfl, htv, hkv, hf2, hop⟩
     refine ⟨_, rfl, ?_⟩
     have H3 := Lib.hid (Fr0.trans H2.out hf2)
     have HOP : Hop _ := ⟨OpAtP.mk' H2.out HBW.out hop⟩
     refine hK.out _ _ ⟨(H3.out.cell0 y0), (H3.out.cell0 y1), (H3.out.cell0 y2), (H3.out.cell0 y3), (H3.out.cell0 ky0), (H3.out.cell0 ky1)⟩ (fun hHeld => ?_)
     clear hK K
     refine norm_ (a' := ?_) ?_ ?_
     rotate_left
     ·show Act.put _ (some 41) _ = _
      simp only [Act.put, lA, lZ, lS, i64_w, i32_w]
      rfl
     refine pu 26 15 (bt 32 134217727) (k := ?_)
     refine pu 27 42 (bt 32 268435455) (k := ?_)
     refine pu 28 43 (bt 32 536870911) (k := ?_)
     refine oN 29 11 (bt 32 1073741823) (h := fun K hK => ?_)
     refine value_ (w1 := ?_) (v := ?_) (by rfl) rfl ?_ ?_
     rotate_left 2
     ·go_simp
      constructor
      ·rfl
      ·rfl
     have H4 := Lib.hid (Fr0.trans H3.out (Fr.alloc (Fr.refl _ _) (.cells (shopC (.slice none 0 0) 0 0 (.slice none 0 0) none none) 78)))
     have HX := Lib.hid (Bx.new_at H3.out 78 (shopC (.slice none 0 0) 0 0 (.slice none 0 0) none none))
     have HLE := Lib.hid H3.out.size
     have HOP := HOP.imp (fun h => h.fr (Fr.alloc (Fr.refl _ _) (.cells (shopC (.slice none 0 0) 0 0 (.slice none 0 0) none none) 78)))
     refine hK.out _ _ ⟨(H4.out.cell0 y0), (H4.out.cell0 y1), (H4.out.cell0 y2), (H4.out.cell0 y3), (H4.out.cell0 ky0), (H4.out.cell0 ky1)⟩ (fun hHeld => ?_)
     clear hK K
     refine norm_ (a' := ?_) ?_ ?_
     rotate_left
     ·show Act.put _ (some 11) _ = _
      simp only [Act.put, lA, lZ, lS, i64_w, i32_w]
      rfl
     exact norm_ (by (simp only [putAll, Act.put, lA, lZ, lS]) <;> rfl) (hCont (⟨_, tv, lo', hi', kv', o0, o1⟩ : Sg) _ ⟨⟨H4.out.cell0 y0, H4.out.cell0 y1, H4.out.cell0 y2, H4.out.cell0 y3, H4.out.cell0 ky0, H4.out.cell0 ky1⟩, ⟨H4.out, HX.out, HLE.out, ⟨htv, hkv⟩, HOP.out⟩⟩)
    ·skip
     refine value_ (w1 := ?_) (v := ?_) (by rfl) rfl ?_ ?_
     rotate_left 2
     ·go_simp
      constructor
      ·rfl
      ·rfl
     have H3 := Lib.hid (Fr0.trans H2.out (Fr.alloc (Fr.refl _ _) (.cells (shopC (.slice none 0 0) 0 0 (.slice none 0 0) none none) 78)))
     have HX := Lib.hid (Bx.new_at H2.out 78 (shopC (.slice none 0 0) 0 0 (.slice none 0 0) none none))
     have HLE := Lib.hid H2.out.size
     refine hK.out _ _ ⟨(H3.out.cell0 y0), (H3.out.cell0 y1), (H3.out.cell0 y2), (H3.out.cell0 y3), (H3.out.cell0 ky0), (H3.out.cell0 ky1)⟩ (fun hHeld => ?_)
     clear hK K
     refine norm_ (a' := ?_) ?_ ?_
     rotate_left
     ·show Act.put _ (some 11) _ = _
      simp only [Act.put, lA, lZ, lS, i64_w, i32_w]
      rfl
     refine oN 25 41 (bt 32 603979775) (h := fun K hK => ?_)
     refine goes_ Tryd.func51 (by kernel_rfl) rfl #[bookV A0 c0 l0 lo hi (some ad) c3 l3, .bool (isIn off klo khi)] (by rfl) rfl rfl TN ?_
     with_reducible refine (open_any 0 (.inl rfl) A0 c0 l0 lo hi (some ad) c3 l3 (isIn off klo khi) _ (HBW.out.fr H3.out)).mono ?_
     rintro e w3_3 ⟨tv, lo', hi', kv', o0, o1, rfl, htv, hkv, hf3, hop⟩
     refine ⟨_, rfl, ?_⟩
     have H4 := Lib.hid (Fr0.trans H3.out hf3)
     have HX := Lib.hid (HX.out.fr0 hf3)
     have HOP : Hop _ := ⟨OpAtP.mk' H3.out HBW.out hop⟩
     refine hK.out _ _ ⟨(H4.out.cell0 y0), (H4.out.cell0 y1), (H4.out.cell0 y2), (H4.out.cell0 y3), (H4.out.cell0 ky0), (H4.out.cell0 ky1)⟩ (fun hHeld => ?_)
     clear hK K
     refine norm_ (a' := ?_) ?_ ?_
     rotate_left
     ·show Act.put _ (some 41) _ = _
      simp only [Act.put, lA, lZ, lS, i64_w, i32_w]
      rfl
     refine pu 26 15 (bt 32 671088639) (k := ?_)
     refine pu 27 42 (bt 32 805306367) (k := ?_)
     refine pu 28 43 (bt 32 1073741823) (k := ?_)
     exact norm_ (by (simp only [putAll, Act.put, lA, lZ, lS]) <;> rfl) (hCont (⟨_, tv, lo', hi', kv', o0, o1⟩ : Sg) _ ⟨⟨H4.out.cell0 y0, H4.out.cell0 y1, H4.out.cell0 y2, H4.out.cell0 y3, H4.out.cell0 ky0, H4.out.cell0 ky1⟩, ⟨H4.out, HX.out, HLE.out, ⟨htv, hkv⟩, HOP.out⟩⟩)
   ·skip
    refine value_ (w1 := ?_) (v := ?_) (by rfl) rfl ?_ ?_
    rotate_left 2
    ·go_simp
     constructor
     ·rfl
     ·rfl
    have H2 := Lib.hid (Fr0.trans H1.out (Fr.alloc (Fr.refl _ _) (.cells (shopC (.slice none 0 0) 0 0 (.slice none 0 0) none none) 78)))
    have HX := Lib.hid (Bx.new_at H1.out 78 (shopC (.slice none 0 0) 0 0 (.slice none 0 0) none none))
    have HLE := Lib.hid H1.out.size
    refine hK.out _ _ ⟨(H2.out.cell0 y0), (H2.out.cell0 y1), (H2.out.cell0 y2), (H2.out.cell0 y3), (H2.out.cell0 ky0), (H2.out.cell0 ky1)⟩ (fun hHeld => ?_)
    clear hK K
    refine norm_ (a' := ?_) ?_ ?_
    rotate_left
    ·show Act.put _ (some 11) _ = _
     simp only [Act.put, lA, lZ, lS, i64_w, i32_w]
     rfl
    refine oN 23 39 (bt 32 553648127) (h := fun K hK => ?_)
    refine goes_ Tryd.func58 (by kernel_rfl) rfl #[.int .i64 off, .int .i64 klo, .int .i64 khi] (by rfl) rfl rfl TN ?_
    with_reducible refine (lies_fr off klo khi _).mono ?_
    rintro e w3_2 ⟨rfl, hf2⟩
    refine ⟨_, rfl, ?_⟩
    have H3 := Lib.hid (Fr0.trans H2.out hf2)
    have HX := Lib.hid (HX.out.fr0 hf2)
    refine hK.out _ _ ⟨(H3.out.cell0 y0), (H3.out.cell0 y1), (H3.out.cell0 y2), (H3.out.cell0 y3), (H3.out.cell0 ky0), (H3.out.cell0 ky1)⟩ (fun hHeld => ?_)
    clear hK K
    refine norm_ (a' := ?_) ?_ ?_
    rotate_left
    ·show Act.put _ (some 39) _ = _
     simp only [Act.put, lA, lZ, lS, i64_w, i32_w]
     rfl
    refine pu 24 40 (bt 32 570425343) (k := ?_)
    refine oN 25 41 (bt 32 603979775) (h := fun K hK => ?_)
    refine goes_ Tryd.func51 (by kernel_rfl) rfl #[bookV A0 c0 l0 lo hi (some ad) c3 l3, .bool (isIn off klo khi)] (by rfl) rfl rfl TN ?_
    with_reducible refine (open_any 0 (.inl rfl) A0 c0 l0 lo hi (some ad) c3 l3 (isIn off klo khi) _ (HBW.out.fr H3.out)).mono ?_
    rintro e w3_3 ⟨tv, lo', hi', kv', o0, o1, rfl, htv, hkv, hf3, hop⟩
    refine ⟨_, rfl, ?_⟩
    have H4 := Lib.hid (Fr0.trans H3.out hf3)
    have HX := Lib.hid (HX.out.fr0 hf3)
    have HOP : Hop _ := ⟨OpAtP.mk' H3.out HBW.out hop⟩
    refine hK.out _ _ ⟨(H4.out.cell0 y0), (H4.out.cell0 y1), (H4.out.cell0 y2), (H4.out.cell0 y3), (H4.out.cell0 ky0), (H4.out.cell0 ky1)⟩ (fun hHeld => ?_)
    clear hK K
    refine norm_ (a' := ?_) ?_ ?_
    rotate_left
    ·show Act.put _ (some 41) _ = _
     simp only [Act.put, lA, lZ, lS, i64_w, i32_w]
     rfl
    refine pu 26 15 (bt 32 671088639) (k := ?_)
    refine pu 27 42 (bt 32 805306367) (k := ?_)
    refine pu 28 43 (bt 32 1073741823) (k := ?_)
    exact norm_ (by (simp only [putAll, Act.put, lA, lZ, lS]) <;> rfl) (hCont (⟨_, tv, lo', hi', kv', o0, o1⟩ : Sg) _ ⟨⟨H4.out.cell0 y0, H4.out.cell0 y1, H4.out.cell0 y2, H4.out.cell0 y3, H4.out.cell0 ky0, H4.out.cell0 ky1⟩, ⟨H4.out, HX.out, HLE.out, ⟨htv, hkv⟩, HOP.out⟩⟩)
  ·skip
   refine value_ (w1 := ?_) (v := ?_) (by rfl) rfl ?_ ?_
   rotate_left 2
   ·go_simp
    constructor
    ·rfl
    ·rfl
   have H1 := Lib.hid (Fr0.trans H0.out (Fr.alloc (Fr.refl _ _) (.cells (shopC (.slice none 0 0) 0 0 (.slice none 0 0) none none) 78)))
   have HX := Lib.hid (Bx.new_at H0.out 78 (shopC (.slice none 0 0) 0 0 (.slice none 0 0) none none))
   have HLE := Lib.hid H0.out.size
   refine hK.out _ _ ⟨(H1.out.cell0 y0), (H1.out.cell0 y1), (H1.out.cell0 y2), (H1.out.cell0 y3), (H1.out.cell0 ky0), (H1.out.cell0 ky1)⟩ (fun hHeld => ?_)
   clear hK K
   refine norm_ (a' := ?_) ?_ ?_
   rotate_left
   ·show Act.put _ (some 11) _ = _
    simp only [Act.put, lA, lZ, lS, i64_w, i32_w]
    rfl
   refine oN 6 22 (bt 32 536871039) (h := fun K hK => ?_)
   refine goes_ Tryd.func58 (by kernel_rfl) rfl #[.int .i64 (n : Int), .int .i64 0, .int .i64 (wrap64 ((l3.length : Int) - 1))] (by rfl) rfl rfl TN ?_
   with_reducible refine (HLI.out _).mono ?_
   rintro e w3_1 ⟨rfl, hf1⟩
   refine ⟨_, rfl, ?_⟩
   have H2 := Lib.hid (Fr0.trans H1.out hf1)
   have HX := Lib.hid (HX.out.fr0 hf1)
   refine hK.out _ _ ⟨(H2.out.cell0 y0), (H2.out.cell0 y1), (H2.out.cell0 y2), (H2.out.cell0 y3), (H2.out.cell0 ky0), (H2.out.cell0 ky1)⟩ (fun hHeld => ?_)
   clear hK K
   refine norm_ (a' := ?_) ?_ ?_
   rotate_left
   ·show Act.put _ (some 22) _ = _
    simp only [Act.put, lA, lZ, lS, i64_w, i32_w]
    rfl
   refine pu 7 23 (bt 32 536871167) (k := ?_)
   refine pu 8 24 (bt 32 536871423) (k := ?_)
   refine pu 9 25 (bt 32 536871935) (k := ?_)
   refine tk6 10 26 (bt 32 536872959) hHeld (k := ?_)
   refine pu 11 27 (bt 32 536875007) (k := ?_)
   refine pu 12 28 (bt 32 536879103) (k := ?_)
   refine pu 13 29 (bt 32 536887295) (k := ?_)
   refine pu 14 30 (bt 32 536903679) (k := ?_)
   refine tk6 15 31 (bt 32 536936447) hHeld (k := ?_)
   refine pu 16 32 (bt 32 537001983) (k := ?_)
   refine tk6 17 33 (bt 32 537133055) hHeld (k := ?_)
   refine pu 18 34 (bt 32 537395199) (k := ?_)
   refine pu 19 35 (bt 32 537919487) (k := ?_)
   refine pu 20 36 (bt 32 538968063) (k := ?_)
   refine pu 21 37 (bt 32 541065215) (k := ?_)
   refine tk6 22 38 (bt 32 545259519) hHeld (k := ?_)
   refine oN 23 39 (bt 32 553648127) (h := fun K hK => ?_)
   refine goes_ Tryd.func58 (by kernel_rfl) rfl #[.int .i64 off, .int .i64 klo, .int .i64 khi] (by rfl) rfl rfl TN ?_
   with_reducible refine (lies_fr off klo khi _).mono ?_
   rintro e w3_2 ⟨rfl, hf2⟩
   refine ⟨_, rfl, ?_⟩
   have H3 := Lib.hid (Fr0.trans H2.out hf2)
   have HX := Lib.hid (HX.out.fr0 hf2)
   refine hK.out _ _ ⟨(H3.out.cell0 y0), (H3.out.cell0 y1), (H3.out.cell0 y2), (H3.out.cell0 y3), (H3.out.cell0 ky0), (H3.out.cell0 ky1)⟩ (fun hHeld => ?_)
   clear hK K
   refine norm_ (a' := ?_) ?_ ?_
   rotate_left
   ·show Act.put _ (some 39) _ = _
    simp only [Act.put, lA, lZ, lS, i64_w, i32_w]
    rfl
   refine pu 24 40 (bt 32 570425343) (k := ?_)
   refine oN 25 41 (bt 32 603979775) (h := fun K hK => ?_)
   refine goes_ Tryd.func51 (by kernel_rfl) rfl #[bookV A0 c0 l0 lo hi (some ad) c3 l3, .bool (isIn off klo khi)] (by rfl) rfl rfl TN ?_
   with_reducible refine (open_any 0 (.inl rfl) A0 c0 l0 lo hi (some ad) c3 l3 (isIn off klo khi) _ (HBW.out.fr H3.out)).mono ?_
   rintro e w3_3 ⟨tv, lo', hi', kv', o0, o1, rfl, htv, hkv, hf3, hop⟩
   refine ⟨_, rfl, ?_⟩
   have H4 := Lib.hid (Fr0.trans H3.out hf3)
   have HX := Lib.hid (HX.out.fr0 hf3)
   have HOP : Hop _ := ⟨OpAtP.mk' H3.out HBW.out hop⟩
   refine hK.out _ _ ⟨(H4.out.cell0 y0), (H4.out.cell0 y1), (H4.out.cell0 y2), (H4.out.cell0 y3), (H4.out.cell0 ky0), (H4.out.cell0 ky1)⟩ (fun hHeld => ?_)
   clear hK K
   refine norm_ (a' := ?_) ?_ ?_
   rotate_left
   ·show Act.put _ (some 41) _ = _
    simp only [Act.put, lA, lZ, lS, i64_w, i32_w]
    rfl
   refine pu 26 15 (bt 32 671088639) (k := ?_)
   refine pu 27 42 (bt 32 805306367) (k := ?_)
   refine pu 28 43 (bt 32 1073741823) (k := ?_)
   exact norm_ (by (simp only [putAll, Act.put, lA, lZ, lS]) <;> rfl) (hCont (⟨_, tv, lo', hi', kv', o0, o1⟩ : Sg) _ ⟨⟨H4.out.cell0 y0, H4.out.cell0 y1, H4.out.cell0 y2, H4.out.cell0 y3, H4.out.cell0 ky0, H4.out.cell0 ky1⟩, ⟨H4.out, HX.out, HLE.out, ⟨htv, hkv⟩, HOP.out⟩⟩)
 rintro ⟨g9, tv, lo', hi', kv', o0, o1⟩ w5 ⟨⟨s0, s1, s2, s3, s4, s5⟩, HP⟩
 have hHeld : (w5.cell? ⟨g, 0, none⟩ = some (.slice A0 l0.length c0)) ∧ (w5.cell? ⟨g, 1, none⟩ = some (.int .i64 lo)) ∧ (w5.cell? ⟨g, 2, none⟩ = some (.int .i64 hi)) ∧ (w5.cell? ⟨g, 3, none⟩ = some (.slice (some ad) l3.length c3)) ∧ (w5.cell? (ad.add (n * 3)) = some (.int .i64 klo)) ∧ (w5.cell? ⟨(ad.add (n * 3)).block, (ad.add (n * 3)).off + 1, none⟩ = some (.int .i64 khi)) := ⟨s0, s1, s2, s3, s4, s5⟩
 have hone := HP.one
 dsimp only at hone
 obtain ⟨⟨Ax, nx, cx, rfl⟩, ⟨Ay, ny, cy, rfl⟩⟩ := hone
 have bz0 := HP.bx.at_ 0 rfl
 have bz1 := HP.bx.at_ 1 rfl
 have bz2 := HP.bx.at_ 2 rfl
 have bz3 := HP.bx.at_ 3 rfl
 have bz4 := HP.bx.at_ 4 rfl
 have bz5 := HP.bx.at_ 5 rfl
 have fz0 := HP.bx.frz 0
 have fz1 := HP.bx.frz 1
 have fz2 := HP.bx.frz 2
 have fz3 := HP.bx.frz 3
 have fz4 := HP.bx.frz 4
 have fz5 := HP.bx.frz 5
 dsimp only at bz0 fz0 bz1 fz1 bz2 fz2 bz3 fz3 bz4 fz4 bz5 fz5
 refine norm_ (a' := ?_) ?_ ?_
 rotate_left
 ·simp only [putAll, Act.put, lA, lZ, lS]
  rfl
 refine last_ (i := 30) (N := none) (bt 32 2147483647) rfl rfl (by kernel_rfl) (by decide) (fun K hK => ?_)
 refine skip_ (w1 := ?_) (by rfl) rfl ?_ ?_
 rotate_left
 ·go_simp
  rfl
 refine hK.out _ _ ?_
 clear hK K
 refine pu 31 10 (bt 32 4294967295) (k := ?_)
 refine done_ (by kernel_rfl) ?_
 have BX := shop_set HP.bx (.slice Ax nx cx) (.int .i64 lo') (.int .i64 hi') (.slice Ay ny cy) (.map o0) (.map o1)
 have hf6 := shop_fr HP.fr (.inr HP.new) (.slice Ax nx cx) (.int .i64 lo') (.int .i64 hi') (.slice Ay ny cy) (.map o0) (.map o1)
 have hf56 := shop_fr (Fr.refl (· = g9) w5) (.inl rfl) (.slice Ax nx cx) (.int .i64 lo') (.int .i64 hi') (.slice Ay ny cy) (.map o0) (.map o1)
 dsimp only at BX hf6 hf56
 generalize hW6 : World.setCell _ _ _ = W6 at *
 have HBX := Lib.hid BX
 have c0' := BX.at_ 0 rfl
 have c1' := BX.at_ 1 rfl
 have c2' := BX.at_ 2 rfl
 have c3' := BX.at_ 3 rfl
 have c4' := BX.at_ 4 rfl
 have c5' := BX.at_ 5 rfl
 have lg := BX.lt
 have HNEW := Lib.hid HP.new
 have HKY := Lib.hid ky2
 clear bz0 bz1 bz2 bz3 bz4 bz5 fz0 fz1 fz2 fz3 fz4 fz5 s0 s1 s2 s3 s4 s5 H0 hHeld BX y0 y1 y2 y3 ky0 ky1 ky2
 by_cases hz : openV l0 lo hi l3 (isIn off klo khi) = 0
 ·obtain ⟨m0, m1, e1, e2, e3, e4, e5, e6, hO⟩ := HP.op.op hz
  obtain ⟨hbk, hak⟩ := openV_zero hz
  have hN : playG l0 lo hi l3 off klo khi km lm = if (strk l0 lo hi 0 off km).2 = 1000 then ([], 0, 4) else playTo l0 lo hi lm lm.length [] off km := by unfold playG; rw [if_neg (by simpa using hz)]
  have HN := Lib.hid hN
  have HBK := Lib.hid hbk
  have hpos : 0 < W0.heap.size := World.block_lt_of_cell? W0 _ HBW.out.glob.g0
  have hn0 : g9 ≠ m0 := fun e => by
   obtain ⟨f, hf, _⟩ := hO.sop.mem0
   obtain ⟨es, ck, ho⟩ := hf.obj
   exact HP.bx.not_map ho (e.trans (by simp [Cfg.mb, Cfg.of]))
  have hn1 : g9 ≠ m1 := fun e => by
   obtain ⟨f, hf, _⟩ := hO.sop.mem1
   obtain ⟨es, ck, ho⟩ := hf.obj
   exact HP.bx.not_map ho (e.trans (by simp [Cfg.mb, Cfg.of]))
  have HS6 := Lib.hid (hO.sop.set hf56 HNEW.out hpos hn0 hn1)
  have HAK := Lib.hid hak
  have HO := Lib.hid hO
  have HN0 := Lib.hid hn0
  have HN1 := Lib.hid hn1
  clear hO HP hN hak hbk hn0 hn1
  dsimp only at e1 e2 e3 e4 e5 e6
  cases e1
  cases e4
  subst e2 e3 e5 e6
  have hak := isIn_iff.1 HAK.out
  have hkb := keys_ok HBK.out n hn
  rw [hkk] at hkb
  have hkr : -60 ≤ klo ∧ klo ≤ khi ∧ khi ≤ 60 ∧ 0 ≤ km ∧ km ≤ 30 := by
   unfold keyOk isIn at hkb
   simp only [Bool.and_eq_true, decide_eq_true_eq] at hkb
   omega
  have hsound := sound_of HBK.out
  have hcall : ∀ (o m : Int) (W : World), 0 ≤ m → m ≤ 1000 → -500 ≤ o → o ≤ 500 → Sop (Cfg.of W0 A0 c0 l0 lo' hi' (.slice (some ad) l3.length c3) m0 m1) W → Calls Tryd.prog 53 #[.agg #[.slice A0 l0.length c0, .int .i64 lo', .int .i64 hi', .slice (some ad) l3.length c3, .map (some m0), .map (some m1)], .agg #[.int .i64 o, .int .i64 m], .int .i64 0] W fun e w' => e = .returned (.agg #[.int .i64 (strk l0 lo' hi' 0 o m).1, .int .i64 (strk l0 lo' hi' 0 o m).2]) ∧ Fr (· = m0) W w' ∧ Sop (Cfg.of W0 A0 c0 l0 lo' hi' (.slice (some ad) l3.length c3) m0 m1) w' := fun o m W h1 h2 h3 h4 hs =>
   strokes_any (Cfg.of W0 A0 c0 l0 lo' hi' (.slice (some ad) l3.length c3) m0 m1) HO.out.fix o m W hs h1 h2 h3 h4
  have HC := Lib.hid hcall
  have HSO := Lib.hid hsound
  have B06 := HB0.out.fr0 hf6
  have y3 := B06.at_ 3 rfl
  have l06 := B06.lt
  have hk6 := hf6.cell0 HKY.out
  have hfd := field83
  have hfd0 := field83_0
  clear hcall hsound hkb
  have HKR := Lib.hid (show -60 ≤ off ∧ off ≤ 60 ∧ 0 ≤ km ∧ km ≤ 30 from by omega)
  clear hak hkr
  have HS7 := Lib.hid (HS6.out.step0 (Fr.alloc (Fr.refl _ _) (.cells #[.int .i64 off, .int .i64 km] 86)))
  have HX := Lib.hid (Bx.new W6 86 #[.int .i64 off, .int .i64 km])
  by_cases hbig : (strk l0 lo' hi' 0 off km).2 = 1000
  ·rw [if_pos hbig] at HN
   have hc53 := HC.out off km _ HKR.out.2.2.1 (by have := HKR.out; omega) (by have := HKR.out; omega) (by have := HKR.out; omega) HS7.out
   have HC53 := Lib.hid hc53
   clear hc53
   go_wp2_with (go_at_call 53; refine HC53.out.mono ?_; rintro e W7 ⟨rfl, hf7, hS7⟩)
   refine bodyPost_ret (v := .tuple #[.slice none 0 0, .int .i64 0, .int .i64 4]) (by simp [results, Tryd.results32, go_sem]) rfl ⟨_, by rw [HN.out], by rw [HN.out]; exact Kd.V_nil _ _ _ _ _, ?_⟩
   exact fin_below2 hf0 hf6 hf7 HO.out.o0
  ·rw [if_neg hbig] at HN
   have hbig0 : ((strk l0 lo' hi' 0 off km).2 == 1000) = false := by simpa using hbig
   have hc53 := HC.out off km _ HKR.out.2.2.1 (by have := HKR.out; omega) (by have := HKR.out; omega) (by have := HKR.out; omega) HS7.out
   have HC53 := Lib.hid hc53
   clear hc53
   go_wp2_with (go_at_call 53; refine HC53.out.mono ?_; rintro e W7 ⟨rfl, hf7, hS7⟩)
   have hxm : ¬ (W6.heap.size = m0) := fun e => by
    obtain ⟨f, hf, _⟩ := HS7.out.mem0
    obtain ⟨es, ck, ho⟩ := hf.obj
    exact HX.out.not_map ho (e.trans (by simp [Cfg.mb, Cfg.of]))
   have hxm1 : ¬ (W6.heap.size = m1) := fun e => by
    obtain ⟨f, hf, _⟩ := HS7.out.mem1
    obtain ⟨es, ck, ho⟩ := hf.obj
    exact HX.out.not_map ho (e.trans (by simp [Cfg.mb, Cfg.of]))
   have HX7 := Lib.hid (HX.out.fr hf7 hxm)
   have HG7 := Lib.hid ((HBX.out.alloc (.cells #[.int .i64 off, .int .i64 km] 86)).fr hf7 HN0.out)
   have hb7 := fin_below2 hf0 hf6 hf7 HO.out.o0
   have hxg : W6.heap.size ≠ g9 := by omega
   have hx0w : W0.heap.size ≤ W6.heap.size := hf6.size
   have HXM := Lib.hid hxm
   have HXM1 := Lib.hid hxm1
   have HXG := Lib.hid hxg
   have HX0 := Lib.hid hx0w
   have HB7 := Lib.hid hb7
   have HS7' := Lib.hid hS7
   have hmW7 : Kd.C (Kd.int .i64) w Am lm.length lm := hm
   have HLM1 := Lib.hid (show m1 < W7.heap.size from by obtain ⟨f, hf, _⟩ := hS7.mem1; have := hf.lt; simpa [Cfg.mb, Cfg.of] using this)
   have HLM := Lib.hid (show m0 < W7.heap.size from by obtain ⟨f, hf, _⟩ := hS7.mem0; have := hf.lt; simpa [Cfg.mb, Cfg.of] using this)
   have HM7 := Lib.hid hmW7
   have hxw : w.heap.size ≤ W6.heap.size := Nat.le_trans hf0.size hx0w
   have HXW := Lib.hid hxw
   have HF0S := Lib.hid hf0.size
   have HW0P := Lib.hid hpos
   clear hxm hxm1 hxg hx0w hb7 hS7 hmW7 hm hxw HX HS7 HC53 c0' c1' c2' c3' c4' c5' y3 hk6 hf7 hf6 hf56 l06
   generalize W6.heap.size = gx at *
   go_loopg [8] lm.length (fun q v8 wr => ∃ (told : List Int) (o m : Int), told.length + q = lm.length ∧ Kd.R (Kd.int .i64) 3 wr W7.heap.size (fun k => W7.heap.size ≤ k) v8 told ∧ Bx wr gx 86 #[.int .i64 o, .int .i64 m] ∧ Bx wr g9 78 (shopC (.slice A0 l0.length c0) lo' hi' (.slice (some ad) l3.length c3) (some m0) (some m1)) ∧ Fr (fun k => k = m0 ∨ k = gx) W7 wr ∧ Sop (Cfg.of W0 A0 c0 l0 lo' hi' (.slice (some ad) l3.length c3) m0 m1) wr ∧ 0 ≤ m ∧ m ≤ 1000 ∧ -200 ≤ o ∧ o ≤ 200 ∧ (told.length : Int) + m ≤ 30 ∧ Hop (playTo l0 lo' hi' lm lm.length [] off km = playTo l0 lo' hi' lm q told o m))
   case atStart => exact ⟨[], off, km, by simp, Kd.R_nil _ _ _ _ _, HX7.out, HG7.out, Fr.refl _ _, HS7'.out, by have := HKR.out; omega, by have := HKR.out; omega, by have := HKR.out; omega, by have := HKR.out; omega, by have := HKR.out; simp; omega, ⟨rfl⟩⟩
   case round =>
    obtain ⟨told, o, m, hq, hR, hx, hgb, hf, hs, hm0, hm1, ho0, ho1, hsum, HPL⟩ := hrel
    have HR := Lib.hid hR
    have HXR := Lib.hid hx
    have HGR := Lib.hid hgb
    have HFR := Lib.hid hf
    have HSR := Lib.hid hs
    have x0 := hx.at_ 0 rfl
    have x1 := hx.at_ 1 rfl
    have t0 := hgb.at_ 0 rfl
    have t1 := hgb.at_ 1 rfl
    have t2 := hgb.at_ 2 rfl
    have t3 := hgb.at_ 3 rfl
    have t4 := hgb.at_ 4 rfl
    have t5 := hgb.at_ 5 rfl
    have hV := Kd.R_V (base' := w.heap.size) hR
    obtain ⟨A', c', hv, hc', hF'⟩ := id hV
    subst hv
    have HV := Lib.hid hV
    clear hR hx hgb hf hs hV hF'
    have HFI := Lib.hid (isFine_any (.slice A0 l0.length c0) (.slice (some ad) l3.length c3) (some m0) (some m1) lo' hi' o wr rfl)
    by_cases hfine : lo' ≤ o ∧ o ≤ hi'
    ·have hfb : (decide (lo' ≤ o) && decide (o ≤ hi')) = true := by simpa using hfine
     rw [hfb] at HFI
     by_cases hl : told.length = lm.length
     ·obtain rfl : gk = 0 := by omega
      have hlI : (told.length : Int) = lm.length := by omega
      have hPL : playTo l0 lo' hi' lm 0 told o m = (told, o, 0) := by unfold playTo; rw [if_pos hfine]
      have HN2 := Lib.hid (HN.out.trans (HPL.out.trans hPL))
      clear hPL HPL
      obtain ⟨_, inner, ⟨hil, hcase⟩, hreps⟩ := HR.out
      rcases hcase with ⟨e, hz0⟩ | ⟨gg, cap, cur, e, hg1, hg2, hcap, hcap2, hcur⟩
      ·simp only [Value.slice.injEq] at e
       obtain ⟨rfl, _, rfl⟩ := e
       obtain rfl : told = [] := List.eq_nil_of_length_eq_zero hz0
       obtain rfl : lm = [] := List.eq_nil_of_length_eq_zero (by simpa using hl.symm)
       clear hil hreps
       go_wp2_with (go_at_call 65; refine HFI.out.mono ?_; rintro e W8 ⟨rfl, hf8⟩; (have HX8 := Lib.hid (HXR.out.fr0 hf8)); (have xx := HX8.out.at_ 0 rfl))
       refine start_ (n := 11) (S := fun w' => w'.cell? ⟨gx, 0, none⟩ = some (.int .i64 o)) (ds := []) (.replicate 11 false) (by kernel_rfl) rfl rfl (xx) (fun hHeld => ?_)
       refine pu 0 126 (bt 11 1) (k := ?_)
       refine pu 1 127 (bt 11 3) (k := ?_)
       refine pu 2 128 (bt 11 7) (k := ?_)
       refine pu 3 129 (bt 11 15) (k := ?_)
       refine pu 4 130 (bt 11 31) (k := ?_)
       refine pu 5 131 (bt 11 63) (k := ?_)
       refine pu 6 132 (bt 11 127) (k := ?_)
       refine pu 8 8 (bt 11 383) (k := ?_)
       refine tk1 7 133 (bt 11 511) hHeld (k := ?_)
       refine pu 9 9 (bt 11 1023) (k := ?_)
       refine pu 10 10 (bt 11 2047) (k := ?_)
       refine done_ (by kernel_rfl) ?_
       go_wp2
       refine bodyPost_ret (v := .tuple #[.slice none 0 0, .int .i64 o, .int .i64 0]) (by simp [results, Tryd.results32, go_sem]) rfl ⟨_, by rw [HN2.out], by rw [HN2.out]; exact Kd.V_nil _ _ _ _ _, ?_⟩
       exact ((HB7.out.trans (HFR.out.below HB7.out.size (fun k hk e => by have h1 := HO.out.o0; have h2 := HXW.out; have h3 := HF0S.out; omega))).trans (hf8.below (Nat.le_trans HB7.out.size HFR.out.size) (fun _ _ h => h))).drew
      ·simp only [Value.slice.injEq] at e
       obtain ⟨rfl, _, rfl⟩ := e
       have hV' := (V_cut HV.out).2
       have hcapi : (told.length : Int) ≤ c' := by omega
       have hcapn : lm.length ≤ c' := by omega
       have hcapm : (lm.length : Int) ≤ c' := by omega
       have HV2 := Lib.hid hV'
       clear hV' hil hreps hcur hg2
       go_wp2_with (go_at_call 65; refine HFI.out.mono ?_; rintro e W8 ⟨rfl, hf8⟩; (have HX8 := Lib.hid (HXR.out.fr0 hf8)); (have xx := HX8.out.at_ 0 rfl))
       refine start_ (n := 11) (S := fun w' => w'.cell? ⟨gx, 0, none⟩ = some (.int .i64 o)) (ds := []) (.replicate 11 false) (by kernel_rfl) rfl rfl (xx) (fun hHeld => ?_)
       refine pu 0 126 (bt 11 1) (k := ?_)
       refine pu 1 127 (bt 11 3) (k := ?_)
       refine pu 2 128 (bt 11 7) (k := ?_)
       refine pu 3 129 (bt 11 15) (k := ?_)
       refine pu 4 130 (bt 11 31) (k := ?_)
       refine pu 5 131 (bt 11 63) (k := ?_)
       refine pu 6 132 (bt 11 127) (k := ?_)
       refine pu 8 8 (bt 11 383) (k := ?_)
       refine tk1 7 133 (bt 11 511) hHeld (k := ?_)
       refine pu 9 9 (bt 11 1023) (k := ?_)
       refine pu 10 10 (bt 11 2047) (k := ?_)
       refine done_ (by kernel_rfl) ?_
       go_wp2
       refine bodyPost_ret (v := .tuple #[.slice (some ⟨gg, 0, none⟩) told.length told.length, .int .i64 o, .int .i64 0]) (by simp [results, Tryd.results32, go_sem, hl]) rfl ⟨_, by rw [HN2.out], by rw [HN2.out]; exact Kd.V_mono (Kd.V_below HV2.out ((Fr.drew hf8).below (Nat.le_refl _) (fun _ _ h => h))) (fun k hk => Nat.le_trans HB7.out.size hk), ?_⟩
       exact ((HB7.out.trans (HFR.out.below HB7.out.size (fun k hk e => by have h1 := HO.out.o0; have h2 := HXW.out; have h3 := HF0S.out; omega))).trans (hf8.below (Nat.le_trans HB7.out.size HFR.out.size) (fun _ _ h => h))).drew
     ·obtain ⟨d, rfl⟩ : ∃ d, gk = d + 1 := ⟨gk - 1, by omega⟩
      have hlI : ¬ ((told.length : Int) = lm.length) := by omega
      have hPL : playTo l0 lo' hi' lm (d + 1) told o m = ([], 0, 32) := by unfold playTo; rw [if_pos hfine]
      have HN2 := Lib.hid (HN.out.trans (HPL.out.trans hPL))
      clear hPL HPL
      go_wp2_with (go_at_call 65; refine HFI.out.mono ?_; rintro e W8 ⟨rfl, hf8⟩)
      refine bodyPost_ret (v := .tuple #[.slice none 0 0, .int .i64 0, .int .i64 32]) (by simp [results, Tryd.results32, go_sem]) rfl ⟨_, by rw [HN2.out], by rw [HN2.out]; exact Kd.V_nil _ _ _ _ _, ?_⟩
      exact (HB7.out.trans (HFR.out.below HB7.out.size (fun k hk e => by have h1 := HO.out.o0; have h2 := HXW.out; have h3 := HF0S.out; omega))).trans (hf8.below (Nat.le_trans HB7.out.size HFR.out.size) (fun _ _ h => h))
    ·have hfb : (decide (lo' ≤ o) && decide (o ≤ hi')) = false := by simpa using hfine
     rw [hfb] at HFI
     have HCO := Lib.hid (fun W hs => HC.out o m W hm0 hm1 (by omega) (by omega) hs)
     have HTL := Lib.hid (fun h => strk_tool HSO.out (lo := lo') (hi := hi') (way := 0) (off := o) hm0 h)
     have hbr : Below w.heap.size w wr := HB7.out.trans (HFR.out.below HB7.out.size (fun k hk e => by have h1 := HO.out.o0; have h2 := HXW.out; have h3 := HF0S.out; omega))
     have HBR := Lib.hid hbr
     have HPD := Lib.hid (show ∀ d, playTo l0 lo' hi' lm (d + 1) told o m = if (strk l0 lo' hi' 0 o m).1 < 0 then ([], 0, 32) else if isIn (lm.getD told.length 0) (l0.getD (strk l0 lo' hi' 0 o m).1.toNat z57).f0.f0 (l0.getD (strk l0 lo' hi' 0 o m).1.toNat z57).f0.f1 = true then playTo l0 lo' hi' lm d (told ++ [(strk l0 lo' hi' 0 o m).1]) (o + lm.getD told.length 0) (m - (l0.getD (strk l0 lo' hi' 0 o m).1.toNat z57).f1) else ([], 0, 32) from fun d => by
      conv => lhs; unfold playTo
      rw [if_neg hfine])
     have HP0 := Lib.hid (show playTo l0 lo' hi' lm 0 told o m = ([], 0, 32) from by unfold playTo; rw [if_neg hfine])
     clear hbr
     generalize strk l0 lo' hi' 0 o m = TF at *
     obtain ⟨T, T2⟩ := TF
     dsimp only at HCO HTL HPD
     by_cases hl : told.length = lm.length
     ·obtain rfl : gk = 0 := by omega
      have hlI : (told.length : Int) = lm.length := by omega
      have HN2 := Lib.hid (HN.out.trans (HPL.out.trans HP0.out))
      go_wp2_with (first | (go_at_call 65; refine HFI.out.mono ?_; rintro e W8 ⟨rfl, hf8⟩; (have HX8 := Lib.hid (HXR.out.fr0 hf8)); (have HG8 := Lib.hid (HGR.out.fr0 hf8)); (have xx0 := HX8.out.at_ 0 rfl); (have xx1 := HX8.out.at_ 1 rfl); (have tt0 := HG8.out.at_ 0 rfl); (have tt1 := HG8.out.at_ 1 rfl); (have tt2 := HG8.out.at_ 2 rfl); (have tt3 := HG8.out.at_ 3 rfl); (have tt4 := HG8.out.at_ 4 rfl); (have tt5 := HG8.out.at_ 5 rfl)) | (go_at_call 53; refine (HCO.out W8 (HSR.out.step0 hf8)).mono ?_; rintro e W9 ⟨rfl, hf9, hS9⟩))
      refine bodyPost_ret (v := .tuple #[.slice none 0 0, .int .i64 0, .int .i64 32]) (by simp [results, Tryd.results32, go_sem]) rfl ⟨_, by rw [HN2.out], by rw [HN2.out]; exact Kd.V_nil _ _ _ _ _, ?_⟩
      exact (HBR.out.trans (hf8.below HBR.out.size (fun _ _ h => h))).trans (hf9.below (Nat.le_trans HBR.out.size hf8.size) (fun k hk e => by have h1 := HO.out.o0; have h3 := HF0S.out; have e' : k = m0 := e; omega))
     ·obtain ⟨d, rfl⟩ : ∃ d, gk = d + 1 := ⟨gk - 1, by omega⟩
      have hlI : ¬ ((told.length : Int) = lm.length) := by omega
      have hlJ : ((told.length : Int) == lm.length) = false := by simpa using hlI
      have HPE := Lib.hid (HPD.out d)
      clear HPD
      by_cases hT : T < 0
      ·have HN2 := Lib.hid (HN.out.trans (HPL.out.trans (HPE.out.trans (if_pos hT))))
       go_wp2_with (first | (go_at_call 65; refine HFI.out.mono ?_; rintro e W8 ⟨rfl, hf8⟩; (have HX8 := Lib.hid (HXR.out.fr0 hf8)); (have HG8 := Lib.hid (HGR.out.fr0 hf8)); (have xx0 := HX8.out.at_ 0 rfl); (have xx1 := HX8.out.at_ 1 rfl); (have tt0 := HG8.out.at_ 0 rfl); (have tt1 := HG8.out.at_ 1 rfl); (have tt2 := HG8.out.at_ 2 rfl); (have tt3 := HG8.out.at_ 3 rfl); (have tt4 := HG8.out.at_ 4 rfl); (have tt5 := HG8.out.at_ 5 rfl)) | (go_at_call 53; refine (HCO.out W8 (HSR.out.step0 hf8)).mono ?_; rintro e W9 ⟨rfl, hf9, hS9⟩))
       refine bodyPost_ret (v := .tuple #[.slice none 0 0, .int .i64 0, .int .i64 32]) (by simp [results, Tryd.results32, go_sem]) rfl ⟨_, by rw [HN2.out], by rw [HN2.out]; exact Kd.V_nil _ _ _ _ _, ?_⟩
       exact (HBR.out.trans (hf8.below HBR.out.size (fun _ _ h => h))).trans (hf9.below (Nat.le_trans HBR.out.size hf8.size) (fun k hk e => by have h1 := HO.out.o0; have h3 := HF0S.out; have e' : k = m0 := e; omega))
      ·obtain ⟨tn, rfl⟩ : ∃ tn : Nat, T = tn := ⟨T.toNat, by omega⟩
       obtain ⟨htn, hcost, hoo0, hoo1⟩ := HTL.out (by omega)
       simp only [Int.toNat_natCast] at htn hcost
       have hlt : told.length < lm.length := by omega
       have hltI : (told.length : Int) < lm.length := by omega
       have htnI : (tn : Int) < l0.length := by omega
       have hmove := HSO.out.move tn htn
       have hcs := HSO.out.cost tn htn
       have hpe := HPE.out
       rw [if_neg (by omega)] at hpe
       simp only [Int.toNat_natCast] at hpe
       have HTR := Lib.hid (fun (W : World) (hs : Sop (Cfg.of W0 A0 c0 l0 lo' hi' (.slice (some ad) l3.length c3) m0 m1) W) => k57_at (Kd.C_below HBW.out.r0 hs.base) tn htn)
       obtain ⟨MV, hMV⟩ : ∃ MV, lm.getD told.length 0 = MV := ⟨_, rfl⟩
       have HMV := Lib.hid hMV
       rw [hMV] at hpe
       clear hMV HPE
       generalize l0.getD tn z57 = tl at *
       obtain ⟨⟨tlo, thi⟩, tc⟩ := tl
       dsimp only at hmove hcs hcost hpe HTR
       have HPE := Lib.hid hpe
       clear hpe
       by_cases hin : isIn MV tlo thi = true
       ·have hin' := isIn_iff.1 hin
        have HN2 := Lib.hid (HPL.out.trans (HPE.out.trans (if_pos hin)))
        go_wp2_with (first | (go_at_call 65; refine HFI.out.mono ?_; rintro e W8 ⟨rfl, hf8⟩; (have HX8 := Lib.hid (HXR.out.fr0 hf8)); (have HG8 := Lib.hid (HGR.out.fr0 hf8)); (have xx0 := HX8.out.at_ 0 rfl); (have xx1 := HX8.out.at_ 1 rfl); (have tt0 := HG8.out.at_ 0 rfl); (have tt1 := HG8.out.at_ 1 rfl); (have tt2 := HG8.out.at_ 2 rfl); (have tt3 := HG8.out.at_ 3 rfl); (have tt4 := HG8.out.at_ 4 rfl); (have tt5 := HG8.out.at_ 5 rfl)) | (go_at_call 53; refine (HCO.out W8 (HSR.out.step0 hf8)).mono ?_; rintro e W9 ⟨rfl, hf9, hS9⟩; (have hb9 : Below w.heap.size w W9 := (HBR.out.trans (hf8.below HBR.out.size (fun _ _ h => h))).trans (hf9.below (Nat.le_trans HBR.out.size hf8.size) (fun k hk e => by have h1 := HO.out.o0; have h3 := HF0S.out; have e' : k = m0 := e; omega))); (obtain ⟨adm, eadm, hmv⟩ := Kd.at_int (Kd.C_below HM7.out hb9) (told.length : Int) (by omega) hltI); cases eadm; (have hmv' : W9.cell? (adm.add told.length) = some (.int .i64 MV) := by rw [← HMV.out]; exact hmv); clear hmv; (obtain ⟨adt, eadt, q0, q1, q2⟩ := HTR.out W9 hS9); cases eadt; (have HX9 := Lib.hid (HX8.out.fr hf9 HXM.out)); (have HG9 := Lib.hid (HG8.out.fr hf9 HN0.out)); (have gt0 := HG9.out.at_ 0 rfl); (have HB9 := Lib.hid hb9); (have HS9 := Lib.hid hS9); (have HQ2 := Lib.hid q2); clear hb9 hS9 xx0 xx1 tt0 tt1 tt2 tt3 tt4 tt5))
        refine start_ (n := 19) (S := fun w' => w'.cell? ⟨g9, 0, none⟩ = some (.slice (some adt) l0.length c0) ∧ w'.cell? (adt.add (tn * 3)) = some (.int .i64 tlo) ∧ w'.cell? ⟨(adt.add (tn * 3)).block, (adt.add (tn * 3)).off + 1, none⟩ = some (.int .i64 thi)) (ds := []) (.replicate 19 false) (by kernel_rfl) rfl rfl ⟨gt0, q0, q1⟩ (fun hHeld => ?_)
        refine pu 0 83 (bt 19 1) (k := ?_)
        refine pu 1 84 (bt 19 3) (k := ?_)
        refine pu 2 85 (bt 19 7) (k := ?_)
        refine pu 4 87 (bt 19 23) (k := ?_)
        refine pu 9 92 (bt 19 535) (k := ?_)
        refine pu 10 93 (bt 19 1559) (k := ?_)
        refine pu 12 95 (bt 19 5655) (k := ?_)
        refine tk3 3 86 (bt 19 5663) hHeld (k := ?_)
        refine pu 5 88 (bt 19 5695) (k := ?_)
        refine pu 6 89 (bt 19 5759) (k := ?_)
        refine pu 7 90 (bt 19 5887) (k := ?_)
        refine tk3 8 91 (bt 19 6143) hHeld (k := ?_)
        refine tk3 11 94 (bt 19 8191) hHeld (k := ?_)
        refine pu 13 96 (bt 19 16383) (k := ?_)
        refine pu 14 97 (bt 19 32767) (k := ?_)
        refine pu 15 98 (bt 19 65535) (k := ?_)
        refine tk3 16 99 (bt 19 131071) hHeld (k := ?_)
        refine oN 17 100 (bt 19 262143) (h := fun K hK => ?_)
        refine goes_ Tryd.func58 (by kernel_rfl) rfl #[.int .i64 MV, .int .i64 tlo, .int .i64 thi] (by rfl) rfl rfl TN ?_
        with_reducible refine (lies_fr MV tlo thi _).mono ?_
        rintro e w10 ⟨rfl, hf10⟩
        refine ⟨_, rfl, ?_⟩
        refine hK.out _ _ ⟨(Fr.cell0 (a := W9.drew) hf10 gt0), (Fr.cell0 (a := W9.drew) hf10 q0), (Fr.cell0 (a := W9.drew) hf10 q1)⟩ (fun hHeld => ?_)
        clear hK K
        refine norm_ (a' := ?_) ?_ ?_
        rotate_left
        ·show Act.put _ (some 100) _ = _
         simp only [Act.put, lA, lZ, lS, i64_w, i32_w]
         rfl
        refine pu 18 101 (bt 19 524287) (k := ?_)
        refine done_ (by kernel_rfl) ?_
        have HS10 := Lib.hid (HS9.out.step0 (Fr0.trans (Fr.drew (Fr.refl _ _)) hf10))
        have HF10 := Lib.hid ((((HFR.out.step0 hf8).step hf9 (fun k _ e => .inl e)).drew).step0 hf10)
        have HX10 := Lib.hid (HX9.out.drew.fr0 hf10)
        have HG10 := Lib.hid (HG9.out.drew.fr0 hf10)
        have HR10 := Lib.hid (R_fr HR.out (S := fun k => k = m0) (((Fr.of0 hf8).step hf9 (fun k _ e => e)).drew.step0 hf10) (fun g hg e => by have := HLM.out; omega))
        have hsz10 : W7.heap.size ≤ w10.heap.size := HF10.out.size
        have HLX := Lib.hid HX7.out.lt
        have HLG := Lib.hid HG7.out.lt
        clear q0 q1 q2 gt0 hmv'
        go_wp2_with (first | ((with_reducible refine gate_builtin (b := .append) (xs := #[.tmp 102, .tmp 104]) rfl ?_); at_builtin; refine Kd.R_append (Kd.int .i64) (w0 := w10) W7.heap.size rfl (.tmp 102) (.tmp 104) 38 3 (.int .i64 0) 8 rfl Tryd.underlying38 info3 rfl (by decide) (by omega) (.slice A' told.length c') told ((tn : Int)) [.int .i64 (tn : Int)] (fun k => W7.heap.size ≤ k) (fun _ => False) rfl rfl ?aP (fun _ hk => hk.elim) ?aF ?aO ?aB ?aS ?aL ?_; (case aP => exact rfl); (case aB => exact Below.refl _ _); (case aF => exact (fun k hk => Nat.le_trans hsz10 hk)); (case aO => exact HR10.out); (case aS => exact hsz10); (case aL => omega); intro v104 w6 ho hb hg hat; (have HO6 := Lib.hid ho); (have HB6 := Lib.hid hb); (have HX6 := Lib.hid (HX10.out.below hb HLX.out)); (have HG6 := Lib.hid (HG10.out.below hb HLG.out)); clear ho hb hg hat))
        have HS6' := Lib.hid (HS10.out.below HB6.out (Nat.le_trans HX0.out (Nat.le_of_lt HLX.out)) HLM.out HLM1.out (by have := HLM.out; omega))
        have xx0 := HX6.out.at_ 0 rfl
        have xx1 := HX6.out.at_ 1 rfl
        have zz0 := HX6.out.frz 0
        have zz1 := HX6.out.frz 1
        have gt0 := HG6.out.at_ 0 rfl
        obtain ⟨adt', eadt', _, _, q2'⟩ := HTR.out w6 HS6'.out
        cases eadt'
        refine start_ (n := 16) (S := fun w' => w'.cell? ⟨gx, 0, none⟩ = some (.int .i64 o) ∧ w'.cell? ⟨gx, 1, none⟩ = some (.int .i64 m) ∧ w'.cell? ⟨g9, 0, none⟩ = some (.slice (some adt) l0.length c0) ∧ w'.cell? ⟨(adt.add (tn * 3)).block, (adt.add (tn * 3)).off + 2, none⟩ = some (.int .i64 tc)) (ds := [15]) (.replicate 16 false) (by kernel_rfl) rfl rfl ⟨xx0, xx1, gt0, q2'⟩ (fun hHeld => ?_)
        refine pu 0 106 (bt 16 1) (k := ?_)
        refine pu 2 108 (bt 16 5) (k := ?_)
        refine pu 4 110 (bt 16 21) (k := ?_)
        refine pu 6 112 (bt 16 85) (k := ?_)
        refine pu 7 113 (bt 16 213) (k := ?_)
        refine pu 9 115 (bt 16 725) (k := ?_)
        refine tk4 1 107 (bt 16 727) hHeld (k := ?_)
        refine pu 3 109 (bt 16 735) (k := ?_)
        refine tk4 5 111 (bt 16 767) hHeld (k := ?_)
        refine tk4 8 114 (bt 16 1023) hHeld (k := ?_)
        refine pu 10 116 (bt 16 2047) (k := ?_)
        refine pu 11 117 (bt 16 4095) (k := ?_)
        refine tk4 12 118 (bt 16 8191) hHeld (k := ?_)
        refine pu 13 119 (bt 16 16383) (k := ?_)
        refine pu 14 120 (bt 16 32767) (k := ?_)
        refine last_ (i := 15) (N := none) (bt 16 65535) rfl rfl (by kernel_rfl) (by decide) (fun K hK => ?_)
        refine skip_ (w1 := ?_) (by rfl) rfl ?_ ?_
        rotate_left
        ·go_simp
         rfl
        refine hK.out _ _ ?_
        clear hK K
        refine done_ (by kernel_rfl) ?_
        have hfset : Fr (fun k => k = gx) w6 ((w6.drew.setCell ⟨gx, 0, none⟩ (.int .i64 (wrap64 (o + MV)))).setCell ⟨gx, 1, none⟩ (.int .i64 (wrap64 (m - tc)))) := Fr.setCell (S := fun k => k = gx) (Fr.setCell (S := fun k => k = gx) (Fr.refl _ _).drew (.inl rfl) _) (.inl rfl) _
        have HFS := Lib.hid hfset
        have HW1 := Lib.hid (show wrap64 (o + MV) = o + MV from by unfold wrap64; omega)
        have HW2 := Lib.hid (show wrap64 (m - tc) = m - tc from by unfold wrap64; omega)
        have HSET := Lib.hid ((HX6.out.drew.set_ 0 (.int .i64 (wrap64 (o + MV)))).set_ 1 (.int .i64 (wrap64 (m - tc))))
        clear hfset xx0 xx1 zz0 zz1 gt0 q2'
        go_wp2
        go_roundg d
        case measure => omega
        case rel =>
         have hset := HSET.out
         simp at hset
         have hw1 := HW1.out
         have hw2 := HW2.out
         refine ⟨told ++ [(tn : Int)], wrap64 (o + MV), wrap64 (m - tc), by simp; omega, R_fr HO6.out HFS.out (fun g hg e => by have := HLX.out; omega), hset, HG6.out.fr HFS.out (fun e => HXG.out e.symm), ?_, HS6'.out.set HFS.out HX0.out HW0P.out HXM.out HXM1.out, by omega, by omega, by omega, by omega, by simp; omega, ⟨?_⟩⟩
         ·exact (HF10.out.stepB HB6.out).step HFS.out (fun k _ e => .inr e)
         ·rw [hw1, hw2]
          exact HN2.out
       ·have HN2 := Lib.hid (HN.out.trans (HPL.out.trans (HPE.out.trans (if_neg hin))))
        rw [Bool.not_eq_true] at hin
        go_wp2_with (first | (go_at_call 65; refine HFI.out.mono ?_; rintro e W8 ⟨rfl, hf8⟩; (have HX8 := Lib.hid (HXR.out.fr0 hf8)); (have HG8 := Lib.hid (HGR.out.fr0 hf8)); (have xx0 := HX8.out.at_ 0 rfl); (have xx1 := HX8.out.at_ 1 rfl); (have tt0 := HG8.out.at_ 0 rfl); (have tt1 := HG8.out.at_ 1 rfl); (have tt2 := HG8.out.at_ 2 rfl); (have tt3 := HG8.out.at_ 3 rfl); (have tt4 := HG8.out.at_ 4 rfl); (have tt5 := HG8.out.at_ 5 rfl)) | (go_at_call 53; refine (HCO.out W8 (HSR.out.step0 hf8)).mono ?_; rintro e W9 ⟨rfl, hf9, hS9⟩; (have hb9 : Below w.heap.size w W9 := (HBR.out.trans (hf8.below HBR.out.size (fun _ _ h => h))).trans (hf9.below (Nat.le_trans HBR.out.size hf8.size) (fun k hk e => by have h1 := HO.out.o0; have h3 := HF0S.out; have e' : k = m0 := e; omega))); (obtain ⟨adm, eadm, hmv⟩ := Kd.at_int (Kd.C_below HM7.out hb9) (told.length : Int) (by omega) hltI); cases eadm; (have hmv' : W9.cell? (adm.add told.length) = some (.int .i64 MV) := by rw [← HMV.out]; exact hmv); clear hmv; (obtain ⟨adt, eadt, q0, q1, q2⟩ := HTR.out W9 hS9); cases eadt; (have HX9 := Lib.hid (HX8.out.fr hf9 HXM.out)); (have HG9 := Lib.hid (HG8.out.fr hf9 HN0.out)); (have gt0 := HG9.out.at_ 0 rfl); (have HB9 := Lib.hid hb9); (have HS9 := Lib.hid hS9); (have HQ2 := Lib.hid q2); clear hb9 hS9 xx0 xx1 tt0 tt1 tt2 tt3 tt4 tt5))
        refine start_ (n := 19) (S := fun w' => w'.cell? ⟨g9, 0, none⟩ = some (.slice (some adt) l0.length c0) ∧ w'.cell? (adt.add (tn * 3)) = some (.int .i64 tlo) ∧ w'.cell? ⟨(adt.add (tn * 3)).block, (adt.add (tn * 3)).off + 1, none⟩ = some (.int .i64 thi)) (ds := []) (.replicate 19 false) (by kernel_rfl) rfl rfl ⟨gt0, q0, q1⟩ (fun hHeld => ?_)
        refine pu 0 83 (bt 19 1) (k := ?_)
        refine pu 1 84 (bt 19 3) (k := ?_)
        refine pu 2 85 (bt 19 7) (k := ?_)
        refine pu 4 87 (bt 19 23) (k := ?_)
        refine pu 9 92 (bt 19 535) (k := ?_)
        refine pu 10 93 (bt 19 1559) (k := ?_)
        refine pu 12 95 (bt 19 5655) (k := ?_)
        refine tk3 3 86 (bt 19 5663) hHeld (k := ?_)
        refine pu 5 88 (bt 19 5695) (k := ?_)
        refine pu 6 89 (bt 19 5759) (k := ?_)
        refine pu 7 90 (bt 19 5887) (k := ?_)
        refine tk3 8 91 (bt 19 6143) hHeld (k := ?_)
        refine tk3 11 94 (bt 19 8191) hHeld (k := ?_)
        refine pu 13 96 (bt 19 16383) (k := ?_)
        refine pu 14 97 (bt 19 32767) (k := ?_)
        refine pu 15 98 (bt 19 65535) (k := ?_)
        refine tk3 16 99 (bt 19 131071) hHeld (k := ?_)
        refine oN 17 100 (bt 19 262143) (h := fun K hK => ?_)
        refine goes_ Tryd.func58 (by kernel_rfl) rfl #[.int .i64 MV, .int .i64 tlo, .int .i64 thi] (by rfl) rfl rfl TN ?_
        with_reducible refine (lies_fr MV tlo thi _).mono ?_
        rintro e w10 ⟨rfl, hf10⟩
        refine ⟨_, rfl, ?_⟩
        refine hK.out _ _ ⟨(Fr.cell0 (a := W9.drew) hf10 gt0), (Fr.cell0 (a := W9.drew) hf10 q0), (Fr.cell0 (a := W9.drew) hf10 q1)⟩ (fun hHeld => ?_)
        clear hK K
        refine norm_ (a' := ?_) ?_ ?_
        rotate_left
        ·show Act.put _ (some 100) _ = _
         simp only [Act.put, lA, lZ, lS, i64_w, i32_w]
         rfl
        refine pu 18 101 (bt 19 524287) (k := ?_)
        refine done_ (by kernel_rfl) ?_
        go_wp2
        refine bodyPost_ret (v := .tuple #[.slice none 0 0, .int .i64 0, .int .i64 32]) (by simp [results, Tryd.results32, go_sem]) rfl ⟨_, by rw [HN2.out], by rw [HN2.out]; exact Kd.V_nil _ _ _ _ _, ?_⟩
        exact HB9.out.trans ((Fr.trans (Fr.drew (Fr.refl _ W9)) hf10 : Fr0 W9 w10).below HB9.out.size (fun _ _ h => h))
 ·have hN : playG l0 lo hi l3 off klo khi km lm = ([], 0, openV l0 lo hi l3 (isIn off klo khi)) := by unfold playG; rw [if_pos hz]
  have HN := Lib.hid hN
  clear hN HP
  go_wp2
  refine bodyPost_ret (v := .tuple #[.slice none 0 0, .int .i64 0, .int .i64 (openV l0 lo hi l3 (isIn off klo khi))]) (by simp [results, Tryd.results32, go_sem]) rfl ⟨_, by rw [HN.out], by rw [HN.out]; exact Kd.V_nil _ _ _ _ _, ?_⟩
  exact (hf0.trans hf6).below (Nat.le_of_eq (by first | rfl | exact hg0.symm)) (fun _ _ h => h)
end Go.Proofs.YtfmpbkolpjlfbaaDoor.R
namespace Go.Proofs.YtfmpbkolpjlfbaaDoor.R
open Go.RowKit Go.Shelf Go.Proofs.YtfmpbkolpjlfbaaDoorW.PrintWords Go.Proofs.YtfmpbkolpjlfbaaDoorW.PrintLast Go.Proofs.YtfmpbkolpjlfbaaDoor.PRaspKeys Go.Proofs.YtfmpbkolpjlfbaaDoor.X Go.Proofs.YtfmpbkolpjlfbaaDoor.M
attribute [local go_sem] Oper.semAt_some
set_option maxHeartbeats 4000000 in
set_option maxRecDepth 100000 in
theorem play_out (A0 : Option Addr) (c0 : Nat) (l0 : List S57) (lo hi : Int) (A3 : Option Addr) (c3 : Nat) (l3 : List S69) (ki off : Int) (Am : Option Addr) (cm : Nat) (lm : List Int) (w : World) (hB : Book w A0 c0 l0 A3 c3 l3) (hout : isIn ki 0 ((l3.length : Int) - 1) = false) :
  Calls Tryd.prog 32 #[bookV A0 c0 l0 lo hi A3 c3 l3, .int .i64 ki, .int .i64 off, .slice Am lm.length cm] w fun e w' =>
   ∃ v0_ : Value, e = .returned (.tuple #[v0_, .int .i64 0, .int .i64 (openV l0 lo hi l3 false)]) ∧ Kd.V (Kd.int .i64) 3 w' w.heap.size (fun k_ => (w.heap.size ≤ k_)) v0_ [] ∧ Below w.heap.size w w' := by
 have HB := Lib.hid hB
 clear hB
 have hw64 : wrap64 ((l3.length : Int) - 1) = (l3.length : Int) - 1 := by have := HB.out.r3.2.1; unfold wrap64; omega
 have hlies : ∀ W : World, Calls Tryd.prog 58 #[.int .i64 ki, .int .i64 0, .int .i64 (wrap64 ((l3.length : Int) - 1))] W fun e w' => e = .returned (.bool false) ∧ Fr0 W w' := fun W => by
  rw [hw64, ← hout]
  exact lies_fr _ _ _ W
 have HLI := Lib.hid hlies
 clear hw64 hlies
 go_enter Tryd.func32, Tryd.ntmps32
 go_wp2_with fail
 have hBW : Book (w.alloc (.cells (bookC A0 c0 l0 lo hi A3 c3 l3) 27)) A0 c0 l0 A3 c3 l3 := HB.out.fr ((Fr.refl _ _).alloc _)
 have B0 := Bx.new w 27 (bookC A0 c0 l0 lo hi A3 c3 l3)
 have hf0 : Fr0 w (w.alloc (.cells (bookC A0 c0 l0 lo hi A3 c3 l3) 27)) := (Fr.refl _ _).alloc _
 generalize hg0 : w.heap.size = g at *
 generalize hW0 : w.alloc (.cells (bookC A0 c0 l0 lo hi A3 c3 l3) 27) = W0 at *
 have y0 := B0.at_ 0 rfl
 have y1 := B0.at_ 1 rfl
 have y2 := B0.at_ 2 rfl
 have y3 := B0.at_ 3 rfl
 have HB0 := Lib.hid B0
 have HBW := Lib.hid hBW
 clear hBW B0
 have H0 := Lib.hid (Fr.drew (Fr.refl (fun _ => False) W0))
 refine start_ (n := 32) (S := fun w' => w'.cell? ⟨g, 0, none⟩ = some (.slice A0 l0.length c0) ∧ w'.cell? ⟨g, 1, none⟩ = some (.int .i64 lo) ∧ w'.cell? ⟨g, 2, none⟩ = some (.int .i64 hi) ∧ w'.cell? ⟨g, 3, none⟩ = some (.slice A3 l3.length c3)) (ds := [30]) (.replicate 32 false) (by kernel_rfl) rfl rfl ⟨y0, y1, y2, y3⟩ (fun hHeld => ?_)
 refine pu 1 17 (bt 32 2) (k := ?_)
 refine pu 2 18 (bt 32 6) (k := ?_)
 refine tk4 0 16 (bt 32 7) hHeld (k := ?_)
 refine tk4 3 19 (bt 32 15) hHeld (k := ?_)
 refine pu 4 20 (bt 32 31) (k := ?_)
 refine pu 5 21 (bt 32 63) (k := ?_)
 refine join_ (σ := Sg) 2 (bt 32 1073741823) (fun s => [(22, .bool false), (23, .bool false), (24, undef), (25, undef), (26, undef), (27, undef), (28, undef), (29, undef), (30, undef), (31, undef), (32, undef), (33, undef), (34, undef), (35, undef), (36, undef), (37, undef), (38, undef), (39, undef), (40, .bool false), (41, .tuple #[shopV s.2.1 s.2.2.1 s.2.2.2.1 s.2.2.2.2.1 s.2.2.2.2.2.1 s.2.2.2.2.2.2, .int .i64 (openV l0 lo hi l3 (false))]), (15, .tuple #[shopV s.2.1 s.2.2.1 s.2.2.2.1 s.2.2.2.2.1 s.2.2.2.2.2.1 s.2.2.2.2.2.2, .int .i64 (openV l0 lo hi l3 (false))]), (42, shopV s.2.1 s.2.2.1 s.2.2.2.1 s.2.2.2.2.1 s.2.2.2.2.2.1 s.2.2.2.2.2.2), (43, .int .i64 (openV l0 lo hi l3 (false))), (11, .pointer (some ⟨s.1, 0, none⟩))]) (fun s w' => ((w'.cell? ⟨g, 0, none⟩ = some (.slice A0 l0.length c0)) ∧ (w'.cell? ⟨g, 1, none⟩ = some (.int .i64 lo)) ∧ (w'.cell? ⟨g, 2, none⟩ = some (.int .i64 hi)) ∧ (w'.cell? ⟨g, 3, none⟩ = some (.slice A3 l3.length c3))) ∧ OpAt 0 W0 A0 c0 l0 lo hi A3 c3 l3 (false) s w') ?_ ?_
 rotate_left
 ·intro hCont
  refine two_ (i := 6) (j := 29) (Ni := some 22) (Nj := some 11) (bt 32 127) (bt 32 536870975) rfl rfl rfl rfl (by kernel_rfl) (by decide) (by decide) (fun K hK => ?_) (fun K hK => ?_)
  ·skip
   refine goes_ Tryd.func58 (by kernel_rfl) rfl #[.int .i64 ki, .int .i64 0, .int .i64 (wrap64 ((l3.length : Int) - 1))] (by rfl) rfl rfl TN ?_
   with_reducible refine (HLI.out _).mono ?_
   rintro e w3_0 ⟨rfl, hf0⟩
   refine ⟨_, rfl, ?_⟩
   have H1 := Lib.hid (Fr0.trans H0.out hf0)
   refine hK.out _ _ ⟨(H1.out.cell0 y0), (H1.out.cell0 y1), (H1.out.cell0 y2), (H1.out.cell0 y3)⟩ (fun hHeld => ?_)
   clear hK K
   refine norm_ (a' := ?_) ?_ ?_
   rotate_left
   ·show Act.put _ (some 22) _ = _
    simp only [Act.put, lA, lZ, lS, i64_w, i32_w]
    rfl
   refine pu 7 23 (bt 32 255) (k := ?_)
   refine pv 8 24 (bt 32 511) (k := ?_)
   refine pv 9 25 (bt 32 1023) (k := ?_)
   refine pv 10 26 (bt 32 2047) (k := ?_)
   refine pv 11 27 (bt 32 4095) (k := ?_)
   refine pv 12 28 (bt 32 8191) (k := ?_)
   refine pv 13 29 (bt 32 16383) (k := ?_)
   refine pv 14 30 (bt 32 32767) (k := ?_)
   refine pv 15 31 (bt 32 65535) (k := ?_)
   refine pv 16 32 (bt 32 131071) (k := ?_)
   refine pv 17 33 (bt 32 262143) (k := ?_)
   refine pv 18 34 (bt 32 524287) (k := ?_)
   refine pv 19 35 (bt 32 1048575) (k := ?_)
   refine pv 20 36 (bt 32 2097151) (k := ?_)
   refine pv 21 37 (bt 32 4194303) (k := ?_)
   refine pv 22 38 (bt 32 8388607) (k := ?_)
   refine pv 23 39 (bt 32 16777215) (k := ?_)
   refine pu 24 40 (bt 32 33554431) (k := ?_)
   refine two_ (i := 25) (j := 29) (Ni := some 41) (Nj := some 11) (bt 32 67108863) (bt 32 570425343) rfl rfl rfl rfl (by kernel_rfl) (by decide) (by decide) (fun K hK => ?_) (fun K hK => ?_)
   ·skip
    refine goes_ Tryd.func51 (by kernel_rfl) rfl #[bookV A0 c0 l0 lo hi A3 c3 l3, .bool (false)] (by rfl) rfl rfl TN ?_
    with_reducible refine (open_any 0 (.inl rfl) A0 c0 l0 lo hi A3 c3 l3 (false) _ (HBW.out.fr H1.out)).mono ?_
    rintro e w3_1 ⟨tv, lo', hi', kv', o0, o1, rfl, htv, hkv, hf1, hop⟩
    refine ⟨_, rfl, ?_⟩
    have H2 := Lib.hid (Fr0.trans H1.out hf1)
    have HOP : Hop _ := ⟨OpAtP.mk' H1.out HBW.out hop⟩
    refine hK.out _ _ ⟨(H2.out.cell0 y0), (H2.out.cell0 y1), (H2.out.cell0 y2), (H2.out.cell0 y3)⟩ (fun hHeld => ?_)
    clear hK K
    refine norm_ (a' := ?_) ?_ ?_
    rotate_left
    ·show Act.put _ (some 41) _ = _
     simp only [Act.put, lA, lZ, lS, i64_w, i32_w]
     rfl
    refine pu 26 15 (bt 32 134217727) (k := ?_)
    refine pu 27 42 (bt 32 268435455) (k := ?_)
    refine pu 28 43 (bt 32 536870911) (k := ?_)
    refine oN 29 11 (bt 32 1073741823) (h := fun K hK => ?_)
    refine value_ (w1 := ?_) (v := ?_) (by rfl) rfl ?_ ?_
    rotate_left 2
    ·go_simp
     constructor
     ·rfl
     ·rfl
    have H3 := Lib.hid (Fr0.trans H2.out (Fr.alloc (Fr.refl _ _) (.cells (shopC (.slice none 0 0) 0 0 (.slice none 0 0) none none) 78)))
    have HX := Lib.hid (Bx.new_at H2.out 78 (shopC (.slice none 0 0) 0 0 (.slice none 0 0) none none))
    have HLE := Lib.hid H2.out.size
    have HOP := HOP.imp (fun h => h.fr (Fr.alloc (Fr.refl _ _) (.cells (shopC (.slice none 0 0) 0 0 (.slice none 0 0) none none) 78)))
    refine hK.out _ _ ⟨(H3.out.cell0 y0), (H3.out.cell0 y1), (H3.out.cell0 y2), (H3.out.cell0 y3)⟩ (fun hHeld => ?_)
    clear hK K
    refine norm_ (a' := ?_) ?_ ?_
    rotate_left
    ·show Act.put _ (some 11) _ = _
     simp only [Act.put, lA, lZ, lS, i64_w, i32_w]
     rfl
    exact norm_ (by (simp only [putAll, Act.put, lA, lZ, lS]) <;> rfl) (hCont (⟨_, tv, lo', hi', kv', o0, o1⟩ : Sg) _ ⟨⟨H3.out.cell0 y0, H3.out.cell0 y1, H3.out.cell0 y2, H3.out.cell0 y3⟩, ⟨H3.out, HX.out, HLE.out, ⟨htv, hkv⟩, HOP.out⟩⟩)
   ·skip
    refine value_ (w1 := ?_) (v := ?_) (by rfl) rfl ?_ ?_
    rotate_left 2
    ·go_simp
     constructor
     ·rfl
     ·rfl
    have H2 := Lib.hid (Fr0.trans H1.out (Fr.alloc (Fr.refl _ _) (.cells (shopC (.slice none 0 0) 0 0 (.slice none 0 0) none none) 78)))
    have HX := Lib.hid (Bx.new_at H1.out 78 (shopC (.slice none 0 0) 0 0 (.slice none 0 0) none none))
    have HLE := Lib.hid H1.out.size
    refine hK.out _ _ ⟨(H2.out.cell0 y0), (H2.out.cell0 y1), (H2.out.cell0 y2), (H2.out.cell0 y3)⟩ (fun hHeld => ?_)
    clear hK K
    refine norm_ (a' := ?_) ?_ ?_
    rotate_left
    ·show Act.put _ (some 11) _ = _
     simp only [Act.put, lA, lZ, lS, i64_w, i32_w]
     rfl
    refine oN 25 41 (bt 32 603979775) (h := fun K hK => ?_)
    refine goes_ Tryd.func51 (by kernel_rfl) rfl #[bookV A0 c0 l0 lo hi A3 c3 l3, .bool (false)] (by rfl) rfl rfl TN ?_
    with_reducible refine (open_any 0 (.inl rfl) A0 c0 l0 lo hi A3 c3 l3 (false) _ (HBW.out.fr H2.out)).mono ?_
    rintro e w3_2 ⟨tv, lo', hi', kv', o0, o1, rfl, htv, hkv, hf2, hop⟩
    refine ⟨_, rfl, ?_⟩
    have H3 := Lib.hid (Fr0.trans H2.out hf2)
    have HX := Lib.hid (HX.out.fr0 hf2)
    have HOP : Hop _ := ⟨OpAtP.mk' H2.out HBW.out hop⟩
    refine hK.out _ _ ⟨(H3.out.cell0 y0), (H3.out.cell0 y1), (H3.out.cell0 y2), (H3.out.cell0 y3)⟩ (fun hHeld => ?_)
    clear hK K
    refine norm_ (a' := ?_) ?_ ?_
    rotate_left
    ·show Act.put _ (some 41) _ = _
     simp only [Act.put, lA, lZ, lS, i64_w, i32_w]
     rfl
    refine pu 26 15 (bt 32 671088639) (k := ?_)
    refine pu 27 42 (bt 32 805306367) (k := ?_)
    refine pu 28 43 (bt 32 1073741823) (k := ?_)
    exact norm_ (by (simp only [putAll, Act.put, lA, lZ, lS]) <;> rfl) (hCont (⟨_, tv, lo', hi', kv', o0, o1⟩ : Sg) _ ⟨⟨H3.out.cell0 y0, H3.out.cell0 y1, H3.out.cell0 y2, H3.out.cell0 y3⟩, ⟨H3.out, HX.out, HLE.out, ⟨htv, hkv⟩, HOP.out⟩⟩)
  ·skip
   refine value_ (w1 := ?_) (v := ?_) (by rfl) rfl ?_ ?_
   rotate_left 2
   ·go_simp
    constructor
    ·rfl
    ·rfl
   have H1 := Lib.hid (Fr0.trans H0.out (Fr.alloc (Fr.refl _ _) (.cells (shopC (.slice none 0 0) 0 0 (.slice none 0 0) none none) 78)))
   have HX := Lib.hid (Bx.new_at H0.out 78 (shopC (.slice none 0 0) 0 0 (.slice none 0 0) none none))
   have HLE := Lib.hid H0.out.size
   refine hK.out _ _ ⟨(H1.out.cell0 y0), (H1.out.cell0 y1), (H1.out.cell0 y2), (H1.out.cell0 y3)⟩ (fun hHeld => ?_)
   clear hK K
   refine norm_ (a' := ?_) ?_ ?_
   rotate_left
   ·show Act.put _ (some 11) _ = _
    simp only [Act.put, lA, lZ, lS, i64_w, i32_w]
    rfl
   refine oN 6 22 (bt 32 536871039) (h := fun K hK => ?_)
   refine goes_ Tryd.func58 (by kernel_rfl) rfl #[.int .i64 ki, .int .i64 0, .int .i64 (wrap64 ((l3.length : Int) - 1))] (by rfl) rfl rfl TN ?_
   with_reducible refine (HLI.out _).mono ?_
   rintro e w3_1 ⟨rfl, hf1⟩
   refine ⟨_, rfl, ?_⟩
   have H2 := Lib.hid (Fr0.trans H1.out hf1)
   have HX := Lib.hid (HX.out.fr0 hf1)
   refine hK.out _ _ ⟨(H2.out.cell0 y0), (H2.out.cell0 y1), (H2.out.cell0 y2), (H2.out.cell0 y3)⟩ (fun hHeld => ?_)
   clear hK K
   refine norm_ (a' := ?_) ?_ ?_
   rotate_left
   ·show Act.put _ (some 22) _ = _
    simp only [Act.put, lA, lZ, lS, i64_w, i32_w]
    rfl
   refine pu 7 23 (bt 32 536871167) (k := ?_)
   refine pv 8 24 (bt 32 536871423) (k := ?_)
   refine pv 9 25 (bt 32 536871935) (k := ?_)
   refine pv 10 26 (bt 32 536872959) (k := ?_)
   refine pv 11 27 (bt 32 536875007) (k := ?_)
   refine pv 12 28 (bt 32 536879103) (k := ?_)
   refine pv 13 29 (bt 32 536887295) (k := ?_)
   refine pv 14 30 (bt 32 536903679) (k := ?_)
   refine pv 15 31 (bt 32 536936447) (k := ?_)
   refine pv 16 32 (bt 32 537001983) (k := ?_)
   refine pv 17 33 (bt 32 537133055) (k := ?_)
   refine pv 18 34 (bt 32 537395199) (k := ?_)
   refine pv 19 35 (bt 32 537919487) (k := ?_)
   refine pv 20 36 (bt 32 538968063) (k := ?_)
   refine pv 21 37 (bt 32 541065215) (k := ?_)
   refine pv 22 38 (bt 32 545259519) (k := ?_)
   refine pv 23 39 (bt 32 553648127) (k := ?_)
   refine pu 24 40 (bt 32 570425343) (k := ?_)
   refine oN 25 41 (bt 32 603979775) (h := fun K hK => ?_)
   refine goes_ Tryd.func51 (by kernel_rfl) rfl #[bookV A0 c0 l0 lo hi A3 c3 l3, .bool (false)] (by rfl) rfl rfl TN ?_
   with_reducible refine (open_any 0 (.inl rfl) A0 c0 l0 lo hi A3 c3 l3 (false) _ (HBW.out.fr H2.out)).mono ?_
   rintro e w3_2 ⟨tv, lo', hi', kv', o0, o1, rfl, htv, hkv, hf2, hop⟩
   refine ⟨_, rfl, ?_⟩
   have H3 := Lib.hid (Fr0.trans H2.out hf2)
   have HX := Lib.hid (HX.out.fr0 hf2)
   have HOP : Hop _ := ⟨OpAtP.mk' H2.out HBW.out hop⟩
   refine hK.out _ _ ⟨(H3.out.cell0 y0), (H3.out.cell0 y1), (H3.out.cell0 y2), (H3.out.cell0 y3)⟩ (fun hHeld => ?_)
   clear hK K
   refine norm_ (a' := ?_) ?_ ?_
   rotate_left
   ·show Act.put _ (some 41) _ = _
    simp only [Act.put, lA, lZ, lS, i64_w, i32_w]
    rfl
   refine pu 26 15 (bt 32 671088639) (k := ?_)
   refine pu 27 42 (bt 32 805306367) (k := ?_)
   refine pu 28 43 (bt 32 1073741823) (k := ?_)
   exact norm_ (by (simp only [putAll, Act.put, lA, lZ, lS]) <;> rfl) (hCont (⟨_, tv, lo', hi', kv', o0, o1⟩ : Sg) _ ⟨⟨H3.out.cell0 y0, H3.out.cell0 y1, H3.out.cell0 y2, H3.out.cell0 y3⟩, ⟨H3.out, HX.out, HLE.out, ⟨htv, hkv⟩, HOP.out⟩⟩)
 rintro ⟨g9, tv, lo', hi', kv', o0, o1⟩ w5 ⟨⟨s0, s1, s2, s3⟩, HP⟩
 have hHeld : (w5.cell? ⟨g, 0, none⟩ = some (.slice A0 l0.length c0)) ∧ (w5.cell? ⟨g, 1, none⟩ = some (.int .i64 lo)) ∧ (w5.cell? ⟨g, 2, none⟩ = some (.int .i64 hi)) ∧ (w5.cell? ⟨g, 3, none⟩ = some (.slice A3 l3.length c3)) := ⟨s0, s1, s2, s3⟩
 have hone := HP.one
 dsimp only at hone
 obtain ⟨⟨Ax, nx, cx, rfl⟩, ⟨Ay, ny, cy, rfl⟩⟩ := hone
 have bz0 := HP.bx.at_ 0 rfl
 have bz1 := HP.bx.at_ 1 rfl
 have bz2 := HP.bx.at_ 2 rfl
 have bz3 := HP.bx.at_ 3 rfl
 have bz4 := HP.bx.at_ 4 rfl
 have bz5 := HP.bx.at_ 5 rfl
 have fz0 := HP.bx.frz 0
 have fz1 := HP.bx.frz 1
 have fz2 := HP.bx.frz 2
 have fz3 := HP.bx.frz 3
 have fz4 := HP.bx.frz 4
 have fz5 := HP.bx.frz 5
 dsimp only at bz0 fz0 bz1 fz1 bz2 fz2 bz3 fz3 bz4 fz4 bz5 fz5
 refine norm_ (a' := ?_) ?_ ?_
 rotate_left
 ·simp only [putAll, Act.put, lA, lZ, lS]
  rfl
 refine last_ (i := 30) (N := none) (bt 32 2147483647) rfl rfl (by kernel_rfl) (by decide) (fun K hK => ?_)
 refine skip_ (w1 := ?_) (by rfl) rfl ?_ ?_
 rotate_left
 ·go_simp
  rfl
 refine hK.out _ _ ?_
 clear hK K
 refine pu 31 10 (bt 32 4294967295) (k := ?_)
 refine done_ (by kernel_rfl) ?_
 have BX := shop_set HP.bx (.slice Ax nx cx) (.int .i64 lo') (.int .i64 hi') (.slice Ay ny cy) (.map o0) (.map o1)
 have hf6 := shop_fr HP.fr (.inr HP.new) (.slice Ax nx cx) (.int .i64 lo') (.int .i64 hi') (.slice Ay ny cy) (.map o0) (.map o1)
 have hf56 := shop_fr (Fr.refl (· = g9) w5) (.inl rfl) (.slice Ax nx cx) (.int .i64 lo') (.int .i64 hi') (.slice Ay ny cy) (.map o0) (.map o1)
 dsimp only at BX hf6 hf56
 generalize hW6 : World.setCell _ _ _ = W6 at *
 have HBX := Lib.hid BX
 have c0' := BX.at_ 0 rfl
 have c1' := BX.at_ 1 rfl
 have c2' := BX.at_ 2 rfl
 have c3' := BX.at_ 3 rfl
 have c4' := BX.at_ 4 rfl
 have c5' := BX.at_ 5 rfl
 have lg := BX.lt
 have HNEW := Lib.hid HP.new
 clear bz0 bz1 bz2 bz3 bz4 bz5 fz0 fz1 fz2 fz3 fz4 fz5 s0 s1 s2 s3 H0 hHeld BX y0 y1 y2 y3
 by_cases hz : openV l0 lo hi l3 (false) = 0
 ·exact absurd (openV_zero hz).2 (by simp)
 ·clear HP
  go_wp2
  refine bodyPost_ret (v := .tuple #[.slice none 0 0, .int .i64 0, .int .i64 (openV l0 lo hi l3 false)]) (by simp [results, Tryd.results32, go_sem]) rfl ⟨_, rfl, Kd.V_nil _ _ _ _ _, ?_⟩
  exact (hf0.trans hf6).below (Nat.le_of_eq (by first | rfl | exact hg0.symm)) (fun _ _ h => h)
theorem play_any (A0 : Option Addr) (c0 : Nat) (l0 : List S57) (lo hi : Int) (A3 : Option Addr) (c3 : Nat) (l3 : List S69) (ki off : Int) (Am : Option Addr) (cm : Nat) (lm : List Int) (w : World) (hB : Book w A0 c0 l0 A3 c3 l3) (hm : Kd.C (Kd.int .i64) w Am lm.length lm) (hcm : lm.length ≤ cm) :
  Calls Tryd.prog 32 #[bookV A0 c0 l0 lo hi A3 c3 l3, .int .i64 ki, .int .i64 off, .slice Am lm.length cm] w fun e w' =>
   ∃ v0_ : Value, e = .returned (.tuple #[v0_, .int .i64 (playF l0 lo hi l3 ki off lm).2.1, .int .i64 (playF l0 lo hi l3 ki off lm).2.2]) ∧ Kd.V (Kd.int .i64) 3 w' w.heap.size (fun k_ => (w.heap.size ≤ k_)) v0_ (playF l0 lo hi l3 ki off lm).1 ∧ Below w.heap.size w w' := by
 by_cases hin : isIn ki 0 ((l3.length : Int) - 1) = true
 ·have hk := isIn_iff.1 hin
  obtain ⟨n, rfl⟩ : ∃ n : Nat, ki = n := ⟨ki.toNat, by omega⟩
  have hn : n < l3.length := by omega
  obtain ⟨ad, had, _⟩ := k69_at hB.r3 n hn
  subst had
  obtain ⟨⟨⟨klo, khi⟩, km⟩, hkk⟩ : ∃ kk, l3.getD n z69 = kk := ⟨_, rfl⟩
  have e : playF l0 lo hi l3 n off lm = playG l0 lo hi l3 off klo khi km lm := by
   unfold playF playG playOk
   simp only [Int.toNat_natCast, hkk, hin, Bool.true_and]
  rw [e]
  exact play_in A0 c0 l0 lo hi ad c3 l3 off Am cm lm n klo khi km w hB hm hcm hn hkk
 ·rw [Bool.not_eq_true] at hin
  have e : playF l0 lo hi l3 ki off lm = ([], 0, openV l0 lo hi l3 false) := by
   unfold playF playOk
   rw [hin, Bool.false_and, if_pos]
   intro h
   exact absurd (openV_zero h).2 (by simp)
  rw [e]
  exact play_out A0 c0 l0 lo hi A3 c3 l3 ki off Am cm lm w hB hin
end Go.Proofs.YtfmpbkolpjlfbaaDoor.R
namespace Go.Proofs.YtfmpbkolpjlfbaaDoor.R
open Go.RowKit Go.Shelf Go.Proofs.YtfmpbkolpjlfbaaDoorW.PrintWords Go.Proofs.YtfmpbkolpjlfbaaDoorW.PrintLast Go.Proofs.YtfmpbkolpjlfbaaDoor.PRaspKeys Go.Proofs.YtfmpbkolpjlfbaaDoor.X Go.Proofs.YtfmpbkolpjlfbaaDoor.M
attribute [local go_sem] Oper.semAt_some
set_option maxHeartbeats 1000000 in
theorem bad_any (x : Int) (w : World) : Calls Tryd.prog 67 #[.int .i64 x] w fun e w' => e = .returned (.bool (!asked x 0)) ∧ Fr0 w w' := by
 go_enter Tryd.func67, Tryd.ntmps67
 go_wp2_with (go_at_call 52; refine (isAsk_any x 0 _).mono ?_; rintro e W1 ⟨rfl, hf⟩)
 go_ret
 exact ⟨rfl, hf⟩
/-- The first number that cannot be asked of, from place n on; -1: none. -/
def badFrom (l : List Int) : Nat → Nat → Int
 | 0, _ => -1
 | d + 1, n => if asked (l.getD n 0) 0 = true then badFrom l d (n + 1) else n
theorem badFrom_any (l : List Int) : ∀ (d n : Nat), n + d = l.length → (0 ≤ badFrom l d n ↔ (l.drop n).any (fun x => !asked x 0) = true)
 | 0, n, h => by
  rw [List.drop_of_length_le (by omega)]
  simp [badFrom]
 | d + 1, n, h => by
  have hn : n < l.length := by omega
  rw [List.drop_eq_getElem_cons hn, List.any_cons]
  unfold badFrom
  rw [show l.getD n 0 = l[n] by simp [hn]]
  have ih := badFrom_any l d (n + 1) (by omega)
  cases asked l[n] 0
  ·simp
  ·simpa using ih
set_option maxHeartbeats 2000000 in
set_option maxRecDepth 100000 in
theorem index_any (A : Option Addr) (c : Nat) (l : List Int) (w : World) (hr : Kd.C (Kd.int .i64) w A l.length l) (hc : l.length ≤ c) :
  Calls Tryd.prog 73 #[.slice A l.length c, .func (.func 67) #[] #[]] w fun e w' => e = .returned (.int .i64 (badFrom l l.length 0)) ∧ Fr0 w w' := by
 have HR := Lib.hid hr
 have hlen : (l.length : Int) ≤ 9223372036854775807 := by have := hr.2.1; omega
 clear hr
 go_enter Tryd.func73, Tryd.ntmps73
 go_wp2
 go_loopw [8] (fun v8 wr => ∃ n : Nat, n ≤ l.length ∧ v8 = .int .i64 n ∧ Hop (badFrom l l.length 0 = badFrom l (l.length - n) n) ∧ Fr0 w wr) (fun v8 _ => (l.length - intOf v8).toNat)
 case atStart => exact ⟨0, by omega, by rfl, ⟨rfl⟩, Fr.refl _ _⟩
 case round =>
  obtain ⟨n, hn, rfl, HBF, hf⟩ := hrel
  have HF := Lib.hid hf
  by_cases hlt : n < l.length
  ·have hle : (n : Int) < l.length := by omega
   obtain ⟨ad, ead, hx⟩ := Kd.at_int (Kd.C_below HR.out (hf.below (Nat.le_refl _) (fun _ _ h => h))) (n : Int) (by omega) hle
   cases ead
   obtain ⟨d, hd⟩ : ∃ d, l.length - n = d + 1 := ⟨l.length - n - 1, by omega⟩
   have hx' : wr.cell? (ad.add n) = some (.int .i64 (l.getD n 0)) := hx
   have HST := Lib.hid (show badFrom l (l.length - n) n = if asked (l.getD n 0) 0 = true then badFrom l d (n + 1) else n from by rw [hd]; rfl)
   have HD := Lib.hid hd
   clear hx hf hd
   generalize l.getD n 0 = x at *
   by_cases hask : asked x 0 = true
   ·go_wp2_with (go_at_call 67; refine (bad_any x _).mono ?_; rintro e W1 ⟨rfl, hf1⟩)
    refine ⟨⟨n + 1, by omega, by go_num, ⟨?_⟩, HF.out.trans hf1⟩, by simp [intOf]; omega⟩
    rw [HBF.out, HST.out, if_pos hask]
    congr 1
    have := HD.out
    omega
   ·rw [Bool.not_eq_true] at hask
    go_wp2_with (go_at_call 67; refine (bad_any x _).mono ?_; rintro e W1 ⟨rfl, hf1⟩)
    refine bodyPost_ret (v := .int .i64 n) (by simp [results, Tryd.results73, go_sem]) rfl ⟨by rw [HBF.out, HST.out, if_neg (by simp [hask])], HF.out.trans hf1⟩
  ·obtain rfl : n = l.length := by omega
   have hle : ¬ ((l.length : Int) < l.length) := by omega
   clear hf
   go_wp2
   refine bodyPost_ret (v := .int .i64 (-1)) (by simp [results, Tryd.results73, go_sem]) rfl ⟨by rw [HBF.out, Nat.sub_self]; rfl, HF.out⟩
set_option maxHeartbeats 1000000 in
theorem contains_any (A : Option Addr) (c : Nat) (l : List Int) (w : World) (hr : Kd.C (Kd.int .i64) w A l.length l) (hc : l.length ≤ c) :
  Calls Tryd.prog 66 #[.slice A l.length c, .func (.func 67) #[] #[]] w fun e w' => e = .returned (.bool (l.any (fun x => !asked x 0))) ∧ Fr0 w w' := by
 have hb := badFrom_any l l.length 0 (by omega)
 rw [List.drop_zero] at hb
 have HC := Lib.hid (index_any A c l w hr hc)
 have HB := Lib.hid hb
 clear hb hr
 generalize badFrom l l.length 0 = B at *
 go_enter Tryd.func66, Tryd.ntmps66
 go_wp2_with (go_at_call 73; refine HC.out.mono ?_; rintro e W1 ⟨rfl, hf⟩)
 refine bodyPost_ret (v := .bool (decide (0 ≤ B))) (by simp [results, Tryd.results66, go_sem]) rfl ⟨?_, hf⟩
 congr 2
 have h := HB.out
 cases hq : l.any (fun x => !asked x 0)
 ·rw [hq] at h; simp at h; simpa using h
 ·rw [hq] at h; simpa using h
end Go.Proofs.YtfmpbkolpjlfbaaDoor.R
namespace Go.Proofs.YtfmpbkolpjlfbaaDoor.PRaspKeys
open Go.RowKit Go.Proofs.YtfmpbkolpjlfbaaDoorW.PrintWords Go.Proofs.YtfmpbkolpjlfbaaDoorW.PrintLast Go.Proofs.YtfmpbkolpjlfbaaDoor.R Go.Proofs.YtfmpbkolpjlfbaaDoor.M
abbrev Glob := Go.Proofs.YtfmpbkolpjlfbaaDoor.R.Glob
theorem Glob.fr {w w' : World} (h : Glob w) (hf : Go.Proofs.YtfmpbkolpjlfbaaDoor.X.Fr0 w w') : Glob w' := Go.Proofs.YtfmpbkolpjlfbaaDoor.R.Glob.fr h hf
theorem cut_max {P : Program} (t e : TypeId) {i : TypeInfo} (ht : P.underlying t = some (.slice e)) (hi : P.info? e = some i) (A : Option Addr) (n c : Nat) (hc : n ≤ c) :
  ∀ W : World, (Instr.slice t (.slice A n c) none (some (.int .i64 n)) (some (.int .i64 n))).run P W = .ok (.slice A n n) W := by
 intro W
 have hel : P.elem t = e := by simp [Program.elem, ht]
 have hu : P.underlying t = some (.slice (P.elem t)) := by rw [hel]; exact ht
 have ha : (A.map fun x => x.add 0) = A := by cases A <;> simp [Addr.add]
 rw [run_slice_hm W t A n c hu .i64 .i64 n n (by omega) (by omega) (by omega), hel]
 simp [sizeOf, typeInfo, hi, sliced, Result.andThen, ha]
theorem V_cap {α : Type} {d : Kd α} {e base : Nat} {ok : Nat → Prop} {W : World} {A : Option Addr} {n c : Nat} {xs : List α} (h : d.V e W base ok (.slice A n c) xs) : n ≤ c := by
 obtain ⟨A', c', hv, hc, hF⟩ := h
 cases hv
 exact hc
theorem V_cut' {α : Type} {d : Kd α} {e base : Nat} {ok : Nat → Prop} {W : World} {A : Option Addr} {n c : Nat} {xs : List α} (h : d.V e W base ok (.slice A n c) xs) : d.V e W base ok (.slice A n n) xs := (Go.Proofs.YtfmpbkolpjlfbaaDoor.R.V_cut h).2
theorem Fr.of_below {S : Nat → Prop} {a b : World} (h : Below a.heap.size a b) : Go.Proofs.YtfmpbkolpjlfbaaDoor.X.Fr S a b := Go.Proofs.YtfmpbkolpjlfbaaDoor.X.Fr.of_below h
def rasp_Next.f (l0_0 : List S57) (a0_1 : Int) (a0_2 : Int) (l0_3 : List S69) (a1 : Int) (a2 : Int) : Option (Int × Int × Int) := some (nextF l0_0 a0_1 a0_2 l0_3 a1 a2)
theorem rasp_Next.calls (A0_0 : Option Addr) (c0_0 : Nat) (l0_0 : List S57) (a0_1 : Int) (a0_2 : Int) (A0_3 : Option Addr) (c0_3 : Nat) (l0_3 : List S69) (a1 : Int) (a2 : Int) (r1 : Int) (r2 : Int) (r3 : Int) (w : World) (hr0_0 : Kd.C k57 w A0_0 l0_0.length l0_0) (hc0_0 : l0_0.length ≤ c0_0) (hr0_3 : Kd.C k69 w A0_3 l0_3.length l0_3) (hc0_3 : l0_3.length ≤ c0_3) (hG : Glob w) (h : rasp_Next.f l0_0 a0_1 a0_2 l0_3 a1 a2 = some (r1, r2, r3)) :
  Calls Tryd.prog 16 #[.agg #[.slice A0_0 l0_0.length c0_0, .int .i64 a0_1, .int .i64 a0_2, .slice A0_3 l0_3.length c0_3], .int .i64 a1, .int .i64 a2] w fun e w' => e = .returned (.tuple #[.int .i64 r1, .int .i64 r2, .int .i64 r3]) ∧ Below w.heap.size w w' := by
 have h : nextF l0_0 a0_1 a0_2 l0_3 a1 a2 = (r1, r2, r3) := Option.some.inj h
 have hc := next_any A0_0 c0_0 l0_0 a0_1 a0_2 A0_3 c0_3 l0_3 a1 a2 w ⟨hr0_0, hc0_0, hr0_3, hc0_3, hG⟩
 rw [h] at hc
 exact hc
def rasp_Lucky.f (l0_0 : List S57) (a0_1 : Int) (a0_2 : Int) (l0_3 : List S69) (a1 : Int) (a2 : Int) : Option (Int × Int) := some (luckyF l0_0 a0_1 a0_2 l0_3 a1 a2)
theorem rasp_Lucky.calls (A0_0 : Option Addr) (c0_0 : Nat) (l0_0 : List S57) (a0_1 : Int) (a0_2 : Int) (A0_3 : Option Addr) (c0_3 : Nat) (l0_3 : List S69) (a1 : Int) (a2 : Int) (r1 : Int) (r2 : Int) (w : World) (hr0_0 : Kd.C k57 w A0_0 l0_0.length l0_0) (hc0_0 : l0_0.length ≤ c0_0) (hr0_3 : Kd.C k69 w A0_3 l0_3.length l0_3) (hc0_3 : l0_3.length ≤ c0_3) (hG : Glob w) (h : rasp_Lucky.f l0_0 a0_1 a0_2 l0_3 a1 a2 = some (r1, r2)) :
  Calls Tryd.prog 20 #[.agg #[.slice A0_0 l0_0.length c0_0, .int .i64 a0_1, .int .i64 a0_2, .slice A0_3 l0_3.length c0_3], .int .i64 a1, .int .i64 a2] w fun e w' => e = .returned (.tuple #[.int .i64 r1, .int .i64 r2]) ∧ Below w.heap.size w w' := by
 have h : luckyF l0_0 a0_1 a0_2 l0_3 a1 a2 = (r1, r2) := Option.some.inj h
 have hc := lucky_any A0_0 c0_0 l0_0 a0_1 a0_2 A0_3 c0_3 l0_3 a1 a2 w ⟨hr0_0, hc0_0, hr0_3, hc0_3, hG⟩
 rw [h] at hc
 exact hc
def rasp_Strokes.f (l0_0 : List S57) (a0_1 : Int) (a0_2 : Int) (l0_3 : List S69) (a1 : Int) : Option (Int × Int) := some (strokesF l0_0 a0_1 a0_2 l0_3 a1)
theorem rasp_Strokes.calls (A0_0 : Option Addr) (c0_0 : Nat) (l0_0 : List S57) (a0_1 : Int) (a0_2 : Int) (A0_3 : Option Addr) (c0_3 : Nat) (l0_3 : List S69) (a1 : Int) (r1 : Int) (r2 : Int) (w : World) (hr0_0 : Kd.C k57 w A0_0 l0_0.length l0_0) (hc0_0 : l0_0.length ≤ c0_0) (hr0_3 : Kd.C k69 w A0_3 l0_3.length l0_3) (hc0_3 : l0_3.length ≤ c0_3) (hG : Glob w) (h : rasp_Strokes.f l0_0 a0_1 a0_2 l0_3 a1 = some (r1, r2)) :
  Calls Tryd.prog 23 #[.agg #[.slice A0_0 l0_0.length c0_0, .int .i64 a0_1, .int .i64 a0_2, .slice A0_3 l0_3.length c0_3], .int .i64 a1] w fun e w' => e = .returned (.tuple #[.int .i64 r1, .int .i64 r2]) ∧ Below w.heap.size w w' := by
 have h : strokesF l0_0 a0_1 a0_2 l0_3 a1 = (r1, r2) := Option.some.inj h
 have hc := strokes_of_any A0_0 c0_0 l0_0 a0_1 a0_2 A0_3 c0_3 l0_3 a1 w ⟨hr0_0, hc0_0, hr0_3, hc0_3, hG⟩
 rw [h] at hc
 exact hc
def rasp_Total.f (l0_0 : List S57) (a0_1 : Int) (a0_2 : Int) (l0_3 : List S69) : Option (Int × Int) := some (totalF l0_0 a0_1 a0_2 l0_3)
theorem rasp_Total.calls (A0_0 : Option Addr) (c0_0 : Nat) (l0_0 : List S57) (a0_1 : Int) (a0_2 : Int) (A0_3 : Option Addr) (c0_3 : Nat) (l0_3 : List S69) (r1 : Int) (r2 : Int) (w : World) (hr0_0 : Kd.C k57 w A0_0 l0_0.length l0_0) (hc0_0 : l0_0.length ≤ c0_0) (hr0_3 : Kd.C k69 w A0_3 l0_3.length l0_3) (hc0_3 : l0_3.length ≤ c0_3) (hG : Glob w) (h : rasp_Total.f l0_0 a0_1 a0_2 l0_3 = some (r1, r2)) :
  Calls Tryd.prog 28 #[.agg #[.slice A0_0 l0_0.length c0_0, .int .i64 a0_1, .int .i64 a0_2, .slice A0_3 l0_3.length c0_3]] w fun e w' => e = .returned (.tuple #[.int .i64 r1, .int .i64 r2]) ∧ Below w.heap.size w w' := by
 have h : totalF l0_0 a0_1 a0_2 l0_3 = (r1, r2) := Option.some.inj h
 have hc := total_any A0_0 c0_0 l0_0 a0_1 a0_2 A0_3 c0_3 l0_3 w ⟨hr0_0, hc0_0, hr0_3, hc0_3, hG⟩
 rw [h] at hc
 exact hc
def rasp_Need.f (l0_0 : List S57) (a0_1 : Int) (a0_2 : Int) (l0_3 : List S69) (a1 : Int) : Option (Int × Int) := some (needF l0_0 a0_1 a0_2 l0_3 a1)
theorem rasp_Need.calls (A0_0 : Option Addr) (c0_0 : Nat) (l0_0 : List S57) (a0_1 : Int) (a0_2 : Int) (A0_3 : Option Addr) (c0_3 : Nat) (l0_3 : List S69) (a1 : Int) (r1 : Int) (r2 : Int) (w : World) (hr0_0 : Kd.C k57 w A0_0 l0_0.length l0_0) (hc0_0 : l0_0.length ≤ c0_0) (hr0_3 : Kd.C k69 w A0_3 l0_3.length l0_3) (hc0_3 : l0_3.length ≤ c0_3) (hG : Glob w) (h : rasp_Need.f l0_0 a0_1 a0_2 l0_3 a1 = some (r1, r2)) :
  Calls Tryd.prog 30 #[.agg #[.slice A0_0 l0_0.length c0_0, .int .i64 a0_1, .int .i64 a0_2, .slice A0_3 l0_3.length c0_3], .int .i64 a1] w fun e w' => e = .returned (.tuple #[.int .i64 r1, .int .i64 r2]) ∧ Below w.heap.size w w' := by
 have h : needF l0_0 a0_1 a0_2 l0_3 a1 = (r1, r2) := Option.some.inj h
 have hc := need_any A0_0 c0_0 l0_0 a0_1 a0_2 A0_3 c0_3 l0_3 a1 w ⟨hr0_0, hc0_0, hr0_3, hc0_3, hG⟩
 rw [h] at hc
 exact hc
def rasp_Spoilt.f (l0_0 : List S57) (a0_1 : Int) (a0_2 : Int) (l0_3 : List S69) : Option (List Int × Int) := some (spoiltF l0_0 a0_1 a0_2 l0_3)
theorem rasp_Spoilt.calls (A0_0 : Option Addr) (c0_0 : Nat) (l0_0 : List S57) (a0_1 : Int) (a0_2 : Int) (A0_3 : Option Addr) (c0_3 : Nat) (l0_3 : List S69) (r1 : List Int) (r2 : Int) (w : World) (hr0_0 : Kd.C k57 w A0_0 l0_0.length l0_0) (hc0_0 : l0_0.length ≤ c0_0) (hr0_3 : Kd.C k69 w A0_3 l0_3.length l0_3) (hc0_3 : l0_3.length ≤ c0_3) (hG : Glob w) (h : rasp_Spoilt.f l0_0 a0_1 a0_2 l0_3 = some (r1, r2)) :
  Calls Tryd.prog 25 #[.agg #[.slice A0_0 l0_0.length c0_0, .int .i64 a0_1, .int .i64 a0_2, .slice A0_3 l0_3.length c0_3]] w fun e w' => ∃ v0_ : Value, e = .returned (.tuple #[v0_, .int .i64 r2]) ∧ Kd.V (Kd.int .i64) 3 w' w.heap.size (fun k_ => (w.heap.size ≤ k_)) v0_ r1 ∧ Below w.heap.size w w' := by
 have h : spoiltF l0_0 a0_1 a0_2 l0_3 = (r1, r2) := Option.some.inj h
 have hc := spoilts_any A0_0 c0_0 l0_0 a0_1 a0_2 A0_3 c0_3 l0_3 w ⟨hr0_0, hc0_0, hr0_3, hc0_3, hG⟩
 rw [h] at hc
 exact hc
def rasp_Play.f (l0_0 : List S57) (a0_1 : Int) (a0_2 : Int) (l0_3 : List S69) (a1 : Int) (a2 : Int) (l3 : List Int) : Option (List Int × Int × Int) := some (playF l0_0 a0_1 a0_2 l0_3 a1 a2 l3)
theorem rasp_Play.calls (A0_0 : Option Addr) (c0_0 : Nat) (l0_0 : List S57) (a0_1 : Int) (a0_2 : Int) (A0_3 : Option Addr) (c0_3 : Nat) (l0_3 : List S69) (a1 : Int) (a2 : Int) (A3 : Option Addr) (c3 : Nat) (l3 : List Int) (r1 : List Int) (r2 r3 : Int) (w : World) (hr0_0 : Kd.C k57 w A0_0 l0_0.length l0_0) (hc0_0 : l0_0.length ≤ c0_0) (hr0_3 : Kd.C k69 w A0_3 l0_3.length l0_3) (hc0_3 : l0_3.length ≤ c0_3) (hr3 : Kd.C (Kd.int .i64) w A3 l3.length l3) (hc3 : l3.length ≤ c3) (hG : Glob w) (h : rasp_Play.f l0_0 a0_1 a0_2 l0_3 a1 a2 l3 = some (r1, r2, r3)) :
  Calls Tryd.prog 32 #[.agg #[.slice A0_0 l0_0.length c0_0, .int .i64 a0_1, .int .i64 a0_2, .slice A0_3 l0_3.length c0_3], .int .i64 a1, .int .i64 a2, .slice A3 l3.length c3] w fun e w' => ∃ v0_ : Value, e = .returned (.tuple #[v0_, .int .i64 r2, .int .i64 r3]) ∧ Kd.V (Kd.int .i64) 3 w' w.heap.size (fun k_ => (w.heap.size ≤ k_)) v0_ r1 ∧ Below w.heap.size w w' := by
 have h : playF l0_0 a0_1 a0_2 l0_3 a1 a2 l3 = (r1, r2, r3) := Option.some.inj h
 have hc := play_any A0_0 c0_0 l0_0 a0_1 a0_2 A0_3 c0_3 l0_3 a1 a2 A3 c3 l3 w ⟨hr0_0, hc0_0, hr0_3, hc0_3, hG⟩ hr3 hc3
 rw [h] at hc
 exact hc
def slices_ContainsFunc_int_int.f (l0 : List Int) : Option (Bool) := some (l0.any (fun x => !asked x 0))
theorem slices_ContainsFunc_int_int.calls (A0 : Option Addr) (c0 : Nat) (l0 : List Int) (r : Bool) (w : World) (hr0 : Kd.C (Kd.int .i64) w A0 l0.length l0) (hc0 : l0.length ≤ c0) (hG : Glob w) (h : slices_ContainsFunc_int_int.f l0 = some r) :
  Calls Tryd.prog 66 #[.slice A0 l0.length c0, .func (.func 67) #[] #[]] w fun e w' => e = .returned (.bool r) ∧ Below w.heap.size w w' := by
 have h : l0.any (fun x => !asked x 0) = r := Option.some.inj h
 refine (contains_any A0 c0 l0 w hr0 hc0).mono fun e w' hh => ⟨?_, hh.2.below (Nat.le_refl _) (fun _ _ h => h)⟩
 rw [← h]
 exact hh.1
end Go.Proofs.YtfmpbkolpjlfbaaDoor.PRaspKeys
