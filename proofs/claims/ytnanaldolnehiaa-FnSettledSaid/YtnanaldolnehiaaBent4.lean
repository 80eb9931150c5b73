/-
  l04Bent: rules and a position that are drawn and seldom bent.
-/
import Derived.Test.YtnanaldolnehiaaBentReg
set_option linter.unusedSimpArgs false
set_option linter.unusedVariables false
namespace Go.Proofs.Ytnanaldolnehiaa
open Go.ChangeShapes Go.WideShapes Go.RowKit Go.Deep

/-- What l04Bent hands back. -/
def RetBent (w : World) (b : Nat) (SA : Option Addr) (sn sc : Nat) (szs : List Int) (e : Ending) (w' : World) : Prop :=
  ∃ (r : Ru) (A1 : Option Addr) (n1 u1 : Nat) (A' : Option Addr) (n' c' : Nat) (ys : List Int) (pl : Int) (gA n cA : Nat) (zs : List Int) (j k' : Nat) (sd' : Int),
    e = .returned (.tuple #[.agg r.cells.toArray, .agg #[.slice A1 n1 u1, .slice A' n' c', .int .i64 pl]]) ∧ (A1 = some ⟨gA, j, none⟩ ∧ n1 = n - j ∧ u1 = cA - j ∧ j ≤ 1 ∧ 2 ≤ n ∧ n ≤ 16) ∧
    Own w' w.heap.size (some ⟨gA, 0, none⟩) n cA zs ∧ Own w' w.heap.size A' n' c' ys ∧ (n' = 2 → A' ≠ some ⟨gA, 0, none⟩) ∧ Src w' b SA sn sc szs k' sd' ∧ k' ≤ 3500000 ∧ w.grownBy w' (some b)
theorem RuAt.ofHas {w : World} {g : Nat} {p s : Int} {st sk re fe ag : Bool} {c sl : Int} (h : Has w g [.int .i64 p, .int .i64 s, .bool st, .bool sk, .bool re, .bool fe, .bool ag, .int .i64 c, .int .i64 sl]) : RuAt w g 0 ⟨p, s, st, sk, re, fe, ag, c, sl⟩ := by
  refine ⟨?_, ?_, ?_, ?_, ?_, ?_, ?_, ?_, ?_⟩ <;> simp only [Nat.zero_add]
  · exact h.at_ 0 rfl
  · exact h.at_ 1 rfl
  · exact h.at_ 2 rfl
  · exact h.at_ 3 rfl
  · exact h.at_ 4 rfl
  · exact h.at_ 5 rfl
  · exact h.at_ 6 rfl
  · exact h.at_ 7 rfl
  · exact h.at_ 8 rfl
theorem l04Bent_ret {Post : Ending → World → Prop} {a : Act} {W : World} {g g2 : Nat} {p s : Int} {st sk re fe ag : Bool} {c sl : Int} {A A' : Option Addr} {n u n' u' : Nat} {pl : Int} (ha : a.tmps.getD 2 undef = .pointer (some ⟨g, 0, none⟩)) (ha2 : a.tmps.getD 3 undef = .pointer (some ⟨g2, 0, none⟩)) (hd : a.defers = []) (hr : RuAt W g 0 ⟨p, s, st, sk, re, fe, ag, c, sl⟩) (hp : Has W g2 [.slice A n u, .slice A' n' u', .int .i64 pl]) (hP : Post (.returned (.tuple #[.agg #[.int .i64 p, .int .i64 s, .bool st, .bool sk, .bool re, .bool fe, .bool ag, .int .i64 c, .int .i64 sl], .agg #[.slice A n u, .slice A' n' u', .int .i64 pl]])) W) : bodyPost Try.prog Try.f166 Post Exit.ret a W := by
  obtain ⟨c0, c1, c2, c3, c4, c5, c6, c7, c8⟩ := hr.flat
  have d0 := hp.at_ 0 rfl
  have d1 := hp.at_ 1 rfl
  have d2 := hp.at_ 2 rfl
  refine bodyPost_ret (v := .tuple #[.agg #[.int .i64 p, .int .i64 s, .bool st, .bool sk, .bool re, .bool fe, .bool ag, .int .i64 c, .int .i64 sl], .agg #[.slice A n u, .slice A' n' u', .int .i64 pl]]) ?_ hd hP
  obtain ⟨tmps, defers⟩ := a
  simp only [Array.getD_eq_getD_getElem?] at ha ha2
  simp [results, Try.results166, go_sem, ha, ha2, c0, c1, c2, c3, c4, c5, c6, c7, c8, d0, d1, d2]
set_option maxRecDepth 100000 in
set_option maxHeartbeats 16000000 in
theorem l04Bent_any (b : Nat) (SA : Option Addr) (sn sc : Nat) (szs : List Int) (k : Nat) (sd : Int) (hk : k ≤ 1000) (w : World) (h : Src w b SA sn sc szs k sd) : Calls Try.prog 166 #[.pointer (some ⟨b, 0, none⟩)] w (RetBent w b SA sn sc szs) := by
  have hlt := h.lt
  have S0 := Lib.hid ((h.alloc (.cells #[.int .i64 0, .int .i64 0, .bool false, .bool false, .bool false, .bool false, .bool false, .int .i64 0, .int .i64 0] 31)).alloc (.cells #[.slice none 0 0, .slice none 0 0, .int .i64 0] 28))
  have KR0 := Lib.hid ((OutAt.box w [.int .i64 0, .int .i64 0, .bool false, .bool false, .bool false, .bool false, .bool false, .int .i64 0, .int .i64 0] 31 w.heap.size rfl).alloc (.cells #[.slice none 0 0, .slice none 0 0, .int .i64 0] 28))
  have KP0 := Lib.hid (OutAt.box (w.alloc (.cells #[.int .i64 0, .int .i64 0, .bool false, .bool false, .bool false, .bool false, .bool false, .int .i64 0, .int .i64 0] 31)) [.slice none 0 0, .slice none 0 0, .int .i64 0] 28 (w.heap.size + 1) (by simp))
  have G0 := Lib.hid (grown_alloc (grown_alloc (World.grownBy.refl w (some b)) (.cells #[.int .i64 0, .int .i64 0, .bool false, .bool false, .bool false, .bool false, .bool false, .int .i64 0, .int .i64 0] 31)) (.cells #[.slice none 0 0, .slice none 0 0, .int .i64 0] 28))
  have sz0 : ((w.alloc (.cells #[.int .i64 0, .int .i64 0, .bool false, .bool false, .bool false, .bool false, .bool false, .int .i64 0, .int .i64 0] 31)).alloc (.cells #[.slice none 0 0, .slice none 0 0, .int .i64 0] 28)).heap.size = w.heap.size + 2 := by simp
  have SZ0 := Lib.hid sz0
  clear h sz0
  go_enter Try.func166, Try.ntmps166
  go_wp2_with fail
  refine (l02Draw_any b SA sn sc szs k sd (by omega) _ (by exact S0.out)).mono ?_
  rintro e w1 ⟨r, k1, d1, rfl, hr, s1, hk1, g1⟩
  have z1 := g1.size
  rw [SZ0.out] at z1
  obtain ⟨p, s, st, sk, re, fe, ag, c, sl⟩ := r
  obtain ⟨hq0, hq1⟩ := okR_pits hr
  dsimp only at hq0 hq1
  have KR1 := Lib.hid ((KR0.out.grown g1 (by omega)).alloc (.cells #[.int .i64 p, .int .i64 s, .bool st, .bool sk, .bool re, .bool fe, .bool ag, .int .i64 c, .int .i64 sl] 31))
  have KP1 := Lib.hid ((KP0.out.grown g1 (by omega)).alloc (.cells #[.int .i64 p, .int .i64 s, .bool st, .bool sk, .bool re, .bool fe, .bool ag, .int .i64 c, .int .i64 sl] 31))
  have G1 := Lib.hid (grown_alloc (gr_trans G0.out g1) (.cells #[.int .i64 p, .int .i64 s, .bool st, .bool sk, .bool re, .bool fe, .bool ag, .int .i64 c, .int .i64 sl] 31))
  have S1 := Lib.hid (s1.alloc (.cells #[.int .i64 p, .int .i64 s, .bool st, .bool sk, .bool re, .bool fe, .bool ag, .int .i64 c, .int .i64 sl] 31))
  have R1 := Lib.hid (RuAt.box w1 31 p s st sk re fe ag c sl)
  have KV1 := Lib.hid (OutAt.box w1 [.int .i64 p, .int .i64 s, .bool st, .bool sk, .bool re, .bool fe, .bool ag, .int .i64 c, .int .i64 sl] 31 w1.heap.size rfl)
  clear s1 g1 S0 KR0 KP0 G0 SZ0 hr
  obtain ⟨rb, hrb⟩ : ∃ x, x = w1.heap.size := ⟨_, rfl⟩
  have sz2 : (w1.alloc (.cells #[.int .i64 p, .int .i64 s, .bool st, .bool sk, .bool re, .bool fe, .bool ag, .int .i64 c, .int .i64 sl] 31)).heap.size = rb + 1 := by rw [hrb]; simp
  rw [← hrb] at R1 KV1 z1
  obtain ⟨W1, hW1⟩ : ∃ W, W = w1.alloc (.cells #[.int .i64 p, .int .i64 s, .bool st, .bool sk, .bool re, .bool fe, .bool ag, .int .i64 c, .int .i64 sl] 31) := ⟨_, rfl⟩
  have KV1 : Hid (OutAt W1 rb [.int .i64 p, .int .i64 s, .bool st, .bool sk, .bool re, .bool fe, .bool ag, .int .i64 c, .int .i64 sl]) := Lib.hid (by rw [hW1]; exact KV1.out)
  rw [← hW1] at KR1 KP1 G1 S1 R1 sz2
  have HW1 := Lib.hid hW1
  have HRB := Lib.hid hrb
  clear hW1 hrb
  rw [show (Value.agg (Ru.cells ⟨p, s, st, sk, re, fe, ag, c, sl⟩).toArray) = .agg #[.int .i64 p, .int .i64 s, .bool st, .bool sk, .bool re, .bool fe, .bool ag, .int .i64 c, .int .i64 sl] from rfl]
  go_wp2_with fail
  rw [← HW1.out, ← HRB.out]
  refine (l04Draw_any b SA sn sc szs k1 d1 (by omega) rb 0 p s st sk re fe ag c sl W1 (by exact S1.out) (by exact R1.out) (by omega) hq0 hq1).mono ?_
  rintro e w2 ⟨gA, n, cA, gB, cB, zs, y0, y1, pl, rfl, o1, o2, hn16, g2, hn2, hAB, k2, d2, hk2, s2⟩
  have z2 := g2.size
  have HH : Hid (BS w (w2.alloc (.cells #[.slice (some ⟨gA, 0, none⟩) n cA, .slice (some ⟨gB, 0, none⟩) 2 cB, .int .i64 pl] 28)) b SA sn sc szs k2 d2 w.heap.size (w.heap.size + 1) rb w2.heap.size (rb + 1) [.int .i64 p, .int .i64 s, .bool st, .bool sk, .bool re, .bool fe, .bool ag, .int .i64 c, .int .i64 sl] [.slice (some ⟨gA, 0, none⟩) n cA, .slice (some ⟨gB, 0, none⟩) 2 cB, .int .i64 pl] gA n cA zs (some ⟨gB, 0, none⟩) 2 cB [y0, y1]) := Lib.hid (by
    rw [sz2] at o1 o2 z2
    have a1 : rb + 1 ≤ gA ∧ gA < w2.heap.size := by
      rcases o1.form with ⟨e, _⟩ | ⟨g, e, x1, x2⟩
      · cases e
      · injection e with e; injection e with e; omega
    have a2 : rb + 1 ≤ gB ∧ gB < w2.heap.size := by
      rcases o2.form with ⟨e, _⟩ | ⟨g, e, x1, x2⟩
      · cases e
      · injection e with e; injection e with e; omega
    exact ⟨(KR1.out.grown g2 (by omega)).alloc _, (KP1.out.grown g2 (by omega)).alloc _, (KV1.out.grown g2 (by omega)).alloc _, OutAt.box w2 [.slice (some ⟨gA, 0, none⟩) n cA, .slice (some ⟨gB, 0, none⟩) 2 cB, .int .i64 pl] 28 w2.heap.size rfl, o1.alloc _, o2.alloc _, s2.alloc _, grown_alloc (gr_trans G1.out g2) _, by omega, by omega, by omega, by omega, by omega, by omega, by omega, by omega, by omega, by omega, (fun e => by injection e with e; injection e with e; omega), by omega, by omega, by omega, by omega, by omega, by omega, fun _ e => by injection e with e; injection e with e; omega, fun e => by injection e with e; injection e with e; omega⟩)
  clear o1 o2 g2 s2 KR1 KP1 G1 S1 R1 KV1 HW1
  obtain ⟨pb, hpb⟩ : ∃ x, x = w2.heap.size := ⟨_, rfl⟩
  rw [← hpb] at HH
  have HPB := Lib.hid hpb
  obtain ⟨W2, hW2⟩ : ∃ W, W = w2.alloc (.cells #[.slice (some ⟨gA, 0, none⟩) n cA, .slice (some ⟨gB, 0, none⟩) 2 cB, .int .i64 pl] 28) := ⟨_, rfl⟩
  rw [← hW2] at HH
  have HW2 := Lib.hid hW2
  clear hW2 hpb
  have HNA : Hid (∀ q : Nat, q = 2 → (some ⟨gB, 0, none⟩ : Option Addr) ≠ some ⟨gA, 0, none⟩) := Lib.hid (fun _ _ => HH.out.nA rfl)
  have p0 : (w2.alloc (.cells #[.slice (some ⟨gA, 0, none⟩) n cA, .slice (some ⟨gB, 0, none⟩) 2 cB, .int .i64 pl] 28)).cell? ⟨w2.heap.size, 0, none⟩ = some (.slice (some ⟨gA, 0, none⟩) n cA) := by rw [← HW2.out, ← HPB.out]; exact HH.out.kq.1.at_ 0 rfl
  go_upto_region 3 with fail
  rw [← HW2.out, ← HPB.out]
  clear p0
  have p0 := HH.out.kq.1.at_ 0 rfl
  obtain ⟨x0, x1, x2⟩ := pk_bd szs k2 d2 (n : Int) (by omega)
  go_wp2_with fail
  refine (pick_any b SA sn sc szs k2 d2 (n : Int) (by omega) (by omega) (by omega) _ (by exact HH.out.sr)).mono ?_
  rintro e w3 ⟨rfl, s3, g3⟩
  have H3 := Lib.hid (HH.out.pick s3 g3)
  clear s3 g3 HH p0 HW2 HPB HRB
  obtain ⟨a, ha⟩ : ∃ x : Nat, (pk szs k2 d2 (n : Int)).1 = (x : Int) := ⟨(pk szs k2 d2 (n : Int)).1.toNat, by omega⟩
  rw [ha] at x0 x1 ⊢
  clear ha
  generalize (pk szs k2 d2 (n : Int)).2.1 = k3 at *
  generalize (pk szs k2 d2 (n : Int)).2.2 = d3 at *
  obtain ⟨v0, v1, v2⟩ := pk_bd szs k3 d3 24 (by omega)
  go_wp2_with fail
  refine (pick_any b SA sn sc szs k3 d3 24 (by omega) (by omega) (by omega) _ (by exact H3.out.sr)).mono ?_
  rintro e w4 ⟨rfl, s4, g4⟩
  have H4 := Lib.hid (H3.out.pick s4 g4)
  clear s4 g4 H3
  generalize (pk szs k3 d3 24).1 = x at *
  generalize (pk szs k3 d3 24).2.1 = k4 at *
  generalize (pk szs k3 d3 24).2.2 = d4 at *
  by_cases e0 : x = 0
  · subst e0
    go_upto_region 6 with fail
    refine bentReg6 w w4 b SA sn sc szs k4 d4 w.heap.size (w.heap.size + 1) rb pb (rb + 1) p s st sk re fe ag c sl gA n cA zs gB cB y0 y1 pl a (by omega) (by omega) (by exact H4.out) ?_
    intro u20 u21 u22 u23 u24 u25 u26 zs2 k5 d5 w5 hk5 H5
    clear H4
    go_upto_region 17 with fail
    refine bentReg17 w w5 b SA sn sc szs k5 d5 w.heap.size (w.heap.size + 1) rb pb (rb + 1) p s st sk re fe ag c sl (some ⟨gA, 0, none⟩) n cA pl gA n cA zs2 (some ⟨gB, 0, none⟩) 2 cB [y0, y1] (by omega) (by omega) (by exact H5) ?_
    intro u68 u69 w9 hr9 hp9 oA oB s9 g9
    go_wp2_with fail
    refine l04Bent_ret (g := w.heap.size) (g2 := w.heap.size + 1) (by rfl) (by rfl) (by rfl) (RuAt.ofHas hr9) hp9 ⟨⟨p, s, st, sk, re, fe, ag, c, sl⟩, _, _, _, _, _, _, _, _, gA, n, cA, _, _, _, _, rfl, ⟨rfl, rfl, rfl, by omega, hn2, hn16⟩, oA.lower (by omega), oB.lower (by omega), (HNA.out 2), s9, by omega, g9⟩
  by_cases e1 : x = 1
  · subst e1
    have HL := Lib.hid (own_lit w4 [-1, 2] 2 rfl (by omega))
    have H5 := Lib.hid (H4.out.alloc (.cells (([-1, 2] : List Int).map (Value.int .i64)).toArray 2))
    have sz := H4.out.sr.lt
    clear H4
    go_wp2_with fail
    refine (among_any b SA sn sc szs k4 d4 _ 2 2 [-1, 2] (by omega) (by omega) (by omega) _ (by exact H5.out.sr) (by exact HL.out.lower (by omega))).mono ?_
    rintro e w5 ⟨z, k5, d5, rfl, s5, hk5, g5⟩
    have H6 := Lib.hid (H5.out.pick s5 g5)
    clear s5 g5 H5 HL
    have p2 := H6.out.kq.1.at_ 2 rfl
    have f2 := H6.out.kq.2 2
    go_upto_region 17 with fail
    refine wp_namedS (fun w' => BS w w' b SA sn sc szs k5 d5 w.heap.size (w.heap.size + 1) rb pb (rb + 1) [.int .i64 p, .int .i64 s, .bool st, .bool sk, .bool re, .bool fe, .bool ag, .int .i64 c, .int .i64 sl] [.slice (some ⟨gA, 0, none⟩) n cA, .slice (some ⟨gB, 0, none⟩) 2 cB, .int .i64 z] gA n cA zs (some ⟨gB, 0, none⟩) 2 cB [y0, y1]) ?_ ?_
    · exact H6.out.setPos 2 (.int .i64 z) (by simp)
    clear H6 p2 f2
    rintro w6 H7
    refine bentReg17 w w6 b SA sn sc szs k5 d5 w.heap.size (w.heap.size + 1) rb pb (rb + 1) p s st sk re fe ag c sl (some ⟨gA, 0, none⟩) n cA z gA n cA zs (some ⟨gB, 0, none⟩) 2 cB [y0, y1] (by omega) (by omega) (by exact H7) ?_
    intro u68 u69 w9 hr9 hp9 oA oB s9 g9
    go_wp2_with fail
    refine l04Bent_ret (g := w.heap.size) (g2 := w.heap.size + 1) (by rfl) (by rfl) (by rfl) (RuAt.ofHas hr9) hp9 ⟨⟨p, s, st, sk, re, fe, ag, c, sl⟩, _, _, _, _, _, _, _, _, gA, n, cA, _, _, _, _, rfl, ⟨rfl, rfl, rfl, by omega, hn2, hn16⟩, oA.lower (by omega), oB.lower (by omega), (HNA.out 2), s9, by omega, g9⟩
  by_cases e2 : x = 2
  · subst e2
    have p0 := H4.out.kq.1.at_ 0 rfl
    have f0 := H4.out.kq.2 0
    have nc : ¬ (1 = cA) := by have := H4.out.oa.2.1; omega
    have nc2 : (1 : Int) ≤ (n : Int) := by omega
    have nc3 : (n : Int) ≤ (cA : Int) := by have := H4.out.oa.2.1; omega
    have nc4 : (1 : Int) ≤ (cA : Int) := by omega
    go_upto_region 17 with fail
    refine wp_namedS (fun w' => BS w w' b SA sn sc szs k4 d4 w.heap.size (w.heap.size + 1) rb pb (rb + 1) [.int .i64 p, .int .i64 s, .bool st, .bool sk, .bool re, .bool fe, .bool ag, .int .i64 c, .int .i64 sl] [.slice (some ⟨gA, 1, none⟩) (n - 1) (cA - 1), .slice (some ⟨gB, 0, none⟩) 2 cB, .int .i64 pl] gA n cA zs (some ⟨gB, 0, none⟩) 2 cB [y0, y1]) ?_ ?_
    · exact H4.out.setPos 0 (.slice (some ⟨gA, 1, none⟩) (n - 1) (cA - 1)) (by simp)
    clear H4 p0 f0
    rintro w6 H7
    refine bentReg17 w w6 b SA sn sc szs k4 d4 w.heap.size (w.heap.size + 1) rb pb (rb + 1) p s st sk re fe ag c sl (some ⟨gA, 1, none⟩) (n - 1) (cA - 1) pl gA n cA zs (some ⟨gB, 0, none⟩) 2 cB [y0, y1] (by omega) (by omega) (by exact H7) ?_
    intro u68 u69 w9 hr9 hp9 oA oB s9 g9
    go_wp2_with fail
    refine l04Bent_ret (g := w.heap.size) (g2 := w.heap.size + 1) (by rfl) (by rfl) (by rfl) (RuAt.ofHas hr9) hp9 ⟨⟨p, s, st, sk, re, fe, ag, c, sl⟩, _, _, _, _, _, _, _, _, gA, n, cA, _, _, _, _, rfl, ⟨rfl, rfl, rfl, by omega, hn2, hn16⟩, oA.lower (by omega), oB.lower (by omega), (HNA.out 2), s9, by omega, g9⟩
  by_cases e3 : x = 3
  · subst e3
    have HL := Lib.hid (own_lit w4 [0] 1 rfl (by omega))
    have H5 := Lib.hid (H4.out.alloc (.cells (([0] : List Int).map (Value.int .i64)).toArray 2))
    have p1 := H4.out.kq.1.at_ 1 rfl
    have sz := H4.out.size
    clear H4
    go_wp2_with (at_builtin; refine list_append64 rfl (.tmp 42) (.tmp 43) rfl (rb + 1) (some ⟨gB, 0, none⟩) 2 cB [y0, y1] (some ⟨w4.heap.size, 0, none⟩) 1 1 _ [0] (by simp [Act.eval, Act.put]) (by simp [Act.eval, Act.put]) (by exact H5.out.ob) (by exact HL.out.ints) (by omega) (by omega) (by simp; omega) ?_; intro A4 c4 w5 ho5 hg5; have H6 := H5.out.grow rfl ho5 hg5 (by omega) (by omega) rfl rfl; have p1 := H6.kq.1.at_ 1 rfl; have f1 := H6.kq.2 1)
    go_upto_region 17 with fail
    refine wp_namedS (fun w' => BS w w' b SA sn sc szs k4 d4 w.heap.size (w.heap.size + 1) rb pb (rb + 1) [.int .i64 p, .int .i64 s, .bool st, .bool sk, .bool re, .bool fe, .bool ag, .int .i64 c, .int .i64 sl] [.slice (some ⟨gA, 0, none⟩) n cA, .slice A4 (2 + 1) c4, .int .i64 pl] gA n cA zs A4 (2 + 1) c4 ([y0, y1] ++ [0])) ?_ ?_
    · exact H6.setPos 1 (.slice A4 (2 + 1) c4) (by simp)
    clear H6 p1 f1 H5 HL
    rintro w6 H7
    refine bentReg17 w w6 b SA sn sc szs k4 d4 w.heap.size (w.heap.size + 1) rb pb (rb + 1) p s st sk re fe ag c sl (some ⟨gA, 0, none⟩) n cA pl gA n cA zs A4 (2 + 1) c4 ([y0, y1] ++ [0]) (by omega) (by omega) (by exact H7) ?_
    intro u68 u69 w9 hr9 hp9 oA oB s9 g9
    go_wp2_with fail
    refine l04Bent_ret (g := w.heap.size) (g2 := w.heap.size + 1) (by rfl) (by rfl) (by rfl) (RuAt.ofHas hr9) hp9 ⟨⟨p, s, st, sk, re, fe, ag, c, sl⟩, _, _, _, _, _, _, _, _, gA, n, cA, _, _, _, _, rfl, ⟨rfl, rfl, rfl, by omega, hn2, hn16⟩, oA.lower (by omega), oB.lower (by omega), (fun e => by omega), s9, by omega, g9⟩
  by_cases e4 : x = 4
  · subst e4
    go_upto_region 14 with fail
    refine bentReg14 w w4 b SA sn sc szs k4 d4 w.heap.size (w.heap.size + 1) rb pb (rb + 1) p s st sk re fe ag c sl gA n cA zs gB cB y0 y1 pl hn16 (by omega) (by exact H4.out) ?_
    intro u48 u49 u50 u51 u52 u53 u54 u55 u56 u57 u58 u59 u60 u61 u62 u63 z k5 d5 w5 hk5 H5
    clear H4
    go_upto_region 17 with fail
    refine bentReg17 w w5 b SA sn sc szs k5 d5 w.heap.size (w.heap.size + 1) rb pb (rb + 1) p s st sk re fe ag c sl (some ⟨gA, 0, none⟩) n cA pl gA n cA zs (some ⟨gB, 0, none⟩) 2 cB [z, y1] (by omega) (by omega) (by exact H5) ?_
    intro u68 u69 w9 hr9 hp9 oA oB s9 g9
    go_wp2_with fail
    refine l04Bent_ret (g := w.heap.size) (g2 := w.heap.size + 1) (by rfl) (by rfl) (by rfl) (RuAt.ofHas hr9) hp9 ⟨⟨p, s, st, sk, re, fe, ag, c, sl⟩, _, _, _, _, _, _, _, _, gA, n, cA, _, _, _, _, rfl, ⟨rfl, rfl, rfl, by omega, hn2, hn16⟩, oA.lower (by omega), oB.lower (by omega), (HNA.out 2), s9, by omega, g9⟩
  by_cases e5 : x = 5
  · subst e5
    go_wp2_with fail
    refine (l02Bent_any b SA sn sc szs k4 d4 (by omega) _ (by exact H4.out.sr)).mono ?_
    rintro e w5 ⟨⟨p', s', st', sk', re', fe', ag', c', sl'⟩, k5, d5, rfl, s5, hk5, g5⟩
    have H6 := Lib.hid (H4.out.pick s5 g5)
    clear s5 g5 H4
    rw [show (Value.agg (Ru.cells ⟨p', s', st', sk', re', fe', ag', c', sl'⟩).toArray) = .agg #[.int .i64 p', .int .i64 s', .bool st', .bool sk', .bool re', .bool fe', .bool ag', .int .i64 c', .int .i64 sl'] from rfl]
    have r0 := H6.out.kv.1.at_ 0 rfl
    have f0 := H6.out.kv.2 0
    have r1 := H6.out.kv.1.at_ 1 rfl
    have f1 := H6.out.kv.2 1
    have r2 := H6.out.kv.1.at_ 2 rfl
    have f2 := H6.out.kv.2 2
    have r3 := H6.out.kv.1.at_ 3 rfl
    have f3 := H6.out.kv.2 3
    have r4 := H6.out.kv.1.at_ 4 rfl
    have f4 := H6.out.kv.2 4
    have r5 := H6.out.kv.1.at_ 5 rfl
    have f5 := H6.out.kv.2 5
    have r6 := H6.out.kv.1.at_ 6 rfl
    have f6 := H6.out.kv.2 6
    have r7 := H6.out.kv.1.at_ 7 rfl
    have f7 := H6.out.kv.2 7
    have r8 := H6.out.kv.1.at_ 8 rfl
    have f8 := H6.out.kv.2 8
    go_upto_region 17 with fail
    refine wp_namedS (fun w' => BS w w' b SA sn sc szs k5 d5 w.heap.size (w.heap.size + 1) rb pb (rb + 1) [.int .i64 p', .int .i64 s', .bool st', .bool sk', .bool re', .bool fe', .bool ag', .int .i64 c', .int .i64 sl'] [.slice (some ⟨gA, 0, none⟩) n cA, .slice (some ⟨gB, 0, none⟩) 2 cB, .int .i64 pl] gA n cA zs (some ⟨gB, 0, none⟩) 2 cB [y0, y1]) ?_ ?_
    · exact (((((((((H6.out.setRu 0 (.int .i64 p') (by simp)).setRu 1 (.int .i64 s') (by simp)).setRu 2 (.bool st') (by simp)).setRu 3 (.bool sk') (by simp)).setRu 4 (.bool re') (by simp)).setRu 5 (.bool fe') (by simp)).setRu 6 (.bool ag') (by simp)).setRu 7 (.int .i64 c') (by simp)).setRu 8 (.int .i64 sl') (by simp))
    clear H6 r0 f0 r1 f1 r2 f2 r3 f3 r4 f4 r5 f5 r6 f6 r7 f7 r8 f8
    rintro w6 H7
    refine bentReg17 w w6 b SA sn sc szs k5 d5 w.heap.size (w.heap.size + 1) rb pb (rb + 1) p' s' st' sk' re' fe' ag' c' sl' (some ⟨gA, 0, none⟩) n cA pl gA n cA zs (some ⟨gB, 0, none⟩) 2 cB [y0, y1] (by omega) (by omega) (by exact H7) ?_
    intro u68 u69 w9 hr9 hp9 oA oB s9 g9
    go_wp2_with fail
    refine l04Bent_ret (g := w.heap.size) (g2 := w.heap.size + 1) (by rfl) (by rfl) (by rfl) (RuAt.ofHas hr9) hp9 ⟨⟨p', s', st', sk', re', fe', ag', c', sl'⟩, _, _, _, _, _, _, _, _, gA, n, cA, _, _, _, _, rfl, ⟨rfl, rfl, rfl, by omega, hn2, hn16⟩, oA.lower (by omega), oB.lower (by omega), (HNA.out 2), s9, by omega, g9⟩
  go_upto_region 17 with fail
  refine bentReg17 w w4 b SA sn sc szs k4 d4 w.heap.size (w.heap.size + 1) rb pb (rb + 1) p s st sk re fe ag c sl (some ⟨gA, 0, none⟩) n cA pl gA n cA zs (some ⟨gB, 0, none⟩) 2 cB [y0, y1] (by omega) (by omega) (by exact H4.out) ?_
  intro u68 u69 w9 hr9 hp9 oA oB s9 g9
  go_wp2_with fail
  refine l04Bent_ret (g := w.heap.size) (g2 := w.heap.size + 1) (by rfl) (by rfl) (by rfl) (RuAt.ofHas hr9) hp9 ⟨⟨p, s, st, sk, re, fe, ag, c, sl⟩, _, _, _, _, _, _, _, _, gA, n, cA, _, _, _, _, rfl, ⟨rfl, rfl, rfl, by omega, hn2, hn16⟩, oA.lower (by omega), oB.lower (by omega), (HNA.out 2), s9, by omega, g9⟩
end Go.Proofs.Ytnanaldolnehiaa
