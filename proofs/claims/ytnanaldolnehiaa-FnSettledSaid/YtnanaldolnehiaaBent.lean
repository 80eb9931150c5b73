/-
  Rules that are drawn and seldom bent; one of some numbers.
-/
import Derived.Test.YtnanaldolnehiaaDraw
import Derived.Test.YtnanaldolnehiaaGame2
set_option linter.unusedSimpArgs false
set_option linter.unusedVariables false
namespace Go.Proofs.Ytnanaldolnehiaa
open Go.ChangeShapes Go.WideShapes Go.RowKit Go.Deep

theorem OutAt.grown {w w' : World} {g b : Nat} {cs : List Value} (h : OutAt w g cs) (hg : w.grownBy w' (some b)) (hne : ¬ (g = b)) : OutAt w' g cs := by
  have e : w'.heap[g]? = w.heap[g]? := hg.block g h.1.1 (fun e => hne (by injection e))
  refine ⟨⟨Nat.lt_of_lt_of_le h.1.1 hg.size, fun i v hv => ?_⟩, fun i => ?_⟩
  · have := h.1.2 i v hv
    exact (World.cell?_of_block (a := ⟨g, i, none⟩) e).trans this
  · have := h.2 i
    unfold World.frozen? at *
    simp only [e]
    exact this
theorem Own.src {w w' : World} {base n c b : Nat} {A : Option Addr} {zs : List Int} (h : Own w base A n c zs) (hg : w.grownBy w' (some b)) (hb : b < base) : Own w' base A n c zs := h.kept hg (fun g e => .inl (by injection e with e; omega))
/-- A literal list of numbers. -/
theorem own_lit (w : World) (zs : List Int) (n : Nat) (hn : zs.length = n) (hm : n ≤ 4294967296) : Own (w.alloc (.cells (zs.map (Value.int .i64)).toArray 2)) w.heap.size (some ⟨w.heap.size, 0, none⟩) n n zs := by
  refine ⟨hn, Nat.le_refl _, by omega, ?_⟩
  have := World.ownsRow_lit (base := w.heap.size) (e := 2) (size := 1) w (zs.map (Value.int .i64)).toArray n (Nat.le_refl _) (by unfold maxLen; omega) (by simp [hn])
  simpa using this
theorem among_any (b : Nat) (A : Option Addr) (n c : Nat) (zs : List Int) (k : Nat) (sd : Int) (A' : Option Addr) (m c' : Nat) (l : List Int) (hk : k ≤ 549755813888) (h0 : 1 ≤ m) (hm : m ≤ 4294967296) (w : World) (h : Src w b A n c zs k sd) (ho : Own w (b + 1) A' m c' l) : Calls Try.prog 168 #[.pointer (some ⟨b, 0, none⟩), .slice A' m c'] w fun e w' => ∃ (z : Int) (k' : Nat) (sd' : Int), e = .returned (.int .i64 z) ∧ Src w' b A n c zs k' sd' ∧ k' ≤ k + 2 ∧ w.grownBy w' (some b) := by
  have H := Lib.hid h
  have HO := Lib.hid ho
  obtain ⟨b0, b1, b2⟩ := pk_bd zs k sd m (by omega)
  have HB2 := Lib.hid b2
  clear h ho b2
  go_enter Try.func168, Try.ntmps168
  go_wp2_with fail
  refine (pick_any b A n c zs k sd m hk (by omega) (by omega) _ (by exact H.out)).mono ?_
  rintro e w1 ⟨rfl, s1, g1⟩
  have HS := Lib.hid s1
  have HG := Lib.hid g1
  have HO1 := Lib.hid (HO.out.kept g1 (fun g e => .inl (by injection e with e; omega)))
  clear s1 g1
  obtain ⟨x, hx⟩ : ∃ x : Nat, (pk zs k sd m).1 = (x : Int) := ⟨(pk zs k sd m).1.toNat, by omega⟩
  rw [hx] at b0 b1 ⊢
  obtain ⟨t, ht⟩ := get_some (zs := l) (k := x) (by rw [HO1.out.len]; omega)
  obtain ⟨bb, off, rfl, -, hc⟩ := HO1.out.ints.at_ (by omega)
  have cx := hc x t ht
  clear hc ht hx
  go_wp2_with fail
  go_ret
  exact ⟨t, _, _, rfl, HS.out, HB2.out, HG.out⟩
theorem l02Bent_ret {Post : Ending → World → Prop} {a : Act} {W : World} {g : Nat} {p s : Int} {st sk re fe ag : Bool} {c sl : Int} (ha : a.tmps.getD 2 undef = .pointer (some ⟨g, 0, none⟩)) (hd : a.defers = []) (hr : RuAt W g 0 ⟨p, s, st, sk, re, fe, ag, c, sl⟩) (hP : Post (.returned (.agg #[.int .i64 p, .int .i64 s, .bool st, .bool sk, .bool re, .bool fe, .bool ag, .int .i64 c, .int .i64 sl])) W) : bodyPost Try.prog Try.f169 Post Exit.ret a W := by
  obtain ⟨c0, c1, c2, c3, c4, c5, c6, c7, c8⟩ := hr.flat
  refine bodyPost_ret (v := .agg #[.int .i64 p, .int .i64 s, .bool st, .bool sk, .bool re, .bool fe, .bool ag, .int .i64 c, .int .i64 sl]) ?_ hd hP
  obtain ⟨tmps, defers⟩ := a
  simp only [Array.getD_eq_getD_getElem?] at ha
  simp [results, Try.results169, go_sem, ha, c0, c1, c2, c3, c4, c5, c6, c7, c8]
set_option maxRecDepth 100000 in
set_option maxHeartbeats 16000000 in
theorem l02Bent_any (b : Nat) (A : Option Addr) (n cc : Nat) (zs : List Int) (k : Nat) (sd : Int) (hk : k ≤ 1048576) (w : World) (h : Src w b A n cc zs k sd) : Calls Try.prog 169 #[.pointer (some ⟨b, 0, none⟩)] w fun e w' => ∃ (r : Ru) (k' : Nat) (sd' : Int), e = .returned (.agg r.cells.toArray) ∧ Src w' b A n cc zs k' sd' ∧ k' ≤ k + 60 ∧ w.grownBy w' (some b) := by
  have hlt := h.lt
  have S0 := Lib.hid (h.alloc (.cells #[.int .i64 0, .int .i64 0, .bool false, .bool false, .bool false, .bool false, .bool false, .int .i64 0, .int .i64 0] 31))
  have Z0 := Lib.hid (RX.box w 31 0 0 false false false false false 0 0)
  have G0 := Lib.hid (grown_alloc (World.grownBy.refl w (some b)) (.cells #[.int .i64 0, .int .i64 0, .bool false, .bool false, .bool false, .bool false, .bool false, .int .i64 0, .int .i64 0] 31))
  clear h
  have ne : ¬ (w.heap.size = b) := by omega
  go_enter Try.func169, Try.ntmps169
  go_wp2_with fail
  refine (l02Draw_any b A n cc zs k sd hk _ (by exact S0.out)).mono ?_
  rintro e w1 ⟨r, k1, d1, rfl, hr, s1, hk1, g1⟩
  have z1 := g1.size
  rw [show (w.alloc (.cells #[.int .i64 0, .int .i64 0, .bool false, .bool false, .bool false, .bool false, .bool false, .int .i64 0, .int .i64 0] 31)).heap.size = w.heap.size + 1 by simp] at z1
  obtain ⟨p, s, st, sk, re, fe, ag, c, sl⟩ := r
  have Z1 := Lib.hid ((Z0.out.grown g1 ne).alloc (.cells #[.int .i64 p, .int .i64 s, .bool st, .bool sk, .bool re, .bool fe, .bool ag, .int .i64 c, .int .i64 sl] 31))
  have G1 := Lib.hid (grown_alloc (gr_trans G0.out g1) (.cells #[.int .i64 p, .int .i64 s, .bool st, .bool sk, .bool re, .bool fe, .bool ag, .int .i64 c, .int .i64 sl] 31))
  have S1 := Lib.hid (s1.alloc (.cells #[.int .i64 p, .int .i64 s, .bool st, .bool sk, .bool re, .bool fe, .bool ag, .int .i64 c, .int .i64 sl] 31))
  have R1 := Lib.hid (RX.box w1 31 p s st sk re fe ag c sl)
  have l1 := s1.lt
  clear s1 g1 S0 Z0 G0 hr
  obtain ⟨rb, hrb⟩ : ∃ x, x = w1.heap.size := ⟨_, rfl⟩
  have sz2 : (w1.alloc (.cells #[.int .i64 p, .int .i64 s, .bool st, .bool sk, .bool re, .bool fe, .bool ag, .int .i64 c, .int .i64 sl] 31)).heap.size = rb + 1 := by rw [hrb]; simp
  rw [← hrb] at R1 z1
  rw [show (Value.agg (Ru.cells ⟨p, s, st, sk, re, fe, ag, c, sl⟩).toArray) = .agg #[.int .i64 p, .int .i64 s, .bool st, .bool sk, .bool re, .bool fe, .bool ag, .int .i64 c, .int .i64 sl] from rfl]
  go_wp2_with fail
  refine (pick_any b A n cc zs k1 d1 24 (by omega) (by omega) (by omega) _ (by exact S1.out)).mono ?_
  rintro e W ⟨rfl, s2, g2⟩
  rw [← hrb]
  have z2 := g2.size
  rw [sz2] at z2
  obtain ⟨x0, x1, x2⟩ := pk_bd zs k1 d1 24 (by omega)
  have R2 := Lib.hid (R1.out.grown g2 (by omega))
  have Z2 := Lib.hid (Z1.out.grown g2 ne)
  have G2 := Lib.hid (gr_trans G1.out g2)
  have S2 := Lib.hid s2
  clear s2 g2 S1 Z1 G1 R1 sz2 l1
  have HRB := Lib.hid hrb
  clear hrb
  generalize (pk zs k1 d1 24).1 = x at *
  generalize (pk zs k1 d1 24).2.1 = k2 at *
  generalize (pk zs k1 d1 24).2.2 = d2 at *
  by_cases e0 : x = 0
  · subst e0
    have ho := Lib.hid (own_lit W [1, 2, 8, 9, -9223372036854775808] 5 rfl (by omega))
    have S4 := Lib.hid (S2.out.alloc (.cells (([1, 2, 8, 9, -9223372036854775808] : List Int).map (Value.int .i64)).toArray 2))
    have R4 := Lib.hid (R2.out.alloc (.cells (([1, 2, 8, 9, -9223372036854775808] : List Int).map (Value.int .i64)).toArray 2))
    have Z4 := Lib.hid (Z2.out.alloc (.cells (([1, 2, 8, 9, -9223372036854775808] : List Int).map (Value.int .i64)).toArray 2))
    have G4 := Lib.hid (grown_alloc G2.out (.cells (([1, 2, 8, 9, -9223372036854775808] : List Int).map (Value.int .i64)).toArray 2))
    clear S2 R2 Z2 G2
    go_wp2_with fail
    refine (among_any b A n cc zs k2 d2 _ 5 5 [1, 2, 8, 9, -9223372036854775808] (by omega) (by omega) (by omega) _ (by exact S4.out) (by exact ho.out.lower (by omega))).mono ?_
    rintro e w5 ⟨z, k5, d5, rfl, s5, hk5, g5⟩
    have R5 := Lib.hid (R4.out.grown g5 (by omega))
    have Z5 := Lib.hid (Z4.out.grown g5 (by omega))
    have G5 := Lib.hid (gr_trans G4.out g5)
    have S5 := Lib.hid s5
    clear s5 g5 S4 R4 Z4 G4 ho
    have q := R5.out.1
    obtain ⟨c0, c1, c2, c3, c4, c5, c6, c7, c8⟩ := q.flat
    clear q
    have fq := R5.out.2 0
    go_upto_region 14 with fail
    refine wp_namedS (fun w' => RX w' rb (⟨z, s, st, sk, re, fe, ag, c, sl⟩) ∧ RX w' w.heap.size ⟨0, 0, false, false, false, false, false, 0, 0⟩ ∧ Src w' b A n cc zs k5 d5 ∧ w.grownBy w' (some b)) ?_ ?_
    · exact ⟨R5.out.set0 _, Z5.out.other _ (by show ¬ (rb = w.heap.size); omega) _, S5.out.other (by show b < rb; omega) _, grown_set G5.out _ (by show w.heap.size ≤ rb; omega) _⟩
    clear R5 Z5 S5 G5 c0 c1 c2 c3 c4 c5 c6 c7 c8 fq
    rintro w6 ⟨RF, ZF, SF, GF⟩
    obtain ⟨c0, c1, c2, c3, c4, c5, c6, c7, c8⟩ := RF.1
    obtain ⟨z0, z1, z2, z3, z4, z5, z6, z7, z8⟩ := ZF.1
    simp only [Nat.zero_add] at c0 c1 c2 c3 c4 c5 c6 c7 c8 z0 z1 z2 z3 z4 z5 z6 z7 z8
    have f0 := ZF.2 0
    have f1 := ZF.2 1
    have f2 := ZF.2 2
    have f3 := ZF.2 3
    have f4 := ZF.2 4
    have f5 := ZF.2 5
    have f6 := ZF.2 6
    have f7 := ZF.2 7
    have f8 := ZF.2 8
    have HR := Lib.hid (((((((((ZF.set0 z).set1 s).set2 st).set3 sk).set4 re).set5 fe).set6 ag).set7 c).set8 sl).1
    have HG := Lib.hid GF
    have HS := Lib.hid SF
    clear GF SF
    go_wp2_with fail
    refine l02Bent_ret (g := w.heap.size) (by rfl) (by rfl) HR.out ⟨⟨z, s, st, sk, re, fe, ag, c, sl⟩, k5, d5, rfl, ?_, ?_, ?_⟩
    · repeat (with_reducible refine Src.other ?_ (by show b < w.heap.size; exact hlt) _)
      exact HS.out
    · omega
    · repeat (with_reducible refine grown_set ?_ _ (by show w.heap.size ≤ w.heap.size; exact Nat.le_refl _) _)
      exact HG.out
  by_cases e1 : x = 1
  · subst e1
    have ho := Lib.hid (own_lit W [0, 1, 6, 7] 4 rfl (by omega))
    have S4 := Lib.hid (S2.out.alloc (.cells (([0, 1, 6, 7] : List Int).map (Value.int .i64)).toArray 2))
    have R4 := Lib.hid (R2.out.alloc (.cells (([0, 1, 6, 7] : List Int).map (Value.int .i64)).toArray 2))
    have Z4 := Lib.hid (Z2.out.alloc (.cells (([0, 1, 6, 7] : List Int).map (Value.int .i64)).toArray 2))
    have G4 := Lib.hid (grown_alloc G2.out (.cells (([0, 1, 6, 7] : List Int).map (Value.int .i64)).toArray 2))
    clear S2 R2 Z2 G2
    go_wp2_with fail
    refine (among_any b A n cc zs k2 d2 _ 4 4 [0, 1, 6, 7] (by omega) (by omega) (by omega) _ (by exact S4.out) (by exact ho.out.lower (by omega))).mono ?_
    rintro e w5 ⟨z, k5, d5, rfl, s5, hk5, g5⟩
    have R5 := Lib.hid (R4.out.grown g5 (by omega))
    have Z5 := Lib.hid (Z4.out.grown g5 (by omega))
    have G5 := Lib.hid (gr_trans G4.out g5)
    have S5 := Lib.hid s5
    clear s5 g5 S4 R4 Z4 G4 ho
    have q := R5.out.1
    obtain ⟨c0, c1, c2, c3, c4, c5, c6, c7, c8⟩ := q.flat
    clear q
    have fq := R5.out.2 1
    go_upto_region 14 with fail
    refine wp_namedS (fun w' => RX w' rb (⟨p, z, st, sk, re, fe, ag, c, sl⟩) ∧ RX w' w.heap.size ⟨0, 0, false, false, false, false, false, 0, 0⟩ ∧ Src w' b A n cc zs k5 d5 ∧ w.grownBy w' (some b)) ?_ ?_
    · exact ⟨R5.out.set1 _, Z5.out.other _ (by show ¬ (rb = w.heap.size); omega) _, S5.out.other (by show b < rb; omega) _, grown_set G5.out _ (by show w.heap.size ≤ rb; omega) _⟩
    clear R5 Z5 S5 G5 c0 c1 c2 c3 c4 c5 c6 c7 c8 fq
    rintro w6 ⟨RF, ZF, SF, GF⟩
    obtain ⟨c0, c1, c2, c3, c4, c5, c6, c7, c8⟩ := RF.1
    obtain ⟨z0, z1, z2, z3, z4, z5, z6, z7, z8⟩ := ZF.1
    simp only [Nat.zero_add] at c0 c1 c2 c3 c4 c5 c6 c7 c8 z0 z1 z2 z3 z4 z5 z6 z7 z8
    have f0 := ZF.2 0
    have f1 := ZF.2 1
    have f2 := ZF.2 2
    have f3 := ZF.2 3
    have f4 := ZF.2 4
    have f5 := ZF.2 5
    have f6 := ZF.2 6
    have f7 := ZF.2 7
    have f8 := ZF.2 8
    have HR := Lib.hid (((((((((ZF.set0 p).set1 z).set2 st).set3 sk).set4 re).set5 fe).set6 ag).set7 c).set8 sl).1
    have HG := Lib.hid GF
    have HS := Lib.hid SF
    clear GF SF
    go_wp2_with fail
    refine l02Bent_ret (g := w.heap.size) (by rfl) (by rfl) HR.out ⟨⟨p, z, st, sk, re, fe, ag, c, sl⟩, k5, d5, rfl, ?_, ?_, ?_⟩
    · repeat (with_reducible refine Src.other ?_ (by show b < w.heap.size; exact hlt) _)
      exact HS.out
    · omega
    · repeat (with_reducible refine grown_set ?_ _ (by show w.heap.size ≤ w.heap.size; exact Nat.le_refl _) _)
      exact HG.out
  by_cases e2 : x = 2
  · subst e2
    have ho := Lib.hid (own_lit W [-1, 4, 0, 3] 4 rfl (by omega))
    have S4 := Lib.hid (S2.out.alloc (.cells (([-1, 4, 0, 3] : List Int).map (Value.int .i64)).toArray 2))
    have R4 := Lib.hid (R2.out.alloc (.cells (([-1, 4, 0, 3] : List Int).map (Value.int .i64)).toArray 2))
    have Z4 := Lib.hid (Z2.out.alloc (.cells (([-1, 4, 0, 3] : List Int).map (Value.int .i64)).toArray 2))
    have G4 := Lib.hid (grown_alloc G2.out (.cells (([-1, 4, 0, 3] : List Int).map (Value.int .i64)).toArray 2))
    clear S2 R2 Z2 G2
    go_wp2_with fail
    refine (among_any b A n cc zs k2 d2 _ 4 4 [-1, 4, 0, 3] (by omega) (by omega) (by omega) _ (by exact S4.out) (by exact ho.out.lower (by omega))).mono ?_
    rintro e w5 ⟨z, k5, d5, rfl, s5, hk5, g5⟩
    have R5 := Lib.hid (R4.out.grown g5 (by omega))
    have Z5 := Lib.hid (Z4.out.grown g5 (by omega))
    have G5 := Lib.hid (gr_trans G4.out g5)
    have S5 := Lib.hid s5
    clear s5 g5 S4 R4 Z4 G4 ho
    have q := R5.out.1
    obtain ⟨c0, c1, c2, c3, c4, c5, c6, c7, c8⟩ := q.flat
    clear q
    have fq := R5.out.2 7
    go_upto_region 14 with fail
    refine wp_namedS (fun w' => RX w' rb (⟨p, s, st, sk, re, fe, ag, z, sl⟩) ∧ RX w' w.heap.size ⟨0, 0, false, false, false, false, false, 0, 0⟩ ∧ Src w' b A n cc zs k5 d5 ∧ w.grownBy w' (some b)) ?_ ?_
    · exact ⟨R5.out.set7 _, Z5.out.other _ (by show ¬ (rb = w.heap.size); omega) _, S5.out.other (by show b < rb; omega) _, grown_set G5.out _ (by show w.heap.size ≤ rb; omega) _⟩
    clear R5 Z5 S5 G5 c0 c1 c2 c3 c4 c5 c6 c7 c8 fq
    rintro w6 ⟨RF, ZF, SF, GF⟩
    obtain ⟨c0, c1, c2, c3, c4, c5, c6, c7, c8⟩ := RF.1
    obtain ⟨z0, z1, z2, z3, z4, z5, z6, z7, z8⟩ := ZF.1
    simp only [Nat.zero_add] at c0 c1 c2 c3 c4 c5 c6 c7 c8 z0 z1 z2 z3 z4 z5 z6 z7 z8
    have f0 := ZF.2 0
    have f1 := ZF.2 1
    have f2 := ZF.2 2
    have f3 := ZF.2 3
    have f4 := ZF.2 4
    have f5 := ZF.2 5
    have f6 := ZF.2 6
    have f7 := ZF.2 7
    have f8 := ZF.2 8
    have HR := Lib.hid (((((((((ZF.set0 p).set1 s).set2 st).set3 sk).set4 re).set5 fe).set6 ag).set7 z).set8 sl).1
    have HG := Lib.hid GF
    have HS := Lib.hid SF
    clear GF SF
    go_wp2_with fail
    refine l02Bent_ret (g := w.heap.size) (by rfl) (by rfl) HR.out ⟨⟨p, s, st, sk, re, fe, ag, z, sl⟩, k5, d5, rfl, ?_, ?_, ?_⟩
    · repeat (with_reducible refine Src.other ?_ (by show b < w.heap.size; exact hlt) _)
      exact HS.out
    · omega
    · repeat (with_reducible refine grown_set ?_ _ (by show w.heap.size ≤ w.heap.size; exact Nat.le_refl _) _)
      exact HG.out
  by_cases e3 : x = 3
  · subst e3
    have ho := Lib.hid (own_lit W [-1, 3, 2] 3 rfl (by omega))
    have S4 := Lib.hid (S2.out.alloc (.cells (([-1, 3, 2] : List Int).map (Value.int .i64)).toArray 2))
    have R4 := Lib.hid (R2.out.alloc (.cells (([-1, 3, 2] : List Int).map (Value.int .i64)).toArray 2))
    have Z4 := Lib.hid (Z2.out.alloc (.cells (([-1, 3, 2] : List Int).map (Value.int .i64)).toArray 2))
    have G4 := Lib.hid (grown_alloc G2.out (.cells (([-1, 3, 2] : List Int).map (Value.int .i64)).toArray 2))
    clear S2 R2 Z2 G2
    go_wp2_with fail
    refine (among_any b A n cc zs k2 d2 _ 3 3 [-1, 3, 2] (by omega) (by omega) (by omega) _ (by exact S4.out) (by exact ho.out.lower (by omega))).mono ?_
    rintro e w5 ⟨z, k5, d5, rfl, s5, hk5, g5⟩
    have R5 := Lib.hid (R4.out.grown g5 (by omega))
    have Z5 := Lib.hid (Z4.out.grown g5 (by omega))
    have G5 := Lib.hid (gr_trans G4.out g5)
    have S5 := Lib.hid s5
    clear s5 g5 S4 R4 Z4 G4 ho
    have q := R5.out.1
    obtain ⟨c0, c1, c2, c3, c4, c5, c6, c7, c8⟩ := q.flat
    clear q
    have fq := R5.out.2 8
    go_upto_region 14 with fail
    refine wp_namedS (fun w' => RX w' rb (⟨p, s, st, sk, re, fe, ag, c, z⟩) ∧ RX w' w.heap.size ⟨0, 0, false, false, false, false, false, 0, 0⟩ ∧ Src w' b A n cc zs k5 d5 ∧ w.grownBy w' (some b)) ?_ ?_
    · exact ⟨R5.out.set8 _, Z5.out.other _ (by show ¬ (rb = w.heap.size); omega) _, S5.out.other (by show b < rb; omega) _, grown_set G5.out _ (by show w.heap.size ≤ rb; omega) _⟩
    clear R5 Z5 S5 G5 c0 c1 c2 c3 c4 c5 c6 c7 c8 fq
    rintro w6 ⟨RF, ZF, SF, GF⟩
    obtain ⟨c0, c1, c2, c3, c4, c5, c6, c7, c8⟩ := RF.1
    obtain ⟨z0, z1, z2, z3, z4, z5, z6, z7, z8⟩ := ZF.1
    simp only [Nat.zero_add] at c0 c1 c2 c3 c4 c5 c6 c7 c8 z0 z1 z2 z3 z4 z5 z6 z7 z8
    have f0 := ZF.2 0
    have f1 := ZF.2 1
    have f2 := ZF.2 2
    have f3 := ZF.2 3
    have f4 := ZF.2 4
    have f5 := ZF.2 5
    have f6 := ZF.2 6
    have f7 := ZF.2 7
    have f8 := ZF.2 8
    have HR := Lib.hid (((((((((ZF.set0 p).set1 s).set2 st).set3 sk).set4 re).set5 fe).set6 ag).set7 c).set8 z).1
    have HG := Lib.hid GF
    have HS := Lib.hid SF
    clear GF SF
    go_wp2_with fail
    refine l02Bent_ret (g := w.heap.size) (by rfl) (by rfl) HR.out ⟨⟨p, s, st, sk, re, fe, ag, c, z⟩, k5, d5, rfl, ?_, ?_, ?_⟩
    · repeat (with_reducible refine Src.other ?_ (by show b < w.heap.size; exact hlt) _)
      exact HS.out
    · omega
    · repeat (with_reducible refine grown_set ?_ _ (by show w.heap.size ≤ w.heap.size; exact Nat.le_refl _) _)
      exact HG.out
  by_cases e4 : x = 4
  · subst e4
    have q := R2.out.1
    obtain ⟨c0, c1, c2, c3, c4, c5, c6, c7, c8⟩ := q.flat
    clear q
    have fq := R2.out.2 6
    go_upto_region 13 with fail
    refine wp_namedS (fun w' => RX w' rb ⟨p, s, st, sk, re, fe, true, c, sl⟩ ∧ RX w' w.heap.size ⟨0, 0, false, false, false, false, false, 0, 0⟩ ∧ Src w' b A n cc zs k2 d2 ∧ w.grownBy w' (some b)) ?_ ?_
    · exact ⟨R2.out.set6 _, Z2.out.other _ (by show ¬ (rb = w.heap.size); omega) _, S2.out.other (by show b < rb; omega) _, grown_set G2.out _ (by show w.heap.size ≤ rb; omega) _⟩
    clear R2 Z2 S2 G2 c0 c1 c2 c3 c4 c5 c6 c7 c8 fq
    rintro w3 ⟨R3, Z3, S3, G3⟩
    obtain ⟨v, hv⟩ : ∃ v, decide ((pk zs k2 d2 2).1 = 0) = v := ⟨_, rfl⟩
    have HV := Lib.hid hv
    clear hv
    have bd := (pk_bd zs k2 d2 2 (by omega)).2.2
    go_wp2_with fail
    refine (one_any b A n cc zs k2 d2 2 (by omega) (by omega) (by omega) v HV.out _ (by exact S3)).mono ?_
    rintro e w5 ⟨rfl, s5, g5⟩
    have R5 := R3.grown g5 (by omega)
    have Z5 := Z3.grown g5 (by omega)
    have G5 := gr_trans G3 g5
    clear S3 R3 Z3 G3 g5
    generalize (pk zs k2 d2 2).2.1 = k5 at *
    generalize (pk zs k2 d2 2).2.2 = d5 at *
    have q := R5.1
    obtain ⟨c0, c1, c2, c3, c4, c5, c6, c7, c8⟩ := q.flat
    clear q
    have fq := R5.2 2
    go_upto_region 14 with fail
    refine wp_namedS (fun w' => RX w' rb ⟨p, s, v, sk, re, fe, true, c, sl⟩ ∧ RX w' w.heap.size ⟨0, 0, false, false, false, false, false, 0, 0⟩ ∧ Src w' b A n cc zs k5 d5 ∧ w.grownBy w' (some b)) ?_ ?_
    · exact ⟨R5.set2 _, Z5.other _ (by show ¬ (rb = w.heap.size); omega) _, s5.other (by show b < rb; omega) _, grown_set G5 _ (by show w.heap.size ≤ rb; omega) _⟩
    clear R5 Z5 s5 G5 c0 c1 c2 c3 c4 c5 c6 c7 c8 fq
    rintro w6 ⟨RF, ZF, SF, GF⟩
    obtain ⟨c0, c1, c2, c3, c4, c5, c6, c7, c8⟩ := RF.1
    obtain ⟨z0, z1, z2, z3, z4, z5, z6, z7, z8⟩ := ZF.1
    simp only [Nat.zero_add] at c0 c1 c2 c3 c4 c5 c6 c7 c8 z0 z1 z2 z3 z4 z5 z6 z7 z8
    have f0 := ZF.2 0
    have f1 := ZF.2 1
    have f2 := ZF.2 2
    have f3 := ZF.2 3
    have f4 := ZF.2 4
    have f5 := ZF.2 5
    have f6 := ZF.2 6
    have f7 := ZF.2 7
    have f8 := ZF.2 8
    have HR := Lib.hid (((((((((ZF.set0 p).set1 s).set2 v).set3 sk).set4 re).set5 fe).set6 true).set7 c).set8 sl).1
    have HG := Lib.hid GF
    have HS := Lib.hid SF
    clear GF SF
    go_wp2_with fail
    refine l02Bent_ret (g := w.heap.size) (by rfl) (by rfl) HR.out ⟨⟨p, s, v, sk, re, fe, true, c, sl⟩, k5, d5, rfl, ?_, ?_, ?_⟩
    · repeat (with_reducible refine Src.other ?_ (by show b < w.heap.size; exact hlt) _)
      exact HS.out
    · omega
    · repeat (with_reducible refine grown_set ?_ _ (by show w.heap.size ≤ w.heap.size; exact Nat.le_refl _) _)
      exact HG.out
  have RF := R2.out
  have ZF := Z2.out
  have SF := S2.out
  have GF := G2.out
  clear R2 Z2 S2 G2
  obtain ⟨c0, c1, c2, c3, c4, c5, c6, c7, c8⟩ := RF.1
  obtain ⟨z0, z1, z2, z3, z4, z5, z6, z7, z8⟩ := ZF.1
  simp only [Nat.zero_add] at c0 c1 c2 c3 c4 c5 c6 c7 c8 z0 z1 z2 z3 z4 z5 z6 z7 z8
  have f0 := ZF.2 0
  have f1 := ZF.2 1
  have f2 := ZF.2 2
  have f3 := ZF.2 3
  have f4 := ZF.2 4
  have f5 := ZF.2 5
  have f6 := ZF.2 6
  have f7 := ZF.2 7
  have f8 := ZF.2 8
  have HR := Lib.hid (((((((((ZF.set0 p).set1 s).set2 st).set3 sk).set4 re).set5 fe).set6 ag).set7 c).set8 sl).1
  have HG := Lib.hid GF
  have HS := Lib.hid SF
  clear GF SF
  go_wp2_with fail
  refine l02Bent_ret (g := w.heap.size) (by rfl) (by rfl) HR.out ⟨⟨p, s, st, sk, re, fe, ag, c, sl⟩, k2, d2, rfl, ?_, ?_, ?_⟩
  · repeat (with_reducible refine Src.other ?_ (by show b < w.heap.size; exact hlt) _)
    exact HS.out
  · omega
  · repeat (with_reducible refine grown_set ?_ _ (by show w.heap.size ≤ w.heap.size; exact Nat.le_refl _) _)
    exact HG.out
end Go.Proofs.Ytnanaldolnehiaa
