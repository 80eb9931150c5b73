/-
  The law FnPits, walked.
-/
import Derived.Test.YtnanaldolnehiaaDraw
import Derived.Test.YtnanaldolnehiaaPits
import Derived.Test.YtnanaldolnehiaaValid
set_option linter.unusedSimpArgs false
set_option linter.unusedVariables false
namespace Go.Proofs.Ytnanaldolnehiaa
open Go.ChangeShapes Go.WideShapes Go.RowKit Go.Deep

theorem pc0 {r : Ru} {x : Int} (hr : okR r = true) (h0 : 0 ≤ x) (h1 : x < 2 * r.pits) : pitCodeF r x = 0 := by
  rw [pitCodeF, if_pos hr, if_pos (by simp [inB]; omega)]
theorem np {r : Ru} {x : Int} (hr : okR r = true) (h0 : 0 ≤ x) (h1 : x < 2 * r.pits) : nextPitF r x = ((x + 1) % (2 * r.pits), 0) := by rw [nextPitF, if_pos (pc0 hr h0 h1)]
theorem mp {r : Ru} {x : Int} (hr : okR r = true) (h0 : 0 ≤ x) (h1 : x < 2 * r.pits) : moveOfPitF r x = (x % r.pits, 0) := by rw [moveOfPitF, if_pos (pc0 hr h0 h1)]
theorem op {r : Ru} {x : Int} (hr : okR r = true) (h0 : 0 ≤ x) (h1 : x < 2 * r.pits) : oppositePitF r x = (2 * r.pits - 1 - x, 0) := by rw [oppositePitF, if_pos (pc0 hr h0 h1)]
theorem ow {r : Ru} {x : Int} (hr : okR r = true) (h0 : 0 ≤ x) (h1 : x < 2 * r.pits) : ownerOfF r x = (x / r.pits, 0) := by rw [ownerOfF, if_pos (pc0 hr h0 h1)]
theorem owner_bd {x p : Int} (hp : 2 ≤ p) (h0 : 0 ≤ x) (h1 : x < 2 * p) : x / p = 0 ∧ x < p ∨ x / p = 1 ∧ p ≤ x := by
  rcases Int.lt_or_le x p with h | h
  · exact .inl ⟨Int.ediv_eq_zero_of_lt h0 h, h⟩
  · refine .inr ⟨?_, h⟩
    have : x = (x - p) + p := by omega
    rw [this, Int.add_ediv_of_dvd_right (Int.dvd_refl p), Int.ediv_self (by omega), Int.ediv_eq_zero_of_lt (by omega) (by omega)]
    rfl
theorem pm {r : Ru} {x : Int} (hr : okR r = true) (h0 : 0 ≤ x) (h1 : x < 2 * r.pits) : pitOfMoveF r (x / r.pits) (x % r.pits) = (x, 0) := by
  obtain ⟨hp, -⟩ := okR_pits hr
  have m0 := Int.emod_nonneg x (show r.pits ≠ 0 by omega)
  have m1 := Int.emod_lt_of_pos x (show 0 < r.pits by omega)
  have e := Int.mul_ediv_add_emod x r.pits
  have hb := owner_bd hp h0 h1
  rw [pitOfMoveF, if_pos hr, if_pos (by simp [inB]; omega)]
  rw [Int.mul_comm] at e
  rw [e]
theorem step_mod {t n k y : Int} (hn : 0 < n) (hy : y = (t + k) % n) : (y + 1) % n = (t + (k + 1)) % n := by
  rw [hy, Int.emod_add_emod]
  congr 1
  omega
theorem next_bd {n y : Int} (hn : 4 ≤ n) (h0 : 0 ≤ y) (h1 : y < n) : 0 ≤ (y + 1) % n ∧ (y + 1) % n < n ∧ (y + 1) % n ≠ y := by
  refine ⟨Int.emod_nonneg _ (by omega), Int.emod_lt_of_pos _ (by omega), ?_⟩
  rcases Int.lt_or_le (y + 1) n with h | h
  · rw [Int.emod_eq_of_lt (by omega) h]; omega
  · have : y + 1 = n := by omega
    rw [this, Int.emod_self]; omega
set_option maxRecDepth 100000 in
set_option maxHeartbeats 16000000 in
theorem FnPits_walk (A : Option Addr) (n cc : Nat) (zs : List Int) (A' : Option Addr) (n' cc' : Nat) (zs' : List Int) (w : World) (h : Bys w w.heap.size A n cc zs) (h' : Bys w w.heap.size A' n' cc' zs') : Calls Try.prog 15 #[.slice A n cc, .slice A' n' cc'] w fun e w' => e = .returned (.bool true) ∧ Below w.heap.size w w' := by
  have hle := h.le
  have hle' := h'.le
  have H := Lib.hid h
  have H' := Lib.hid h'
  clear h h'
  cases hv : (decide (3000 < n) || decide (3000 < n'))
  rotate_left
  · go_enter Try.func15, Try.ntmps15
    go_wp2_with fail
    refine (a2Long_any A n cc A' n' cc' _ true hv hle hle').mono ?_
    rintro e w' ⟨rfl, rfl⟩
    go_wp2_with fail
    go_ret
    exact ⟨rfl, Below.refl _ _⟩
  have HN := Lib.hid hv
  have hn' : n ≤ 4096 := by simp at hv; omega
  clear hv
  go_enter Try.func15, Try.ntmps15
  go_wp2_with fail
  refine (a2Long_any A n cc A' n' cc' _ false HN.out hle hle').mono ?_
  rintro e w' ⟨rfl, rfl⟩
  go_wp2_with fail
  refine (A2Rules_any A n cc zs _ (by exact H.out) hn').mono ?_
  rintro e w1 ⟨r, rfl, hr, b1⟩
  have HR := Lib.hid hr
  obtain ⟨hp0, hp1⟩ := okR_pits hr
  have H2 := Lib.hid (H'.out.sub b1)
  have B1 := Lib.hid b1
  clear hr b1
  obtain ⟨p, s, st, sk, re, fe, ag, c, sl⟩ := r
  rw [show (Value.agg (Ru.cells ⟨p, s, st, sk, re, fe, ag, c, sl⟩).toArray) = .agg #[.int .i64 p, .int .i64 s, .bool st, .bool sk, .bool re, .bool fe, .bool ag, .int .i64 c, .int .i64 sl] from rfl]
  dsimp only at hp0 hp1
  have R1 := Lib.hid (RuAt.box w1 31 p s st sk re fe ag c sl)
  have C1 := Lib.hid (sub_alloc B1.out (.cells #[.int .i64 p, .int .i64 s, .bool st, .bool sk, .bool re, .bool fe, .bool ag, .int .i64 c, .int .i64 sl] 31))
  have H3 := Lib.hid (H2.out.below ((Below.refl _ _).alloc (Nat.le_refl _) (.cells #[.int .i64 p, .int .i64 s, .bool st, .bool sk, .bool re, .bool fe, .bool ag, .int .i64 c, .int .i64 sl] 31)))
  go_upto_region 4 with fail
  refine wp_namedS (fun w' => RuAt w' w1.heap.size 0 ⟨p, s, st, sk, re, fe, ag, c, sl⟩ ∧ Below w.heap.size w w' ∧ Bys w' w1.heap.size A' n' cc' zs') ⟨R1.out, C1.out, H3.out⟩ ?_
  clear R1 C1 H3 H2 B1
  rintro W ⟨R1, C1, H3⟩
  have lt1 := R1.lt
  obtain ⟨c0, c1, c2, c3, c4, c5, c6, c7, c8⟩ := R1.flat
  have HR1 := Lib.hid R1
  have HC1 := Lib.hid C1
  clear R1 C1
  go_wp2_with fail
  refine (a2At_any w1.heap.size A' n' cc' zs' 0 (2 * p) (by omega) (by omega) (by omega) _ (by exact H3)).mono ?_
  rintro e w9 ⟨t, rfl, t0, t1, hw⟩
  rw [hw]
  clear hw w9 H3
  go_wp2_with fail
  go_loopw [8, 9] (fun x i wr => ∃ (k : Nat) (y : Int), i = .int .i64 k ∧ (k : Int) ≤ 2 * p ∧ x = .int .i64 y ∧ 0 ≤ y ∧ y < 2 * p ∧ Hid (y = (t + (k : Int)) % (2 * p)) ∧ RuAt wr w1.heap.size 0 ⟨p, s, st, sk, re, fe, ag, c, sl⟩ ∧ Below w.heap.size w wr) (fun _ i _ => (2 * p - intOf i).toNat)
  case atStart => exact ⟨0, t, rfl, by omega, rfl, t0, t1, Lib.hid (by rw [show t + ((0 : Nat) : Int) = t by omega, Int.emod_eq_of_lt t0 t1]), HR1.out, HC1.out⟩
  case round =>
    clear c0 c1 c2 c3 c4 c5 c6 c7 c8 HR1 HC1 lt1
    obtain ⟨k, y, rfl, hk, rfl, y0, y1, hy, hR, hB⟩ := hrel
    obtain ⟨c0, c1, c2, c3, c4, c5, c6, c7, c8⟩ := hR.flat
    have ltr := hR.lt
    have RR := Lib.hid hR
    have BB := Lib.hid hB
    clear hR hB
    by_cases hlt : (k : Int) < 2 * p
    · have e1 := Lib.hid (np (r := ⟨p, s, st, sk, re, fe, ag, c, sl⟩) HR.out y0 y1)
      obtain ⟨z0, z1, z2⟩ := next_bd (n := 2 * p) (by omega) y0 y1
      have hst := Lib.hid (step_mod (t := t) (n := 2 * p) (k := (k : Int)) (by omega) hy.out)
      dsimp only at e1
      generalize (y + 1) % (2 * p) = z at *
      have q1 : (z == y) = false := by simpa using z2
      have q2 : ¬ (z < 0) := by omega
      have q3 : ¬ (2 * p ≤ z) := by omega
      have ZN := Lib.hid z2
      clear z2
      go_wp2_with fail
      refine (NextPit_any p s st sk re fe ag c sl y _).mono ?_
      rintro e w2 ⟨rfl, b2⟩
      rw [e1.out]
      have R2 := Lib.hid (RR.out.below b2 ltr)
      have B2 := Lib.hid (BB.out.trans (b2.mono BB.out.size))
      clear b2 c0 c1 c2 c3 c4 c5 c6 c7 c8
      go_wp2_with fail
      go_roundw
      case rel => exact ⟨k + 1, z, by go_num, by omega, rfl, z0, z1, Lib.hid (by rw [hst.out]; push_cast; rfl), R2.out, B2.out⟩
      case measure => simp [intOf]; omega
    · have hke : (k : Int) = 2 * p := by omega
      have hyt : y = t := by rw [hy.out, hke, Int.add_emod_right, Int.emod_eq_of_lt t0 t1]
      subst hyt
      have HK := Lib.hid hke
      have e1 := Lib.hid (ow (r := ⟨p, s, st, sk, re, fe, ag, c, sl⟩) HR.out t0 t1)
      have e2 := Lib.hid (mp (r := ⟨p, s, st, sk, re, fe, ag, c, sl⟩) HR.out t0 t1)
      have e3 := Lib.hid (pm (r := ⟨p, s, st, sk, re, fe, ag, c, sl⟩) HR.out t0 t1)
      have e4 := Lib.hid (op (r := ⟨p, s, st, sk, re, fe, ag, c, sl⟩) HR.out t0 t1)
      have e5 := Lib.hid (op (r := ⟨p, s, st, sk, re, fe, ag, c, sl⟩) (x := 2 * p - 1 - y) HR.out (by omega) (by show 2 * p - 1 - y < 2 * p; omega))
      have e6 := Lib.hid (ow (r := ⟨p, s, st, sk, re, fe, ag, c, sl⟩) (x := 2 * p - 1 - y) HR.out (by omega) (by show 2 * p - 1 - y < 2 * p; omega))
      have ob1 := owner_bd hp0 t0 t1
      have ob2 := owner_bd (x := 2 * p - 1 - y) hp0 (by omega) (by omega)
      have oe : (2 * p - 1 - y) / p = 1 - y / p := by omega
      dsimp only at e1 e2 e3 e4 e5 e6
      rw [oe] at e6
      have e7 := Lib.hid (show 2 * p - 1 - (2 * p - 1 - y) = y by omega)
      have ob : y / p = 0 ∨ y / p = 1 := by omega
      clear ob1 ob2 oe hke
      have g0 : 0 ≤ 2 * p - 1 - y := by omega
      have g1 : 2 * p - 1 - y < 2 * p := by omega
      have g2 : ¬ (2 * p - 1 - y < 0) := by omega
      have g3 : ¬ (2 * p ≤ 2 * p - 1 - y) := by omega
      generalize hq : 2 * p - 1 - y = q at *
      generalize ho : y / p = o at *
      generalize hm : y % p = mv at *
      have HQ := Lib.hid hq
      clear hq ho hm
      have WR : IntKind.i64.wrap (1 - o) = 1 - o := IntWalk.i64_in _ (by omega)
      go_wp2_with fail
      refine (OwnerOf_any p s st sk re fe ag c sl y _).mono ?_
      rintro e w2 ⟨rfl, b2⟩
      rw [e1.out]
      have R2 := Lib.hid (RR.out.below b2 ltr)
      have B2 := Lib.hid (BB.out.trans (b2.mono BB.out.size))
      have l2 := R2.out.lt
      clear b2 c0 c1 c2 c3 c4 c5 c6 c7 c8
      obtain ⟨c0, c1, c2, c3, c4, c5, c6, c7, c8⟩ := R2.out.flat
      go_wp2_with fail
      refine (MoveOfPit_any p s st sk re fe ag c sl y _).mono ?_
      rintro e w3 ⟨rfl, b3⟩
      rw [e2.out]
      have R3 := Lib.hid (R2.out.below b3 l2)
      have B3 := Lib.hid (B2.out.trans (b3.mono B2.out.size))
      have l3 := R3.out.lt
      clear b3 c0 c1 c2 c3 c4 c5 c6 c7 c8
      obtain ⟨c0, c1, c2, c3, c4, c5, c6, c7, c8⟩ := R3.out.flat
      go_wp2_with fail
      refine (PitOfMove_any p s st sk re fe ag c sl o mv _).mono ?_
      rintro e w4 ⟨rfl, b4⟩
      rw [e3.out]
      have R4 := Lib.hid (R3.out.below b4 l3)
      have B4 := Lib.hid (B3.out.trans (b4.mono B3.out.size))
      have l4 := R4.out.lt
      clear b4 c0 c1 c2 c3 c4 c5 c6 c7 c8
      obtain ⟨c0, c1, c2, c3, c4, c5, c6, c7, c8⟩ := R4.out.flat
      go_wp2_with fail
      refine (OppositePit_any p s st sk re fe ag c sl y _).mono ?_
      rintro e w5 ⟨rfl, b5⟩
      rw [e4.out]
      have R5 := Lib.hid (R4.out.below b5 l4)
      have B5 := Lib.hid (B4.out.trans (b5.mono B4.out.size))
      have l5 := R5.out.lt
      clear b5 c0 c1 c2 c3 c4 c5 c6 c7 c8
      obtain ⟨c0, c1, c2, c3, c4, c5, c6, c7, c8⟩ := R5.out.flat
      go_wp2_with fail
      refine (OppositePit_any p s st sk re fe ag c sl q _).mono ?_
      rintro e w6 ⟨rfl, b6⟩
      rw [e5.out, e7.out]
      have R6 := Lib.hid (R5.out.below b6 l5)
      have B6 := Lib.hid (B5.out.trans (b6.mono B5.out.size))
      have l6 := R6.out.lt
      clear b6 c0 c1 c2 c3 c4 c5 c6 c7 c8
      obtain ⟨c0, c1, c2, c3, c4, c5, c6, c7, c8⟩ := R6.out.flat
      go_wp2_with fail
      refine (OwnerOf_any p s st sk re fe ag c sl q _).mono ?_
      rintro e w7 ⟨rfl, b7⟩
      rw [e6.out]
      have B7 := Lib.hid (B6.out.trans (b7.mono B6.out.size))
      clear b7
      go_wp2_with fail
      go_ret
      exact ⟨rfl, B7.out⟩
end Go.Proofs.Ytnanaldolnehiaa
