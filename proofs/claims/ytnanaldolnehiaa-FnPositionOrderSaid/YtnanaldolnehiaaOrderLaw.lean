/-
  The law FnPositionOrder, walked.
-/
import Derived.Test.YtnanaldolnehiaaOrder2
import Derived.Test.YtnanaldolnehiaaCompare
import Derived.Test.YtnanaldolnehiaaSame
set_option linter.unusedSimpArgs false
set_option linter.unusedVariables false
namespace Go.Proofs.Ytnanaldolnehiaa
open Go.ChangeShapes Go.WideShapes Go.RowKit Go.Deep

theorem cmpL_anti : ∀ (xs ys : List Int), cmpL ys xs = -cmpL xs ys
  | [], [] => rfl
  | [], _ :: _ => rfl
  | _ :: _, [] => rfl
  | x :: xs, y :: ys => by
    simp only [cmpL]
    rcases Int.lt_trichotomy x y with h | h | h
    · rw [if_neg (by omega), if_pos h, if_pos h]; rfl
    · subst h
      simp only [Int.lt_irrefl, if_false]
      exact cmpL_anti xs ys
    · rw [if_pos h, if_neg (by omega), if_pos h]
theorem cmpL_zero : ∀ (xs ys : List Int), cmpL xs ys = 0 ↔ xs = ys
  | [], [] => by simp [cmpL]
  | [], _ :: _ => by simp [cmpL]
  | _ :: _, [] => by simp [cmpL]
  | x :: xs, y :: ys => by
    simp only [cmpL]
    rcases Int.lt_trichotomy x y with h | h | h
    · rw [if_pos h]
      constructor
      · intro e; cases e
      · intro e; injection e with e1 e2; omega
    · subst h
      rw [if_neg (by omega), if_neg (by omega), cmpL_zero xs ys]
      simp
    · rw [if_neg (by omega), if_pos h]
      constructor
      · intro e; cases e
      · intro e; injection e with e1 e2; omega
theorem cmpP_anti (xs xs' : List Int) (pl : Int) (ys ys' : List Int) (ql : Int) : cmpP ys ys' ql xs xs' pl = -cmpP xs xs' pl ys ys' ql := by
  unfold cmpP
  rw [cmpL_anti xs ys, cmpL_anti xs' ys', cmpL_anti [pl] [ql]]
  rcases cmpL_cases xs ys with h | h | h <;> rcases cmpL_cases xs' ys' with h' | h' | h' <;> simp [h, h']
theorem cmpP_zero (xs xs' : List Int) (pl : Int) (ys ys' : List Int) (ql : Int) : cmpP xs xs' pl ys ys' ql = 0 ↔ (xs = ys ∧ xs' = ys' ∧ pl = ql) := by
  unfold cmpP
  have h1 := cmpL_zero xs ys
  have h2 := cmpL_zero xs' ys'
  have h3 := cmpL_zero [pl] [ql]
  simp only [List.cons.injEq, and_true] at h3
  by_cases e1 : cmpL xs ys = 0
  · by_cases e2 : cmpL xs' ys' = 0
    · rw [if_neg (by simp [e1]), if_neg (by simp [e2])]
      rw [h3]
      exact ⟨fun h => ⟨h1.1 e1, h2.1 e2, h⟩, fun h => h.2.2⟩
    · rw [if_neg (by simp [e1]), if_pos e2]
      exact ⟨fun h => absurd h e2, fun h => absurd (h2.2 h.2.1) e2⟩
  · rw [if_pos e1]
    exact ⟨fun h => absurd h e1, fun h => absurd (h1.2 h.1) e1⟩
theorem cmpP_self (xs xs' : List Int) (pl : Int) : cmpP xs xs' pl xs xs' pl = 0 := (cmpP_zero _ _ _ _ _ _).2 ⟨rfl, rfl, rfl⟩
theorem cmpP_cases (xs xs' : List Int) (pl : Int) (ys ys' : List Int) (ql : Int) : cmpP xs xs' pl ys ys' ql = -1 ∨ cmpP xs xs' pl ys ys' ql = 0 ∨ cmpP xs xs' pl ys ys' ql = 1 := by
  unfold cmpP
  split
  · exact cmpL_cases _ _
  · split
    · exact cmpL_cases _ _
    · exact cmpL_cases _ _
theorem same_cmp (xs xs' : List Int) (pl : Int) (ys ys' : List Int) (ql : Int) : sameP xs xs' pl ys ys' ql = (cmpP xs xs' pl ys ys' ql == 0) := by
  by_cases h : cmpP xs xs' pl ys ys' ql = 0
  · obtain ⟨rfl, rfl, rfl⟩ := (cmpP_zero _ _ _ _ _ _).1 h
    simp [sameP, cmpP_self]
  · have h2 : ¬ (xs = ys ∧ xs' = ys' ∧ pl = ql) := fun e => h ((cmpP_zero _ _ _ _ _ _).2 e)
    have h3 : (cmpP xs xs' pl ys ys' ql == 0) = false := by simpa using h
    rw [h3]
    simp only [sameP, Bool.and_eq_false_iff, decide_eq_false_iff_not]
    by_cases e1 : xs = ys
    · by_cases e2 : xs' = ys'
      · exact .inr fun e3 => h2 ⟨e1, e2, e3⟩
      · exact .inl (.inr e2)
    · exact .inl (.inl e1)

set_option maxRecDepth 100000 in
set_option maxHeartbeats 4000000 in
theorem FnPositionOrder_walk (A : Option Addr) (n cc : Nat) (zs : List Int) (A' : Option Addr) (n' cc' : Nat) (zs' : List Int) (w : World) (h : Bys w w.heap.size A n cc zs) (h' : Bys w w.heap.size A' n' cc' zs') : Calls Try.prog 16 #[.slice A n cc, .slice A' n' cc'] w fun e w' => e = .returned (.bool true) ∧ Below w.heap.size w w' := by
  have hle := h.le
  have hle' := h'.le
  have H := Lib.hid h
  have H' := Lib.hid h'
  clear h h'
  cases hv : (decide (3000 < n) || decide (3000 < n'))
  rotate_left
  · go_enter Try.func16, Try.ntmps16
    go_wp2_with fail
    refine (a2Long_any A n cc A' n' cc' _ true hv hle hle').mono ?_
    rintro e w' ⟨rfl, rfl⟩
    go_wp2_with fail
    go_ret
    exact ⟨rfl, Below.refl _ _⟩
  have HN := Lib.hid hv
  have hn : n ≤ 4096 := by simp at hv; omega
  have hn' : n' ≤ 4096 := by simp at hv; omega
  clear hv
  go_enter Try.func16, Try.ntmps16
  go_wp2_with fail
  refine (a2Long_any A n cc A' n' cc' _ false HN.out hle hle').mono ?_
  rintro e w' ⟨rfl, rfl⟩
  go_wp2_with fail
  refine (A2Position_any A n cc zs _ (by exact H.out) hn).mono ?_
  rintro e w1 ⟨⟨p, s, st, sk, re, fe, ag, c, sl⟩, gA, n1, cA, gB, cB, xs, x0, x1, pl, rfl, o1, o2, hn1, b1⟩
  rw [show (Value.agg (Ru.cells ⟨p, s, st, sk, re, fe, ag, c, sl⟩).toArray) = .agg #[.int .i64 p, .int .i64 s, .bool st, .bool sk, .bool re, .bool fe, .bool ag, .int .i64 c, .int .i64 sl] from rfl]
  have P1 := PosAt.box (w1.alloc (.cells #[.int .i64 p, .int .i64 s, .bool st, .bool sk, .bool re, .bool fe, .bool ag, .int .i64 c, .int .i64 sl] 31)) 28 (some ⟨gA, 0, none⟩) n1 cA (some ⟨gB, 0, none⟩) 2 cB pl
  have hs1 : (w1.alloc (.cells #[.int .i64 p, .int .i64 s, .bool st, .bool sk, .bool re, .bool fe, .bool ag, .int .i64 c, .int .i64 sl] 31)).heap.size = w1.heap.size + 1 := by simp
  rw [hs1] at P1
  have hb1 : Below w1.heap.size w1 ((w1.alloc (.cells #[.int .i64 p, .int .i64 s, .bool st, .bool sk, .bool re, .bool fe, .bool ag, .int .i64 c, .int .i64 sl] 31)).alloc (.cells #[.slice (some ⟨gA, 0, none⟩) n1 cA, .slice (some ⟨gB, 0, none⟩) 2 cB, .int .i64 pl] 28)) := (by repeat (first | with_reducible exact Below.refl _ _ | with_reducible assumption | with_reducible refine sub_alloc ?_ _ | (with_reducible refine sub_setCell2 ?_ ?_ _; (focus (first | (simp; done) | (simp <;> omega)))) | with_reducible refine sub_drew ?_ | with_reducible refine below_drewN ?_ _ | with_reducible refine sub_step (by assumption) ?_ (by first | rfl | (simp; done)) | exact Below.refl _ _ | assumption | refine sub_alloc ?_ _ | refine sub_setCell ?_ (by simp <;> omega) _ | refine sub_drew ?_ | refine below_drewN ?_ _ | refine sub_step (by assumption) ?_ (by first | rfl | (simp; done))))
  have B1 := Lib.hid (b1.trans (hb1.mono b1.size))
  have O1 := Lib.hid (o1.ints.sub hb1)
  have O2 := Lib.hid (o2.ints.sub hb1)
  obtain ⟨W1, hW1⟩ : ∃ W1, W1 = (w1.alloc (.cells #[.int .i64 p, .int .i64 s, .bool st, .bool sk, .bool re, .bool fe, .bool ag, .int .i64 c, .int .i64 sl] 31)).alloc (.cells #[.slice (some ⟨gA, 0, none⟩) n1 cA, .slice (some ⟨gB, 0, none⟩) 2 cB, .int .i64 pl] 28) := ⟨_, rfl⟩
  rw [← hW1] at P1 B1 O1 O2
  have Q1 := Lib.hid P1
  have HW1 := Lib.hid hW1
  clear o1 o2 b1 hb1 hs1 P1 hW1
  go_wp2_with fail
  rw [← HW1.out]
  refine (A2Position_any A' n' cc' zs' _ (by exact H'.out.sub B1.out) hn').mono ?_
  rintro e w2 ⟨⟨p', s', st', sk', re', fe', ag', c', sl'⟩, gC, n2, cC, gD, cD, ys, y0, y1, ql, rfl, o1, o2, hn2, b2⟩
  rw [show (Value.agg (Ru.cells ⟨p', s', st', sk', re', fe', ag', c', sl'⟩).toArray) = .agg #[.int .i64 p', .int .i64 s', .bool st', .bool sk', .bool re', .bool fe', .bool ag', .int .i64 c', .int .i64 sl'] from rfl]
  have P2 := PosAt.box (w2.alloc (.cells #[.int .i64 p', .int .i64 s', .bool st', .bool sk', .bool re', .bool fe', .bool ag', .int .i64 c', .int .i64 sl'] 31)) 28 (some ⟨gC, 0, none⟩) n2 cC (some ⟨gD, 0, none⟩) 2 cD ql
  have hs1 : (w2.alloc (.cells #[.int .i64 p', .int .i64 s', .bool st', .bool sk', .bool re', .bool fe', .bool ag', .int .i64 c', .int .i64 sl'] 31)).heap.size = w2.heap.size + 1 := by simp
  rw [hs1] at P2
  have hb1 : Below w2.heap.size w2 ((w2.alloc (.cells #[.int .i64 p', .int .i64 s', .bool st', .bool sk', .bool re', .bool fe', .bool ag', .int .i64 c', .int .i64 sl'] 31)).alloc (.cells #[.slice (some ⟨gC, 0, none⟩) n2 cC, .slice (some ⟨gD, 0, none⟩) 2 cD, .int .i64 ql] 28)) := (by repeat (first | with_reducible exact Below.refl _ _ | with_reducible assumption | with_reducible refine sub_alloc ?_ _ | (with_reducible refine sub_setCell2 ?_ ?_ _; (focus (first | (simp; done) | (simp <;> omega)))) | with_reducible refine sub_drew ?_ | with_reducible refine below_drewN ?_ _ | with_reducible refine sub_step (by assumption) ?_ (by first | rfl | (simp; done)) | exact Below.refl _ _ | assumption | refine sub_alloc ?_ _ | refine sub_setCell ?_ (by simp <;> omega) _ | refine sub_drew ?_ | refine below_drewN ?_ _ | refine sub_step (by assumption) ?_ (by first | rfl | (simp; done))))
  have B12 := b2.trans (hb1.mono b2.size)
  have B2 := Lib.hid (B1.out.trans (B12.mono B1.out.size))
  have O3 := Lib.hid (o1.ints.sub hb1)
  have O4 := Lib.hid (o2.ints.sub hb1)
  have O1 := Lib.hid (O1.out.sub B12)
  have O2 := Lib.hid (O2.out.sub B12)
  have Q1 := Lib.hid (Q1.out.below B12 Q1.out.lt)
  obtain ⟨W2, hW2⟩ : ∃ W2, W2 = (w2.alloc (.cells #[.int .i64 p', .int .i64 s', .bool st', .bool sk', .bool re', .bool fe', .bool ag', .int .i64 c', .int .i64 sl'] 31)).alloc (.cells #[.slice (some ⟨gC, 0, none⟩) n2 cC, .slice (some ⟨gD, 0, none⟩) 2 cD, .int .i64 ql] 28) := ⟨_, rfl⟩
  rw [← hW2] at P2 B2 O1 O2 O3 O4 Q1
  have Q2 := Lib.hid P2
  have HW2 := Lib.hid hW2
  clear o1 o2 b2 hb1 hs1 P2 hW2 B12 B1 HW1
  obtain ⟨c0, c1, c2⟩ := Q1.out.flat
  obtain ⟨d0, d1, d2⟩ := Q2.out.flat
  go_upto_region 5 with fail
  rw [← HW2.out]
  have l1 := Q1.out.lt
  have l2 := Q2.out.lt
  go_wp2_with fail
  refine (ComparePositions_any _ _ _ _ _ _ _ _ _ _ _ _ xs [x0, x1] ys [y0, y1] pl ql _ (by exact O1.out) (by exact O2.out) (by exact O3.out) (by exact O4.out) (by omega) (by omega) (by omega) (by omega)).mono ?_
  rintro e w5 ⟨rfl, b5⟩
  have CA := Lib.hid (cmpP_cases xs [x0, x1] pl ys [y0, y1] ql)
  have AN := Lib.hid (cmpP_anti xs [x0, x1] pl ys [y0, y1] ql)
  have SM := Lib.hid (same_cmp xs [x0, x1] pl ys [y0, y1] ql)
  have SF := Lib.hid (cmpP_self xs [x0, x1] pl)
  generalize hN : cmpP xs [x0, x1] pl ys [y0, y1] ql = N at *
  have HN2 := Lib.hid hN
  clear hN
  have cs := CA.out
  clear CA c0 c1 c2 d0 d1 d2
  rcases cs with rfl | rfl | rfl
  · have X1 := Q1.out.below b5 l1
    have X2 := Q2.out.below b5 l2
    obtain ⟨c0, c1, c2⟩ := X1.flat
    obtain ⟨d0, d1, d2⟩ := X2.flat
    go_wp2_with fail
    refine (ComparePositions_any _ _ _ _ _ _ _ _ _ _ _ _ ys [y0, y1] xs [x0, x1] ql pl _ (by exact O3.out.sub b5) (by exact O4.out.sub b5) (by exact O1.out.sub b5) (by exact O2.out.sub b5) (by omega) (by omega) (by omega) (by omega)).mono ?_
    rintro e w6 ⟨rfl, b6⟩
    rw [AN.out, show -(-1 : Int) = 1 from by decide]
    have b56 := b5.trans (b6.mono b5.size)
    have X1 := Q1.out.below b56 l1
    have X2 := Q2.out.below b56 l2
    obtain ⟨c0, c1, c2⟩ := X1.flat
    obtain ⟨d0, d1, d2⟩ := X2.flat
    go_wp2_with fail
    refine (specSamePosition_any _ _ _ _ _ _ _ _ _ _ _ _ xs [x0, x1] ys [y0, y1] pl ql _ (by exact O1.out.sub b56) (by exact O2.out.sub b56) (by exact O3.out.sub b56) (by exact O4.out.sub b56)).mono ?_
    rintro e w7 ⟨rfl, b7⟩
    rw [SM.out, show ((-1 : Int) == 0) = false from by decide]
    have b57 := b56.trans (b7.mono b56.size)
    have X1 := Q1.out.below b57 l1
    obtain ⟨c0, c1, c2⟩ := X1.flat
    go_wp2_with fail
    refine (ComparePositions_any _ _ _ _ _ _ _ _ _ _ _ _ xs [x0, x1] xs [x0, x1] pl pl _ (by exact O1.out.sub b57) (by exact O2.out.sub b57) (by exact O1.out.sub b57) (by exact O2.out.sub b57) (by omega) (by omega) (by omega) (by omega)).mono ?_
    rintro e w8 ⟨rfl, b8⟩
    rw [SF.out]
    have b58 := b57.trans (b8.mono b57.size)
    go_wp2_with fail
    go_ret
    exact ⟨rfl, B2.out.trans (b58.mono B2.out.size)⟩
  · have X1 := Q1.out.below b5 l1
    have X2 := Q2.out.below b5 l2
    obtain ⟨c0, c1, c2⟩ := X1.flat
    obtain ⟨d0, d1, d2⟩ := X2.flat
    go_wp2_with fail
    refine (ComparePositions_any _ _ _ _ _ _ _ _ _ _ _ _ ys [y0, y1] xs [x0, x1] ql pl _ (by exact O3.out.sub b5) (by exact O4.out.sub b5) (by exact O1.out.sub b5) (by exact O2.out.sub b5) (by omega) (by omega) (by omega) (by omega)).mono ?_
    rintro e w6 ⟨rfl, b6⟩
    rw [AN.out, show -(0 : Int) = 0 from by decide]
    have b56 := b5.trans (b6.mono b5.size)
    have X1 := Q1.out.below b56 l1
    have X2 := Q2.out.below b56 l2
    obtain ⟨c0, c1, c2⟩ := X1.flat
    obtain ⟨d0, d1, d2⟩ := X2.flat
    go_wp2_with fail
    refine (specSamePosition_any _ _ _ _ _ _ _ _ _ _ _ _ xs [x0, x1] ys [y0, y1] pl ql _ (by exact O1.out.sub b56) (by exact O2.out.sub b56) (by exact O3.out.sub b56) (by exact O4.out.sub b56)).mono ?_
    rintro e w7 ⟨rfl, b7⟩
    rw [SM.out, show ((0 : Int) == 0) = true from by decide]
    have b57 := b56.trans (b7.mono b56.size)
    have X1 := Q1.out.below b57 l1
    obtain ⟨c0, c1, c2⟩ := X1.flat
    go_wp2_with fail
    refine (ComparePositions_any _ _ _ _ _ _ _ _ _ _ _ _ xs [x0, x1] xs [x0, x1] pl pl _ (by exact O1.out.sub b57) (by exact O2.out.sub b57) (by exact O1.out.sub b57) (by exact O2.out.sub b57) (by omega) (by omega) (by omega) (by omega)).mono ?_
    rintro e w8 ⟨rfl, b8⟩
    rw [SF.out]
    have b58 := b57.trans (b8.mono b57.size)
    go_wp2_with fail
    go_ret
    exact ⟨rfl, B2.out.trans (b58.mono B2.out.size)⟩
  · have X1 := Q1.out.below b5 l1
    have X2 := Q2.out.below b5 l2
    obtain ⟨c0, c1, c2⟩ := X1.flat
    obtain ⟨d0, d1, d2⟩ := X2.flat
    go_wp2_with fail
    refine (ComparePositions_any _ _ _ _ _ _ _ _ _ _ _ _ ys [y0, y1] xs [x0, x1] ql pl _ (by exact O3.out.sub b5) (by exact O4.out.sub b5) (by exact O1.out.sub b5) (by exact O2.out.sub b5) (by omega) (by omega) (by omega) (by omega)).mono ?_
    rintro e w6 ⟨rfl, b6⟩
    rw [AN.out, show -(1 : Int) = -1 from by decide]
    have b56 := b5.trans (b6.mono b5.size)
    have X1 := Q1.out.below b56 l1
    have X2 := Q2.out.below b56 l2
    obtain ⟨c0, c1, c2⟩ := X1.flat
    obtain ⟨d0, d1, d2⟩ := X2.flat
    go_wp2_with fail
    refine (specSamePosition_any _ _ _ _ _ _ _ _ _ _ _ _ xs [x0, x1] ys [y0, y1] pl ql _ (by exact O1.out.sub b56) (by exact O2.out.sub b56) (by exact O3.out.sub b56) (by exact O4.out.sub b56)).mono ?_
    rintro e w7 ⟨rfl, b7⟩
    rw [SM.out, show ((1 : Int) == 0) = false from by decide]
    have b57 := b56.trans (b7.mono b56.size)
    have X1 := Q1.out.below b57 l1
    obtain ⟨c0, c1, c2⟩ := X1.flat
    go_wp2_with fail
    refine (ComparePositions_any _ _ _ _ _ _ _ _ _ _ _ _ xs [x0, x1] xs [x0, x1] pl pl _ (by exact O1.out.sub b57) (by exact O2.out.sub b57) (by exact O1.out.sub b57) (by exact O2.out.sub b57) (by omega) (by omega) (by omega) (by omega)).mono ?_
    rintro e w8 ⟨rfl, b8⟩
    rw [SF.out]
    have b58 := b57.trans (b8.mono b57.size)
    go_wp2_with fail
    go_ret
    exact ⟨rfl, B2.out.trans (b58.mono B2.out.size)⟩
end Go.Proofs.Ytnanaldolnehiaa
