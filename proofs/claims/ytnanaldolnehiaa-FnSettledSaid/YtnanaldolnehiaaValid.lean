/-
  Whether a position is valid for rules, as the program and the reference find it.
-/
import Derived.Test.YtnanaldolnehiaaSums
import Derived.Test.YtnanaldolnehiaaPits
import Derived.Test.YtnanaldolnehiaaSame
namespace Go.Proofs.Ytnanaldolnehiaa
open Go.ChangeShapes Go.WideShapes Go.RowKit Go.Deep

/-- A valid position. -/
def okP (r : Ru) (xs xs' : List Int) (pl : Int) : Bool := okR r && decide ((xs.length : Int) = 2 * r.pits) && decide (xs'.length = 2) && inB pl 0 1 && okN xs && okN xs' && decide (xs.sum + xs'.sum ≤ 96)
theorem okR_pits {r : Ru} (h : okR r = true) : 2 ≤ r.pits ∧ r.pits ≤ 8 := by
  simp [okR, inB] at h
  omega

theorem sumL_bd (xs : List Int) : -1 ≤ sumL xs ∧ sumL xs ≤ 96 := by
  unfold sumL
  split
  · rename_i h
    simp at h
    have := okN_bd xs h.1
    omega
  · omega
theorem sumV_bd (xs : List Int) : 0 ≤ sumV xs ∧ sumV xs ≤ 96 * xs.length := by
  unfold sumV
  split
  · rename_i h
    exact okN_bd xs h
  · omega
theorem sumL_two (xs ys : List Int) : (decide (0 ≤ sumL xs) && decide (0 ≤ sumL ys) && decide (sumL xs + sumL ys ≤ 96)) = (okN xs && okN ys && decide (xs.sum + ys.sum ≤ 96)) := by
  unfold sumL
  cases hx : okN xs
  · simp
  cases hy : okN ys
  · simp
  have h0 := okN_bd xs hx
  have h1 := okN_bd ys hy
  by_cases a : xs.sum ≤ 96
  · by_cases b : ys.sum ≤ 96
    · simp [a, b, h0.1, h1.1]
    · have : ¬ (xs.sum + ys.sum ≤ 96) := by omega
      simp [a, b, this]
  · have : ¬ (xs.sum + ys.sum ≤ 96) := by omega
    simp [a, this]

theorem l02Ok_is (b o : Nat) (r : Ru) (v : Bool) (hv : okR r = v) (w : World) (h : RuAt w b o r) : Calls Try.prog 136 #[.pointer (some ⟨b, o, none⟩)] w fun e w' => e = .returned (.bool v) ∧ ∃ m, w' = w.drewN m := by
  subst hv
  exact (l02Ok_any b o r w h).mono (by rintro e w' ⟨rfl, rfl⟩; exact ⟨rfl, 0, rfl⟩)
theorem l00In_is (n a b : Int) (v : Bool) (hv : inB n a b = v) (w : World) : Calls Try.prog 99 #[.int .i64 n, .int .i64 a, .int .i64 b] w fun e w' => e = .returned (.bool v) ∧ ∃ m, w' = w.drewN m := by
  subst hv
  exact (l00In_any n a b w).mono (by rintro e w' ⟨rfl, rfl⟩; exact ⟨rfl, 0, rfl⟩)

set_option maxHeartbeats 400000 in
theorem l04Ok_any (b o b2 o2 : Nat) (r : Ru) (A A' : Option Addr) (n c n' c' : Nat) (xs xs' : List Int) (pl : Int) (w : World) (hr : RuAt w b o r) (hp : PosAt w b2 o2 A n c A' n' c' pl)
    (h : Ints w w.heap.size A n c xs) (h' : Ints w w.heap.size A' n' c' xs') (hn : n ≤ 4294967296) :
    Calls Try.prog 98 #[.pointer (some ⟨b, o, none⟩), .pointer (some ⟨b2, o2, none⟩)] w fun e w' => e = .returned (.bool (okP r xs xs' pl)) ∧ ∃ m, w' = w.drewN m := by
  have hl := h.len
  have hl' := h'.len
  have HL := Lib.hid hl
  have HL' := Lib.hid hl'
  have HH := Lib.hid h
  have HH' := Lib.hid h'
  have HR := Lib.hid hr
  clear h h' hl hl'
  obtain ⟨p0, p1, p2⟩ := hp
  have r0 : w.cell? ⟨b, o, none⟩ = some (.int .i64 r.pits) := hr.1
  clear hr
  cases e0 : okR r
  · go_enter Try.func98, Try.ntmps98
    go_wp2_with fail
    go_quiet ((go_at_call 136; exact Calls.quiet_of (l02Ok_is _ _ r false e0 _ HR.out)))
    go_wp2_with fail
    go_ret
    exact ⟨ret_b (by simp [okP, e0]), _, rfl⟩
  obtain ⟨hq0, hq1⟩ := okR_pits e0
  by_cases e1 : (n : Int) = 2 * r.pits
  rotate_left
  · have e4 : ((n : Int) != 2 * r.pits) = true := by simpa using e1
    have e5 := Lib.hid e1
    clear e1
    go_enter Try.func98, Try.ntmps98
    go_wp2_with fail
    go_quiet ((go_at_call 136; exact Calls.quiet_of (l02Ok_is _ _ r true e0 _ HR.out)))
    go_wp2_with fail
    go_ret
    exact ⟨ret_b (by simp [okP, HL.out, e5.out]), _, rfl⟩
  have e4 : ((n : Int) != 2 * r.pits) = false := by simpa using e1
  have E1 := Lib.hid e1
  clear e1
  by_cases e2 : (n' : Int) = 2
  rotate_left
  · have e6 : ((n' : Int) != 2) = true := by simpa using e2
    have e5 := Lib.hid e2
    clear e2
    go_enter Try.func98, Try.ntmps98
    go_wp2_with fail
    go_quiet ((go_at_call 136; exact Calls.quiet_of (l02Ok_is _ _ r true e0 _ HR.out)))
    go_wp2_with fail
    go_ret
    exact ⟨ret_b (by have := e5.out; have h2 : n' ≠ 2 := (by omega); simp [okP, HL'.out, h2]), _, rfl⟩
  obtain rfl : n' = 2 := by omega
  cases e3 : inB pl 0 1
  · go_enter Try.func98, Try.ntmps98
    go_wp2_with fail
    go_quiet ((first | (go_at_call 136; exact Calls.quiet_of (l02Ok_is _ _ r true e0 _ HR.out)) | (go_at_call 99; exact Calls.quiet_of (l00In_is _ _ _ false e3 _))))
    go_wp2_with fail
    go_ret
    exact ⟨ret_b (by simp [okP, e3]), _, rfl⟩
  have hv : okP r xs xs' pl = (decide (0 ≤ sumL xs) && decide (0 ≤ sumL xs') && decide (sumL xs + sumL xs' ≤ 96)) := by
    have e1 := E1.out
    rw [sumL_two]
    simp [okP, HL.out, HL'.out, e0, e1, e3]
  rw [hv]
  clear hv
  go_enter Try.func98, Try.ntmps98
  go_wp2_with fail
  go_quiet ((first | (go_at_call 136; exact Calls.quiet_of (l02Ok_is _ _ r true e0 _ HR.out)) | (go_at_call 99; exact Calls.quiet_of (l00In_is _ _ _ true e3 _))))
  go_wp2_with fail
  refine (l04Sum_any _ _ _ _ xs _ (by exact HH.out.sub (by repeat (first | with_reducible exact Below.refl _ _ | with_reducible assumption | with_reducible refine sub_alloc ?_ _ | (with_reducible refine sub_setCell2 ?_ ?_ _; (focus (first | (simp; done) | (simp <;> omega)))) | with_reducible refine sub_drew ?_ | with_reducible refine below_drewN ?_ _ | with_reducible refine sub_step (by assumption) ?_ (by first | rfl | (simp; done)) | exact Below.refl _ _ | assumption | refine sub_alloc ?_ _ | refine sub_setCell ?_ (by simp <;> omega) _ | refine sub_drew ?_ | refine below_drewN ?_ _ | refine sub_step (by assumption) ?_ (by first | rfl | (simp; done))))) hn).mono ?_
  rintro e w1 ⟨rfl, m1, rfl⟩
  go_wp2_with fail
  refine (l04Sum_any _ _ _ _ xs' _ (by exact HH'.out.sub (by repeat (first | with_reducible exact Below.refl _ _ | with_reducible assumption | with_reducible refine sub_alloc ?_ _ | (with_reducible refine sub_setCell2 ?_ ?_ _; (focus (first | (simp; done) | (simp <;> omega)))) | with_reducible refine sub_drew ?_ | with_reducible refine below_drewN ?_ _ | with_reducible refine sub_step (by assumption) ?_ (by first | rfl | (simp; done)) | exact Below.refl _ _ | assumption | refine sub_alloc ?_ _ | refine sub_setCell ?_ (by simp <;> omega) _ | refine sub_drew ?_ | refine below_drewN ?_ _ | refine sub_step (by assumption) ?_ (by first | rfl | (simp; done))))) (by omega)).mono ?_
  rintro e w2 ⟨rfl, m2, rfl⟩
  obtain ⟨s0, s1⟩ := sumL_bd xs
  obtain ⟨s2, s3⟩ := sumL_bd xs'
  go_wp2_with fail
  all_goals
    go_ret
    exact ⟨ret_b (by simp <;> omega), _, rfl⟩
set_option maxHeartbeats 1000000 in
theorem ValidPosition_any (p s : Int) (st sk re fe ag : Bool) (c sl : Int) (A A' : Option Addr) (n u n' u' : Nat) (xs xs' : List Int) (pl : Int) (w : World) (h : Ints w w.heap.size A n u xs) (h' : Ints w w.heap.size A' n' u' xs') (hn : n ≤ 4294967296) :
    Calls Try.prog 101 #[.agg #[.int .i64 p, .int .i64 s, .bool st, .bool sk, .bool re, .bool fe, .bool ag, .int .i64 c, .int .i64 sl], .agg #[.slice A n u, .slice A' n' u', .int .i64 pl]] w fun e w' => e = .returned (.bool (okP ⟨p, s, st, sk, re, fe, ag, c, sl⟩ xs xs' pl)) ∧ Below w.heap.size w w' := by
  have HL := Lib.hid h.len
  have HL' := Lib.hid h'.len
  have HH := Lib.hid h
  have HH' := Lib.hid h'
  have P0 := Lib.hid ((RuAt.box w 31 p s st sk re fe ag c sl).alloc (.cells #[.slice A n u, .slice A' n' u', .int .i64 pl] 28))
  have P1 := Lib.hid (PosAt.box (w.alloc (.cells #[.int .i64 p, .int .i64 s, .bool st, .bool sk, .bool re, .bool fe, .bool ag, .int .i64 c, .int .i64 sl] 31)) 28 A n u A' n' u' pl)
  clear h h'
  cases e0 : okR ⟨p, s, st, sk, re, fe, ag, c, sl⟩
  · go_enter Try.func101, Try.ntmps101
    go_wp2_with fail
    refine (ValidRules_any p s st sk re fe ag c sl _).mono ?_
    rintro e w1 ⟨rfl, hb1⟩
    go_wp2_with fail
    go_ret
    exact ⟨ret_b (by simp [okP, e0]), (by repeat (first | with_reducible exact Below.refl _ _ | with_reducible assumption | with_reducible refine sub_alloc ?_ _ | (with_reducible refine sub_setCell2 ?_ ?_ _; (focus (first | (simp; done) | (simp <;> omega)))) | with_reducible refine sub_drew ?_ | with_reducible refine below_drewN ?_ _ | with_reducible refine sub_step (by assumption) ?_ (by first | rfl | (simp; done)) | exact Below.refl _ _ | assumption | refine sub_alloc ?_ _ | refine sub_setCell ?_ (by simp <;> omega) _ | refine sub_drew ?_ | refine below_drewN ?_ _ | refine sub_step (by assumption) ?_ (by first | rfl | (simp; done))))⟩
  obtain ⟨hq0, hq1⟩ := okR_pits e0
  dsimp only at hq0 hq1
  by_cases e1 : (n : Int) = 2 * p
  rotate_left
  · have e4 : ((n : Int) != 2 * p) = true := by simpa using e1
    have e5 := Lib.hid e1
    clear e1
    go_enter Try.func101, Try.ntmps101
    go_wp2_with fail
    refine (ValidRules_any p s st sk re fe ag c sl _).mono ?_
    rintro e w1 ⟨rfl, hb1⟩
    have P2 := P0.out.below hb1 (by simp <;> omega)
    have P3 := P1.out.below hb1 (by simp <;> omega)
    obtain ⟨c0, c1, c2, c3, c4, c5, c6, c7, c8⟩ := P2.flat
    obtain ⟨d0, d1, d2⟩ := P3.flat
    simp at d0 d1 d2
    go_wp2_with fail
    go_ret
    exact ⟨ret_b (by simp [okP, HL.out, e5.out]), (by repeat (first | with_reducible exact Below.refl _ _ | with_reducible assumption | with_reducible refine sub_alloc ?_ _ | (with_reducible refine sub_setCell2 ?_ ?_ _; (focus (first | (simp; done) | (simp <;> omega)))) | with_reducible refine sub_drew ?_ | with_reducible refine below_drewN ?_ _ | with_reducible refine sub_step (by assumption) ?_ (by first | rfl | (simp; done)) | exact Below.refl _ _ | assumption | refine sub_alloc ?_ _ | refine sub_setCell ?_ (by simp <;> omega) _ | refine sub_drew ?_ | refine below_drewN ?_ _ | refine sub_step (by assumption) ?_ (by first | rfl | (simp; done))))⟩
  have e4 : ((n : Int) != 2 * p) = false := by simpa using e1
  have E1 := Lib.hid e1
  clear e1
  by_cases e2 : (n' : Int) = 2
  rotate_left
  · have e6 : ((n' : Int) != 2) = true := by simpa using e2
    have e5 := Lib.hid e2
    clear e2
    go_enter Try.func101, Try.ntmps101
    go_wp2_with fail
    refine (ValidRules_any p s st sk re fe ag c sl _).mono ?_
    rintro e w1 ⟨rfl, hb1⟩
    have P2 := P0.out.below hb1 (by simp <;> omega)
    have P3 := P1.out.below hb1 (by simp <;> omega)
    obtain ⟨c0, c1, c2, c3, c4, c5, c6, c7, c8⟩ := P2.flat
    obtain ⟨d0, d1, d2⟩ := P3.flat
    simp at d0 d1 d2
    go_wp2_with fail
    go_ret
    exact ⟨ret_b (by have := e5.out; have h2 : n' ≠ 2 := (by omega); simp [okP, HL'.out, h2]), (by repeat (first | with_reducible exact Below.refl _ _ | with_reducible assumption | with_reducible refine sub_alloc ?_ _ | (with_reducible refine sub_setCell2 ?_ ?_ _; (focus (first | (simp; done) | (simp <;> omega)))) | with_reducible refine sub_drew ?_ | with_reducible refine below_drewN ?_ _ | with_reducible refine sub_step (by assumption) ?_ (by first | rfl | (simp; done)) | exact Below.refl _ _ | assumption | refine sub_alloc ?_ _ | refine sub_setCell ?_ (by simp <;> omega) _ | refine sub_drew ?_ | refine below_drewN ?_ _ | refine sub_step (by assumption) ?_ (by first | rfl | (simp; done))))⟩
  obtain rfl : n' = 2 := by omega
  cases e3 : inB pl 0 1
  · go_enter Try.func101, Try.ntmps101
    go_wp2_with fail
    refine (ValidRules_any p s st sk re fe ag c sl _).mono ?_
    rintro e w1 ⟨rfl, hb1⟩
    have P2 := P0.out.below hb1 (by simp <;> omega)
    have P3 := P1.out.below hb1 (by simp <;> omega)
    obtain ⟨c0, c1, c2, c3, c4, c5, c6, c7, c8⟩ := P2.flat
    obtain ⟨d0, d1, d2⟩ := P3.flat
    simp at d0 d1 d2
    go_wp2_with fail
    refine (isPlayer_any _ _).mono ?_
    rintro e w2 ⟨rfl, rfl⟩
    go_wp2_with fail
    go_ret
    exact ⟨ret_b (by simp [okP, e3]), (by repeat (first | with_reducible exact Below.refl _ _ | with_reducible assumption | with_reducible refine sub_alloc ?_ _ | (with_reducible refine sub_setCell2 ?_ ?_ _; (focus (first | (simp; done) | (simp <;> omega)))) | with_reducible refine sub_drew ?_ | with_reducible refine below_drewN ?_ _ | with_reducible refine sub_step (by assumption) ?_ (by first | rfl | (simp; done)) | exact Below.refl _ _ | assumption | refine sub_alloc ?_ _ | refine sub_setCell ?_ (by simp <;> omega) _ | refine sub_drew ?_ | refine below_drewN ?_ _ | refine sub_step (by assumption) ?_ (by first | rfl | (simp; done))))⟩
  have hv : okP ⟨p, s, st, sk, re, fe, ag, c, sl⟩ xs xs' pl = (okN xs && okN xs' && decide (sumV xs + sumV xs' ≤ 96)) := by
    have e1 := E1.out
    cases f0 : okN xs <;> cases f1 : okN xs' <;> simp [okP, sumV, HL.out, HL'.out, e0, e1, e3, f0, f1]
  go_enter Try.func101, Try.ntmps101
  go_wp2_with fail
  refine (ValidRules_any p s st sk re fe ag c sl _).mono ?_
  rintro e w1 ⟨rfl, hb1⟩
  have P2 := P0.out.below hb1 (by simp <;> omega)
  have P3 := P1.out.below hb1 (by simp <;> omega)
  obtain ⟨c0, c1, c2, c3, c4, c5, c6, c7, c8⟩ := P2.flat
  obtain ⟨d0, d1, d2⟩ := P3.flat
  simp at d0 d1 d2
  go_wp2_with fail
  refine (isPlayer_any _ _).mono ?_
  rintro e w2 ⟨rfl, rfl⟩
  go_wp2_with fail
  refine (sumOf_any _ _ _ _ xs _ (by exact HH.out.sub (by repeat (first | with_reducible exact Below.refl _ _ | with_reducible assumption | with_reducible refine sub_alloc ?_ _ | (with_reducible refine sub_setCell2 ?_ ?_ _; (focus (first | (simp; done) | (simp <;> omega)))) | with_reducible refine sub_drew ?_ | with_reducible refine below_drewN ?_ _ | with_reducible refine sub_step (by assumption) ?_ (by first | rfl | (simp; done)) | exact Below.refl _ _ | assumption | refine sub_alloc ?_ _ | refine sub_setCell ?_ (by simp <;> omega) _ | refine sub_drew ?_ | refine below_drewN ?_ _ | refine sub_step (by assumption) ?_ (by first | rfl | (simp; done))))) hn).mono ?_
  rintro e w3 ⟨rfl, m3, rfl⟩
  go_wp2_with fail
  refine (sumOf_any _ _ _ _ xs' _ (by exact HH'.out.sub (by repeat (first | with_reducible exact Below.refl _ _ | with_reducible assumption | with_reducible refine sub_alloc ?_ _ | (with_reducible refine sub_setCell2 ?_ ?_ _; (focus (first | (simp; done) | (simp <;> omega)))) | with_reducible refine sub_drew ?_ | with_reducible refine below_drewN ?_ _ | with_reducible refine sub_step (by assumption) ?_ (by first | rfl | (simp; done)) | exact Below.refl _ _ | assumption | refine sub_alloc ?_ _ | refine sub_setCell ?_ (by simp <;> omega) _ | refine sub_drew ?_ | refine below_drewN ?_ _ | refine sub_step (by assumption) ?_ (by first | rfl | (simp; done))))) (by omega)).mono ?_
  rintro e w4 ⟨rfl, m4, rfl⟩
  obtain ⟨s0, s1⟩ := sumV_bd xs
  obtain ⟨s2, s3⟩ := sumV_bd xs'
  rw [HL.out] at s1
  rw [HL'.out] at s3
  cases f0 : okN xs <;> cases f1 : okN xs' <;> rw [f0, f1] at hv <;> go_wp2_with fail
  all_goals
    go_ret
    refine ⟨ret_b ?_, (by repeat (first | with_reducible exact Below.refl _ _ | with_reducible assumption | with_reducible refine sub_alloc ?_ _ | (with_reducible refine sub_setCell2 ?_ ?_ _; (focus (first | (simp; done) | (simp <;> omega)))) | with_reducible refine sub_drew ?_ | with_reducible refine below_drewN ?_ _ | with_reducible refine sub_step (by assumption) ?_ (by first | rfl | (simp; done)) | exact Below.refl _ _ | assumption | refine sub_alloc ?_ _ | refine sub_setCell ?_ (by simp <;> omega) _ | refine sub_drew ?_ | refine below_drewN ?_ _ | refine sub_step (by assumption) ?_ (by first | rfl | (simp; done))))⟩
    rw [hv]
    simp <;> omega
end Go.Proofs.Ytnanaldolnehiaa
