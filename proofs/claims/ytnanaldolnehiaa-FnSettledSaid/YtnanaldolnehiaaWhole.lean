/-
  All seeds of a position; whether a position is whole: IsWhole.
-/
import Derived.Test.YtnanaldolnehiaaEnds
set_option linter.unusedSimpArgs false
set_option linter.unusedVariables false
namespace Go.Proofs.Ytnanaldolnehiaa
open Go.ChangeShapes Go.WideShapes Go.RowKit Go.Deep

set_option maxHeartbeats 400000 in
theorem all_any (A A' : Option Addr) (n u n' u' : Nat) (xs xs' : List Int) (pl : Int) (w : World) (h : Ints w w.heap.size A n u xs) (h' : Ints w w.heap.size A' n' u' xs') (hn : n ≤ 4294967296) (hn' : n' ≤ 4294967296) :
    Calls Try.prog 148 #[.agg #[.slice A n u, .slice A' n' u', .int .i64 pl]] w fun e w' => e = .returned (.int .i64 (sumV xs + sumV xs')) ∧ Below w.heap.size w w' := by
  have HL := Lib.hid h.len
  have HL' := Lib.hid h'.len
  have HH := Lib.hid h
  have HH' := Lib.hid h'
  clear h h'
  go_enter Try.func148, Try.ntmps148
  go_wp2_with fail
  refine (sumOf_any _ _ _ _ xs _ (by exact HH.out.sub (by repeat (first | with_reducible exact Below.refl _ _ | with_reducible assumption | with_reducible refine sub_alloc ?_ _ | (with_reducible refine sub_setCell2 ?_ ?_ _; (focus (first | (simp; done) | (simp <;> omega)))) | with_reducible refine sub_drew ?_ | with_reducible refine below_drewN ?_ _ | with_reducible refine sub_step (by assumption) ?_ (by first | rfl | (simp; done)) | exact Below.refl _ _ | assumption | refine sub_alloc ?_ _ | refine sub_setCell ?_ (by simp <;> omega) _ | refine sub_drew ?_ | refine below_drewN ?_ _ | refine sub_step (by assumption) ?_ (by first | rfl | (simp; done))))) hn).mono ?_
  rintro e w1 ⟨rfl, m1, rfl⟩
  go_wp2_with fail
  refine (sumOf_any _ _ _ _ xs' _ (by exact HH'.out.sub (by repeat (first | with_reducible exact Below.refl _ _ | with_reducible assumption | with_reducible refine sub_alloc ?_ _ | (with_reducible refine sub_setCell2 ?_ ?_ _; (focus (first | (simp; done) | (simp <;> omega)))) | with_reducible refine sub_drew ?_ | with_reducible refine below_drewN ?_ _ | with_reducible refine sub_step (by assumption) ?_ (by first | rfl | (simp; done)) | exact Below.refl _ _ | assumption | refine sub_alloc ?_ _ | refine sub_setCell ?_ (by simp <;> omega) _ | refine sub_drew ?_ | refine below_drewN ?_ _ | refine sub_step (by assumption) ?_ (by first | rfl | (simp; done))))) hn').mono ?_
  rintro e w2 ⟨rfl, m2, rfl⟩
  obtain ⟨s0, s1⟩ := sumV_bd xs
  obtain ⟨s2, s3⟩ := sumV_bd xs'
  rw [HL.out] at s1
  rw [HL'.out] at s3
  go_wp2_with fail
  go_ret
  exact ⟨rfl, (by repeat (first | with_reducible exact Below.refl _ _ | with_reducible assumption | with_reducible refine sub_alloc ?_ _ | (with_reducible refine sub_setCell2 ?_ ?_ _; (focus (first | (simp; done) | (simp <;> omega)))) | with_reducible refine sub_drew ?_ | with_reducible refine below_drewN ?_ _ | with_reducible refine sub_step (by assumption) ?_ (by first | rfl | (simp; done)) | exact Below.refl _ _ | assumption | refine sub_alloc ?_ _ | refine sub_setCell ?_ (by simp <;> omega) _ | refine sub_drew ?_ | refine below_drewN ?_ _ | refine sub_step (by assumption) ?_ (by first | rfl | (simp; done))))⟩
theorem l04Ok_is (b o b2 o2 : Nat) (r : Ru) (A A' : Option Addr) (n c n' c' : Nat) (xs xs' : List Int) (pl : Int) (v : Bool) (hv : okP r xs xs' pl = v) (w : World) (hr : RuAt w b o r) (hp : PosAt w b2 o2 A n c A' n' c' pl)
    (h : Ints w w.heap.size A n c xs) (h' : Ints w w.heap.size A' n' c' xs') (hn : n ≤ 4294967296) :
    Calls Try.prog 98 #[.pointer (some ⟨b, o, none⟩), .pointer (some ⟨b2, o2, none⟩)] w fun e w' => e = .returned (.bool v) ∧ ∃ m, w' = w.drewN m := by
  subst hv
  exact l04Ok_any b o b2 o2 r A A' n c n' c' xs xs' pl w hr hp h h' hn
theorem l04Sum_is (B : Nat) (A : Option Addr) (n c : Nat) (zs : List Int) (v : Int) (hv : sumL zs = v) (w : World) (h : Ints w B A n c zs) (hn : n ≤ 4294967296) :
    Calls Try.prog 138 #[.slice A n c] w fun e w' => e = .returned (.int .i64 v) ∧ ∃ m, w' = w.drewN m := by
  subst hv
  exact l04Sum_any B A n c zs w h hn

/-- Whether a position is whole. -/
def wholeP (r : Ru) (xs xs' : List Int) (pl : Int) : Bool := okP r xs xs' pl && decide (xs.sum + xs'.sum = 2 * r.pits * r.seeds)
theorem okR_seeds {r : Ru} (h : okR r = true) : 1 ≤ r.seeds ∧ r.seeds ≤ 6 := by
  simp [okR, inB] at h
  omega

theorem bd_ps {p s : Int} (h0 : 2 ≤ p) (h1 : p ≤ 8) (h2 : 1 ≤ s) (h3 : s ≤ 6) : 0 ≤ 2 * p * s ∧ 2 * p * s ≤ 96 := by
  have a : 0 ≤ p * s := Int.mul_nonneg (by omega) (by omega)
  have b : p * s ≤ 8 * 6 := Int.mul_le_mul h1 h3 (by omega) (by omega)
  rw [Int.mul_assoc]
  omega

set_option maxHeartbeats 400000 in
theorem specIsWhole_any (p s : Int) (st sk re fe ag : Bool) (c sl : Int) (A A' : Option Addr) (n u n' u' : Nat) (xs xs' : List Int) (pl : Int) (w : World) (h : Ints w w.heap.size A n u xs) (h' : Ints w w.heap.size A' n' u' xs') (hn : n ≤ 4294967296) :
    Calls Try.prog 78 #[.agg #[.int .i64 p, .int .i64 s, .bool st, .bool sk, .bool re, .bool fe, .bool ag, .int .i64 c, .int .i64 sl], .agg #[.slice A n u, .slice A' n' u', .int .i64 pl]] w fun e w' => e = .returned (.bool (wholeP ⟨p, s, st, sk, re, fe, ag, c, sl⟩ xs xs' pl)) ∧ Below w.heap.size w w' := by
  have HL' := Lib.hid h'.len
  have P0 := Lib.hid ((RuAt.box w 31 p s st sk re fe ag c sl).alloc (.cells #[.slice A n u, .slice A' n' u', .int .i64 pl] 28))
  have P1 := Lib.hid (PosAt.box (w.alloc (.cells #[.int .i64 p, .int .i64 s, .bool st, .bool sk, .bool re, .bool fe, .bool ag, .int .i64 c, .int .i64 sl] 31)) 28 A n u A' n' u' pl)
  have hbW : Below w.heap.size w ((w.alloc (.cells #[.int .i64 p, .int .i64 s, .bool st, .bool sk, .bool re, .bool fe, .bool ag, .int .i64 c, .int .i64 sl] 31)).alloc (.cells #[.slice A n u, .slice A' n' u', .int .i64 pl] 28)) := (by repeat (first | with_reducible exact Below.refl _ _ | with_reducible assumption | with_reducible refine sub_alloc ?_ _ | (with_reducible refine sub_setCell2 ?_ ?_ _; (focus (first | (simp; done) | (simp <;> omega)))) | with_reducible refine sub_drew ?_ | with_reducible refine below_drewN ?_ _ | with_reducible refine sub_step (by assumption) ?_ (by first | rfl | (simp; done)) | exact Below.refl _ _ | assumption | refine sub_alloc ?_ _ | refine sub_setCell ?_ (by simp <;> omega) _ | refine sub_drew ?_ | refine below_drewN ?_ _ | refine sub_step (by assumption) ?_ (by first | rfl | (simp; done))))
  have HH := Lib.hid (h.sub hbW)
  have HH' := Lib.hid (h'.sub hbW)
  clear h h' hbW
  have hs1 : (w.alloc (.cells #[.int .i64 p, .int .i64 s, .bool st, .bool sk, .bool re, .bool fe, .bool ag, .int .i64 c, .int .i64 sl] 31)).heap.size = w.heap.size + 1 := by simp
  have P3 := P1.out
  rw [hs1] at P3
  clear P1 hs1
  have P1 := Lib.hid P3
  obtain ⟨d0, d1, d2⟩ := P3.flat
  have P4 := P0.out
  obtain ⟨c0, c1, -⟩ := P4.flat
  clear P3 P4
  cases e0 : okP ⟨p, s, st, sk, re, fe, ag, c, sl⟩ xs xs' pl
  · go_enter Try.func78, Try.ntmps78
    go_wp2_with fail
    go_quiet ((go_at_call 98; exact Calls.quiet_of (l04Ok_is w.heap.size 0 (w.heap.size + 1) 0 ⟨p, s, st, sk, re, fe, ag, c, sl⟩ _ _ _ _ _ _ xs xs' pl false e0 _ P0.out P1.out (HH.out.drewN _) (HH'.out.drewN _) hn)))
    go_wp2_with fail
    go_ret
    exact ⟨ret_b (by simp [wholeP, e0]), (by repeat (first | with_reducible exact Below.refl _ _ | with_reducible assumption | with_reducible refine sub_alloc ?_ _ | (with_reducible refine sub_setCell2 ?_ ?_ _; (focus (first | (simp; done) | (simp <;> omega)))) | with_reducible refine sub_drew ?_ | with_reducible refine below_drewN ?_ _ | with_reducible refine sub_step (by assumption) ?_ (by first | rfl | (simp; done)) | exact Below.refl _ _ | assumption | refine sub_alloc ?_ _ | refine sub_setCell ?_ (by simp <;> omega) _ | refine sub_drew ?_ | refine below_drewN ?_ _ | refine sub_step (by assumption) ?_ (by first | rfl | (simp; done))))⟩
  obtain ⟨z1, -, z2, -, -, -, z6, z7, z8, z9, z10, -⟩ := okP_parts e0
  obtain ⟨hq0, hq1⟩ := okR_pits z1
  obtain ⟨hs0, hs1⟩ := okR_seeds z1
  dsimp only at hq0 hq1 hs0 hs1
  obtain rfl : n' = 2 := by rw [← HL'.out, z2]
  clear z1 z2
  have Z9 := Lib.hid z9
  have Z10 := Lib.hid z10
  clear z9 z10
  have hps := bd_ps hq0 hq1 hs0 hs1
  by_cases e1 : xs.sum + xs'.sum = 2 * p * s
  · have e2 : (xs.sum + xs'.sum == 2 * p * s) = true := by simpa using e1
    have E1 := Lib.hid e1
    clear e1
    go_enter Try.func78, Try.ntmps78
    go_wp2_with fail
    go_quiet ((first | (go_at_call 98; exact Calls.quiet_of (l04Ok_is w.heap.size 0 (w.heap.size + 1) 0 ⟨p, s, st, sk, re, fe, ag, c, sl⟩ _ _ _ _ _ _ xs xs' pl true e0 _ P0.out P1.out (HH.out.drewN _) (HH'.out.drewN _) hn)) | (go_at_call_of 138 (Value.slice A n u); exact Calls.quiet_of (l04Sum_is _ _ _ _ xs _ Z9.out _ (HH.out.drewN _) hn)) | (go_at_call_of 138 (Value.slice A' 2 u'); exact Calls.quiet_of (l04Sum_is _ _ _ _ xs' _ Z10.out _ (HH'.out.drewN _) (by omega)))))
    go_wp2_with fail
    go_ret
    exact ⟨ret_b (by simp [wholeP, e0, E1.out]), (by repeat (first | with_reducible exact Below.refl _ _ | with_reducible assumption | with_reducible refine sub_alloc ?_ _ | (with_reducible refine sub_setCell2 ?_ ?_ _; (focus (first | (simp; done) | (simp <;> omega)))) | with_reducible refine sub_drew ?_ | with_reducible refine below_drewN ?_ _ | with_reducible refine sub_step (by assumption) ?_ (by first | rfl | (simp; done)) | exact Below.refl _ _ | assumption | refine sub_alloc ?_ _ | refine sub_setCell ?_ (by simp <;> omega) _ | refine sub_drew ?_ | refine below_drewN ?_ _ | refine sub_step (by assumption) ?_ (by first | rfl | (simp; done))))⟩
  · have e2 : (xs.sum + xs'.sum == 2 * p * s) = false := by simpa using e1
    have E1 := Lib.hid e1
    clear e1
    go_enter Try.func78, Try.ntmps78
    go_wp2_with fail
    go_quiet ((first | (go_at_call 98; exact Calls.quiet_of (l04Ok_is w.heap.size 0 (w.heap.size + 1) 0 ⟨p, s, st, sk, re, fe, ag, c, sl⟩ _ _ _ _ _ _ xs xs' pl true e0 _ P0.out P1.out (HH.out.drewN _) (HH'.out.drewN _) hn)) | (go_at_call_of 138 (Value.slice A n u); exact Calls.quiet_of (l04Sum_is _ _ _ _ xs _ Z9.out _ (HH.out.drewN _) hn)) | (go_at_call_of 138 (Value.slice A' 2 u'); exact Calls.quiet_of (l04Sum_is _ _ _ _ xs' _ Z10.out _ (HH'.out.drewN _) (by omega)))))
    go_wp2_with fail
    go_ret
    exact ⟨ret_b (by simp [wholeP, e0, E1.out]), (by repeat (first | with_reducible exact Below.refl _ _ | with_reducible assumption | with_reducible refine sub_alloc ?_ _ | (with_reducible refine sub_setCell2 ?_ ?_ _; (focus (first | (simp; done) | (simp <;> omega)))) | with_reducible refine sub_drew ?_ | with_reducible refine below_drewN ?_ _ | with_reducible refine sub_step (by assumption) ?_ (by first | rfl | (simp; done)) | exact Below.refl _ _ | assumption | refine sub_alloc ?_ _ | refine sub_setCell ?_ (by simp <;> omega) _ | refine sub_drew ?_ | refine below_drewN ?_ _ | refine sub_step (by assumption) ?_ (by first | rfl | (simp; done))))⟩
theorem ValidPosition_is (p s : Int) (st sk re fe ag : Bool) (c sl : Int) (A A' : Option Addr) (n u n' u' : Nat) (xs xs' : List Int) (pl : Int) (v : Bool) (hv : okP ⟨p, s, st, sk, re, fe, ag, c, sl⟩ xs xs' pl = v) (w : World) (h : Ints w w.heap.size A n u xs) (h' : Ints w w.heap.size A' n' u' xs') (hn : n ≤ 4294967296) :
    Calls Try.prog 101 #[.agg #[.int .i64 p, .int .i64 s, .bool st, .bool sk, .bool re, .bool fe, .bool ag, .int .i64 c, .int .i64 sl], .agg #[.slice A n u, .slice A' n' u', .int .i64 pl]] w fun e w' => e = .returned (.bool v) ∧ Below w.heap.size w w' := by
  subst hv
  exact ValidPosition_any p s st sk re fe ag c sl A A' n u n' u' xs xs' pl w h h' hn
theorem all_is (A A' : Option Addr) (n u n' u' : Nat) (xs xs' : List Int) (pl : Int) (v : Int) (hv : sumV xs + sumV xs' = v) (w : World) (h : Ints w w.heap.size A n u xs) (h' : Ints w w.heap.size A' n' u' xs') (hn : n ≤ 4294967296) (hn' : n' ≤ 4294967296) :
    Calls Try.prog 148 #[.agg #[.slice A n u, .slice A' n' u', .int .i64 pl]] w fun e w' => e = .returned (.int .i64 v) ∧ Below w.heap.size w w' := by
  subst hv
  exact all_any A A' n u n' u' xs xs' pl w h h' hn hn'
end Go.Proofs.Ytnanaldolnehiaa
