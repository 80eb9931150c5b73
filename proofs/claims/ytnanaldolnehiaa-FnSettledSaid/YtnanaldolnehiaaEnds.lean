/-
  Seeds of positions: SeedsOn, LeadOf, IsWhole.
-/
import Derived.Test.YtnanaldolnehiaaValid
namespace Go.Proofs.Ytnanaldolnehiaa
open Go.ChangeShapes Go.WideShapes Go.RowKit Go.Deep

theorem okP_parts {r : Ru} {xs xs' : List Int} {pl : Int} (h : okP r xs xs' pl = true) : okR r = true ∧ (xs.length : Int) = 2 * r.pits ∧ xs'.length = 2 ∧ (0 ≤ pl ∧ pl ≤ 1) ∧ okN xs = true ∧ okN xs' = true ∧ xs.sum + xs'.sum ≤ 96 ∧ 0 ≤ xs.sum ∧ 0 ≤ xs'.sum ∧ sumL xs = xs.sum ∧ sumL xs' = xs'.sum ∧ sumV xs = xs.sum ∧ sumV xs' = xs'.sum := by
  simp only [okP, Bool.and_eq_true, decide_eq_true_eq] at h
  obtain ⟨⟨⟨⟨⟨⟨h0, h1⟩, h2⟩, h3⟩, h4⟩, h5⟩, h6⟩ := h
  have a := (okN_bd _ h4).1
  have b := (okN_bd _ h5).1
  refine ⟨h0, h1, h2, by simpa [inB] using h3, h4, h5, h6, a, b, ?_, ?_, by simp [sumV, h4], by simp [sumV, h5]⟩
  · have : xs.sum ≤ 96 := by omega
    simp [sumL, h4, this]
  · have : xs'.sum ≤ 96 := by omega
    simp [sumL, h5, this]

/-- The two results of a function of a position: a number, and a code. -/
def valP (b : Bool) (v : Int) : Int := if b then v else 0
def codP (b : Bool) : Int := if b then 0 else 1

set_option maxHeartbeats 1000000 in
theorem SeedsOn_any (p s : Int) (st sk re fe ag : Bool) (c sl : Int) (A A' : Option Addr) (n u n' u' : Nat) (xs xs' : List Int) (pl : Int) (w : World) (h : Ints w w.heap.size A n u xs) (h' : Ints w w.heap.size A' n' u' xs') (hn : n ≤ 4294967296) :
    Calls Try.prog 96 #[.agg #[.int .i64 p, .int .i64 s, .bool st, .bool sk, .bool re, .bool fe, .bool ag, .int .i64 c, .int .i64 sl], .agg #[.slice A n u, .slice A' n' u', .int .i64 pl]] w fun e w' => e = .returned (.tuple #[.int .i64 (valP (okP ⟨p, s, st, sk, re, fe, ag, c, sl⟩ xs xs' pl) xs.sum), .int .i64 (codP (okP ⟨p, s, st, sk, re, fe, ag, c, sl⟩ xs xs' pl))]) ∧ Below w.heap.size w w' := by
  have HH := Lib.hid h
  have HH' := Lib.hid h'
  have P0 := Lib.hid ((RuAt.box w 31 p s st sk re fe ag c sl).alloc (.cells #[.slice A n u, .slice A' n' u', .int .i64 pl] 28))
  have P1 := Lib.hid (PosAt.box (w.alloc (.cells #[.int .i64 p, .int .i64 s, .bool st, .bool sk, .bool re, .bool fe, .bool ag, .int .i64 c, .int .i64 sl] 31)) 28 A n u A' n' u' pl)
  clear h h'
  cases e0 : okP ⟨p, s, st, sk, re, fe, ag, c, sl⟩ xs xs' pl
  · go_enter Try.func96, Try.ntmps96
    go_wp2_with fail
    refine (ValidPosition_any p s st sk re fe ag c sl _ _ _ _ _ _ xs xs' pl _ (by exact HH.out.sub (by repeat (first | with_reducible exact Below.refl _ _ | with_reducible assumption | with_reducible refine sub_alloc ?_ _ | (with_reducible refine sub_setCell2 ?_ ?_ _; (focus (first | (simp; done) | (simp <;> omega)))) | with_reducible refine sub_drew ?_ | with_reducible refine below_drewN ?_ _ | with_reducible refine sub_step (by assumption) ?_ (by first | rfl | (simp; done)) | exact Below.refl _ _ | assumption | refine sub_alloc ?_ _ | refine sub_setCell ?_ (by simp <;> omega) _ | refine sub_drew ?_ | refine below_drewN ?_ _ | refine sub_step (by assumption) ?_ (by first | rfl | (simp; done))))) (by exact HH'.out.sub (by repeat (first | with_reducible exact Below.refl _ _ | with_reducible assumption | with_reducible refine sub_alloc ?_ _ | (with_reducible refine sub_setCell2 ?_ ?_ _; (focus (first | (simp; done) | (simp <;> omega)))) | with_reducible refine sub_drew ?_ | with_reducible refine below_drewN ?_ _ | with_reducible refine sub_step (by assumption) ?_ (by first | rfl | (simp; done)) | exact Below.refl _ _ | assumption | refine sub_alloc ?_ _ | refine sub_setCell ?_ (by simp <;> omega) _ | refine sub_drew ?_ | refine below_drewN ?_ _ | refine sub_step (by assumption) ?_ (by first | rfl | (simp; done))))) hn).mono ?_
    rintro e w1 ⟨rfl, hb1⟩
    go_wp2_with fail
    go_ret2
    exact ⟨rfl, (by repeat (first | with_reducible exact Below.refl _ _ | with_reducible assumption | with_reducible refine sub_alloc ?_ _ | (with_reducible refine sub_setCell2 ?_ ?_ _; (focus (first | (simp; done) | (simp <;> omega)))) | with_reducible refine sub_drew ?_ | with_reducible refine below_drewN ?_ _ | with_reducible refine sub_step (by assumption) ?_ (by first | rfl | (simp; done)) | exact Below.refl _ _ | assumption | refine sub_alloc ?_ _ | refine sub_setCell ?_ (by simp <;> omega) _ | refine sub_drew ?_ | refine below_drewN ?_ _ | refine sub_step (by assumption) ?_ (by first | rfl | (simp; done))))⟩
  obtain ⟨-, -, -, -, -, -, -, -, -, -, -, z0, -⟩ := okP_parts e0
  go_enter Try.func96, Try.ntmps96
  go_wp2_with fail
  refine (ValidPosition_any p s st sk re fe ag c sl _ _ _ _ _ _ xs xs' pl _ (by exact HH.out.sub (by repeat (first | with_reducible exact Below.refl _ _ | with_reducible assumption | with_reducible refine sub_alloc ?_ _ | (with_reducible refine sub_setCell2 ?_ ?_ _; (focus (first | (simp; done) | (simp <;> omega)))) | with_reducible refine sub_drew ?_ | with_reducible refine below_drewN ?_ _ | with_reducible refine sub_step (by assumption) ?_ (by first | rfl | (simp; done)) | exact Below.refl _ _ | assumption | refine sub_alloc ?_ _ | refine sub_setCell ?_ (by simp <;> omega) _ | refine sub_drew ?_ | refine below_drewN ?_ _ | refine sub_step (by assumption) ?_ (by first | rfl | (simp; done))))) (by exact HH'.out.sub (by repeat (first | with_reducible exact Below.refl _ _ | with_reducible assumption | with_reducible refine sub_alloc ?_ _ | (with_reducible refine sub_setCell2 ?_ ?_ _; (focus (first | (simp; done) | (simp <;> omega)))) | with_reducible refine sub_drew ?_ | with_reducible refine below_drewN ?_ _ | with_reducible refine sub_step (by assumption) ?_ (by first | rfl | (simp; done)) | exact Below.refl _ _ | assumption | refine sub_alloc ?_ _ | refine sub_setCell ?_ (by simp <;> omega) _ | refine sub_drew ?_ | refine below_drewN ?_ _ | refine sub_step (by assumption) ?_ (by first | rfl | (simp; done))))) hn).mono ?_
  rintro e w1 ⟨rfl, hb1⟩
  have P3 := P1.out.below hb1 (by simp <;> omega)
  obtain ⟨d0, d1, d2⟩ := P3.flat
  simp at d0 d1 d2
  go_wp2_with fail
  refine (sumOf_any _ _ _ _ xs _ (by exact HH.out.sub (by repeat (first | with_reducible exact Below.refl _ _ | with_reducible assumption | with_reducible refine sub_alloc ?_ _ | (with_reducible refine sub_setCell2 ?_ ?_ _; (focus (first | (simp; done) | (simp <;> omega)))) | with_reducible refine sub_drew ?_ | with_reducible refine below_drewN ?_ _ | with_reducible refine sub_step (by assumption) ?_ (by first | rfl | (simp; done)) | exact Below.refl _ _ | assumption | refine sub_alloc ?_ _ | refine sub_setCell ?_ (by simp <;> omega) _ | refine sub_drew ?_ | refine below_drewN ?_ _ | refine sub_step (by assumption) ?_ (by first | rfl | (simp; done))))) hn).mono ?_
  rintro e w2 ⟨rfl, m2, rfl⟩
  go_wp2_with fail
  go_ret2
  exact ⟨rfl, (by repeat (first | with_reducible exact Below.refl _ _ | with_reducible assumption | with_reducible refine sub_alloc ?_ _ | (with_reducible refine sub_setCell2 ?_ ?_ _; (focus (first | (simp; done) | (simp <;> omega)))) | with_reducible refine sub_drew ?_ | with_reducible refine below_drewN ?_ _ | with_reducible refine sub_step (by assumption) ?_ (by first | rfl | (simp; done)) | exact Below.refl _ _ | assumption | refine sub_alloc ?_ _ | refine sub_setCell ?_ (by simp <;> omega) _ | refine sub_drew ?_ | refine below_drewN ?_ _ | refine sub_step (by assumption) ?_ (by first | rfl | (simp; done))))⟩
end Go.Proofs.Ytnanaldolnehiaa
