/-
  Seeds of positions: SeedsOn, LeadOf, IsWhole.
-/
import Derived.Test.YtnanaldolnehiabDoorValid
namespace Go.Proofs.YtnanaldolnehiabDoor
open Go.ChangeShapes Go.WideShapes Go.RowKit Go.Deep

theorem okP_parts {r : Ru} {xs xs' : List Int} {pl : Int} (h : okP r xs xs' pl = true) : okR r = true ∧ (xs.length : Int) = 2 * r.pits ∧ xs'.length = 2 ∧ (0 ≤ pl ∧ pl ≤ 1) ∧ okN xs = true ∧ okN xs' = true ∧ xs.sum + xs'.sum ≤ 96 ∧ 0 ≤ xs.sum ∧ 0 ≤ xs'.sum ∧ sumL xs = xs.sum ∧ sumL xs' = xs'.sum ∧ sumV xs = xs.sum ∧ sumV xs' = xs'.sum := by
  simp only [okP, Bool.and_eq_true, decide_eq_true_eq] at h
  obtain ⟨⟨⟨⟨⟨⟨h0, h1⟩, h2⟩, h3⟩, h4⟩, h5⟩, h6⟩ := h
  have a := (okN_bd _ h4).1
  have b := (okN_bd _ h5).1
  refine ⟨h0, h1, h2, by simpa [inB] using h3, h4, h5, h6, a, b, ?_, ?_, by simp [sumV, h4], by simp [sumV, h5]⟩
  · have : xs.sum ≤ 96 := by omega
    simp [sumL, h4, this]
  · have : xs'.sum ≤ 96 := by omega
    simp [sumL, h5, this]

/-- The two results of a function of a position: a number, and a code. -/
def valP (b : Bool) (v : Int) : Int := if b then v else 0
def codP (b : Bool) : Int := if b then 0 else 1

end Go.Proofs.YtnanaldolnehiabDoor
