/-
  Seeds of a game and the length of a lap: the program's and the reference's functions, and the laws on them, walked.
-/
import Derived.Test.YtnanaldolnehiaaRules
namespace Go.Proofs.Ytnanaldolnehiaa
open Go.ChangeShapes Go.WideShapes Go.RowKit Go.Deep

theorem okR_bd {p s : Int} {st sk re fe ag : Bool} {c sl : Int} (h : okR ⟨p, s, st, sk, re, fe, ag, c, sl⟩ = true) : 2 ≤ p ∧ p ≤ 8 ∧ 1 ≤ s ∧ s ≤ 6 ∧ 0 ≤ c ∧ c ≤ 3 ∧ 0 ≤ sl ∧ sl ≤ 2 := by
  simp [okR, inB] at h
  omega
theorem mul_bd {p s : Int} (h0 : 2 ≤ p) (h1 : p ≤ 8) (h2 : 1 ≤ s) (h3 : s ≤ 6) : 0 ≤ 2 * p * s ∧ 2 * p * s ≤ 96 := by
  rcases (show p = 2 ∨ p = 3 ∨ p = 4 ∨ p = 5 ∨ p = 6 ∨ p = 7 ∨ p = 8 by omega) with rfl | rfl | rfl | rfl | rfl | rfl | rfl <;> omega
/-- The number of seeds of a game, and the code. -/
def totalF (r : Ru) : Int × Int := if okR r then (2 * r.pits * r.seeds, 0) else (0, 1)
/-- How many seeds a lap must have to end where it begins, and the code. -/
def lapF (r : Ru) : Int × Int := if okR r then (2 * r.pits + (if r.stores then 1 else 0) - (if r.skip then 1 else 0), 0) else (0, 1)

set_option maxHeartbeats 2000000 in
theorem TotalSeeds_any (p s : Int) (st sk re fe ag : Bool) (c sl : Int) (w : World) : Calls Try.prog 75 #[.agg #[.int .i64 p, .int .i64 s, .bool st, .bool sk, .bool re, .bool fe, .bool ag, .int .i64 c, .int .i64 sl]] w fun e w' => e = .returned (.tuple #[.int .i64 (totalF ⟨p, s, st, sk, re, fe, ag, c, sl⟩).1, .int .i64 (totalF ⟨p, s, st, sk, re, fe, ag, c, sl⟩).2]) ∧ Below w.heap.size w w' := by
  have hr := RuAt.box w 31 p s st sk re fe ag c sl
  cases hv : okR ⟨p, s, st, sk, re, fe, ag, c, sl⟩
  · have e1 : totalF ⟨p, s, st, sk, re, fe, ag, c, sl⟩ = (0, 1) := by simp [totalF, hv]
    rw [e1]
    clear e1
    go_enter Try.func75, Try.ntmps75
    go_wp2_with (first | (go_at_call 134; refine (ValidRules_any _ _ _ _ _ _ _ _ _ _).mono ?_; rintro e w1 ⟨rfl, hb1⟩; obtain ⟨k0, k1, k2, k3, k4, k5, k6, k7, k8⟩ := (hr.below hb1 (by simp)).flat))
    go_ret2
    exact ⟨rfl, (by repeat (first | with_reducible exact Below.refl _ _ | with_reducible assumption | with_reducible refine sub_alloc ?_ _ | (with_reducible refine sub_setCell2 ?_ ?_ _; (focus (first | (simp; done) | (simp <;> omega)))) | with_reducible refine sub_drew ?_ | with_reducible refine below_drewN ?_ _ | with_reducible refine sub_step (by assumption) ?_ (by first | rfl | (simp; done)) | exact Below.refl _ _ | assumption | refine sub_alloc ?_ _ | refine sub_setCell ?_ (by simp <;> omega) _ | refine sub_drew ?_ | refine below_drewN ?_ _ | refine sub_step (by assumption) ?_ (by first | rfl | (simp; done))))⟩
  obtain ⟨b0, b1, b2, b3, -⟩ := okR_bd hv
  obtain ⟨n0, n1⟩ := mul_bd b0 b1 b2 b3
  have e1 : totalF ⟨p, s, st, sk, re, fe, ag, c, sl⟩ = (2 * p * s, 0) := by simp [totalF, hv]
  rw [e1]
  clear e1
  all_goals
    go_enter Try.func75, Try.ntmps75
    go_wp2_with (first | (go_at_call 134; refine (ValidRules_any _ _ _ _ _ _ _ _ _ _).mono ?_; rintro e w1 ⟨rfl, hb1⟩; obtain ⟨k0, k1, k2, k3, k4, k5, k6, k7, k8⟩ := (hr.below hb1 (by simp)).flat))
    go_ret2
    exact ⟨by simp, (by repeat (first | with_reducible exact Below.refl _ _ | with_reducible assumption | with_reducible refine sub_alloc ?_ _ | (with_reducible refine sub_setCell2 ?_ ?_ _; (focus (first | (simp; done) | (simp <;> omega)))) | with_reducible refine sub_drew ?_ | with_reducible refine below_drewN ?_ _ | with_reducible refine sub_step (by assumption) ?_ (by first | rfl | (simp; done)) | exact Below.refl _ _ | assumption | refine sub_alloc ?_ _ | refine sub_setCell ?_ (by simp <;> omega) _ | refine sub_drew ?_ | refine below_drewN ?_ _ | refine sub_step (by assumption) ?_ (by first | rfl | (simp; done))))⟩
end Go.Proofs.Ytnanaldolnehiaa
