/-
  Seeds of a game and the length of a lap: the program's and the reference's functions, and the laws on them, walked.
-/
import Derived.Test.YtgcmlalpeikiaaaRules
namespace Go.Proofs.Ytgcmlalpeikiaaa
open Go.ChangeShapes Go.WideShapes Go.RowKit Go.Deep

theorem okR_bd {p s : Int} {st sk re fe ag : Bool} {c sl : Int} (h : okR ⟨p, s, st, sk, re, fe, ag, c, sl⟩ = true) : 2 ≤ p ∧ p ≤ 8 ∧ 1 ≤ s ∧ s ≤ 6 ∧ 0 ≤ c ∧ c ≤ 3 ∧ 0 ≤ sl ∧ sl ≤ 2 := by
  simp [okR, inB] at h
  omega
theorem mul_bd {p s : Int} (h0 : 2 ≤ p) (h1 : p ≤ 8) (h2 : 1 ≤ s) (h3 : s ≤ 6) : 0 ≤ 2 * p * s ∧ 2 * p * s ≤ 96 := by
  rcases (show p = 2 ∨ p = 3 ∨ p = 4 ∨ p = 5 ∨ p = 6 ∨ p = 7 ∨ p = 8 by omega) with rfl | rfl | rfl | rfl | rfl | rfl | rfl <;> omega
/-- The number of seeds of a game, and the code. -/
def totalF (r : Ru) : Int × Int := if okR r then (2 * r.pits * r.seeds, 0) else (0, 1)
/-- How many seeds a lap must have to end where it begins, and the code. -/
def lapF (r : Ru) : Int × Int := if okR r then (2 * r.pits + (if r.stores then 1 else 0) - (if r.skip then 1 else 0), 0) else (0, 1)

set_option maxHeartbeats 2000000 in
theorem TotalSeeds_any (p s : Int) (st sk re fe ag : Bool) (c sl : Int) (w : World) : Calls Try.prog 72 #[.agg #[.int .i64 p, .int .i64 s, .bool st, .bool sk, .bool re, .bool fe, .bool ag, .int .i64 c, .int .i64 sl]] w fun e w' => e = .returned (.tuple #[.int .i64 (totalF ⟨p, s, st, sk, re, fe, ag, c, sl⟩).1, .int .i64 (totalF ⟨p, s, st, sk, re, fe, ag, c, sl⟩).2]) ∧ Below w.heap.size w w' := by
  have hr := RuAt.box w 48 p s st sk re fe ag c sl
  cases hv : okR ⟨p, s, st, sk, re, fe, ag, c, sl⟩
  · have e1 : totalF ⟨p, s, st, sk, re, fe, ag, c, sl⟩ = (0, 1) := by simp [totalF, hv]
    rw [e1]
    clear e1
    go_enter Try.func72, Try.ntmps72
    go_wp2_with (first | (go_at_call 70; refine (ValidRules_any _ _ _ _ _ _ _ _ _ _).mono ?_; rintro e w1 ⟨rfl, hb1⟩; obtain ⟨k0, k1, k2, k3, k4, k5, k6, k7, k8⟩ := (hr.below hb1 (by simp)).flat))
    go_ret2
    exact ⟨rfl, (by repeat (first | exact Below.refl _ _ | assumption | refine sub_alloc ?_ _ | refine sub_setCell ?_ (by simp <;> omega) _ | refine sub_drew ?_ | refine below_drewN ?_ _ | refine sub_step (by assumption) ?_ (by first | rfl | (simp; done))))⟩
  obtain ⟨b0, b1, b2, b3, -⟩ := okR_bd hv
  obtain ⟨n0, n1⟩ := mul_bd b0 b1 b2 b3
  have e1 : totalF ⟨p, s, st, sk, re, fe, ag, c, sl⟩ = (2 * p * s, 0) := by simp [totalF, hv]
  rw [e1]
  clear e1
  all_goals
    go_enter Try.func72, Try.ntmps72
    go_wp2_with (first | (go_at_call 70; refine (ValidRules_any _ _ _ _ _ _ _ _ _ _).mono ?_; rintro e w1 ⟨rfl, hb1⟩; obtain ⟨k0, k1, k2, k3, k4, k5, k6, k7, k8⟩ := (hr.below hb1 (by simp)).flat))
    go_ret2
    exact ⟨by simp, (by repeat (first | exact Below.refl _ _ | assumption | refine sub_alloc ?_ _ | refine sub_setCell ?_ (by simp <;> omega) _ | refine sub_drew ?_ | refine below_drewN ?_ _ | refine sub_step (by assumption) ?_ (by first | rfl | (simp; done))))⟩
set_option maxHeartbeats 2000000 in
theorem specTotalSeeds_any (p s : Int) (st sk re fe ag : Bool) (c sl : Int) (w : World) : Calls Try.prog 71 #[.agg #[.int .i64 p, .int .i64 s, .bool st, .bool sk, .bool re, .bool fe, .bool ag, .int .i64 c, .int .i64 sl]] w fun e w' => e = .returned (.tuple #[.int .i64 (totalF ⟨p, s, st, sk, re, fe, ag, c, sl⟩).1, .int .i64 (totalF ⟨p, s, st, sk, re, fe, ag, c, sl⟩).2]) ∧ Below w.heap.size w w' := by
  have hr := RuAt.box w 48 p s st sk re fe ag c sl
  cases hv : okR ⟨p, s, st, sk, re, fe, ag, c, sl⟩
  · have e1 : totalF ⟨p, s, st, sk, re, fe, ag, c, sl⟩ = (0, 1) := by simp [totalF, hv]
    rw [e1]
    clear e1
    go_enter Try.func71, Try.ntmps71
    go_wp2_with (first | (go_at_call 103; refine (l02Ok_any _ _ _ _ hr).mono ?_; rintro e w1 ⟨rfl, rfl⟩))
    go_ret2
    exact ⟨rfl, (by repeat (first | exact Below.refl _ _ | assumption | refine sub_alloc ?_ _ | refine sub_setCell ?_ (by simp <;> omega) _ | refine sub_drew ?_ | refine below_drewN ?_ _ | refine sub_step (by assumption) ?_ (by first | rfl | (simp; done))))⟩
  obtain ⟨b0, b1, b2, b3, -⟩ := okR_bd hv
  obtain ⟨n0, n1⟩ := mul_bd b0 b1 b2 b3
  have e1 : totalF ⟨p, s, st, sk, re, fe, ag, c, sl⟩ = (2 * p * s, 0) := by simp [totalF, hv]
  rw [e1]
  clear e1
  all_goals
    go_enter Try.func71, Try.ntmps71
    go_wp2_with (first | (go_at_call 103; refine (l02Ok_any _ _ _ _ hr).mono ?_; rintro e w1 ⟨rfl, rfl⟩))
    go_ret2
    exact ⟨by simp, (by repeat (first | exact Below.refl _ _ | assumption | refine sub_alloc ?_ _ | refine sub_setCell ?_ (by simp <;> omega) _ | refine sub_drew ?_ | refine below_drewN ?_ _ | refine sub_step (by assumption) ?_ (by first | rfl | (simp; done))))⟩
set_option maxHeartbeats 1000000 in
theorem FnExactTotalSeeds_walk (a0 : Ru) (w : World) (_h : a0.wf) : Calls Try.prog 19 #[.agg a0.cells.toArray] w fun e w' => e = .returned (.bool true) ∧ Below w.heap.size w w' := by
  obtain ⟨p, s, st, sk, re, fe, ag, c, sl⟩ := a0
  show Calls Try.prog 19 #[.agg #[.int .i64 p, .int .i64 s, .bool st, .bool sk, .bool re, .bool fe, .bool ag, .int .i64 c, .int .i64 sl]] w _
  clear _h
  have hr := RuAt.box w 52 p s st sk re fe ag c sl
  go_enter Try.func19, Try.ntmps19
  go_wp2_with fail
  refine (toRules_any _ _ _ _ _ _ _ _ _ _).mono ?_; rintro e w1 ⟨rfl, hb1⟩
  have q1 := hr.below hb1 (by simp)
  go_wp2_with fail
  refine (specTotalSeeds_any _ _ _ _ _ _ _ _ _ _).mono ?_; rintro e w2 ⟨rfl, hb2⟩
  obtain ⟨k0, k1, k2, k3, k4, k5, k6, k7, k8⟩ := (q1.below hb2 q1.lt).flat
  go_wp2_with fail
  refine (toRules_any _ _ _ _ _ _ _ _ _ _).mono ?_; rintro e w3 ⟨rfl, hb3⟩
  go_wp2_with fail
  refine (TotalSeeds_any _ _ _ _ _ _ _ _ _ _).mono ?_; rintro e w4 ⟨rfl, hb4⟩
  go_wp2_with fail
  go_ret
  exact ⟨rfl, (by repeat (first | exact Below.refl _ _ | assumption | refine sub_alloc ?_ _ | refine sub_setCell ?_ (by simp <;> omega) _ | refine sub_drew ?_ | refine below_drewN ?_ _ | refine sub_step (by assumption) ?_ (by first | rfl | (simp; done))))⟩
set_option maxHeartbeats 1000000 in
theorem l05Length_any (b : Nat) (p s : Int) (st sk re fe ag : Bool) (c sl : Int) (w : World) (h : RuAt w b 0 ⟨p, s, st, sk, re, fe, ag, c, sl⟩) (h0 : 2 ≤ p) (h1 : p ≤ 8) : Calls Try.prog 104 #[.pointer (some ⟨b, 0, none⟩)] w fun e w' => e = .returned (.int .i64 (2 * p + (if st then 1 else 0) - (if sk then 1 else 0))) ∧ w = w' := by
  obtain ⟨k0, k1, k2, k3, k4, k5, k6, k7, k8⟩ := h.flat
  cases st <;> cases sk
  all_goals
    go_enter Try.func104, Try.ntmps104
    go_wp2
    go_ret
    simp
set_option maxHeartbeats 2000000 in
theorem LapLength_any (p s : Int) (st sk re fe ag : Bool) (c sl : Int) (w : World) : Calls Try.prog 74 #[.agg #[.int .i64 p, .int .i64 s, .bool st, .bool sk, .bool re, .bool fe, .bool ag, .int .i64 c, .int .i64 sl]] w fun e w' => e = .returned (.tuple #[.int .i64 (lapF ⟨p, s, st, sk, re, fe, ag, c, sl⟩).1, .int .i64 (lapF ⟨p, s, st, sk, re, fe, ag, c, sl⟩).2]) ∧ Below w.heap.size w w' := by
  have hr := RuAt.box w 48 p s st sk re fe ag c sl
  cases hv : okR ⟨p, s, st, sk, re, fe, ag, c, sl⟩
  · have e1 : lapF ⟨p, s, st, sk, re, fe, ag, c, sl⟩ = (0, 1) := by simp [lapF, hv]
    rw [e1]
    clear e1
    go_enter Try.func74, Try.ntmps74
    go_wp2_with (first | (go_at_call 70; refine (ValidRules_any _ _ _ _ _ _ _ _ _ _).mono ?_; rintro e w1 ⟨rfl, hb1⟩; obtain ⟨k0, k1, k2, k3, k4, k5, k6, k7, k8⟩ := (hr.below hb1 (by simp)).flat))
    go_ret2
    exact ⟨rfl, (by repeat (first | exact Below.refl _ _ | assumption | refine sub_alloc ?_ _ | refine sub_setCell ?_ (by simp <;> omega) _ | refine sub_drew ?_ | refine below_drewN ?_ _ | refine sub_step (by assumption) ?_ (by first | rfl | (simp; done))))⟩
  obtain ⟨b0, b1, b2, b3, -⟩ := okR_bd hv
  have e1 : lapF ⟨p, s, st, sk, re, fe, ag, c, sl⟩ = (2 * p + (if st then 1 else 0) - (if sk then 1 else 0), 0) := by simp [lapF, hv]
  rw [e1]
  clear e1
  cases st <;> cases sk
  all_goals
    go_enter Try.func74, Try.ntmps74
    go_wp2_with (first | (go_at_call 70; refine (ValidRules_any _ _ _ _ _ _ _ _ _ _).mono ?_; rintro e w1 ⟨rfl, hb1⟩; obtain ⟨k0, k1, k2, k3, k4, k5, k6, k7, k8⟩ := (hr.below hb1 (by simp)).flat))
    go_ret2
    exact ⟨by simp, (by repeat (first | exact Below.refl _ _ | assumption | refine sub_alloc ?_ _ | refine sub_setCell ?_ (by simp <;> omega) _ | refine sub_drew ?_ | refine below_drewN ?_ _ | refine sub_step (by assumption) ?_ (by first | rfl | (simp; done))))⟩
set_option maxHeartbeats 2000000 in
theorem specLapLength_any (p s : Int) (st sk re fe ag : Bool) (c sl : Int) (w : World) : Calls Try.prog 73 #[.agg #[.int .i64 p, .int .i64 s, .bool st, .bool sk, .bool re, .bool fe, .bool ag, .int .i64 c, .int .i64 sl]] w fun e w' => e = .returned (.tuple #[.int .i64 (lapF ⟨p, s, st, sk, re, fe, ag, c, sl⟩).1, .int .i64 (lapF ⟨p, s, st, sk, re, fe, ag, c, sl⟩).2]) ∧ Below w.heap.size w w' := by
  have hr := RuAt.box w 48 p s st sk re fe ag c sl
  cases hv : okR ⟨p, s, st, sk, re, fe, ag, c, sl⟩
  · have e1 : lapF ⟨p, s, st, sk, re, fe, ag, c, sl⟩ = (0, 1) := by simp [lapF, hv]
    rw [e1]
    clear e1
    go_enter Try.func73, Try.ntmps73
    go_wp2_with (first | (go_at_call 103; refine (l02Ok_any _ _ _ _ hr).mono ?_; rintro e w1 ⟨rfl, rfl⟩))
    go_ret2
    exact ⟨rfl, (by repeat (first | exact Below.refl _ _ | assumption | refine sub_alloc ?_ _ | refine sub_setCell ?_ (by simp <;> omega) _ | refine sub_drew ?_ | refine below_drewN ?_ _ | refine sub_step (by assumption) ?_ (by first | rfl | (simp; done))))⟩
  obtain ⟨b0, b1, b2, b3, -⟩ := okR_bd hv
  have e1 : lapF ⟨p, s, st, sk, re, fe, ag, c, sl⟩ = (2 * p + (if st then 1 else 0) - (if sk then 1 else 0), 0) := by simp [lapF, hv]
  rw [e1]
  clear e1
  cases st <;> cases sk
  all_goals
    go_enter Try.func73, Try.ntmps73
    go_wp2_with (first | (go_at_call 103; refine (l02Ok_any _ _ _ _ hr).mono ?_; rintro e w1 ⟨rfl, rfl⟩) | (go_at_call 104; refine (l05Length_any _ _ _ _ _ _ _ _ _ _ _ hr b0 b1).mono ?_; rintro e w2 ⟨rfl, rfl⟩))
    go_ret2
    exact ⟨by simp, (by repeat (first | exact Below.refl _ _ | assumption | refine sub_alloc ?_ _ | refine sub_setCell ?_ (by simp <;> omega) _ | refine sub_drew ?_ | refine below_drewN ?_ _ | refine sub_step (by assumption) ?_ (by first | rfl | (simp; done))))⟩
set_option maxHeartbeats 1000000 in
theorem FnExactLapLength_walk (a0 : Ru) (w : World) (_h : a0.wf) : Calls Try.prog 20 #[.agg a0.cells.toArray] w fun e w' => e = .returned (.bool true) ∧ Below w.heap.size w w' := by
  obtain ⟨p, s, st, sk, re, fe, ag, c, sl⟩ := a0
  show Calls Try.prog 20 #[.agg #[.int .i64 p, .int .i64 s, .bool st, .bool sk, .bool re, .bool fe, .bool ag, .int .i64 c, .int .i64 sl]] w _
  clear _h
  have hr := RuAt.box w 52 p s st sk re fe ag c sl
  go_enter Try.func20, Try.ntmps20
  go_wp2_with fail
  refine (toRules_any _ _ _ _ _ _ _ _ _ _).mono ?_; rintro e w1 ⟨rfl, hb1⟩
  have q1 := hr.below hb1 (by simp)
  go_wp2_with fail
  refine (specLapLength_any _ _ _ _ _ _ _ _ _ _).mono ?_; rintro e w2 ⟨rfl, hb2⟩
  obtain ⟨k0, k1, k2, k3, k4, k5, k6, k7, k8⟩ := (q1.below hb2 q1.lt).flat
  go_wp2_with fail
  refine (toRules_any _ _ _ _ _ _ _ _ _ _).mono ?_; rintro e w3 ⟨rfl, hb3⟩
  go_wp2_with fail
  refine (LapLength_any _ _ _ _ _ _ _ _ _ _).mono ?_; rintro e w4 ⟨rfl, hb4⟩
  go_wp2_with fail
  go_ret
  exact ⟨rfl, (by repeat (first | exact Below.refl _ _ | assumption | refine sub_alloc ?_ _ | refine sub_setCell ?_ (by simp <;> omega) _ | refine sub_drew ?_ | refine below_drewN ?_ _ | refine sub_step (by assumption) ?_ (by first | rfl | (simp; done))))⟩
end Go.Proofs.Ytgcmlalpeikiaaa
