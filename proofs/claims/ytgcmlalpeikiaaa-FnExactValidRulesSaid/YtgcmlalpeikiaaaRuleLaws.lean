/-
  The law FnExactValidRules, walked: the call returns true and writes nothing that was there.
-/
import Derived.Test.YtgcmlalpeikiaaaRules
namespace Go.Proofs.Ytgcmlalpeikiaaa
open Go.ChangeShapes Go.WideShapes Go.RowKit Go.Deep

set_option maxHeartbeats 1000000 in
theorem FnExactValidRules_walk (a0 : Ru) (w : World) (_h : a0.wf) : Calls Try.prog 18 #[.agg a0.cells.toArray] w fun e w' => e = .returned (.bool true) ∧ Below w.heap.size w w' := by
  obtain ⟨p, s, st, sk, re, fe, ag, c, sl⟩ := a0
  show Calls Try.prog 18 #[.agg #[.int .i64 p, .int .i64 s, .bool st, .bool sk, .bool re, .bool fe, .bool ag, .int .i64 c, .int .i64 sl]] w _
  clear _h
  have hr := RuAt.box w 52 p s st sk re fe ag c sl
  go_enter Try.func18, Try.ntmps18
  go_wp2_with fail
  refine (toRules_any _ _ _ _ _ _ _ _ _ _).mono ?_; rintro e w1 ⟨rfl, hb1⟩
  have q1 := hr.below hb1 (by simp)
  go_wp2_with fail
  refine (specValidRules_any _ _ _ _ _ _ _ _ _ _).mono ?_; rintro e w2 ⟨rfl, hb2⟩
  obtain ⟨k0, k1, k2, k3, k4, k5, k6, k7, k8⟩ := (q1.below hb2 q1.lt).flat
  go_wp2_with fail
  refine (toRules_any _ _ _ _ _ _ _ _ _ _).mono ?_; rintro e w3 ⟨rfl, hb3⟩
  go_wp2_with fail
  refine (ValidRules_any _ _ _ _ _ _ _ _ _ _).mono ?_; rintro e w4 ⟨rfl, hb4⟩
  go_wp2_with fail
  go_ret
  exact ⟨rfl, (by repeat (first | exact Below.refl _ _ | assumption | refine sub_alloc ?_ _ | refine sub_setCell ?_ (by simp <;> omega) _ | refine sub_drew ?_ | refine below_drewN ?_ _ | refine sub_step (by assumption) ?_ (by first | rfl | (simp; done))))⟩
end Go.Proofs.Ytgcmlalpeikiaaa
