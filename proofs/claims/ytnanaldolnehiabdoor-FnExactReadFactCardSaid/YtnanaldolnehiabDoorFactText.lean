/-
  The text of a fact: FactText; the law FnExactFactText, walked.
-/
import Derived.Test.YtnanaldolnehiabDoorProblem
set_option linter.unusedSimpArgs false
set_option linter.unusedVariables false
namespace Go.Proofs.YtnanaldolnehiabDoor
open Go.ChangeShapes Go.WideShapes Go.RowKit Go.Deep

/-- Whether a fact can be written. -/
def okF (k p c : Int) : Bool := if k = 5 ∨ k = 6 then decide (p = 0) && decide (c = 0) else if 1 ≤ k ∧ k ≤ 4 then inB c 1 96 && (inB p 0 15 || (decide (p = -1) && decide (k = 2))) else false
def plT (p : Int) : ByteArray := if p < 0 then (⟨#[115, 116, 111, 114, 101]⟩ : ByteArray) else dec p
/-- The text of a fact. -/
def fcT (k p c : Int) : ByteArray := if okF k p c = true then
    (if k = 1 then (⟨#[116, 97, 107, 101, 32]⟩ : ByteArray) ++ dec c ++ (⟨#[32, 102, 114, 111, 109, 32]⟩ : ByteArray) ++ plT p else if k = 2 then (⟨#[115, 111, 119, 32]⟩ : ByteArray) ++ dec c ++ (⟨#[32, 105, 110, 116, 111, 32]⟩ : ByteArray) ++ plT p else if k = 3 then (⟨#[99, 97, 112, 116, 117, 114, 101, 32]⟩ : ByteArray) ++ dec c ++ (⟨#[32, 102, 114, 111, 109, 32]⟩ : ByteArray) ++ plT p else if k = 4 then (⟨#[115, 112, 97, 114, 101, 32]⟩ : ByteArray) ++ dec c ++ (⟨#[32, 102, 114, 111, 109, 32]⟩ : ByteArray) ++ plT p else if k = 5 then (⟨#[97, 103, 97, 105, 110]⟩ : ByteArray) else (⟨#[116, 117, 114, 110]⟩ : ByteArray)) else ⟨#[]⟩
theorem ret_bf {a b : Bool} (h : a = b) : Ending.returned (.bool a) = .returned (.bool b) := by rw [h]
theorem between_is (n a b : Int) (v : Bool) (hv : inB n a b = v) (w : World) : Calls Tryd.prog 61 #[.int .i64 n, .int .i64 a, .int .i64 b] w fun e w' => e = .returned (.bool v) ∧ w = w' := by
  subst hv
  exact between_any n a b w
theorem l00In_is (n a b : Int) (v : Bool) (hv : inB n a b = v) (w : World) : Calls Tryd.prog 60 #[.int .i64 n, .int .i64 a, .int .i64 b] w fun e w' => e = .returned (.bool v) ∧ w = w' := by
  subst hv
  exact l00In_any n a b w
set_option maxRecDepth 100000 in
set_option maxHeartbeats 4000000 in
theorem canWrite_any (k p c : Int) (v : Bool) (hv : okF k p c = v) (w : World) : Calls Tryd.prog 64 #[.agg #[.int .i64 k, .int .i64 p, .int .i64 c]] w fun e w' => e = .returned (.bool v) ∧ Below w.heap.size w w' := by
  rcases (by omega : k = 1 ∨ k = 2 ∨ k = 3 ∨ k = 4 ∨ k = 5 ∨ k = 6 ∨ (k ≠ 1 ∧ k ≠ 2 ∧ k ≠ 3 ∧ k ≠ 4 ∧ k ≠ 5 ∧ k ≠ 6)) with rfl | rfl | rfl | rfl | rfl | rfl | ⟨k1, k2, k3, k4, k5, k6⟩
  · cases e0 : inB c 1 96
    · have E := Lib.hid hv
      clear hv
      go_enter Tryd.func64, Tryd.ntmps64
      go_wp2_with (first | (go_at_call 61; refine (between_is _ _ _ _ e0 _).mono ?_; rintro e w' ⟨rfl, rfl⟩))
      go_ret
      exact ⟨ret_bf (by rw [← E.out]; simp [okF, e0]), (by repeat (first | with_reducible exact Below.refl _ _ | with_reducible assumption | with_reducible refine sub_alloc ?_ _ | (with_reducible refine sub_setCell2 ?_ ?_ _; (focus (first | (simp; done) | (simp <;> omega)))) | with_reducible refine sub_drew ?_ | with_reducible refine below_drewN ?_ _ | with_reducible refine sub_step (by assumption) ?_ (by first | rfl | (simp; done)) | exact Below.refl _ _ | assumption | refine sub_alloc ?_ _ | refine sub_setCell ?_ (by simp <;> omega) _ | refine sub_drew ?_ | refine below_drewN ?_ _ | refine sub_step (by assumption) ?_ (by first | rfl | (simp; done))))⟩
    cases e1 : inB p 0 15
    · by_cases e2 : p = -1
      · subst e2
        have E := Lib.hid hv
        clear hv
        go_enter Tryd.func64, Tryd.ntmps64
        go_wp2_with (first | (go_at_call_of 61 (Value.int IntKind.i64 c); refine (between_is _ _ _ _ e0 _).mono ?_; rintro e w' ⟨rfl, rfl⟩) | (go_at_call 61; refine (between_is _ _ _ _ e1 _).mono ?_; rintro e w' ⟨rfl, rfl⟩))
        go_ret
        exact ⟨ret_bf (by rw [← E.out]; simp [okF, e0, e1]), (by repeat (first | with_reducible exact Below.refl _ _ | with_reducible assumption | with_reducible refine sub_alloc ?_ _ | (with_reducible refine sub_setCell2 ?_ ?_ _; (focus (first | (simp; done) | (simp <;> omega)))) | with_reducible refine sub_drew ?_ | with_reducible refine below_drewN ?_ _ | with_reducible refine sub_step (by assumption) ?_ (by first | rfl | (simp; done)) | exact Below.refl _ _ | assumption | refine sub_alloc ?_ _ | refine sub_setCell ?_ (by simp <;> omega) _ | refine sub_drew ?_ | refine below_drewN ?_ _ | refine sub_step (by assumption) ?_ (by first | rfl | (simp; done))))⟩
      · have e3 : (p == -1) = false := by simpa using e2
        have E := Lib.hid hv
        have E2 := Lib.hid e2
        clear hv e2
        go_enter Tryd.func64, Tryd.ntmps64
        go_wp2_with (first | (go_at_call_of 61 (Value.int IntKind.i64 c); refine (between_is _ _ _ _ e0 _).mono ?_; rintro e w' ⟨rfl, rfl⟩) | (go_at_call 61; refine (between_is _ _ _ _ e1 _).mono ?_; rintro e w' ⟨rfl, rfl⟩))
        go_ret
        exact ⟨ret_bf (by rw [← E.out]; simp [okF, e0, e1, E2.out]), (by repeat (first | with_reducible exact Below.refl _ _ | with_reducible assumption | with_reducible refine sub_alloc ?_ _ | (with_reducible refine sub_setCell2 ?_ ?_ _; (focus (first | (simp; done) | (simp <;> omega)))) | with_reducible refine sub_drew ?_ | with_reducible refine below_drewN ?_ _ | with_reducible refine sub_step (by assumption) ?_ (by first | rfl | (simp; done)) | exact Below.refl _ _ | assumption | refine sub_alloc ?_ _ | refine sub_setCell ?_ (by simp <;> omega) _ | refine sub_drew ?_ | refine below_drewN ?_ _ | refine sub_step (by assumption) ?_ (by first | rfl | (simp; done))))⟩
    · have E := Lib.hid hv
      clear hv
      go_enter Tryd.func64, Tryd.ntmps64
      go_wp2_with (first | (go_at_call_of 61 (Value.int IntKind.i64 c); refine (between_is _ _ _ _ e0 _).mono ?_; rintro e w' ⟨rfl, rfl⟩) | (go_at_call 61; refine (between_is _ _ _ _ e1 _).mono ?_; rintro e w' ⟨rfl, rfl⟩))
      go_ret
      exact ⟨ret_bf (by rw [← E.out]; simp [okF, e0, e1]), (by repeat (first | with_reducible exact Below.refl _ _ | with_reducible assumption | with_reducible refine sub_alloc ?_ _ | (with_reducible refine sub_setCell2 ?_ ?_ _; (focus (first | (simp; done) | (simp <;> omega)))) | with_reducible refine sub_drew ?_ | with_reducible refine below_drewN ?_ _ | with_reducible refine sub_step (by assumption) ?_ (by first | rfl | (simp; done)) | exact Below.refl _ _ | assumption | refine sub_alloc ?_ _ | refine sub_setCell ?_ (by simp <;> omega) _ | refine sub_drew ?_ | refine below_drewN ?_ _ | refine sub_step (by assumption) ?_ (by first | rfl | (simp; done))))⟩
  · cases e0 : inB c 1 96
    · have E := Lib.hid hv
      clear hv
      go_enter Tryd.func64, Tryd.ntmps64
      go_wp2_with (first | (go_at_call 61; refine (between_is _ _ _ _ e0 _).mono ?_; rintro e w' ⟨rfl, rfl⟩))
      go_ret
      exact ⟨ret_bf (by rw [← E.out]; simp [okF, e0]), (by repeat (first | with_reducible exact Below.refl _ _ | with_reducible assumption | with_reducible refine sub_alloc ?_ _ | (with_reducible refine sub_setCell2 ?_ ?_ _; (focus (first | (simp; done) | (simp <;> omega)))) | with_reducible refine sub_drew ?_ | with_reducible refine below_drewN ?_ _ | with_reducible refine sub_step (by assumption) ?_ (by first | rfl | (simp; done)) | exact Below.refl _ _ | assumption | refine sub_alloc ?_ _ | refine sub_setCell ?_ (by simp <;> omega) _ | refine sub_drew ?_ | refine below_drewN ?_ _ | refine sub_step (by assumption) ?_ (by first | rfl | (simp; done))))⟩
    cases e1 : inB p 0 15
    · by_cases e2 : p = -1
      · subst e2
        have E := Lib.hid hv
        clear hv
        go_enter Tryd.func64, Tryd.ntmps64
        go_wp2_with (first | (go_at_call_of 61 (Value.int IntKind.i64 c); refine (between_is _ _ _ _ e0 _).mono ?_; rintro e w' ⟨rfl, rfl⟩) | (go_at_call 61; refine (between_is _ _ _ _ e1 _).mono ?_; rintro e w' ⟨rfl, rfl⟩))
        go_ret
        exact ⟨ret_bf (by rw [← E.out]; simp [okF, e0, e1]), (by repeat (first | with_reducible exact Below.refl _ _ | with_reducible assumption | with_reducible refine sub_alloc ?_ _ | (with_reducible refine sub_setCell2 ?_ ?_ _; (focus (first | (simp; done) | (simp <;> omega)))) | with_reducible refine sub_drew ?_ | with_reducible refine below_drewN ?_ _ | with_reducible refine sub_step (by assumption) ?_ (by first | rfl | (simp; done)) | exact Below.refl _ _ | assumption | refine sub_alloc ?_ _ | refine sub_setCell ?_ (by simp <;> omega) _ | refine sub_drew ?_ | refine below_drewN ?_ _ | refine sub_step (by assumption) ?_ (by first | rfl | (simp; done))))⟩
      · have e3 : (p == -1) = false := by simpa using e2
        have E := Lib.hid hv
        have E2 := Lib.hid e2
        clear hv e2
        go_enter Tryd.func64, Tryd.ntmps64
        go_wp2_with (first | (go_at_call_of 61 (Value.int IntKind.i64 c); refine (between_is _ _ _ _ e0 _).mono ?_; rintro e w' ⟨rfl, rfl⟩) | (go_at_call 61; refine (between_is _ _ _ _ e1 _).mono ?_; rintro e w' ⟨rfl, rfl⟩))
        go_ret
        exact ⟨ret_bf (by rw [← E.out]; simp [okF, e0, e1, E2.out]), (by repeat (first | with_reducible exact Below.refl _ _ | with_reducible assumption | with_reducible refine sub_alloc ?_ _ | (with_reducible refine sub_setCell2 ?_ ?_ _; (focus (first | (simp; done) | (simp <;> omega)))) | with_reducible refine sub_drew ?_ | with_reducible refine below_drewN ?_ _ | with_reducible refine sub_step (by assumption) ?_ (by first | rfl | (simp; done)) | exact Below.refl _ _ | assumption | refine sub_alloc ?_ _ | refine sub_setCell ?_ (by simp <;> omega) _ | refine sub_drew ?_ | refine below_drewN ?_ _ | refine sub_step (by assumption) ?_ (by first | rfl | (simp; done))))⟩
    · have E := Lib.hid hv
      clear hv
      go_enter Tryd.func64, Tryd.ntmps64
      go_wp2_with (first | (go_at_call_of 61 (Value.int IntKind.i64 c); refine (between_is _ _ _ _ e0 _).mono ?_; rintro e w' ⟨rfl, rfl⟩) | (go_at_call 61; refine (between_is _ _ _ _ e1 _).mono ?_; rintro e w' ⟨rfl, rfl⟩))
      go_ret
      exact ⟨ret_bf (by rw [← E.out]; simp [okF, e0, e1]), (by repeat (first | with_reducible exact Below.refl _ _ | with_reducible assumption | with_reducible refine sub_alloc ?_ _ | (with_reducible refine sub_setCell2 ?_ ?_ _; (focus (first | (simp; done) | (simp <;> omega)))) | with_reducible refine sub_drew ?_ | with_reducible refine below_drewN ?_ _ | with_reducible refine sub_step (by assumption) ?_ (by first | rfl | (simp; done)) | exact Below.refl _ _ | assumption | refine sub_alloc ?_ _ | refine sub_setCell ?_ (by simp <;> omega) _ | refine sub_drew ?_ | refine below_drewN ?_ _ | refine sub_step (by assumption) ?_ (by first | rfl | (simp; done))))⟩
  · cases e0 : inB c 1 96
    · have E := Lib.hid hv
      clear hv
      go_enter Tryd.func64, Tryd.ntmps64
      go_wp2_with (first | (go_at_call 61; refine (between_is _ _ _ _ e0 _).mono ?_; rintro e w' ⟨rfl, rfl⟩))
      go_ret
      exact ⟨ret_bf (by rw [← E.out]; simp [okF, e0]), (by repeat (first | with_reducible exact Below.refl _ _ | with_reducible assumption | with_reducible refine sub_alloc ?_ _ | (with_reducible refine sub_setCell2 ?_ ?_ _; (focus (first | (simp; done) | (simp <;> omega)))) | with_reducible refine sub_drew ?_ | with_reducible refine below_drewN ?_ _ | with_reducible refine sub_step (by assumption) ?_ (by first | rfl | (simp; done)) | exact Below.refl _ _ | assumption | refine sub_alloc ?_ _ | refine sub_setCell ?_ (by simp <;> omega) _ | refine sub_drew ?_ | refine below_drewN ?_ _ | refine sub_step (by assumption) ?_ (by first | rfl | (simp; done))))⟩
    cases e1 : inB p 0 15
    · by_cases e2 : p = -1
      · subst e2
        have E := Lib.hid hv
        clear hv
        go_enter Tryd.func64, Tryd.ntmps64
        go_wp2_with (first | (go_at_call_of 61 (Value.int IntKind.i64 c); refine (between_is _ _ _ _ e0 _).mono ?_; rintro e w' ⟨rfl, rfl⟩) | (go_at_call 61; refine (between_is _ _ _ _ e1 _).mono ?_; rintro e w' ⟨rfl, rfl⟩))
        go_ret
        exact ⟨ret_bf (by rw [← E.out]; simp [okF, e0, e1]), (by repeat (first | with_reducible exact Below.refl _ _ | with_reducible assumption | with_reducible refine sub_alloc ?_ _ | (with_reducible refine sub_setCell2 ?_ ?_ _; (focus (first | (simp; done) | (simp <;> omega)))) | with_reducible refine sub_drew ?_ | with_reducible refine below_drewN ?_ _ | with_reducible refine sub_step (by assumption) ?_ (by first | rfl | (simp; done)) | exact Below.refl _ _ | assumption | refine sub_alloc ?_ _ | refine sub_setCell ?_ (by simp <;> omega) _ | refine sub_drew ?_ | refine below_drewN ?_ _ | refine sub_step (by assumption) ?_ (by first | rfl | (simp; done))))⟩
      · have e3 : (p == -1) = false := by simpa using e2
        have E := Lib.hid hv
        have E2 := Lib.hid e2
        clear hv e2
        go_enter Tryd.func64, Tryd.ntmps64
        go_wp2_with (first | (go_at_call_of 61 (Value.int IntKind.i64 c); refine (between_is _ _ _ _ e0 _).mono ?_; rintro e w' ⟨rfl, rfl⟩) | (go_at_call 61; refine (between_is _ _ _ _ e1 _).mono ?_; rintro e w' ⟨rfl, rfl⟩))
        go_ret
        exact ⟨ret_bf (by rw [← E.out]; simp [okF, e0, e1, E2.out]), (by repeat (first | with_reducible exact Below.refl _ _ | with_reducible assumption | with_reducible refine sub_alloc ?_ _ | (with_reducible refine sub_setCell2 ?_ ?_ _; (focus (first | (simp; done) | (simp <;> omega)))) | with_reducible refine sub_drew ?_ | with_reducible refine below_drewN ?_ _ | with_reducible refine sub_step (by assumption) ?_ (by first | rfl | (simp; done)) | exact Below.refl _ _ | assumption | refine sub_alloc ?_ _ | refine sub_setCell ?_ (by simp <;> omega) _ | refine sub_drew ?_ | refine below_drewN ?_ _ | refine sub_step (by assumption) ?_ (by first | rfl | (simp; done))))⟩
    · have E := Lib.hid hv
      clear hv
      go_enter Tryd.func64, Tryd.ntmps64
      go_wp2_with (first | (go_at_call_of 61 (Value.int IntKind.i64 c); refine (between_is _ _ _ _ e0 _).mono ?_; rintro e w' ⟨rfl, rfl⟩) | (go_at_call 61; refine (between_is _ _ _ _ e1 _).mono ?_; rintro e w' ⟨rfl, rfl⟩))
      go_ret
      exact ⟨ret_bf (by rw [← E.out]; simp [okF, e0, e1]), (by repeat (first | with_reducible exact Below.refl _ _ | with_reducible assumption | with_reducible refine sub_alloc ?_ _ | (with_reducible refine sub_setCell2 ?_ ?_ _; (focus (first | (simp; done) | (simp <;> omega)))) | with_reducible refine sub_drew ?_ | with_reducible refine below_drewN ?_ _ | with_reducible refine sub_step (by assumption) ?_ (by first | rfl | (simp; done)) | exact Below.refl _ _ | assumption | refine sub_alloc ?_ _ | refine sub_setCell ?_ (by simp <;> omega) _ | refine sub_drew ?_ | refine below_drewN ?_ _ | refine sub_step (by assumption) ?_ (by first | rfl | (simp; done))))⟩
  · cases e0 : inB c 1 96
    · have E := Lib.hid hv
      clear hv
      go_enter Tryd.func64, Tryd.ntmps64
      go_wp2_with (first | (go_at_call 61; refine (between_is _ _ _ _ e0 _).mono ?_; rintro e w' ⟨rfl, rfl⟩))
      go_ret
      exact ⟨ret_bf (by rw [← E.out]; simp [okF, e0]), (by repeat (first | with_reducible exact Below.refl _ _ | with_reducible assumption | with_reducible refine sub_alloc ?_ _ | (with_reducible refine sub_setCell2 ?_ ?_ _; (focus (first | (simp; done) | (simp <;> omega)))) | with_reducible refine sub_drew ?_ | with_reducible refine below_drewN ?_ _ | with_reducible refine sub_step (by assumption) ?_ (by first | rfl | (simp; done)) | exact Below.refl _ _ | assumption | refine sub_alloc ?_ _ | refine sub_setCell ?_ (by simp <;> omega) _ | refine sub_drew ?_ | refine below_drewN ?_ _ | refine sub_step (by assumption) ?_ (by first | rfl | (simp; done))))⟩
    cases e1 : inB p 0 15
    · by_cases e2 : p = -1
      · subst e2
        have E := Lib.hid hv
        clear hv
        go_enter Tryd.func64, Tryd.ntmps64
        go_wp2_with (first | (go_at_call_of 61 (Value.int IntKind.i64 c); refine (between_is _ _ _ _ e0 _).mono ?_; rintro e w' ⟨rfl, rfl⟩) | (go_at_call 61; refine (between_is _ _ _ _ e1 _).mono ?_; rintro e w' ⟨rfl, rfl⟩))
        go_ret
        exact ⟨ret_bf (by rw [← E.out]; simp [okF, e0, e1]), (by repeat (first | with_reducible exact Below.refl _ _ | with_reducible assumption | with_reducible refine sub_alloc ?_ _ | (with_reducible refine sub_setCell2 ?_ ?_ _; (focus (first | (simp; done) | (simp <;> omega)))) | with_reducible refine sub_drew ?_ | with_reducible refine below_drewN ?_ _ | with_reducible refine sub_step (by assumption) ?_ (by first | rfl | (simp; done)) | exact Below.refl _ _ | assumption | refine sub_alloc ?_ _ | refine sub_setCell ?_ (by simp <;> omega) _ | refine sub_drew ?_ | refine below_drewN ?_ _ | refine sub_step (by assumption) ?_ (by first | rfl | (simp; done))))⟩
      · have e3 : (p == -1) = false := by simpa using e2
        have E := Lib.hid hv
        have E2 := Lib.hid e2
        clear hv e2
        go_enter Tryd.func64, Tryd.ntmps64
        go_wp2_with (first | (go_at_call_of 61 (Value.int IntKind.i64 c); refine (between_is _ _ _ _ e0 _).mono ?_; rintro e w' ⟨rfl, rfl⟩) | (go_at_call 61; refine (between_is _ _ _ _ e1 _).mono ?_; rintro e w' ⟨rfl, rfl⟩))
        go_ret
        exact ⟨ret_bf (by rw [← E.out]; simp [okF, e0, e1, E2.out]), (by repeat (first | with_reducible exact Below.refl _ _ | with_reducible assumption | with_reducible refine sub_alloc ?_ _ | (with_reducible refine sub_setCell2 ?_ ?_ _; (focus (first | (simp; done) | (simp <;> omega)))) | with_reducible refine sub_drew ?_ | with_reducible refine below_drewN ?_ _ | with_reducible refine sub_step (by assumption) ?_ (by first | rfl | (simp; done)) | exact Below.refl _ _ | assumption | refine sub_alloc ?_ _ | refine sub_setCell ?_ (by simp <;> omega) _ | refine sub_drew ?_ | refine below_drewN ?_ _ | refine sub_step (by assumption) ?_ (by first | rfl | (simp; done))))⟩
    · have E := Lib.hid hv
      clear hv
      go_enter Tryd.func64, Tryd.ntmps64
      go_wp2_with (first | (go_at_call_of 61 (Value.int IntKind.i64 c); refine (between_is _ _ _ _ e0 _).mono ?_; rintro e w' ⟨rfl, rfl⟩) | (go_at_call 61; refine (between_is _ _ _ _ e1 _).mono ?_; rintro e w' ⟨rfl, rfl⟩))
      go_ret
      exact ⟨ret_bf (by rw [← E.out]; simp [okF, e0, e1]), (by repeat (first | with_reducible exact Below.refl _ _ | with_reducible assumption | with_reducible refine sub_alloc ?_ _ | (with_reducible refine sub_setCell2 ?_ ?_ _; (focus (first | (simp; done) | (simp <;> omega)))) | with_reducible refine sub_drew ?_ | with_reducible refine below_drewN ?_ _ | with_reducible refine sub_step (by assumption) ?_ (by first | rfl | (simp; done)) | exact Below.refl _ _ | assumption | refine sub_alloc ?_ _ | refine sub_setCell ?_ (by simp <;> omega) _ | refine sub_drew ?_ | refine below_drewN ?_ _ | refine sub_step (by assumption) ?_ (by first | rfl | (simp; done))))⟩
  · by_cases e0 : p = 0
    · subst e0
      by_cases e1 : c = 0
      · subst e1
        have E := Lib.hid hv
        clear hv
        go_enter Tryd.func64, Tryd.ntmps64
        go_wp2_with fail
        go_ret
        exact ⟨ret_bf (by rw [← E.out]; rfl), (by repeat (first | with_reducible exact Below.refl _ _ | with_reducible assumption | with_reducible refine sub_alloc ?_ _ | (with_reducible refine sub_setCell2 ?_ ?_ _; (focus (first | (simp; done) | (simp <;> omega)))) | with_reducible refine sub_drew ?_ | with_reducible refine below_drewN ?_ _ | with_reducible refine sub_step (by assumption) ?_ (by first | rfl | (simp; done)) | exact Below.refl _ _ | assumption | refine sub_alloc ?_ _ | refine sub_setCell ?_ (by simp <;> omega) _ | refine sub_drew ?_ | refine below_drewN ?_ _ | refine sub_step (by assumption) ?_ (by first | rfl | (simp; done))))⟩
      · have e2 : (c == 0) = false := by simpa using e1
        have E := Lib.hid (show v = false by rw [← hv]; simp [okF, e1])
        clear hv e1
        go_enter Tryd.func64, Tryd.ntmps64
        go_wp2_with fail
        go_ret
        exact ⟨ret_bf E.out.symm, (by repeat (first | with_reducible exact Below.refl _ _ | with_reducible assumption | with_reducible refine sub_alloc ?_ _ | (with_reducible refine sub_setCell2 ?_ ?_ _; (focus (first | (simp; done) | (simp <;> omega)))) | with_reducible refine sub_drew ?_ | with_reducible refine below_drewN ?_ _ | with_reducible refine sub_step (by assumption) ?_ (by first | rfl | (simp; done)) | exact Below.refl _ _ | assumption | refine sub_alloc ?_ _ | refine sub_setCell ?_ (by simp <;> omega) _ | refine sub_drew ?_ | refine below_drewN ?_ _ | refine sub_step (by assumption) ?_ (by first | rfl | (simp; done))))⟩
    · have e2 : (p == 0) = false := by simpa using e0
      have E := Lib.hid (show v = false by rw [← hv]; simp [okF, e0])
      clear hv e0
      go_enter Tryd.func64, Tryd.ntmps64
      go_wp2_with fail
      go_ret
      exact ⟨ret_bf E.out.symm, (by repeat (first | with_reducible exact Below.refl _ _ | with_reducible assumption | with_reducible refine sub_alloc ?_ _ | (with_reducible refine sub_setCell2 ?_ ?_ _; (focus (first | (simp; done) | (simp <;> omega)))) | with_reducible refine sub_drew ?_ | with_reducible refine below_drewN ?_ _ | with_reducible refine sub_step (by assumption) ?_ (by first | rfl | (simp; done)) | exact Below.refl _ _ | assumption | refine sub_alloc ?_ _ | refine sub_setCell ?_ (by simp <;> omega) _ | refine sub_drew ?_ | refine below_drewN ?_ _ | refine sub_step (by assumption) ?_ (by first | rfl | (simp; done))))⟩
  · by_cases e0 : p = 0
    · subst e0
      by_cases e1 : c = 0
      · subst e1
        have E := Lib.hid hv
        clear hv
        go_enter Tryd.func64, Tryd.ntmps64
        go_wp2_with fail
        go_ret
        exact ⟨ret_bf (by rw [← E.out]; rfl), (by repeat (first | with_reducible exact Below.refl _ _ | with_reducible assumption | with_reducible refine sub_alloc ?_ _ | (with_reducible refine sub_setCell2 ?_ ?_ _; (focus (first | (simp; done) | (simp <;> omega)))) | with_reducible refine sub_drew ?_ | with_reducible refine below_drewN ?_ _ | with_reducible refine sub_step (by assumption) ?_ (by first | rfl | (simp; done)) | exact Below.refl _ _ | assumption | refine sub_alloc ?_ _ | refine sub_setCell ?_ (by simp <;> omega) _ | refine sub_drew ?_ | refine below_drewN ?_ _ | refine sub_step (by assumption) ?_ (by first | rfl | (simp; done))))⟩
      · have e2 : (c == 0) = false := by simpa using e1
        have E := Lib.hid (show v = false by rw [← hv]; simp [okF, e1])
        clear hv e1
        go_enter Tryd.func64, Tryd.ntmps64
        go_wp2_with fail
        go_ret
        exact ⟨ret_bf E.out.symm, (by repeat (first | with_reducible exact Below.refl _ _ | with_reducible assumption | with_reducible refine sub_alloc ?_ _ | (with_reducible refine sub_setCell2 ?_ ?_ _; (focus (first | (simp; done) | (simp <;> omega)))) | with_reducible refine sub_drew ?_ | with_reducible refine below_drewN ?_ _ | with_reducible refine sub_step (by assumption) ?_ (by first | rfl | (simp; done)) | exact Below.refl _ _ | assumption | refine sub_alloc ?_ _ | refine sub_setCell ?_ (by simp <;> omega) _ | refine sub_drew ?_ | refine below_drewN ?_ _ | refine sub_step (by assumption) ?_ (by first | rfl | (simp; done))))⟩
    · have e2 : (p == 0) = false := by simpa using e0
      have E := Lib.hid (show v = false by rw [← hv]; simp [okF, e0])
      clear hv e0
      go_enter Tryd.func64, Tryd.ntmps64
      go_wp2_with fail
      go_ret
      exact ⟨ret_bf E.out.symm, (by repeat (first | with_reducible exact Below.refl _ _ | with_reducible assumption | with_reducible refine sub_alloc ?_ _ | (with_reducible refine sub_setCell2 ?_ ?_ _; (focus (first | (simp; done) | (simp <;> omega)))) | with_reducible refine sub_drew ?_ | with_reducible refine below_drewN ?_ _ | with_reducible refine sub_step (by assumption) ?_ (by first | rfl | (simp; done)) | exact Below.refl _ _ | assumption | refine sub_alloc ?_ _ | refine sub_setCell ?_ (by simp <;> omega) _ | refine sub_drew ?_ | refine below_drewN ?_ _ | refine sub_step (by assumption) ?_ (by first | rfl | (simp; done))))⟩
  · have E := Lib.hid (show v = false by
      have q : ¬ (1 ≤ k ∧ k ≤ 4) := by omega
      rw [← hv]
      simp only [okF, if_neg (show ¬ (k = 5 ∨ k = 6) by omega), if_neg q])
    have m1 : (k == 1) = false := by simpa using k1
    have m2 : (k == 2) = false := by simpa using k2
    have m3 : (k == 3) = false := by simpa using k3
    have m4 : (k == 4) = false := by simpa using k4
    have m5 : (k == 5) = false := by simpa using k5
    have m6 : (k == 6) = false := by simpa using k6
    clear hv k1 k2 k3 k4 k5 k6
    go_enter Tryd.func64, Tryd.ntmps64
    go_wp2_with fail
    go_ret
    exact ⟨ret_bf E.out.symm, (by repeat (first | with_reducible exact Below.refl _ _ | with_reducible assumption | with_reducible refine sub_alloc ?_ _ | (with_reducible refine sub_setCell2 ?_ ?_ _; (focus (first | (simp; done) | (simp <;> omega)))) | with_reducible refine sub_drew ?_ | with_reducible refine below_drewN ?_ _ | with_reducible refine sub_step (by assumption) ?_ (by first | rfl | (simp; done)) | exact Below.refl _ _ | assumption | refine sub_alloc ?_ _ | refine sub_setCell ?_ (by simp <;> omega) _ | refine sub_drew ?_ | refine below_drewN ?_ _ | refine sub_step (by assumption) ?_ (by first | rfl | (simp; done))))⟩
set_option maxRecDepth 100000 in
set_option maxHeartbeats 4000000 in
theorem l11Fact_any (k p c : Int) (v : Bool) (hv : okF k p c = v) (w : World) : Calls Tryd.prog 51 #[.agg #[.int .i64 k, .int .i64 p, .int .i64 c]] w fun e w' => e = .returned (.bool v) ∧ Below w.heap.size w w' := by
  rcases (by omega : k = 1 ∨ k = 2 ∨ k = 3 ∨ k = 4 ∨ k = 5 ∨ k = 6 ∨ (k ≠ 1 ∧ k ≠ 2 ∧ k ≠ 3 ∧ k ≠ 4 ∧ k ≠ 5 ∧ k ≠ 6)) with rfl | rfl | rfl | rfl | rfl | rfl | ⟨k1, k2, k3, k4, k5, k6⟩
  · cases e1 : inB p 0 15
    · skip
      have E := Lib.hid (show v = false by rw [← hv]; simp [okF, e1])
      clear hv
      go_enter Tryd.func51, Tryd.ntmps51
      go_wp2_with (first | (go_at_call 60; refine (l00In_is _ _ _ _ e1 _).mono ?_; rintro e w' ⟨rfl, rfl⟩))
      go_ret
      exact ⟨ret_bf E.out.symm, (by repeat (first | with_reducible exact Below.refl _ _ | with_reducible assumption | with_reducible refine sub_alloc ?_ _ | (with_reducible refine sub_setCell2 ?_ ?_ _; (focus (first | (simp; done) | (simp <;> omega)))) | with_reducible refine sub_drew ?_ | with_reducible refine below_drewN ?_ _ | with_reducible refine sub_step (by assumption) ?_ (by first | rfl | (simp; done)) | exact Below.refl _ _ | assumption | refine sub_alloc ?_ _ | refine sub_setCell ?_ (by simp <;> omega) _ | refine sub_drew ?_ | refine below_drewN ?_ _ | refine sub_step (by assumption) ?_ (by first | rfl | (simp; done))))⟩
    cases e0 : inB c 1 96
    all_goals
      skip
      have E := Lib.hid hv
      clear hv
      go_enter Tryd.func51, Tryd.ntmps51
      go_wp2_with (first | (go_at_call_of 60 (Value.int IntKind.i64 p); refine (l00In_is _ _ _ _ e1 _).mono ?_; rintro e w' ⟨rfl, rfl⟩) | (go_at_call 60; refine (l00In_is _ _ _ _ e0 _).mono ?_; rintro e w' ⟨rfl, rfl⟩))
      go_ret
      exact ⟨ret_bf (by rw [← E.out]; simp [okF, e0, e1]), (by repeat (first | with_reducible exact Below.refl _ _ | with_reducible assumption | with_reducible refine sub_alloc ?_ _ | (with_reducible refine sub_setCell2 ?_ ?_ _; (focus (first | (simp; done) | (simp <;> omega)))) | with_reducible refine sub_drew ?_ | with_reducible refine below_drewN ?_ _ | with_reducible refine sub_step (by assumption) ?_ (by first | rfl | (simp; done)) | exact Below.refl _ _ | assumption | refine sub_alloc ?_ _ | refine sub_setCell ?_ (by simp <;> omega) _ | refine sub_drew ?_ | refine below_drewN ?_ _ | refine sub_step (by assumption) ?_ (by first | rfl | (simp; done))))⟩
  · cases e1 : inB p (-1) 15
    · have e4 : (inB p 0 15 || decide (p = -1)) = inB p (-1) 15 := by
        rw [Bool.eq_iff_iff]; simp [inB]; omega
      have E := Lib.hid (show v = false by rw [← hv]; simp [okF, e1, e4])
      clear hv e4
      go_enter Tryd.func51, Tryd.ntmps51
      go_wp2_with (first | (go_at_call 60; refine (l00In_is _ _ _ _ e1 _).mono ?_; rintro e w' ⟨rfl, rfl⟩))
      go_ret
      exact ⟨ret_bf E.out.symm, (by repeat (first | with_reducible exact Below.refl _ _ | with_reducible assumption | with_reducible refine sub_alloc ?_ _ | (with_reducible refine sub_setCell2 ?_ ?_ _; (focus (first | (simp; done) | (simp <;> omega)))) | with_reducible refine sub_drew ?_ | with_reducible refine below_drewN ?_ _ | with_reducible refine sub_step (by assumption) ?_ (by first | rfl | (simp; done)) | exact Below.refl _ _ | assumption | refine sub_alloc ?_ _ | refine sub_setCell ?_ (by simp <;> omega) _ | refine sub_drew ?_ | refine below_drewN ?_ _ | refine sub_step (by assumption) ?_ (by first | rfl | (simp; done))))⟩
    cases e0 : inB c 1 96
    all_goals
      have e4 : (inB p 0 15 || decide (p = -1)) = inB p (-1) 15 := by
        rw [Bool.eq_iff_iff]; simp [inB]; omega
      have E := Lib.hid hv
      clear hv
      go_enter Tryd.func51, Tryd.ntmps51
      go_wp2_with (first | (go_at_call_of 60 (Value.int IntKind.i64 p); refine (l00In_is _ _ _ _ e1 _).mono ?_; rintro e w' ⟨rfl, rfl⟩) | (go_at_call 60; refine (l00In_is _ _ _ _ e0 _).mono ?_; rintro e w' ⟨rfl, rfl⟩))
      go_ret
      exact ⟨ret_bf (by rw [← E.out]; simp [okF, e0, e1, e4]), (by repeat (first | with_reducible exact Below.refl _ _ | with_reducible assumption | with_reducible refine sub_alloc ?_ _ | (with_reducible refine sub_setCell2 ?_ ?_ _; (focus (first | (simp; done) | (simp <;> omega)))) | with_reducible refine sub_drew ?_ | with_reducible refine below_drewN ?_ _ | with_reducible refine sub_step (by assumption) ?_ (by first | rfl | (simp; done)) | exact Below.refl _ _ | assumption | refine sub_alloc ?_ _ | refine sub_setCell ?_ (by simp <;> omega) _ | refine sub_drew ?_ | refine below_drewN ?_ _ | refine sub_step (by assumption) ?_ (by first | rfl | (simp; done))))⟩
  · cases e1 : inB p 0 15
    · skip
      have E := Lib.hid (show v = false by rw [← hv]; simp [okF, e1])
      clear hv
      go_enter Tryd.func51, Tryd.ntmps51
      go_wp2_with (first | (go_at_call 60; refine (l00In_is _ _ _ _ e1 _).mono ?_; rintro e w' ⟨rfl, rfl⟩))
      go_ret
      exact ⟨ret_bf E.out.symm, (by repeat (first | with_reducible exact Below.refl _ _ | with_reducible assumption | with_reducible refine sub_alloc ?_ _ | (with_reducible refine sub_setCell2 ?_ ?_ _; (focus (first | (simp; done) | (simp <;> omega)))) | with_reducible refine sub_drew ?_ | with_reducible refine below_drewN ?_ _ | with_reducible refine sub_step (by assumption) ?_ (by first | rfl | (simp; done)) | exact Below.refl _ _ | assumption | refine sub_alloc ?_ _ | refine sub_setCell ?_ (by simp <;> omega) _ | refine sub_drew ?_ | refine below_drewN ?_ _ | refine sub_step (by assumption) ?_ (by first | rfl | (simp; done))))⟩
    cases e0 : inB c 1 96
    all_goals
      skip
      have E := Lib.hid hv
      clear hv
      go_enter Tryd.func51, Tryd.ntmps51
      go_wp2_with (first | (go_at_call_of 60 (Value.int IntKind.i64 p); refine (l00In_is _ _ _ _ e1 _).mono ?_; rintro e w' ⟨rfl, rfl⟩) | (go_at_call 60; refine (l00In_is _ _ _ _ e0 _).mono ?_; rintro e w' ⟨rfl, rfl⟩))
      go_ret
      exact ⟨ret_bf (by rw [← E.out]; simp [okF, e0, e1]), (by repeat (first | with_reducible exact Below.refl _ _ | with_reducible assumption | with_reducible refine sub_alloc ?_ _ | (with_reducible refine sub_setCell2 ?_ ?_ _; (focus (first | (simp; done) | (simp <;> omega)))) | with_reducible refine sub_drew ?_ | with_reducible refine below_drewN ?_ _ | with_reducible refine sub_step (by assumption) ?_ (by first | rfl | (simp; done)) | exact Below.refl _ _ | assumption | refine sub_alloc ?_ _ | refine sub_setCell ?_ (by simp <;> omega) _ | refine sub_drew ?_ | refine below_drewN ?_ _ | refine sub_step (by assumption) ?_ (by first | rfl | (simp; done))))⟩
  · cases e1 : inB p 0 15
    · skip
      have E := Lib.hid (show v = false by rw [← hv]; simp [okF, e1])
      clear hv
      go_enter Tryd.func51, Tryd.ntmps51
      go_wp2_with (first | (go_at_call 60; refine (l00In_is _ _ _ _ e1 _).mono ?_; rintro e w' ⟨rfl, rfl⟩))
      go_ret
      exact ⟨ret_bf E.out.symm, (by repeat (first | with_reducible exact Below.refl _ _ | with_reducible assumption | with_reducible refine sub_alloc ?_ _ | (with_reducible refine sub_setCell2 ?_ ?_ _; (focus (first | (simp; done) | (simp <;> omega)))) | with_reducible refine sub_drew ?_ | with_reducible refine below_drewN ?_ _ | with_reducible refine sub_step (by assumption) ?_ (by first | rfl | (simp; done)) | exact Below.refl _ _ | assumption | refine sub_alloc ?_ _ | refine sub_setCell ?_ (by simp <;> omega) _ | refine sub_drew ?_ | refine below_drewN ?_ _ | refine sub_step (by assumption) ?_ (by first | rfl | (simp; done))))⟩
    cases e0 : inB c 1 96
    all_goals
      skip
      have E := Lib.hid hv
      clear hv
      go_enter Tryd.func51, Tryd.ntmps51
      go_wp2_with (first | (go_at_call_of 60 (Value.int IntKind.i64 p); refine (l00In_is _ _ _ _ e1 _).mono ?_; rintro e w' ⟨rfl, rfl⟩) | (go_at_call 60; refine (l00In_is _ _ _ _ e0 _).mono ?_; rintro e w' ⟨rfl, rfl⟩))
      go_ret
      exact ⟨ret_bf (by rw [← E.out]; simp [okF, e0, e1]), (by repeat (first | with_reducible exact Below.refl _ _ | with_reducible assumption | with_reducible refine sub_alloc ?_ _ | (with_reducible refine sub_setCell2 ?_ ?_ _; (focus (first | (simp; done) | (simp <;> omega)))) | with_reducible refine sub_drew ?_ | with_reducible refine below_drewN ?_ _ | with_reducible refine sub_step (by assumption) ?_ (by first | rfl | (simp; done)) | exact Below.refl _ _ | assumption | refine sub_alloc ?_ _ | refine sub_setCell ?_ (by simp <;> omega) _ | refine sub_drew ?_ | refine below_drewN ?_ _ | refine sub_step (by assumption) ?_ (by first | rfl | (simp; done))))⟩
  · by_cases e0 : p = 0
    · subst e0
      by_cases e1 : c = 0
      · subst e1
        have E := Lib.hid hv
        clear hv
        go_enter Tryd.func51, Tryd.ntmps51
        go_wp2_with fail
        go_ret
        exact ⟨ret_bf (by rw [← E.out]; rfl), (by repeat (first | with_reducible exact Below.refl _ _ | with_reducible assumption | with_reducible refine sub_alloc ?_ _ | (with_reducible refine sub_setCell2 ?_ ?_ _; (focus (first | (simp; done) | (simp <;> omega)))) | with_reducible refine sub_drew ?_ | with_reducible refine below_drewN ?_ _ | with_reducible refine sub_step (by assumption) ?_ (by first | rfl | (simp; done)) | exact Below.refl _ _ | assumption | refine sub_alloc ?_ _ | refine sub_setCell ?_ (by simp <;> omega) _ | refine sub_drew ?_ | refine below_drewN ?_ _ | refine sub_step (by assumption) ?_ (by first | rfl | (simp; done))))⟩
      · have e2 : (c == 0) = false := by simpa using e1
        have E := Lib.hid (show v = false by rw [← hv]; simp [okF, e1])
        clear hv e1
        go_enter Tryd.func51, Tryd.ntmps51
        go_wp2_with fail
        go_ret
        exact ⟨ret_bf E.out.symm, (by repeat (first | with_reducible exact Below.refl _ _ | with_reducible assumption | with_reducible refine sub_alloc ?_ _ | (with_reducible refine sub_setCell2 ?_ ?_ _; (focus (first | (simp; done) | (simp <;> omega)))) | with_reducible refine sub_drew ?_ | with_reducible refine below_drewN ?_ _ | with_reducible refine sub_step (by assumption) ?_ (by first | rfl | (simp; done)) | exact Below.refl _ _ | assumption | refine sub_alloc ?_ _ | refine sub_setCell ?_ (by simp <;> omega) _ | refine sub_drew ?_ | refine below_drewN ?_ _ | refine sub_step (by assumption) ?_ (by first | rfl | (simp; done))))⟩
    · have e2 : (p == 0) = false := by simpa using e0
      have E := Lib.hid (show v = false by rw [← hv]; simp [okF, e0])
      clear hv e0
      go_enter Tryd.func51, Tryd.ntmps51
      go_wp2_with fail
      go_ret
      exact ⟨ret_bf E.out.symm, (by repeat (first | with_reducible exact Below.refl _ _ | with_reducible assumption | with_reducible refine sub_alloc ?_ _ | (with_reducible refine sub_setCell2 ?_ ?_ _; (focus (first | (simp; done) | (simp <;> omega)))) | with_reducible refine sub_drew ?_ | with_reducible refine below_drewN ?_ _ | with_reducible refine sub_step (by assumption) ?_ (by first | rfl | (simp; done)) | exact Below.refl _ _ | assumption | refine sub_alloc ?_ _ | refine sub_setCell ?_ (by simp <;> omega) _ | refine sub_drew ?_ | refine below_drewN ?_ _ | refine sub_step (by assumption) ?_ (by first | rfl | (simp; done))))⟩
  · by_cases e0 : p = 0
    · subst e0
      by_cases e1 : c = 0
      · subst e1
        have E := Lib.hid hv
        clear hv
        go_enter Tryd.func51, Tryd.ntmps51
        go_wp2_with fail
        go_ret
        exact ⟨ret_bf (by rw [← E.out]; rfl), (by repeat (first | with_reducible exact Below.refl _ _ | with_reducible assumption | with_reducible refine sub_alloc ?_ _ | (with_reducible refine sub_setCell2 ?_ ?_ _; (focus (first | (simp; done) | (simp <;> omega)))) | with_reducible refine sub_drew ?_ | with_reducible refine below_drewN ?_ _ | with_reducible refine sub_step (by assumption) ?_ (by first | rfl | (simp; done)) | exact Below.refl _ _ | assumption | refine sub_alloc ?_ _ | refine sub_setCell ?_ (by simp <;> omega) _ | refine sub_drew ?_ | refine below_drewN ?_ _ | refine sub_step (by assumption) ?_ (by first | rfl | (simp; done))))⟩
      · have e2 : (c == 0) = false := by simpa using e1
        have E := Lib.hid (show v = false by rw [← hv]; simp [okF, e1])
        clear hv e1
        go_enter Tryd.func51, Tryd.ntmps51
        go_wp2_with fail
        go_ret
        exact ⟨ret_bf E.out.symm, (by repeat (first | with_reducible exact Below.refl _ _ | with_reducible assumption | with_reducible refine sub_alloc ?_ _ | (with_reducible refine sub_setCell2 ?_ ?_ _; (focus (first | (simp; done) | (simp <;> omega)))) | with_reducible refine sub_drew ?_ | with_reducible refine below_drewN ?_ _ | with_reducible refine sub_step (by assumption) ?_ (by first | rfl | (simp; done)) | exact Below.refl _ _ | assumption | refine sub_alloc ?_ _ | refine sub_setCell ?_ (by simp <;> omega) _ | refine sub_drew ?_ | refine below_drewN ?_ _ | refine sub_step (by assumption) ?_ (by first | rfl | (simp; done))))⟩
    · have e2 : (p == 0) = false := by simpa using e0
      have E := Lib.hid (show v = false by rw [← hv]; simp [okF, e0])
      clear hv e0
      go_enter Tryd.func51, Tryd.ntmps51
      go_wp2_with fail
      go_ret
      exact ⟨ret_bf E.out.symm, (by repeat (first | with_reducible exact Below.refl _ _ | with_reducible assumption | with_reducible refine sub_alloc ?_ _ | (with_reducible refine sub_setCell2 ?_ ?_ _; (focus (first | (simp; done) | (simp <;> omega)))) | with_reducible refine sub_drew ?_ | with_reducible refine below_drewN ?_ _ | with_reducible refine sub_step (by assumption) ?_ (by first | rfl | (simp; done)) | exact Below.refl _ _ | assumption | refine sub_alloc ?_ _ | refine sub_setCell ?_ (by simp <;> omega) _ | refine sub_drew ?_ | refine below_drewN ?_ _ | refine sub_step (by assumption) ?_ (by first | rfl | (simp; done))))⟩
  · have E := Lib.hid (show v = false by
      have q : ¬ (1 ≤ k ∧ k ≤ 4) := by omega
      rw [← hv]
      simp only [okF, if_neg (show ¬ (k = 5 ∨ k = 6) by omega), if_neg q])
    have m1 : (k == 1) = false := by simpa using k1
    have m2 : (k == 2) = false := by simpa using k2
    have m3 : (k == 3) = false := by simpa using k3
    have m4 : (k == 4) = false := by simpa using k4
    have m5 : (k == 5) = false := by simpa using k5
    have m6 : (k == 6) = false := by simpa using k6
    clear hv k1 k2 k3 k4 k5 k6
    go_enter Tryd.func51, Tryd.ntmps51
    go_wp2_with fail
    go_ret
    exact ⟨ret_bf E.out.symm, (by repeat (first | with_reducible exact Below.refl _ _ | with_reducible assumption | with_reducible refine sub_alloc ?_ _ | (with_reducible refine sub_setCell2 ?_ ?_ _; (focus (first | (simp; done) | (simp <;> omega)))) | with_reducible refine sub_drew ?_ | with_reducible refine below_drewN ?_ _ | with_reducible refine sub_step (by assumption) ?_ (by first | rfl | (simp; done)) | exact Below.refl _ _ | assumption | refine sub_alloc ?_ _ | refine sub_setCell ?_ (by simp <;> omega) _ | refine sub_drew ?_ | refine below_drewN ?_ _ | refine sub_step (by assumption) ?_ (by first | rfl | (simp; done))))⟩
theorem okF_bd {k p c : Int} (h : okF k p c = true) : (k = 5 ∧ p = 0 ∧ c = 0) ∨ (k = 6 ∧ p = 0 ∧ c = 0) ∨ ((k = 1 ∨ k = 2 ∨ k = 3 ∨ k = 4) ∧ -1 ≤ p ∧ p ≤ 15 ∧ 1 ≤ c ∧ c ≤ 96 ∧ (p < 0 → k = 2)) := by
  unfold okF at h
  split at h
  · simp at h; omega
  · split at h
    · simp [inB] at h; omega
    · cases h
theorem pl_size {p : Int} (h0 : -1 ≤ p) (h1 : p ≤ 15) : (plT p).size ≤ 21 := by
  unfold plT
  split
  · decide
  · exact dec_size (by omega) (by omega)
theorem cat_way (X a b c p : ByteArray) (abc : ByteArray) (h : a ++ b ++ c = abc) : X ++ a ++ b ++ c ++ p = X ++ abc ++ p := by
  rw [← h]; simp only [ByteArray.append_assoc]
theorem l11Place_any (p : Int) (h0 : -1 ≤ p) (h1 : p ≤ 15) (w : World) : Calls Tryd.prog 76 #[.int .i64 p] w fun e w' => e = .returned (.string (plT p)) ∧ Below w.heap.size w w' := by
  by_cases hp : p < 0
  · have E := Lib.hid hp
    go_enter Tryd.func76, Tryd.ntmps76
    go_wp2_with fail
    go_ret
    exact ⟨ret_s (by rw [plT, if_pos E.out]), Below.refl _ _⟩
  · have E := Lib.hid hp
    go_enter Tryd.func76, Tryd.ntmps76
    go_wp2_with fail
    refine (l01Dec_any p (by omega) (by omega) _).mono ?_
    rintro e w1 ⟨rfl, b1⟩
    go_wp2_with fail
    go_ret
    exact ⟨ret_s (by rw [plT, if_neg (by have := E.out; omega)]), b1⟩
set_option maxRecDepth 100000 in
set_option maxHeartbeats 4000000 in
theorem l11Text_any (k p c : Int) (h : okF k p c = true) (w : World) : Calls Tryd.prog 52 #[.agg #[.int .i64 k, .int .i64 p, .int .i64 c]] w fun e w' => e = .returned (.string (fcT k p c)) ∧ Below w.heap.size w w' := by
  have HO := Lib.hid h
  rcases okF_bd h with ⟨rfl, rfl, rfl⟩ | ⟨rfl, rfl, rfl⟩ | ⟨hk, p0, p1, c0, c1, -⟩
  · clear h
    go_enter Tryd.func52, Tryd.ntmps52
    go_wp2_with fail
    go_ret
    exact ⟨rfl, (by repeat (first | with_reducible exact Below.refl _ _ | with_reducible assumption | with_reducible refine sub_alloc ?_ _ | (with_reducible refine sub_setCell2 ?_ ?_ _; (focus (first | (simp; done) | (simp <;> omega)))) | with_reducible refine sub_drew ?_ | with_reducible refine below_drewN ?_ _ | with_reducible refine sub_step (by assumption) ?_ (by first | rfl | (simp; done)) | exact Below.refl _ _ | assumption | refine sub_alloc ?_ _ | refine sub_setCell ?_ (by simp <;> omega) _ | refine sub_drew ?_ | refine below_drewN ?_ _ | refine sub_step (by assumption) ?_ (by first | rfl | (simp; done))))⟩
  · clear h
    go_enter Tryd.func52, Tryd.ntmps52
    go_wp2_with fail
    go_ret
    exact ⟨rfl, (by repeat (first | with_reducible exact Below.refl _ _ | with_reducible assumption | with_reducible refine sub_alloc ?_ _ | (with_reducible refine sub_setCell2 ?_ ?_ _; (focus (first | (simp; done) | (simp <;> omega)))) | with_reducible refine sub_drew ?_ | with_reducible refine below_drewN ?_ _ | with_reducible refine sub_step (by assumption) ?_ (by first | rfl | (simp; done)) | exact Below.refl _ _ | assumption | refine sub_alloc ?_ _ | refine sub_setCell ?_ (by simp <;> omega) _ | refine sub_drew ?_ | refine below_drewN ?_ _ | refine sub_step (by assumption) ?_ (by first | rfl | (simp; done))))⟩
  have hds := dec_size (n := c) (by omega) (by omega)
  have hps := pl_size p0 p1
  clear h
  rcases hk with rfl | rfl | rfl | rfl
  · have n1 : ¬ 9223372036854775807 < 5 + (dec c).size := by omega
    have n2 : ¬ 9223372036854775807 < 5 + (dec c).size + 6 := by omega
    have n3 : ¬ 9223372036854775807 < 5 + (dec c).size + 6 + (plT p).size := by omega
    go_enter Tryd.func52, Tryd.ntmps52
    go_wp2_with fail
    refine wp_named (fun w' => Below w.heap.size w w' ∧ w'.cell? ⟨w.heap.size, 1, none⟩ = some (.int .i64 p) ∧ w'.cell? ⟨w.heap.size, 2, none⟩ = some (.int .i64 c)) ⟨(by repeat (first | with_reducible exact Below.refl _ _ | with_reducible assumption | with_reducible refine sub_alloc ?_ _ | (with_reducible refine sub_setCell2 ?_ ?_ _; (focus (first | (simp; done) | (simp <;> omega)))) | with_reducible refine sub_drew ?_ | with_reducible refine below_drewN ?_ _ | with_reducible refine sub_step (by assumption) ?_ (by first | rfl | (simp; done)) | exact Below.refl _ _ | assumption | refine sub_alloc ?_ _ | refine sub_setCell ?_ (by simp <;> omega) _ | refine sub_drew ?_ | refine below_drewN ?_ _ | refine sub_step (by assumption) ?_ (by first | rfl | (simp; done)))), by simp [World.cell?_alloc_new], by simp [World.cell?_alloc_new]⟩ ?_
    rintro W ⟨bW, d1, d2⟩
    have k1 := cell_regrown d1
    have k2 := cell_regrown d2
    have cD : ∀ d os, Calls Tryd.prog 58 #[.int .i64 c] (Sort.grow (redrawn W d) os) fun e w'' => e = .returned (.string (dec c)) ∧ ∃ p : Regrown, w'' = Sort.grow (redrawn W p.d) p.os := fun d os => Calls.regrown_of (l01Dec_any c (by omega) (by omega) _)
    have cP : ∀ d os, Calls Tryd.prog 76 #[.int .i64 p] (Sort.grow (redrawn W d) os) fun e w'' => e = .returned (.string (plT p)) ∧ ∃ p : Regrown, w'' = Sort.grow (redrawn W p.d) p.os := fun d os => Calls.regrown_of (l11Place_any p p0 p1 _)
    refine wp_region_quiet_below (by kernel_rfl) (by kernel_rfl) ?_
    repeat (quiet_step (first | exact cD _ _ | exact cP _ _))
    refine wpQuiet_nil ?_
    intro _ hw'
    obtain ⟨⟨dq, osq⟩, hw''⟩ := hw'
    subst hw''
    go_wp2_with fail
    go_ret
    exact ⟨ret_s (by rw [fcT, if_pos HO.out]; rfl), bW.trans ((below_regrown W dq osq).mono bW.size)⟩
  · have n1 : ¬ 9223372036854775807 < 4 + (dec c).size := by omega
    have n2 : ¬ 9223372036854775807 < 4 + (dec c).size + 6 := by omega
    have n3 : ¬ 9223372036854775807 < 4 + (dec c).size + 6 + (plT p).size := by omega
    go_enter Tryd.func52, Tryd.ntmps52
    go_wp2_with fail
    refine wp_named (fun w' => Below w.heap.size w w' ∧ w'.cell? ⟨w.heap.size, 1, none⟩ = some (.int .i64 p) ∧ w'.cell? ⟨w.heap.size, 2, none⟩ = some (.int .i64 c)) ⟨(by repeat (first | with_reducible exact Below.refl _ _ | with_reducible assumption | with_reducible refine sub_alloc ?_ _ | (with_reducible refine sub_setCell2 ?_ ?_ _; (focus (first | (simp; done) | (simp <;> omega)))) | with_reducible refine sub_drew ?_ | with_reducible refine below_drewN ?_ _ | with_reducible refine sub_step (by assumption) ?_ (by first | rfl | (simp; done)) | exact Below.refl _ _ | assumption | refine sub_alloc ?_ _ | refine sub_setCell ?_ (by simp <;> omega) _ | refine sub_drew ?_ | refine below_drewN ?_ _ | refine sub_step (by assumption) ?_ (by first | rfl | (simp; done)))), by simp [World.cell?_alloc_new], by simp [World.cell?_alloc_new]⟩ ?_
    rintro W ⟨bW, d1, d2⟩
    have k1 := cell_regrown d1
    have k2 := cell_regrown d2
    have cD : ∀ d os, Calls Tryd.prog 58 #[.int .i64 c] (Sort.grow (redrawn W d) os) fun e w'' => e = .returned (.string (dec c)) ∧ ∃ p : Regrown, w'' = Sort.grow (redrawn W p.d) p.os := fun d os => Calls.regrown_of (l01Dec_any c (by omega) (by omega) _)
    have cP : ∀ d os, Calls Tryd.prog 76 #[.int .i64 p] (Sort.grow (redrawn W d) os) fun e w'' => e = .returned (.string (plT p)) ∧ ∃ p : Regrown, w'' = Sort.grow (redrawn W p.d) p.os := fun d os => Calls.regrown_of (l11Place_any p p0 p1 _)
    refine wp_region_quiet_below (by kernel_rfl) (by kernel_rfl) ?_
    repeat (quiet_step (first | exact cD _ _ | exact cP _ _))
    refine wpQuiet_nil ?_
    intro _ hw'
    obtain ⟨⟨dq, osq⟩, hw''⟩ := hw'
    subst hw''
    go_wp2_with fail
    go_ret
    exact ⟨ret_s (by rw [fcT, if_pos HO.out]; rfl), bW.trans ((below_regrown W dq osq).mono bW.size)⟩
  · have n1 : ¬ 9223372036854775807 < 8 + (dec c).size := by omega
    have n2 : ¬ 9223372036854775807 < 8 + (dec c).size + 6 := by omega
    have n3 : ¬ 9223372036854775807 < 8 + (dec c).size + 6 + (plT p).size := by omega
    go_enter Tryd.func52, Tryd.ntmps52
    go_wp2_with fail
    refine wp_named (fun w' => Below w.heap.size w w' ∧ w'.cell? ⟨w.heap.size, 1, none⟩ = some (.int .i64 p) ∧ w'.cell? ⟨w.heap.size, 2, none⟩ = some (.int .i64 c)) ⟨(by repeat (first | with_reducible exact Below.refl _ _ | with_reducible assumption | with_reducible refine sub_alloc ?_ _ | (with_reducible refine sub_setCell2 ?_ ?_ _; (focus (first | (simp; done) | (simp <;> omega)))) | with_reducible refine sub_drew ?_ | with_reducible refine below_drewN ?_ _ | with_reducible refine sub_step (by assumption) ?_ (by first | rfl | (simp; done)) | exact Below.refl _ _ | assumption | refine sub_alloc ?_ _ | refine sub_setCell ?_ (by simp <;> omega) _ | refine sub_drew ?_ | refine below_drewN ?_ _ | refine sub_step (by assumption) ?_ (by first | rfl | (simp; done)))), by simp [World.cell?_alloc_new], by simp [World.cell?_alloc_new]⟩ ?_
    rintro W ⟨bW, d1, d2⟩
    have k1 := cell_regrown d1
    have k2 := cell_regrown d2
    have cD : ∀ d os, Calls Tryd.prog 58 #[.int .i64 c] (Sort.grow (redrawn W d) os) fun e w'' => e = .returned (.string (dec c)) ∧ ∃ p : Regrown, w'' = Sort.grow (redrawn W p.d) p.os := fun d os => Calls.regrown_of (l01Dec_any c (by omega) (by omega) _)
    have cP : ∀ d os, Calls Tryd.prog 76 #[.int .i64 p] (Sort.grow (redrawn W d) os) fun e w'' => e = .returned (.string (plT p)) ∧ ∃ p : Regrown, w'' = Sort.grow (redrawn W p.d) p.os := fun d os => Calls.regrown_of (l11Place_any p p0 p1 _)
    refine wp_region_quiet_below (by kernel_rfl) (by kernel_rfl) ?_
    repeat (quiet_step (first | exact cD _ _ | exact cP _ _))
    refine wpQuiet_nil ?_
    intro _ hw'
    obtain ⟨⟨dq, osq⟩, hw''⟩ := hw'
    subst hw''
    go_wp2_with fail
    go_ret
    exact ⟨ret_s (by rw [fcT, if_pos HO.out]; rfl), bW.trans ((below_regrown W dq osq).mono bW.size)⟩
  · have n1 : ¬ 9223372036854775807 < 6 + (dec c).size := by omega
    have n2 : ¬ 9223372036854775807 < 6 + (dec c).size + 6 := by omega
    have n3 : ¬ 9223372036854775807 < 6 + (dec c).size + 6 + (plT p).size := by omega
    go_enter Tryd.func52, Tryd.ntmps52
    go_wp2_with fail
    refine wp_named (fun w' => Below w.heap.size w w' ∧ w'.cell? ⟨w.heap.size, 1, none⟩ = some (.int .i64 p) ∧ w'.cell? ⟨w.heap.size, 2, none⟩ = some (.int .i64 c)) ⟨(by repeat (first | with_reducible exact Below.refl _ _ | with_reducible assumption | with_reducible refine sub_alloc ?_ _ | (with_reducible refine sub_setCell2 ?_ ?_ _; (focus (first | (simp; done) | (simp <;> omega)))) | with_reducible refine sub_drew ?_ | with_reducible refine below_drewN ?_ _ | with_reducible refine sub_step (by assumption) ?_ (by first | rfl | (simp; done)) | exact Below.refl _ _ | assumption | refine sub_alloc ?_ _ | refine sub_setCell ?_ (by simp <;> omega) _ | refine sub_drew ?_ | refine below_drewN ?_ _ | refine sub_step (by assumption) ?_ (by first | rfl | (simp; done)))), by simp [World.cell?_alloc_new], by simp [World.cell?_alloc_new]⟩ ?_
    rintro W ⟨bW, d1, d2⟩
    have k1 := cell_regrown d1
    have k2 := cell_regrown d2
    have cD : ∀ d os, Calls Tryd.prog 58 #[.int .i64 c] (Sort.grow (redrawn W d) os) fun e w'' => e = .returned (.string (dec c)) ∧ ∃ p : Regrown, w'' = Sort.grow (redrawn W p.d) p.os := fun d os => Calls.regrown_of (l01Dec_any c (by omega) (by omega) _)
    have cP : ∀ d os, Calls Tryd.prog 76 #[.int .i64 p] (Sort.grow (redrawn W d) os) fun e w'' => e = .returned (.string (plT p)) ∧ ∃ p : Regrown, w'' = Sort.grow (redrawn W p.d) p.os := fun d os => Calls.regrown_of (l11Place_any p p0 p1 _)
    refine wp_region_quiet_below (by kernel_rfl) (by kernel_rfl) ?_
    repeat (quiet_step (first | exact cD _ _ | exact cP _ _))
    refine wpQuiet_nil ?_
    intro _ hw'
    obtain ⟨⟨dq, osq⟩, hw''⟩ := hw'
    subst hw''
    go_wp2_with fail
    go_ret
    exact ⟨ret_s (by rw [fcT, if_pos HO.out]; rfl), bW.trans ((below_regrown W dq osq).mono bW.size)⟩
theorem specFactText_any (k p c : Int) (w : World) : Calls Tryd.prog 38 #[.agg #[.int .i64 k, .int .i64 p, .int .i64 c]] w fun e w' => e = .returned (.string (fcT k p c)) ∧ Below w.heap.size w w' := by
  have bx := Lib.hid (show Below w.heap.size w (w.alloc (.cells #[.int .i64 k, .int .i64 p, .int .i64 c] 29)) from (by repeat (first | with_reducible exact Below.refl _ _ | with_reducible assumption | with_reducible refine sub_alloc ?_ _ | (with_reducible refine sub_setCell2 ?_ ?_ _; (focus (first | (simp; done) | (simp <;> omega)))) | with_reducible refine sub_drew ?_ | with_reducible refine below_drewN ?_ _ | with_reducible refine sub_step (by assumption) ?_ (by first | rfl | (simp; done)) | exact Below.refl _ _ | assumption | refine sub_alloc ?_ _ | refine sub_setCell ?_ (by simp <;> omega) _ | refine sub_drew ?_ | refine below_drewN ?_ _ | refine sub_step (by assumption) ?_ (by first | rfl | (simp; done)))))
  cases e0 : okF k p c
  all_goals
    have E := Lib.hid e0
    clear e0
    go_enter Tryd.func38, Tryd.ntmps38
    go_wp2_with fail
    refine (l11Fact_any k p c _ E.out _).mono ?_
    rintro e w1 ⟨rfl, b1⟩
    have q1 := b1.cell (p := ⟨w.heap.size, 0, none⟩) (by simp)
    have q2 := b1.cell (p := ⟨w.heap.size, 1, none⟩) (by simp)
    have q3 := b1.cell (p := ⟨w.heap.size, 2, none⟩) (by simp)
    simp [World.cell?_alloc_new] at q1 q2 q3
    have c1 := Lib.hid (sub_step b1 bx.out rfl)
    clear b1
    go_wp2_with fail
  · go_ret
    exact ⟨ret_s (by simp [fcT, E.out]), c1.out⟩
  · refine (l11Text_any k p c E.out _).mono ?_
    rintro e w2 ⟨rfl, b2⟩
    have c2 := Lib.hid (sub_step b2 c1.out rfl)
    clear b2
    go_wp2_with fail
    go_ret
    exact ⟨rfl, c2.out⟩
set_option maxRecDepth 100000 in
set_option maxHeartbeats 4000000 in
theorem implFactText_any (k p c : Int) (w : World) (ht : Tab w) : Calls Tryd.prog 40 #[.agg #[.int .i64 k, .int .i64 p, .int .i64 c]] w fun e w' => e = .returned (.string (fcT k p c)) ∧ Below w.heap.size w w' := by
  have HT := Lib.hid ht
  clear ht
  have bx := Lib.hid (show Below w.heap.size w (w.alloc (.cells #[.int .i64 k, .int .i64 p, .int .i64 c] 29)) from (by repeat (first | with_reducible exact Below.refl _ _ | with_reducible assumption | with_reducible refine sub_alloc ?_ _ | (with_reducible refine sub_setCell2 ?_ ?_ _; (focus (first | (simp; done) | (simp <;> omega)))) | with_reducible refine sub_drew ?_ | with_reducible refine below_drewN ?_ _ | with_reducible refine sub_step (by assumption) ?_ (by first | rfl | (simp; done)) | exact Below.refl _ _ | assumption | refine sub_alloc ?_ _ | refine sub_setCell ?_ (by simp <;> omega) _ | refine sub_drew ?_ | refine below_drewN ?_ _ | refine sub_step (by assumption) ?_ (by first | rfl | (simp; done)))))
  cases e0 : okF k p c
  · have E := Lib.hid e0
    clear e0
    go_enter Tryd.func40, Tryd.ntmps40
    go_wp2_with fail
    refine (canWrite_any k p c _ E.out _).mono ?_
    rintro e w1 ⟨rfl, b1⟩
    have c1 := Lib.hid (sub_step b1 bx.out rfl)
    clear b1
    go_wp2_with fail
    go_ret
    exact ⟨ret_s (by simp [fcT, E.out]), c1.out⟩
  have HO := Lib.hid e0
  have hbd := okF_bd e0
  clear e0
  rcases hbd with ⟨rfl, rfl, rfl⟩ | ⟨rfl, rfl, rfl⟩ | ⟨hk, p0, p1, c0, c1, hp2⟩
  · have hix : ∀ W : World, (Instr.index 82 (.agg #[.string (⟨#[116, 97, 107, 101]⟩ : ByteArray), .string (⟨#[115, 111, 119]⟩ : ByteArray), .string (⟨#[99, 97, 112, 116, 117, 114, 101]⟩ : ByteArray), .string (⟨#[115, 112, 97, 114, 101]⟩ : ByteArray), .string (⟨#[97, 103, 97, 105, 110]⟩ : ByteArray), .string (⟨#[116, 117, 114, 110]⟩ : ByteArray)]) (.int .i64 4)).run Tryd.prog W = .ok (.string (⟨#[97, 103, 97, 105, 110]⟩ : ByteArray)) W := fun W => by kernel_rfl
    go_enter Tryd.func40, Tryd.ntmps40
    go_wp2_with fail
    refine (canWrite_any _ _ _ _ HO.out _).mono ?_
    rintro e w1 ⟨rfl, b1⟩
    have q1 := b1.cell (p := ⟨w.heap.size, 0, none⟩) (by simp)
    have q2 := b1.cell (p := ⟨w.heap.size, 1, none⟩) (by simp)
    have q3 := b1.cell (p := ⟨w.heap.size, 2, none⟩) (by simp)
    have z1 := b1.size
    simp [World.cell?_alloc_new] at q1 q2 q3 z1
    have c1 := Lib.hid (sub_step b1 bx.out rfl)
    clear b1
    go_wp2_with fail
    go_ret
    exact ⟨rfl, c1.out⟩
  · have hix : ∀ W : World, (Instr.index 82 (.agg #[.string (⟨#[116, 97, 107, 101]⟩ : ByteArray), .string (⟨#[115, 111, 119]⟩ : ByteArray), .string (⟨#[99, 97, 112, 116, 117, 114, 101]⟩ : ByteArray), .string (⟨#[115, 112, 97, 114, 101]⟩ : ByteArray), .string (⟨#[97, 103, 97, 105, 110]⟩ : ByteArray), .string (⟨#[116, 117, 114, 110]⟩ : ByteArray)]) (.int .i64 5)).run Tryd.prog W = .ok (.string (⟨#[116, 117, 114, 110]⟩ : ByteArray)) W := fun W => by kernel_rfl
    go_enter Tryd.func40, Tryd.ntmps40
    go_wp2_with fail
    refine (canWrite_any _ _ _ _ HO.out _).mono ?_
    rintro e w1 ⟨rfl, b1⟩
    have q1 := b1.cell (p := ⟨w.heap.size, 0, none⟩) (by simp)
    have q2 := b1.cell (p := ⟨w.heap.size, 1, none⟩) (by simp)
    have q3 := b1.cell (p := ⟨w.heap.size, 2, none⟩) (by simp)
    have z1 := b1.size
    simp [World.cell?_alloc_new] at q1 q2 q3 z1
    have c1 := Lib.hid (sub_step b1 bx.out rfl)
    clear b1
    go_wp2_with fail
    go_ret
    exact ⟨rfl, c1.out⟩
  have hds := dec_size (n := c) (by omega) (by omega)
  have hqs := dec_size (n := p) (by omega) (by omega)
  rcases hk with rfl | rfl | rfl | rfl
  · have hp : ¬ (p < 0) := fun h => by have := hp2 h; omega
    have JP := Lib.hid (show plT p = dec p from if_neg hp)
    have j0 : ¬ (p < 0) := hp
    have n0 : ¬ 9223372036854775807 < 5 + (dec c).size := by omega
    have n1 : ¬ 9223372036854775807 < 5 + (dec c).size + 1 := by omega
    have n2 : ¬ 9223372036854775807 < 5 + (dec c).size + 1 + 4 := by omega
    have n3 : ¬ 9223372036854775807 < 5 + (dec c).size + 1 + 4 + 1 := by omega
    have n4 : ¬ 9223372036854775807 < 5 + (dec c).size + 1 + 4 + 1 + (dec p).size := by omega
    have hix : ∀ W : World, (Instr.index 82 (.agg #[.string (⟨#[116, 97, 107, 101]⟩ : ByteArray), .string (⟨#[115, 111, 119]⟩ : ByteArray), .string (⟨#[99, 97, 112, 116, 117, 114, 101]⟩ : ByteArray), .string (⟨#[115, 112, 97, 114, 101]⟩ : ByteArray), .string (⟨#[97, 103, 97, 105, 110]⟩ : ByteArray), .string (⟨#[116, 117, 114, 110]⟩ : ByteArray)]) (.int .i64 0)).run Tryd.prog W = .ok (.string (⟨#[116, 97, 107, 101]⟩ : ByteArray)) W := fun W => by kernel_rfl
    go_enter Tryd.func40, Tryd.ntmps40
    go_wp2_with fail
    refine (canWrite_any _ _ _ _ HO.out _).mono ?_
    rintro e w1 ⟨rfl, b1⟩
    have q1 := b1.cell (p := ⟨w.heap.size, 0, none⟩) (by simp)
    have q2 := b1.cell (p := ⟨w.heap.size, 1, none⟩) (by simp)
    have q3 := b1.cell (p := ⟨w.heap.size, 2, none⟩) (by simp)
    have z1 := b1.size
    simp [World.cell?_alloc_new] at q1 q2 q3 z1
    have c1 := Lib.hid (sub_step b1 bx.out rfl)
    clear b1
    go_wp2_with fail
    refine (implDecimal_any p (by omega) (by omega) _ (by exact HT.out.below c1.out (Nat.le_refl _))).mono ?_
    rintro e w2 ⟨rfl, b2⟩
    have r1 := (b2.cell (p := ⟨w.heap.size, 0, none⟩) (by show w.heap.size < _; omega)).trans q1
    have r2 := (b2.cell (p := ⟨w.heap.size, 1, none⟩) (by show w.heap.size < _; omega)).trans q2
    have r3 := (b2.cell (p := ⟨w.heap.size, 2, none⟩) (by show w.heap.size < _; omega)).trans q3
    have z2 := b2.size
    have c2 := Lib.hid (sub_step b2 c1.out rfl)
    clear b2 q1 q2 q3
    go_wp2_with fail
    refine (implDecimal_any c (by omega) (by omega) _ (by exact HT.out.below c2.out (Nat.le_refl _))).mono ?_
    rintro e w3 ⟨rfl, b3⟩
    have c3 := Lib.hid (sub_step b3 c2.out rfl)
    clear b3
    go_wp2_with fail
    go_ret
    exact ⟨ret_s (by rw [fcT, if_pos HO.out, JP.out]; exact (cat_way ((⟨#[116, 97, 107, 101]⟩ : ByteArray) ++ (⟨#[32]⟩ : ByteArray) ++ dec c) (⟨#[32]⟩ : ByteArray) (⟨#[102, 114, 111, 109]⟩ : ByteArray) (⟨#[32]⟩ : ByteArray) _ (⟨#[32, 102, 114, 111, 109, 32]⟩ : ByteArray) rfl).trans rfl), c3.out⟩
  · by_cases hp : p < 0
    · have JP := Lib.hid (show plT p = (⟨#[115, 116, 111, 114, 101]⟩ : ByteArray) from if_pos hp)
      have j0 : p < 0 := hp
      have n0 : ¬ 9223372036854775807 < 4 + (dec c).size := by omega
      have n1 : ¬ 9223372036854775807 < 4 + (dec c).size + 1 := by omega
      have n2 : ¬ 9223372036854775807 < 4 + (dec c).size + 1 + 4 := by omega
      have n3 : ¬ 9223372036854775807 < 4 + (dec c).size + 1 + 4 + 1 := by omega
      have n4 : ¬ 9223372036854775807 < 4 + (dec c).size + 1 + 4 + 1 + 5 := by omega
      have hix : ∀ W : World, (Instr.index 82 (.agg #[.string (⟨#[116, 97, 107, 101]⟩ : ByteArray), .string (⟨#[115, 111, 119]⟩ : ByteArray), .string (⟨#[99, 97, 112, 116, 117, 114, 101]⟩ : ByteArray), .string (⟨#[115, 112, 97, 114, 101]⟩ : ByteArray), .string (⟨#[97, 103, 97, 105, 110]⟩ : ByteArray), .string (⟨#[116, 117, 114, 110]⟩ : ByteArray)]) (.int .i64 1)).run Tryd.prog W = .ok (.string (⟨#[115, 111, 119]⟩ : ByteArray)) W := fun W => by kernel_rfl
      go_enter Tryd.func40, Tryd.ntmps40
      go_wp2_with fail
      refine (canWrite_any _ _ _ _ HO.out _).mono ?_
      rintro e w1 ⟨rfl, b1⟩
      have q1 := b1.cell (p := ⟨w.heap.size, 0, none⟩) (by simp)
      have q2 := b1.cell (p := ⟨w.heap.size, 1, none⟩) (by simp)
      have q3 := b1.cell (p := ⟨w.heap.size, 2, none⟩) (by simp)
      have z1 := b1.size
      simp [World.cell?_alloc_new] at q1 q2 q3 z1
      have c1 := Lib.hid (sub_step b1 bx.out rfl)
      clear b1
      go_wp2_with fail
      refine (implDecimal_any p (by omega) (by omega) _ (by exact HT.out.below c1.out (Nat.le_refl _))).mono ?_
      rintro e w2 ⟨rfl, b2⟩
      have r1 := (b2.cell (p := ⟨w.heap.size, 0, none⟩) (by show w.heap.size < _; omega)).trans q1
      have r2 := (b2.cell (p := ⟨w.heap.size, 1, none⟩) (by show w.heap.size < _; omega)).trans q2
      have r3 := (b2.cell (p := ⟨w.heap.size, 2, none⟩) (by show w.heap.size < _; omega)).trans q3
      have z2 := b2.size
      have c2 := Lib.hid (sub_step b2 c1.out rfl)
      clear b2 q1 q2 q3
      go_wp2_with fail
      refine (implDecimal_any c (by omega) (by omega) _ (by exact HT.out.below c2.out (Nat.le_refl _))).mono ?_
      rintro e w3 ⟨rfl, b3⟩
      have c3 := Lib.hid (sub_step b3 c2.out rfl)
      clear b3
      go_wp2_with fail
      go_ret
      exact ⟨ret_s (by rw [fcT, if_pos HO.out, JP.out]; exact (cat_way ((⟨#[115, 111, 119]⟩ : ByteArray) ++ (⟨#[32]⟩ : ByteArray) ++ dec c) (⟨#[32]⟩ : ByteArray) (⟨#[105, 110, 116, 111]⟩ : ByteArray) (⟨#[32]⟩ : ByteArray) _ (⟨#[32, 105, 110, 116, 111, 32]⟩ : ByteArray) rfl).trans rfl), c3.out⟩
    · have JP := Lib.hid (show plT p = dec p from if_neg hp)
      have j0 : ¬ (p < 0) := hp
      have n0 : ¬ 9223372036854775807 < 4 + (dec c).size := by omega
      have n1 : ¬ 9223372036854775807 < 4 + (dec c).size + 1 := by omega
      have n2 : ¬ 9223372036854775807 < 4 + (dec c).size + 1 + 4 := by omega
      have n3 : ¬ 9223372036854775807 < 4 + (dec c).size + 1 + 4 + 1 := by omega
      have n4 : ¬ 9223372036854775807 < 4 + (dec c).size + 1 + 4 + 1 + (dec p).size := by omega
      have hix : ∀ W : World, (Instr.index 82 (.agg #[.string (⟨#[116, 97, 107, 101]⟩ : ByteArray), .string (⟨#[115, 111, 119]⟩ : ByteArray), .string (⟨#[99, 97, 112, 116, 117, 114, 101]⟩ : ByteArray), .string (⟨#[115, 112, 97, 114, 101]⟩ : ByteArray), .string (⟨#[97, 103, 97, 105, 110]⟩ : ByteArray), .string (⟨#[116, 117, 114, 110]⟩ : ByteArray)]) (.int .i64 1)).run Tryd.prog W = .ok (.string (⟨#[115, 111, 119]⟩ : ByteArray)) W := fun W => by kernel_rfl
      go_enter Tryd.func40, Tryd.ntmps40
      go_wp2_with fail
      refine (canWrite_any _ _ _ _ HO.out _).mono ?_
      rintro e w1 ⟨rfl, b1⟩
      have q1 := b1.cell (p := ⟨w.heap.size, 0, none⟩) (by simp)
      have q2 := b1.cell (p := ⟨w.heap.size, 1, none⟩) (by simp)
      have q3 := b1.cell (p := ⟨w.heap.size, 2, none⟩) (by simp)
      have z1 := b1.size
      simp [World.cell?_alloc_new] at q1 q2 q3 z1
      have c1 := Lib.hid (sub_step b1 bx.out rfl)
      clear b1
      go_wp2_with fail
      refine (implDecimal_any p (by omega) (by omega) _ (by exact HT.out.below c1.out (Nat.le_refl _))).mono ?_
      rintro e w2 ⟨rfl, b2⟩
      have r1 := (b2.cell (p := ⟨w.heap.size, 0, none⟩) (by show w.heap.size < _; omega)).trans q1
      have r2 := (b2.cell (p := ⟨w.heap.size, 1, none⟩) (by show w.heap.size < _; omega)).trans q2
      have r3 := (b2.cell (p := ⟨w.heap.size, 2, none⟩) (by show w.heap.size < _; omega)).trans q3
      have z2 := b2.size
      have c2 := Lib.hid (sub_step b2 c1.out rfl)
      clear b2 q1 q2 q3
      go_wp2_with fail
      refine (implDecimal_any c (by omega) (by omega) _ (by exact HT.out.below c2.out (Nat.le_refl _))).mono ?_
      rintro e w3 ⟨rfl, b3⟩
      have c3 := Lib.hid (sub_step b3 c2.out rfl)
      clear b3
      go_wp2_with fail
      go_ret
      exact ⟨ret_s (by rw [fcT, if_pos HO.out, JP.out]; exact (cat_way ((⟨#[115, 111, 119]⟩ : ByteArray) ++ (⟨#[32]⟩ : ByteArray) ++ dec c) (⟨#[32]⟩ : ByteArray) (⟨#[105, 110, 116, 111]⟩ : ByteArray) (⟨#[32]⟩ : ByteArray) _ (⟨#[32, 105, 110, 116, 111, 32]⟩ : ByteArray) rfl).trans rfl), c3.out⟩
  · have hp : ¬ (p < 0) := fun h => by have := hp2 h; omega
    have JP := Lib.hid (show plT p = dec p from if_neg hp)
    have j0 : ¬ (p < 0) := hp
    have n0 : ¬ 9223372036854775807 < 8 + (dec c).size := by omega
    have n1 : ¬ 9223372036854775807 < 8 + (dec c).size + 1 := by omega
    have n2 : ¬ 9223372036854775807 < 8 + (dec c).size + 1 + 4 := by omega
    have n3 : ¬ 9223372036854775807 < 8 + (dec c).size + 1 + 4 + 1 := by omega
    have n4 : ¬ 9223372036854775807 < 8 + (dec c).size + 1 + 4 + 1 + (dec p).size := by omega
    have hix : ∀ W : World, (Instr.index 82 (.agg #[.string (⟨#[116, 97, 107, 101]⟩ : ByteArray), .string (⟨#[115, 111, 119]⟩ : ByteArray), .string (⟨#[99, 97, 112, 116, 117, 114, 101]⟩ : ByteArray), .string (⟨#[115, 112, 97, 114, 101]⟩ : ByteArray), .string (⟨#[97, 103, 97, 105, 110]⟩ : ByteArray), .string (⟨#[116, 117, 114, 110]⟩ : ByteArray)]) (.int .i64 2)).run Tryd.prog W = .ok (.string (⟨#[99, 97, 112, 116, 117, 114, 101]⟩ : ByteArray)) W := fun W => by kernel_rfl
    go_enter Tryd.func40, Tryd.ntmps40
    go_wp2_with fail
    refine (canWrite_any _ _ _ _ HO.out _).mono ?_
    rintro e w1 ⟨rfl, b1⟩
    have q1 := b1.cell (p := ⟨w.heap.size, 0, none⟩) (by simp)
    have q2 := b1.cell (p := ⟨w.heap.size, 1, none⟩) (by simp)
    have q3 := b1.cell (p := ⟨w.heap.size, 2, none⟩) (by simp)
    have z1 := b1.size
    simp [World.cell?_alloc_new] at q1 q2 q3 z1
    have c1 := Lib.hid (sub_step b1 bx.out rfl)
    clear b1
    go_wp2_with fail
    refine (implDecimal_any p (by omega) (by omega) _ (by exact HT.out.below c1.out (Nat.le_refl _))).mono ?_
    rintro e w2 ⟨rfl, b2⟩
    have r1 := (b2.cell (p := ⟨w.heap.size, 0, none⟩) (by show w.heap.size < _; omega)).trans q1
    have r2 := (b2.cell (p := ⟨w.heap.size, 1, none⟩) (by show w.heap.size < _; omega)).trans q2
    have r3 := (b2.cell (p := ⟨w.heap.size, 2, none⟩) (by show w.heap.size < _; omega)).trans q3
    have z2 := b2.size
    have c2 := Lib.hid (sub_step b2 c1.out rfl)
    clear b2 q1 q2 q3
    go_wp2_with fail
    refine (implDecimal_any c (by omega) (by omega) _ (by exact HT.out.below c2.out (Nat.le_refl _))).mono ?_
    rintro e w3 ⟨rfl, b3⟩
    have c3 := Lib.hid (sub_step b3 c2.out rfl)
    clear b3
    go_wp2_with fail
    go_ret
    exact ⟨ret_s (by rw [fcT, if_pos HO.out, JP.out]; exact (cat_way ((⟨#[99, 97, 112, 116, 117, 114, 101]⟩ : ByteArray) ++ (⟨#[32]⟩ : ByteArray) ++ dec c) (⟨#[32]⟩ : ByteArray) (⟨#[102, 114, 111, 109]⟩ : ByteArray) (⟨#[32]⟩ : ByteArray) _ (⟨#[32, 102, 114, 111, 109, 32]⟩ : ByteArray) rfl).trans rfl), c3.out⟩
  · have hp : ¬ (p < 0) := fun h => by have := hp2 h; omega
    have JP := Lib.hid (show plT p = dec p from if_neg hp)
    have j0 : ¬ (p < 0) := hp
    have n0 : ¬ 9223372036854775807 < 6 + (dec c).size := by omega
    have n1 : ¬ 9223372036854775807 < 6 + (dec c).size + 1 := by omega
    have n2 : ¬ 9223372036854775807 < 6 + (dec c).size + 1 + 4 := by omega
    have n3 : ¬ 9223372036854775807 < 6 + (dec c).size + 1 + 4 + 1 := by omega
    have n4 : ¬ 9223372036854775807 < 6 + (dec c).size + 1 + 4 + 1 + (dec p).size := by omega
    have hix : ∀ W : World, (Instr.index 82 (.agg #[.string (⟨#[116, 97, 107, 101]⟩ : ByteArray), .string (⟨#[115, 111, 119]⟩ : ByteArray), .string (⟨#[99, 97, 112, 116, 117, 114, 101]⟩ : ByteArray), .string (⟨#[115, 112, 97, 114, 101]⟩ : ByteArray), .string (⟨#[97, 103, 97, 105, 110]⟩ : ByteArray), .string (⟨#[116, 117, 114, 110]⟩ : ByteArray)]) (.int .i64 3)).run Tryd.prog W = .ok (.string (⟨#[115, 112, 97, 114, 101]⟩ : ByteArray)) W := fun W => by kernel_rfl
    go_enter Tryd.func40, Tryd.ntmps40
    go_wp2_with fail
    refine (canWrite_any _ _ _ _ HO.out _).mono ?_
    rintro e w1 ⟨rfl, b1⟩
    have q1 := b1.cell (p := ⟨w.heap.size, 0, none⟩) (by simp)
    have q2 := b1.cell (p := ⟨w.heap.size, 1, none⟩) (by simp)
    have q3 := b1.cell (p := ⟨w.heap.size, 2, none⟩) (by simp)
    have z1 := b1.size
    simp [World.cell?_alloc_new] at q1 q2 q3 z1
    have c1 := Lib.hid (sub_step b1 bx.out rfl)
    clear b1
    go_wp2_with fail
    refine (implDecimal_any p (by omega) (by omega) _ (by exact HT.out.below c1.out (Nat.le_refl _))).mono ?_
    rintro e w2 ⟨rfl, b2⟩
    have r1 := (b2.cell (p := ⟨w.heap.size, 0, none⟩) (by show w.heap.size < _; omega)).trans q1
    have r2 := (b2.cell (p := ⟨w.heap.size, 1, none⟩) (by show w.heap.size < _; omega)).trans q2
    have r3 := (b2.cell (p := ⟨w.heap.size, 2, none⟩) (by show w.heap.size < _; omega)).trans q3
    have z2 := b2.size
    have c2 := Lib.hid (sub_step b2 c1.out rfl)
    clear b2 q1 q2 q3
    go_wp2_with fail
    refine (implDecimal_any c (by omega) (by omega) _ (by exact HT.out.below c2.out (Nat.le_refl _))).mono ?_
    rintro e w3 ⟨rfl, b3⟩
    have c3 := Lib.hid (sub_step b3 c2.out rfl)
    clear b3
    go_wp2_with fail
    go_ret
    exact ⟨ret_s (by rw [fcT, if_pos HO.out, JP.out]; exact (cat_way ((⟨#[115, 112, 97, 114, 101]⟩ : ByteArray) ++ (⟨#[32]⟩ : ByteArray) ++ dec c) (⟨#[32]⟩ : ByteArray) (⟨#[102, 114, 111, 109]⟩ : ByteArray) (⟨#[32]⟩ : ByteArray) _ (⟨#[32, 102, 114, 111, 109, 32]⟩ : ByteArray) rfl).trans rfl), c3.out⟩
theorem toFactF_any (x0 x1 x2 : Int) (w : World) : Calls Tryd.prog 39 #[.agg #[.int .i64 x0, .int .i64 x1, .int .i64 x2]] w fun e w' => e = .returned (.agg #[.int .i64 x0, .int .i64 x1, .int .i64 x2]) ∧ Below w.heap.size w w' := by
  go_enter Tryd.func39, Tryd.ntmps39
  go_wp2
  refine bodyPost_ret (v := .agg #[.int .i64 x0, .int .i64 x1, .int .i64 x2]) (by simp [results, Tryd.results39, go_sem]) rfl ⟨rfl, (by repeat (first | with_reducible exact Below.refl _ _ | with_reducible assumption | with_reducible refine sub_alloc ?_ _ | (with_reducible refine sub_setCell2 ?_ ?_ _; (focus (first | (simp; done) | (simp <;> omega)))) | with_reducible refine sub_drew ?_ | with_reducible refine below_drewN ?_ _ | with_reducible refine sub_step (by assumption) ?_ (by first | rfl | (simp; done)) | exact Below.refl _ _ | assumption | refine sub_alloc ?_ _ | refine sub_setCell ?_ (by simp <;> omega) _ | refine sub_drew ?_ | refine below_drewN ?_ _ | refine sub_step (by assumption) ?_ (by first | rfl | (simp; done))))⟩
set_option maxRecDepth 100000 in
set_option maxHeartbeats 2000000 in
theorem FnExactFactText_walk (k p c : Int) (w : World) (h : in64 k ∧ in64 p ∧ in64 c) (ht : Tab w) : Calls Tryd.prog 10 #[.agg #[.int .i64 k, .int .i64 p, .int .i64 c]] w fun e w' => e = .returned (.bool true) ∧ Below w.heap.size w w' := by
  clear h
  have HT := Lib.hid ht
  clear ht
  have bx := Lib.hid (show Below w.heap.size w (w.alloc (.cells #[.int .i64 k, .int .i64 p, .int .i64 c] 58)) from (by repeat (first | with_reducible exact Below.refl _ _ | with_reducible assumption | with_reducible refine sub_alloc ?_ _ | (with_reducible refine sub_setCell2 ?_ ?_ _; (focus (first | (simp; done) | (simp <;> omega)))) | with_reducible refine sub_drew ?_ | with_reducible refine below_drewN ?_ _ | with_reducible refine sub_step (by assumption) ?_ (by first | rfl | (simp; done)) | exact Below.refl _ _ | assumption | refine sub_alloc ?_ _ | refine sub_setCell ?_ (by simp <;> omega) _ | refine sub_drew ?_ | refine below_drewN ?_ _ | refine sub_step (by assumption) ?_ (by first | rfl | (simp; done)))))
  go_enter Tryd.func10, Tryd.ntmps10
  go_wp2_with fail
  refine (toFactF_any k p c _).mono ?_
  rintro e w2 ⟨rfl, b2⟩
  have c2 := Lib.hid (sub_step b2 bx.out rfl)
  have r1 := b2.cell (p := ⟨w.heap.size, 0, none⟩) (by simp)
  have r2 := b2.cell (p := ⟨w.heap.size, 1, none⟩) (by simp)
  have r3 := b2.cell (p := ⟨w.heap.size, 2, none⟩) (by simp)
  have z2 := b2.size
  simp [World.cell?_alloc_new] at r1 r2 r3 z2
  clear b2
  go_wp2_with fail
  refine (specFactText_any k p c _).mono ?_
  rintro e w3 ⟨rfl, b3⟩
  have c3 := Lib.hid (sub_step b3 c2.out rfl)
  have q1 := (b3.cell (p := ⟨w.heap.size, 0, none⟩) (by show w.heap.size < _; omega)).trans r1
  have q2 := (b3.cell (p := ⟨w.heap.size, 1, none⟩) (by show w.heap.size < _; omega)).trans r2
  have q3 := (b3.cell (p := ⟨w.heap.size, 2, none⟩) (by show w.heap.size < _; omega)).trans r3
  clear b3 r1 r2 r3 c2
  go_wp2_with fail
  refine (toFactF_any k p c _).mono ?_
  rintro e w4 ⟨rfl, b4⟩
  have c4 := Lib.hid (sub_step b4 c3.out rfl)
  clear b4 q1 q2 q3 c3
  go_wp2_with fail
  refine (implFactText_any k p c _ (by exact HT.out.below c4.out (Nat.le_refl _))).mono ?_
  rintro e w5 ⟨rfl, b5⟩
  have c5 := Lib.hid (sub_step b5 c4.out rfl)
  clear b5 c4
  go_wp2_with fail
  go_ret
  exact ⟨rfl, c5.out⟩
end Go.Proofs.YtnanaldolnehiabDoor
