/-
  Kinds of captures and of slams by their names: the program's and the reference's functions; the laws FnExactCaptureNamed, FnExactSlamNamed, walked.
-/
import Derived.Test.YtnanaldolnehiaaArgs
set_option linter.unusedSimpArgs false
set_option linter.unusedVariables false
namespace Go.Proofs.Ytnanaldolnehiaa
open Go.ChangeShapes Go.WideShapes Go.RowKit Go.Deep

theorem lit_ne {s : ByteArray} {l : List UInt8} (h : ¬ (s = ⟨l.toArray⟩)) : (l == s.toList) = false := by
  rw [ByteArray.toList_eq]
  rw [beq_eq_false_iff_ne]
  intro e
  exact h (ByteArray.ext (Array.toList_inj.mp (by simp [e])))
theorem ret_two {a b c d : Int} (h : (a, b) = (c, d)) : Ending.returned (.tuple #[.int .i64 a, .int .i64 b]) = .returned (.tuple #[.int .i64 c, .int .i64 d]) := by
  injection h with h1 h2; rw [h1, h2]
/-- The kind of a name, and a code. -/
def capN (s : ByteArray) : Int × Int := if s = (⟨#[110, 111, 110, 101]⟩ : ByteArray) then (0, 0) else if s = (⟨#[116, 119, 111, 45, 116, 104, 114, 101, 101]⟩ : ByteArray) then (1, 0) else if s = (⟨#[99, 114, 111, 115, 115]⟩ : ByteArray) then (2, 0) else if s = (⟨#[101, 118, 101, 110]⟩ : ByteArray) then (3, 0) else (0, 3)
/-- The kind of a name, and a code. -/
def slamN (s : ByteArray) : Int × Int := if s = (⟨#[116, 97, 107, 101]⟩ : ByteArray) then (0, 0) else if s = (⟨#[102, 111, 114, 98, 105, 100]⟩ : ByteArray) then (1, 0) else if s = (⟨#[110, 111, 116, 104, 105, 110, 103]⟩ : ByteArray) then (2, 0) else (0, 3)

set_option maxRecDepth 100000 in
set_option maxHeartbeats 4000000 in
theorem specCaptureNamed_any (s : ByteArray) (w : World) : Calls Try.prog 69 #[.string s] w fun e w' => e = .returned (.tuple #[.int .i64 (capN s).1, .int .i64 (capN s).2]) ∧ Below w.heap.size w w' := by
  by_cases h0 : s = (⟨#[110, 111, 110, 101]⟩ : ByteArray)
  · subst h0
    have hv : capN (⟨#[110, 111, 110, 101]⟩ : ByteArray) = (0, 0) := by rfl
    rw [hv]
    clear hv
    go_enter Try.func69, Try.ntmps69
    go_wp2
    refine wp_loop_rounds 5 ?_; rw [rounds_succ]
    go_wp2
    (try (rw [rounds_succ]; go_wp2))
    (try (rw [rounds_succ]; go_wp2))
    (try (rw [rounds_succ]; go_wp2))
    (try (rw [rounds_succ]; go_wp2))
    go_ret2
    exact ⟨rfl, (by repeat (first | with_reducible exact Below.refl _ _ | with_reducible assumption | with_reducible refine sub_alloc ?_ _ | (with_reducible refine sub_setCell2 ?_ ?_ _; (focus (first | (simp; done) | (simp <;> omega)))) | with_reducible refine sub_drew ?_ | with_reducible refine below_drewN ?_ _ | with_reducible refine sub_step (by assumption) ?_ (by first | rfl | (simp; done)) | exact Below.refl _ _ | assumption | refine sub_alloc ?_ _ | refine sub_setCell ?_ (by simp <;> omega) _ | refine sub_drew ?_ | refine below_drewN ?_ _ | refine sub_step (by assumption) ?_ (by first | rfl | (simp; done))))⟩
  by_cases h1 : s = (⟨#[116, 119, 111, 45, 116, 104, 114, 101, 101]⟩ : ByteArray)
  · subst h1
    have hv : capN (⟨#[116, 119, 111, 45, 116, 104, 114, 101, 101]⟩ : ByteArray) = (1, 0) := by rfl
    rw [hv]
    clear hv h0
    go_enter Try.func69, Try.ntmps69
    go_wp2
    refine wp_loop_rounds 5 ?_; rw [rounds_succ]
    go_wp2
    (try (rw [rounds_succ]; go_wp2))
    (try (rw [rounds_succ]; go_wp2))
    (try (rw [rounds_succ]; go_wp2))
    (try (rw [rounds_succ]; go_wp2))
    go_ret2
    exact ⟨rfl, (by repeat (first | with_reducible exact Below.refl _ _ | with_reducible assumption | with_reducible refine sub_alloc ?_ _ | (with_reducible refine sub_setCell2 ?_ ?_ _; (focus (first | (simp; done) | (simp <;> omega)))) | with_reducible refine sub_drew ?_ | with_reducible refine below_drewN ?_ _ | with_reducible refine sub_step (by assumption) ?_ (by first | rfl | (simp; done)) | exact Below.refl _ _ | assumption | refine sub_alloc ?_ _ | refine sub_setCell ?_ (by simp <;> omega) _ | refine sub_drew ?_ | refine below_drewN ?_ _ | refine sub_step (by assumption) ?_ (by first | rfl | (simp; done))))⟩
  by_cases h2 : s = (⟨#[99, 114, 111, 115, 115]⟩ : ByteArray)
  · subst h2
    have hv : capN (⟨#[99, 114, 111, 115, 115]⟩ : ByteArray) = (2, 0) := by rfl
    rw [hv]
    clear hv h0 h1
    go_enter Try.func69, Try.ntmps69
    go_wp2
    refine wp_loop_rounds 5 ?_; rw [rounds_succ]
    go_wp2
    (try (rw [rounds_succ]; go_wp2))
    (try (rw [rounds_succ]; go_wp2))
    (try (rw [rounds_succ]; go_wp2))
    (try (rw [rounds_succ]; go_wp2))
    go_ret2
    exact ⟨rfl, (by repeat (first | with_reducible exact Below.refl _ _ | with_reducible assumption | with_reducible refine sub_alloc ?_ _ | (with_reducible refine sub_setCell2 ?_ ?_ _; (focus (first | (simp; done) | (simp <;> omega)))) | with_reducible refine sub_drew ?_ | with_reducible refine below_drewN ?_ _ | with_reducible refine sub_step (by assumption) ?_ (by first | rfl | (simp; done)) | exact Below.refl _ _ | assumption | refine sub_alloc ?_ _ | refine sub_setCell ?_ (by simp <;> omega) _ | refine sub_drew ?_ | refine below_drewN ?_ _ | refine sub_step (by assumption) ?_ (by first | rfl | (simp; done))))⟩
  by_cases h3 : s = (⟨#[101, 118, 101, 110]⟩ : ByteArray)
  · subst h3
    have hv : capN (⟨#[101, 118, 101, 110]⟩ : ByteArray) = (3, 0) := by rfl
    rw [hv]
    clear hv h0 h1 h2
    go_enter Try.func69, Try.ntmps69
    go_wp2
    refine wp_loop_rounds 5 ?_; rw [rounds_succ]
    go_wp2
    (try (rw [rounds_succ]; go_wp2))
    (try (rw [rounds_succ]; go_wp2))
    (try (rw [rounds_succ]; go_wp2))
    (try (rw [rounds_succ]; go_wp2))
    go_ret2
    exact ⟨rfl, (by repeat (first | with_reducible exact Below.refl _ _ | with_reducible assumption | with_reducible refine sub_alloc ?_ _ | (with_reducible refine sub_setCell2 ?_ ?_ _; (focus (first | (simp; done) | (simp <;> omega)))) | with_reducible refine sub_drew ?_ | with_reducible refine below_drewN ?_ _ | with_reducible refine sub_step (by assumption) ?_ (by first | rfl | (simp; done)) | exact Below.refl _ _ | assumption | refine sub_alloc ?_ _ | refine sub_setCell ?_ (by simp <;> omega) _ | refine sub_drew ?_ | refine below_drewN ?_ _ | refine sub_step (by assumption) ?_ (by first | rfl | (simp; done))))⟩
  have hv : capN s = (0, 3) := by simp [capN, h0, h1, h2, h3]
  rw [hv]
  clear hv
  have q0 := lit_ne h0
  clear h0
  have q1 := lit_ne h1
  clear h1
  have q2 := lit_ne h2
  clear h2
  have q3 := lit_ne h3
  clear h3
  go_enter Try.func69, Try.ntmps69
  go_wp2
  refine wp_loop_rounds 5 ?_; rw [rounds_succ]
  go_wp2
  (try (rw [rounds_succ]; go_wp2))
  (try (rw [rounds_succ]; go_wp2))
  (try (rw [rounds_succ]; go_wp2))
  (try (rw [rounds_succ]; go_wp2))
  go_ret2
  exact ⟨rfl, (by repeat (first | with_reducible exact Below.refl _ _ | with_reducible assumption | with_reducible refine sub_alloc ?_ _ | (with_reducible refine sub_setCell2 ?_ ?_ _; (focus (first | (simp; done) | (simp <;> omega)))) | with_reducible refine sub_drew ?_ | with_reducible refine below_drewN ?_ _ | with_reducible refine sub_step (by assumption) ?_ (by first | rfl | (simp; done)) | exact Below.refl _ _ | assumption | refine sub_alloc ?_ _ | refine sub_setCell ?_ (by simp <;> omega) _ | refine sub_drew ?_ | refine below_drewN ?_ _ | refine sub_step (by assumption) ?_ (by first | rfl | (simp; done))))⟩

set_option maxRecDepth 100000 in
set_option maxHeartbeats 4000000 in
theorem CaptureNamed_any (s : ByteArray) (w : World) : Calls Try.prog 66 #[.string s] w fun e w' => e = .returned (.tuple #[.int .i64 (capN s).1, .int .i64 (capN s).2]) ∧ Below w.heap.size w w' := by
  by_cases h0 : s = (⟨#[110, 111, 110, 101]⟩ : ByteArray)
  · subst h0
    have hv : capN (⟨#[110, 111, 110, 101]⟩ : ByteArray) = (0, 0) := by rfl
    rw [hv]
    clear hv
    go_enter Try.func66, Try.ntmps66
    go_wp2
    refine wp_loop_rounds 5 ?_; rw [rounds_succ]
    go_wp2
    (try (rw [rounds_succ]; go_wp2))
    (try (rw [rounds_succ]; go_wp2))
    (try (rw [rounds_succ]; go_wp2))
    (try (rw [rounds_succ]; go_wp2))
    go_ret2
    exact ⟨rfl, (by repeat (first | with_reducible exact Below.refl _ _ | with_reducible assumption | with_reducible refine sub_alloc ?_ _ | (with_reducible refine sub_setCell2 ?_ ?_ _; (focus (first | (simp; done) | (simp <;> omega)))) | with_reducible refine sub_drew ?_ | with_reducible refine below_drewN ?_ _ | with_reducible refine sub_step (by assumption) ?_ (by first | rfl | (simp; done)) | exact Below.refl _ _ | assumption | refine sub_alloc ?_ _ | refine sub_setCell ?_ (by simp <;> omega) _ | refine sub_drew ?_ | refine below_drewN ?_ _ | refine sub_step (by assumption) ?_ (by first | rfl | (simp; done))))⟩
  by_cases h1 : s = (⟨#[116, 119, 111, 45, 116, 104, 114, 101, 101]⟩ : ByteArray)
  · subst h1
    have hv : capN (⟨#[116, 119, 111, 45, 116, 104, 114, 101, 101]⟩ : ByteArray) = (1, 0) := by rfl
    rw [hv]
    clear hv h0
    go_enter Try.func66, Try.ntmps66
    go_wp2
    refine wp_loop_rounds 5 ?_; rw [rounds_succ]
    go_wp2
    (try (rw [rounds_succ]; go_wp2))
    (try (rw [rounds_succ]; go_wp2))
    (try (rw [rounds_succ]; go_wp2))
    (try (rw [rounds_succ]; go_wp2))
    go_ret2
    exact ⟨rfl, (by repeat (first | with_reducible exact Below.refl _ _ | with_reducible assumption | with_reducible refine sub_alloc ?_ _ | (with_reducible refine sub_setCell2 ?_ ?_ _; (focus (first | (simp; done) | (simp <;> omega)))) | with_reducible refine sub_drew ?_ | with_reducible refine below_drewN ?_ _ | with_reducible refine sub_step (by assumption) ?_ (by first | rfl | (simp; done)) | exact Below.refl _ _ | assumption | refine sub_alloc ?_ _ | refine sub_setCell ?_ (by simp <;> omega) _ | refine sub_drew ?_ | refine below_drewN ?_ _ | refine sub_step (by assumption) ?_ (by first | rfl | (simp; done))))⟩
  by_cases h2 : s = (⟨#[99, 114, 111, 115, 115]⟩ : ByteArray)
  · subst h2
    have hv : capN (⟨#[99, 114, 111, 115, 115]⟩ : ByteArray) = (2, 0) := by rfl
    rw [hv]
    clear hv h0 h1
    go_enter Try.func66, Try.ntmps66
    go_wp2
    refine wp_loop_rounds 5 ?_; rw [rounds_succ]
    go_wp2
    (try (rw [rounds_succ]; go_wp2))
    (try (rw [rounds_succ]; go_wp2))
    (try (rw [rounds_succ]; go_wp2))
    (try (rw [rounds_succ]; go_wp2))
    go_ret2
    exact ⟨rfl, (by repeat (first | with_reducible exact Below.refl _ _ | with_reducible assumption | with_reducible refine sub_alloc ?_ _ | (with_reducible refine sub_setCell2 ?_ ?_ _; (focus (first | (simp; done) | (simp <;> omega)))) | with_reducible refine sub_drew ?_ | with_reducible refine below_drewN ?_ _ | with_reducible refine sub_step (by assumption) ?_ (by first | rfl | (simp; done)) | exact Below.refl _ _ | assumption | refine sub_alloc ?_ _ | refine sub_setCell ?_ (by simp <;> omega) _ | refine sub_drew ?_ | refine below_drewN ?_ _ | refine sub_step (by assumption) ?_ (by first | rfl | (simp; done))))⟩
  by_cases h3 : s = (⟨#[101, 118, 101, 110]⟩ : ByteArray)
  · subst h3
    have hv : capN (⟨#[101, 118, 101, 110]⟩ : ByteArray) = (3, 0) := by rfl
    rw [hv]
    clear hv h0 h1 h2
    go_enter Try.func66, Try.ntmps66
    go_wp2
    refine wp_loop_rounds 5 ?_; rw [rounds_succ]
    go_wp2
    (try (rw [rounds_succ]; go_wp2))
    (try (rw [rounds_succ]; go_wp2))
    (try (rw [rounds_succ]; go_wp2))
    (try (rw [rounds_succ]; go_wp2))
    go_ret2
    exact ⟨rfl, (by repeat (first | with_reducible exact Below.refl _ _ | with_reducible assumption | with_reducible refine sub_alloc ?_ _ | (with_reducible refine sub_setCell2 ?_ ?_ _; (focus (first | (simp; done) | (simp <;> omega)))) | with_reducible refine sub_drew ?_ | with_reducible refine below_drewN ?_ _ | with_reducible refine sub_step (by assumption) ?_ (by first | rfl | (simp; done)) | exact Below.refl _ _ | assumption | refine sub_alloc ?_ _ | refine sub_setCell ?_ (by simp <;> omega) _ | refine sub_drew ?_ | refine below_drewN ?_ _ | refine sub_step (by assumption) ?_ (by first | rfl | (simp; done))))⟩
  have hv : capN s = (0, 3) := by simp [capN, h0, h1, h2, h3]
  rw [hv]
  clear hv
  have q0 := lit_ne h0
  clear h0
  have q1 := lit_ne h1
  clear h1
  have q2 := lit_ne h2
  clear h2
  have q3 := lit_ne h3
  clear h3
  go_enter Try.func66, Try.ntmps66
  go_wp2
  refine wp_loop_rounds 5 ?_; rw [rounds_succ]
  go_wp2
  (try (rw [rounds_succ]; go_wp2))
  (try (rw [rounds_succ]; go_wp2))
  (try (rw [rounds_succ]; go_wp2))
  (try (rw [rounds_succ]; go_wp2))
  go_ret2
  exact ⟨rfl, (by repeat (first | with_reducible exact Below.refl _ _ | with_reducible assumption | with_reducible refine sub_alloc ?_ _ | (with_reducible refine sub_setCell2 ?_ ?_ _; (focus (first | (simp; done) | (simp <;> omega)))) | with_reducible refine sub_drew ?_ | with_reducible refine below_drewN ?_ _ | with_reducible refine sub_step (by assumption) ?_ (by first | rfl | (simp; done)) | exact Below.refl _ _ | assumption | refine sub_alloc ?_ _ | refine sub_setCell ?_ (by simp <;> omega) _ | refine sub_drew ?_ | refine below_drewN ?_ _ | refine sub_step (by assumption) ?_ (by first | rfl | (simp; done))))⟩




end Go.Proofs.Ytnanaldolnehiaa
