/-
  Kinds of captures and of slams by their names: the program's and the reference's functions; the laws FnExactCaptureNamed, FnExactSlamNamed, walked.
-/
import Derived.Test.YtgeckphkifpbmaaArgs
set_option linter.unusedSimpArgs false
set_option linter.unusedVariables false
namespace Go.Proofs.Ytgeckphkifpbmaa
open Go.ChangeShapes Go.WideShapes Go.RowKit Go.Deep

theorem lit_ne {s : ByteArray} {l : List UInt8} (h : ¬ (s = ⟨l.toArray⟩)) : (l == s.toList) = false := by
  rw [ByteArray.toList_eq]
  rw [beq_eq_false_iff_ne]
  intro e
  exact h (ByteArray.ext (Array.toList_inj.mp (by simp [e])))
theorem ret_two {a b c d : Int} (h : (a, b) = (c, d)) : Ending.returned (.tuple #[.int .i64 a, .int .i64 b]) = .returned (.tuple #[.int .i64 c, .int .i64 d]) := by
  injection h with h1 h2; rw [h1, h2]
/-- The kind of a name, and a code. -/
def capN (s : ByteArray) : Int × Int := if s = (⟨#[110, 111, 110, 101]⟩ : ByteArray) then (0, 0) else if s = (⟨#[116, 119, 111, 45, 116, 104, 114, 101, 101]⟩ : ByteArray) then (1, 0) else if s = (⟨#[99, 114, 111, 115, 115]⟩ : ByteArray) then (2, 0) else if s = (⟨#[101, 118, 101, 110]⟩ : ByteArray) then (3, 0) else (0, 3)
/-- The kind of a name, and a code. -/
def slamN (s : ByteArray) : Int × Int := if s = (⟨#[116, 97, 107, 101]⟩ : ByteArray) then (0, 0) else if s = (⟨#[102, 111, 114, 98, 105, 100]⟩ : ByteArray) then (1, 0) else if s = (⟨#[110, 111, 116, 104, 105, 110, 103]⟩ : ByteArray) then (2, 0) else (0, 3)

set_option maxRecDepth 100000 in
set_option maxHeartbeats 4000000 in
theorem specCaptureNamed_any (s : ByteArray) (w : World) : Calls Try.prog 29 #[.string s] w fun e w' => e = .returned (.tuple #[.int .i64 (capN s).1, .int .i64 (capN s).2]) ∧ Below w.heap.size w w' := by
  by_cases h0 : s = (⟨#[110, 111, 110, 101]⟩ : ByteArray)
  · subst h0
    have hv : capN (⟨#[110, 111, 110, 101]⟩ : ByteArray) = (0, 0) := by rfl
    rw [hv]
    clear hv
    go_enter Try.func29, Try.ntmps29
    go_wp2
    refine wp_loop_rounds 5 ?_; rw [rounds_succ]
    go_wp2
    (try (rw [rounds_succ]; go_wp2))
    (try (rw [rounds_succ]; go_wp2))
    (try (rw [rounds_succ]; go_wp2))
    (try (rw [rounds_succ]; go_wp2))
    go_ret2
    exact ⟨rfl, (by repeat (first | with_reducible exact Below.refl _ _ | with_reducible assumption | with_reducible refine sub_alloc ?_ _ | (with_reducible refine sub_setCell2 ?_ ?_ _; (focus (first | (simp; done) | (simp <;> omega)))) | with_reducible refine sub_drew ?_ | with_reducible refine below_drewN ?_ _ | with_reducible refine sub_step (by assumption) ?_ (by first | rfl | (simp; done)) | exact Below.refl _ _ | assumption | refine sub_alloc ?_ _ | refine sub_setCell ?_ (by simp <;> omega) _ | refine sub_drew ?_ | refine below_drewN ?_ _ | refine sub_step (by assumption) ?_ (by first | rfl | (simp; done))))⟩
  by_cases h1 : s = (⟨#[116, 119, 111, 45, 116, 104, 114, 101, 101]⟩ : ByteArray)
  · subst h1
    have hv : capN (⟨#[116, 119, 111, 45, 116, 104, 114, 101, 101]⟩ : ByteArray) = (1, 0) := by rfl
    rw [hv]
    clear hv h0
    go_enter Try.func29, Try.ntmps29
    go_wp2
    refine wp_loop_rounds 5 ?_; rw [rounds_succ]
    go_wp2
    (try (rw [rounds_succ]; go_wp2))
    (try (rw [rounds_succ]; go_wp2))
    (try (rw [rounds_succ]; go_wp2))
    (try (rw [rounds_succ]; go_wp2))
    go_ret2
    exact ⟨rfl, (by repeat (first | with_reducible exact Below.refl _ _ | with_reducible assumption | with_reducible refine sub_alloc ?_ _ | (with_reducible refine sub_setCell2 ?_ ?_ _; (focus (first | (simp; done) | (simp <;> omega)))) | with_reducible refine sub_drew ?_ | with_reducible refine below_drewN ?_ _ | with_reducible refine sub_step (by assumption) ?_ (by first | rfl | (simp; done)) | exact Below.refl _ _ | assumption | refine sub_alloc ?_ _ | refine sub_setCell ?_ (by simp <;> omega) _ | refine sub_drew ?_ | refine below_drewN ?_ _ | refine sub_step (by assumption) ?_ (by first | rfl | (simp; done))))⟩
  by_cases h2 : s = (⟨#[99, 114, 111, 115, 115]⟩ : ByteArray)
  · subst h2
    have hv : capN (⟨#[99, 114, 111, 115, 115]⟩ : ByteArray) = (2, 0) := by rfl
    rw [hv]
    clear hv h0 h1
    go_enter Try.func29, Try.ntmps29
    go_wp2
    refine wp_loop_rounds 5 ?_; rw [rounds_succ]
    go_wp2
    (try (rw [rounds_succ]; go_wp2))
    (try (rw [rounds_succ]; go_wp2))
    (try (rw [rounds_succ]; go_wp2))
    (try (rw [rounds_succ]; go_wp2))
    go_ret2
    exact ⟨rfl, (by repeat (first | with_reducible exact Below.refl _ _ | with_reducible assumption | with_reducible refine sub_alloc ?_ _ | (with_reducible refine sub_setCell2 ?_ ?_ _; (focus (first | (simp; done) | (simp <;> omega)))) | with_reducible refine sub_drew ?_ | with_reducible refine below_drewN ?_ _ | with_reducible refine sub_step (by assumption) ?_ (by first | rfl | (simp; done)) | exact Below.refl _ _ | assumption | refine sub_alloc ?_ _ | refine sub_setCell ?_ (by simp <;> omega) _ | refine sub_drew ?_ | refine below_drewN ?_ _ | refine sub_step (by assumption) ?_ (by first | rfl | (simp; done))))⟩
  by_cases h3 : s = (⟨#[101, 118, 101, 110]⟩ : ByteArray)
  · subst h3
    have hv : capN (⟨#[101, 118, 101, 110]⟩ : ByteArray) = (3, 0) := by rfl
    rw [hv]
    clear hv h0 h1 h2
    go_enter Try.func29, Try.ntmps29
    go_wp2
    refine wp_loop_rounds 5 ?_; rw [rounds_succ]
    go_wp2
    (try (rw [rounds_succ]; go_wp2))
    (try (rw [rounds_succ]; go_wp2))
    (try (rw [rounds_succ]; go_wp2))
    (try (rw [rounds_succ]; go_wp2))
    go_ret2
    exact ⟨rfl, (by repeat (first | with_reducible exact Below.refl _ _ | with_reducible assumption | with_reducible refine sub_alloc ?_ _ | (with_reducible refine sub_setCell2 ?_ ?_ _; (focus (first | (simp; done) | (simp <;> omega)))) | with_reducible refine sub_drew ?_ | with_reducible refine below_drewN ?_ _ | with_reducible refine sub_step (by assumption) ?_ (by first | rfl | (simp; done)) | exact Below.refl _ _ | assumption | refine sub_alloc ?_ _ | refine sub_setCell ?_ (by simp <;> omega) _ | refine sub_drew ?_ | refine below_drewN ?_ _ | refine sub_step (by assumption) ?_ (by first | rfl | (simp; done))))⟩
  have hv : capN s = (0, 3) := by simp [capN, h0, h1, h2, h3]
  rw [hv]
  clear hv
  have q0 := lit_ne h0
  clear h0
  have q1 := lit_ne h1
  clear h1
  have q2 := lit_ne h2
  clear h2
  have q3 := lit_ne h3
  clear h3
  go_enter Try.func29, Try.ntmps29
  go_wp2
  refine wp_loop_rounds 5 ?_; rw [rounds_succ]
  go_wp2
  (try (rw [rounds_succ]; go_wp2))
  (try (rw [rounds_succ]; go_wp2))
  (try (rw [rounds_succ]; go_wp2))
  (try (rw [rounds_succ]; go_wp2))
  go_ret2
  exact ⟨rfl, (by repeat (first | with_reducible exact Below.refl _ _ | with_reducible assumption | with_reducible refine sub_alloc ?_ _ | (with_reducible refine sub_setCell2 ?_ ?_ _; (focus (first | (simp; done) | (simp <;> omega)))) | with_reducible refine sub_drew ?_ | with_reducible refine below_drewN ?_ _ | with_reducible refine sub_step (by assumption) ?_ (by first | rfl | (simp; done)) | exact Below.refl _ _ | assumption | refine sub_alloc ?_ _ | refine sub_setCell ?_ (by simp <;> omega) _ | refine sub_drew ?_ | refine below_drewN ?_ _ | refine sub_step (by assumption) ?_ (by first | rfl | (simp; done))))⟩

set_option maxRecDepth 100000 in
set_option maxHeartbeats 4000000 in
theorem CaptureNamed_any (s : ByteArray) (w : World) : Calls Try.prog 30 #[.string s] w fun e w' => e = .returned (.tuple #[.int .i64 (capN s).1, .int .i64 (capN s).2]) ∧ Below w.heap.size w w' := by
  by_cases h0 : s = (⟨#[110, 111, 110, 101]⟩ : ByteArray)
  · subst h0
    have hv : capN (⟨#[110, 111, 110, 101]⟩ : ByteArray) = (0, 0) := by rfl
    rw [hv]
    clear hv
    go_enter Try.func30, Try.ntmps30
    go_wp2
    refine wp_loop_rounds 5 ?_; rw [rounds_succ]
    go_wp2
    (try (rw [rounds_succ]; go_wp2))
    (try (rw [rounds_succ]; go_wp2))
    (try (rw [rounds_succ]; go_wp2))
    (try (rw [rounds_succ]; go_wp2))
    go_ret2
    exact ⟨rfl, (by repeat (first | with_reducible exact Below.refl _ _ | with_reducible assumption | with_reducible refine sub_alloc ?_ _ | (with_reducible refine sub_setCell2 ?_ ?_ _; (focus (first | (simp; done) | (simp <;> omega)))) | with_reducible refine sub_drew ?_ | with_reducible refine below_drewN ?_ _ | with_reducible refine sub_step (by assumption) ?_ (by first | rfl | (simp; done)) | exact Below.refl _ _ | assumption | refine sub_alloc ?_ _ | refine sub_setCell ?_ (by simp <;> omega) _ | refine sub_drew ?_ | refine below_drewN ?_ _ | refine sub_step (by assumption) ?_ (by first | rfl | (simp; done))))⟩
  by_cases h1 : s = (⟨#[116, 119, 111, 45, 116, 104, 114, 101, 101]⟩ : ByteArray)
  · subst h1
    have hv : capN (⟨#[116, 119, 111, 45, 116, 104, 114, 101, 101]⟩ : ByteArray) = (1, 0) := by rfl
    rw [hv]
    clear hv h0
    go_enter Try.func30, Try.ntmps30
    go_wp2
    refine wp_loop_rounds 5 ?_; rw [rounds_succ]
    go_wp2
    (try (rw [rounds_succ]; go_wp2))
    (try (rw [rounds_succ]; go_wp2))
    (try (rw [rounds_succ]; go_wp2))
    (try (rw [rounds_succ]; go_wp2))
    go_ret2
    exact ⟨rfl, (by repeat (first | with_reducible exact Below.refl _ _ | with_reducible assumption | with_reducible refine sub_alloc ?_ _ | (with_reducible refine sub_setCell2 ?_ ?_ _; (focus (first | (simp; done) | (simp <;> omega)))) | with_reducible refine sub_drew ?_ | with_reducible refine below_drewN ?_ _ | with_reducible refine sub_step (by assumption) ?_ (by first | rfl | (simp; done)) | exact Below.refl _ _ | assumption | refine sub_alloc ?_ _ | refine sub_setCell ?_ (by simp <;> omega) _ | refine sub_drew ?_ | refine below_drewN ?_ _ | refine sub_step (by assumption) ?_ (by first | rfl | (simp; done))))⟩
  by_cases h2 : s = (⟨#[99, 114, 111, 115, 115]⟩ : ByteArray)
  · subst h2
    have hv : capN (⟨#[99, 114, 111, 115, 115]⟩ : ByteArray) = (2, 0) := by rfl
    rw [hv]
    clear hv h0 h1
    go_enter Try.func30, Try.ntmps30
    go_wp2
    refine wp_loop_rounds 5 ?_; rw [rounds_succ]
    go_wp2
    (try (rw [rounds_succ]; go_wp2))
    (try (rw [rounds_succ]; go_wp2))
    (try (rw [rounds_succ]; go_wp2))
    (try (rw [rounds_succ]; go_wp2))
    go_ret2
    exact ⟨rfl, (by repeat (first | with_reducible exact Below.refl _ _ | with_reducible assumption | with_reducible refine sub_alloc ?_ _ | (with_reducible refine sub_setCell2 ?_ ?_ _; (focus (first | (simp; done) | (simp <;> omega)))) | with_reducible refine sub_drew ?_ | with_reducible refine below_drewN ?_ _ | with_reducible refine sub_step (by assumption) ?_ (by first | rfl | (simp; done)) | exact Below.refl _ _ | assumption | refine sub_alloc ?_ _ | refine sub_setCell ?_ (by simp <;> omega) _ | refine sub_drew ?_ | refine below_drewN ?_ _ | refine sub_step (by assumption) ?_ (by first | rfl | (simp; done))))⟩
  by_cases h3 : s = (⟨#[101, 118, 101, 110]⟩ : ByteArray)
  · subst h3
    have hv : capN (⟨#[101, 118, 101, 110]⟩ : ByteArray) = (3, 0) := by rfl
    rw [hv]
    clear hv h0 h1 h2
    go_enter Try.func30, Try.ntmps30
    go_wp2
    refine wp_loop_rounds 5 ?_; rw [rounds_succ]
    go_wp2
    (try (rw [rounds_succ]; go_wp2))
    (try (rw [rounds_succ]; go_wp2))
    (try (rw [rounds_succ]; go_wp2))
    (try (rw [rounds_succ]; go_wp2))
    go_ret2
    exact ⟨rfl, (by repeat (first | with_reducible exact Below.refl _ _ | with_reducible assumption | with_reducible refine sub_alloc ?_ _ | (with_reducible refine sub_setCell2 ?_ ?_ _; (focus (first | (simp; done) | (simp <;> omega)))) | with_reducible refine sub_drew ?_ | with_reducible refine below_drewN ?_ _ | with_reducible refine sub_step (by assumption) ?_ (by first | rfl | (simp; done)) | exact Below.refl _ _ | assumption | refine sub_alloc ?_ _ | refine sub_setCell ?_ (by simp <;> omega) _ | refine sub_drew ?_ | refine below_drewN ?_ _ | refine sub_step (by assumption) ?_ (by first | rfl | (simp; done))))⟩
  have hv : capN s = (0, 3) := by simp [capN, h0, h1, h2, h3]
  rw [hv]
  clear hv
  have q0 := lit_ne h0
  clear h0
  have q1 := lit_ne h1
  clear h1
  have q2 := lit_ne h2
  clear h2
  have q3 := lit_ne h3
  clear h3
  go_enter Try.func30, Try.ntmps30
  go_wp2
  refine wp_loop_rounds 5 ?_; rw [rounds_succ]
  go_wp2
  (try (rw [rounds_succ]; go_wp2))
  (try (rw [rounds_succ]; go_wp2))
  (try (rw [rounds_succ]; go_wp2))
  (try (rw [rounds_succ]; go_wp2))
  go_ret2
  exact ⟨rfl, (by repeat (first | with_reducible exact Below.refl _ _ | with_reducible assumption | with_reducible refine sub_alloc ?_ _ | (with_reducible refine sub_setCell2 ?_ ?_ _; (focus (first | (simp; done) | (simp <;> omega)))) | with_reducible refine sub_drew ?_ | with_reducible refine below_drewN ?_ _ | with_reducible refine sub_step (by assumption) ?_ (by first | rfl | (simp; done)) | exact Below.refl _ _ | assumption | refine sub_alloc ?_ _ | refine sub_setCell ?_ (by simp <;> omega) _ | refine sub_drew ?_ | refine below_drewN ?_ _ | refine sub_step (by assumption) ?_ (by first | rfl | (simp; done))))⟩

set_option maxRecDepth 100000 in
set_option maxHeartbeats 4000000 in
theorem specSlamNamed_any (s : ByteArray) (w : World) : Calls Try.prog 31 #[.string s] w fun e w' => e = .returned (.tuple #[.int .i64 (slamN s).1, .int .i64 (slamN s).2]) ∧ Below w.heap.size w w' := by
  by_cases h0 : s = (⟨#[116, 97, 107, 101]⟩ : ByteArray)
  · subst h0
    have hv : slamN (⟨#[116, 97, 107, 101]⟩ : ByteArray) = (0, 0) := by rfl
    rw [hv]
    clear hv
    go_enter Try.func31, Try.ntmps31
    go_wp2
    refine wp_loop_rounds 4 ?_; rw [rounds_succ]
    go_wp2
    (try (rw [rounds_succ]; go_wp2))
    (try (rw [rounds_succ]; go_wp2))
    (try (rw [rounds_succ]; go_wp2))
    go_ret2
    exact ⟨rfl, (by repeat (first | with_reducible exact Below.refl _ _ | with_reducible assumption | with_reducible refine sub_alloc ?_ _ | (with_reducible refine sub_setCell2 ?_ ?_ _; (focus (first | (simp; done) | (simp <;> omega)))) | with_reducible refine sub_drew ?_ | with_reducible refine below_drewN ?_ _ | with_reducible refine sub_step (by assumption) ?_ (by first | rfl | (simp; done)) | exact Below.refl _ _ | assumption | refine sub_alloc ?_ _ | refine sub_setCell ?_ (by simp <;> omega) _ | refine sub_drew ?_ | refine below_drewN ?_ _ | refine sub_step (by assumption) ?_ (by first | rfl | (simp; done))))⟩
  by_cases h1 : s = (⟨#[102, 111, 114, 98, 105, 100]⟩ : ByteArray)
  · subst h1
    have hv : slamN (⟨#[102, 111, 114, 98, 105, 100]⟩ : ByteArray) = (1, 0) := by rfl
    rw [hv]
    clear hv h0
    go_enter Try.func31, Try.ntmps31
    go_wp2
    refine wp_loop_rounds 4 ?_; rw [rounds_succ]
    go_wp2
    (try (rw [rounds_succ]; go_wp2))
    (try (rw [rounds_succ]; go_wp2))
    (try (rw [rounds_succ]; go_wp2))
    go_ret2
    exact ⟨rfl, (by repeat (first | with_reducible exact Below.refl _ _ | with_reducible assumption | with_reducible refine sub_alloc ?_ _ | (with_reducible refine sub_setCell2 ?_ ?_ _; (focus (first | (simp; done) | (simp <;> omega)))) | with_reducible refine sub_drew ?_ | with_reducible refine below_drewN ?_ _ | with_reducible refine sub_step (by assumption) ?_ (by first | rfl | (simp; done)) | exact Below.refl _ _ | assumption | refine sub_alloc ?_ _ | refine sub_setCell ?_ (by simp <;> omega) _ | refine sub_drew ?_ | refine below_drewN ?_ _ | refine sub_step (by assumption) ?_ (by first | rfl | (simp; done))))⟩
  by_cases h2 : s = (⟨#[110, 111, 116, 104, 105, 110, 103]⟩ : ByteArray)
  · subst h2
    have hv : slamN (⟨#[110, 111, 116, 104, 105, 110, 103]⟩ : ByteArray) = (2, 0) := by rfl
    rw [hv]
    clear hv h0 h1
    go_enter Try.func31, Try.ntmps31
    go_wp2
    refine wp_loop_rounds 4 ?_; rw [rounds_succ]
    go_wp2
    (try (rw [rounds_succ]; go_wp2))
    (try (rw [rounds_succ]; go_wp2))
    (try (rw [rounds_succ]; go_wp2))
    go_ret2
    exact ⟨rfl, (by repeat (first | with_reducible exact Below.refl _ _ | with_reducible assumption | with_reducible refine sub_alloc ?_ _ | (with_reducible refine sub_setCell2 ?_ ?_ _; (focus (first | (simp; done) | (simp <;> omega)))) | with_reducible refine sub_drew ?_ | with_reducible refine below_drewN ?_ _ | with_reducible refine sub_step (by assumption) ?_ (by first | rfl | (simp; done)) | exact Below.refl _ _ | assumption | refine sub_alloc ?_ _ | refine sub_setCell ?_ (by simp <;> omega) _ | refine sub_drew ?_ | refine below_drewN ?_ _ | refine sub_step (by assumption) ?_ (by first | rfl | (simp; done))))⟩
  have hv : slamN s = (0, 3) := by simp [slamN, h0, h1, h2]
  rw [hv]
  clear hv
  have q0 := lit_ne h0
  clear h0
  have q1 := lit_ne h1
  clear h1
  have q2 := lit_ne h2
  clear h2
  go_enter Try.func31, Try.ntmps31
  go_wp2
  refine wp_loop_rounds 4 ?_; rw [rounds_succ]
  go_wp2
  (try (rw [rounds_succ]; go_wp2))
  (try (rw [rounds_succ]; go_wp2))
  (try (rw [rounds_succ]; go_wp2))
  go_ret2
  exact ⟨rfl, (by repeat (first | with_reducible exact Below.refl _ _ | with_reducible assumption | with_reducible refine sub_alloc ?_ _ | (with_reducible refine sub_setCell2 ?_ ?_ _; (focus (first | (simp; done) | (simp <;> omega)))) | with_reducible refine sub_drew ?_ | with_reducible refine below_drewN ?_ _ | with_reducible refine sub_step (by assumption) ?_ (by first | rfl | (simp; done)) | exact Below.refl _ _ | assumption | refine sub_alloc ?_ _ | refine sub_setCell ?_ (by simp <;> omega) _ | refine sub_drew ?_ | refine below_drewN ?_ _ | refine sub_step (by assumption) ?_ (by first | rfl | (simp; done))))⟩

set_option maxRecDepth 100000 in
set_option maxHeartbeats 4000000 in
theorem SlamNamed_any (s : ByteArray) (w : World) : Calls Try.prog 32 #[.string s] w fun e w' => e = .returned (.tuple #[.int .i64 (slamN s).1, .int .i64 (slamN s).2]) ∧ Below w.heap.size w w' := by
  by_cases h0 : s = (⟨#[116, 97, 107, 101]⟩ : ByteArray)
  · subst h0
    have hv : slamN (⟨#[116, 97, 107, 101]⟩ : ByteArray) = (0, 0) := by rfl
    rw [hv]
    clear hv
    go_enter Try.func32, Try.ntmps32
    go_wp2
    refine wp_loop_rounds 4 ?_; rw [rounds_succ]
    go_wp2
    (try (rw [rounds_succ]; go_wp2))
    (try (rw [rounds_succ]; go_wp2))
    (try (rw [rounds_succ]; go_wp2))
    go_ret2
    exact ⟨rfl, (by repeat (first | with_reducible exact Below.refl _ _ | with_reducible assumption | with_reducible refine sub_alloc ?_ _ | (with_reducible refine sub_setCell2 ?_ ?_ _; (focus (first | (simp; done) | (simp <;> omega)))) | with_reducible refine sub_drew ?_ | with_reducible refine below_drewN ?_ _ | with_reducible refine sub_step (by assumption) ?_ (by first | rfl | (simp; done)) | exact Below.refl _ _ | assumption | refine sub_alloc ?_ _ | refine sub_setCell ?_ (by simp <;> omega) _ | refine sub_drew ?_ | refine below_drewN ?_ _ | refine sub_step (by assumption) ?_ (by first | rfl | (simp; done))))⟩
  by_cases h1 : s = (⟨#[102, 111, 114, 98, 105, 100]⟩ : ByteArray)
  · subst h1
    have hv : slamN (⟨#[102, 111, 114, 98, 105, 100]⟩ : ByteArray) = (1, 0) := by rfl
    rw [hv]
    clear hv h0
    go_enter Try.func32, Try.ntmps32
    go_wp2
    refine wp_loop_rounds 4 ?_; rw [rounds_succ]
    go_wp2
    (try (rw [rounds_succ]; go_wp2))
    (try (rw [rounds_succ]; go_wp2))
    (try (rw [rounds_succ]; go_wp2))
    go_ret2
    exact ⟨rfl, (by repeat (first | with_reducible exact Below.refl _ _ | with_reducible assumption | with_reducible refine sub_alloc ?_ _ | (with_reducible refine sub_setCell2 ?_ ?_ _; (focus (first | (simp; done) | (simp <;> omega)))) | with_reducible refine sub_drew ?_ | with_reducible refine below_drewN ?_ _ | with_reducible refine sub_step (by assumption) ?_ (by first | rfl | (simp; done)) | exact Below.refl _ _ | assumption | refine sub_alloc ?_ _ | refine sub_setCell ?_ (by simp <;> omega) _ | refine sub_drew ?_ | refine below_drewN ?_ _ | refine sub_step (by assumption) ?_ (by first | rfl | (simp; done))))⟩
  by_cases h2 : s = (⟨#[110, 111, 116, 104, 105, 110, 103]⟩ : ByteArray)
  · subst h2
    have hv : slamN (⟨#[110, 111, 116, 104, 105, 110, 103]⟩ : ByteArray) = (2, 0) := by rfl
    rw [hv]
    clear hv h0 h1
    go_enter Try.func32, Try.ntmps32
    go_wp2
    refine wp_loop_rounds 4 ?_; rw [rounds_succ]
    go_wp2
    (try (rw [rounds_succ]; go_wp2))
    (try (rw [rounds_succ]; go_wp2))
    (try (rw [rounds_succ]; go_wp2))
    go_ret2
    exact ⟨rfl, (by repeat (first | with_reducible exact Below.refl _ _ | with_reducible assumption | with_reducible refine sub_alloc ?_ _ | (with_reducible refine sub_setCell2 ?_ ?_ _; (focus (first | (simp; done) | (simp <;> omega)))) | with_reducible refine sub_drew ?_ | with_reducible refine below_drewN ?_ _ | with_reducible refine sub_step (by assumption) ?_ (by first | rfl | (simp; done)) | exact Below.refl _ _ | assumption | refine sub_alloc ?_ _ | refine sub_setCell ?_ (by simp <;> omega) _ | refine sub_drew ?_ | refine below_drewN ?_ _ | refine sub_step (by assumption) ?_ (by first | rfl | (simp; done))))⟩
  have hv : slamN s = (0, 3) := by simp [slamN, h0, h1, h2]
  rw [hv]
  clear hv
  have q0 := lit_ne h0
  clear h0
  have q1 := lit_ne h1
  clear h1
  have q2 := lit_ne h2
  clear h2
  go_enter Try.func32, Try.ntmps32
  go_wp2
  refine wp_loop_rounds 4 ?_; rw [rounds_succ]
  go_wp2
  (try (rw [rounds_succ]; go_wp2))
  (try (rw [rounds_succ]; go_wp2))
  (try (rw [rounds_succ]; go_wp2))
  go_ret2
  exact ⟨rfl, (by repeat (first | with_reducible exact Below.refl _ _ | with_reducible assumption | with_reducible refine sub_alloc ?_ _ | (with_reducible refine sub_setCell2 ?_ ?_ _; (focus (first | (simp; done) | (simp <;> omega)))) | with_reducible refine sub_drew ?_ | with_reducible refine below_drewN ?_ _ | with_reducible refine sub_step (by assumption) ?_ (by first | rfl | (simp; done)) | exact Below.refl _ _ | assumption | refine sub_alloc ?_ _ | refine sub_setCell ?_ (by simp <;> omega) _ | refine sub_drew ?_ | refine below_drewN ?_ _ | refine sub_step (by assumption) ?_ (by first | rfl | (simp; done))))⟩

set_option maxHeartbeats 1000000 in
theorem FnExactCaptureNamed_walk (a0 : ByteArray) (w : World) (hs0 : a0.size ≤ maxLen) :
    Calls Try.prog 7 #[.string a0] w fun e w' => e = .returned (.bool true) ∧ Below w.heap.size w w' := by
  have hs : a0.size ≤ 9223372036854775807 := by unfold maxLen at hs0; omega
  clear hs0
  by_cases hl : 1048576 < a0.size
  · go_enter Try.func7, Try.ntmps7
    go_wp2
    go_ret
    exact ⟨rfl, (by repeat (first | with_reducible exact Below.refl _ _ | with_reducible assumption | with_reducible refine sub_alloc ?_ _ | (with_reducible refine sub_setCell2 ?_ ?_ _; (focus (first | (simp; done) | (simp <;> omega)))) | with_reducible refine sub_drew ?_ | with_reducible refine below_drewN ?_ _ | with_reducible refine sub_step (by assumption) ?_ (by first | rfl | (simp; done)) | exact Below.refl _ _ | assumption | refine sub_alloc ?_ _ | refine sub_setCell ?_ (by simp <;> omega) _ | refine sub_drew ?_ | refine below_drewN ?_ _ | refine sub_step (by assumption) ?_ (by first | rfl | (simp; done))))⟩
  · go_enter Try.func7, Try.ntmps7
    go_wp2_with fail
    refine (specCaptureNamed_any _ _).mono ?_
    rintro e w1 ⟨rfl, hb1⟩
    go_wp2_with fail
    refine (CaptureNamed_any _ _).mono ?_
    rintro e w2 ⟨rfl, hb2⟩
    go_wp2_with fail
    go_ret
    exact ⟨rfl, (by repeat (first | with_reducible exact Below.refl _ _ | with_reducible assumption | with_reducible refine sub_alloc ?_ _ | (with_reducible refine sub_setCell2 ?_ ?_ _; (focus (first | (simp; done) | (simp <;> omega)))) | with_reducible refine sub_drew ?_ | with_reducible refine below_drewN ?_ _ | with_reducible refine sub_step (by assumption) ?_ (by first | rfl | (simp; done)) | exact Below.refl _ _ | assumption | refine sub_alloc ?_ _ | refine sub_setCell ?_ (by simp <;> omega) _ | refine sub_drew ?_ | refine below_drewN ?_ _ | refine sub_step (by assumption) ?_ (by first | rfl | (simp; done))))⟩

set_option maxHeartbeats 1000000 in
theorem FnExactSlamNamed_walk (a0 : ByteArray) (w : World) (hs0 : a0.size ≤ maxLen) :
    Calls Try.prog 8 #[.string a0] w fun e w' => e = .returned (.bool true) ∧ Below w.heap.size w w' := by
  have hs : a0.size ≤ 9223372036854775807 := by unfold maxLen at hs0; omega
  clear hs0
  by_cases hl : 1048576 < a0.size
  · go_enter Try.func8, Try.ntmps8
    go_wp2
    go_ret
    exact ⟨rfl, (by repeat (first | with_reducible exact Below.refl _ _ | with_reducible assumption | with_reducible refine sub_alloc ?_ _ | (with_reducible refine sub_setCell2 ?_ ?_ _; (focus (first | (simp; done) | (simp <;> omega)))) | with_reducible refine sub_drew ?_ | with_reducible refine below_drewN ?_ _ | with_reducible refine sub_step (by assumption) ?_ (by first | rfl | (simp; done)) | exact Below.refl _ _ | assumption | refine sub_alloc ?_ _ | refine sub_setCell ?_ (by simp <;> omega) _ | refine sub_drew ?_ | refine below_drewN ?_ _ | refine sub_step (by assumption) ?_ (by first | rfl | (simp; done))))⟩
  · go_enter Try.func8, Try.ntmps8
    go_wp2_with fail
    refine (specSlamNamed_any _ _).mono ?_
    rintro e w1 ⟨rfl, hb1⟩
    go_wp2_with fail
    refine (SlamNamed_any _ _).mono ?_
    rintro e w2 ⟨rfl, hb2⟩
    go_wp2_with fail
    go_ret
    exact ⟨rfl, (by repeat (first | with_reducible exact Below.refl _ _ | with_reducible assumption | with_reducible refine sub_alloc ?_ _ | (with_reducible refine sub_setCell2 ?_ ?_ _; (focus (first | (simp; done) | (simp <;> omega)))) | with_reducible refine sub_drew ?_ | with_reducible refine below_drewN ?_ _ | with_reducible refine sub_step (by assumption) ?_ (by first | rfl | (simp; done)) | exact Below.refl _ _ | assumption | refine sub_alloc ?_ _ | refine sub_setCell ?_ (by simp <;> omega) _ | refine sub_drew ?_ | refine below_drewN ?_ _ | refine sub_step (by assumption) ?_ (by first | rfl | (simp; done))))⟩
end Go.Proofs.Ytgeckphkifpbmaa
