/-
  The text of a problem: ProblemText; the law FnExactProblemText, walked.
-/
import Derived.Test.YtnanaldolnehiabDoorDec
import Derived.Lib.QuietBelow
set_option linter.unusedSimpArgs false
set_option linter.unusedVariables false
namespace Go.Proofs.YtnanaldolnehiabDoor
open Go.ChangeShapes Go.WideShapes Go.RowKit Go.Deep

theorem nDigits_le : ∀ (k u : Nat), u < 10 ^ (k + 1) → Lib.nDigits u ≤ k + 1
  | 0, u, h => by rw [Lib.nDigits_small (by simpa using h)]; omega
  | k + 1, u, h => by
    by_cases h1 : u < 10
    · rw [Lib.nDigits_small h1]; omega
    · rw [Lib.nDigits_big h1]
      rw [Nat.pow_succ] at h
      have := nDigits_le k (u / 10) (by omega)
      omega
theorem dec_size {n : Int} (h0 : -9223372036854775808 ≤ n) (h1 : n ≤ 9223372036854775807) : (dec n).size ≤ 21 := by
  show (Lib.itoa n).toArray.size ≤ 21
  have hd : ∀ u : Nat, u ≤ 9223372036854775808 → (Lib.decDigits u).length ≤ 20 := fun u hu => by
    rw [Lib.decDigits_length]
    exact nDigits_le 19 u (Nat.lt_of_le_of_lt hu (by decide))
  unfold Lib.itoa
  split
  · have := hd n.natAbs (by omega); simp; omega
  · have := hd n.toNat (by omega); simp; omega
theorem wp_named {P : Program} {Q : Exit → Act → World → Prop} {a : Act} {w : World} {c : Code} (K : World → Prop) (hK : K w) (h : ∀ W, K W → c.wp P Q a W) : c.wp P Q a w := h w hK
/-- The text of a problem. -/
def pbN : List ByteArray := [(⟨#[117, 110, 107, 110, 111, 119, 110, 32, 119, 111, 114, 100]⟩ : ByteArray), (⟨#[103, 105, 118, 101, 110, 32, 116, 119, 105, 99, 101]⟩ : ByteArray), (⟨#[110, 111, 116, 32, 97, 32, 110, 117, 109, 98, 101, 114]⟩ : ByteArray), (⟨#[110, 111, 116, 32, 97, 108, 108, 111, 119, 101, 100]⟩ : ByteArray), (⟨#[109, 105, 115, 115, 105, 110, 103]⟩ : ByteArray), (⟨#[110, 101, 101, 100, 115, 32, 115, 116, 111, 114, 101, 115]⟩ : ByteArray)]
def pbT (k t : Int) (s : ByteArray) : ByteArray := if inB k 1 6 = true then dec t ++ (⟨#[58, 32]⟩ : ByteArray) ++ s ++ (⟨#[58, 32]⟩ : ByteArray) ++ pbN.getD (k.toNat - 1) ⟨#[]⟩ else ⟨#[]⟩
set_option maxRecDepth 100000 in
set_option maxHeartbeats 2000000 in
theorem implProblemText_any (k t : Int) (s : ByteArray) (hs : s.size ≤ 1048576) (h : in64 t) (w : World) (ht : Tab w) : Calls Tryd.prog 32 #[.agg #[.int .i64 k, .int .i64 t, .string s]] w fun e w' => e = .returned (.string (pbT k t s)) ∧ Below w.heap.size w w' := by
  obtain ⟨h0, h1⟩ := h
  have HT := Lib.hid ht
  clear ht
  have hds := dec_size h0 h1
  cases e0 : inB k 1 6
  · go_enter Tryd.func32, Tryd.ntmps32
    go_wp2_with fail
    refine (between_any _ _ _ _).mono ?_
    rintro e w' ⟨rfl, rfl⟩
    rw [e0]
    go_wp2_with fail
    go_ret
    exact ⟨ret_s (by simp [pbT, e0]), (by repeat (first | with_reducible exact Below.refl _ _ | with_reducible assumption | with_reducible refine sub_alloc ?_ _ | (with_reducible refine sub_setCell2 ?_ ?_ _; (focus (first | (simp; done) | (simp <;> omega)))) | with_reducible refine sub_drew ?_ | with_reducible refine below_drewN ?_ _ | with_reducible refine sub_step (by assumption) ?_ (by first | rfl | (simp; done)) | exact Below.refl _ _ | assumption | refine sub_alloc ?_ _ | refine sub_setCell ?_ (by simp <;> omega) _ | refine sub_drew ?_ | refine below_drewN ?_ _ | refine sub_step (by assumption) ?_ (by first | rfl | (simp; done))))⟩
  have hk : 1 ≤ k ∧ k ≤ 6 := by simpa [inB] using e0
  rcases (by omega : k = 1 ∨ k = 2 ∨ k = 3 ∨ k = 4 ∨ k = 5 ∨ k = 6) with rfl | rfl | rfl | rfl | rfl | rfl
  · go_enter Tryd.func32, Tryd.ntmps32
    go_wp2_with fail
    refine (between_any _ _ _ _).mono ?_
    rintro e w' ⟨rfl, rfl⟩
    rw [e0]
    go_wp2_with fail
    refine wp_named (fun w' => Below w.heap.size w w' ∧ w'.cell? ⟨w.heap.size, 0, none⟩ = some (.int .i64 1) ∧ w'.cell? ⟨w.heap.size, 1, none⟩ = some (.int .i64 t) ∧ w'.cell? ⟨w.heap.size, 2, none⟩ = some (.string s) ∧ w'.cell? ⟨w.heap.size + 1, 0, none⟩ = some (.string (⟨#[117, 110, 107, 110, 111, 119, 110, 32, 119, 111, 114, 100]⟩ : ByteArray))) ⟨(by repeat (first | with_reducible exact Below.refl _ _ | with_reducible assumption | with_reducible refine sub_alloc ?_ _ | (with_reducible refine sub_setCell2 ?_ ?_ _; (focus (first | (simp; done) | (simp <;> omega)))) | with_reducible refine sub_drew ?_ | with_reducible refine below_drewN ?_ _ | with_reducible refine sub_step (by assumption) ?_ (by first | rfl | (simp; done)) | exact Below.refl _ _ | assumption | refine sub_alloc ?_ _ | refine sub_setCell ?_ (by simp <;> omega) _ | refine sub_drew ?_ | refine below_drewN ?_ _ | refine sub_step (by assumption) ?_ (by first | rfl | (simp; done)))), by simp [World.cell?_alloc_new, World.cell?_alloc_lt], by simp [World.cell?_alloc_new, World.cell?_alloc_lt], by simp [World.cell?_alloc_new, World.cell?_alloc_lt], by simp [World.cell?_alloc_new, World.cell?_alloc_lt]⟩ ?_
    rintro W ⟨bW, c0, c1, c2, c3⟩
    have k0 := cell_regrown c0
    have k1 := cell_regrown c1
    have k2 := cell_regrown c2
    have k3 := cell_regrown c3
    have TW := HT.out.below bW (Nat.le_refl _)
    have cD : ∀ d os, Calls Tryd.prog 28 #[.int .i64 t] (Sort.grow (redrawn W d) os) fun e w'' => e = .returned (.string (dec t)) ∧ ∃ p : Regrown, w'' = Sort.grow (redrawn W p.d) p.os := fun d os => Calls.regrown_of (implDecimal_any t h0 h1 _ (TW.below (below_regrown W d os) (Nat.le_refl _)))
    have hw0 : IntKind.i64.wrap 0 = 0 := by decide
    have n1 : ¬ 9223372036854775807 < (dec t).size + 2 := by omega
    have n2 : ¬ 9223372036854775807 < (dec t).size + 2 + s.size := by omega
    have n3 : ¬ 9223372036854775807 < (dec t).size + 2 + s.size + 2 := by omega
    have n4 : ¬ 9223372036854775807 < (dec t).size + 2 + s.size + 2 + 12 := by omega
    refine wp_region_quiet_below (by kernel_rfl) (by kernel_rfl) ?_
    repeat (quiet_step (exact cD _ _))
    refine wpQuiet_nil ?_
    intro _ hw'
    obtain ⟨⟨dq, osq⟩, hw''⟩ := hw'
    subst hw''
    go_wp2_with fail
    go_ret
    exact ⟨ret_s (by simp [pbT, e0, pbN]), bW.trans ((below_regrown W dq osq).mono bW.size)⟩
  · go_enter Tryd.func32, Tryd.ntmps32
    go_wp2_with fail
    refine (between_any _ _ _ _).mono ?_
    rintro e w' ⟨rfl, rfl⟩
    rw [e0]
    go_wp2_with fail
    refine wp_named (fun w' => Below w.heap.size w w' ∧ w'.cell? ⟨w.heap.size, 0, none⟩ = some (.int .i64 2) ∧ w'.cell? ⟨w.heap.size, 1, none⟩ = some (.int .i64 t) ∧ w'.cell? ⟨w.heap.size, 2, none⟩ = some (.string s) ∧ w'.cell? ⟨w.heap.size + 1, 1, none⟩ = some (.string (⟨#[103, 105, 118, 101, 110, 32, 116, 119, 105, 99, 101]⟩ : ByteArray))) ⟨(by repeat (first | with_reducible exact Below.refl _ _ | with_reducible assumption | with_reducible refine sub_alloc ?_ _ | (with_reducible refine sub_setCell2 ?_ ?_ _; (focus (first | (simp; done) | (simp <;> omega)))) | with_reducible refine sub_drew ?_ | with_reducible refine below_drewN ?_ _ | with_reducible refine sub_step (by assumption) ?_ (by first | rfl | (simp; done)) | exact Below.refl _ _ | assumption | refine sub_alloc ?_ _ | refine sub_setCell ?_ (by simp <;> omega) _ | refine sub_drew ?_ | refine below_drewN ?_ _ | refine sub_step (by assumption) ?_ (by first | rfl | (simp; done)))), by simp [World.cell?_alloc_new, World.cell?_alloc_lt], by simp [World.cell?_alloc_new, World.cell?_alloc_lt], by simp [World.cell?_alloc_new, World.cell?_alloc_lt], by simp [World.cell?_alloc_new, World.cell?_alloc_lt]⟩ ?_
    rintro W ⟨bW, c0, c1, c2, c3⟩
    have k0 := cell_regrown c0
    have k1 := cell_regrown c1
    have k2 := cell_regrown c2
    have k3 := cell_regrown c3
    have TW := HT.out.below bW (Nat.le_refl _)
    have cD : ∀ d os, Calls Tryd.prog 28 #[.int .i64 t] (Sort.grow (redrawn W d) os) fun e w'' => e = .returned (.string (dec t)) ∧ ∃ p : Regrown, w'' = Sort.grow (redrawn W p.d) p.os := fun d os => Calls.regrown_of (implDecimal_any t h0 h1 _ (TW.below (below_regrown W d os) (Nat.le_refl _)))
    have hw0 : IntKind.i64.wrap 1 = 1 := by decide
    have n1 : ¬ 9223372036854775807 < (dec t).size + 2 := by omega
    have n2 : ¬ 9223372036854775807 < (dec t).size + 2 + s.size := by omega
    have n3 : ¬ 9223372036854775807 < (dec t).size + 2 + s.size + 2 := by omega
    have n4 : ¬ 9223372036854775807 < (dec t).size + 2 + s.size + 2 + 11 := by omega
    refine wp_region_quiet_below (by kernel_rfl) (by kernel_rfl) ?_
    repeat (quiet_step (exact cD _ _))
    refine wpQuiet_nil ?_
    intro _ hw'
    obtain ⟨⟨dq, osq⟩, hw''⟩ := hw'
    subst hw''
    go_wp2_with fail
    go_ret
    exact ⟨ret_s (by simp [pbT, e0, pbN]), bW.trans ((below_regrown W dq osq).mono bW.size)⟩
  · go_enter Tryd.func32, Tryd.ntmps32
    go_wp2_with fail
    refine (between_any _ _ _ _).mono ?_
    rintro e w' ⟨rfl, rfl⟩
    rw [e0]
    go_wp2_with fail
    refine wp_named (fun w' => Below w.heap.size w w' ∧ w'.cell? ⟨w.heap.size, 0, none⟩ = some (.int .i64 3) ∧ w'.cell? ⟨w.heap.size, 1, none⟩ = some (.int .i64 t) ∧ w'.cell? ⟨w.heap.size, 2, none⟩ = some (.string s) ∧ w'.cell? ⟨w.heap.size + 1, 2, none⟩ = some (.string (⟨#[110, 111, 116, 32, 97, 32, 110, 117, 109, 98, 101, 114]⟩ : ByteArray))) ⟨(by repeat (first | with_reducible exact Below.refl _ _ | with_reducible assumption | with_reducible refine sub_alloc ?_ _ | (with_reducible refine sub_setCell2 ?_ ?_ _; (focus (first | (simp; done) | (simp <;> omega)))) | with_reducible refine sub_drew ?_ | with_reducible refine below_drewN ?_ _ | with_reducible refine sub_step (by assumption) ?_ (by first | rfl | (simp; done)) | exact Below.refl _ _ | assumption | refine sub_alloc ?_ _ | refine sub_setCell ?_ (by simp <;> omega) _ | refine sub_drew ?_ | refine below_drewN ?_ _ | refine sub_step (by assumption) ?_ (by first | rfl | (simp; done)))), by simp [World.cell?_alloc_new, World.cell?_alloc_lt], by simp [World.cell?_alloc_new, World.cell?_alloc_lt], by simp [World.cell?_alloc_new, World.cell?_alloc_lt], by simp [World.cell?_alloc_new, World.cell?_alloc_lt]⟩ ?_
    rintro W ⟨bW, c0, c1, c2, c3⟩
    have k0 := cell_regrown c0
    have k1 := cell_regrown c1
    have k2 := cell_regrown c2
    have k3 := cell_regrown c3
    have TW := HT.out.below bW (Nat.le_refl _)
    have cD : ∀ d os, Calls Tryd.prog 28 #[.int .i64 t] (Sort.grow (redrawn W d) os) fun e w'' => e = .returned (.string (dec t)) ∧ ∃ p : Regrown, w'' = Sort.grow (redrawn W p.d) p.os := fun d os => Calls.regrown_of (implDecimal_any t h0 h1 _ (TW.below (below_regrown W d os) (Nat.le_refl _)))
    have hw0 : IntKind.i64.wrap 2 = 2 := by decide
    have n1 : ¬ 9223372036854775807 < (dec t).size + 2 := by omega
    have n2 : ¬ 9223372036854775807 < (dec t).size + 2 + s.size := by omega
    have n3 : ¬ 9223372036854775807 < (dec t).size + 2 + s.size + 2 := by omega
    have n4 : ¬ 9223372036854775807 < (dec t).size + 2 + s.size + 2 + 12 := by omega
    refine wp_region_quiet_below (by kernel_rfl) (by kernel_rfl) ?_
    repeat (quiet_step (exact cD _ _))
    refine wpQuiet_nil ?_
    intro _ hw'
    obtain ⟨⟨dq, osq⟩, hw''⟩ := hw'
    subst hw''
    go_wp2_with fail
    go_ret
    exact ⟨ret_s (by simp [pbT, e0, pbN]), bW.trans ((below_regrown W dq osq).mono bW.size)⟩
  · go_enter Tryd.func32, Tryd.ntmps32
    go_wp2_with fail
    refine (between_any _ _ _ _).mono ?_
    rintro e w' ⟨rfl, rfl⟩
    rw [e0]
    go_wp2_with fail
    refine wp_named (fun w' => Below w.heap.size w w' ∧ w'.cell? ⟨w.heap.size, 0, none⟩ = some (.int .i64 4) ∧ w'.cell? ⟨w.heap.size, 1, none⟩ = some (.int .i64 t) ∧ w'.cell? ⟨w.heap.size, 2, none⟩ = some (.string s) ∧ w'.cell? ⟨w.heap.size + 1, 3, none⟩ = some (.string (⟨#[110, 111, 116, 32, 97, 108, 108, 111, 119, 101, 100]⟩ : ByteArray))) ⟨(by repeat (first | with_reducible exact Below.refl _ _ | with_reducible assumption | with_reducible refine sub_alloc ?_ _ | (with_reducible refine sub_setCell2 ?_ ?_ _; (focus (first | (simp; done) | (simp <;> omega)))) | with_reducible refine sub_drew ?_ | with_reducible refine below_drewN ?_ _ | with_reducible refine sub_step (by assumption) ?_ (by first | rfl | (simp; done)) | exact Below.refl _ _ | assumption | refine sub_alloc ?_ _ | refine sub_setCell ?_ (by simp <;> omega) _ | refine sub_drew ?_ | refine below_drewN ?_ _ | refine sub_step (by assumption) ?_ (by first | rfl | (simp; done)))), by simp [World.cell?_alloc_new, World.cell?_alloc_lt], by simp [World.cell?_alloc_new, World.cell?_alloc_lt], by simp [World.cell?_alloc_new, World.cell?_alloc_lt], by simp [World.cell?_alloc_new, World.cell?_alloc_lt]⟩ ?_
    rintro W ⟨bW, c0, c1, c2, c3⟩
    have k0 := cell_regrown c0
    have k1 := cell_regrown c1
    have k2 := cell_regrown c2
    have k3 := cell_regrown c3
    have TW := HT.out.below bW (Nat.le_refl _)
    have cD : ∀ d os, Calls Tryd.prog 28 #[.int .i64 t] (Sort.grow (redrawn W d) os) fun e w'' => e = .returned (.string (dec t)) ∧ ∃ p : Regrown, w'' = Sort.grow (redrawn W p.d) p.os := fun d os => Calls.regrown_of (implDecimal_any t h0 h1 _ (TW.below (below_regrown W d os) (Nat.le_refl _)))
    have hw0 : IntKind.i64.wrap 3 = 3 := by decide
    have n1 : ¬ 9223372036854775807 < (dec t).size + 2 := by omega
    have n2 : ¬ 9223372036854775807 < (dec t).size + 2 + s.size := by omega
    have n3 : ¬ 9223372036854775807 < (dec t).size + 2 + s.size + 2 := by omega
    have n4 : ¬ 9223372036854775807 < (dec t).size + 2 + s.size + 2 + 11 := by omega
    refine wp_region_quiet_below (by kernel_rfl) (by kernel_rfl) ?_
    repeat (quiet_step (exact cD _ _))
    refine wpQuiet_nil ?_
    intro _ hw'
    obtain ⟨⟨dq, osq⟩, hw''⟩ := hw'
    subst hw''
    go_wp2_with fail
    go_ret
    exact ⟨ret_s (by simp [pbT, e0, pbN]), bW.trans ((below_regrown W dq osq).mono bW.size)⟩
  · go_enter Tryd.func32, Tryd.ntmps32
    go_wp2_with fail
    refine (between_any _ _ _ _).mono ?_
    rintro e w' ⟨rfl, rfl⟩
    rw [e0]
    go_wp2_with fail
    refine wp_named (fun w' => Below w.heap.size w w' ∧ w'.cell? ⟨w.heap.size, 0, none⟩ = some (.int .i64 5) ∧ w'.cell? ⟨w.heap.size, 1, none⟩ = some (.int .i64 t) ∧ w'.cell? ⟨w.heap.size, 2, none⟩ = some (.string s) ∧ w'.cell? ⟨w.heap.size + 1, 4, none⟩ = some (.string (⟨#[109, 105, 115, 115, 105, 110, 103]⟩ : ByteArray))) ⟨(by repeat (first | with_reducible exact Below.refl _ _ | with_reducible assumption | with_reducible refine sub_alloc ?_ _ | (with_reducible refine sub_setCell2 ?_ ?_ _; (focus (first | (simp; done) | (simp <;> omega)))) | with_reducible refine sub_drew ?_ | with_reducible refine below_drewN ?_ _ | with_reducible refine sub_step (by assumption) ?_ (by first | rfl | (simp; done)) | exact Below.refl _ _ | assumption | refine sub_alloc ?_ _ | refine sub_setCell ?_ (by simp <;> omega) _ | refine sub_drew ?_ | refine below_drewN ?_ _ | refine sub_step (by assumption) ?_ (by first | rfl | (simp; done)))), by simp [World.cell?_alloc_new, World.cell?_alloc_lt], by simp [World.cell?_alloc_new, World.cell?_alloc_lt], by simp [World.cell?_alloc_new, World.cell?_alloc_lt], by simp [World.cell?_alloc_new, World.cell?_alloc_lt]⟩ ?_
    rintro W ⟨bW, c0, c1, c2, c3⟩
    have k0 := cell_regrown c0
    have k1 := cell_regrown c1
    have k2 := cell_regrown c2
    have k3 := cell_regrown c3
    have TW := HT.out.below bW (Nat.le_refl _)
    have cD : ∀ d os, Calls Tryd.prog 28 #[.int .i64 t] (Sort.grow (redrawn W d) os) fun e w'' => e = .returned (.string (dec t)) ∧ ∃ p : Regrown, w'' = Sort.grow (redrawn W p.d) p.os := fun d os => Calls.regrown_of (implDecimal_any t h0 h1 _ (TW.below (below_regrown W d os) (Nat.le_refl _)))
    have hw0 : IntKind.i64.wrap 4 = 4 := by decide
    have n1 : ¬ 9223372036854775807 < (dec t).size + 2 := by omega
    have n2 : ¬ 9223372036854775807 < (dec t).size + 2 + s.size := by omega
    have n3 : ¬ 9223372036854775807 < (dec t).size + 2 + s.size + 2 := by omega
    have n4 : ¬ 9223372036854775807 < (dec t).size + 2 + s.size + 2 + 7 := by omega
    refine wp_region_quiet_below (by kernel_rfl) (by kernel_rfl) ?_
    repeat (quiet_step (exact cD _ _))
    refine wpQuiet_nil ?_
    intro _ hw'
    obtain ⟨⟨dq, osq⟩, hw''⟩ := hw'
    subst hw''
    go_wp2_with fail
    go_ret
    exact ⟨ret_s (by simp [pbT, e0, pbN]), bW.trans ((below_regrown W dq osq).mono bW.size)⟩
  · go_enter Tryd.func32, Tryd.ntmps32
    go_wp2_with fail
    refine (between_any _ _ _ _).mono ?_
    rintro e w' ⟨rfl, rfl⟩
    rw [e0]
    go_wp2_with fail
    refine wp_named (fun w' => Below w.heap.size w w' ∧ w'.cell? ⟨w.heap.size, 0, none⟩ = some (.int .i64 6) ∧ w'.cell? ⟨w.heap.size, 1, none⟩ = some (.int .i64 t) ∧ w'.cell? ⟨w.heap.size, 2, none⟩ = some (.string s) ∧ w'.cell? ⟨w.heap.size + 1, 5, none⟩ = some (.string (⟨#[110, 101, 101, 100, 115, 32, 115, 116, 111, 114, 101, 115]⟩ : ByteArray))) ⟨(by repeat (first | with_reducible exact Below.refl _ _ | with_reducible assumption | with_reducible refine sub_alloc ?_ _ | (with_reducible refine sub_setCell2 ?_ ?_ _; (focus (first | (simp; done) | (simp <;> omega)))) | with_reducible refine sub_drew ?_ | with_reducible refine below_drewN ?_ _ | with_reducible refine sub_step (by assumption) ?_ (by first | rfl | (simp; done)) | exact Below.refl _ _ | assumption | refine sub_alloc ?_ _ | refine sub_setCell ?_ (by simp <;> omega) _ | refine sub_drew ?_ | refine below_drewN ?_ _ | refine sub_step (by assumption) ?_ (by first | rfl | (simp; done)))), by simp [World.cell?_alloc_new, World.cell?_alloc_lt], by simp [World.cell?_alloc_new, World.cell?_alloc_lt], by simp [World.cell?_alloc_new, World.cell?_alloc_lt], by simp [World.cell?_alloc_new, World.cell?_alloc_lt]⟩ ?_
    rintro W ⟨bW, c0, c1, c2, c3⟩
    have k0 := cell_regrown c0
    have k1 := cell_regrown c1
    have k2 := cell_regrown c2
    have k3 := cell_regrown c3
    have TW := HT.out.below bW (Nat.le_refl _)
    have cD : ∀ d os, Calls Tryd.prog 28 #[.int .i64 t] (Sort.grow (redrawn W d) os) fun e w'' => e = .returned (.string (dec t)) ∧ ∃ p : Regrown, w'' = Sort.grow (redrawn W p.d) p.os := fun d os => Calls.regrown_of (implDecimal_any t h0 h1 _ (TW.below (below_regrown W d os) (Nat.le_refl _)))
    have hw0 : IntKind.i64.wrap 5 = 5 := by decide
    have n1 : ¬ 9223372036854775807 < (dec t).size + 2 := by omega
    have n2 : ¬ 9223372036854775807 < (dec t).size + 2 + s.size := by omega
    have n3 : ¬ 9223372036854775807 < (dec t).size + 2 + s.size + 2 := by omega
    have n4 : ¬ 9223372036854775807 < (dec t).size + 2 + s.size + 2 + 12 := by omega
    refine wp_region_quiet_below (by kernel_rfl) (by kernel_rfl) ?_
    repeat (quiet_step (exact cD _ _))
    refine wpQuiet_nil ?_
    intro _ hw'
    obtain ⟨⟨dq, osq⟩, hw''⟩ := hw'
    subst hw''
    go_wp2_with fail
    go_ret
    exact ⟨ret_s (by simp [pbT, e0, pbN]), bW.trans ((below_regrown W dq osq).mono bW.size)⟩
set_option maxRecDepth 100000 in
set_option maxHeartbeats 2000000 in
theorem specProblemText_any (k t : Int) (s : ByteArray) (hs : s.size ≤ 1048576) (h : in64 t) (w : World) : Calls Tryd.prog 30 #[.agg #[.int .i64 k, .int .i64 t, .string s]] w fun e w' => e = .returned (.string (pbT k t s)) ∧ Below w.heap.size w w' := by
  obtain ⟨h0, h1⟩ := h
  have hds := dec_size h0 h1
  cases e0 : inB k 1 6
  · go_enter Tryd.func30, Tryd.ntmps30
    go_wp2_with fail
    refine (l00In_any _ _ _ _).mono ?_
    rintro e w' ⟨rfl, rfl⟩
    rw [e0]
    go_wp2_with fail
    go_ret
    exact ⟨ret_s (by simp [pbT, e0]), (by repeat (first | with_reducible exact Below.refl _ _ | with_reducible assumption | with_reducible refine sub_alloc ?_ _ | (with_reducible refine sub_setCell2 ?_ ?_ _; (focus (first | (simp; done) | (simp <;> omega)))) | with_reducible refine sub_drew ?_ | with_reducible refine below_drewN ?_ _ | with_reducible refine sub_step (by assumption) ?_ (by first | rfl | (simp; done)) | exact Below.refl _ _ | assumption | refine sub_alloc ?_ _ | refine sub_setCell ?_ (by simp <;> omega) _ | refine sub_drew ?_ | refine below_drewN ?_ _ | refine sub_step (by assumption) ?_ (by first | rfl | (simp; done))))⟩
  have hk : 1 ≤ k ∧ k ≤ 6 := by simpa [inB] using e0
  rcases (by omega : k = 1 ∨ k = 2 ∨ k = 3 ∨ k = 4 ∨ k = 5 ∨ k = 6) with rfl | rfl | rfl | rfl | rfl | rfl
  · go_enter Tryd.func30, Tryd.ntmps30
    go_wp2_with fail
    refine (l00In_any _ _ _ _).mono ?_
    rintro e w' ⟨rfl, rfl⟩
    rw [e0]
    go_wp2_with fail
    refine wp_named (fun w' => Below w.heap.size w w' ∧ w'.cell? ⟨w.heap.size, 0, none⟩ = some (.int .i64 1) ∧ w'.cell? ⟨w.heap.size, 1, none⟩ = some (.int .i64 t) ∧ w'.cell? ⟨w.heap.size, 2, none⟩ = some (.string s) ∧ w'.cell? ⟨w.heap.size + 1, 0, none⟩ = some (.string (⟨#[117, 110, 107, 110, 111, 119, 110, 32, 119, 111, 114, 100]⟩ : ByteArray))) ⟨(by repeat (first | with_reducible exact Below.refl _ _ | with_reducible assumption | with_reducible refine sub_alloc ?_ _ | (with_reducible refine sub_setCell2 ?_ ?_ _; (focus (first | (simp; done) | (simp <;> omega)))) | with_reducible refine sub_drew ?_ | with_reducible refine below_drewN ?_ _ | with_reducible refine sub_step (by assumption) ?_ (by first | rfl | (simp; done)) | exact Below.refl _ _ | assumption | refine sub_alloc ?_ _ | refine sub_setCell ?_ (by simp <;> omega) _ | refine sub_drew ?_ | refine below_drewN ?_ _ | refine sub_step (by assumption) ?_ (by first | rfl | (simp; done)))), by simp [World.cell?_alloc_new, World.cell?_alloc_lt], by simp [World.cell?_alloc_new, World.cell?_alloc_lt], by simp [World.cell?_alloc_new, World.cell?_alloc_lt], by simp [World.cell?_alloc_new, World.cell?_alloc_lt]⟩ ?_
    rintro W ⟨bW, c0, c1, c2, c3⟩
    have k0 := cell_regrown c0
    have k1 := cell_regrown c1
    have k2 := cell_regrown c2
    have k3 := cell_regrown c3
    have cD : ∀ d os, Calls Tryd.prog 58 #[.int .i64 t] (Sort.grow (redrawn W d) os) fun e w'' => e = .returned (.string (dec t)) ∧ ∃ p : Regrown, w'' = Sort.grow (redrawn W p.d) p.os := fun d os => Calls.regrown_of (l01Dec_any t h0 h1 _)
    have hw0 : IntKind.i64.wrap 0 = 0 := by decide
    have n1 : ¬ 9223372036854775807 < (dec t).size + 2 := by omega
    have n2 : ¬ 9223372036854775807 < (dec t).size + 2 + s.size := by omega
    have n3 : ¬ 9223372036854775807 < (dec t).size + 2 + s.size + 2 := by omega
    have n4 : ¬ 9223372036854775807 < (dec t).size + 2 + s.size + 2 + 12 := by omega
    refine wp_region_quiet_below (by kernel_rfl) (by kernel_rfl) ?_
    repeat (quiet_step (exact cD _ _))
    refine wpQuiet_nil ?_
    intro _ hw'
    obtain ⟨⟨dq, osq⟩, hw''⟩ := hw'
    subst hw''
    go_wp2_with fail
    go_ret
    exact ⟨ret_s (by simp [pbT, e0, pbN]), bW.trans ((below_regrown W dq osq).mono bW.size)⟩
  · go_enter Tryd.func30, Tryd.ntmps30
    go_wp2_with fail
    refine (l00In_any _ _ _ _).mono ?_
    rintro e w' ⟨rfl, rfl⟩
    rw [e0]
    go_wp2_with fail
    refine wp_named (fun w' => Below w.heap.size w w' ∧ w'.cell? ⟨w.heap.size, 0, none⟩ = some (.int .i64 2) ∧ w'.cell? ⟨w.heap.size, 1, none⟩ = some (.int .i64 t) ∧ w'.cell? ⟨w.heap.size, 2, none⟩ = some (.string s) ∧ w'.cell? ⟨w.heap.size + 1, 1, none⟩ = some (.string (⟨#[103, 105, 118, 101, 110, 32, 116, 119, 105, 99, 101]⟩ : ByteArray))) ⟨(by repeat (first | with_reducible exact Below.refl _ _ | with_reducible assumption | with_reducible refine sub_alloc ?_ _ | (with_reducible refine sub_setCell2 ?_ ?_ _; (focus (first | (simp; done) | (simp <;> omega)))) | with_reducible refine sub_drew ?_ | with_reducible refine below_drewN ?_ _ | with_reducible refine sub_step (by assumption) ?_ (by first | rfl | (simp; done)) | exact Below.refl _ _ | assumption | refine sub_alloc ?_ _ | refine sub_setCell ?_ (by simp <;> omega) _ | refine sub_drew ?_ | refine below_drewN ?_ _ | refine sub_step (by assumption) ?_ (by first | rfl | (simp; done)))), by simp [World.cell?_alloc_new, World.cell?_alloc_lt], by simp [World.cell?_alloc_new, World.cell?_alloc_lt], by simp [World.cell?_alloc_new, World.cell?_alloc_lt], by simp [World.cell?_alloc_new, World.cell?_alloc_lt]⟩ ?_
    rintro W ⟨bW, c0, c1, c2, c3⟩
    have k0 := cell_regrown c0
    have k1 := cell_regrown c1
    have k2 := cell_regrown c2
    have k3 := cell_regrown c3
    have cD : ∀ d os, Calls Tryd.prog 58 #[.int .i64 t] (Sort.grow (redrawn W d) os) fun e w'' => e = .returned (.string (dec t)) ∧ ∃ p : Regrown, w'' = Sort.grow (redrawn W p.d) p.os := fun d os => Calls.regrown_of (l01Dec_any t h0 h1 _)
    have hw0 : IntKind.i64.wrap 1 = 1 := by decide
    have n1 : ¬ 9223372036854775807 < (dec t).size + 2 := by omega
    have n2 : ¬ 9223372036854775807 < (dec t).size + 2 + s.size := by omega
    have n3 : ¬ 9223372036854775807 < (dec t).size + 2 + s.size + 2 := by omega
    have n4 : ¬ 9223372036854775807 < (dec t).size + 2 + s.size + 2 + 11 := by omega
    refine wp_region_quiet_below (by kernel_rfl) (by kernel_rfl) ?_
    repeat (quiet_step (exact cD _ _))
    refine wpQuiet_nil ?_
    intro _ hw'
    obtain ⟨⟨dq, osq⟩, hw''⟩ := hw'
    subst hw''
    go_wp2_with fail
    go_ret
    exact ⟨ret_s (by simp [pbT, e0, pbN]), bW.trans ((below_regrown W dq osq).mono bW.size)⟩
  · go_enter Tryd.func30, Tryd.ntmps30
    go_wp2_with fail
    refine (l00In_any _ _ _ _).mono ?_
    rintro e w' ⟨rfl, rfl⟩
    rw [e0]
    go_wp2_with fail
    refine wp_named (fun w' => Below w.heap.size w w' ∧ w'.cell? ⟨w.heap.size, 0, none⟩ = some (.int .i64 3) ∧ w'.cell? ⟨w.heap.size, 1, none⟩ = some (.int .i64 t) ∧ w'.cell? ⟨w.heap.size, 2, none⟩ = some (.string s) ∧ w'.cell? ⟨w.heap.size + 1, 2, none⟩ = some (.string (⟨#[110, 111, 116, 32, 97, 32, 110, 117, 109, 98, 101, 114]⟩ : ByteArray))) ⟨(by repeat (first | with_reducible exact Below.refl _ _ | with_reducible assumption | with_reducible refine sub_alloc ?_ _ | (with_reducible refine sub_setCell2 ?_ ?_ _; (focus (first | (simp; done) | (simp <;> omega)))) | with_reducible refine sub_drew ?_ | with_reducible refine below_drewN ?_ _ | with_reducible refine sub_step (by assumption) ?_ (by first | rfl | (simp; done)) | exact Below.refl _ _ | assumption | refine sub_alloc ?_ _ | refine sub_setCell ?_ (by simp <;> omega) _ | refine sub_drew ?_ | refine below_drewN ?_ _ | refine sub_step (by assumption) ?_ (by first | rfl | (simp; done)))), by simp [World.cell?_alloc_new, World.cell?_alloc_lt], by simp [World.cell?_alloc_new, World.cell?_alloc_lt], by simp [World.cell?_alloc_new, World.cell?_alloc_lt], by simp [World.cell?_alloc_new, World.cell?_alloc_lt]⟩ ?_
    rintro W ⟨bW, c0, c1, c2, c3⟩
    have k0 := cell_regrown c0
    have k1 := cell_regrown c1
    have k2 := cell_regrown c2
    have k3 := cell_regrown c3
    have cD : ∀ d os, Calls Tryd.prog 58 #[.int .i64 t] (Sort.grow (redrawn W d) os) fun e w'' => e = .returned (.string (dec t)) ∧ ∃ p : Regrown, w'' = Sort.grow (redrawn W p.d) p.os := fun d os => Calls.regrown_of (l01Dec_any t h0 h1 _)
    have hw0 : IntKind.i64.wrap 2 = 2 := by decide
    have n1 : ¬ 9223372036854775807 < (dec t).size + 2 := by omega
    have n2 : ¬ 9223372036854775807 < (dec t).size + 2 + s.size := by omega
    have n3 : ¬ 9223372036854775807 < (dec t).size + 2 + s.size + 2 := by omega
    have n4 : ¬ 9223372036854775807 < (dec t).size + 2 + s.size + 2 + 12 := by omega
    refine wp_region_quiet_below (by kernel_rfl) (by kernel_rfl) ?_
    repeat (quiet_step (exact cD _ _))
    refine wpQuiet_nil ?_
    intro _ hw'
    obtain ⟨⟨dq, osq⟩, hw''⟩ := hw'
    subst hw''
    go_wp2_with fail
    go_ret
    exact ⟨ret_s (by simp [pbT, e0, pbN]), bW.trans ((below_regrown W dq osq).mono bW.size)⟩
  · go_enter Tryd.func30, Tryd.ntmps30
    go_wp2_with fail
    refine (l00In_any _ _ _ _).mono ?_
    rintro e w' ⟨rfl, rfl⟩
    rw [e0]
    go_wp2_with fail
    refine wp_named (fun w' => Below w.heap.size w w' ∧ w'.cell? ⟨w.heap.size, 0, none⟩ = some (.int .i64 4) ∧ w'.cell? ⟨w.heap.size, 1, none⟩ = some (.int .i64 t) ∧ w'.cell? ⟨w.heap.size, 2, none⟩ = some (.string s) ∧ w'.cell? ⟨w.heap.size + 1, 3, none⟩ = some (.string (⟨#[110, 111, 116, 32, 97, 108, 108, 111, 119, 101, 100]⟩ : ByteArray))) ⟨(by repeat (first | with_reducible exact Below.refl _ _ | with_reducible assumption | with_reducible refine sub_alloc ?_ _ | (with_reducible refine sub_setCell2 ?_ ?_ _; (focus (first | (simp; done) | (simp <;> omega)))) | with_reducible refine sub_drew ?_ | with_reducible refine below_drewN ?_ _ | with_reducible refine sub_step (by assumption) ?_ (by first | rfl | (simp; done)) | exact Below.refl _ _ | assumption | refine sub_alloc ?_ _ | refine sub_setCell ?_ (by simp <;> omega) _ | refine sub_drew ?_ | refine below_drewN ?_ _ | refine sub_step (by assumption) ?_ (by first | rfl | (simp; done)))), by simp [World.cell?_alloc_new, World.cell?_alloc_lt], by simp [World.cell?_alloc_new, World.cell?_alloc_lt], by simp [World.cell?_alloc_new, World.cell?_alloc_lt], by simp [World.cell?_alloc_new, World.cell?_alloc_lt]⟩ ?_
    rintro W ⟨bW, c0, c1, c2, c3⟩
    have k0 := cell_regrown c0
    have k1 := cell_regrown c1
    have k2 := cell_regrown c2
    have k3 := cell_regrown c3
    have cD : ∀ d os, Calls Tryd.prog 58 #[.int .i64 t] (Sort.grow (redrawn W d) os) fun e w'' => e = .returned (.string (dec t)) ∧ ∃ p : Regrown, w'' = Sort.grow (redrawn W p.d) p.os := fun d os => Calls.regrown_of (l01Dec_any t h0 h1 _)
    have hw0 : IntKind.i64.wrap 3 = 3 := by decide
    have n1 : ¬ 9223372036854775807 < (dec t).size + 2 := by omega
    have n2 : ¬ 9223372036854775807 < (dec t).size + 2 + s.size := by omega
    have n3 : ¬ 9223372036854775807 < (dec t).size + 2 + s.size + 2 := by omega
    have n4 : ¬ 9223372036854775807 < (dec t).size + 2 + s.size + 2 + 11 := by omega
    refine wp_region_quiet_below (by kernel_rfl) (by kernel_rfl) ?_
    repeat (quiet_step (exact cD _ _))
    refine wpQuiet_nil ?_
    intro _ hw'
    obtain ⟨⟨dq, osq⟩, hw''⟩ := hw'
    subst hw''
    go_wp2_with fail
    go_ret
    exact ⟨ret_s (by simp [pbT, e0, pbN]), bW.trans ((below_regrown W dq osq).mono bW.size)⟩
  · go_enter Tryd.func30, Tryd.ntmps30
    go_wp2_with fail
    refine (l00In_any _ _ _ _).mono ?_
    rintro e w' ⟨rfl, rfl⟩
    rw [e0]
    go_wp2_with fail
    refine wp_named (fun w' => Below w.heap.size w w' ∧ w'.cell? ⟨w.heap.size, 0, none⟩ = some (.int .i64 5) ∧ w'.cell? ⟨w.heap.size, 1, none⟩ = some (.int .i64 t) ∧ w'.cell? ⟨w.heap.size, 2, none⟩ = some (.string s) ∧ w'.cell? ⟨w.heap.size + 1, 4, none⟩ = some (.string (⟨#[109, 105, 115, 115, 105, 110, 103]⟩ : ByteArray))) ⟨(by repeat (first | with_reducible exact Below.refl _ _ | with_reducible assumption | with_reducible refine sub_alloc ?_ _ | (with_reducible refine sub_setCell2 ?_ ?_ _; (focus (first | (simp; done) | (simp <;> omega)))) | with_reducible refine sub_drew ?_ | with_reducible refine below_drewN ?_ _ | with_reducible refine sub_step (by assumption) ?_ (by first | rfl | (simp; done)) | exact Below.refl _ _ | assumption | refine sub_alloc ?_ _ | refine sub_setCell ?_ (by simp <;> omega) _ | refine sub_drew ?_ | refine below_drewN ?_ _ | refine sub_step (by assumption) ?_ (by first | rfl | (simp; done)))), by simp [World.cell?_alloc_new, World.cell?_alloc_lt], by simp [World.cell?_alloc_new, World.cell?_alloc_lt], by simp [World.cell?_alloc_new, World.cell?_alloc_lt], by simp [World.cell?_alloc_new, World.cell?_alloc_lt]⟩ ?_
    rintro W ⟨bW, c0, c1, c2, c3⟩
    have k0 := cell_regrown c0
    have k1 := cell_regrown c1
    have k2 := cell_regrown c2
    have k3 := cell_regrown c3
    have cD : ∀ d os, Calls Tryd.prog 58 #[.int .i64 t] (Sort.grow (redrawn W d) os) fun e w'' => e = .returned (.string (dec t)) ∧ ∃ p : Regrown, w'' = Sort.grow (redrawn W p.d) p.os := fun d os => Calls.regrown_of (l01Dec_any t h0 h1 _)
    have hw0 : IntKind.i64.wrap 4 = 4 := by decide
    have n1 : ¬ 9223372036854775807 < (dec t).size + 2 := by omega
    have n2 : ¬ 9223372036854775807 < (dec t).size + 2 + s.size := by omega
    have n3 : ¬ 9223372036854775807 < (dec t).size + 2 + s.size + 2 := by omega
    have n4 : ¬ 9223372036854775807 < (dec t).size + 2 + s.size + 2 + 7 := by omega
    refine wp_region_quiet_below (by kernel_rfl) (by kernel_rfl) ?_
    repeat (quiet_step (exact cD _ _))
    refine wpQuiet_nil ?_
    intro _ hw'
    obtain ⟨⟨dq, osq⟩, hw''⟩ := hw'
    subst hw''
    go_wp2_with fail
    go_ret
    exact ⟨ret_s (by simp [pbT, e0, pbN]), bW.trans ((below_regrown W dq osq).mono bW.size)⟩
  · go_enter Tryd.func30, Tryd.ntmps30
    go_wp2_with fail
    refine (l00In_any _ _ _ _).mono ?_
    rintro e w' ⟨rfl, rfl⟩
    rw [e0]
    go_wp2_with fail
    refine wp_named (fun w' => Below w.heap.size w w' ∧ w'.cell? ⟨w.heap.size, 0, none⟩ = some (.int .i64 6) ∧ w'.cell? ⟨w.heap.size, 1, none⟩ = some (.int .i64 t) ∧ w'.cell? ⟨w.heap.size, 2, none⟩ = some (.string s) ∧ w'.cell? ⟨w.heap.size + 1, 5, none⟩ = some (.string (⟨#[110, 101, 101, 100, 115, 32, 115, 116, 111, 114, 101, 115]⟩ : ByteArray))) ⟨(by repeat (first | with_reducible exact Below.refl _ _ | with_reducible assumption | with_reducible refine sub_alloc ?_ _ | (with_reducible refine sub_setCell2 ?_ ?_ _; (focus (first | (simp; done) | (simp <;> omega)))) | with_reducible refine sub_drew ?_ | with_reducible refine below_drewN ?_ _ | with_reducible refine sub_step (by assumption) ?_ (by first | rfl | (simp; done)) | exact Below.refl _ _ | assumption | refine sub_alloc ?_ _ | refine sub_setCell ?_ (by simp <;> omega) _ | refine sub_drew ?_ | refine below_drewN ?_ _ | refine sub_step (by assumption) ?_ (by first | rfl | (simp; done)))), by simp [World.cell?_alloc_new, World.cell?_alloc_lt], by simp [World.cell?_alloc_new, World.cell?_alloc_lt], by simp [World.cell?_alloc_new, World.cell?_alloc_lt], by simp [World.cell?_alloc_new, World.cell?_alloc_lt]⟩ ?_
    rintro W ⟨bW, c0, c1, c2, c3⟩
    have k0 := cell_regrown c0
    have k1 := cell_regrown c1
    have k2 := cell_regrown c2
    have k3 := cell_regrown c3
    have cD : ∀ d os, Calls Tryd.prog 58 #[.int .i64 t] (Sort.grow (redrawn W d) os) fun e w'' => e = .returned (.string (dec t)) ∧ ∃ p : Regrown, w'' = Sort.grow (redrawn W p.d) p.os := fun d os => Calls.regrown_of (l01Dec_any t h0 h1 _)
    have hw0 : IntKind.i64.wrap 5 = 5 := by decide
    have n1 : ¬ 9223372036854775807 < (dec t).size + 2 := by omega
    have n2 : ¬ 9223372036854775807 < (dec t).size + 2 + s.size := by omega
    have n3 : ¬ 9223372036854775807 < (dec t).size + 2 + s.size + 2 := by omega
    have n4 : ¬ 9223372036854775807 < (dec t).size + 2 + s.size + 2 + 12 := by omega
    refine wp_region_quiet_below (by kernel_rfl) (by kernel_rfl) ?_
    repeat (quiet_step (exact cD _ _))
    refine wpQuiet_nil ?_
    intro _ hw'
    obtain ⟨⟨dq, osq⟩, hw''⟩ := hw'
    subst hw''
    go_wp2_with fail
    go_ret
    exact ⟨ret_s (by simp [pbT, e0, pbN]), bW.trans ((below_regrown W dq osq).mono bW.size)⟩
theorem szProblem_any (k t : Int) (s : ByteArray) (hs : s.size ≤ 9223372036854775807) (v : Int) (hv : (if (1048576 : Int) - (s.size : Int) < 0 then -1 else (1048576 : Int) - (s.size : Int)) = v) (w : World) : Calls Tryd.prog 29 #[.agg #[.int .i64 k, .int .i64 t, .string s], .int .i64 1048576] w fun e w' => e = .returned (.int .i64 v) ∧ Below w.heap.size w w' := by
  subst hv
  by_cases h : (1048576 : Int) - (s.size : Int) < 0
  · rw [if_pos h]
    go_enter Tryd.func29, Tryd.ntmps29
    go_wp2_with fail
    go_ret
    exact ⟨rfl, (by repeat (first | with_reducible exact Below.refl _ _ | with_reducible assumption | with_reducible refine sub_alloc ?_ _ | (with_reducible refine sub_setCell2 ?_ ?_ _; (focus (first | (simp; done) | (simp <;> omega)))) | with_reducible refine sub_drew ?_ | with_reducible refine below_drewN ?_ _ | with_reducible refine sub_step (by assumption) ?_ (by first | rfl | (simp; done)) | exact Below.refl _ _ | assumption | refine sub_alloc ?_ _ | refine sub_setCell ?_ (by simp <;> omega) _ | refine sub_drew ?_ | refine below_drewN ?_ _ | refine sub_step (by assumption) ?_ (by first | rfl | (simp; done))))⟩
  · rw [if_neg h]
    have h' : (0 : Int) ≤ 1048576 - (s.size : Int) := by omega
    clear h
    go_enter Tryd.func29, Tryd.ntmps29
    go_wp2_with fail
    go_ret
    exact ⟨rfl, (by repeat (first | with_reducible exact Below.refl _ _ | with_reducible assumption | with_reducible refine sub_alloc ?_ _ | (with_reducible refine sub_setCell2 ?_ ?_ _; (focus (first | (simp; done) | (simp <;> omega)))) | with_reducible refine sub_drew ?_ | with_reducible refine below_drewN ?_ _ | with_reducible refine sub_step (by assumption) ?_ (by first | rfl | (simp; done)) | exact Below.refl _ _ | assumption | refine sub_alloc ?_ _ | refine sub_setCell ?_ (by simp <;> omega) _ | refine sub_drew ?_ | refine below_drewN ?_ _ | refine sub_step (by assumption) ?_ (by first | rfl | (simp; done))))⟩
theorem toProblem_any (k t : Int) (s : ByteArray) (w : World) : Calls Tryd.prog 31 #[.agg #[.int .i64 k, .int .i64 t, .string s]] w fun e w' => e = .returned (.agg #[.int .i64 k, .int .i64 t, .string s]) ∧ Below w.heap.size w w' := by
  go_enter Tryd.func31, Tryd.ntmps31
  go_wp2
  refine bodyPost_ret (v := .agg #[.int .i64 k, .int .i64 t, .string s]) (by simp [results, Tryd.results31, go_sem]) rfl ⟨rfl, (by repeat (first | with_reducible exact Below.refl _ _ | with_reducible assumption | with_reducible refine sub_alloc ?_ _ | (with_reducible refine sub_setCell2 ?_ ?_ _; (focus (first | (simp; done) | (simp <;> omega)))) | with_reducible refine sub_drew ?_ | with_reducible refine below_drewN ?_ _ | with_reducible refine sub_step (by assumption) ?_ (by first | rfl | (simp; done)) | exact Below.refl _ _ | assumption | refine sub_alloc ?_ _ | refine sub_setCell ?_ (by simp <;> omega) _ | refine sub_drew ?_ | refine below_drewN ?_ _ | refine sub_step (by assumption) ?_ (by first | rfl | (simp; done))))⟩
set_option maxRecDepth 100000 in
set_option maxHeartbeats 2000000 in
theorem FnExactProblemText_walk (k t : Int) (s : ByteArray) (w : World) (h : in64 k ∧ in64 t ∧ s.size ≤ maxLen) (ht : Tab w) : Calls Tryd.prog 7 #[.agg #[.int .i64 k, .int .i64 t, .string s]] w fun e w' => e = .returned (.bool true) ∧ Below w.heap.size w w' := by
  obtain ⟨-, h1, h2⟩ := h
  unfold maxLen at h2
  have HT := Lib.hid ht
  clear ht
  have bx := Lib.hid (show Below w.heap.size w (w.alloc (.cells #[.int .i64 k, .int .i64 t, .string s] 47)) from (by repeat (first | with_reducible exact Below.refl _ _ | with_reducible assumption | with_reducible refine sub_alloc ?_ _ | (with_reducible refine sub_setCell2 ?_ ?_ _; (focus (first | (simp; done) | (simp <;> omega)))) | with_reducible refine sub_drew ?_ | with_reducible refine below_drewN ?_ _ | with_reducible refine sub_step (by assumption) ?_ (by first | rfl | (simp; done)) | exact Below.refl _ _ | assumption | refine sub_alloc ?_ _ | refine sub_setCell ?_ (by simp <;> omega) _ | refine sub_drew ?_ | refine below_drewN ?_ _ | refine sub_step (by assumption) ?_ (by first | rfl | (simp; done)))))
  by_cases hl : (1048576 : Int) - (s.size : Int) < 0
  · go_enter Tryd.func7, Tryd.ntmps7
    go_wp2_with fail
    refine (szProblem_any k t s h2 (-1) (if_pos hl) _).mono ?_
    rintro e w1 ⟨rfl, b1⟩
    go_wp2_with fail
    go_ret
    exact ⟨rfl, (by repeat (first | with_reducible exact Below.refl _ _ | with_reducible assumption | with_reducible refine sub_alloc ?_ _ | (with_reducible refine sub_setCell2 ?_ ?_ _; (focus (first | (simp; done) | (simp <;> omega)))) | with_reducible refine sub_drew ?_ | with_reducible refine below_drewN ?_ _ | with_reducible refine sub_step (by assumption) ?_ (by first | rfl | (simp; done)) | exact Below.refl _ _ | assumption | refine sub_alloc ?_ _ | refine sub_setCell ?_ (by simp <;> omega) _ | refine sub_drew ?_ | refine below_drewN ?_ _ | refine sub_step (by assumption) ?_ (by first | rfl | (simp; done))))⟩
  · have hs : s.size ≤ 1048576 := by omega
    have SZ := Lib.hid (show (if (1048576 : Int) - (s.size : Int) < 0 then -1 else (1048576 : Int) - (s.size : Int)) = (1048576 : Int) - (s.size : Int) from if_neg hl)
    have hp : (0 : Int) ≤ 1048576 - (s.size : Int) := by omega
    clear hl
    go_enter Tryd.func7, Tryd.ntmps7
    go_wp2_with fail
    refine (szProblem_any k t s h2 _ SZ.out _).mono ?_
    rintro e w1 ⟨rfl, b1⟩
    have c1 := Lib.hid (sub_step b1 bx.out rfl)
    have q1 := b1.cell (p := ⟨w.heap.size, 0, none⟩) (by simp)
    have q2 := b1.cell (p := ⟨w.heap.size, 1, none⟩) (by simp)
    have q3 := b1.cell (p := ⟨w.heap.size, 2, none⟩) (by simp)
    have z1 := b1.size
    simp [World.cell?_alloc_new] at q1 q2 q3 z1
    clear b1
    go_wp2_with fail
    refine (toProblem_any k t s _).mono ?_
    rintro e w2 ⟨rfl, b2⟩
    have c2 := Lib.hid (sub_step b2 c1.out rfl)
    have r1 := (b2.cell (p := ⟨w.heap.size, 0, none⟩) (by show w.heap.size < _; omega)).trans q1
    have r2 := (b2.cell (p := ⟨w.heap.size, 1, none⟩) (by show w.heap.size < _; omega)).trans q2
    have r3 := (b2.cell (p := ⟨w.heap.size, 2, none⟩) (by show w.heap.size < _; omega)).trans q3
    have z2 := b2.size
    clear b2 q1 q2 q3 c1
    go_wp2_with fail
    refine (specProblemText_any k t s hs h1 _).mono ?_
    rintro e w3 ⟨rfl, b3⟩
    have c3 := Lib.hid (sub_step b3 c2.out rfl)
    have q1 := (b3.cell (p := ⟨w.heap.size, 0, none⟩) (by show w.heap.size < _; omega)).trans r1
    have q2 := (b3.cell (p := ⟨w.heap.size, 1, none⟩) (by show w.heap.size < _; omega)).trans r2
    have q3 := (b3.cell (p := ⟨w.heap.size, 2, none⟩) (by show w.heap.size < _; omega)).trans r3
    clear b3 r1 r2 r3 c2
    go_wp2_with fail
    refine (toProblem_any k t s _).mono ?_
    rintro e w4 ⟨rfl, b4⟩
    have c4 := Lib.hid (sub_step b4 c3.out rfl)
    clear b4 q1 q2 q3 c3
    go_wp2_with fail
    refine (implProblemText_any k t s hs h1 _ (by exact HT.out.below c4.out (Nat.le_refl _))).mono ?_
    rintro e w5 ⟨rfl, b5⟩
    have c5 := Lib.hid (sub_step b5 c4.out rfl)
    clear b5 c4
    go_wp2_with fail
    go_ret
    exact ⟨rfl, c5.out⟩
end Go.Proofs.YtnanaldolnehiabDoor
