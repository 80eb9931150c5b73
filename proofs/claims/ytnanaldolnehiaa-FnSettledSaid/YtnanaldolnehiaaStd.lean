/-
  The rules of the games that are given: standard, StandardRules; the law FnExactStandardRules, walked.
-/
import Derived.Test.YtnanaldolnehiaaNamed
import Derived.Test.YtnanaldolnehiaaRules
set_option linter.unusedSimpArgs false
set_option linter.unusedVariables false
namespace Go.Proofs.Ytnanaldolnehiaa
open Go.ChangeShapes Go.WideShapes Go.RowKit Go.Deep

theorem ne_lit {s : ByteArray} {l : List UInt8} (h : ¬ (s = ⟨l.toArray⟩)) : (s.toList == l) = false := by
  rw [ByteArray.toList_eq]
  rw [beq_eq_false_iff_ne]
  intro e
  exact h (ByteArray.ext (Array.toList_inj.mp (by simp [e])))
theorem frozen_new (w : World) (cs : Array Value) (t : TypeId) (i : Nat) : (w.alloc (.cells cs t)).frozen? ⟨w.heap.size, i, none⟩ = false := by
  rw [frozen?_alloc_cells]
  simp [World.frozen?]
/-- The rules of a name. -/
def stdR (s : ByteArray) : Ru := if s = (⟨#[107, 97, 108, 97, 104]⟩ : ByteArray) then ⟨6, 4, true, false, false, false, true, 2, 0⟩ else if s = (⟨#[109, 105, 110, 105]⟩ : ByteArray) then ⟨3, 2, false, false, false, true, false, 1, 0⟩ else if s = (⟨#[111, 119, 97, 114, 101]⟩ : ByteArray) then ⟨6, 4, false, true, false, true, false, 1, 2⟩ else if s = (⟨#[114, 101, 108, 97, 121]⟩ : ByteArray) then ⟨4, 2, false, false, true, false, false, 2, 0⟩ else ⟨0, 0, false, false, false, false, false, 0, 0⟩
/-- Their code. -/
def stdC (s : ByteArray) : Int := if s = (⟨#[107, 97, 108, 97, 104]⟩ : ByteArray) then 0 else if s = (⟨#[109, 105, 110, 105]⟩ : ByteArray) then 0 else if s = (⟨#[111, 119, 97, 114, 101]⟩ : ByteArray) then 0 else if s = (⟨#[114, 101, 108, 97, 121]⟩ : ByteArray) then 0 else 3

set_option maxRecDepth 100000 in
set_option maxHeartbeats 4000000 in
theorem specStandardRules_any (s : ByteArray) (w : World) : Calls Try.prog 162 #[.string s] w fun e w' => e = .returned (.tuple #[.agg (stdR s).cells.toArray, .int .i64 (stdC s)]) ∧ Below w.heap.size w w' := by
  by_cases h0 : s = (⟨#[107, 97, 108, 97, 104]⟩ : ByteArray)
  · subst h0
    have hv : stdR (⟨#[107, 97, 108, 97, 104]⟩ : ByteArray) = ⟨6, 4, true, false, false, false, true, 2, 0⟩ := by rfl
    have hc : stdC (⟨#[107, 97, 108, 97, 104]⟩ : ByteArray) = 0 := by rfl
    rw [hv]; rw [hc]
    go_enter Try.func162, Try.ntmps162
    go_wp2
    refine bodyPost_ret (v := .tuple #[.agg #[.int .i64 6, .int .i64 4, .bool true, .bool false, .bool false, .bool false, .bool true, .int .i64 2, .int .i64 0], .int .i64 0]) (by simp [results, Try.results162, go_sem]) rfl ⟨rfl, (by repeat (first | with_reducible exact Below.refl _ _ | with_reducible assumption | with_reducible refine sub_alloc ?_ _ | (with_reducible refine sub_setCell2 ?_ ?_ _; (focus (first | (simp; done) | (simp <;> omega)))) | with_reducible refine sub_drew ?_ | with_reducible refine below_drewN ?_ _ | with_reducible refine sub_step (by assumption) ?_ (by first | rfl | (simp; done)) | exact Below.refl _ _ | assumption | refine sub_alloc ?_ _ | refine sub_setCell ?_ (by simp <;> omega) _ | refine sub_drew ?_ | refine below_drewN ?_ _ | refine sub_step (by assumption) ?_ (by first | rfl | (simp; done))))⟩
  by_cases h1 : s = (⟨#[109, 105, 110, 105]⟩ : ByteArray)
  · subst h1
    have hv : stdR (⟨#[109, 105, 110, 105]⟩ : ByteArray) = ⟨3, 2, false, false, false, true, false, 1, 0⟩ := by rfl
    have hc : stdC (⟨#[109, 105, 110, 105]⟩ : ByteArray) = 0 := by rfl
    clear h0
    rw [hv]; rw [hc]
    go_enter Try.func162, Try.ntmps162
    go_wp2
    refine bodyPost_ret (v := .tuple #[.agg #[.int .i64 3, .int .i64 2, .bool false, .bool false, .bool false, .bool true, .bool false, .int .i64 1, .int .i64 0], .int .i64 0]) (by simp [results, Try.results162, go_sem]) rfl ⟨rfl, (by repeat (first | with_reducible exact Below.refl _ _ | with_reducible assumption | with_reducible refine sub_alloc ?_ _ | (with_reducible refine sub_setCell2 ?_ ?_ _; (focus (first | (simp; done) | (simp <;> omega)))) | with_reducible refine sub_drew ?_ | with_reducible refine below_drewN ?_ _ | with_reducible refine sub_step (by assumption) ?_ (by first | rfl | (simp; done)) | exact Below.refl _ _ | assumption | refine sub_alloc ?_ _ | refine sub_setCell ?_ (by simp <;> omega) _ | refine sub_drew ?_ | refine below_drewN ?_ _ | refine sub_step (by assumption) ?_ (by first | rfl | (simp; done))))⟩
  by_cases h2 : s = (⟨#[111, 119, 97, 114, 101]⟩ : ByteArray)
  · subst h2
    have hv : stdR (⟨#[111, 119, 97, 114, 101]⟩ : ByteArray) = ⟨6, 4, false, true, false, true, false, 1, 2⟩ := by rfl
    have hc : stdC (⟨#[111, 119, 97, 114, 101]⟩ : ByteArray) = 0 := by rfl
    clear h0 h1
    rw [hv]; rw [hc]
    go_enter Try.func162, Try.ntmps162
    go_wp2
    refine bodyPost_ret (v := .tuple #[.agg #[.int .i64 6, .int .i64 4, .bool false, .bool true, .bool false, .bool true, .bool false, .int .i64 1, .int .i64 2], .int .i64 0]) (by simp [results, Try.results162, go_sem]) rfl ⟨rfl, (by repeat (first | with_reducible exact Below.refl _ _ | with_reducible assumption | with_reducible refine sub_alloc ?_ _ | (with_reducible refine sub_setCell2 ?_ ?_ _; (focus (first | (simp; done) | (simp <;> omega)))) | with_reducible refine sub_drew ?_ | with_reducible refine below_drewN ?_ _ | with_reducible refine sub_step (by assumption) ?_ (by first | rfl | (simp; done)) | exact Below.refl _ _ | assumption | refine sub_alloc ?_ _ | refine sub_setCell ?_ (by simp <;> omega) _ | refine sub_drew ?_ | refine below_drewN ?_ _ | refine sub_step (by assumption) ?_ (by first | rfl | (simp; done))))⟩
  by_cases h3 : s = (⟨#[114, 101, 108, 97, 121]⟩ : ByteArray)
  · subst h3
    have hv : stdR (⟨#[114, 101, 108, 97, 121]⟩ : ByteArray) = ⟨4, 2, false, false, true, false, false, 2, 0⟩ := by rfl
    have hc : stdC (⟨#[114, 101, 108, 97, 121]⟩ : ByteArray) = 0 := by rfl
    clear h0 h1 h2
    rw [hv]; rw [hc]
    go_enter Try.func162, Try.ntmps162
    go_wp2
    refine bodyPost_ret (v := .tuple #[.agg #[.int .i64 4, .int .i64 2, .bool false, .bool false, .bool true, .bool false, .bool false, .int .i64 2, .int .i64 0], .int .i64 0]) (by simp [results, Try.results162, go_sem]) rfl ⟨rfl, (by repeat (first | with_reducible exact Below.refl _ _ | with_reducible assumption | with_reducible refine sub_alloc ?_ _ | (with_reducible refine sub_setCell2 ?_ ?_ _; (focus (first | (simp; done) | (simp <;> omega)))) | with_reducible refine sub_drew ?_ | with_reducible refine below_drewN ?_ _ | with_reducible refine sub_step (by assumption) ?_ (by first | rfl | (simp; done)) | exact Below.refl _ _ | assumption | refine sub_alloc ?_ _ | refine sub_setCell ?_ (by simp <;> omega) _ | refine sub_drew ?_ | refine below_drewN ?_ _ | refine sub_step (by assumption) ?_ (by first | rfl | (simp; done))))⟩
  have hv : stdR s = ⟨0, 0, false, false, false, false, false, 0, 0⟩ := by simp [stdR, h0, h1, h2, h3]
  have hc : stdC s = 3 := by simp [stdC, h0, h1, h2, h3]
  have q0 := lit_ne h0
  have g0 := ne_lit h0
  clear h0
  have q1 := lit_ne h1
  have g1 := ne_lit h1
  clear h1
  have q2 := lit_ne h2
  have g2 := ne_lit h2
  clear h2
  have q3 := lit_ne h3
  have g3 := ne_lit h3
  clear h3
  rw [hv]; rw [hc]
  go_enter Try.func162, Try.ntmps162
  go_wp2
  refine bodyPost_ret (v := .tuple #[.agg #[.int .i64 0, .int .i64 0, .bool false, .bool false, .bool false, .bool false, .bool false, .int .i64 0, .int .i64 0], .int .i64 3]) (by simp [results, Try.results162, go_sem]) rfl ⟨rfl, (by repeat (first | with_reducible exact Below.refl _ _ | with_reducible assumption | with_reducible refine sub_alloc ?_ _ | (with_reducible refine sub_setCell2 ?_ ?_ _; (focus (first | (simp; done) | (simp <;> omega)))) | with_reducible refine sub_drew ?_ | with_reducible refine below_drewN ?_ _ | with_reducible refine sub_step (by assumption) ?_ (by first | rfl | (simp; done)) | exact Below.refl _ _ | assumption | refine sub_alloc ?_ _ | refine sub_setCell ?_ (by simp <;> omega) _ | refine sub_drew ?_ | refine below_drewN ?_ _ | refine sub_step (by assumption) ?_ (by first | rfl | (simp; done))))⟩

set_option maxRecDepth 100000 in
set_option maxHeartbeats 4000000 in
theorem standard_any (s : ByteArray) (w : World) : Calls Try.prog 133 #[.string s] w fun e w' => e = .returned (.agg (stdR s).cells.toArray) ∧ Below w.heap.size w w' := by
  by_cases h0 : s = (⟨#[107, 97, 108, 97, 104]⟩ : ByteArray)
  · subst h0
    have hv : stdR (⟨#[107, 97, 108, 97, 104]⟩ : ByteArray) = ⟨6, 4, true, false, false, false, true, 2, 0⟩ := by rfl
    have hc : stdC (⟨#[107, 97, 108, 97, 104]⟩ : ByteArray) = 0 := by rfl
    rw [hv]
    go_enter Try.func133, Try.ntmps133
    go_wp2
    refine bodyPost_ret (v := .agg #[.int .i64 6, .int .i64 4, .bool true, .bool false, .bool false, .bool false, .bool true, .int .i64 2, .int .i64 0]) (by simp [results, Try.results133, go_sem]) rfl ⟨rfl, (by repeat (first | with_reducible exact Below.refl _ _ | with_reducible assumption | with_reducible refine sub_alloc ?_ _ | (with_reducible refine sub_setCell2 ?_ ?_ _; (focus (first | (simp; done) | (simp <;> omega)))) | with_reducible refine sub_drew ?_ | with_reducible refine below_drewN ?_ _ | with_reducible refine sub_step (by assumption) ?_ (by first | rfl | (simp; done)) | exact Below.refl _ _ | assumption | refine sub_alloc ?_ _ | refine sub_setCell ?_ (by simp <;> omega) _ | refine sub_drew ?_ | refine below_drewN ?_ _ | refine sub_step (by assumption) ?_ (by first | rfl | (simp; done))))⟩
  by_cases h1 : s = (⟨#[109, 105, 110, 105]⟩ : ByteArray)
  · subst h1
    have hv : stdR (⟨#[109, 105, 110, 105]⟩ : ByteArray) = ⟨3, 2, false, false, false, true, false, 1, 0⟩ := by rfl
    have hc : stdC (⟨#[109, 105, 110, 105]⟩ : ByteArray) = 0 := by rfl
    clear h0
    rw [hv]
    go_enter Try.func133, Try.ntmps133
    go_wp2
    refine bodyPost_ret (v := .agg #[.int .i64 3, .int .i64 2, .bool false, .bool false, .bool false, .bool true, .bool false, .int .i64 1, .int .i64 0]) (by simp [results, Try.results133, go_sem]) rfl ⟨rfl, (by repeat (first | with_reducible exact Below.refl _ _ | with_reducible assumption | with_reducible refine sub_alloc ?_ _ | (with_reducible refine sub_setCell2 ?_ ?_ _; (focus (first | (simp; done) | (simp <;> omega)))) | with_reducible refine sub_drew ?_ | with_reducible refine below_drewN ?_ _ | with_reducible refine sub_step (by assumption) ?_ (by first | rfl | (simp; done)) | exact Below.refl _ _ | assumption | refine sub_alloc ?_ _ | refine sub_setCell ?_ (by simp <;> omega) _ | refine sub_drew ?_ | refine below_drewN ?_ _ | refine sub_step (by assumption) ?_ (by first | rfl | (simp; done))))⟩
  by_cases h2 : s = (⟨#[111, 119, 97, 114, 101]⟩ : ByteArray)
  · subst h2
    have hv : stdR (⟨#[111, 119, 97, 114, 101]⟩ : ByteArray) = ⟨6, 4, false, true, false, true, false, 1, 2⟩ := by rfl
    have hc : stdC (⟨#[111, 119, 97, 114, 101]⟩ : ByteArray) = 0 := by rfl
    clear h0 h1
    rw [hv]
    go_enter Try.func133, Try.ntmps133
    go_wp2
    refine bodyPost_ret (v := .agg #[.int .i64 6, .int .i64 4, .bool false, .bool true, .bool false, .bool true, .bool false, .int .i64 1, .int .i64 2]) (by simp [results, Try.results133, go_sem]) rfl ⟨rfl, (by repeat (first | with_reducible exact Below.refl _ _ | with_reducible assumption | with_reducible refine sub_alloc ?_ _ | (with_reducible refine sub_setCell2 ?_ ?_ _; (focus (first | (simp; done) | (simp <;> omega)))) | with_reducible refine sub_drew ?_ | with_reducible refine below_drewN ?_ _ | with_reducible refine sub_step (by assumption) ?_ (by first | rfl | (simp; done)) | exact Below.refl _ _ | assumption | refine sub_alloc ?_ _ | refine sub_setCell ?_ (by simp <;> omega) _ | refine sub_drew ?_ | refine below_drewN ?_ _ | refine sub_step (by assumption) ?_ (by first | rfl | (simp; done))))⟩
  by_cases h3 : s = (⟨#[114, 101, 108, 97, 121]⟩ : ByteArray)
  · subst h3
    have hv : stdR (⟨#[114, 101, 108, 97, 121]⟩ : ByteArray) = ⟨4, 2, false, false, true, false, false, 2, 0⟩ := by rfl
    have hc : stdC (⟨#[114, 101, 108, 97, 121]⟩ : ByteArray) = 0 := by rfl
    clear h0 h1 h2
    rw [hv]
    go_enter Try.func133, Try.ntmps133
    go_wp2
    refine bodyPost_ret (v := .agg #[.int .i64 4, .int .i64 2, .bool false, .bool false, .bool true, .bool false, .bool false, .int .i64 2, .int .i64 0]) (by simp [results, Try.results133, go_sem]) rfl ⟨rfl, (by repeat (first | with_reducible exact Below.refl _ _ | with_reducible assumption | with_reducible refine sub_alloc ?_ _ | (with_reducible refine sub_setCell2 ?_ ?_ _; (focus (first | (simp; done) | (simp <;> omega)))) | with_reducible refine sub_drew ?_ | with_reducible refine below_drewN ?_ _ | with_reducible refine sub_step (by assumption) ?_ (by first | rfl | (simp; done)) | exact Below.refl _ _ | assumption | refine sub_alloc ?_ _ | refine sub_setCell ?_ (by simp <;> omega) _ | refine sub_drew ?_ | refine below_drewN ?_ _ | refine sub_step (by assumption) ?_ (by first | rfl | (simp; done))))⟩
  have hv : stdR s = ⟨0, 0, false, false, false, false, false, 0, 0⟩ := by simp [stdR, h0, h1, h2, h3]
  have hc : stdC s = 3 := by simp [stdC, h0, h1, h2, h3]
  have q0 := lit_ne h0
  have g0 := ne_lit h0
  clear h0
  have q1 := lit_ne h1
  have g1 := ne_lit h1
  clear h1
  have q2 := lit_ne h2
  have g2 := ne_lit h2
  clear h2
  have q3 := lit_ne h3
  have g3 := ne_lit h3
  clear h3
  rw [hv]
  go_enter Try.func133, Try.ntmps133
  go_wp2
  refine bodyPost_ret (v := .agg #[.int .i64 0, .int .i64 0, .bool false, .bool false, .bool false, .bool false, .bool false, .int .i64 0, .int .i64 0]) (by simp [results, Try.results133, go_sem]) rfl ⟨rfl, (by repeat (first | with_reducible exact Below.refl _ _ | with_reducible assumption | with_reducible refine sub_alloc ?_ _ | (with_reducible refine sub_setCell2 ?_ ?_ _; (focus (first | (simp; done) | (simp <;> omega)))) | with_reducible refine sub_drew ?_ | with_reducible refine below_drewN ?_ _ | with_reducible refine sub_step (by assumption) ?_ (by first | rfl | (simp; done)) | exact Below.refl _ _ | assumption | refine sub_alloc ?_ _ | refine sub_setCell ?_ (by simp <;> omega) _ | refine sub_drew ?_ | refine below_drewN ?_ _ | refine sub_step (by assumption) ?_ (by first | rfl | (simp; done))))⟩

set_option maxRecDepth 100000 in
set_option maxHeartbeats 4000000 in
theorem StandardRules_any (s : ByteArray) (w : World) : Calls Try.prog 72 #[.string s] w fun e w' => e = .returned (.tuple #[.agg (stdR s).cells.toArray, .int .i64 (stdC s)]) ∧ Below w.heap.size w w' := by
  by_cases h0 : s = (⟨#[107, 97, 108, 97, 104]⟩ : ByteArray)
  · subst h0
    have hv : stdR (⟨#[107, 97, 108, 97, 104]⟩ : ByteArray) = ⟨6, 4, true, false, false, false, true, 2, 0⟩ := by rfl
    have hc : stdC (⟨#[107, 97, 108, 97, 104]⟩ : ByteArray) = 0 := by rfl
    go_enter Try.func72, Try.ntmps72
    go_wp2_with fail
    refine (standard_any _ _).mono ?_
    rintro e w1 ⟨rfl, hb1⟩
    rw [hv]
    dsimp only [Ru.cells, List.toArray]
    have Z := (RuAt.box w 31 0 0 false false false false false 0 0).below hb1 (by simp)
    obtain ⟨c0, c1, c2, c3, c4, c5, c6, c7, c8⟩ := Z.flat
    have hz : w.heap.size < w1.heap.size := Z.lt
    have r0 := (hb1.frozen (p := ⟨w.heap.size, 0, none⟩) (by simp)).trans (frozen_new w _ _ 0)
    have r1 := (hb1.frozen (p := ⟨w.heap.size, 1, none⟩) (by simp)).trans (frozen_new w _ _ 1)
    have r2 := (hb1.frozen (p := ⟨w.heap.size, 2, none⟩) (by simp)).trans (frozen_new w _ _ 2)
    have r3 := (hb1.frozen (p := ⟨w.heap.size, 3, none⟩) (by simp)).trans (frozen_new w _ _ 3)
    have r4 := (hb1.frozen (p := ⟨w.heap.size, 4, none⟩) (by simp)).trans (frozen_new w _ _ 4)
    have r5 := (hb1.frozen (p := ⟨w.heap.size, 5, none⟩) (by simp)).trans (frozen_new w _ _ 5)
    have r6 := (hb1.frozen (p := ⟨w.heap.size, 6, none⟩) (by simp)).trans (frozen_new w _ _ 6)
    have r7 := (hb1.frozen (p := ⟨w.heap.size, 7, none⟩) (by simp)).trans (frozen_new w _ _ 7)
    have r8 := (hb1.frozen (p := ⟨w.heap.size, 8, none⟩) (by simp)).trans (frozen_new w _ _ 8)
    go_wp2_with fail
    refine bodyPost_ret (v := .tuple #[.agg #[.int .i64 6, .int .i64 4, .bool true, .bool false, .bool false, .bool false, .bool true, .int .i64 2, .int .i64 0], .int .i64 0]) (by simp [results, Try.results72, go_sem, c0, c1, c2, c3, c4, c5, c6, c7, c8, hz]) rfl ⟨(by rw [hv, hc]; rfl), (by repeat (first | with_reducible exact Below.refl _ _ | with_reducible assumption | with_reducible refine sub_alloc ?_ _ | (with_reducible refine sub_setCell2 ?_ ?_ _; (focus (first | (simp; done) | (simp <;> omega)))) | with_reducible refine sub_drew ?_ | with_reducible refine below_drewN ?_ _ | with_reducible refine sub_step (by assumption) ?_ (by first | rfl | (simp; done)) | exact Below.refl _ _ | assumption | refine sub_alloc ?_ _ | refine sub_setCell ?_ (by simp <;> omega) _ | refine sub_drew ?_ | refine below_drewN ?_ _ | refine sub_step (by assumption) ?_ (by first | rfl | (simp; done))))⟩
  by_cases h1 : s = (⟨#[109, 105, 110, 105]⟩ : ByteArray)
  · subst h1
    have hv : stdR (⟨#[109, 105, 110, 105]⟩ : ByteArray) = ⟨3, 2, false, false, false, true, false, 1, 0⟩ := by rfl
    have hc : stdC (⟨#[109, 105, 110, 105]⟩ : ByteArray) = 0 := by rfl
    clear h0
    go_enter Try.func72, Try.ntmps72
    go_wp2_with fail
    refine (standard_any _ _).mono ?_
    rintro e w1 ⟨rfl, hb1⟩
    rw [hv]
    dsimp only [Ru.cells, List.toArray]
    have Z := (RuAt.box w 31 0 0 false false false false false 0 0).below hb1 (by simp)
    obtain ⟨c0, c1, c2, c3, c4, c5, c6, c7, c8⟩ := Z.flat
    have hz : w.heap.size < w1.heap.size := Z.lt
    have r0 := (hb1.frozen (p := ⟨w.heap.size, 0, none⟩) (by simp)).trans (frozen_new w _ _ 0)
    have r1 := (hb1.frozen (p := ⟨w.heap.size, 1, none⟩) (by simp)).trans (frozen_new w _ _ 1)
    have r2 := (hb1.frozen (p := ⟨w.heap.size, 2, none⟩) (by simp)).trans (frozen_new w _ _ 2)
    have r3 := (hb1.frozen (p := ⟨w.heap.size, 3, none⟩) (by simp)).trans (frozen_new w _ _ 3)
    have r4 := (hb1.frozen (p := ⟨w.heap.size, 4, none⟩) (by simp)).trans (frozen_new w _ _ 4)
    have r5 := (hb1.frozen (p := ⟨w.heap.size, 5, none⟩) (by simp)).trans (frozen_new w _ _ 5)
    have r6 := (hb1.frozen (p := ⟨w.heap.size, 6, none⟩) (by simp)).trans (frozen_new w _ _ 6)
    have r7 := (hb1.frozen (p := ⟨w.heap.size, 7, none⟩) (by simp)).trans (frozen_new w _ _ 7)
    have r8 := (hb1.frozen (p := ⟨w.heap.size, 8, none⟩) (by simp)).trans (frozen_new w _ _ 8)
    go_wp2_with fail
    refine bodyPost_ret (v := .tuple #[.agg #[.int .i64 3, .int .i64 2, .bool false, .bool false, .bool false, .bool true, .bool false, .int .i64 1, .int .i64 0], .int .i64 0]) (by simp [results, Try.results72, go_sem, c0, c1, c2, c3, c4, c5, c6, c7, c8, hz]) rfl ⟨(by rw [hv, hc]; rfl), (by repeat (first | with_reducible exact Below.refl _ _ | with_reducible assumption | with_reducible refine sub_alloc ?_ _ | (with_reducible refine sub_setCell2 ?_ ?_ _; (focus (first | (simp; done) | (simp <;> omega)))) | with_reducible refine sub_drew ?_ | with_reducible refine below_drewN ?_ _ | with_reducible refine sub_step (by assumption) ?_ (by first | rfl | (simp; done)) | exact Below.refl _ _ | assumption | refine sub_alloc ?_ _ | refine sub_setCell ?_ (by simp <;> omega) _ | refine sub_drew ?_ | refine below_drewN ?_ _ | refine sub_step (by assumption) ?_ (by first | rfl | (simp; done))))⟩
  by_cases h2 : s = (⟨#[111, 119, 97, 114, 101]⟩ : ByteArray)
  · subst h2
    have hv : stdR (⟨#[111, 119, 97, 114, 101]⟩ : ByteArray) = ⟨6, 4, false, true, false, true, false, 1, 2⟩ := by rfl
    have hc : stdC (⟨#[111, 119, 97, 114, 101]⟩ : ByteArray) = 0 := by rfl
    clear h0 h1
    go_enter Try.func72, Try.ntmps72
    go_wp2_with fail
    refine (standard_any _ _).mono ?_
    rintro e w1 ⟨rfl, hb1⟩
    rw [hv]
    dsimp only [Ru.cells, List.toArray]
    have Z := (RuAt.box w 31 0 0 false false false false false 0 0).below hb1 (by simp)
    obtain ⟨c0, c1, c2, c3, c4, c5, c6, c7, c8⟩ := Z.flat
    have hz : w.heap.size < w1.heap.size := Z.lt
    have r0 := (hb1.frozen (p := ⟨w.heap.size, 0, none⟩) (by simp)).trans (frozen_new w _ _ 0)
    have r1 := (hb1.frozen (p := ⟨w.heap.size, 1, none⟩) (by simp)).trans (frozen_new w _ _ 1)
    have r2 := (hb1.frozen (p := ⟨w.heap.size, 2, none⟩) (by simp)).trans (frozen_new w _ _ 2)
    have r3 := (hb1.frozen (p := ⟨w.heap.size, 3, none⟩) (by simp)).trans (frozen_new w _ _ 3)
    have r4 := (hb1.frozen (p := ⟨w.heap.size, 4, none⟩) (by simp)).trans (frozen_new w _ _ 4)
    have r5 := (hb1.frozen (p := ⟨w.heap.size, 5, none⟩) (by simp)).trans (frozen_new w _ _ 5)
    have r6 := (hb1.frozen (p := ⟨w.heap.size, 6, none⟩) (by simp)).trans (frozen_new w _ _ 6)
    have r7 := (hb1.frozen (p := ⟨w.heap.size, 7, none⟩) (by simp)).trans (frozen_new w _ _ 7)
    have r8 := (hb1.frozen (p := ⟨w.heap.size, 8, none⟩) (by simp)).trans (frozen_new w _ _ 8)
    go_wp2_with fail
    refine bodyPost_ret (v := .tuple #[.agg #[.int .i64 6, .int .i64 4, .bool false, .bool true, .bool false, .bool true, .bool false, .int .i64 1, .int .i64 2], .int .i64 0]) (by simp [results, Try.results72, go_sem, c0, c1, c2, c3, c4, c5, c6, c7, c8, hz]) rfl ⟨(by rw [hv, hc]; rfl), (by repeat (first | with_reducible exact Below.refl _ _ | with_reducible assumption | with_reducible refine sub_alloc ?_ _ | (with_reducible refine sub_setCell2 ?_ ?_ _; (focus (first | (simp; done) | (simp <;> omega)))) | with_reducible refine sub_drew ?_ | with_reducible refine below_drewN ?_ _ | with_reducible refine sub_step (by assumption) ?_ (by first | rfl | (simp; done)) | exact Below.refl _ _ | assumption | refine sub_alloc ?_ _ | refine sub_setCell ?_ (by simp <;> omega) _ | refine sub_drew ?_ | refine below_drewN ?_ _ | refine sub_step (by assumption) ?_ (by first | rfl | (simp; done))))⟩
  by_cases h3 : s = (⟨#[114, 101, 108, 97, 121]⟩ : ByteArray)
  · subst h3
    have hv : stdR (⟨#[114, 101, 108, 97, 121]⟩ : ByteArray) = ⟨4, 2, false, false, true, false, false, 2, 0⟩ := by rfl
    have hc : stdC (⟨#[114, 101, 108, 97, 121]⟩ : ByteArray) = 0 := by rfl
    clear h0 h1 h2
    go_enter Try.func72, Try.ntmps72
    go_wp2_with fail
    refine (standard_any _ _).mono ?_
    rintro e w1 ⟨rfl, hb1⟩
    rw [hv]
    dsimp only [Ru.cells, List.toArray]
    have Z := (RuAt.box w 31 0 0 false false false false false 0 0).below hb1 (by simp)
    obtain ⟨c0, c1, c2, c3, c4, c5, c6, c7, c8⟩ := Z.flat
    have hz : w.heap.size < w1.heap.size := Z.lt
    have r0 := (hb1.frozen (p := ⟨w.heap.size, 0, none⟩) (by simp)).trans (frozen_new w _ _ 0)
    have r1 := (hb1.frozen (p := ⟨w.heap.size, 1, none⟩) (by simp)).trans (frozen_new w _ _ 1)
    have r2 := (hb1.frozen (p := ⟨w.heap.size, 2, none⟩) (by simp)).trans (frozen_new w _ _ 2)
    have r3 := (hb1.frozen (p := ⟨w.heap.size, 3, none⟩) (by simp)).trans (frozen_new w _ _ 3)
    have r4 := (hb1.frozen (p := ⟨w.heap.size, 4, none⟩) (by simp)).trans (frozen_new w _ _ 4)
    have r5 := (hb1.frozen (p := ⟨w.heap.size, 5, none⟩) (by simp)).trans (frozen_new w _ _ 5)
    have r6 := (hb1.frozen (p := ⟨w.heap.size, 6, none⟩) (by simp)).trans (frozen_new w _ _ 6)
    have r7 := (hb1.frozen (p := ⟨w.heap.size, 7, none⟩) (by simp)).trans (frozen_new w _ _ 7)
    have r8 := (hb1.frozen (p := ⟨w.heap.size, 8, none⟩) (by simp)).trans (frozen_new w _ _ 8)
    go_wp2_with fail
    refine bodyPost_ret (v := .tuple #[.agg #[.int .i64 4, .int .i64 2, .bool false, .bool false, .bool true, .bool false, .bool false, .int .i64 2, .int .i64 0], .int .i64 0]) (by simp [results, Try.results72, go_sem, c0, c1, c2, c3, c4, c5, c6, c7, c8, hz]) rfl ⟨(by rw [hv, hc]; rfl), (by repeat (first | with_reducible exact Below.refl _ _ | with_reducible assumption | with_reducible refine sub_alloc ?_ _ | (with_reducible refine sub_setCell2 ?_ ?_ _; (focus (first | (simp; done) | (simp <;> omega)))) | with_reducible refine sub_drew ?_ | with_reducible refine below_drewN ?_ _ | with_reducible refine sub_step (by assumption) ?_ (by first | rfl | (simp; done)) | exact Below.refl _ _ | assumption | refine sub_alloc ?_ _ | refine sub_setCell ?_ (by simp <;> omega) _ | refine sub_drew ?_ | refine below_drewN ?_ _ | refine sub_step (by assumption) ?_ (by first | rfl | (simp; done))))⟩
  have hv : stdR s = ⟨0, 0, false, false, false, false, false, 0, 0⟩ := by simp [stdR, h0, h1, h2, h3]
  have hc : stdC s = 3 := by simp [stdC, h0, h1, h2, h3]
  have q0 := lit_ne h0
  have g0 := ne_lit h0
  clear h0
  have q1 := lit_ne h1
  have g1 := ne_lit h1
  clear h1
  have q2 := lit_ne h2
  have g2 := ne_lit h2
  clear h2
  have q3 := lit_ne h3
  have g3 := ne_lit h3
  clear h3
  go_enter Try.func72, Try.ntmps72
  go_wp2_with fail
  refine (standard_any _ _).mono ?_
  rintro e w1 ⟨rfl, hb1⟩
  rw [hv]
  dsimp only [Ru.cells, List.toArray]
  have Z := (RuAt.box w 31 0 0 false false false false false 0 0).below hb1 (by simp)
  obtain ⟨c0, c1, c2, c3, c4, c5, c6, c7, c8⟩ := Z.flat
  have hz : w.heap.size < w1.heap.size := Z.lt
  have r0 := (hb1.frozen (p := ⟨w.heap.size, 0, none⟩) (by simp)).trans (frozen_new w _ _ 0)
  have r1 := (hb1.frozen (p := ⟨w.heap.size, 1, none⟩) (by simp)).trans (frozen_new w _ _ 1)
  have r2 := (hb1.frozen (p := ⟨w.heap.size, 2, none⟩) (by simp)).trans (frozen_new w _ _ 2)
  have r3 := (hb1.frozen (p := ⟨w.heap.size, 3, none⟩) (by simp)).trans (frozen_new w _ _ 3)
  have r4 := (hb1.frozen (p := ⟨w.heap.size, 4, none⟩) (by simp)).trans (frozen_new w _ _ 4)
  have r5 := (hb1.frozen (p := ⟨w.heap.size, 5, none⟩) (by simp)).trans (frozen_new w _ _ 5)
  have r6 := (hb1.frozen (p := ⟨w.heap.size, 6, none⟩) (by simp)).trans (frozen_new w _ _ 6)
  have r7 := (hb1.frozen (p := ⟨w.heap.size, 7, none⟩) (by simp)).trans (frozen_new w _ _ 7)
  have r8 := (hb1.frozen (p := ⟨w.heap.size, 8, none⟩) (by simp)).trans (frozen_new w _ _ 8)
  go_wp2_with fail
  refine bodyPost_ret (v := .tuple #[.agg #[.int .i64 0, .int .i64 0, .bool false, .bool false, .bool false, .bool false, .bool false, .int .i64 0, .int .i64 0], .int .i64 3]) (by simp [results, Try.results72, go_sem, c0, c1, c2, c3, c4, c5, c6, c7, c8, hz]) rfl ⟨(by rw [hv, hc]; rfl), (by repeat (first | with_reducible exact Below.refl _ _ | with_reducible assumption | with_reducible refine sub_alloc ?_ _ | (with_reducible refine sub_setCell2 ?_ ?_ _; (focus (first | (simp; done) | (simp <;> omega)))) | with_reducible refine sub_drew ?_ | with_reducible refine below_drewN ?_ _ | with_reducible refine sub_step (by assumption) ?_ (by first | rfl | (simp; done)) | exact Below.refl _ _ | assumption | refine sub_alloc ?_ _ | refine sub_setCell ?_ (by simp <;> omega) _ | refine sub_drew ?_ | refine below_drewN ?_ _ | refine sub_step (by assumption) ?_ (by first | rfl | (simp; done))))⟩

set_option maxHeartbeats 1000000 in
theorem eqRules_same (p s : Int) (st sk re fe ag : Bool) (c sl : Int) (w : World) : Calls Try.prog 113 #[.agg #[.int .i64 p, .int .i64 s, .bool st, .bool sk, .bool re, .bool fe, .bool ag, .int .i64 c, .int .i64 sl], .agg #[.int .i64 p, .int .i64 s, .bool st, .bool sk, .bool re, .bool fe, .bool ag, .int .i64 c, .int .i64 sl]] w fun e w' => e = .returned (.bool true) ∧ Below w.heap.size w w' := by
  go_enter Try.func113, Try.ntmps113
  go_wp2
  go_ret
  exact ⟨rfl, (by repeat (first | with_reducible exact Below.refl _ _ | with_reducible assumption | with_reducible refine sub_alloc ?_ _ | (with_reducible refine sub_setCell2 ?_ ?_ _; (focus (first | (simp; done) | (simp <;> omega)))) | with_reducible refine sub_drew ?_ | with_reducible refine below_drewN ?_ _ | with_reducible refine sub_step (by assumption) ?_ (by first | rfl | (simp; done)) | exact Below.refl _ _ | assumption | refine sub_alloc ?_ _ | refine sub_setCell ?_ (by simp <;> omega) _ | refine sub_drew ?_ | refine below_drewN ?_ _ | refine sub_step (by assumption) ?_ (by first | rfl | (simp; done))))⟩
end Go.Proofs.Ytnanaldolnehiaa
