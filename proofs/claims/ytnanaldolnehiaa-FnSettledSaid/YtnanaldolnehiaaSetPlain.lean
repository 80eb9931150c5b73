/-
  FnSettled's plain law: settling keeps what makes a position valid, and is done with once.
-/
import Derived.Test.YtnanaldolnehiaaGiveTop
import Derived.Test.YtnanaldolnehiaaSettleTop
import Derived.Test.YtnanaldolnehiaaMajor
import Derived.Test.YtnanaldolnehiaaLead
import Derived.Test.YtnanaldolnehiaaEnds
set_option linter.unusedSimpArgs false
set_option linter.unusedVariables false
namespace Go.Proofs.Ytnanaldolnehiaa
open Go.ChangeShapes Go.WideShapes Go.RowKit Go.Deep

theorem rep_sum0 : ∀ n : Nat, (List.replicate n (0 : Int)).sum = 0
  | 0 => rfl
  | n + 1 => by rw [List.replicate_succ, List.sum_cons, rep_sum0 n]; rfl
theorem rep_okN (n : Nat) : okN (List.replicate n 0) = true := by
  unfold okN
  rw [List.all_eq_true]
  intro z hz
  rw [List.eq_of_mem_replicate hz]
  rfl
theorem rep_side (p : Int) (n : Nat) (q : Int) : sideV p (List.replicate n 0) q = 0 := by
  unfold sideV
  rw [List.drop_replicate, List.take_replicate]
  exact rep_sum0 _
theorem okP_two {r : Ru} {xs ys : List Int} {pl : Int} (h : okP r xs ys pl = true) : ∃ y0 y1, ys = [y0, y1] := by
  obtain ⟨-, -, h3, -⟩ := okP_parts h
  match ys, h3 with
  | [a, b], _ => exact ⟨a, b, rfl⟩
theorem okP_nums {r : Ru} {xs : List Int} {y0 y1 pl : Int} (h : okP r xs [y0, y1] pl = true) : 0 ≤ y0 ∧ 0 ≤ y1 ∧ xs.sum + (y0 + y1) ≤ 96 ∧ 0 ≤ xs.sum ∧ 0 ≤ sideV r.pits xs 0 ∧ 0 ≤ sideV r.pits xs 1 ∧ sideV r.pits xs 0 + sideV r.pits xs 1 = xs.sum := by
  obtain ⟨h1, h2, h3, h4, h5, h6, h7, h8, h9, -⟩ := okP_parts h
  have hp := (okR_pits h1).1
  have a := sides_sum h2 (by omega)
  have b0 := sideV_bd h5 r.pits 0
  have b1 := sideV_bd h5 r.pits 1
  simp [okN, inB] at h6
  simp at h7
  omega
theorem settle_ok {r : Ru} {xs : List Int} {y0 y1 pl : Int} (h : okP r xs [y0, y1] pl = true) : okP r (List.replicate xs.length 0) [y0 + sideV r.pits xs 0, y1 + sideV r.pits xs 1] pl = true := by
  obtain ⟨n1, n2, n3, n4, n5, n6, n7⟩ := okP_nums h
  obtain ⟨h1, h2, h3, h4, h5, h6, h7, h8, h9, -⟩ := okP_parts h
  unfold okP
  simp only [Bool.and_eq_true, decide_eq_true_eq]
  refine ⟨⟨⟨⟨⟨⟨h1, ?_⟩, rfl⟩, ?_⟩, rep_okN _⟩, ?_⟩, ?_⟩
  · simpa using h2
  · simpa [inB] using h4
  · simp [okN, inB]; omega
  · rw [rep_sum0]; simp; omega
theorem settle_again {r : Ru} {xs : List Int} {y0 y1 pl : Int} (p : Int) : seX true (List.replicate xs.length 0) = List.replicate xs.length 0 ∧ seY true p (List.replicate xs.length 0) [y0, y1] = [y0, y1] := by
  constructor
  · simp [seX]
  · simp [seY, rep_side]
theorem settle_major {n : Nat} {y0 y1 : Int} (h0 : 0 ≤ y0) (h1 : 0 ≤ y1) : (majP (List.replicate n 0) [y0, y1] = 0 ∧ 0 < leadP [y0, y1]) ∨ (majP (List.replicate n 0) [y0, y1] = 1 ∧ leadP [y0, y1] < 0) ∨ (majP (List.replicate n 0) [y0, y1] = -1 ∧ leadP [y0, y1] = 0) := by
  unfold majP leadP majV
  rw [rep_sum0]
  simp only [List.sum_cons, List.sum_nil, List.getD_cons_zero, List.getD_cons_succ]
  split
  · left; exact ⟨rfl, by omega⟩
  · split
    · right; left; exact ⟨rfl, by omega⟩
    · right; right; exact ⟨rfl, by omega⟩
theorem need_major {r : Ru} {xs : List Int} {y0 y1 pl q : Int} (h : okP r xs [y0, y1] pl = true) (hq : q = 0 ∨ q = 1) : ((needR r xs [y0, y1] pl q).1 = 0 ∧ majP xs [y0, y1] = q) ∨ (¬ (needR r xs [y0, y1] pl q).1 = 0 ∧ ¬ majP xs [y0, y1] = q) := by
  obtain ⟨n1, n2, n3, n4, -⟩ := okP_nums h
  unfold needR majP majV mx
  rw [if_pos h]
  simp only [List.sum_cons, List.sum_nil, List.getD_cons_zero, List.getD_cons_succ]
  rcases hq with rfl | rfl
  · simp only [show inB 0 0 1 = true from rfl, if_true, show (0 : Int).toNat = 0 from rfl, List.getD_cons_zero]
    repeat' split
    all_goals omega
  · simp only [show inB 1 0 1 = true from rfl, if_true, show (1 : Int).toNat = 1 from rfl, List.getD_cons_zero, List.getD_cons_succ]
    repeat' split
    all_goals omega
end Go.Proofs.Ytnanaldolnehiaa
