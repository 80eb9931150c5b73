/-
  Pits, players and moves of rules: the program's and the reference's functions, each returns what a plain function says.
-/
import Derived.Test.YtnanaldolnehiabDoorRules
namespace Go.Proofs.YtnanaldolnehiabDoor
open Go.ChangeShapes Go.WideShapes Go.RowKit Go.Deep

theorem okR_bd {p s : Int} {st sk re fe ag : Bool} {c sl : Int} (h : okR ⟨p, s, st, sk, re, fe, ag, c, sl⟩ = true) : 2 ≤ p ∧ p ≤ 8 ∧ 1 ≤ s ∧ s ≤ 6 ∧ 0 ≤ c ∧ c ≤ 3 ∧ 0 ≤ sl ∧ sl ≤ 2 := by
  simp [okR, inB] at h
  omega
theorem inB_t {n a b : Int} (h : inB n a b = true) : a ≤ n ∧ n ≤ b := by simpa [inB] using h

/-- What the program returns for a move of a player, and the code. -/
def pitOfMoveF (r : Ru) (pl mv : Int) : Int × Int := if okR r then (if inB pl 0 1 && inB mv 0 (r.pits - 1) then (pl * r.pits + mv, 0) else (0, 2)) else (0, 1)
/-- The code of rules and a pit. -/
def pitCodeF (r : Ru) (pit : Int) : Int := if okR r then (if inB pit 0 (2 * r.pits - 1) then 0 else 2) else 1
def moveOfPitF (r : Ru) (pit : Int) : Int × Int := if pitCodeF r pit = 0 then (pit % r.pits, 0) else (0, pitCodeF r pit)
def nextPitF (r : Ru) (pit : Int) : Int × Int := if pitCodeF r pit = 0 then ((pit + 1) % (2 * r.pits), 0) else (0, pitCodeF r pit)
def oppositePitF (r : Ru) (pit : Int) : Int × Int := if pitCodeF r pit = 0 then (2 * r.pits - 1 - pit, 0) else (0, pitCodeF r pit)
def ownerOfF (r : Ru) (pit : Int) : Int × Int := if pitCodeF r pit = 0 then (pit / r.pits, 0) else (0, pitCodeF r pit)
theorem pitCodeF_0 {r : Ru} {pit : Int} (h : pitCodeF r pit = 0) : okR r = true ∧ inB pit 0 (2 * r.pits - 1) = true := by
  unfold pitCodeF at h
  cases h1 : okR r <;> cases h2 : inB pit 0 (2 * r.pits - 1) <;> simp_all
theorem ret_pair {a b c d : Int} (h : (a, b) = (c, d)) : Ending.returned (.tuple #[.int .i64 a, .int .i64 b]) = .returned (.tuple #[.int .i64 c, .int .i64 d]) := by
  injection h with h1 h2; rw [h1, h2]
theorem ret_int {k : IntKind} {a b : Int} (h : a = b) : Ending.returned (.int k a) = .returned (.int k b) := by rw [h]

theorem isPlayer_any (n : Int) (w : World) : Calls Tryd.prog 79 #[.int .i64 n] w fun e w' => e = .returned (.bool (inB n 0 1)) ∧ w = w' := by
  by_cases h0 : n = 0
  · subst h0
    go_enter Tryd.func79, Tryd.ntmps79
    go_wp2
    go_ret
    exact ⟨ret_bool rfl, rfl⟩
  by_cases h1 : n = 1
  · subst h1
    go_enter Tryd.func79, Tryd.ntmps79
    go_wp2
    go_ret
    exact ⟨ret_bool rfl, rfl⟩
  have e0 : (n == 0) = false := by simpa using h0
  have e1 : (n == 1) = false := by simpa using h1
  clear h0 h1
  go_enter Tryd.func79, Tryd.ntmps79
  go_wp2
  go_ret
  exact ⟨ret_bool (by simp at e0 e1; simp [inB]; omega), rfl⟩
end Go.Proofs.YtnanaldolnehiabDoor
