/-
  Pits, players and moves of rules: the program's and the reference's functions, each returns what a plain function says.
-/
import Derived.Test.YtnanaldolnehiaaRules
namespace Go.Proofs.Ytnanaldolnehiaa
open Go.ChangeShapes Go.WideShapes Go.RowKit Go.Deep

theorem okR_bd {p s : Int} {st sk re fe ag : Bool} {c sl : Int} (h : okR ⟨p, s, st, sk, re, fe, ag, c, sl⟩ = true) : 2 ≤ p ∧ p ≤ 8 ∧ 1 ≤ s ∧ s ≤ 6 ∧ 0 ≤ c ∧ c ≤ 3 ∧ 0 ≤ sl ∧ sl ≤ 2 := by
  simp [okR, inB] at h
  omega
theorem inB_t {n a b : Int} (h : inB n a b = true) : a ≤ n ∧ n ≤ b := by simpa [inB] using h

/-- What the program returns for a move of a player, and the code. -/
def pitOfMoveF (r : Ru) (pl mv : Int) : Int × Int := if okR r then (if inB pl 0 1 && inB mv 0 (r.pits - 1) then (pl * r.pits + mv, 0) else (0, 2)) else (0, 1)
/-- The code of rules and a pit. -/
def pitCodeF (r : Ru) (pit : Int) : Int := if okR r then (if inB pit 0 (2 * r.pits - 1) then 0 else 2) else 1
def moveOfPitF (r : Ru) (pit : Int) : Int × Int := if pitCodeF r pit = 0 then (pit % r.pits, 0) else (0, pitCodeF r pit)
def nextPitF (r : Ru) (pit : Int) : Int × Int := if pitCodeF r pit = 0 then ((pit + 1) % (2 * r.pits), 0) else (0, pitCodeF r pit)
def oppositePitF (r : Ru) (pit : Int) : Int × Int := if pitCodeF r pit = 0 then (2 * r.pits - 1 - pit, 0) else (0, pitCodeF r pit)
def ownerOfF (r : Ru) (pit : Int) : Int × Int := if pitCodeF r pit = 0 then (pit / r.pits, 0) else (0, pitCodeF r pit)
theorem pitCodeF_0 {r : Ru} {pit : Int} (h : pitCodeF r pit = 0) : okR r = true ∧ inB pit 0 (2 * r.pits - 1) = true := by
  unfold pitCodeF at h
  cases h1 : okR r <;> cases h2 : inB pit 0 (2 * r.pits - 1) <;> simp_all
theorem ret_pair {a b c d : Int} (h : (a, b) = (c, d)) : Ending.returned (.tuple #[.int .i64 a, .int .i64 b]) = .returned (.tuple #[.int .i64 c, .int .i64 d]) := by
  injection h with h1 h2; rw [h1, h2]
theorem ret_int {k : IntKind} {a b : Int} (h : a = b) : Ending.returned (.int k a) = .returned (.int k b) := by rw [h]

theorem isPlayer_any (n : Int) (w : World) : Calls Try.prog 102 #[.int .i64 n] w fun e w' => e = .returned (.bool (inB n 0 1)) ∧ w = w' := by
  by_cases h0 : n = 0
  · subst h0
    go_enter Try.func102, Try.ntmps102
    go_wp2
    go_ret
    exact ⟨ret_bool rfl, rfl⟩
  by_cases h1 : n = 1
  · subst h1
    go_enter Try.func102, Try.ntmps102
    go_wp2
    go_ret
    exact ⟨ret_bool rfl, rfl⟩
  have e0 : (n == 0) = false := by simpa using h0
  have e1 : (n == 1) = false := by simpa using h1
  clear h0 h1
  go_enter Try.func102, Try.ntmps102
  go_wp2
  go_ret
  exact ⟨ret_bool (by simp at e0 e1; simp [inB]; omega), rfl⟩
theorem isMove_any (p s : Int) (st sk re fe ag : Bool) (c sl : Int) (m : Int) (w : World) (h0 : 2 ≤ p) (h1 : p ≤ 8) : Calls Try.prog 142 #[.agg #[.int .i64 p, .int .i64 s, .bool st, .bool sk, .bool re, .bool fe, .bool ag, .int .i64 c, .int .i64 sl], .int .i64 m] w fun e w' => e = .returned (.bool (inB m 0 (p - 1))) ∧ Below w.heap.size w w' := by
  go_enter Try.func142, Try.ntmps142
  go_wp2_with (go_at_call 117; refine (between_any _ _ _ _).mono ?_; rintro e w' ⟨rfl, rfl⟩)
  go_ret
  exact ⟨rfl, (by repeat (first | with_reducible exact Below.refl _ _ | with_reducible assumption | with_reducible refine sub_alloc ?_ _ | (with_reducible refine sub_setCell2 ?_ ?_ _; (focus (first | (simp; done) | (simp <;> omega)))) | with_reducible refine sub_drew ?_ | with_reducible refine below_drewN ?_ _ | with_reducible refine sub_step (by assumption) ?_ (by first | rfl | (simp; done)) | exact Below.refl _ _ | assumption | refine sub_alloc ?_ _ | refine sub_setCell ?_ (by simp <;> omega) _ | refine sub_drew ?_ | refine below_drewN ?_ _ | refine sub_step (by assumption) ?_ (by first | rfl | (simp; done))))⟩
theorem isPit_any (p s : Int) (st sk re fe ag : Bool) (c sl : Int) (m : Int) (w : World) (h0 : 2 ≤ p) (h1 : p ≤ 8) : Calls Try.prog 164 #[.agg #[.int .i64 p, .int .i64 s, .bool st, .bool sk, .bool re, .bool fe, .bool ag, .int .i64 c, .int .i64 sl], .int .i64 m] w fun e w' => e = .returned (.bool (inB m 0 (2 * p - 1))) ∧ Below w.heap.size w w' := by
  go_enter Try.func164, Try.ntmps164
  go_wp2_with (go_at_call 117; refine (between_any _ _ _ _).mono ?_; rintro e w' ⟨rfl, rfl⟩)
  go_ret
  exact ⟨rfl, (by repeat (first | with_reducible exact Below.refl _ _ | with_reducible assumption | with_reducible refine sub_alloc ?_ _ | (with_reducible refine sub_setCell2 ?_ ?_ _; (focus (first | (simp; done) | (simp <;> omega)))) | with_reducible refine sub_drew ?_ | with_reducible refine below_drewN ?_ _ | with_reducible refine sub_step (by assumption) ?_ (by first | rfl | (simp; done)) | exact Below.refl _ _ | assumption | refine sub_alloc ?_ _ | refine sub_setCell ?_ (by simp <;> omega) _ | refine sub_drew ?_ | refine below_drewN ?_ _ | refine sub_step (by assumption) ?_ (by first | rfl | (simp; done))))⟩
theorem pitOf_any (p s : Int) (st sk re fe ag : Bool) (c sl : Int) (pl m : Int) (w : World) (h0 : 2 ≤ p) (h1 : p ≤ 8) (h2 : 0 ≤ pl) (h3 : pl ≤ 1) (h4 : 0 ≤ m) (h5 : m ≤ 8) : Calls Try.prog 143 #[.agg #[.int .i64 p, .int .i64 s, .bool st, .bool sk, .bool re, .bool fe, .bool ag, .int .i64 c, .int .i64 sl], .int .i64 pl, .int .i64 m] w fun e w' => e = .returned (.int .i64 (pl * p + m)) ∧ Below w.heap.size w w' := by
  rcases (show pl = 0 ∨ pl = 1 by omega) with rfl | rfl
  all_goals
    clear h2 h3
    go_enter Try.func143, Try.ntmps143
    go_wp2
    go_ret
    exact ⟨ret_int (by omega), (by repeat (first | with_reducible exact Below.refl _ _ | with_reducible assumption | with_reducible refine sub_alloc ?_ _ | (with_reducible refine sub_setCell2 ?_ ?_ _; (focus (first | (simp; done) | (simp <;> omega)))) | with_reducible refine sub_drew ?_ | with_reducible refine below_drewN ?_ _ | with_reducible refine sub_step (by assumption) ?_ (by first | rfl | (simp; done)) | exact Below.refl _ _ | assumption | refine sub_alloc ?_ _ | refine sub_setCell ?_ (by simp <;> omega) _ | refine sub_drew ?_ | refine below_drewN ?_ _ | refine sub_step (by assumption) ?_ (by first | rfl | (simp; done))))⟩
theorem owner_any (p s : Int) (st sk re fe ag : Bool) (c sl : Int) (m : Int) (w : World) (h0 : 2 ≤ p) (h1 : p ≤ 8) (h4 : 0 ≤ m) (h5 : m ≤ 16) : Calls Try.prog 141 #[.agg #[.int .i64 p, .int .i64 s, .bool st, .bool sk, .bool re, .bool fe, .bool ag, .int .i64 c, .int .i64 sl], .int .i64 m] w fun e w' => e = .returned (.int .i64 (m / p)) ∧ Below w.heap.size w w' := by
  have hq : 0 ≤ m / p ∧ m / p ≤ m := ⟨Int.ediv_nonneg h4 (by omega), Int.ediv_le_self _ h4⟩
  obtain ⟨hq0, hq1⟩ := hq
  go_enter Try.func141, Try.ntmps141
  go_wp2
  go_ret
  exact ⟨rfl, (by repeat (first | with_reducible exact Below.refl _ _ | with_reducible assumption | with_reducible refine sub_alloc ?_ _ | (with_reducible refine sub_setCell2 ?_ ?_ _; (focus (first | (simp; done) | (simp <;> omega)))) | with_reducible refine sub_drew ?_ | with_reducible refine below_drewN ?_ _ | with_reducible refine sub_step (by assumption) ?_ (by first | rfl | (simp; done)) | exact Below.refl _ _ | assumption | refine sub_alloc ?_ _ | refine sub_setCell ?_ (by simp <;> omega) _ | refine sub_drew ?_ | refine below_drewN ?_ _ | refine sub_step (by assumption) ?_ (by first | rfl | (simp; done))))⟩
theorem opposite_any (p s : Int) (st sk re fe ag : Bool) (c sl : Int) (m : Int) (w : World) (h0 : 2 ≤ p) (h1 : p ≤ 8) (h4 : 0 ≤ m) (h5 : m ≤ 16) : Calls Try.prog 144 #[.agg #[.int .i64 p, .int .i64 s, .bool st, .bool sk, .bool re, .bool fe, .bool ag, .int .i64 c, .int .i64 sl], .int .i64 m] w fun e w' => e = .returned (.int .i64 (2 * p - 1 - m)) ∧ Below w.heap.size w w' := by
  go_enter Try.func144, Try.ntmps144
  go_wp2
  go_ret
  exact ⟨rfl, (by repeat (first | with_reducible exact Below.refl _ _ | with_reducible assumption | with_reducible refine sub_alloc ?_ _ | (with_reducible refine sub_setCell2 ?_ ?_ _; (focus (first | (simp; done) | (simp <;> omega)))) | with_reducible refine sub_drew ?_ | with_reducible refine below_drewN ?_ _ | with_reducible refine sub_step (by assumption) ?_ (by first | rfl | (simp; done)) | exact Below.refl _ _ | assumption | refine sub_alloc ?_ _ | refine sub_setCell ?_ (by simp <;> omega) _ | refine sub_drew ?_ | refine below_drewN ?_ _ | refine sub_step (by assumption) ?_ (by first | rfl | (simp; done))))⟩
set_option maxHeartbeats 1000000 in
theorem pitCode_any (p s : Int) (st sk re fe ag : Bool) (c sl : Int) (m : Int) (w : World) : Calls Try.prog 140 #[.agg #[.int .i64 p, .int .i64 s, .bool st, .bool sk, .bool re, .bool fe, .bool ag, .int .i64 c, .int .i64 sl], .int .i64 m] w fun e w' => e = .returned (.int .i64 (pitCodeF ⟨p, s, st, sk, re, fe, ag, c, sl⟩ m)) ∧ Below w.heap.size w w' := by
  cases hv : okR ⟨p, s, st, sk, re, fe, ag, c, sl⟩
  · go_enter Try.func140, Try.ntmps140
    go_wp2_with (first | (go_at_call 134; refine (ValidRules_any _ _ _ _ _ _ _ _ _ _).mono ?_; rintro e w1 ⟨rfl, hb1⟩))
    go_ret
    exact ⟨ret_int (by simp [pitCodeF, hv]), (by repeat (first | with_reducible exact Below.refl _ _ | with_reducible assumption | with_reducible refine sub_alloc ?_ _ | (with_reducible refine sub_setCell2 ?_ ?_ _; (focus (first | (simp; done) | (simp <;> omega)))) | with_reducible refine sub_drew ?_ | with_reducible refine below_drewN ?_ _ | with_reducible refine sub_step (by assumption) ?_ (by first | rfl | (simp; done)) | exact Below.refl _ _ | assumption | refine sub_alloc ?_ _ | refine sub_setCell ?_ (by simp <;> omega) _ | refine sub_drew ?_ | refine below_drewN ?_ _ | refine sub_step (by assumption) ?_ (by first | rfl | (simp; done))))⟩
  obtain ⟨b0, b1, -⟩ := okR_bd hv
  cases hp : inB m 0 (2 * p - 1)
  all_goals
    go_enter Try.func140, Try.ntmps140
    go_wp2_with (first | (go_at_call 134; refine (ValidRules_any _ _ _ _ _ _ _ _ _ _).mono ?_; rintro e w1 ⟨rfl, hb1⟩; obtain ⟨hc1, hf1⟩ := bcell hb1) | (go_at_call 164; refine (isPit_any _ _ _ _ _ _ _ _ _ _ _ b0 b1).mono ?_; rintro e w2 ⟨rfl, hb2⟩))
    go_ret
    exact ⟨ret_int (by simp [pitCodeF, hv, hp]), (by repeat (first | with_reducible exact Below.refl _ _ | with_reducible assumption | with_reducible refine sub_alloc ?_ _ | (with_reducible refine sub_setCell2 ?_ ?_ _; (focus (first | (simp; done) | (simp <;> omega)))) | with_reducible refine sub_drew ?_ | with_reducible refine below_drewN ?_ _ | with_reducible refine sub_step (by assumption) ?_ (by first | rfl | (simp; done)) | exact Below.refl _ _ | assumption | refine sub_alloc ?_ _ | refine sub_setCell ?_ (by simp <;> omega) _ | refine sub_drew ?_ | refine below_drewN ?_ _ | refine sub_step (by assumption) ?_ (by first | rfl | (simp; done))))⟩
set_option maxHeartbeats 1000000 in
theorem MoveOfPit_any (p s : Int) (st sk re fe ag : Bool) (c sl : Int) (m : Int) (w : World) : Calls Try.prog 82 #[.agg #[.int .i64 p, .int .i64 s, .bool st, .bool sk, .bool re, .bool fe, .bool ag, .int .i64 c, .int .i64 sl], .int .i64 m] w fun e w' => e = .returned (.tuple #[.int .i64 (moveOfPitF ⟨p, s, st, sk, re, fe, ag, c, sl⟩ m).1, .int .i64 (moveOfPitF ⟨p, s, st, sk, re, fe, ag, c, sl⟩ m).2]) ∧ Below w.heap.size w w' := by
  by_cases hk : pitCodeF ⟨p, s, st, sk, re, fe, ag, c, sl⟩ m = 0
  · obtain ⟨hv, hp⟩ := pitCodeF_0 hk
    obtain ⟨b0, b1, -⟩ := okR_bd hv
    obtain ⟨m0, m1⟩ := inB_t hp
    dsimp only at m1
    have e1 : moveOfPitF ⟨p, s, st, sk, re, fe, ag, c, sl⟩ m = (m % p, 0) := by unfold moveOfPitF; rw [if_pos hk]
    rw [e1]
    have hkb : (pitCodeF ⟨p, s, st, sk, re, fe, ag, c, sl⟩ m != 0) = false := by simp [hk]
    clear e1 hk hv hp
    go_enter Try.func82, Try.ntmps82
    go_wp2_with (first | (go_at_call 140; refine (pitCode_any _ _ _ _ _ _ _ _ _ _ _).mono ?_; rintro e w1 ⟨rfl, hb1⟩; obtain ⟨hc1, hf1⟩ := bcell hb1))
    go_ret2
    exact ⟨ret_pair rfl, (by repeat (first | with_reducible exact Below.refl _ _ | with_reducible assumption | with_reducible refine sub_alloc ?_ _ | (with_reducible refine sub_setCell2 ?_ ?_ _; (focus (first | (simp; done) | (simp <;> omega)))) | with_reducible refine sub_drew ?_ | with_reducible refine below_drewN ?_ _ | with_reducible refine sub_step (by assumption) ?_ (by first | rfl | (simp; done)) | exact Below.refl _ _ | assumption | refine sub_alloc ?_ _ | refine sub_setCell ?_ (by simp <;> omega) _ | refine sub_drew ?_ | refine below_drewN ?_ _ | refine sub_step (by assumption) ?_ (by first | rfl | (simp; done))))⟩
  · have e1 : moveOfPitF ⟨p, s, st, sk, re, fe, ag, c, sl⟩ m = (0, pitCodeF ⟨p, s, st, sk, re, fe, ag, c, sl⟩ m) := by unfold moveOfPitF; rw [if_neg hk]
    rw [e1]
    have hkb : (pitCodeF ⟨p, s, st, sk, re, fe, ag, c, sl⟩ m != 0) = true := by simp [hk]
    clear e1 hk
    go_enter Try.func82, Try.ntmps82
    go_wp2_with (first | (go_at_call 140; refine (pitCode_any _ _ _ _ _ _ _ _ _ _ _).mono ?_; rintro e w1 ⟨rfl, hb1⟩; obtain ⟨hc1, hf1⟩ := bcell hb1))
    go_ret2
    exact ⟨rfl, (by repeat (first | with_reducible exact Below.refl _ _ | with_reducible assumption | with_reducible refine sub_alloc ?_ _ | (with_reducible refine sub_setCell2 ?_ ?_ _; (focus (first | (simp; done) | (simp <;> omega)))) | with_reducible refine sub_drew ?_ | with_reducible refine below_drewN ?_ _ | with_reducible refine sub_step (by assumption) ?_ (by first | rfl | (simp; done)) | exact Below.refl _ _ | assumption | refine sub_alloc ?_ _ | refine sub_setCell ?_ (by simp <;> omega) _ | refine sub_drew ?_ | refine below_drewN ?_ _ | refine sub_step (by assumption) ?_ (by first | rfl | (simp; done))))⟩
set_option maxHeartbeats 1000000 in
theorem NextPit_any (p s : Int) (st sk re fe ag : Bool) (c sl : Int) (m : Int) (w : World) : Calls Try.prog 80 #[.agg #[.int .i64 p, .int .i64 s, .bool st, .bool sk, .bool re, .bool fe, .bool ag, .int .i64 c, .int .i64 sl], .int .i64 m] w fun e w' => e = .returned (.tuple #[.int .i64 (nextPitF ⟨p, s, st, sk, re, fe, ag, c, sl⟩ m).1, .int .i64 (nextPitF ⟨p, s, st, sk, re, fe, ag, c, sl⟩ m).2]) ∧ Below w.heap.size w w' := by
  by_cases hk : pitCodeF ⟨p, s, st, sk, re, fe, ag, c, sl⟩ m = 0
  · obtain ⟨hv, hp⟩ := pitCodeF_0 hk
    obtain ⟨b0, b1, -⟩ := okR_bd hv
    obtain ⟨m0, m1⟩ := inB_t hp
    dsimp only at m1
    have e1 : nextPitF ⟨p, s, st, sk, re, fe, ag, c, sl⟩ m = ((m + 1) % (2 * p), 0) := by unfold nextPitF; rw [if_pos hk]
    rw [e1]
    have hkb : (pitCodeF ⟨p, s, st, sk, re, fe, ag, c, sl⟩ m != 0) = false := by simp [hk]
    clear e1 hk hv hp
    go_enter Try.func80, Try.ntmps80
    go_wp2_with (first | (go_at_call 140; refine (pitCode_any _ _ _ _ _ _ _ _ _ _ _).mono ?_; rintro e w1 ⟨rfl, hb1⟩; obtain ⟨hc1, hf1⟩ := bcell hb1))
    go_ret2
    exact ⟨ret_pair rfl, (by repeat (first | with_reducible exact Below.refl _ _ | with_reducible assumption | with_reducible refine sub_alloc ?_ _ | (with_reducible refine sub_setCell2 ?_ ?_ _; (focus (first | (simp; done) | (simp <;> omega)))) | with_reducible refine sub_drew ?_ | with_reducible refine below_drewN ?_ _ | with_reducible refine sub_step (by assumption) ?_ (by first | rfl | (simp; done)) | exact Below.refl _ _ | assumption | refine sub_alloc ?_ _ | refine sub_setCell ?_ (by simp <;> omega) _ | refine sub_drew ?_ | refine below_drewN ?_ _ | refine sub_step (by assumption) ?_ (by first | rfl | (simp; done))))⟩
  · have e1 : nextPitF ⟨p, s, st, sk, re, fe, ag, c, sl⟩ m = (0, pitCodeF ⟨p, s, st, sk, re, fe, ag, c, sl⟩ m) := by unfold nextPitF; rw [if_neg hk]
    rw [e1]
    have hkb : (pitCodeF ⟨p, s, st, sk, re, fe, ag, c, sl⟩ m != 0) = true := by simp [hk]
    clear e1 hk
    go_enter Try.func80, Try.ntmps80
    go_wp2_with (first | (go_at_call 140; refine (pitCode_any _ _ _ _ _ _ _ _ _ _ _).mono ?_; rintro e w1 ⟨rfl, hb1⟩; obtain ⟨hc1, hf1⟩ := bcell hb1))
    go_ret2
    exact ⟨rfl, (by repeat (first | with_reducible exact Below.refl _ _ | with_reducible assumption | with_reducible refine sub_alloc ?_ _ | (with_reducible refine sub_setCell2 ?_ ?_ _; (focus (first | (simp; done) | (simp <;> omega)))) | with_reducible refine sub_drew ?_ | with_reducible refine below_drewN ?_ _ | with_reducible refine sub_step (by assumption) ?_ (by first | rfl | (simp; done)) | exact Below.refl _ _ | assumption | refine sub_alloc ?_ _ | refine sub_setCell ?_ (by simp <;> omega) _ | refine sub_drew ?_ | refine below_drewN ?_ _ | refine sub_step (by assumption) ?_ (by first | rfl | (simp; done))))⟩
set_option maxHeartbeats 1000000 in
theorem OppositePit_any (p s : Int) (st sk re fe ag : Bool) (c sl : Int) (m : Int) (w : World) : Calls Try.prog 84 #[.agg #[.int .i64 p, .int .i64 s, .bool st, .bool sk, .bool re, .bool fe, .bool ag, .int .i64 c, .int .i64 sl], .int .i64 m] w fun e w' => e = .returned (.tuple #[.int .i64 (oppositePitF ⟨p, s, st, sk, re, fe, ag, c, sl⟩ m).1, .int .i64 (oppositePitF ⟨p, s, st, sk, re, fe, ag, c, sl⟩ m).2]) ∧ Below w.heap.size w w' := by
  by_cases hk : pitCodeF ⟨p, s, st, sk, re, fe, ag, c, sl⟩ m = 0
  · obtain ⟨hv, hp⟩ := pitCodeF_0 hk
    obtain ⟨b0, b1, -⟩ := okR_bd hv
    obtain ⟨m0, m1⟩ := inB_t hp
    dsimp only at m1
    have e1 : oppositePitF ⟨p, s, st, sk, re, fe, ag, c, sl⟩ m = (2 * p - 1 - m, 0) := by unfold oppositePitF; rw [if_pos hk]
    rw [e1]
    have hkb : (pitCodeF ⟨p, s, st, sk, re, fe, ag, c, sl⟩ m != 0) = false := by simp [hk]
    clear e1 hk hv hp
    go_enter Try.func84, Try.ntmps84
    go_wp2_with (first | (go_at_call 140; refine (pitCode_any _ _ _ _ _ _ _ _ _ _ _).mono ?_; rintro e w1 ⟨rfl, hb1⟩; obtain ⟨hc1, hf1⟩ := bcell hb1) | (go_at_call 144; refine (opposite_any _ _ _ _ _ _ _ _ _ _ _ b0 b1 m0 (by omega)).mono ?_; rintro e w2 ⟨rfl, hb2⟩))
    go_ret2
    exact ⟨ret_pair rfl, (by repeat (first | with_reducible exact Below.refl _ _ | with_reducible assumption | with_reducible refine sub_alloc ?_ _ | (with_reducible refine sub_setCell2 ?_ ?_ _; (focus (first | (simp; done) | (simp <;> omega)))) | with_reducible refine sub_drew ?_ | with_reducible refine below_drewN ?_ _ | with_reducible refine sub_step (by assumption) ?_ (by first | rfl | (simp; done)) | exact Below.refl _ _ | assumption | refine sub_alloc ?_ _ | refine sub_setCell ?_ (by simp <;> omega) _ | refine sub_drew ?_ | refine below_drewN ?_ _ | refine sub_step (by assumption) ?_ (by first | rfl | (simp; done))))⟩
  · have e1 : oppositePitF ⟨p, s, st, sk, re, fe, ag, c, sl⟩ m = (0, pitCodeF ⟨p, s, st, sk, re, fe, ag, c, sl⟩ m) := by unfold oppositePitF; rw [if_neg hk]
    rw [e1]
    have hkb : (pitCodeF ⟨p, s, st, sk, re, fe, ag, c, sl⟩ m != 0) = true := by simp [hk]
    clear e1 hk
    go_enter Try.func84, Try.ntmps84
    go_wp2_with (first | (go_at_call 140; refine (pitCode_any _ _ _ _ _ _ _ _ _ _ _).mono ?_; rintro e w1 ⟨rfl, hb1⟩; obtain ⟨hc1, hf1⟩ := bcell hb1))
    go_ret2
    exact ⟨rfl, (by repeat (first | with_reducible exact Below.refl _ _ | with_reducible assumption | with_reducible refine sub_alloc ?_ _ | (with_reducible refine sub_setCell2 ?_ ?_ _; (focus (first | (simp; done) | (simp <;> omega)))) | with_reducible refine sub_drew ?_ | with_reducible refine below_drewN ?_ _ | with_reducible refine sub_step (by assumption) ?_ (by first | rfl | (simp; done)) | exact Below.refl _ _ | assumption | refine sub_alloc ?_ _ | refine sub_setCell ?_ (by simp <;> omega) _ | refine sub_drew ?_ | refine below_drewN ?_ _ | refine sub_step (by assumption) ?_ (by first | rfl | (simp; done))))⟩
set_option maxHeartbeats 1000000 in
theorem OwnerOf_any (p s : Int) (st sk re fe ag : Bool) (c sl : Int) (m : Int) (w : World) : Calls Try.prog 81 #[.agg #[.int .i64 p, .int .i64 s, .bool st, .bool sk, .bool re, .bool fe, .bool ag, .int .i64 c, .int .i64 sl], .int .i64 m] w fun e w' => e = .returned (.tuple #[.int .i64 (ownerOfF ⟨p, s, st, sk, re, fe, ag, c, sl⟩ m).1, .int .i64 (ownerOfF ⟨p, s, st, sk, re, fe, ag, c, sl⟩ m).2]) ∧ Below w.heap.size w w' := by
  by_cases hk : pitCodeF ⟨p, s, st, sk, re, fe, ag, c, sl⟩ m = 0
  · obtain ⟨hv, hp⟩ := pitCodeF_0 hk
    obtain ⟨b0, b1, -⟩ := okR_bd hv
    obtain ⟨m0, m1⟩ := inB_t hp
    dsimp only at m1
    have e1 : ownerOfF ⟨p, s, st, sk, re, fe, ag, c, sl⟩ m = (m / p, 0) := by unfold ownerOfF; rw [if_pos hk]
    rw [e1]
    have hkb : (pitCodeF ⟨p, s, st, sk, re, fe, ag, c, sl⟩ m != 0) = false := by simp [hk]
    clear e1 hk hv hp
    go_enter Try.func81, Try.ntmps81
    go_wp2_with (first | (go_at_call 140; refine (pitCode_any _ _ _ _ _ _ _ _ _ _ _).mono ?_; rintro e w1 ⟨rfl, hb1⟩; obtain ⟨hc1, hf1⟩ := bcell hb1) | (go_at_call 141; refine (owner_any _ _ _ _ _ _ _ _ _ _ _ b0 b1 m0 (by omega)).mono ?_; rintro e w2 ⟨rfl, hb2⟩))
    go_ret2
    exact ⟨ret_pair rfl, (by repeat (first | with_reducible exact Below.refl _ _ | with_reducible assumption | with_reducible refine sub_alloc ?_ _ | (with_reducible refine sub_setCell2 ?_ ?_ _; (focus (first | (simp; done) | (simp <;> omega)))) | with_reducible refine sub_drew ?_ | with_reducible refine below_drewN ?_ _ | with_reducible refine sub_step (by assumption) ?_ (by first | rfl | (simp; done)) | exact Below.refl _ _ | assumption | refine sub_alloc ?_ _ | refine sub_setCell ?_ (by simp <;> omega) _ | refine sub_drew ?_ | refine below_drewN ?_ _ | refine sub_step (by assumption) ?_ (by first | rfl | (simp; done))))⟩
  · have e1 : ownerOfF ⟨p, s, st, sk, re, fe, ag, c, sl⟩ m = (0, pitCodeF ⟨p, s, st, sk, re, fe, ag, c, sl⟩ m) := by unfold ownerOfF; rw [if_neg hk]
    rw [e1]
    have hkb : (pitCodeF ⟨p, s, st, sk, re, fe, ag, c, sl⟩ m != 0) = true := by simp [hk]
    clear e1 hk
    go_enter Try.func81, Try.ntmps81
    go_wp2_with (first | (go_at_call 140; refine (pitCode_any _ _ _ _ _ _ _ _ _ _ _).mono ?_; rintro e w1 ⟨rfl, hb1⟩; obtain ⟨hc1, hf1⟩ := bcell hb1))
    go_ret2
    exact ⟨rfl, (by repeat (first | with_reducible exact Below.refl _ _ | with_reducible assumption | with_reducible refine sub_alloc ?_ _ | (with_reducible refine sub_setCell2 ?_ ?_ _; (focus (first | (simp; done) | (simp <;> omega)))) | with_reducible refine sub_drew ?_ | with_reducible refine below_drewN ?_ _ | with_reducible refine sub_step (by assumption) ?_ (by first | rfl | (simp; done)) | exact Below.refl _ _ | assumption | refine sub_alloc ?_ _ | refine sub_setCell ?_ (by simp <;> omega) _ | refine sub_drew ?_ | refine below_drewN ?_ _ | refine sub_step (by assumption) ?_ (by first | rfl | (simp; done))))⟩
set_option maxHeartbeats 2000000 in
theorem PitOfMove_any (p s : Int) (st sk re fe ag : Bool) (c sl : Int) (pl mv : Int) (w : World) : Calls Try.prog 83 #[.agg #[.int .i64 p, .int .i64 s, .bool st, .bool sk, .bool re, .bool fe, .bool ag, .int .i64 c, .int .i64 sl], .int .i64 pl, .int .i64 mv] w fun e w' => e = .returned (.tuple #[.int .i64 (pitOfMoveF ⟨p, s, st, sk, re, fe, ag, c, sl⟩ pl mv).1, .int .i64 (pitOfMoveF ⟨p, s, st, sk, re, fe, ag, c, sl⟩ pl mv).2]) ∧ Below w.heap.size w w' := by
  have hr := RuAt.box w 31 p s st sk re fe ag c sl
  cases hv : okR ⟨p, s, st, sk, re, fe, ag, c, sl⟩
  · have e1 : pitOfMoveF ⟨p, s, st, sk, re, fe, ag, c, sl⟩ pl mv = (0, 1) := by simp [pitOfMoveF, hv]
    rw [e1]
    clear e1
    go_enter Try.func83, Try.ntmps83
    go_wp2_with (first | (go_at_call 134; refine (ValidRules_any _ _ _ _ _ _ _ _ _ _).mono ?_; rintro e w1 ⟨rfl, hb1⟩; obtain ⟨k0, k1, k2, k3, k4, k5, k6, k7, k8⟩ := (hr.below hb1 (by simp)).flat) | (go_at_call 102; refine (isPlayer_any _ _).mono ?_; rintro e w' ⟨rfl, rfl⟩) | (go_at_call 142; refine (isMove_any _ _ _ _ _ _ _ _ _ _ _ b0 b1).mono ?_; rintro e w2 ⟨rfl, hb2⟩; obtain ⟨k0, k1, k2, k3, k4, k5, k6, k7, k8⟩ := ((hr.below hb1 (by simp)).below hb2 (hr.below hb1 (by simp)).lt).flat) | (go_at_call 143; refine (pitOf_any _ _ _ _ _ _ _ _ _ _ _ _ b0 b1 p0 p1 m0 (by omega)).mono ?_; rintro e w3 ⟨rfl, hb3⟩))
    go_ret2
    exact ⟨rfl, (by repeat (first | with_reducible exact Below.refl _ _ | with_reducible assumption | with_reducible refine sub_alloc ?_ _ | (with_reducible refine sub_setCell2 ?_ ?_ _; (focus (first | (simp; done) | (simp <;> omega)))) | with_reducible refine sub_drew ?_ | with_reducible refine below_drewN ?_ _ | with_reducible refine sub_step (by assumption) ?_ (by first | rfl | (simp; done)) | exact Below.refl _ _ | assumption | refine sub_alloc ?_ _ | refine sub_setCell ?_ (by simp <;> omega) _ | refine sub_drew ?_ | refine below_drewN ?_ _ | refine sub_step (by assumption) ?_ (by first | rfl | (simp; done))))⟩
  obtain ⟨b0, b1, -⟩ := okR_bd hv
  cases hp : inB pl 0 1
  · have e1 : pitOfMoveF ⟨p, s, st, sk, re, fe, ag, c, sl⟩ pl mv = (0, 2) := by simp [pitOfMoveF, hv, hp]
    rw [e1]
    clear e1
    go_enter Try.func83, Try.ntmps83
    go_wp2_with (first | (go_at_call 134; refine (ValidRules_any _ _ _ _ _ _ _ _ _ _).mono ?_; rintro e w1 ⟨rfl, hb1⟩; obtain ⟨k0, k1, k2, k3, k4, k5, k6, k7, k8⟩ := (hr.below hb1 (by simp)).flat) | (go_at_call 102; refine (isPlayer_any _ _).mono ?_; rintro e w' ⟨rfl, rfl⟩) | (go_at_call 142; refine (isMove_any _ _ _ _ _ _ _ _ _ _ _ b0 b1).mono ?_; rintro e w2 ⟨rfl, hb2⟩; obtain ⟨k0, k1, k2, k3, k4, k5, k6, k7, k8⟩ := ((hr.below hb1 (by simp)).below hb2 (hr.below hb1 (by simp)).lt).flat) | (go_at_call 143; refine (pitOf_any _ _ _ _ _ _ _ _ _ _ _ _ b0 b1 p0 p1 m0 (by omega)).mono ?_; rintro e w3 ⟨rfl, hb3⟩))
    go_ret2
    exact ⟨rfl, (by repeat (first | with_reducible exact Below.refl _ _ | with_reducible assumption | with_reducible refine sub_alloc ?_ _ | (with_reducible refine sub_setCell2 ?_ ?_ _; (focus (first | (simp; done) | (simp <;> omega)))) | with_reducible refine sub_drew ?_ | with_reducible refine below_drewN ?_ _ | with_reducible refine sub_step (by assumption) ?_ (by first | rfl | (simp; done)) | exact Below.refl _ _ | assumption | refine sub_alloc ?_ _ | refine sub_setCell ?_ (by simp <;> omega) _ | refine sub_drew ?_ | refine below_drewN ?_ _ | refine sub_step (by assumption) ?_ (by first | rfl | (simp; done))))⟩
  obtain ⟨p0, p1⟩ := inB_t hp
  cases hm : inB mv 0 (p - 1)
  · have e1 : pitOfMoveF ⟨p, s, st, sk, re, fe, ag, c, sl⟩ pl mv = (0, 2) := by simp [pitOfMoveF, hv, hp, hm]
    rw [e1]
    clear e1
    go_enter Try.func83, Try.ntmps83
    go_wp2_with (first | (go_at_call 134; refine (ValidRules_any _ _ _ _ _ _ _ _ _ _).mono ?_; rintro e w1 ⟨rfl, hb1⟩; obtain ⟨k0, k1, k2, k3, k4, k5, k6, k7, k8⟩ := (hr.below hb1 (by simp)).flat) | (go_at_call 102; refine (isPlayer_any _ _).mono ?_; rintro e w' ⟨rfl, rfl⟩) | (go_at_call 142; refine (isMove_any _ _ _ _ _ _ _ _ _ _ _ b0 b1).mono ?_; rintro e w2 ⟨rfl, hb2⟩; obtain ⟨k0, k1, k2, k3, k4, k5, k6, k7, k8⟩ := ((hr.below hb1 (by simp)).below hb2 (hr.below hb1 (by simp)).lt).flat) | (go_at_call 143; refine (pitOf_any _ _ _ _ _ _ _ _ _ _ _ _ b0 b1 p0 p1 m0 (by omega)).mono ?_; rintro e w3 ⟨rfl, hb3⟩))
    go_ret2
    exact ⟨rfl, (by repeat (first | with_reducible exact Below.refl _ _ | with_reducible assumption | with_reducible refine sub_alloc ?_ _ | (with_reducible refine sub_setCell2 ?_ ?_ _; (focus (first | (simp; done) | (simp <;> omega)))) | with_reducible refine sub_drew ?_ | with_reducible refine below_drewN ?_ _ | with_reducible refine sub_step (by assumption) ?_ (by first | rfl | (simp; done)) | exact Below.refl _ _ | assumption | refine sub_alloc ?_ _ | refine sub_setCell ?_ (by simp <;> omega) _ | refine sub_drew ?_ | refine below_drewN ?_ _ | refine sub_step (by assumption) ?_ (by first | rfl | (simp; done))))⟩
  obtain ⟨m0, m1⟩ := inB_t hm
  have e1 : pitOfMoveF ⟨p, s, st, sk, re, fe, ag, c, sl⟩ pl mv = (pl * p + mv, 0) := by simp [pitOfMoveF, hv, hp, hm]
  rw [e1]
  have hpp : 0 ≤ pl * p ∧ pl * p ≤ 8 := by rcases (show pl = 0 ∨ pl = 1 by omega) with rfl | rfl <;> omega
  obtain ⟨pp0, pp1⟩ := hpp
  clear e1
  go_enter Try.func83, Try.ntmps83
  go_wp2_with (first | (go_at_call 134; refine (ValidRules_any _ _ _ _ _ _ _ _ _ _).mono ?_; rintro e w1 ⟨rfl, hb1⟩; obtain ⟨k0, k1, k2, k3, k4, k5, k6, k7, k8⟩ := (hr.below hb1 (by simp)).flat) | (go_at_call 102; refine (isPlayer_any _ _).mono ?_; rintro e w' ⟨rfl, rfl⟩) | (go_at_call 142; refine (isMove_any _ _ _ _ _ _ _ _ _ _ _ b0 b1).mono ?_; rintro e w2 ⟨rfl, hb2⟩; obtain ⟨k0, k1, k2, k3, k4, k5, k6, k7, k8⟩ := ((hr.below hb1 (by simp)).below hb2 (hr.below hb1 (by simp)).lt).flat) | (go_at_call 143; refine (pitOf_any _ _ _ _ _ _ _ _ _ _ _ _ b0 b1 p0 p1 m0 (by omega)).mono ?_; rintro e w3 ⟨rfl, hb3⟩))
  go_ret2
  exact ⟨ret_pair rfl, (by repeat (first | with_reducible exact Below.refl _ _ | with_reducible assumption | with_reducible refine sub_alloc ?_ _ | (with_reducible refine sub_setCell2 ?_ ?_ _; (focus (first | (simp; done) | (simp <;> omega)))) | with_reducible refine sub_drew ?_ | with_reducible refine below_drewN ?_ _ | with_reducible refine sub_step (by assumption) ?_ (by first | rfl | (simp; done)) | exact Below.refl _ _ | assumption | refine sub_alloc ?_ _ | refine sub_setCell ?_ (by simp <;> omega) _ | refine sub_drew ?_ | refine below_drewN ?_ _ | refine sub_step (by assumption) ?_ (by first | rfl | (simp; done))))⟩
end Go.Proofs.Ytnanaldolnehiaa
