/-
  Pits, players and moves of rules: the program's and the reference's functions, each returns what a plain function says.
-/
import Derived.Test.YtgcmlalpeikiaabRules
namespace Go.Proofs.Ytgcmlalpeikiaab
open Go.ChangeShapes Go.WideShapes Go.RowKit Go.Deep

theorem okR_bd {p s : Int} {st sk re fe ag : Bool} {c sl : Int} (h : okR ⟨p, s, st, sk, re, fe, ag, c, sl⟩ = true) : 2 ≤ p ∧ p ≤ 8 ∧ 1 ≤ s ∧ s ≤ 6 ∧ 0 ≤ c ∧ c ≤ 3 ∧ 0 ≤ sl ∧ sl ≤ 2 := by
  simp [okR, inB] at h
  omega
theorem inB_t {n a b : Int} (h : inB n a b = true) : a ≤ n ∧ n ≤ b := by simpa [inB] using h

/-- What the program returns for a move of a player, and the code. -/
def pitOfMoveF (r : Ru) (pl mv : Int) : Int × Int := if okR r then (if inB pl 0 1 && inB mv 0 (r.pits - 1) then (pl * r.pits + mv, 0) else (0, 2)) else (0, 1)
/-- The code of rules and a pit. -/
def pitCodeF (r : Ru) (pit : Int) : Int := if okR r then (if inB pit 0 (2 * r.pits - 1) then 0 else 2) else 1
def moveOfPitF (r : Ru) (pit : Int) : Int × Int := if pitCodeF r pit = 0 then (pit % r.pits, 0) else (0, pitCodeF r pit)
def nextPitF (r : Ru) (pit : Int) : Int × Int := if pitCodeF r pit = 0 then ((pit + 1) % (2 * r.pits), 0) else (0, pitCodeF r pit)
def oppositePitF (r : Ru) (pit : Int) : Int × Int := if pitCodeF r pit = 0 then (2 * r.pits - 1 - pit, 0) else (0, pitCodeF r pit)
def ownerOfF (r : Ru) (pit : Int) : Int × Int := if pitCodeF r pit = 0 then (pit / r.pits, 0) else (0, pitCodeF r pit)
theorem pitCodeF_0 {r : Ru} {pit : Int} (h : pitCodeF r pit = 0) : okR r = true ∧ inB pit 0 (2 * r.pits - 1) = true := by
  unfold pitCodeF at h
  cases h1 : okR r <;> cases h2 : inB pit 0 (2 * r.pits - 1) <;> simp_all
theorem ret_pair {a b c d : Int} (h : (a, b) = (c, d)) : Ending.returned (.tuple #[.int .i64 a, .int .i64 b]) = .returned (.tuple #[.int .i64 c, .int .i64 d]) := by
  injection h with h1 h2; rw [h1, h2]
theorem ret_int {k : IntKind} {a b : Int} (h : a = b) : Ending.returned (.int k a) = .returned (.int k b) := by rw [h]

theorem isPlayer_any (n : Int) (w : World) : Calls Try.prog 109 #[.int .i64 n] w fun e w' => e = .returned (.bool (inB n 0 1)) ∧ w = w' := by
  by_cases h0 : n = 0
  · subst h0
    go_enter Try.func109, Try.ntmps109
    go_wp2
    go_ret
    exact ⟨ret_bool rfl, rfl⟩
  by_cases h1 : n = 1
  · subst h1
    go_enter Try.func109, Try.ntmps109
    go_wp2
    go_ret
    exact ⟨ret_bool rfl, rfl⟩
  have e0 : (n == 0) = false := by simpa using h0
  have e1 : (n == 1) = false := by simpa using h1
  clear h0 h1
  go_enter Try.func109, Try.ntmps109
  go_wp2
  go_ret
  exact ⟨ret_bool (by simp at e0 e1; simp [inB]; omega), rfl⟩
theorem isMove_any (p s : Int) (st sk re fe ag : Bool) (c sl : Int) (m : Int) (w : World) (h0 : 2 ≤ p) (h1 : p ≤ 8) : Calls Try.prog 110 #[.agg #[.int .i64 p, .int .i64 s, .bool st, .bool sk, .bool re, .bool fe, .bool ag, .int .i64 c, .int .i64 sl], .int .i64 m] w fun e w' => e = .returned (.bool (inB m 0 (p - 1))) ∧ Below w.heap.size w w' := by
  go_enter Try.func110, Try.ntmps110
  go_wp2_with (go_at_call 144; refine (between_any _ _ _ _).mono ?_; rintro e w' ⟨rfl, rfl⟩)
  go_ret
  exact ⟨rfl, (by repeat (first | exact Below.refl _ _ | assumption | refine sub_alloc ?_ _ | refine sub_setCell ?_ (by simp <;> omega) _ | refine sub_drew ?_ | refine below_drewN ?_ _ | refine sub_step (by assumption) ?_ (by first | rfl | (simp; done))))⟩
theorem isPit_any (p s : Int) (st sk re fe ag : Bool) (c sl : Int) (m : Int) (w : World) (h0 : 2 ≤ p) (h1 : p ≤ 8) : Calls Try.prog 145 #[.agg #[.int .i64 p, .int .i64 s, .bool st, .bool sk, .bool re, .bool fe, .bool ag, .int .i64 c, .int .i64 sl], .int .i64 m] w fun e w' => e = .returned (.bool (inB m 0 (2 * p - 1))) ∧ Below w.heap.size w w' := by
  go_enter Try.func145, Try.ntmps145
  go_wp2_with (go_at_call 144; refine (between_any _ _ _ _).mono ?_; rintro e w' ⟨rfl, rfl⟩)
  go_ret
  exact ⟨rfl, (by repeat (first | exact Below.refl _ _ | assumption | refine sub_alloc ?_ _ | refine sub_setCell ?_ (by simp <;> omega) _ | refine sub_drew ?_ | refine below_drewN ?_ _ | refine sub_step (by assumption) ?_ (by first | rfl | (simp; done))))⟩
theorem pitOf_any (p s : Int) (st sk re fe ag : Bool) (c sl : Int) (pl m : Int) (w : World) (h0 : 2 ≤ p) (h1 : p ≤ 8) (h2 : 0 ≤ pl) (h3 : pl ≤ 1) (h4 : 0 ≤ m) (h5 : m ≤ 8) : Calls Try.prog 111 #[.agg #[.int .i64 p, .int .i64 s, .bool st, .bool sk, .bool re, .bool fe, .bool ag, .int .i64 c, .int .i64 sl], .int .i64 pl, .int .i64 m] w fun e w' => e = .returned (.int .i64 (pl * p + m)) ∧ Below w.heap.size w w' := by
  rcases (show pl = 0 ∨ pl = 1 by omega) with rfl | rfl
  all_goals
    clear h2 h3
    go_enter Try.func111, Try.ntmps111
    go_wp2
    go_ret
    exact ⟨ret_int (by omega), (by repeat (first | exact Below.refl _ _ | assumption | refine sub_alloc ?_ _ | refine sub_setCell ?_ (by simp <;> omega) _ | refine sub_drew ?_ | refine below_drewN ?_ _ | refine sub_step (by assumption) ?_ (by first | rfl | (simp; done))))⟩
theorem owner_any (p s : Int) (st sk re fe ag : Bool) (c sl : Int) (m : Int) (w : World) (h0 : 2 ≤ p) (h1 : p ≤ 8) (h4 : 0 ≤ m) (h5 : m ≤ 16) : Calls Try.prog 118 #[.agg #[.int .i64 p, .int .i64 s, .bool st, .bool sk, .bool re, .bool fe, .bool ag, .int .i64 c, .int .i64 sl], .int .i64 m] w fun e w' => e = .returned (.int .i64 (m / p)) ∧ Below w.heap.size w w' := by
  have hq : 0 ≤ m / p ∧ m / p ≤ m := ⟨Int.ediv_nonneg h4 (by omega), Int.ediv_le_self _ h4⟩
  obtain ⟨hq0, hq1⟩ := hq
  go_enter Try.func118, Try.ntmps118
  go_wp2
  go_ret
  exact ⟨rfl, (by repeat (first | exact Below.refl _ _ | assumption | refine sub_alloc ?_ _ | refine sub_setCell ?_ (by simp <;> omega) _ | refine sub_drew ?_ | refine below_drewN ?_ _ | refine sub_step (by assumption) ?_ (by first | rfl | (simp; done))))⟩
theorem opposite_any (p s : Int) (st sk re fe ag : Bool) (c sl : Int) (m : Int) (w : World) (h0 : 2 ≤ p) (h1 : p ≤ 8) (h4 : 0 ≤ m) (h5 : m ≤ 16) : Calls Try.prog 116 #[.agg #[.int .i64 p, .int .i64 s, .bool st, .bool sk, .bool re, .bool fe, .bool ag, .int .i64 c, .int .i64 sl], .int .i64 m] w fun e w' => e = .returned (.int .i64 (2 * p - 1 - m)) ∧ Below w.heap.size w w' := by
  go_enter Try.func116, Try.ntmps116
  go_wp2
  go_ret
  exact ⟨rfl, (by repeat (first | exact Below.refl _ _ | assumption | refine sub_alloc ?_ _ | refine sub_setCell ?_ (by simp <;> omega) _ | refine sub_drew ?_ | refine below_drewN ?_ _ | refine sub_step (by assumption) ?_ (by first | rfl | (simp; done))))⟩
theorem l02Next_any (b o : Nat) (r : Ru) (m : Int) (w : World) (h : RuAt w b o r) (h0 : 2 ≤ r.pits) (h1 : r.pits ≤ 8) (h4 : 0 ≤ m) (h5 : m ≤ 16) : Calls Try.prog 114 #[.pointer (some ⟨b, o, none⟩), .int .i64 m] w fun e w' => e = .returned (.int .i64 ((m + 1) % (2 * r.pits))) ∧ w = w' := by
  have c0 := h.1
  go_enter Try.func114, Try.ntmps114
  go_wp2
  go_ret
  exact ⟨rfl, rfl⟩
theorem l02Owner_any (b o : Nat) (r : Ru) (m : Int) (w : World) (h : RuAt w b o r) (h0 : 2 ≤ r.pits) (h1 : r.pits ≤ 8) (h4 : 0 ≤ m) (h5 : m ≤ 16) : Calls Try.prog 117 #[.pointer (some ⟨b, o, none⟩), .int .i64 m] w fun e w' => e = .returned (.int .i64 (m / r.pits)) ∧ w = w' := by
  have c0 := h.1
  have hq : 0 ≤ m / r.pits ∧ m / r.pits ≤ m := ⟨Int.ediv_nonneg h4 (by omega), Int.ediv_le_self _ h4⟩
  obtain ⟨hq0, hq1⟩ := hq
  go_enter Try.func117, Try.ntmps117
  go_wp2
  go_ret
  exact ⟨rfl, rfl⟩
theorem l02Opposite_any (b o : Nat) (r : Ru) (m : Int) (w : World) (h : RuAt w b o r) (h0 : 2 ≤ r.pits) (h1 : r.pits ≤ 8) (h4 : 0 ≤ m) (h5 : m ≤ 16) : Calls Try.prog 115 #[.pointer (some ⟨b, o, none⟩), .int .i64 m] w fun e w' => e = .returned (.int .i64 (2 * r.pits - 1 - m)) ∧ w = w' := by
  have c0 := h.1
  go_enter Try.func115, Try.ntmps115
  go_wp2
  go_ret
  exact ⟨rfl, rfl⟩
set_option maxHeartbeats 1000000 in
theorem l02Code_any (b o : Nat) (r : Ru) (m : Int) (w : World) (h : RuAt w b o r) : Calls Try.prog 112 #[.pointer (some ⟨b, o, none⟩), .int .i64 m] w fun e w' => e = .returned (.int .i64 (pitCodeF r m)) ∧ w = w' := by
  have c0 := h.1
  cases hv : okR r
  · go_enter Try.func112, Try.ntmps112
    go_wp2_with (first | (go_at_call 106; refine (l02Ok_any _ _ r _ h).mono ?_; rintro e w' ⟨rfl, rfl⟩))
    go_ret
    exact ⟨ret_int (by simp [pitCodeF, hv]), rfl⟩
  obtain ⟨p, s, st, sk, re, fe, ag, c, sl⟩ := r
  obtain ⟨b0, b1, -⟩ := okR_bd hv
  dsimp only at c0
  cases hp : inB m 0 (2 * p - 1)
  all_goals
    go_enter Try.func112, Try.ntmps112
    go_wp2_with (first | (go_at_call 106; refine (l02Ok_any _ _ ⟨p, s, st, sk, re, fe, ag, c, sl⟩ _ h).mono ?_; rintro e w' ⟨rfl, rfl⟩) | (go_at_call 107; refine (l00In_any _ _ _ _).mono ?_; rintro e w' ⟨rfl, rfl⟩))
    go_ret
    exact ⟨ret_int (by simp [pitCodeF, hv, hp]), rfl⟩
set_option maxHeartbeats 1000000 in
theorem pitCode_any (p s : Int) (st sk re fe ag : Bool) (c sl : Int) (m : Int) (w : World) : Calls Try.prog 113 #[.agg #[.int .i64 p, .int .i64 s, .bool st, .bool sk, .bool re, .bool fe, .bool ag, .int .i64 c, .int .i64 sl], .int .i64 m] w fun e w' => e = .returned (.int .i64 (pitCodeF ⟨p, s, st, sk, re, fe, ag, c, sl⟩ m)) ∧ Below w.heap.size w w' := by
  cases hv : okR ⟨p, s, st, sk, re, fe, ag, c, sl⟩
  · go_enter Try.func113, Try.ntmps113
    go_wp2_with (first | (go_at_call 108; refine (ValidRules_any _ _ _ _ _ _ _ _ _ _).mono ?_; rintro e w1 ⟨rfl, hb1⟩))
    go_ret
    exact ⟨ret_int (by simp [pitCodeF, hv]), (by repeat (first | exact Below.refl _ _ | assumption | refine sub_alloc ?_ _ | refine sub_setCell ?_ (by simp <;> omega) _ | refine sub_drew ?_ | refine below_drewN ?_ _ | refine sub_step (by assumption) ?_ (by first | rfl | (simp; done))))⟩
  obtain ⟨b0, b1, -⟩ := okR_bd hv
  cases hp : inB m 0 (2 * p - 1)
  all_goals
    go_enter Try.func113, Try.ntmps113
    go_wp2_with (first | (go_at_call 108; refine (ValidRules_any _ _ _ _ _ _ _ _ _ _).mono ?_; rintro e w1 ⟨rfl, hb1⟩; obtain ⟨hc1, hf1⟩ := bcell hb1) | (go_at_call 145; refine (isPit_any _ _ _ _ _ _ _ _ _ _ _ b0 b1).mono ?_; rintro e w2 ⟨rfl, hb2⟩))
    go_ret
    exact ⟨ret_int (by simp [pitCodeF, hv, hp]), (by repeat (first | exact Below.refl _ _ | assumption | refine sub_alloc ?_ _ | refine sub_setCell ?_ (by simp <;> omega) _ | refine sub_drew ?_ | refine below_drewN ?_ _ | refine sub_step (by assumption) ?_ (by first | rfl | (simp; done))))⟩
set_option maxHeartbeats 1000000 in
theorem MoveOfPit_any (p s : Int) (st sk re fe ag : Bool) (c sl : Int) (m : Int) (w : World) : Calls Try.prog 35 #[.agg #[.int .i64 p, .int .i64 s, .bool st, .bool sk, .bool re, .bool fe, .bool ag, .int .i64 c, .int .i64 sl], .int .i64 m] w fun e w' => e = .returned (.tuple #[.int .i64 (moveOfPitF ⟨p, s, st, sk, re, fe, ag, c, sl⟩ m).1, .int .i64 (moveOfPitF ⟨p, s, st, sk, re, fe, ag, c, sl⟩ m).2]) ∧ Below w.heap.size w w' := by
  by_cases hk : pitCodeF ⟨p, s, st, sk, re, fe, ag, c, sl⟩ m = 0
  · obtain ⟨hv, hp⟩ := pitCodeF_0 hk
    obtain ⟨b0, b1, -⟩ := okR_bd hv
    obtain ⟨m0, m1⟩ := inB_t hp
    dsimp only at m1
    have e1 : moveOfPitF ⟨p, s, st, sk, re, fe, ag, c, sl⟩ m = (m % p, 0) := by unfold moveOfPitF; rw [if_pos hk]
    rw [e1]
    have hkb : (pitCodeF ⟨p, s, st, sk, re, fe, ag, c, sl⟩ m != 0) = false := by simp [hk]
    clear e1 hk hv hp
    go_enter Try.func35, Try.ntmps35
    go_wp2_with (first | (go_at_call 113; refine (pitCode_any _ _ _ _ _ _ _ _ _ _ _).mono ?_; rintro e w1 ⟨rfl, hb1⟩; obtain ⟨hc1, hf1⟩ := bcell hb1))
    go_ret2
    exact ⟨ret_pair rfl, (by repeat (first | exact Below.refl _ _ | assumption | refine sub_alloc ?_ _ | refine sub_setCell ?_ (by simp <;> omega) _ | refine sub_drew ?_ | refine below_drewN ?_ _ | refine sub_step (by assumption) ?_ (by first | rfl | (simp; done))))⟩
  · have e1 : moveOfPitF ⟨p, s, st, sk, re, fe, ag, c, sl⟩ m = (0, pitCodeF ⟨p, s, st, sk, re, fe, ag, c, sl⟩ m) := by unfold moveOfPitF; rw [if_neg hk]
    rw [e1]
    have hkb : (pitCodeF ⟨p, s, st, sk, re, fe, ag, c, sl⟩ m != 0) = true := by simp [hk]
    clear e1 hk
    go_enter Try.func35, Try.ntmps35
    go_wp2_with (first | (go_at_call 113; refine (pitCode_any _ _ _ _ _ _ _ _ _ _ _).mono ?_; rintro e w1 ⟨rfl, hb1⟩; obtain ⟨hc1, hf1⟩ := bcell hb1))
    go_ret2
    exact ⟨rfl, (by repeat (first | exact Below.refl _ _ | assumption | refine sub_alloc ?_ _ | refine sub_setCell ?_ (by simp <;> omega) _ | refine sub_drew ?_ | refine below_drewN ?_ _ | refine sub_step (by assumption) ?_ (by first | rfl | (simp; done))))⟩
set_option maxHeartbeats 1000000 in
theorem specMoveOfPit_any (p s : Int) (st sk re fe ag : Bool) (c sl : Int) (m : Int) (w : World) : Calls Try.prog 34 #[.agg #[.int .i64 p, .int .i64 s, .bool st, .bool sk, .bool re, .bool fe, .bool ag, .int .i64 c, .int .i64 sl], .int .i64 m] w fun e w' => e = .returned (.tuple #[.int .i64 (moveOfPitF ⟨p, s, st, sk, re, fe, ag, c, sl⟩ m).1, .int .i64 (moveOfPitF ⟨p, s, st, sk, re, fe, ag, c, sl⟩ m).2]) ∧ Below w.heap.size w w' := by
  have hr := RuAt.box w 26 p s st sk re fe ag c sl
  by_cases hk : pitCodeF ⟨p, s, st, sk, re, fe, ag, c, sl⟩ m = 0
  · obtain ⟨hv, hp⟩ := pitCodeF_0 hk
    obtain ⟨b0, b1, -⟩ := okR_bd hv
    obtain ⟨m0, m1⟩ := inB_t hp
    dsimp only at m1
    have e1 : moveOfPitF ⟨p, s, st, sk, re, fe, ag, c, sl⟩ m = (m % p, 0) := by unfold moveOfPitF; rw [if_pos hk]
    rw [e1]
    have hkb : (pitCodeF ⟨p, s, st, sk, re, fe, ag, c, sl⟩ m != 0) = false := by simp [hk]
    clear e1 hk hv hp
    go_enter Try.func34, Try.ntmps34
    go_wp2_with (first | (go_at_call 112; refine (l02Code_any _ _ ⟨p, s, st, sk, re, fe, ag, c, sl⟩ _ _ hr).mono ?_; rintro e w1 ⟨rfl, rfl⟩))
    go_ret2
    exact ⟨ret_pair rfl, (by repeat (first | exact Below.refl _ _ | assumption | refine sub_alloc ?_ _ | refine sub_setCell ?_ (by simp <;> omega) _ | refine sub_drew ?_ | refine below_drewN ?_ _ | refine sub_step (by assumption) ?_ (by first | rfl | (simp; done))))⟩
  · have e1 : moveOfPitF ⟨p, s, st, sk, re, fe, ag, c, sl⟩ m = (0, pitCodeF ⟨p, s, st, sk, re, fe, ag, c, sl⟩ m) := by unfold moveOfPitF; rw [if_neg hk]
    rw [e1]
    have hkb : (pitCodeF ⟨p, s, st, sk, re, fe, ag, c, sl⟩ m != 0) = true := by simp [hk]
    clear e1 hk
    go_enter Try.func34, Try.ntmps34
    go_wp2_with (first | (go_at_call 112; refine (l02Code_any _ _ ⟨p, s, st, sk, re, fe, ag, c, sl⟩ _ _ hr).mono ?_; rintro e w1 ⟨rfl, rfl⟩))
    go_ret2
    exact ⟨rfl, (by repeat (first | exact Below.refl _ _ | assumption | refine sub_alloc ?_ _ | refine sub_setCell ?_ (by simp <;> omega) _ | refine sub_drew ?_ | refine below_drewN ?_ _ | refine sub_step (by assumption) ?_ (by first | rfl | (simp; done))))⟩
set_option maxHeartbeats 1000000 in
theorem FnExactMoveOfPit_walk (a0 : Ru) (m : Int) (w : World) (_h : a0.wf) (_h1 : in64 m) : Calls Try.prog 4 #[.agg a0.cells.toArray, .int .i64 m] w fun e w' => e = .returned (.bool true) ∧ Below w.heap.size w w' := by
  obtain ⟨p, s, st, sk, re, fe, ag, c, sl⟩ := a0
  show Calls Try.prog 4 #[.agg #[.int .i64 p, .int .i64 s, .bool st, .bool sk, .bool re, .bool fe, .bool ag, .int .i64 c, .int .i64 sl], .int .i64 m] w _
  clear _h _h1
  have hr := RuAt.box w 23 p s st sk re fe ag c sl
  go_enter Try.func4, Try.ntmps4
  go_wp2_with fail
  refine (toRules_any _ _ _ _ _ _ _ _ _ _).mono ?_; rintro e w1 ⟨rfl, hb1⟩
  have q1 := hr.below hb1 (by simp)
  go_wp2_with fail
  refine (specMoveOfPit_any _ _ _ _ _ _ _ _ _ _ _).mono ?_; rintro e w2 ⟨rfl, hb2⟩
  obtain ⟨k0, k1, k2, k3, k4, k5, k6, k7, k8⟩ := (q1.below hb2 q1.lt).flat
  go_wp2_with fail
  refine (toRules_any _ _ _ _ _ _ _ _ _ _).mono ?_; rintro e w3 ⟨rfl, hb3⟩
  go_wp2_with fail
  refine (MoveOfPit_any _ _ _ _ _ _ _ _ _ _ _).mono ?_; rintro e w4 ⟨rfl, hb4⟩
  go_wp2_with fail
  go_ret
  exact ⟨rfl, (by repeat (first | exact Below.refl _ _ | assumption | refine sub_alloc ?_ _ | refine sub_setCell ?_ (by simp <;> omega) _ | refine sub_drew ?_ | refine below_drewN ?_ _ | refine sub_step (by assumption) ?_ (by first | rfl | (simp; done))))⟩
set_option maxHeartbeats 1000000 in
theorem NextPit_any (p s : Int) (st sk re fe ag : Bool) (c sl : Int) (m : Int) (w : World) : Calls Try.prog 37 #[.agg #[.int .i64 p, .int .i64 s, .bool st, .bool sk, .bool re, .bool fe, .bool ag, .int .i64 c, .int .i64 sl], .int .i64 m] w fun e w' => e = .returned (.tuple #[.int .i64 (nextPitF ⟨p, s, st, sk, re, fe, ag, c, sl⟩ m).1, .int .i64 (nextPitF ⟨p, s, st, sk, re, fe, ag, c, sl⟩ m).2]) ∧ Below w.heap.size w w' := by
  by_cases hk : pitCodeF ⟨p, s, st, sk, re, fe, ag, c, sl⟩ m = 0
  · obtain ⟨hv, hp⟩ := pitCodeF_0 hk
    obtain ⟨b0, b1, -⟩ := okR_bd hv
    obtain ⟨m0, m1⟩ := inB_t hp
    dsimp only at m1
    have e1 : nextPitF ⟨p, s, st, sk, re, fe, ag, c, sl⟩ m = ((m + 1) % (2 * p), 0) := by unfold nextPitF; rw [if_pos hk]
    rw [e1]
    have hkb : (pitCodeF ⟨p, s, st, sk, re, fe, ag, c, sl⟩ m != 0) = false := by simp [hk]
    clear e1 hk hv hp
    go_enter Try.func37, Try.ntmps37
    go_wp2_with (first | (go_at_call 113; refine (pitCode_any _ _ _ _ _ _ _ _ _ _ _).mono ?_; rintro e w1 ⟨rfl, hb1⟩; obtain ⟨hc1, hf1⟩ := bcell hb1))
    go_ret2
    exact ⟨ret_pair rfl, (by repeat (first | exact Below.refl _ _ | assumption | refine sub_alloc ?_ _ | refine sub_setCell ?_ (by simp <;> omega) _ | refine sub_drew ?_ | refine below_drewN ?_ _ | refine sub_step (by assumption) ?_ (by first | rfl | (simp; done))))⟩
  · have e1 : nextPitF ⟨p, s, st, sk, re, fe, ag, c, sl⟩ m = (0, pitCodeF ⟨p, s, st, sk, re, fe, ag, c, sl⟩ m) := by unfold nextPitF; rw [if_neg hk]
    rw [e1]
    have hkb : (pitCodeF ⟨p, s, st, sk, re, fe, ag, c, sl⟩ m != 0) = true := by simp [hk]
    clear e1 hk
    go_enter Try.func37, Try.ntmps37
    go_wp2_with (first | (go_at_call 113; refine (pitCode_any _ _ _ _ _ _ _ _ _ _ _).mono ?_; rintro e w1 ⟨rfl, hb1⟩; obtain ⟨hc1, hf1⟩ := bcell hb1))
    go_ret2
    exact ⟨rfl, (by repeat (first | exact Below.refl _ _ | assumption | refine sub_alloc ?_ _ | refine sub_setCell ?_ (by simp <;> omega) _ | refine sub_drew ?_ | refine below_drewN ?_ _ | refine sub_step (by assumption) ?_ (by first | rfl | (simp; done))))⟩
set_option maxHeartbeats 1000000 in
theorem specNextPit_any (p s : Int) (st sk re fe ag : Bool) (c sl : Int) (m : Int) (w : World) : Calls Try.prog 36 #[.agg #[.int .i64 p, .int .i64 s, .bool st, .bool sk, .bool re, .bool fe, .bool ag, .int .i64 c, .int .i64 sl], .int .i64 m] w fun e w' => e = .returned (.tuple #[.int .i64 (nextPitF ⟨p, s, st, sk, re, fe, ag, c, sl⟩ m).1, .int .i64 (nextPitF ⟨p, s, st, sk, re, fe, ag, c, sl⟩ m).2]) ∧ Below w.heap.size w w' := by
  have hr := RuAt.box w 26 p s st sk re fe ag c sl
  by_cases hk : pitCodeF ⟨p, s, st, sk, re, fe, ag, c, sl⟩ m = 0
  · obtain ⟨hv, hp⟩ := pitCodeF_0 hk
    obtain ⟨b0, b1, -⟩ := okR_bd hv
    obtain ⟨m0, m1⟩ := inB_t hp
    dsimp only at m1
    have e1 : nextPitF ⟨p, s, st, sk, re, fe, ag, c, sl⟩ m = ((m + 1) % (2 * p), 0) := by unfold nextPitF; rw [if_pos hk]
    rw [e1]
    have hkb : (pitCodeF ⟨p, s, st, sk, re, fe, ag, c, sl⟩ m != 0) = false := by simp [hk]
    clear e1 hk hv hp
    go_enter Try.func36, Try.ntmps36
    go_wp2_with (first | (go_at_call 112; refine (l02Code_any _ _ ⟨p, s, st, sk, re, fe, ag, c, sl⟩ _ _ hr).mono ?_; rintro e w1 ⟨rfl, rfl⟩) | (go_at_call 114; refine (l02Next_any _ _ ⟨p, s, st, sk, re, fe, ag, c, sl⟩ _ _ hr b0 b1 m0 (by omega)).mono ?_; rintro e w2 ⟨rfl, rfl⟩))
    go_ret2
    exact ⟨ret_pair rfl, (by repeat (first | exact Below.refl _ _ | assumption | refine sub_alloc ?_ _ | refine sub_setCell ?_ (by simp <;> omega) _ | refine sub_drew ?_ | refine below_drewN ?_ _ | refine sub_step (by assumption) ?_ (by first | rfl | (simp; done))))⟩
  · have e1 : nextPitF ⟨p, s, st, sk, re, fe, ag, c, sl⟩ m = (0, pitCodeF ⟨p, s, st, sk, re, fe, ag, c, sl⟩ m) := by unfold nextPitF; rw [if_neg hk]
    rw [e1]
    have hkb : (pitCodeF ⟨p, s, st, sk, re, fe, ag, c, sl⟩ m != 0) = true := by simp [hk]
    clear e1 hk
    go_enter Try.func36, Try.ntmps36
    go_wp2_with (first | (go_at_call 112; refine (l02Code_any _ _ ⟨p, s, st, sk, re, fe, ag, c, sl⟩ _ _ hr).mono ?_; rintro e w1 ⟨rfl, rfl⟩))
    go_ret2
    exact ⟨rfl, (by repeat (first | exact Below.refl _ _ | assumption | refine sub_alloc ?_ _ | refine sub_setCell ?_ (by simp <;> omega) _ | refine sub_drew ?_ | refine below_drewN ?_ _ | refine sub_step (by assumption) ?_ (by first | rfl | (simp; done))))⟩
set_option maxHeartbeats 1000000 in
theorem FnExactNextPit_walk (a0 : Ru) (m : Int) (w : World) (_h : a0.wf) (_h1 : in64 m) : Calls Try.prog 5 #[.agg a0.cells.toArray, .int .i64 m] w fun e w' => e = .returned (.bool true) ∧ Below w.heap.size w w' := by
  obtain ⟨p, s, st, sk, re, fe, ag, c, sl⟩ := a0
  show Calls Try.prog 5 #[.agg #[.int .i64 p, .int .i64 s, .bool st, .bool sk, .bool re, .bool fe, .bool ag, .int .i64 c, .int .i64 sl], .int .i64 m] w _
  clear _h _h1
  have hr := RuAt.box w 23 p s st sk re fe ag c sl
  go_enter Try.func5, Try.ntmps5
  go_wp2_with fail
  refine (toRules_any _ _ _ _ _ _ _ _ _ _).mono ?_; rintro e w1 ⟨rfl, hb1⟩
  have q1 := hr.below hb1 (by simp)
  go_wp2_with fail
  refine (specNextPit_any _ _ _ _ _ _ _ _ _ _ _).mono ?_; rintro e w2 ⟨rfl, hb2⟩
  obtain ⟨k0, k1, k2, k3, k4, k5, k6, k7, k8⟩ := (q1.below hb2 q1.lt).flat
  go_wp2_with fail
  refine (toRules_any _ _ _ _ _ _ _ _ _ _).mono ?_; rintro e w3 ⟨rfl, hb3⟩
  go_wp2_with fail
  refine (NextPit_any _ _ _ _ _ _ _ _ _ _ _).mono ?_; rintro e w4 ⟨rfl, hb4⟩
  go_wp2_with fail
  go_ret
  exact ⟨rfl, (by repeat (first | exact Below.refl _ _ | assumption | refine sub_alloc ?_ _ | refine sub_setCell ?_ (by simp <;> omega) _ | refine sub_drew ?_ | refine below_drewN ?_ _ | refine sub_step (by assumption) ?_ (by first | rfl | (simp; done))))⟩
set_option maxHeartbeats 1000000 in
theorem OppositePit_any (p s : Int) (st sk re fe ag : Bool) (c sl : Int) (m : Int) (w : World) : Calls Try.prog 39 #[.agg #[.int .i64 p, .int .i64 s, .bool st, .bool sk, .bool re, .bool fe, .bool ag, .int .i64 c, .int .i64 sl], .int .i64 m] w fun e w' => e = .returned (.tuple #[.int .i64 (oppositePitF ⟨p, s, st, sk, re, fe, ag, c, sl⟩ m).1, .int .i64 (oppositePitF ⟨p, s, st, sk, re, fe, ag, c, sl⟩ m).2]) ∧ Below w.heap.size w w' := by
  by_cases hk : pitCodeF ⟨p, s, st, sk, re, fe, ag, c, sl⟩ m = 0
  · obtain ⟨hv, hp⟩ := pitCodeF_0 hk
    obtain ⟨b0, b1, -⟩ := okR_bd hv
    obtain ⟨m0, m1⟩ := inB_t hp
    dsimp only at m1
    have e1 : oppositePitF ⟨p, s, st, sk, re, fe, ag, c, sl⟩ m = (2 * p - 1 - m, 0) := by unfold oppositePitF; rw [if_pos hk]
    rw [e1]
    have hkb : (pitCodeF ⟨p, s, st, sk, re, fe, ag, c, sl⟩ m != 0) = false := by simp [hk]
    clear e1 hk hv hp
    go_enter Try.func39, Try.ntmps39
    go_wp2_with (first | (go_at_call 113; refine (pitCode_any _ _ _ _ _ _ _ _ _ _ _).mono ?_; rintro e w1 ⟨rfl, hb1⟩; obtain ⟨hc1, hf1⟩ := bcell hb1) | (go_at_call 116; refine (opposite_any _ _ _ _ _ _ _ _ _ _ _ b0 b1 m0 (by omega)).mono ?_; rintro e w2 ⟨rfl, hb2⟩))
    go_ret2
    exact ⟨ret_pair rfl, (by repeat (first | exact Below.refl _ _ | assumption | refine sub_alloc ?_ _ | refine sub_setCell ?_ (by simp <;> omega) _ | refine sub_drew ?_ | refine below_drewN ?_ _ | refine sub_step (by assumption) ?_ (by first | rfl | (simp; done))))⟩
  · have e1 : oppositePitF ⟨p, s, st, sk, re, fe, ag, c, sl⟩ m = (0, pitCodeF ⟨p, s, st, sk, re, fe, ag, c, sl⟩ m) := by unfold oppositePitF; rw [if_neg hk]
    rw [e1]
    have hkb : (pitCodeF ⟨p, s, st, sk, re, fe, ag, c, sl⟩ m != 0) = true := by simp [hk]
    clear e1 hk
    go_enter Try.func39, Try.ntmps39
    go_wp2_with (first | (go_at_call 113; refine (pitCode_any _ _ _ _ _ _ _ _ _ _ _).mono ?_; rintro e w1 ⟨rfl, hb1⟩; obtain ⟨hc1, hf1⟩ := bcell hb1))
    go_ret2
    exact ⟨rfl, (by repeat (first | exact Below.refl _ _ | assumption | refine sub_alloc ?_ _ | refine sub_setCell ?_ (by simp <;> omega) _ | refine sub_drew ?_ | refine below_drewN ?_ _ | refine sub_step (by assumption) ?_ (by first | rfl | (simp; done))))⟩
set_option maxHeartbeats 1000000 in
theorem specOppositePit_any (p s : Int) (st sk re fe ag : Bool) (c sl : Int) (m : Int) (w : World) : Calls Try.prog 38 #[.agg #[.int .i64 p, .int .i64 s, .bool st, .bool sk, .bool re, .bool fe, .bool ag, .int .i64 c, .int .i64 sl], .int .i64 m] w fun e w' => e = .returned (.tuple #[.int .i64 (oppositePitF ⟨p, s, st, sk, re, fe, ag, c, sl⟩ m).1, .int .i64 (oppositePitF ⟨p, s, st, sk, re, fe, ag, c, sl⟩ m).2]) ∧ Below w.heap.size w w' := by
  have hr := RuAt.box w 26 p s st sk re fe ag c sl
  by_cases hk : pitCodeF ⟨p, s, st, sk, re, fe, ag, c, sl⟩ m = 0
  · obtain ⟨hv, hp⟩ := pitCodeF_0 hk
    obtain ⟨b0, b1, -⟩ := okR_bd hv
    obtain ⟨m0, m1⟩ := inB_t hp
    dsimp only at m1
    have e1 : oppositePitF ⟨p, s, st, sk, re, fe, ag, c, sl⟩ m = (2 * p - 1 - m, 0) := by unfold oppositePitF; rw [if_pos hk]
    rw [e1]
    have hkb : (pitCodeF ⟨p, s, st, sk, re, fe, ag, c, sl⟩ m != 0) = false := by simp [hk]
    clear e1 hk hv hp
    go_enter Try.func38, Try.ntmps38
    go_wp2_with (first | (go_at_call 112; refine (l02Code_any _ _ ⟨p, s, st, sk, re, fe, ag, c, sl⟩ _ _ hr).mono ?_; rintro e w1 ⟨rfl, rfl⟩) | (go_at_call 115; refine (l02Opposite_any _ _ ⟨p, s, st, sk, re, fe, ag, c, sl⟩ _ _ hr b0 b1 m0 (by omega)).mono ?_; rintro e w2 ⟨rfl, rfl⟩))
    go_ret2
    exact ⟨ret_pair rfl, (by repeat (first | exact Below.refl _ _ | assumption | refine sub_alloc ?_ _ | refine sub_setCell ?_ (by simp <;> omega) _ | refine sub_drew ?_ | refine below_drewN ?_ _ | refine sub_step (by assumption) ?_ (by first | rfl | (simp; done))))⟩
  · have e1 : oppositePitF ⟨p, s, st, sk, re, fe, ag, c, sl⟩ m = (0, pitCodeF ⟨p, s, st, sk, re, fe, ag, c, sl⟩ m) := by unfold oppositePitF; rw [if_neg hk]
    rw [e1]
    have hkb : (pitCodeF ⟨p, s, st, sk, re, fe, ag, c, sl⟩ m != 0) = true := by simp [hk]
    clear e1 hk
    go_enter Try.func38, Try.ntmps38
    go_wp2_with (first | (go_at_call 112; refine (l02Code_any _ _ ⟨p, s, st, sk, re, fe, ag, c, sl⟩ _ _ hr).mono ?_; rintro e w1 ⟨rfl, rfl⟩))
    go_ret2
    exact ⟨rfl, (by repeat (first | exact Below.refl _ _ | assumption | refine sub_alloc ?_ _ | refine sub_setCell ?_ (by simp <;> omega) _ | refine sub_drew ?_ | refine below_drewN ?_ _ | refine sub_step (by assumption) ?_ (by first | rfl | (simp; done))))⟩
set_option maxHeartbeats 1000000 in
theorem FnExactOppositePit_walk (a0 : Ru) (m : Int) (w : World) (_h : a0.wf) (_h1 : in64 m) : Calls Try.prog 6 #[.agg a0.cells.toArray, .int .i64 m] w fun e w' => e = .returned (.bool true) ∧ Below w.heap.size w w' := by
  obtain ⟨p, s, st, sk, re, fe, ag, c, sl⟩ := a0
  show Calls Try.prog 6 #[.agg #[.int .i64 p, .int .i64 s, .bool st, .bool sk, .bool re, .bool fe, .bool ag, .int .i64 c, .int .i64 sl], .int .i64 m] w _
  clear _h _h1
  have hr := RuAt.box w 23 p s st sk re fe ag c sl
  go_enter Try.func6, Try.ntmps6
  go_wp2_with fail
  refine (toRules_any _ _ _ _ _ _ _ _ _ _).mono ?_; rintro e w1 ⟨rfl, hb1⟩
  have q1 := hr.below hb1 (by simp)
  go_wp2_with fail
  refine (specOppositePit_any _ _ _ _ _ _ _ _ _ _ _).mono ?_; rintro e w2 ⟨rfl, hb2⟩
  obtain ⟨k0, k1, k2, k3, k4, k5, k6, k7, k8⟩ := (q1.below hb2 q1.lt).flat
  go_wp2_with fail
  refine (toRules_any _ _ _ _ _ _ _ _ _ _).mono ?_; rintro e w3 ⟨rfl, hb3⟩
  go_wp2_with fail
  refine (OppositePit_any _ _ _ _ _ _ _ _ _ _ _).mono ?_; rintro e w4 ⟨rfl, hb4⟩
  go_wp2_with fail
  go_ret
  exact ⟨rfl, (by repeat (first | exact Below.refl _ _ | assumption | refine sub_alloc ?_ _ | refine sub_setCell ?_ (by simp <;> omega) _ | refine sub_drew ?_ | refine below_drewN ?_ _ | refine sub_step (by assumption) ?_ (by first | rfl | (simp; done))))⟩
set_option maxHeartbeats 1000000 in
theorem OwnerOf_any (p s : Int) (st sk re fe ag : Bool) (c sl : Int) (m : Int) (w : World) : Calls Try.prog 41 #[.agg #[.int .i64 p, .int .i64 s, .bool st, .bool sk, .bool re, .bool fe, .bool ag, .int .i64 c, .int .i64 sl], .int .i64 m] w fun e w' => e = .returned (.tuple #[.int .i64 (ownerOfF ⟨p, s, st, sk, re, fe, ag, c, sl⟩ m).1, .int .i64 (ownerOfF ⟨p, s, st, sk, re, fe, ag, c, sl⟩ m).2]) ∧ Below w.heap.size w w' := by
  by_cases hk : pitCodeF ⟨p, s, st, sk, re, fe, ag, c, sl⟩ m = 0
  · obtain ⟨hv, hp⟩ := pitCodeF_0 hk
    obtain ⟨b0, b1, -⟩ := okR_bd hv
    obtain ⟨m0, m1⟩ := inB_t hp
    dsimp only at m1
    have e1 : ownerOfF ⟨p, s, st, sk, re, fe, ag, c, sl⟩ m = (m / p, 0) := by unfold ownerOfF; rw [if_pos hk]
    rw [e1]
    have hkb : (pitCodeF ⟨p, s, st, sk, re, fe, ag, c, sl⟩ m != 0) = false := by simp [hk]
    clear e1 hk hv hp
    go_enter Try.func41, Try.ntmps41
    go_wp2_with (first | (go_at_call 113; refine (pitCode_any _ _ _ _ _ _ _ _ _ _ _).mono ?_; rintro e w1 ⟨rfl, hb1⟩; obtain ⟨hc1, hf1⟩ := bcell hb1) | (go_at_call 118; refine (owner_any _ _ _ _ _ _ _ _ _ _ _ b0 b1 m0 (by omega)).mono ?_; rintro e w2 ⟨rfl, hb2⟩))
    go_ret2
    exact ⟨ret_pair rfl, (by repeat (first | exact Below.refl _ _ | assumption | refine sub_alloc ?_ _ | refine sub_setCell ?_ (by simp <;> omega) _ | refine sub_drew ?_ | refine below_drewN ?_ _ | refine sub_step (by assumption) ?_ (by first | rfl | (simp; done))))⟩
  · have e1 : ownerOfF ⟨p, s, st, sk, re, fe, ag, c, sl⟩ m = (0, pitCodeF ⟨p, s, st, sk, re, fe, ag, c, sl⟩ m) := by unfold ownerOfF; rw [if_neg hk]
    rw [e1]
    have hkb : (pitCodeF ⟨p, s, st, sk, re, fe, ag, c, sl⟩ m != 0) = true := by simp [hk]
    clear e1 hk
    go_enter Try.func41, Try.ntmps41
    go_wp2_with (first | (go_at_call 113; refine (pitCode_any _ _ _ _ _ _ _ _ _ _ _).mono ?_; rintro e w1 ⟨rfl, hb1⟩; obtain ⟨hc1, hf1⟩ := bcell hb1))
    go_ret2
    exact ⟨rfl, (by repeat (first | exact Below.refl _ _ | assumption | refine sub_alloc ?_ _ | refine sub_setCell ?_ (by simp <;> omega) _ | refine sub_drew ?_ | refine below_drewN ?_ _ | refine sub_step (by assumption) ?_ (by first | rfl | (simp; done))))⟩
set_option maxHeartbeats 1000000 in
theorem specOwnerOf_any (p s : Int) (st sk re fe ag : Bool) (c sl : Int) (m : Int) (w : World) : Calls Try.prog 40 #[.agg #[.int .i64 p, .int .i64 s, .bool st, .bool sk, .bool re, .bool fe, .bool ag, .int .i64 c, .int .i64 sl], .int .i64 m] w fun e w' => e = .returned (.tuple #[.int .i64 (ownerOfF ⟨p, s, st, sk, re, fe, ag, c, sl⟩ m).1, .int .i64 (ownerOfF ⟨p, s, st, sk, re, fe, ag, c, sl⟩ m).2]) ∧ Below w.heap.size w w' := by
  have hr := RuAt.box w 26 p s st sk re fe ag c sl
  by_cases hk : pitCodeF ⟨p, s, st, sk, re, fe, ag, c, sl⟩ m = 0
  · obtain ⟨hv, hp⟩ := pitCodeF_0 hk
    obtain ⟨b0, b1, -⟩ := okR_bd hv
    obtain ⟨m0, m1⟩ := inB_t hp
    dsimp only at m1
    have e1 : ownerOfF ⟨p, s, st, sk, re, fe, ag, c, sl⟩ m = (m / p, 0) := by unfold ownerOfF; rw [if_pos hk]
    rw [e1]
    have hkb : (pitCodeF ⟨p, s, st, sk, re, fe, ag, c, sl⟩ m != 0) = false := by simp [hk]
    clear e1 hk hv hp
    go_enter Try.func40, Try.ntmps40
    go_wp2_with (first | (go_at_call 112; refine (l02Code_any _ _ ⟨p, s, st, sk, re, fe, ag, c, sl⟩ _ _ hr).mono ?_; rintro e w1 ⟨rfl, rfl⟩) | (go_at_call 117; refine (l02Owner_any _ _ ⟨p, s, st, sk, re, fe, ag, c, sl⟩ _ _ hr b0 b1 m0 (by omega)).mono ?_; rintro e w2 ⟨rfl, rfl⟩))
    go_ret2
    exact ⟨ret_pair rfl, (by repeat (first | exact Below.refl _ _ | assumption | refine sub_alloc ?_ _ | refine sub_setCell ?_ (by simp <;> omega) _ | refine sub_drew ?_ | refine below_drewN ?_ _ | refine sub_step (by assumption) ?_ (by first | rfl | (simp; done))))⟩
  · have e1 : ownerOfF ⟨p, s, st, sk, re, fe, ag, c, sl⟩ m = (0, pitCodeF ⟨p, s, st, sk, re, fe, ag, c, sl⟩ m) := by unfold ownerOfF; rw [if_neg hk]
    rw [e1]
    have hkb : (pitCodeF ⟨p, s, st, sk, re, fe, ag, c, sl⟩ m != 0) = true := by simp [hk]
    clear e1 hk
    go_enter Try.func40, Try.ntmps40
    go_wp2_with (first | (go_at_call 112; refine (l02Code_any _ _ ⟨p, s, st, sk, re, fe, ag, c, sl⟩ _ _ hr).mono ?_; rintro e w1 ⟨rfl, rfl⟩))
    go_ret2
    exact ⟨rfl, (by repeat (first | exact Below.refl _ _ | assumption | refine sub_alloc ?_ _ | refine sub_setCell ?_ (by simp <;> omega) _ | refine sub_drew ?_ | refine below_drewN ?_ _ | refine sub_step (by assumption) ?_ (by first | rfl | (simp; done))))⟩
set_option maxHeartbeats 1000000 in
theorem FnExactOwnerOf_walk (a0 : Ru) (m : Int) (w : World) (_h : a0.wf) (_h1 : in64 m) : Calls Try.prog 7 #[.agg a0.cells.toArray, .int .i64 m] w fun e w' => e = .returned (.bool true) ∧ Below w.heap.size w w' := by
  obtain ⟨p, s, st, sk, re, fe, ag, c, sl⟩ := a0
  show Calls Try.prog 7 #[.agg #[.int .i64 p, .int .i64 s, .bool st, .bool sk, .bool re, .bool fe, .bool ag, .int .i64 c, .int .i64 sl], .int .i64 m] w _
  clear _h _h1
  have hr := RuAt.box w 23 p s st sk re fe ag c sl
  go_enter Try.func7, Try.ntmps7
  go_wp2_with fail
  refine (toRules_any _ _ _ _ _ _ _ _ _ _).mono ?_; rintro e w1 ⟨rfl, hb1⟩
  have q1 := hr.below hb1 (by simp)
  go_wp2_with fail
  refine (specOwnerOf_any _ _ _ _ _ _ _ _ _ _ _).mono ?_; rintro e w2 ⟨rfl, hb2⟩
  obtain ⟨k0, k1, k2, k3, k4, k5, k6, k7, k8⟩ := (q1.below hb2 q1.lt).flat
  go_wp2_with fail
  refine (toRules_any _ _ _ _ _ _ _ _ _ _).mono ?_; rintro e w3 ⟨rfl, hb3⟩
  go_wp2_with fail
  refine (OwnerOf_any _ _ _ _ _ _ _ _ _ _ _).mono ?_; rintro e w4 ⟨rfl, hb4⟩
  go_wp2_with fail
  go_ret
  exact ⟨rfl, (by repeat (first | exact Below.refl _ _ | assumption | refine sub_alloc ?_ _ | refine sub_setCell ?_ (by simp <;> omega) _ | refine sub_drew ?_ | refine below_drewN ?_ _ | refine sub_step (by assumption) ?_ (by first | rfl | (simp; done))))⟩
set_option maxHeartbeats 2000000 in
theorem PitOfMove_any (p s : Int) (st sk re fe ag : Bool) (c sl : Int) (pl mv : Int) (w : World) : Calls Try.prog 33 #[.agg #[.int .i64 p, .int .i64 s, .bool st, .bool sk, .bool re, .bool fe, .bool ag, .int .i64 c, .int .i64 sl], .int .i64 pl, .int .i64 mv] w fun e w' => e = .returned (.tuple #[.int .i64 (pitOfMoveF ⟨p, s, st, sk, re, fe, ag, c, sl⟩ pl mv).1, .int .i64 (pitOfMoveF ⟨p, s, st, sk, re, fe, ag, c, sl⟩ pl mv).2]) ∧ Below w.heap.size w w' := by
  have hr := RuAt.box w 26 p s st sk re fe ag c sl
  cases hv : okR ⟨p, s, st, sk, re, fe, ag, c, sl⟩
  · have e1 : pitOfMoveF ⟨p, s, st, sk, re, fe, ag, c, sl⟩ pl mv = (0, 1) := by simp [pitOfMoveF, hv]
    rw [e1]
    clear e1
    go_enter Try.func33, Try.ntmps33
    go_wp2_with (first | (go_at_call 108; refine (ValidRules_any _ _ _ _ _ _ _ _ _ _).mono ?_; rintro e w1 ⟨rfl, hb1⟩; obtain ⟨k0, k1, k2, k3, k4, k5, k6, k7, k8⟩ := (hr.below hb1 (by simp)).flat) | (go_at_call 109; refine (isPlayer_any _ _).mono ?_; rintro e w' ⟨rfl, rfl⟩) | (go_at_call 110; refine (isMove_any _ _ _ _ _ _ _ _ _ _ _ b0 b1).mono ?_; rintro e w2 ⟨rfl, hb2⟩; obtain ⟨k0, k1, k2, k3, k4, k5, k6, k7, k8⟩ := ((hr.below hb1 (by simp)).below hb2 (hr.below hb1 (by simp)).lt).flat) | (go_at_call 111; refine (pitOf_any _ _ _ _ _ _ _ _ _ _ _ _ b0 b1 p0 p1 m0 (by omega)).mono ?_; rintro e w3 ⟨rfl, hb3⟩))
    go_ret2
    exact ⟨rfl, (by repeat (first | exact Below.refl _ _ | assumption | refine sub_alloc ?_ _ | refine sub_setCell ?_ (by simp <;> omega) _ | refine sub_drew ?_ | refine below_drewN ?_ _ | refine sub_step (by assumption) ?_ (by first | rfl | (simp; done))))⟩
  obtain ⟨b0, b1, -⟩ := okR_bd hv
  cases hp : inB pl 0 1
  · have e1 : pitOfMoveF ⟨p, s, st, sk, re, fe, ag, c, sl⟩ pl mv = (0, 2) := by simp [pitOfMoveF, hv, hp]
    rw [e1]
    clear e1
    go_enter Try.func33, Try.ntmps33
    go_wp2_with (first | (go_at_call 108; refine (ValidRules_any _ _ _ _ _ _ _ _ _ _).mono ?_; rintro e w1 ⟨rfl, hb1⟩; obtain ⟨k0, k1, k2, k3, k4, k5, k6, k7, k8⟩ := (hr.below hb1 (by simp)).flat) | (go_at_call 109; refine (isPlayer_any _ _).mono ?_; rintro e w' ⟨rfl, rfl⟩) | (go_at_call 110; refine (isMove_any _ _ _ _ _ _ _ _ _ _ _ b0 b1).mono ?_; rintro e w2 ⟨rfl, hb2⟩; obtain ⟨k0, k1, k2, k3, k4, k5, k6, k7, k8⟩ := ((hr.below hb1 (by simp)).below hb2 (hr.below hb1 (by simp)).lt).flat) | (go_at_call 111; refine (pitOf_any _ _ _ _ _ _ _ _ _ _ _ _ b0 b1 p0 p1 m0 (by omega)).mono ?_; rintro e w3 ⟨rfl, hb3⟩))
    go_ret2
    exact ⟨rfl, (by repeat (first | exact Below.refl _ _ | assumption | refine sub_alloc ?_ _ | refine sub_setCell ?_ (by simp <;> omega) _ | refine sub_drew ?_ | refine below_drewN ?_ _ | refine sub_step (by assumption) ?_ (by first | rfl | (simp; done))))⟩
  obtain ⟨p0, p1⟩ := inB_t hp
  cases hm : inB mv 0 (p - 1)
  · have e1 : pitOfMoveF ⟨p, s, st, sk, re, fe, ag, c, sl⟩ pl mv = (0, 2) := by simp [pitOfMoveF, hv, hp, hm]
    rw [e1]
    clear e1
    go_enter Try.func33, Try.ntmps33
    go_wp2_with (first | (go_at_call 108; refine (ValidRules_any _ _ _ _ _ _ _ _ _ _).mono ?_; rintro e w1 ⟨rfl, hb1⟩; obtain ⟨k0, k1, k2, k3, k4, k5, k6, k7, k8⟩ := (hr.below hb1 (by simp)).flat) | (go_at_call 109; refine (isPlayer_any _ _).mono ?_; rintro e w' ⟨rfl, rfl⟩) | (go_at_call 110; refine (isMove_any _ _ _ _ _ _ _ _ _ _ _ b0 b1).mono ?_; rintro e w2 ⟨rfl, hb2⟩; obtain ⟨k0, k1, k2, k3, k4, k5, k6, k7, k8⟩ := ((hr.below hb1 (by simp)).below hb2 (hr.below hb1 (by simp)).lt).flat) | (go_at_call 111; refine (pitOf_any _ _ _ _ _ _ _ _ _ _ _ _ b0 b1 p0 p1 m0 (by omega)).mono ?_; rintro e w3 ⟨rfl, hb3⟩))
    go_ret2
    exact ⟨rfl, (by repeat (first | exact Below.refl _ _ | assumption | refine sub_alloc ?_ _ | refine sub_setCell ?_ (by simp <;> omega) _ | refine sub_drew ?_ | refine below_drewN ?_ _ | refine sub_step (by assumption) ?_ (by first | rfl | (simp; done))))⟩
  obtain ⟨m0, m1⟩ := inB_t hm
  have e1 : pitOfMoveF ⟨p, s, st, sk, re, fe, ag, c, sl⟩ pl mv = (pl * p + mv, 0) := by simp [pitOfMoveF, hv, hp, hm]
  rw [e1]
  have hpp : 0 ≤ pl * p ∧ pl * p ≤ 8 := by rcases (show pl = 0 ∨ pl = 1 by omega) with rfl | rfl <;> omega
  obtain ⟨pp0, pp1⟩ := hpp
  clear e1
  go_enter Try.func33, Try.ntmps33
  go_wp2_with (first | (go_at_call 108; refine (ValidRules_any _ _ _ _ _ _ _ _ _ _).mono ?_; rintro e w1 ⟨rfl, hb1⟩; obtain ⟨k0, k1, k2, k3, k4, k5, k6, k7, k8⟩ := (hr.below hb1 (by simp)).flat) | (go_at_call 109; refine (isPlayer_any _ _).mono ?_; rintro e w' ⟨rfl, rfl⟩) | (go_at_call 110; refine (isMove_any _ _ _ _ _ _ _ _ _ _ _ b0 b1).mono ?_; rintro e w2 ⟨rfl, hb2⟩; obtain ⟨k0, k1, k2, k3, k4, k5, k6, k7, k8⟩ := ((hr.below hb1 (by simp)).below hb2 (hr.below hb1 (by simp)).lt).flat) | (go_at_call 111; refine (pitOf_any _ _ _ _ _ _ _ _ _ _ _ _ b0 b1 p0 p1 m0 (by omega)).mono ?_; rintro e w3 ⟨rfl, hb3⟩))
  go_ret2
  exact ⟨ret_pair rfl, (by repeat (first | exact Below.refl _ _ | assumption | refine sub_alloc ?_ _ | refine sub_setCell ?_ (by simp <;> omega) _ | refine sub_drew ?_ | refine below_drewN ?_ _ | refine sub_step (by assumption) ?_ (by first | rfl | (simp; done))))⟩
set_option maxHeartbeats 2000000 in
theorem specPitOfMove_any (p s : Int) (st sk re fe ag : Bool) (c sl : Int) (pl mv : Int) (w : World) : Calls Try.prog 31 #[.agg #[.int .i64 p, .int .i64 s, .bool st, .bool sk, .bool re, .bool fe, .bool ag, .int .i64 c, .int .i64 sl], .int .i64 pl, .int .i64 mv] w fun e w' => e = .returned (.tuple #[.int .i64 (pitOfMoveF ⟨p, s, st, sk, re, fe, ag, c, sl⟩ pl mv).1, .int .i64 (pitOfMoveF ⟨p, s, st, sk, re, fe, ag, c, sl⟩ pl mv).2]) ∧ Below w.heap.size w w' := by
  have hr := RuAt.box w 26 p s st sk re fe ag c sl
  cases hv : okR ⟨p, s, st, sk, re, fe, ag, c, sl⟩
  · have e1 : pitOfMoveF ⟨p, s, st, sk, re, fe, ag, c, sl⟩ pl mv = (0, 1) := by simp [pitOfMoveF, hv]
    rw [e1]
    clear e1
    go_enter Try.func31, Try.ntmps31
    go_wp2_with (first | (go_at_call 106; refine (l02Ok_any _ _ ⟨p, s, st, sk, re, fe, ag, c, sl⟩ _ hr).mono ?_; rintro e w1 ⟨rfl, rfl⟩) | (go_at_call 107; refine (l00In_any _ _ _ _).mono ?_; rintro e w' ⟨rfl, rfl⟩))
    go_ret2
    exact ⟨rfl, (by repeat (first | exact Below.refl _ _ | assumption | refine sub_alloc ?_ _ | refine sub_setCell ?_ (by simp <;> omega) _ | refine sub_drew ?_ | refine below_drewN ?_ _ | refine sub_step (by assumption) ?_ (by first | rfl | (simp; done))))⟩
  obtain ⟨b0, b1, -⟩ := okR_bd hv
  cases hp : inB pl 0 1
  · have e1 : pitOfMoveF ⟨p, s, st, sk, re, fe, ag, c, sl⟩ pl mv = (0, 2) := by simp [pitOfMoveF, hv, hp]
    rw [e1]
    clear e1
    go_enter Try.func31, Try.ntmps31
    go_wp2_with (first | (go_at_call 106; refine (l02Ok_any _ _ ⟨p, s, st, sk, re, fe, ag, c, sl⟩ _ hr).mono ?_; rintro e w1 ⟨rfl, rfl⟩) | (go_at_call 107; refine (l00In_any _ _ _ _).mono ?_; rintro e w' ⟨rfl, rfl⟩))
    go_ret2
    exact ⟨rfl, (by repeat (first | exact Below.refl _ _ | assumption | refine sub_alloc ?_ _ | refine sub_setCell ?_ (by simp <;> omega) _ | refine sub_drew ?_ | refine below_drewN ?_ _ | refine sub_step (by assumption) ?_ (by first | rfl | (simp; done))))⟩
  obtain ⟨p0, p1⟩ := inB_t hp
  cases hm : inB mv 0 (p - 1)
  · have e1 : pitOfMoveF ⟨p, s, st, sk, re, fe, ag, c, sl⟩ pl mv = (0, 2) := by simp [pitOfMoveF, hv, hp, hm]
    rw [e1]
    clear e1
    go_enter Try.func31, Try.ntmps31
    go_wp2_with (first | (go_at_call 106; refine (l02Ok_any _ _ ⟨p, s, st, sk, re, fe, ag, c, sl⟩ _ hr).mono ?_; rintro e w1 ⟨rfl, rfl⟩) | (go_at_call 107; refine (l00In_any _ _ _ _).mono ?_; rintro e w' ⟨rfl, rfl⟩))
    go_ret2
    exact ⟨rfl, (by repeat (first | exact Below.refl _ _ | assumption | refine sub_alloc ?_ _ | refine sub_setCell ?_ (by simp <;> omega) _ | refine sub_drew ?_ | refine below_drewN ?_ _ | refine sub_step (by assumption) ?_ (by first | rfl | (simp; done))))⟩
  obtain ⟨m0, m1⟩ := inB_t hm
  have e1 : pitOfMoveF ⟨p, s, st, sk, re, fe, ag, c, sl⟩ pl mv = (pl * p + mv, 0) := by simp [pitOfMoveF, hv, hp, hm]
  rw [e1]
  have hpp : 0 ≤ pl * p ∧ pl * p ≤ 8 := by rcases (show pl = 0 ∨ pl = 1 by omega) with rfl | rfl <;> omega
  obtain ⟨pp0, pp1⟩ := hpp
  clear e1
  go_enter Try.func31, Try.ntmps31
  go_wp2_with (first | (go_at_call 106; refine (l02Ok_any _ _ ⟨p, s, st, sk, re, fe, ag, c, sl⟩ _ hr).mono ?_; rintro e w1 ⟨rfl, rfl⟩) | (go_at_call 107; refine (l00In_any _ _ _ _).mono ?_; rintro e w' ⟨rfl, rfl⟩))
  go_ret2
  exact ⟨ret_pair rfl, (by repeat (first | exact Below.refl _ _ | assumption | refine sub_alloc ?_ _ | refine sub_setCell ?_ (by simp <;> omega) _ | refine sub_drew ?_ | refine below_drewN ?_ _ | refine sub_step (by assumption) ?_ (by first | rfl | (simp; done))))⟩
set_option maxHeartbeats 1000000 in
theorem FnExactPitOfMove_walk (a0 : Ru) (pl mv : Int) (w : World) (_h : a0.wf) (_h1 : in64 pl) (_h2 : in64 mv) : Calls Try.prog 3 #[.agg a0.cells.toArray, .int .i64 pl, .int .i64 mv] w fun e w' => e = .returned (.bool true) ∧ Below w.heap.size w w' := by
  obtain ⟨p, s, st, sk, re, fe, ag, c, sl⟩ := a0
  show Calls Try.prog 3 #[.agg #[.int .i64 p, .int .i64 s, .bool st, .bool sk, .bool re, .bool fe, .bool ag, .int .i64 c, .int .i64 sl], .int .i64 pl, .int .i64 mv] w _
  clear _h _h1 _h2
  have hr := RuAt.box w 23 p s st sk re fe ag c sl
  go_enter Try.func3, Try.ntmps3
  go_wp2_with fail
  refine (toRules_any _ _ _ _ _ _ _ _ _ _).mono ?_; rintro e w1 ⟨rfl, hb1⟩
  have q1 := hr.below hb1 (by simp)
  go_wp2_with fail
  refine (specPitOfMove_any _ _ _ _ _ _ _ _ _ _ _ _).mono ?_; rintro e w2 ⟨rfl, hb2⟩
  obtain ⟨k0, k1, k2, k3, k4, k5, k6, k7, k8⟩ := (q1.below hb2 q1.lt).flat
  go_wp2_with fail
  refine (toRules_any _ _ _ _ _ _ _ _ _ _).mono ?_; rintro e w3 ⟨rfl, hb3⟩
  go_wp2_with fail
  refine (PitOfMove_any _ _ _ _ _ _ _ _ _ _ _ _).mono ?_; rintro e w4 ⟨rfl, hb4⟩
  go_wp2_with fail
  go_ret
  exact ⟨rfl, (by repeat (first | exact Below.refl _ _ | assumption | refine sub_alloc ?_ _ | refine sub_setCell ?_ (by simp <;> omega) _ | refine sub_drew ?_ | refine below_drewN ?_ _ | refine sub_step (by assumption) ?_ (by first | rfl | (simp; done))))⟩
end Go.Proofs.Ytgcmlalpeikiaab
