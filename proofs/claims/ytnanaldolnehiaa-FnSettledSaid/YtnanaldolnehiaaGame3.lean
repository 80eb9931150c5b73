/-
  Games that came in, sized; equal games compared.
-/
import Derived.Test.YtnanaldolnehiaaGame
import Derived.Test.YtnanaldolnehiaaArgs
set_option linter.unusedSimpArgs false
set_option linter.unusedVariables false
namespace Go.Proofs.Ytnanaldolnehiaa
open Go.ChangeShapes Go.WideShapes Go.RowKit Go.Deep

theorem eqRules_refl (p s : Int) (st sk re fe ag : Bool) (c sl : Int) (w : World) : Calls Try.prog 113 #[.agg #[.int .i64 p, .int .i64 s, .bool st, .bool sk, .bool re, .bool fe, .bool ag, .int .i64 c, .int .i64 sl], .agg #[.int .i64 p, .int .i64 s, .bool st, .bool sk, .bool re, .bool fe, .bool ag, .int .i64 c, .int .i64 sl]] w fun e w' => e = .returned (.bool true) ∧ Below w.heap.size w w' := by
  go_enter Try.func113, Try.ntmps113
  go_wp2_with fail
  go_ret
  exact ⟨rfl, (by repeat (first | with_reducible exact Below.refl _ _ | with_reducible assumption | with_reducible refine sub_alloc ?_ _ | (with_reducible refine sub_setCell2 ?_ ?_ _; (focus (first | (simp; done) | (simp <;> omega)))) | with_reducible refine sub_drew ?_ | with_reducible refine below_drewN ?_ _ | with_reducible refine sub_step (by assumption) ?_ (by first | rfl | (simp; done)) | exact Below.refl _ _ | assumption | refine sub_alloc ?_ _ | refine sub_setCell ?_ (by simp <;> omega) _ | refine sub_drew ?_ | refine below_drewN ?_ _ | refine sub_step (by assumption) ?_ (by first | rfl | (simp; done))))⟩
set_option maxRecDepth 100000 in
set_option maxHeartbeats 8000000 in
theorem eqGame_same (p1 s1 : Int) (st1 sk1 re1 fe1 ag1 : Bool) (c1 sl1 : Int) (A1 : Option Addr) (n1 u1 : Nat) (A1' : Option Addr) (n1' u1' : Nat) (pl1 : Int) (M1 : Option Addr) (k1 d1 : Nat) (B1 : Option Addr) (m1 e1 : Nat) (B1' : Option Addr) (m1' e1' : Nat) (ql1 z1 : Int) (xs1 xs1' ms1 ys1 ys1' : List Int) (A2 : Option Addr) (u2 : Nat) (A2' : Option Addr) (u2' : Nat) (M2 : Option Addr) (d2 : Nat) (B2 : Option Addr) (e2 : Nat) (B2' : Option Addr) (e2' : Nat) (w : World) (h1 : Ints w w.heap.size A1 n1 u1 xs1 ∧ Ints w w.heap.size A1' n1' u1' xs1' ∧ Ints w w.heap.size M1 k1 d1 ms1 ∧ Ints w w.heap.size B1 m1 e1 ys1 ∧ Ints w w.heap.size B1' m1' e1' ys1') (h2 : Ints w w.heap.size A2 n1 u2 xs1 ∧ Ints w w.heap.size A2' n1' u2' xs1' ∧ Ints w w.heap.size M2 k1 d2 ms1 ∧ Ints w w.heap.size B2 m1 e2 ys1 ∧ Ints w w.heap.size B2' m1' e2' ys1') :
    Calls Try.prog 37 #[.agg #[.int .i64 p1, .int .i64 s1, .bool st1, .bool sk1, .bool re1, .bool fe1, .bool ag1, .int .i64 c1, .int .i64 sl1, .slice A1 n1 u1, .slice A1' n1' u1', .int .i64 pl1, .slice M1 k1 d1, .slice B1 m1 e1, .slice B1' m1' e1', .int .i64 ql1, .int .i64 z1], .agg #[.int .i64 p1, .int .i64 s1, .bool st1, .bool sk1, .bool re1, .bool fe1, .bool ag1, .int .i64 c1, .int .i64 sl1, .slice A2 n1 u2, .slice A2' n1' u2', .int .i64 pl1, .slice M2 k1 d2, .slice B2 m1 e2, .slice B2' m1' e2', .int .i64 ql1, .int .i64 z1]] w fun e w' => e = .returned (.bool true) ∧ Below w.heap.size w w' := by
  have bW : Below w.heap.size w ((w.alloc (.cells #[.int .i64 p1, .int .i64 s1, .bool st1, .bool sk1, .bool re1, .bool fe1, .bool ag1, .int .i64 c1, .int .i64 sl1, .slice A1 n1 u1, .slice A1' n1' u1', .int .i64 pl1, .slice M1 k1 d1, .slice B1 m1 e1, .slice B1' m1' e1', .int .i64 ql1, .int .i64 z1] 50)).alloc (.cells #[.int .i64 p1, .int .i64 s1, .bool st1, .bool sk1, .bool re1, .bool fe1, .bool ag1, .int .i64 c1, .int .i64 sl1, .slice A2 n1 u2, .slice A2' n1' u2', .int .i64 pl1, .slice M2 k1 d2, .slice B2 m1 e2, .slice B2' m1' e2', .int .i64 ql1, .int .i64 z1] 50)) := (by repeat (first | with_reducible exact Below.refl _ _ | with_reducible assumption | with_reducible refine sub_alloc ?_ _ | (with_reducible refine sub_setCell2 ?_ ?_ _; (focus (first | (simp; done) | (simp <;> omega)))) | with_reducible refine sub_drew ?_ | with_reducible refine below_drewN ?_ _ | with_reducible refine sub_step (by assumption) ?_ (by first | rfl | (simp; done)) | exact Below.refl _ _ | assumption | refine sub_alloc ?_ _ | refine sub_setCell ?_ (by simp <;> omega) _ | refine sub_drew ?_ | refine below_drewN ?_ _ | refine sub_step (by assumption) ?_ (by first | rfl | (simp; done))))
  have G1 := (Has.box w [.int .i64 p1, .int .i64 s1, .bool st1, .bool sk1, .bool re1, .bool fe1, .bool ag1, .int .i64 c1, .int .i64 sl1, .slice A1 n1 u1, .slice A1' n1' u1', .int .i64 pl1, .slice M1 k1 d1, .slice B1 m1 e1, .slice B1' m1' e1', .int .i64 ql1, .int .i64 z1] 50 w.heap.size rfl).alloc (.cells #[.int .i64 p1, .int .i64 s1, .bool st1, .bool sk1, .bool re1, .bool fe1, .bool ag1, .int .i64 c1, .int .i64 sl1, .slice A2 n1 u2, .slice A2' n1' u2', .int .i64 pl1, .slice M2 k1 d2, .slice B2 m1 e2, .slice B2' m1' e2', .int .i64 ql1, .int .i64 z1] 50)
  have G2 := Has.box (w.alloc (.cells #[.int .i64 p1, .int .i64 s1, .bool st1, .bool sk1, .bool re1, .bool fe1, .bool ag1, .int .i64 c1, .int .i64 sl1, .slice A1 n1 u1, .slice A1' n1' u1', .int .i64 pl1, .slice M1 k1 d1, .slice B1 m1 e1, .slice B1' m1' e1', .int .i64 ql1, .int .i64 z1] 50)) [.int .i64 p1, .int .i64 s1, .bool st1, .bool sk1, .bool re1, .bool fe1, .bool ag1, .int .i64 c1, .int .i64 sl1, .slice A2 n1 u2, .slice A2' n1' u2', .int .i64 pl1, .slice M2 k1 d2, .slice B2 m1 e2, .slice B2' m1' e2', .int .i64 ql1, .int .i64 z1] 50 (w.heap.size + 1) (by simp)
  have H1 := Lib.hid (show _ ∧ _ ∧ _ ∧ _ ∧ _ from ⟨h1.1.sub bW, h1.2.1.sub bW, h1.2.2.1.sub bW, h1.2.2.2.1.sub bW, h1.2.2.2.2.sub bW⟩)
  have H2 := Lib.hid (show _ ∧ _ ∧ _ ∧ _ ∧ _ from ⟨h2.1.sub bW, h2.2.1.sub bW, h2.2.2.1.sub bW, h2.2.2.2.1.sub bW, h2.2.2.2.2.sub bW⟩)
  obtain ⟨W, hW⟩ : ∃ W, W = (w.alloc (.cells #[.int .i64 p1, .int .i64 s1, .bool st1, .bool sk1, .bool re1, .bool fe1, .bool ag1, .int .i64 c1, .int .i64 sl1, .slice A1 n1 u1, .slice A1' n1' u1', .int .i64 pl1, .slice M1 k1 d1, .slice B1 m1 e1, .slice B1' m1' e1', .int .i64 ql1, .int .i64 z1] 50)).alloc (.cells #[.int .i64 p1, .int .i64 s1, .bool st1, .bool sk1, .bool re1, .bool fe1, .bool ag1, .int .i64 c1, .int .i64 sl1, .slice A2 n1 u2, .slice A2' n1' u2', .int .i64 pl1, .slice M2 k1 d2, .slice B2 m1 e2, .slice B2' m1' e2', .int .i64 ql1, .int .i64 z1] 50) := ⟨_, rfl⟩
  have G1 : Hid (Has W w.heap.size [.int .i64 p1, .int .i64 s1, .bool st1, .bool sk1, .bool re1, .bool fe1, .bool ag1, .int .i64 c1, .int .i64 sl1, .slice A1 n1 u1, .slice A1' n1' u1', .int .i64 pl1, .slice M1 k1 d1, .slice B1 m1 e1, .slice B1' m1' e1', .int .i64 ql1, .int .i64 z1]) := Lib.hid (by rw [hW]; exact G1)
  have G2 : Hid (Has W (w.heap.size + 1) [.int .i64 p1, .int .i64 s1, .bool st1, .bool sk1, .bool re1, .bool fe1, .bool ag1, .int .i64 c1, .int .i64 sl1, .slice A2 n1 u2, .slice A2' n1' u2', .int .i64 pl1, .slice M2 k1 d2, .slice B2 m1 e2, .slice B2' m1' e2', .int .i64 ql1, .int .i64 z1]) := Lib.hid (by rw [hW]; exact G2)
  rw [← hW] at bW H1 H2
  have HW := Lib.hid hW
  have BW := Lib.hid bW
  clear h1 h2 hW bW
  go_enter Try.func37, Try.ntmps37
  go_wp2_with fail
  rw [← HW.out]
  refine (eqRules_refl _ _ _ _ _ _ _ _ _ _).mono ?_
  rintro e w1 ⟨rfl, q1⟩
  have X1 := G1.out.sub q1
  have X2 := G2.out.sub q1
  have aa0 := X1.at_ 0 rfl
  have bb0 := X2.at_ 0 rfl
  have aa1 := X1.at_ 1 rfl
  have bb1 := X2.at_ 1 rfl
  have aa2 := X1.at_ 2 rfl
  have bb2 := X2.at_ 2 rfl
  have aa3 := X1.at_ 3 rfl
  have bb3 := X2.at_ 3 rfl
  have aa4 := X1.at_ 4 rfl
  have bb4 := X2.at_ 4 rfl
  have aa5 := X1.at_ 5 rfl
  have bb5 := X2.at_ 5 rfl
  have aa6 := X1.at_ 6 rfl
  have bb6 := X2.at_ 6 rfl
  have aa7 := X1.at_ 7 rfl
  have bb7 := X2.at_ 7 rfl
  have aa8 := X1.at_ 8 rfl
  have bb8 := X2.at_ 8 rfl
  have aa9 := X1.at_ 9 rfl
  have bb9 := X2.at_ 9 rfl
  have aa10 := X1.at_ 10 rfl
  have bb10 := X2.at_ 10 rfl
  have aa11 := X1.at_ 11 rfl
  have bb11 := X2.at_ 11 rfl
  have aa12 := X1.at_ 12 rfl
  have bb12 := X2.at_ 12 rfl
  have aa13 := X1.at_ 13 rfl
  have bb13 := X2.at_ 13 rfl
  have aa14 := X1.at_ 14 rfl
  have bb14 := X2.at_ 14 rfl
  have aa15 := X1.at_ 15 rfl
  have bb15 := X2.at_ 15 rfl
  have aa16 := X1.at_ 16 rfl
  have bb16 := X2.at_ 16 rfl
  go_wp2_with fail
  refine (eqPosition_any _ _ _ _ _ _ _ _ _ _ _ _ xs1 xs1' xs1 xs1' _ _ _ (by exact H1.out.1.sub q1) (by exact H1.out.2.1.sub q1) (by exact H2.out.1.sub q1) (by exact H2.out.2.1.sub q1)).mono ?_
  rintro e w2 ⟨rfl, t⟩
  have q2 := q1.trans (t.mono q1.size)
  clear t
  have X1 := G1.out.sub q2
  have X2 := G2.out.sub q2
  clear aa0 bb0 aa1 bb1 aa2 bb2 aa3 bb3 aa4 bb4 aa5 bb5 aa6 bb6 aa7 bb7 aa8 bb8 aa9 bb9 aa10 bb10 aa11 bb11 aa12 bb12 aa13 bb13 aa14 bb14 aa15 bb15 aa16 bb16
  have aa0 := X1.at_ 0 rfl
  have bb0 := X2.at_ 0 rfl
  have aa1 := X1.at_ 1 rfl
  have bb1 := X2.at_ 1 rfl
  have aa2 := X1.at_ 2 rfl
  have bb2 := X2.at_ 2 rfl
  have aa3 := X1.at_ 3 rfl
  have bb3 := X2.at_ 3 rfl
  have aa4 := X1.at_ 4 rfl
  have bb4 := X2.at_ 4 rfl
  have aa5 := X1.at_ 5 rfl
  have bb5 := X2.at_ 5 rfl
  have aa6 := X1.at_ 6 rfl
  have bb6 := X2.at_ 6 rfl
  have aa7 := X1.at_ 7 rfl
  have bb7 := X2.at_ 7 rfl
  have aa8 := X1.at_ 8 rfl
  have bb8 := X2.at_ 8 rfl
  have aa9 := X1.at_ 9 rfl
  have bb9 := X2.at_ 9 rfl
  have aa10 := X1.at_ 10 rfl
  have bb10 := X2.at_ 10 rfl
  have aa11 := X1.at_ 11 rfl
  have bb11 := X2.at_ 11 rfl
  have aa12 := X1.at_ 12 rfl
  have bb12 := X2.at_ 12 rfl
  have aa13 := X1.at_ 13 rfl
  have bb13 := X2.at_ 13 rfl
  have aa14 := X1.at_ 14 rfl
  have bb14 := X2.at_ 14 rfl
  have aa15 := X1.at_ 15 rfl
  have bb15 := X2.at_ 15 rfl
  have aa16 := X1.at_ 16 rfl
  have bb16 := X2.at_ 16 rfl
  rw [show (decide (xs1 = xs1) && decide (xs1' = xs1') && decide (pl1 = pl1)) = true by simp]
  go_wp2_with fail
  refine (eqInt64S_is _ _ _ _ _ _ _ _ ms1 ms1 true (decide_eq_true rfl) _ (by exact H1.out.2.2.1.sub q2) (by exact H2.out.2.2.1.sub q2)).mono ?_
  rintro e w3 ⟨rfl, m3, hm3⟩
  have q3 : Below W.heap.size W w3 := by rw [hm3]; exact below_drewN q2 _
  clear hm3
  have X1 := G1.out.sub q3
  have X2 := G2.out.sub q3
  clear aa0 bb0 aa1 bb1 aa2 bb2 aa3 bb3 aa4 bb4 aa5 bb5 aa6 bb6 aa7 bb7 aa8 bb8 aa9 bb9 aa10 bb10 aa11 bb11 aa12 bb12 aa13 bb13 aa14 bb14 aa15 bb15 aa16 bb16
  have aa0 := X1.at_ 0 rfl
  have bb0 := X2.at_ 0 rfl
  have aa1 := X1.at_ 1 rfl
  have bb1 := X2.at_ 1 rfl
  have aa2 := X1.at_ 2 rfl
  have bb2 := X2.at_ 2 rfl
  have aa3 := X1.at_ 3 rfl
  have bb3 := X2.at_ 3 rfl
  have aa4 := X1.at_ 4 rfl
  have bb4 := X2.at_ 4 rfl
  have aa5 := X1.at_ 5 rfl
  have bb5 := X2.at_ 5 rfl
  have aa6 := X1.at_ 6 rfl
  have bb6 := X2.at_ 6 rfl
  have aa7 := X1.at_ 7 rfl
  have bb7 := X2.at_ 7 rfl
  have aa8 := X1.at_ 8 rfl
  have bb8 := X2.at_ 8 rfl
  have aa9 := X1.at_ 9 rfl
  have bb9 := X2.at_ 9 rfl
  have aa10 := X1.at_ 10 rfl
  have bb10 := X2.at_ 10 rfl
  have aa11 := X1.at_ 11 rfl
  have bb11 := X2.at_ 11 rfl
  have aa12 := X1.at_ 12 rfl
  have bb12 := X2.at_ 12 rfl
  have aa13 := X1.at_ 13 rfl
  have bb13 := X2.at_ 13 rfl
  have aa14 := X1.at_ 14 rfl
  have bb14 := X2.at_ 14 rfl
  have aa15 := X1.at_ 15 rfl
  have bb15 := X2.at_ 15 rfl
  have aa16 := X1.at_ 16 rfl
  have bb16 := X2.at_ 16 rfl
  go_wp2_with fail
  refine (eqPosition_any _ _ _ _ _ _ _ _ _ _ _ _ ys1 ys1' ys1 ys1' _ _ _ (by exact H1.out.2.2.2.1.sub q3) (by exact H1.out.2.2.2.2.sub q3) (by exact H2.out.2.2.2.1.sub q3) (by exact H2.out.2.2.2.2.sub q3)).mono ?_
  rintro e w4 ⟨rfl, t⟩
  have q4 := q3.trans (t.mono q3.size)
  clear t
  have X1 := G1.out.sub q4
  have X2 := G2.out.sub q4
  clear aa0 bb0 aa1 bb1 aa2 bb2 aa3 bb3 aa4 bb4 aa5 bb5 aa6 bb6 aa7 bb7 aa8 bb8 aa9 bb9 aa10 bb10 aa11 bb11 aa12 bb12 aa13 bb13 aa14 bb14 aa15 bb15 aa16 bb16
  have aa0 := X1.at_ 0 rfl
  have bb0 := X2.at_ 0 rfl
  have aa1 := X1.at_ 1 rfl
  have bb1 := X2.at_ 1 rfl
  have aa2 := X1.at_ 2 rfl
  have bb2 := X2.at_ 2 rfl
  have aa3 := X1.at_ 3 rfl
  have bb3 := X2.at_ 3 rfl
  have aa4 := X1.at_ 4 rfl
  have bb4 := X2.at_ 4 rfl
  have aa5 := X1.at_ 5 rfl
  have bb5 := X2.at_ 5 rfl
  have aa6 := X1.at_ 6 rfl
  have bb6 := X2.at_ 6 rfl
  have aa7 := X1.at_ 7 rfl
  have bb7 := X2.at_ 7 rfl
  have aa8 := X1.at_ 8 rfl
  have bb8 := X2.at_ 8 rfl
  have aa9 := X1.at_ 9 rfl
  have bb9 := X2.at_ 9 rfl
  have aa10 := X1.at_ 10 rfl
  have bb10 := X2.at_ 10 rfl
  have aa11 := X1.at_ 11 rfl
  have bb11 := X2.at_ 11 rfl
  have aa12 := X1.at_ 12 rfl
  have bb12 := X2.at_ 12 rfl
  have aa13 := X1.at_ 13 rfl
  have bb13 := X2.at_ 13 rfl
  have aa14 := X1.at_ 14 rfl
  have bb14 := X2.at_ 14 rfl
  have aa15 := X1.at_ 15 rfl
  have bb15 := X2.at_ 15 rfl
  have aa16 := X1.at_ 16 rfl
  have bb16 := X2.at_ 16 rfl
  rw [show (decide (ys1 = ys1) && decide (ys1' = ys1') && decide (ql1 = ql1)) = true by simp]
  go_wp2_with fail
  go_ret
  exact ⟨rfl, BW.out.trans (q4.mono BW.out.size)⟩
/-- What is left behind a game. -/
def szG (left : Int) (n n' k m m' : Nat) : Int := if szPF left n n' < 0 then -1 else if szF (szPF left n n') k < 0 then -1 else if szPF (szF (szPF left n n') k) m m' < 0 then -1 else szPF (szF (szPF left n n') k) m m'
theorem szG_ok {left : Int} {n n' k m m' : Nat} (h : 0 ≤ szG left n n' k m m') : (n : Int) + n' + k + m + m' ≤ left ∧ szG left n n' k m m' ≤ left := by
  unfold szG at h ⊢
  by_cases h1 : szPF left n n' < 0
  · rw [if_pos h1] at h; omega
  rw [if_neg h1] at h ⊢
  by_cases h2 : szF (szPF left n n') k < 0
  · rw [if_pos h2] at h; omega
  rw [if_neg h2] at h ⊢
  by_cases h3 : szPF (szF (szPF left n n') k) m m' < 0
  · rw [if_pos h3] at h; omega
  rw [if_neg h3] at h ⊢
  obtain ⟨a1, a2⟩ := szPF_ok (left := left) (n := n) (n' := n') (by omega)
  obtain ⟨b1, b2⟩ := szF_ok (left := szPF left n n') (n := k) (by omega)
  obtain ⟨c1, c2⟩ := szPF_ok (left := szF (szPF left n n') k) (n := m) (n' := m') (by omega)
  omega
set_option maxRecDepth 100000 in
set_option maxHeartbeats 4000000 in
theorem szGame_any (p1 s1 : Int) (st1 sk1 re1 fe1 ag1 : Bool) (c1 sl1 : Int) (A1 : Option Addr) (n1 u1 : Nat) (A1' : Option Addr) (n1' u1' : Nat) (pl1 : Int) (M1 : Option Addr) (k1 d1 : Nat) (B1 : Option Addr) (m1 e1 : Nat) (B1' : Option Addr) (m1' e1' : Nat) (ql1 z1 : Int) (left : Int) (w : World) (b0 : n1 ≤ 9223372036854775807) (b1 : n1' ≤ 9223372036854775807) (b2 : k1 ≤ 9223372036854775807) (b3 : m1 ≤ 9223372036854775807) (b4 : m1' ≤ 9223372036854775807) (h0 : 0 ≤ left) (h1' : left ≤ 1048576) :
    Calls Try.prog 33 #[.agg #[.int .i64 p1, .int .i64 s1, .bool st1, .bool sk1, .bool re1, .bool fe1, .bool ag1, .int .i64 c1, .int .i64 sl1, .slice A1 n1 u1, .slice A1' n1' u1', .int .i64 pl1, .slice M1 k1 d1, .slice B1 m1 e1, .slice B1' m1' e1', .int .i64 ql1, .int .i64 z1], .int .i64 left] w fun e w' => e = .returned (.int .i64 (szG left n1 n1' k1 m1 m1')) ∧ Below w.heap.size w w' := by
  have bW : Below w.heap.size w (w.alloc (.cells #[.int .i64 p1, .int .i64 s1, .bool st1, .bool sk1, .bool re1, .bool fe1, .bool ag1, .int .i64 c1, .int .i64 sl1, .slice A1 n1 u1, .slice A1' n1' u1', .int .i64 pl1, .slice M1 k1 d1, .slice B1 m1 e1, .slice B1' m1' e1', .int .i64 ql1, .int .i64 z1] 46)) := (by repeat (first | with_reducible exact Below.refl _ _ | with_reducible assumption | with_reducible refine sub_alloc ?_ _ | (with_reducible refine sub_setCell2 ?_ ?_ _; (focus (first | (simp; done) | (simp <;> omega)))) | with_reducible refine sub_drew ?_ | with_reducible refine below_drewN ?_ _ | with_reducible refine sub_step (by assumption) ?_ (by first | rfl | (simp; done)) | exact Below.refl _ _ | assumption | refine sub_alloc ?_ _ | refine sub_setCell ?_ (by simp <;> omega) _ | refine sub_drew ?_ | refine below_drewN ?_ _ | refine sub_step (by assumption) ?_ (by first | rfl | (simp; done))))
  have G1 := Has.box w [.int .i64 p1, .int .i64 s1, .bool st1, .bool sk1, .bool re1, .bool fe1, .bool ag1, .int .i64 c1, .int .i64 sl1, .slice A1 n1 u1, .slice A1' n1' u1', .int .i64 pl1, .slice M1 k1 d1, .slice B1 m1 e1, .slice B1' m1' e1', .int .i64 ql1, .int .i64 z1] 46 w.heap.size rfl
  obtain ⟨W, hW⟩ : ∃ W, W = w.alloc (.cells #[.int .i64 p1, .int .i64 s1, .bool st1, .bool sk1, .bool re1, .bool fe1, .bool ag1, .int .i64 c1, .int .i64 sl1, .slice A1 n1 u1, .slice A1' n1' u1', .int .i64 pl1, .slice M1 k1 d1, .slice B1 m1 e1, .slice B1' m1' e1', .int .i64 ql1, .int .i64 z1] 46) := ⟨_, rfl⟩
  have G1 : Hid (Has W w.heap.size [.int .i64 p1, .int .i64 s1, .bool st1, .bool sk1, .bool re1, .bool fe1, .bool ag1, .int .i64 c1, .int .i64 sl1, .slice A1 n1 u1, .slice A1' n1' u1', .int .i64 pl1, .slice M1 k1 d1, .slice B1 m1 e1, .slice B1' m1' e1', .int .i64 ql1, .int .i64 z1]) := Lib.hid (by rw [hW]; exact G1)
  rw [← hW] at bW
  have HW := Lib.hid hW
  have BW := Lib.hid bW
  clear hW bW
  by_cases e1 : szPF left n1 n1' < 0
  · have RS : Hid (szG left n1 n1' k1 m1 m1' = -1) := Lib.hid (by rw [szG, if_pos e1])
    obtain ⟨a, ha⟩ : ∃ a, szPF left n1 n1' = a := ⟨_, rfl⟩
    have L1 := Lib.hid ha
    rw [ha] at e1
    clear ha
    rw [RS.out]
    go_enter Try.func33, Try.ntmps33
    go_wp2_with fail
    rw [← HW.out]
    refine (szPosition_any _ _ _ _ _ _ _ _ _ b0 b1 h0 h1').mono ?_
    rintro e w1 ⟨rfl, q1⟩
    have X1 := G1.out.sub q1
    have aa9 := X1.at_ 9 rfl
    have aa10 := X1.at_ 10 rfl
    have aa11 := X1.at_ 11 rfl
    have aa12 := X1.at_ 12 rfl
    have aa13 := X1.at_ 13 rfl
    have aa14 := X1.at_ 14 rfl
    have aa15 := X1.at_ 15 rfl
    have aa16 := X1.at_ 16 rfl
    rw [L1.out]
    go_wp2_with fail
    go_ret
    exact ⟨by first | rfl | (rw [RS.out]), BW.out.trans (q1.mono BW.out.size)⟩
  obtain ⟨a1, a2⟩ := szPF_ok (left := left) (n := n1) (n' := n1') (by omega)
  by_cases e2 : szF (szPF left n1 n1') k1 < 0
  · have RS : Hid (szG left n1 n1' k1 m1 m1' = -1) := Lib.hid (by rw [szG, if_neg e1, if_pos e2])
    obtain ⟨a, ha⟩ : ∃ a, szPF left n1 n1' = a := ⟨_, rfl⟩
    rw [ha] at e1 e2 a2
    have i1 : 0 ≤ a := by omega
    have i2 : a ≤ 1048576 := by omega
    obtain ⟨c, hc⟩ : ∃ c, szF a k1 = c := ⟨_, rfl⟩
    rw [hc] at e2
    have L1 := Lib.hid ha
    have L2 := Lib.hid hc
    clear ha hc e1 a2
    rw [RS.out]
    go_enter Try.func33, Try.ntmps33
    go_wp2_with fail
    rw [← HW.out]
    refine (szPosition_any _ _ _ _ _ _ _ _ _ b0 b1 h0 h1').mono ?_
    rintro e w1 ⟨rfl, q1⟩
    have X1 := G1.out.sub q1
    have aa9 := X1.at_ 9 rfl
    have aa10 := X1.at_ 10 rfl
    have aa11 := X1.at_ 11 rfl
    have aa12 := X1.at_ 12 rfl
    have aa13 := X1.at_ 13 rfl
    have aa14 := X1.at_ 14 rfl
    have aa15 := X1.at_ 15 rfl
    have aa16 := X1.at_ 16 rfl
    rw [L1.out]
    go_wp2_with fail
    refine (szInt64S_any _ _ _ _ _ b2 (by omega) (by omega)).mono ?_
    rintro e w2 ⟨rfl, rfl⟩
    rw [L2.out]
    go_wp2_with fail
    go_ret
    exact ⟨by first | rfl | (rw [RS.out]), BW.out.trans (q1.mono BW.out.size)⟩
  obtain ⟨c1_, c2_⟩ := szF_ok (left := szPF left n1 n1') (n := k1) (by omega)
  by_cases e3 : szPF (szF (szPF left n1 n1') k1) m1 m1' < 0
  · have RS : Hid (szG left n1 n1' k1 m1 m1' = -1) := Lib.hid (by rw [szG, if_neg e1, if_neg e2, if_pos e3])
    obtain ⟨a, ha⟩ : ∃ a, szPF left n1 n1' = a := ⟨_, rfl⟩
    rw [ha] at e1 e2 e3 a2 c1_ c2_
    have i1 : 0 ≤ a := by omega
    have i2 : a ≤ 1048576 := by omega
    obtain ⟨c, hc⟩ : ∃ c, szF a k1 = c := ⟨_, rfl⟩
    rw [hc] at e2 e3 c2_
    have i3 : 0 ≤ c := by omega
    have i4 : c ≤ 1048576 := by omega
    obtain ⟨d, hd⟩ : ∃ d, szPF c m1 m1' = d := ⟨_, rfl⟩
    rw [hd] at e3
    have L1 := Lib.hid ha
    have L2 := Lib.hid hc
    have L3 := Lib.hid hd
    clear ha hc hd e1 e2 a2 c1_ c2_
    rw [RS.out]
    go_enter Try.func33, Try.ntmps33
    go_wp2_with fail
    rw [← HW.out]
    refine (szPosition_any _ _ _ _ _ _ _ _ _ b0 b1 h0 h1').mono ?_
    rintro e w1 ⟨rfl, q1⟩
    have X1 := G1.out.sub q1
    have aa9 := X1.at_ 9 rfl
    have aa10 := X1.at_ 10 rfl
    have aa11 := X1.at_ 11 rfl
    have aa12 := X1.at_ 12 rfl
    have aa13 := X1.at_ 13 rfl
    have aa14 := X1.at_ 14 rfl
    have aa15 := X1.at_ 15 rfl
    have aa16 := X1.at_ 16 rfl
    rw [L1.out]
    go_wp2_with fail
    refine (szInt64S_any _ _ _ _ _ b2 (by omega) (by omega)).mono ?_
    rintro e w2 ⟨rfl, rfl⟩
    rw [L2.out]
    go_wp2_with fail
    refine (szPosition_any _ _ _ _ _ _ _ _ _ b3 b4 (by omega) (by omega)).mono ?_
    rintro e w3 ⟨rfl, t⟩
    have q3 := q1.trans (t.mono q1.size)
    rw [L3.out]
    go_wp2_with fail
    go_ret
    exact ⟨by first | rfl | (rw [RS.out]), BW.out.trans (q3.mono BW.out.size)⟩
  have RS0 : szG left n1 n1' k1 m1 m1' = szPF (szF (szPF left n1 n1') k1) m1 m1' := by rw [szG, if_neg e1, if_neg e2, if_neg e3]
  rw [RS0]
  clear RS0
  obtain ⟨a, ha⟩ : ∃ a, szPF left n1 n1' = a := ⟨_, rfl⟩
  rw [ha] at e1 e2 e3 a2 c1_ c2_ ⊢
  have i1 : 0 ≤ a := by omega
  have i2 : a ≤ 1048576 := by omega
  obtain ⟨c, hc⟩ : ∃ c, szF a k1 = c := ⟨_, rfl⟩
  rw [hc] at e2 e3 c2_ ⊢
  have i3 : 0 ≤ c := by omega
  have i4 : c ≤ 1048576 := by omega
  obtain ⟨d, hd⟩ : ∃ d, szPF c m1 m1' = d := ⟨_, rfl⟩
  rw [hd] at e3 ⊢
  have i5 : 0 ≤ d := by omega
  have L1 := Lib.hid ha
  have L2 := Lib.hid hc
  have L3 := Lib.hid hd
  have RS : Hid True := Lib.hid trivial
  clear ha hc hd e1 e2 e3 a2 c1_ c2_
  go_enter Try.func33, Try.ntmps33
  go_wp2_with fail
  rw [← HW.out]
  refine (szPosition_any _ _ _ _ _ _ _ _ _ b0 b1 h0 h1').mono ?_
  rintro e w1 ⟨rfl, q1⟩
  have X1 := G1.out.sub q1
  have aa9 := X1.at_ 9 rfl
  have aa10 := X1.at_ 10 rfl
  have aa11 := X1.at_ 11 rfl
  have aa12 := X1.at_ 12 rfl
  have aa13 := X1.at_ 13 rfl
  have aa14 := X1.at_ 14 rfl
  have aa15 := X1.at_ 15 rfl
  have aa16 := X1.at_ 16 rfl
  rw [L1.out]
  go_wp2_with fail
  refine (szInt64S_any _ _ _ _ _ b2 (by omega) (by omega)).mono ?_
  rintro e w2 ⟨rfl, rfl⟩
  rw [L2.out]
  go_wp2_with fail
  refine (szPosition_any _ _ _ _ _ _ _ _ _ b3 b4 (by omega) (by omega)).mono ?_
  rintro e w3 ⟨rfl, t⟩
  have q3 := q1.trans (t.mono q1.size)
  rw [L3.out]
  go_wp2_with fail
  go_ret
  exact ⟨by first | rfl | (rw [RS.out]), BW.out.trans (q3.mono BW.out.size)⟩
end Go.Proofs.Ytnanaldolnehiaa
