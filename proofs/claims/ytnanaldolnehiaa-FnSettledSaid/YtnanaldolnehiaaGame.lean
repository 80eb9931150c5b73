/-
  Games in memory, as blocks that hold given cells; SameGame of both.
-/
import Derived.Test.YtnanaldolnehiaaSame
import Derived.Test.YtnanaldolnehiaaPos
import Derived.Test.YtnanaldolnehiaaStdName
set_option linter.unusedSimpArgs false
set_option linter.unusedVariables false
namespace Go.Proofs.Ytnanaldolnehiaa
open Go.ChangeShapes Go.WideShapes Go.RowKit Go.Deep

/-- Block b begins with these cells. -/
def Has (w : World) (b : Nat) (cs : List Value) : Prop := b < w.heap.size ∧ ∀ i v, cs[i]? = some v → w.cell? ⟨b, i, none⟩ = some v
section
variable {w w' : World} {b : Nat} {cs : List Value}
theorem Has.lt (h : Has w b cs) : b < w.heap.size := h.1
theorem Has.at_ (h : Has w b cs) (i : Nat) {v : Value} (hv : cs[i]? = some v) : w.cell? ⟨b, i, none⟩ = some v := h.2 i v hv
theorem Has.below {B : Nat} (h : Has w b cs) (hb : Below B w w') (hB : b < B) (hs : w.heap.size ≤ w'.heap.size) : Has w' b cs := ⟨Nat.lt_of_lt_of_le h.1 hs, fun i v hv => (hb.cell (p := ⟨b, i, none⟩) hB).trans (h.2 i v hv)⟩
theorem Has.sub (h : Has w b cs) (hb : Below w.heap.size w w') : Has w' b cs := h.below hb h.1 hb.size
theorem Has.alloc (h : Has w b cs) (o : Obj) : Has (w.alloc o) b cs := h.sub ((Below.refl _ _).alloc (Nat.le_refl _) o)
theorem Has.box (w : World) (cs : List Value) (t : TypeId) (g : Nat) (hg : g = w.heap.size) : Has (w.alloc (.cells cs.toArray t)) g cs := by
  subst hg
  refine ⟨by simp, fun i v hv => ?_⟩
  rw [World.cell?_alloc_new]
  simpa using hv
end
/-- Whether two games are equal. -/
def sameG (r r' : Ru) (xs xs' : List Int) (pl : Int) (ys ys' : List Int) (ql : Int) (ms ns : List Int) (us us' : List Int) (vl : Int) (vs vs' : List Int) (wl z z' : Int) : Bool :=
  eqRu r r' && (sameP xs xs' pl ys ys' ql && (decide (ms = ns) && (sameP us us' vl vs vs' wl && (z == z'))))
set_option maxRecDepth 100000 in
set_option maxHeartbeats 8000000 in
theorem specSameGame_any (p1 s1 : Int) (st1 sk1 re1 fe1 ag1 : Bool) (c1 sl1 : Int) (A1 : Option Addr) (n1 u1 : Nat) (A1' : Option Addr) (n1' u1' : Nat) (pl1 : Int) (M1 : Option Addr) (k1 d1 : Nat) (B1 : Option Addr) (m1 e1 : Nat) (B1' : Option Addr) (m1' e1' : Nat) (ql1 z1 : Int) (xs1 xs1' ms1 ys1 ys1' : List Int) (p2 s2 : Int) (st2 sk2 re2 fe2 ag2 : Bool) (c2 sl2 : Int) (A2 : Option Addr) (n2 u2 : Nat) (A2' : Option Addr) (n2' u2' : Nat) (pl2 : Int) (M2 : Option Addr) (k2 d2 : Nat) (B2 : Option Addr) (m2 e2 : Nat) (B2' : Option Addr) (m2' e2' : Nat) (ql2 z2 : Int) (xs2 xs2' ms2 ys2 ys2' : List Int) (w : World) (h1 : Ints w w.heap.size A1 n1 u1 xs1 ∧ Ints w w.heap.size A1' n1' u1' xs1' ∧ Ints w w.heap.size M1 k1 d1 ms1 ∧ Ints w w.heap.size B1 m1 e1 ys1 ∧ Ints w w.heap.size B1' m1' e1' ys1') (h2 : Ints w w.heap.size A2 n2 u2 xs2 ∧ Ints w w.heap.size A2' n2' u2' xs2' ∧ Ints w w.heap.size M2 k2 d2 ms2 ∧ Ints w w.heap.size B2 m2 e2 ys2 ∧ Ints w w.heap.size B2' m2' e2' ys2') :
    Calls Try.prog 34 #[.agg #[.int .i64 p1, .int .i64 s1, .bool st1, .bool sk1, .bool re1, .bool fe1, .bool ag1, .int .i64 c1, .int .i64 sl1, .slice A1 n1 u1, .slice A1' n1' u1', .int .i64 pl1, .slice M1 k1 d1, .slice B1 m1 e1, .slice B1' m1' e1', .int .i64 ql1, .int .i64 z1], .agg #[.int .i64 p2, .int .i64 s2, .bool st2, .bool sk2, .bool re2, .bool fe2, .bool ag2, .int .i64 c2, .int .i64 sl2, .slice A2 n2 u2, .slice A2' n2' u2', .int .i64 pl2, .slice M2 k2 d2, .slice B2 m2 e2, .slice B2' m2' e2', .int .i64 ql2, .int .i64 z2]] w fun e w' => e = .returned (.bool (sameG ⟨p1, s1, st1, sk1, re1, fe1, ag1, c1, sl1⟩ ⟨p2, s2, st2, sk2, re2, fe2, ag2, c2, sl2⟩ xs1 xs1' pl1 xs2 xs2' pl2 ms1 ms2 ys1 ys1' ql1 ys2 ys2' ql2 z1 z2)) ∧ Below w.heap.size w w' := by
  have bW : Below w.heap.size w ((w.alloc (.cells #[.int .i64 p1, .int .i64 s1, .bool st1, .bool sk1, .bool re1, .bool fe1, .bool ag1, .int .i64 c1, .int .i64 sl1, .slice A1 n1 u1, .slice A1' n1' u1', .int .i64 pl1, .slice M1 k1 d1, .slice B1 m1 e1, .slice B1' m1' e1', .int .i64 ql1, .int .i64 z1] 50)).alloc (.cells #[.int .i64 p2, .int .i64 s2, .bool st2, .bool sk2, .bool re2, .bool fe2, .bool ag2, .int .i64 c2, .int .i64 sl2, .slice A2 n2 u2, .slice A2' n2' u2', .int .i64 pl2, .slice M2 k2 d2, .slice B2 m2 e2, .slice B2' m2' e2', .int .i64 ql2, .int .i64 z2] 50)) := (by repeat (first | with_reducible exact Below.refl _ _ | with_reducible assumption | with_reducible refine sub_alloc ?_ _ | (with_reducible refine sub_setCell2 ?_ ?_ _; (focus (first | (simp; done) | (simp <;> omega)))) | with_reducible refine sub_drew ?_ | with_reducible refine below_drewN ?_ _ | with_reducible refine sub_step (by assumption) ?_ (by first | rfl | (simp; done)) | exact Below.refl _ _ | assumption | refine sub_alloc ?_ _ | refine sub_setCell ?_ (by simp <;> omega) _ | refine sub_drew ?_ | refine below_drewN ?_ _ | refine sub_step (by assumption) ?_ (by first | rfl | (simp; done))))
  have G1 := Lib.hid ((Has.box w [.int .i64 p1, .int .i64 s1, .bool st1, .bool sk1, .bool re1, .bool fe1, .bool ag1, .int .i64 c1, .int .i64 sl1, .slice A1 n1 u1, .slice A1' n1' u1', .int .i64 pl1, .slice M1 k1 d1, .slice B1 m1 e1, .slice B1' m1' e1', .int .i64 ql1, .int .i64 z1] 50 w.heap.size rfl).alloc (.cells #[.int .i64 p2, .int .i64 s2, .bool st2, .bool sk2, .bool re2, .bool fe2, .bool ag2, .int .i64 c2, .int .i64 sl2, .slice A2 n2 u2, .slice A2' n2' u2', .int .i64 pl2, .slice M2 k2 d2, .slice B2 m2 e2, .slice B2' m2' e2', .int .i64 ql2, .int .i64 z2] 50))
  have G2 := Lib.hid (Has.box (w.alloc (.cells #[.int .i64 p1, .int .i64 s1, .bool st1, .bool sk1, .bool re1, .bool fe1, .bool ag1, .int .i64 c1, .int .i64 sl1, .slice A1 n1 u1, .slice A1' n1' u1', .int .i64 pl1, .slice M1 k1 d1, .slice B1 m1 e1, .slice B1' m1' e1', .int .i64 ql1, .int .i64 z1] 50)) [.int .i64 p2, .int .i64 s2, .bool st2, .bool sk2, .bool re2, .bool fe2, .bool ag2, .int .i64 c2, .int .i64 sl2, .slice A2 n2 u2, .slice A2' n2' u2', .int .i64 pl2, .slice M2 k2 d2, .slice B2 m2 e2, .slice B2' m2' e2', .int .i64 ql2, .int .i64 z2] 50 (w.heap.size + 1) (by simp))
  have H1 := Lib.hid (show _ ∧ _ ∧ _ ∧ _ ∧ _ from ⟨h1.1.sub bW, h1.2.1.sub bW, h1.2.2.1.sub bW, h1.2.2.2.1.sub bW, h1.2.2.2.2.sub bW⟩)
  have H2 := Lib.hid (show _ ∧ _ ∧ _ ∧ _ ∧ _ from ⟨h2.1.sub bW, h2.2.1.sub bW, h2.2.2.1.sub bW, h2.2.2.2.1.sub bW, h2.2.2.2.2.sub bW⟩)
  obtain ⟨W, hW⟩ : ∃ W, W = (w.alloc (.cells #[.int .i64 p1, .int .i64 s1, .bool st1, .bool sk1, .bool re1, .bool fe1, .bool ag1, .int .i64 c1, .int .i64 sl1, .slice A1 n1 u1, .slice A1' n1' u1', .int .i64 pl1, .slice M1 k1 d1, .slice B1 m1 e1, .slice B1' m1' e1', .int .i64 ql1, .int .i64 z1] 50)).alloc (.cells #[.int .i64 p2, .int .i64 s2, .bool st2, .bool sk2, .bool re2, .bool fe2, .bool ag2, .int .i64 c2, .int .i64 sl2, .slice A2 n2 u2, .slice A2' n2' u2', .int .i64 pl2, .slice M2 k2 d2, .slice B2 m2 e2, .slice B2' m2' e2', .int .i64 ql2, .int .i64 z2] 50) := ⟨_, rfl⟩
  rw [← show W = (w.alloc (.cells ([.int .i64 p1, .int .i64 s1, .bool st1, .bool sk1, .bool re1, .bool fe1, .bool ag1, .int .i64 c1, .int .i64 sl1, .slice A1 n1 u1, .slice A1' n1' u1', .int .i64 pl1, .slice M1 k1 d1, .slice B1 m1 e1, .slice B1' m1' e1', .int .i64 ql1, .int .i64 z1] : List Value).toArray 50)).alloc (.cells #[.int .i64 p2, .int .i64 s2, .bool st2, .bool sk2, .bool re2, .bool fe2, .bool ag2, .int .i64 c2, .int .i64 sl2, .slice A2 n2 u2, .slice A2' n2' u2', .int .i64 pl2, .slice M2 k2 d2, .slice B2 m2 e2, .slice B2' m2' e2', .int .i64 ql2, .int .i64 z2] 50) from hW] at G1
  rw [← hW] at bW H1 H2
  have HW := Lib.hid hW
  have BW := Lib.hid bW
  have G2 : Hid (Has W (w.heap.size + 1) [.int .i64 p2, .int .i64 s2, .bool st2, .bool sk2, .bool re2, .bool fe2, .bool ag2, .int .i64 c2, .int .i64 sl2, .slice A2 n2 u2, .slice A2' n2' u2', .int .i64 pl2, .slice M2 k2 d2, .slice B2 m2 e2, .slice B2' m2' e2', .int .i64 ql2, .int .i64 z2]) := Lib.hid (by rw [hW]; exact G2.out)
  clear h1 h2 hW bW
  have l1 := G1.out.lt
  have l2 := G2.out.lt
  cases e1 : eqRu ⟨p1, s1, st1, sk1, re1, fe1, ag1, c1, sl1⟩ ⟨p2, s2, st2, sk2, re2, fe2, ag2, c2, sl2⟩
  · have E1 := Lib.hid e1
    clear e1
    have EQ := fun w => eql_rules p1 s1 st1 sk1 re1 fe1 ag1 c1 sl1 p2 s2 st2 sk2 re2 fe2 ag2 c2 sl2 false E1.out w
    have a0 := G1.out.at_ 0 rfl
    have a1 := G1.out.at_ 1 rfl
    have a2 := G1.out.at_ 2 rfl
    have a3 := G1.out.at_ 3 rfl
    have a4 := G1.out.at_ 4 rfl
    have a5 := G1.out.at_ 5 rfl
    have a6 := G1.out.at_ 6 rfl
    have a7 := G1.out.at_ 7 rfl
    have a8 := G1.out.at_ 8 rfl
    have a9 := G1.out.at_ 9 rfl
    have a10 := G1.out.at_ 10 rfl
    have a11 := G1.out.at_ 11 rfl
    have a12 := G1.out.at_ 12 rfl
    have a13 := G1.out.at_ 13 rfl
    have a14 := G1.out.at_ 14 rfl
    have a15 := G1.out.at_ 15 rfl
    have a16 := G1.out.at_ 16 rfl
    have b0 := G2.out.at_ 0 rfl
    have b1 := G2.out.at_ 1 rfl
    have b2 := G2.out.at_ 2 rfl
    have b3 := G2.out.at_ 3 rfl
    have b4 := G2.out.at_ 4 rfl
    have b5 := G2.out.at_ 5 rfl
    have b6 := G2.out.at_ 6 rfl
    have b7 := G2.out.at_ 7 rfl
    have b8 := G2.out.at_ 8 rfl
    have b9 := G2.out.at_ 9 rfl
    have b10 := G2.out.at_ 10 rfl
    have b11 := G2.out.at_ 11 rfl
    have b12 := G2.out.at_ 12 rfl
    have b13 := G2.out.at_ 13 rfl
    have b14 := G2.out.at_ 14 rfl
    have b15 := G2.out.at_ 15 rfl
    have b16 := G2.out.at_ 16 rfl
    go_enter Try.func34, Try.ntmps34
    go_wp2_with fail
    go_ret
    exact ⟨ret_b (by simp [sameG, E1.out]), by rw [← HW.out]; exact BW.out⟩
  have E1 := Lib.hid e1
  clear e1
  cases e2 : sameP xs1 xs1' pl1 xs2 xs2' pl2
  · have E2 := Lib.hid e2
    clear e2
    have EQ := fun w => eql_rules p1 s1 st1 sk1 re1 fe1 ag1 c1 sl1 p2 s2 st2 sk2 re2 fe2 ag2 c2 sl2 true E1.out w
    have a0 := G1.out.at_ 0 rfl
    have a1 := G1.out.at_ 1 rfl
    have a2 := G1.out.at_ 2 rfl
    have a3 := G1.out.at_ 3 rfl
    have a4 := G1.out.at_ 4 rfl
    have a5 := G1.out.at_ 5 rfl
    have a6 := G1.out.at_ 6 rfl
    have a7 := G1.out.at_ 7 rfl
    have a8 := G1.out.at_ 8 rfl
    have a9 := G1.out.at_ 9 rfl
    have a10 := G1.out.at_ 10 rfl
    have a11 := G1.out.at_ 11 rfl
    have a12 := G1.out.at_ 12 rfl
    have a13 := G1.out.at_ 13 rfl
    have a14 := G1.out.at_ 14 rfl
    have a15 := G1.out.at_ 15 rfl
    have a16 := G1.out.at_ 16 rfl
    have b0 := G2.out.at_ 0 rfl
    have b1 := G2.out.at_ 1 rfl
    have b2 := G2.out.at_ 2 rfl
    have b3 := G2.out.at_ 3 rfl
    have b4 := G2.out.at_ 4 rfl
    have b5 := G2.out.at_ 5 rfl
    have b6 := G2.out.at_ 6 rfl
    have b7 := G2.out.at_ 7 rfl
    have b8 := G2.out.at_ 8 rfl
    have b9 := G2.out.at_ 9 rfl
    have b10 := G2.out.at_ 10 rfl
    have b11 := G2.out.at_ 11 rfl
    have b12 := G2.out.at_ 12 rfl
    have b13 := G2.out.at_ 13 rfl
    have b14 := G2.out.at_ 14 rfl
    have b15 := G2.out.at_ 15 rfl
    have b16 := G2.out.at_ 16 rfl
    go_enter Try.func34, Try.ntmps34
    go_wp2_with fail
    refine (l04Same_any w.heap.size 9 (w.heap.size + 1) 9 _ _ _ _ _ _ _ _ _ _ _ _ xs1 xs1' xs2 xs2' _ _ _ (by rw [← HW.out]; exact ⟨G1.out.at_ 9 rfl, G1.out.at_ 10 rfl, G1.out.at_ 11 rfl⟩) (by rw [← HW.out]; exact ⟨G2.out.at_ 9 rfl, G2.out.at_ 10 rfl, G2.out.at_ 11 rfl⟩) (by rw [← HW.out]; exact H1.out.1) (by rw [← HW.out]; exact H1.out.2.1) (by rw [← HW.out]; exact H2.out.1) (by rw [← HW.out]; exact H2.out.2.1)).mono ?_
    rintro e w1 ⟨rfl, m1, hm1⟩
    have q1 : Below W.heap.size W w1 := by rw [hm1, ← HW.out]; exact below_drewN (Below.refl _ _) _
    clear hm1
    rw [E2.out]
    have X1 := G1.out.sub q1
    have X2 := G2.out.sub q1
    clear a0 b0 a1 b1 a2 b2 a3 b3 a4 b4 a5 b5 a6 b6 a7 b7 a8 b8 a9 b9 a10 b10 a11 b11 a12 b12 a13 b13 a14 b14 a15 b15 a16 b16
    have a0 := (X1.at_ 0 rfl)
    have a1 := (X1.at_ 1 rfl)
    have a2 := (X1.at_ 2 rfl)
    have a3 := (X1.at_ 3 rfl)
    have a4 := (X1.at_ 4 rfl)
    have a5 := (X1.at_ 5 rfl)
    have a6 := (X1.at_ 6 rfl)
    have a7 := (X1.at_ 7 rfl)
    have a8 := (X1.at_ 8 rfl)
    have a9 := (X1.at_ 9 rfl)
    have a10 := (X1.at_ 10 rfl)
    have a11 := (X1.at_ 11 rfl)
    have a12 := (X1.at_ 12 rfl)
    have a13 := (X1.at_ 13 rfl)
    have a14 := (X1.at_ 14 rfl)
    have a15 := (X1.at_ 15 rfl)
    have a16 := (X1.at_ 16 rfl)
    have b0 := (X2.at_ 0 rfl)
    have b1 := (X2.at_ 1 rfl)
    have b2 := (X2.at_ 2 rfl)
    have b3 := (X2.at_ 3 rfl)
    have b4 := (X2.at_ 4 rfl)
    have b5 := (X2.at_ 5 rfl)
    have b6 := (X2.at_ 6 rfl)
    have b7 := (X2.at_ 7 rfl)
    have b8 := (X2.at_ 8 rfl)
    have b9 := (X2.at_ 9 rfl)
    have b10 := (X2.at_ 10 rfl)
    have b11 := (X2.at_ 11 rfl)
    have b12 := (X2.at_ 12 rfl)
    have b13 := (X2.at_ 13 rfl)
    have b14 := (X2.at_ 14 rfl)
    have b15 := (X2.at_ 15 rfl)
    have b16 := (X2.at_ 16 rfl)
    go_wp2_with fail
    go_ret
    exact ⟨ret_b (by simp [sameG, E1.out, E2.out]), BW.out.trans (q1.mono BW.out.size)⟩
  have E2 := Lib.hid e2
  clear e2
  cases e3 : decide (ms1 = ms2)
  · have E3 := Lib.hid e3
    clear e3
    have EQ := fun w => eql_rules p1 s1 st1 sk1 re1 fe1 ag1 c1 sl1 p2 s2 st2 sk2 re2 fe2 ag2 c2 sl2 true E1.out w
    have a0 := G1.out.at_ 0 rfl
    have a1 := G1.out.at_ 1 rfl
    have a2 := G1.out.at_ 2 rfl
    have a3 := G1.out.at_ 3 rfl
    have a4 := G1.out.at_ 4 rfl
    have a5 := G1.out.at_ 5 rfl
    have a6 := G1.out.at_ 6 rfl
    have a7 := G1.out.at_ 7 rfl
    have a8 := G1.out.at_ 8 rfl
    have a9 := G1.out.at_ 9 rfl
    have a10 := G1.out.at_ 10 rfl
    have a11 := G1.out.at_ 11 rfl
    have a12 := G1.out.at_ 12 rfl
    have a13 := G1.out.at_ 13 rfl
    have a14 := G1.out.at_ 14 rfl
    have a15 := G1.out.at_ 15 rfl
    have a16 := G1.out.at_ 16 rfl
    have b0 := G2.out.at_ 0 rfl
    have b1 := G2.out.at_ 1 rfl
    have b2 := G2.out.at_ 2 rfl
    have b3 := G2.out.at_ 3 rfl
    have b4 := G2.out.at_ 4 rfl
    have b5 := G2.out.at_ 5 rfl
    have b6 := G2.out.at_ 6 rfl
    have b7 := G2.out.at_ 7 rfl
    have b8 := G2.out.at_ 8 rfl
    have b9 := G2.out.at_ 9 rfl
    have b10 := G2.out.at_ 10 rfl
    have b11 := G2.out.at_ 11 rfl
    have b12 := G2.out.at_ 12 rfl
    have b13 := G2.out.at_ 13 rfl
    have b14 := G2.out.at_ 14 rfl
    have b15 := G2.out.at_ 15 rfl
    have b16 := G2.out.at_ 16 rfl
    go_enter Try.func34, Try.ntmps34
    go_wp2_with fail
    refine (l04Same_any w.heap.size 9 (w.heap.size + 1) 9 _ _ _ _ _ _ _ _ _ _ _ _ xs1 xs1' xs2 xs2' _ _ _ (by rw [← HW.out]; exact ⟨G1.out.at_ 9 rfl, G1.out.at_ 10 rfl, G1.out.at_ 11 rfl⟩) (by rw [← HW.out]; exact ⟨G2.out.at_ 9 rfl, G2.out.at_ 10 rfl, G2.out.at_ 11 rfl⟩) (by rw [← HW.out]; exact H1.out.1) (by rw [← HW.out]; exact H1.out.2.1) (by rw [← HW.out]; exact H2.out.1) (by rw [← HW.out]; exact H2.out.2.1)).mono ?_
    rintro e w1 ⟨rfl, m1, hm1⟩
    have q1 : Below W.heap.size W w1 := by rw [hm1, ← HW.out]; exact below_drewN (Below.refl _ _) _
    clear hm1
    rw [E2.out]
    have X1 := G1.out.sub q1
    have X2 := G2.out.sub q1
    clear a0 b0 a1 b1 a2 b2 a3 b3 a4 b4 a5 b5 a6 b6 a7 b7 a8 b8 a9 b9 a10 b10 a11 b11 a12 b12 a13 b13 a14 b14 a15 b15 a16 b16
    have a0 := (X1.at_ 0 rfl)
    have a1 := (X1.at_ 1 rfl)
    have a2 := (X1.at_ 2 rfl)
    have a3 := (X1.at_ 3 rfl)
    have a4 := (X1.at_ 4 rfl)
    have a5 := (X1.at_ 5 rfl)
    have a6 := (X1.at_ 6 rfl)
    have a7 := (X1.at_ 7 rfl)
    have a8 := (X1.at_ 8 rfl)
    have a9 := (X1.at_ 9 rfl)
    have a10 := (X1.at_ 10 rfl)
    have a11 := (X1.at_ 11 rfl)
    have a12 := (X1.at_ 12 rfl)
    have a13 := (X1.at_ 13 rfl)
    have a14 := (X1.at_ 14 rfl)
    have a15 := (X1.at_ 15 rfl)
    have a16 := (X1.at_ 16 rfl)
    have b0 := (X2.at_ 0 rfl)
    have b1 := (X2.at_ 1 rfl)
    have b2 := (X2.at_ 2 rfl)
    have b3 := (X2.at_ 3 rfl)
    have b4 := (X2.at_ 4 rfl)
    have b5 := (X2.at_ 5 rfl)
    have b6 := (X2.at_ 6 rfl)
    have b7 := (X2.at_ 7 rfl)
    have b8 := (X2.at_ 8 rfl)
    have b9 := (X2.at_ 9 rfl)
    have b10 := (X2.at_ 10 rfl)
    have b11 := (X2.at_ 11 rfl)
    have b12 := (X2.at_ 12 rfl)
    have b13 := (X2.at_ 13 rfl)
    have b14 := (X2.at_ 14 rfl)
    have b15 := (X2.at_ 15 rfl)
    have b16 := (X2.at_ 16 rfl)
    go_wp2_with fail
    refine (l00Same_is _ _ _ _ _ _ _ _ ms1 ms2 false E3.out _ (by exact H1.out.2.2.1.sub q1) (by exact H2.out.2.2.1.sub q1)).mono ?_
    rintro e w2 ⟨rfl, m2, hm2⟩
    have q2 : Below W.heap.size W w2 := by rw [hm2]; exact below_drewN q1 _
    clear hm2
    have X1 := G1.out.sub q2
    have X2 := G2.out.sub q2
    clear a0 b0 a1 b1 a2 b2 a3 b3 a4 b4 a5 b5 a6 b6 a7 b7 a8 b8 a9 b9 a10 b10 a11 b11 a12 b12 a13 b13 a14 b14 a15 b15 a16 b16
    have a0 := (X1.at_ 0 rfl)
    have a1 := (X1.at_ 1 rfl)
    have a2 := (X1.at_ 2 rfl)
    have a3 := (X1.at_ 3 rfl)
    have a4 := (X1.at_ 4 rfl)
    have a5 := (X1.at_ 5 rfl)
    have a6 := (X1.at_ 6 rfl)
    have a7 := (X1.at_ 7 rfl)
    have a8 := (X1.at_ 8 rfl)
    have a9 := (X1.at_ 9 rfl)
    have a10 := (X1.at_ 10 rfl)
    have a11 := (X1.at_ 11 rfl)
    have a12 := (X1.at_ 12 rfl)
    have a13 := (X1.at_ 13 rfl)
    have a14 := (X1.at_ 14 rfl)
    have a15 := (X1.at_ 15 rfl)
    have a16 := (X1.at_ 16 rfl)
    have b0 := (X2.at_ 0 rfl)
    have b1 := (X2.at_ 1 rfl)
    have b2 := (X2.at_ 2 rfl)
    have b3 := (X2.at_ 3 rfl)
    have b4 := (X2.at_ 4 rfl)
    have b5 := (X2.at_ 5 rfl)
    have b6 := (X2.at_ 6 rfl)
    have b7 := (X2.at_ 7 rfl)
    have b8 := (X2.at_ 8 rfl)
    have b9 := (X2.at_ 9 rfl)
    have b10 := (X2.at_ 10 rfl)
    have b11 := (X2.at_ 11 rfl)
    have b12 := (X2.at_ 12 rfl)
    have b13 := (X2.at_ 13 rfl)
    have b14 := (X2.at_ 14 rfl)
    have b15 := (X2.at_ 15 rfl)
    have b16 := (X2.at_ 16 rfl)
    go_wp2_with fail
    go_ret
    exact ⟨ret_b (by simp only [sameG, E1.out, E2.out, E3.out, Bool.false_and, Bool.and_false]), BW.out.trans (q2.mono BW.out.size)⟩
  have E3 := Lib.hid e3
  clear e3
  cases e4 : sameP ys1 ys1' ql1 ys2 ys2' ql2
  · have E4 := Lib.hid e4
    clear e4
    have EQ := fun w => eql_rules p1 s1 st1 sk1 re1 fe1 ag1 c1 sl1 p2 s2 st2 sk2 re2 fe2 ag2 c2 sl2 true E1.out w
    have a0 := G1.out.at_ 0 rfl
    have a1 := G1.out.at_ 1 rfl
    have a2 := G1.out.at_ 2 rfl
    have a3 := G1.out.at_ 3 rfl
    have a4 := G1.out.at_ 4 rfl
    have a5 := G1.out.at_ 5 rfl
    have a6 := G1.out.at_ 6 rfl
    have a7 := G1.out.at_ 7 rfl
    have a8 := G1.out.at_ 8 rfl
    have a9 := G1.out.at_ 9 rfl
    have a10 := G1.out.at_ 10 rfl
    have a11 := G1.out.at_ 11 rfl
    have a12 := G1.out.at_ 12 rfl
    have a13 := G1.out.at_ 13 rfl
    have a14 := G1.out.at_ 14 rfl
    have a15 := G1.out.at_ 15 rfl
    have a16 := G1.out.at_ 16 rfl
    have b0 := G2.out.at_ 0 rfl
    have b1 := G2.out.at_ 1 rfl
    have b2 := G2.out.at_ 2 rfl
    have b3 := G2.out.at_ 3 rfl
    have b4 := G2.out.at_ 4 rfl
    have b5 := G2.out.at_ 5 rfl
    have b6 := G2.out.at_ 6 rfl
    have b7 := G2.out.at_ 7 rfl
    have b8 := G2.out.at_ 8 rfl
    have b9 := G2.out.at_ 9 rfl
    have b10 := G2.out.at_ 10 rfl
    have b11 := G2.out.at_ 11 rfl
    have b12 := G2.out.at_ 12 rfl
    have b13 := G2.out.at_ 13 rfl
    have b14 := G2.out.at_ 14 rfl
    have b15 := G2.out.at_ 15 rfl
    have b16 := G2.out.at_ 16 rfl
    go_enter Try.func34, Try.ntmps34
    go_wp2_with fail
    refine (l04Same_any w.heap.size 9 (w.heap.size + 1) 9 _ _ _ _ _ _ _ _ _ _ _ _ xs1 xs1' xs2 xs2' _ _ _ (by rw [← HW.out]; exact ⟨G1.out.at_ 9 rfl, G1.out.at_ 10 rfl, G1.out.at_ 11 rfl⟩) (by rw [← HW.out]; exact ⟨G2.out.at_ 9 rfl, G2.out.at_ 10 rfl, G2.out.at_ 11 rfl⟩) (by rw [← HW.out]; exact H1.out.1) (by rw [← HW.out]; exact H1.out.2.1) (by rw [← HW.out]; exact H2.out.1) (by rw [← HW.out]; exact H2.out.2.1)).mono ?_
    rintro e w1 ⟨rfl, m1, hm1⟩
    have q1 : Below W.heap.size W w1 := by rw [hm1, ← HW.out]; exact below_drewN (Below.refl _ _) _
    clear hm1
    rw [E2.out]
    have X1 := G1.out.sub q1
    have X2 := G2.out.sub q1
    clear a0 b0 a1 b1 a2 b2 a3 b3 a4 b4 a5 b5 a6 b6 a7 b7 a8 b8 a9 b9 a10 b10 a11 b11 a12 b12 a13 b13 a14 b14 a15 b15 a16 b16
    have a0 := (X1.at_ 0 rfl)
    have a1 := (X1.at_ 1 rfl)
    have a2 := (X1.at_ 2 rfl)
    have a3 := (X1.at_ 3 rfl)
    have a4 := (X1.at_ 4 rfl)
    have a5 := (X1.at_ 5 rfl)
    have a6 := (X1.at_ 6 rfl)
    have a7 := (X1.at_ 7 rfl)
    have a8 := (X1.at_ 8 rfl)
    have a9 := (X1.at_ 9 rfl)
    have a10 := (X1.at_ 10 rfl)
    have a11 := (X1.at_ 11 rfl)
    have a12 := (X1.at_ 12 rfl)
    have a13 := (X1.at_ 13 rfl)
    have a14 := (X1.at_ 14 rfl)
    have a15 := (X1.at_ 15 rfl)
    have a16 := (X1.at_ 16 rfl)
    have b0 := (X2.at_ 0 rfl)
    have b1 := (X2.at_ 1 rfl)
    have b2 := (X2.at_ 2 rfl)
    have b3 := (X2.at_ 3 rfl)
    have b4 := (X2.at_ 4 rfl)
    have b5 := (X2.at_ 5 rfl)
    have b6 := (X2.at_ 6 rfl)
    have b7 := (X2.at_ 7 rfl)
    have b8 := (X2.at_ 8 rfl)
    have b9 := (X2.at_ 9 rfl)
    have b10 := (X2.at_ 10 rfl)
    have b11 := (X2.at_ 11 rfl)
    have b12 := (X2.at_ 12 rfl)
    have b13 := (X2.at_ 13 rfl)
    have b14 := (X2.at_ 14 rfl)
    have b15 := (X2.at_ 15 rfl)
    have b16 := (X2.at_ 16 rfl)
    go_wp2_with fail
    refine (l00Same_is _ _ _ _ _ _ _ _ ms1 ms2 true E3.out _ (by exact H1.out.2.2.1.sub q1) (by exact H2.out.2.2.1.sub q1)).mono ?_
    rintro e w2 ⟨rfl, m2, hm2⟩
    have q2 : Below W.heap.size W w2 := by rw [hm2]; exact below_drewN q1 _
    clear hm2
    have X1 := G1.out.sub q2
    have X2 := G2.out.sub q2
    clear a0 b0 a1 b1 a2 b2 a3 b3 a4 b4 a5 b5 a6 b6 a7 b7 a8 b8 a9 b9 a10 b10 a11 b11 a12 b12 a13 b13 a14 b14 a15 b15 a16 b16
    have a0 := (X1.at_ 0 rfl)
    have a1 := (X1.at_ 1 rfl)
    have a2 := (X1.at_ 2 rfl)
    have a3 := (X1.at_ 3 rfl)
    have a4 := (X1.at_ 4 rfl)
    have a5 := (X1.at_ 5 rfl)
    have a6 := (X1.at_ 6 rfl)
    have a7 := (X1.at_ 7 rfl)
    have a8 := (X1.at_ 8 rfl)
    have a9 := (X1.at_ 9 rfl)
    have a10 := (X1.at_ 10 rfl)
    have a11 := (X1.at_ 11 rfl)
    have a12 := (X1.at_ 12 rfl)
    have a13 := (X1.at_ 13 rfl)
    have a14 := (X1.at_ 14 rfl)
    have a15 := (X1.at_ 15 rfl)
    have a16 := (X1.at_ 16 rfl)
    have b0 := (X2.at_ 0 rfl)
    have b1 := (X2.at_ 1 rfl)
    have b2 := (X2.at_ 2 rfl)
    have b3 := (X2.at_ 3 rfl)
    have b4 := (X2.at_ 4 rfl)
    have b5 := (X2.at_ 5 rfl)
    have b6 := (X2.at_ 6 rfl)
    have b7 := (X2.at_ 7 rfl)
    have b8 := (X2.at_ 8 rfl)
    have b9 := (X2.at_ 9 rfl)
    have b10 := (X2.at_ 10 rfl)
    have b11 := (X2.at_ 11 rfl)
    have b12 := (X2.at_ 12 rfl)
    have b13 := (X2.at_ 13 rfl)
    have b14 := (X2.at_ 14 rfl)
    have b15 := (X2.at_ 15 rfl)
    have b16 := (X2.at_ 16 rfl)
    go_wp2_with fail
    refine (l04Same_any w.heap.size 13 (w.heap.size + 1) 13 _ _ _ _ _ _ _ _ _ _ _ _ ys1 ys1' ys2 ys2' _ _ _ (by exact ⟨X1.at_ 13 rfl, X1.at_ 14 rfl, X1.at_ 15 rfl⟩) (by exact ⟨X2.at_ 13 rfl, X2.at_ 14 rfl, X2.at_ 15 rfl⟩) (by exact H1.out.2.2.2.1.sub q2) (by exact H1.out.2.2.2.2.sub q2) (by exact H2.out.2.2.2.1.sub q2) (by exact H2.out.2.2.2.2.sub q2)).mono ?_
    rintro e w3 ⟨rfl, m3, hm3⟩
    have q3 : Below W.heap.size W w3 := by rw [hm3]; exact below_drewN q2 _
    clear hm3
    rw [E4.out]
    have X1 := G1.out.sub q3
    have X2 := G2.out.sub q3
    clear a0 b0 a1 b1 a2 b2 a3 b3 a4 b4 a5 b5 a6 b6 a7 b7 a8 b8 a9 b9 a10 b10 a11 b11 a12 b12 a13 b13 a14 b14 a15 b15 a16 b16
    have a0 := (X1.at_ 0 rfl)
    have a1 := (X1.at_ 1 rfl)
    have a2 := (X1.at_ 2 rfl)
    have a3 := (X1.at_ 3 rfl)
    have a4 := (X1.at_ 4 rfl)
    have a5 := (X1.at_ 5 rfl)
    have a6 := (X1.at_ 6 rfl)
    have a7 := (X1.at_ 7 rfl)
    have a8 := (X1.at_ 8 rfl)
    have a9 := (X1.at_ 9 rfl)
    have a10 := (X1.at_ 10 rfl)
    have a11 := (X1.at_ 11 rfl)
    have a12 := (X1.at_ 12 rfl)
    have a13 := (X1.at_ 13 rfl)
    have a14 := (X1.at_ 14 rfl)
    have a15 := (X1.at_ 15 rfl)
    have a16 := (X1.at_ 16 rfl)
    have b0 := (X2.at_ 0 rfl)
    have b1 := (X2.at_ 1 rfl)
    have b2 := (X2.at_ 2 rfl)
    have b3 := (X2.at_ 3 rfl)
    have b4 := (X2.at_ 4 rfl)
    have b5 := (X2.at_ 5 rfl)
    have b6 := (X2.at_ 6 rfl)
    have b7 := (X2.at_ 7 rfl)
    have b8 := (X2.at_ 8 rfl)
    have b9 := (X2.at_ 9 rfl)
    have b10 := (X2.at_ 10 rfl)
    have b11 := (X2.at_ 11 rfl)
    have b12 := (X2.at_ 12 rfl)
    have b13 := (X2.at_ 13 rfl)
    have b14 := (X2.at_ 14 rfl)
    have b15 := (X2.at_ 15 rfl)
    have b16 := (X2.at_ 16 rfl)
    go_wp2_with fail
    go_ret
    exact ⟨ret_b (by simp only [sameG, E1.out, E2.out, E3.out, E4.out, Bool.false_and, Bool.and_false, Bool.true_and]), BW.out.trans (q3.mono BW.out.size)⟩
  have E4 := Lib.hid e4
  clear e4
  cases e5 : (z1 == z2)
  · have E5 := Lib.hid e5
    clear e5
    have EQ := fun w => eql_rules p1 s1 st1 sk1 re1 fe1 ag1 c1 sl1 p2 s2 st2 sk2 re2 fe2 ag2 c2 sl2 true E1.out w
    have a0 := G1.out.at_ 0 rfl
    have a1 := G1.out.at_ 1 rfl
    have a2 := G1.out.at_ 2 rfl
    have a3 := G1.out.at_ 3 rfl
    have a4 := G1.out.at_ 4 rfl
    have a5 := G1.out.at_ 5 rfl
    have a6 := G1.out.at_ 6 rfl
    have a7 := G1.out.at_ 7 rfl
    have a8 := G1.out.at_ 8 rfl
    have a9 := G1.out.at_ 9 rfl
    have a10 := G1.out.at_ 10 rfl
    have a11 := G1.out.at_ 11 rfl
    have a12 := G1.out.at_ 12 rfl
    have a13 := G1.out.at_ 13 rfl
    have a14 := G1.out.at_ 14 rfl
    have a15 := G1.out.at_ 15 rfl
    have a16 := G1.out.at_ 16 rfl
    have b0 := G2.out.at_ 0 rfl
    have b1 := G2.out.at_ 1 rfl
    have b2 := G2.out.at_ 2 rfl
    have b3 := G2.out.at_ 3 rfl
    have b4 := G2.out.at_ 4 rfl
    have b5 := G2.out.at_ 5 rfl
    have b6 := G2.out.at_ 6 rfl
    have b7 := G2.out.at_ 7 rfl
    have b8 := G2.out.at_ 8 rfl
    have b9 := G2.out.at_ 9 rfl
    have b10 := G2.out.at_ 10 rfl
    have b11 := G2.out.at_ 11 rfl
    have b12 := G2.out.at_ 12 rfl
    have b13 := G2.out.at_ 13 rfl
    have b14 := G2.out.at_ 14 rfl
    have b15 := G2.out.at_ 15 rfl
    have b16 := G2.out.at_ 16 rfl
    go_enter Try.func34, Try.ntmps34
    go_wp2_with fail
    refine (l04Same_any w.heap.size 9 (w.heap.size + 1) 9 _ _ _ _ _ _ _ _ _ _ _ _ xs1 xs1' xs2 xs2' _ _ _ (by rw [← HW.out]; exact ⟨G1.out.at_ 9 rfl, G1.out.at_ 10 rfl, G1.out.at_ 11 rfl⟩) (by rw [← HW.out]; exact ⟨G2.out.at_ 9 rfl, G2.out.at_ 10 rfl, G2.out.at_ 11 rfl⟩) (by rw [← HW.out]; exact H1.out.1) (by rw [← HW.out]; exact H1.out.2.1) (by rw [← HW.out]; exact H2.out.1) (by rw [← HW.out]; exact H2.out.2.1)).mono ?_
    rintro e w1 ⟨rfl, m1, hm1⟩
    have q1 : Below W.heap.size W w1 := by rw [hm1, ← HW.out]; exact below_drewN (Below.refl _ _) _
    clear hm1
    rw [E2.out]
    have X1 := G1.out.sub q1
    have X2 := G2.out.sub q1
    clear a0 b0 a1 b1 a2 b2 a3 b3 a4 b4 a5 b5 a6 b6 a7 b7 a8 b8 a9 b9 a10 b10 a11 b11 a12 b12 a13 b13 a14 b14 a15 b15 a16 b16
    have a0 := (X1.at_ 0 rfl)
    have a1 := (X1.at_ 1 rfl)
    have a2 := (X1.at_ 2 rfl)
    have a3 := (X1.at_ 3 rfl)
    have a4 := (X1.at_ 4 rfl)
    have a5 := (X1.at_ 5 rfl)
    have a6 := (X1.at_ 6 rfl)
    have a7 := (X1.at_ 7 rfl)
    have a8 := (X1.at_ 8 rfl)
    have a9 := (X1.at_ 9 rfl)
    have a10 := (X1.at_ 10 rfl)
    have a11 := (X1.at_ 11 rfl)
    have a12 := (X1.at_ 12 rfl)
    have a13 := (X1.at_ 13 rfl)
    have a14 := (X1.at_ 14 rfl)
    have a15 := (X1.at_ 15 rfl)
    have a16 := (X1.at_ 16 rfl)
    have b0 := (X2.at_ 0 rfl)
    have b1 := (X2.at_ 1 rfl)
    have b2 := (X2.at_ 2 rfl)
    have b3 := (X2.at_ 3 rfl)
    have b4 := (X2.at_ 4 rfl)
    have b5 := (X2.at_ 5 rfl)
    have b6 := (X2.at_ 6 rfl)
    have b7 := (X2.at_ 7 rfl)
    have b8 := (X2.at_ 8 rfl)
    have b9 := (X2.at_ 9 rfl)
    have b10 := (X2.at_ 10 rfl)
    have b11 := (X2.at_ 11 rfl)
    have b12 := (X2.at_ 12 rfl)
    have b13 := (X2.at_ 13 rfl)
    have b14 := (X2.at_ 14 rfl)
    have b15 := (X2.at_ 15 rfl)
    have b16 := (X2.at_ 16 rfl)
    go_wp2_with fail
    refine (l00Same_is _ _ _ _ _ _ _ _ ms1 ms2 true E3.out _ (by exact H1.out.2.2.1.sub q1) (by exact H2.out.2.2.1.sub q1)).mono ?_
    rintro e w2 ⟨rfl, m2, hm2⟩
    have q2 : Below W.heap.size W w2 := by rw [hm2]; exact below_drewN q1 _
    clear hm2
    have X1 := G1.out.sub q2
    have X2 := G2.out.sub q2
    clear a0 b0 a1 b1 a2 b2 a3 b3 a4 b4 a5 b5 a6 b6 a7 b7 a8 b8 a9 b9 a10 b10 a11 b11 a12 b12 a13 b13 a14 b14 a15 b15 a16 b16
    have a0 := (X1.at_ 0 rfl)
    have a1 := (X1.at_ 1 rfl)
    have a2 := (X1.at_ 2 rfl)
    have a3 := (X1.at_ 3 rfl)
    have a4 := (X1.at_ 4 rfl)
    have a5 := (X1.at_ 5 rfl)
    have a6 := (X1.at_ 6 rfl)
    have a7 := (X1.at_ 7 rfl)
    have a8 := (X1.at_ 8 rfl)
    have a9 := (X1.at_ 9 rfl)
    have a10 := (X1.at_ 10 rfl)
    have a11 := (X1.at_ 11 rfl)
    have a12 := (X1.at_ 12 rfl)
    have a13 := (X1.at_ 13 rfl)
    have a14 := (X1.at_ 14 rfl)
    have a15 := (X1.at_ 15 rfl)
    have a16 := (X1.at_ 16 rfl)
    have b0 := (X2.at_ 0 rfl)
    have b1 := (X2.at_ 1 rfl)
    have b2 := (X2.at_ 2 rfl)
    have b3 := (X2.at_ 3 rfl)
    have b4 := (X2.at_ 4 rfl)
    have b5 := (X2.at_ 5 rfl)
    have b6 := (X2.at_ 6 rfl)
    have b7 := (X2.at_ 7 rfl)
    have b8 := (X2.at_ 8 rfl)
    have b9 := (X2.at_ 9 rfl)
    have b10 := (X2.at_ 10 rfl)
    have b11 := (X2.at_ 11 rfl)
    have b12 := (X2.at_ 12 rfl)
    have b13 := (X2.at_ 13 rfl)
    have b14 := (X2.at_ 14 rfl)
    have b15 := (X2.at_ 15 rfl)
    have b16 := (X2.at_ 16 rfl)
    go_wp2_with fail
    refine (l04Same_any w.heap.size 13 (w.heap.size + 1) 13 _ _ _ _ _ _ _ _ _ _ _ _ ys1 ys1' ys2 ys2' _ _ _ (by exact ⟨X1.at_ 13 rfl, X1.at_ 14 rfl, X1.at_ 15 rfl⟩) (by exact ⟨X2.at_ 13 rfl, X2.at_ 14 rfl, X2.at_ 15 rfl⟩) (by exact H1.out.2.2.2.1.sub q2) (by exact H1.out.2.2.2.2.sub q2) (by exact H2.out.2.2.2.1.sub q2) (by exact H2.out.2.2.2.2.sub q2)).mono ?_
    rintro e w3 ⟨rfl, m3, hm3⟩
    have q3 : Below W.heap.size W w3 := by rw [hm3]; exact below_drewN q2 _
    clear hm3
    rw [E4.out]
    have X1 := G1.out.sub q3
    have X2 := G2.out.sub q3
    clear a0 b0 a1 b1 a2 b2 a3 b3 a4 b4 a5 b5 a6 b6 a7 b7 a8 b8 a9 b9 a10 b10 a11 b11 a12 b12 a13 b13 a14 b14 a15 b15 a16 b16
    have a0 := (X1.at_ 0 rfl)
    have a1 := (X1.at_ 1 rfl)
    have a2 := (X1.at_ 2 rfl)
    have a3 := (X1.at_ 3 rfl)
    have a4 := (X1.at_ 4 rfl)
    have a5 := (X1.at_ 5 rfl)
    have a6 := (X1.at_ 6 rfl)
    have a7 := (X1.at_ 7 rfl)
    have a8 := (X1.at_ 8 rfl)
    have a9 := (X1.at_ 9 rfl)
    have a10 := (X1.at_ 10 rfl)
    have a11 := (X1.at_ 11 rfl)
    have a12 := (X1.at_ 12 rfl)
    have a13 := (X1.at_ 13 rfl)
    have a14 := (X1.at_ 14 rfl)
    have a15 := (X1.at_ 15 rfl)
    have a16 := (X1.at_ 16 rfl)
    have b0 := (X2.at_ 0 rfl)
    have b1 := (X2.at_ 1 rfl)
    have b2 := (X2.at_ 2 rfl)
    have b3 := (X2.at_ 3 rfl)
    have b4 := (X2.at_ 4 rfl)
    have b5 := (X2.at_ 5 rfl)
    have b6 := (X2.at_ 6 rfl)
    have b7 := (X2.at_ 7 rfl)
    have b8 := (X2.at_ 8 rfl)
    have b9 := (X2.at_ 9 rfl)
    have b10 := (X2.at_ 10 rfl)
    have b11 := (X2.at_ 11 rfl)
    have b12 := (X2.at_ 12 rfl)
    have b13 := (X2.at_ 13 rfl)
    have b14 := (X2.at_ 14 rfl)
    have b15 := (X2.at_ 15 rfl)
    have b16 := (X2.at_ 16 rfl)
    have e5 := E5.out
    go_wp2_with fail
    go_ret
    exact ⟨ret_b (by simp only [sameG, E1.out, E2.out, E3.out, E4.out, E5.out, Bool.false_and, Bool.and_false, Bool.true_and, Bool.and_true]), BW.out.trans (q3.mono BW.out.size)⟩
  have E5 := Lib.hid e5
  clear e5
  have EQ := fun w => eql_rules p1 s1 st1 sk1 re1 fe1 ag1 c1 sl1 p2 s2 st2 sk2 re2 fe2 ag2 c2 sl2 true E1.out w
  have a0 := G1.out.at_ 0 rfl
  have a1 := G1.out.at_ 1 rfl
  have a2 := G1.out.at_ 2 rfl
  have a3 := G1.out.at_ 3 rfl
  have a4 := G1.out.at_ 4 rfl
  have a5 := G1.out.at_ 5 rfl
  have a6 := G1.out.at_ 6 rfl
  have a7 := G1.out.at_ 7 rfl
  have a8 := G1.out.at_ 8 rfl
  have a9 := G1.out.at_ 9 rfl
  have a10 := G1.out.at_ 10 rfl
  have a11 := G1.out.at_ 11 rfl
  have a12 := G1.out.at_ 12 rfl
  have a13 := G1.out.at_ 13 rfl
  have a14 := G1.out.at_ 14 rfl
  have a15 := G1.out.at_ 15 rfl
  have a16 := G1.out.at_ 16 rfl
  have b0 := G2.out.at_ 0 rfl
  have b1 := G2.out.at_ 1 rfl
  have b2 := G2.out.at_ 2 rfl
  have b3 := G2.out.at_ 3 rfl
  have b4 := G2.out.at_ 4 rfl
  have b5 := G2.out.at_ 5 rfl
  have b6 := G2.out.at_ 6 rfl
  have b7 := G2.out.at_ 7 rfl
  have b8 := G2.out.at_ 8 rfl
  have b9 := G2.out.at_ 9 rfl
  have b10 := G2.out.at_ 10 rfl
  have b11 := G2.out.at_ 11 rfl
  have b12 := G2.out.at_ 12 rfl
  have b13 := G2.out.at_ 13 rfl
  have b14 := G2.out.at_ 14 rfl
  have b15 := G2.out.at_ 15 rfl
  have b16 := G2.out.at_ 16 rfl
  go_enter Try.func34, Try.ntmps34
  go_wp2_with fail
  refine (l04Same_any w.heap.size 9 (w.heap.size + 1) 9 _ _ _ _ _ _ _ _ _ _ _ _ xs1 xs1' xs2 xs2' _ _ _ (by rw [← HW.out]; exact ⟨G1.out.at_ 9 rfl, G1.out.at_ 10 rfl, G1.out.at_ 11 rfl⟩) (by rw [← HW.out]; exact ⟨G2.out.at_ 9 rfl, G2.out.at_ 10 rfl, G2.out.at_ 11 rfl⟩) (by rw [← HW.out]; exact H1.out.1) (by rw [← HW.out]; exact H1.out.2.1) (by rw [← HW.out]; exact H2.out.1) (by rw [← HW.out]; exact H2.out.2.1)).mono ?_
  rintro e w1 ⟨rfl, m1, hm1⟩
  have q1 : Below W.heap.size W w1 := by rw [hm1, ← HW.out]; exact below_drewN (Below.refl _ _) _
  clear hm1
  rw [E2.out]
  have X1 := G1.out.sub q1
  have X2 := G2.out.sub q1
  clear a0 b0 a1 b1 a2 b2 a3 b3 a4 b4 a5 b5 a6 b6 a7 b7 a8 b8 a9 b9 a10 b10 a11 b11 a12 b12 a13 b13 a14 b14 a15 b15 a16 b16
  have a0 := (X1.at_ 0 rfl)
  have a1 := (X1.at_ 1 rfl)
  have a2 := (X1.at_ 2 rfl)
  have a3 := (X1.at_ 3 rfl)
  have a4 := (X1.at_ 4 rfl)
  have a5 := (X1.at_ 5 rfl)
  have a6 := (X1.at_ 6 rfl)
  have a7 := (X1.at_ 7 rfl)
  have a8 := (X1.at_ 8 rfl)
  have a9 := (X1.at_ 9 rfl)
  have a10 := (X1.at_ 10 rfl)
  have a11 := (X1.at_ 11 rfl)
  have a12 := (X1.at_ 12 rfl)
  have a13 := (X1.at_ 13 rfl)
  have a14 := (X1.at_ 14 rfl)
  have a15 := (X1.at_ 15 rfl)
  have a16 := (X1.at_ 16 rfl)
  have b0 := (X2.at_ 0 rfl)
  have b1 := (X2.at_ 1 rfl)
  have b2 := (X2.at_ 2 rfl)
  have b3 := (X2.at_ 3 rfl)
  have b4 := (X2.at_ 4 rfl)
  have b5 := (X2.at_ 5 rfl)
  have b6 := (X2.at_ 6 rfl)
  have b7 := (X2.at_ 7 rfl)
  have b8 := (X2.at_ 8 rfl)
  have b9 := (X2.at_ 9 rfl)
  have b10 := (X2.at_ 10 rfl)
  have b11 := (X2.at_ 11 rfl)
  have b12 := (X2.at_ 12 rfl)
  have b13 := (X2.at_ 13 rfl)
  have b14 := (X2.at_ 14 rfl)
  have b15 := (X2.at_ 15 rfl)
  have b16 := (X2.at_ 16 rfl)
  go_wp2_with fail
  refine (l00Same_is _ _ _ _ _ _ _ _ ms1 ms2 true E3.out _ (by exact H1.out.2.2.1.sub q1) (by exact H2.out.2.2.1.sub q1)).mono ?_
  rintro e w2 ⟨rfl, m2, hm2⟩
  have q2 : Below W.heap.size W w2 := by rw [hm2]; exact below_drewN q1 _
  clear hm2
  have X1 := G1.out.sub q2
  have X2 := G2.out.sub q2
  clear a0 b0 a1 b1 a2 b2 a3 b3 a4 b4 a5 b5 a6 b6 a7 b7 a8 b8 a9 b9 a10 b10 a11 b11 a12 b12 a13 b13 a14 b14 a15 b15 a16 b16
  have a0 := (X1.at_ 0 rfl)
  have a1 := (X1.at_ 1 rfl)
  have a2 := (X1.at_ 2 rfl)
  have a3 := (X1.at_ 3 rfl)
  have a4 := (X1.at_ 4 rfl)
  have a5 := (X1.at_ 5 rfl)
  have a6 := (X1.at_ 6 rfl)
  have a7 := (X1.at_ 7 rfl)
  have a8 := (X1.at_ 8 rfl)
  have a9 := (X1.at_ 9 rfl)
  have a10 := (X1.at_ 10 rfl)
  have a11 := (X1.at_ 11 rfl)
  have a12 := (X1.at_ 12 rfl)
  have a13 := (X1.at_ 13 rfl)
  have a14 := (X1.at_ 14 rfl)
  have a15 := (X1.at_ 15 rfl)
  have a16 := (X1.at_ 16 rfl)
  have b0 := (X2.at_ 0 rfl)
  have b1 := (X2.at_ 1 rfl)
  have b2 := (X2.at_ 2 rfl)
  have b3 := (X2.at_ 3 rfl)
  have b4 := (X2.at_ 4 rfl)
  have b5 := (X2.at_ 5 rfl)
  have b6 := (X2.at_ 6 rfl)
  have b7 := (X2.at_ 7 rfl)
  have b8 := (X2.at_ 8 rfl)
  have b9 := (X2.at_ 9 rfl)
  have b10 := (X2.at_ 10 rfl)
  have b11 := (X2.at_ 11 rfl)
  have b12 := (X2.at_ 12 rfl)
  have b13 := (X2.at_ 13 rfl)
  have b14 := (X2.at_ 14 rfl)
  have b15 := (X2.at_ 15 rfl)
  have b16 := (X2.at_ 16 rfl)
  go_wp2_with fail
  refine (l04Same_any w.heap.size 13 (w.heap.size + 1) 13 _ _ _ _ _ _ _ _ _ _ _ _ ys1 ys1' ys2 ys2' _ _ _ (by exact ⟨X1.at_ 13 rfl, X1.at_ 14 rfl, X1.at_ 15 rfl⟩) (by exact ⟨X2.at_ 13 rfl, X2.at_ 14 rfl, X2.at_ 15 rfl⟩) (by exact H1.out.2.2.2.1.sub q2) (by exact H1.out.2.2.2.2.sub q2) (by exact H2.out.2.2.2.1.sub q2) (by exact H2.out.2.2.2.2.sub q2)).mono ?_
  rintro e w3 ⟨rfl, m3, hm3⟩
  have q3 : Below W.heap.size W w3 := by rw [hm3]; exact below_drewN q2 _
  clear hm3
  rw [E4.out]
  have X1 := G1.out.sub q3
  have X2 := G2.out.sub q3
  clear a0 b0 a1 b1 a2 b2 a3 b3 a4 b4 a5 b5 a6 b6 a7 b7 a8 b8 a9 b9 a10 b10 a11 b11 a12 b12 a13 b13 a14 b14 a15 b15 a16 b16
  have a0 := (X1.at_ 0 rfl)
  have a1 := (X1.at_ 1 rfl)
  have a2 := (X1.at_ 2 rfl)
  have a3 := (X1.at_ 3 rfl)
  have a4 := (X1.at_ 4 rfl)
  have a5 := (X1.at_ 5 rfl)
  have a6 := (X1.at_ 6 rfl)
  have a7 := (X1.at_ 7 rfl)
  have a8 := (X1.at_ 8 rfl)
  have a9 := (X1.at_ 9 rfl)
  have a10 := (X1.at_ 10 rfl)
  have a11 := (X1.at_ 11 rfl)
  have a12 := (X1.at_ 12 rfl)
  have a13 := (X1.at_ 13 rfl)
  have a14 := (X1.at_ 14 rfl)
  have a15 := (X1.at_ 15 rfl)
  have a16 := (X1.at_ 16 rfl)
  have b0 := (X2.at_ 0 rfl)
  have b1 := (X2.at_ 1 rfl)
  have b2 := (X2.at_ 2 rfl)
  have b3 := (X2.at_ 3 rfl)
  have b4 := (X2.at_ 4 rfl)
  have b5 := (X2.at_ 5 rfl)
  have b6 := (X2.at_ 6 rfl)
  have b7 := (X2.at_ 7 rfl)
  have b8 := (X2.at_ 8 rfl)
  have b9 := (X2.at_ 9 rfl)
  have b10 := (X2.at_ 10 rfl)
  have b11 := (X2.at_ 11 rfl)
  have b12 := (X2.at_ 12 rfl)
  have b13 := (X2.at_ 13 rfl)
  have b14 := (X2.at_ 14 rfl)
  have b15 := (X2.at_ 15 rfl)
  have b16 := (X2.at_ 16 rfl)
  have e5 := E5.out
  go_wp2_with fail
  go_ret
  exact ⟨ret_b (by simp only [sameG, E1.out, E2.out, E3.out, E4.out, E5.out, Bool.false_and, Bool.and_false, Bool.true_and, Bool.and_true]), BW.out.trans (q3.mono BW.out.size)⟩
set_option maxRecDepth 100000 in
set_option maxHeartbeats 8000000 in
theorem implSameGame_any (p1 s1 : Int) (st1 sk1 re1 fe1 ag1 : Bool) (c1 sl1 : Int) (A1 : Option Addr) (n1 u1 : Nat) (A1' : Option Addr) (n1' u1' : Nat) (pl1 : Int) (M1 : Option Addr) (k1 d1 : Nat) (B1 : Option Addr) (m1 e1 : Nat) (B1' : Option Addr) (m1' e1' : Nat) (ql1 z1 : Int) (xs1 xs1' ms1 ys1 ys1' : List Int) (p2 s2 : Int) (st2 sk2 re2 fe2 ag2 : Bool) (c2 sl2 : Int) (A2 : Option Addr) (n2 u2 : Nat) (A2' : Option Addr) (n2' u2' : Nat) (pl2 : Int) (M2 : Option Addr) (k2 d2 : Nat) (B2 : Option Addr) (m2 e2 : Nat) (B2' : Option Addr) (m2' e2' : Nat) (ql2 z2 : Int) (xs2 xs2' ms2 ys2 ys2' : List Int) (w : World) (h1 : Ints w w.heap.size A1 n1 u1 xs1 ∧ Ints w w.heap.size A1' n1' u1' xs1' ∧ Ints w w.heap.size M1 k1 d1 ms1 ∧ Ints w w.heap.size B1 m1 e1 ys1 ∧ Ints w w.heap.size B1' m1' e1' ys1') (h2 : Ints w w.heap.size A2 n2 u2 xs2 ∧ Ints w w.heap.size A2' n2' u2' xs2' ∧ Ints w w.heap.size M2 k2 d2 ms2 ∧ Ints w w.heap.size B2 m2 e2 ys2 ∧ Ints w w.heap.size B2' m2' e2' ys2') :
    Calls Try.prog 36 #[.agg #[.int .i64 p1, .int .i64 s1, .bool st1, .bool sk1, .bool re1, .bool fe1, .bool ag1, .int .i64 c1, .int .i64 sl1, .slice A1 n1 u1, .slice A1' n1' u1', .int .i64 pl1, .slice M1 k1 d1, .slice B1 m1 e1, .slice B1' m1' e1', .int .i64 ql1, .int .i64 z1], .agg #[.int .i64 p2, .int .i64 s2, .bool st2, .bool sk2, .bool re2, .bool fe2, .bool ag2, .int .i64 c2, .int .i64 sl2, .slice A2 n2 u2, .slice A2' n2' u2', .int .i64 pl2, .slice M2 k2 d2, .slice B2 m2 e2, .slice B2' m2' e2', .int .i64 ql2, .int .i64 z2]] w fun e w' => e = .returned (.bool (sameG ⟨p1, s1, st1, sk1, re1, fe1, ag1, c1, sl1⟩ ⟨p2, s2, st2, sk2, re2, fe2, ag2, c2, sl2⟩ xs1 xs1' pl1 xs2 xs2' pl2 ms1 ms2 ys1 ys1' ql1 ys2 ys2' ql2 z1 z2)) ∧ Below w.heap.size w w' := by
  have bW : Below w.heap.size w ((w.alloc (.cells #[.int .i64 p1, .int .i64 s1, .bool st1, .bool sk1, .bool re1, .bool fe1, .bool ag1, .int .i64 c1, .int .i64 sl1, .slice A1 n1 u1, .slice A1' n1' u1', .int .i64 pl1, .slice M1 k1 d1, .slice B1 m1 e1, .slice B1' m1' e1', .int .i64 ql1, .int .i64 z1] 50)).alloc (.cells #[.int .i64 p2, .int .i64 s2, .bool st2, .bool sk2, .bool re2, .bool fe2, .bool ag2, .int .i64 c2, .int .i64 sl2, .slice A2 n2 u2, .slice A2' n2' u2', .int .i64 pl2, .slice M2 k2 d2, .slice B2 m2 e2, .slice B2' m2' e2', .int .i64 ql2, .int .i64 z2] 50)) := (by repeat (first | with_reducible exact Below.refl _ _ | with_reducible assumption | with_reducible refine sub_alloc ?_ _ | (with_reducible refine sub_setCell2 ?_ ?_ _; (focus (first | (simp; done) | (simp <;> omega)))) | with_reducible refine sub_drew ?_ | with_reducible refine below_drewN ?_ _ | with_reducible refine sub_step (by assumption) ?_ (by first | rfl | (simp; done)) | exact Below.refl _ _ | assumption | refine sub_alloc ?_ _ | refine sub_setCell ?_ (by simp <;> omega) _ | refine sub_drew ?_ | refine below_drewN ?_ _ | refine sub_step (by assumption) ?_ (by first | rfl | (simp; done))))
  have G1 := Lib.hid ((Has.box w [.int .i64 p1, .int .i64 s1, .bool st1, .bool sk1, .bool re1, .bool fe1, .bool ag1, .int .i64 c1, .int .i64 sl1, .slice A1 n1 u1, .slice A1' n1' u1', .int .i64 pl1, .slice M1 k1 d1, .slice B1 m1 e1, .slice B1' m1' e1', .int .i64 ql1, .int .i64 z1] 50 w.heap.size rfl).alloc (.cells #[.int .i64 p2, .int .i64 s2, .bool st2, .bool sk2, .bool re2, .bool fe2, .bool ag2, .int .i64 c2, .int .i64 sl2, .slice A2 n2 u2, .slice A2' n2' u2', .int .i64 pl2, .slice M2 k2 d2, .slice B2 m2 e2, .slice B2' m2' e2', .int .i64 ql2, .int .i64 z2] 50))
  have G2 := Lib.hid (Has.box (w.alloc (.cells #[.int .i64 p1, .int .i64 s1, .bool st1, .bool sk1, .bool re1, .bool fe1, .bool ag1, .int .i64 c1, .int .i64 sl1, .slice A1 n1 u1, .slice A1' n1' u1', .int .i64 pl1, .slice M1 k1 d1, .slice B1 m1 e1, .slice B1' m1' e1', .int .i64 ql1, .int .i64 z1] 50)) [.int .i64 p2, .int .i64 s2, .bool st2, .bool sk2, .bool re2, .bool fe2, .bool ag2, .int .i64 c2, .int .i64 sl2, .slice A2 n2 u2, .slice A2' n2' u2', .int .i64 pl2, .slice M2 k2 d2, .slice B2 m2 e2, .slice B2' m2' e2', .int .i64 ql2, .int .i64 z2] 50 (w.heap.size + 1) (by simp))
  have H1 := Lib.hid (show _ ∧ _ ∧ _ ∧ _ ∧ _ from ⟨h1.1.sub bW, h1.2.1.sub bW, h1.2.2.1.sub bW, h1.2.2.2.1.sub bW, h1.2.2.2.2.sub bW⟩)
  have H2 := Lib.hid (show _ ∧ _ ∧ _ ∧ _ ∧ _ from ⟨h2.1.sub bW, h2.2.1.sub bW, h2.2.2.1.sub bW, h2.2.2.2.1.sub bW, h2.2.2.2.2.sub bW⟩)
  obtain ⟨W, hW⟩ : ∃ W, W = (w.alloc (.cells #[.int .i64 p1, .int .i64 s1, .bool st1, .bool sk1, .bool re1, .bool fe1, .bool ag1, .int .i64 c1, .int .i64 sl1, .slice A1 n1 u1, .slice A1' n1' u1', .int .i64 pl1, .slice M1 k1 d1, .slice B1 m1 e1, .slice B1' m1' e1', .int .i64 ql1, .int .i64 z1] 50)).alloc (.cells #[.int .i64 p2, .int .i64 s2, .bool st2, .bool sk2, .bool re2, .bool fe2, .bool ag2, .int .i64 c2, .int .i64 sl2, .slice A2 n2 u2, .slice A2' n2' u2', .int .i64 pl2, .slice M2 k2 d2, .slice B2 m2 e2, .slice B2' m2' e2', .int .i64 ql2, .int .i64 z2] 50) := ⟨_, rfl⟩
  rw [← show W = (w.alloc (.cells ([.int .i64 p1, .int .i64 s1, .bool st1, .bool sk1, .bool re1, .bool fe1, .bool ag1, .int .i64 c1, .int .i64 sl1, .slice A1 n1 u1, .slice A1' n1' u1', .int .i64 pl1, .slice M1 k1 d1, .slice B1 m1 e1, .slice B1' m1' e1', .int .i64 ql1, .int .i64 z1] : List Value).toArray 50)).alloc (.cells #[.int .i64 p2, .int .i64 s2, .bool st2, .bool sk2, .bool re2, .bool fe2, .bool ag2, .int .i64 c2, .int .i64 sl2, .slice A2 n2 u2, .slice A2' n2' u2', .int .i64 pl2, .slice M2 k2 d2, .slice B2 m2 e2, .slice B2' m2' e2', .int .i64 ql2, .int .i64 z2] 50) from hW] at G1
  rw [← hW] at bW H1 H2
  have HW := Lib.hid hW
  have BW := Lib.hid bW
  have G2 : Hid (Has W (w.heap.size + 1) [.int .i64 p2, .int .i64 s2, .bool st2, .bool sk2, .bool re2, .bool fe2, .bool ag2, .int .i64 c2, .int .i64 sl2, .slice A2 n2 u2, .slice A2' n2' u2', .int .i64 pl2, .slice M2 k2 d2, .slice B2 m2 e2, .slice B2' m2' e2', .int .i64 ql2, .int .i64 z2]) := Lib.hid (by rw [hW]; exact G2.out)
  clear h1 h2 hW bW
  have l1 := G1.out.lt
  have l2 := G2.out.lt
  cases e1 : eqRu ⟨p1, s1, st1, sk1, re1, fe1, ag1, c1, sl1⟩ ⟨p2, s2, st2, sk2, re2, fe2, ag2, c2, sl2⟩
  · have E1 := Lib.hid e1
    clear e1
    have EQ := fun w => eql_rules p1 s1 st1 sk1 re1 fe1 ag1 c1 sl1 p2 s2 st2 sk2 re2 fe2 ag2 c2 sl2 false E1.out w
    have a0 := G1.out.at_ 0 rfl
    have a1 := G1.out.at_ 1 rfl
    have a2 := G1.out.at_ 2 rfl
    have a3 := G1.out.at_ 3 rfl
    have a4 := G1.out.at_ 4 rfl
    have a5 := G1.out.at_ 5 rfl
    have a6 := G1.out.at_ 6 rfl
    have a7 := G1.out.at_ 7 rfl
    have a8 := G1.out.at_ 8 rfl
    have a9 := G1.out.at_ 9 rfl
    have a10 := G1.out.at_ 10 rfl
    have a11 := G1.out.at_ 11 rfl
    have a12 := G1.out.at_ 12 rfl
    have a13 := G1.out.at_ 13 rfl
    have a14 := G1.out.at_ 14 rfl
    have a15 := G1.out.at_ 15 rfl
    have a16 := G1.out.at_ 16 rfl
    have b0 := G2.out.at_ 0 rfl
    have b1 := G2.out.at_ 1 rfl
    have b2 := G2.out.at_ 2 rfl
    have b3 := G2.out.at_ 3 rfl
    have b4 := G2.out.at_ 4 rfl
    have b5 := G2.out.at_ 5 rfl
    have b6 := G2.out.at_ 6 rfl
    have b7 := G2.out.at_ 7 rfl
    have b8 := G2.out.at_ 8 rfl
    have b9 := G2.out.at_ 9 rfl
    have b10 := G2.out.at_ 10 rfl
    have b11 := G2.out.at_ 11 rfl
    have b12 := G2.out.at_ 12 rfl
    have b13 := G2.out.at_ 13 rfl
    have b14 := G2.out.at_ 14 rfl
    have b15 := G2.out.at_ 15 rfl
    have b16 := G2.out.at_ 16 rfl
    go_enter Try.func36, Try.ntmps36
    go_wp2_with fail
    go_ret
    exact ⟨ret_b (by simp [sameG, E1.out]), by rw [← HW.out]; exact BW.out⟩
  have E1 := Lib.hid e1
  clear e1
  cases e2 : sameP xs1 xs1' pl1 xs2 xs2' pl2
  · have E2 := Lib.hid e2
    clear e2
    have EQ := fun w => eql_rules p1 s1 st1 sk1 re1 fe1 ag1 c1 sl1 p2 s2 st2 sk2 re2 fe2 ag2 c2 sl2 true E1.out w
    have a0 := G1.out.at_ 0 rfl
    have a1 := G1.out.at_ 1 rfl
    have a2 := G1.out.at_ 2 rfl
    have a3 := G1.out.at_ 3 rfl
    have a4 := G1.out.at_ 4 rfl
    have a5 := G1.out.at_ 5 rfl
    have a6 := G1.out.at_ 6 rfl
    have a7 := G1.out.at_ 7 rfl
    have a8 := G1.out.at_ 8 rfl
    have a9 := G1.out.at_ 9 rfl
    have a10 := G1.out.at_ 10 rfl
    have a11 := G1.out.at_ 11 rfl
    have a12 := G1.out.at_ 12 rfl
    have a13 := G1.out.at_ 13 rfl
    have a14 := G1.out.at_ 14 rfl
    have a15 := G1.out.at_ 15 rfl
    have a16 := G1.out.at_ 16 rfl
    have b0 := G2.out.at_ 0 rfl
    have b1 := G2.out.at_ 1 rfl
    have b2 := G2.out.at_ 2 rfl
    have b3 := G2.out.at_ 3 rfl
    have b4 := G2.out.at_ 4 rfl
    have b5 := G2.out.at_ 5 rfl
    have b6 := G2.out.at_ 6 rfl
    have b7 := G2.out.at_ 7 rfl
    have b8 := G2.out.at_ 8 rfl
    have b9 := G2.out.at_ 9 rfl
    have b10 := G2.out.at_ 10 rfl
    have b11 := G2.out.at_ 11 rfl
    have b12 := G2.out.at_ 12 rfl
    have b13 := G2.out.at_ 13 rfl
    have b14 := G2.out.at_ 14 rfl
    have b15 := G2.out.at_ 15 rfl
    have b16 := G2.out.at_ 16 rfl
    go_enter Try.func36, Try.ntmps36
    go_wp2_with fail
    refine (SamePosition_any _ _ _ _ _ _ _ _ _ _ _ _ xs1 xs1' xs2 xs2' _ _ _ (by rw [← HW.out]; exact H1.out.1) (by rw [← HW.out]; exact H1.out.2.1) (by rw [← HW.out]; exact H2.out.1) (by rw [← HW.out]; exact H2.out.2.1)).mono ?_
    rintro e w1 ⟨rfl, q1'⟩
    have q1 : Below W.heap.size W w1 := by rw [HW.out]; exact q1'
    clear q1'
    rw [E2.out]
    have X1 := G1.out.sub q1
    have X2 := G2.out.sub q1
    clear a0 b0 a1 b1 a2 b2 a3 b3 a4 b4 a5 b5 a6 b6 a7 b7 a8 b8 a9 b9 a10 b10 a11 b11 a12 b12 a13 b13 a14 b14 a15 b15 a16 b16
    have a0 := (X1.at_ 0 rfl)
    have a1 := (X1.at_ 1 rfl)
    have a2 := (X1.at_ 2 rfl)
    have a3 := (X1.at_ 3 rfl)
    have a4 := (X1.at_ 4 rfl)
    have a5 := (X1.at_ 5 rfl)
    have a6 := (X1.at_ 6 rfl)
    have a7 := (X1.at_ 7 rfl)
    have a8 := (X1.at_ 8 rfl)
    have a9 := (X1.at_ 9 rfl)
    have a10 := (X1.at_ 10 rfl)
    have a11 := (X1.at_ 11 rfl)
    have a12 := (X1.at_ 12 rfl)
    have a13 := (X1.at_ 13 rfl)
    have a14 := (X1.at_ 14 rfl)
    have a15 := (X1.at_ 15 rfl)
    have a16 := (X1.at_ 16 rfl)
    have b0 := (X2.at_ 0 rfl)
    have b1 := (X2.at_ 1 rfl)
    have b2 := (X2.at_ 2 rfl)
    have b3 := (X2.at_ 3 rfl)
    have b4 := (X2.at_ 4 rfl)
    have b5 := (X2.at_ 5 rfl)
    have b6 := (X2.at_ 6 rfl)
    have b7 := (X2.at_ 7 rfl)
    have b8 := (X2.at_ 8 rfl)
    have b9 := (X2.at_ 9 rfl)
    have b10 := (X2.at_ 10 rfl)
    have b11 := (X2.at_ 11 rfl)
    have b12 := (X2.at_ 12 rfl)
    have b13 := (X2.at_ 13 rfl)
    have b14 := (X2.at_ 14 rfl)
    have b15 := (X2.at_ 15 rfl)
    have b16 := (X2.at_ 16 rfl)
    go_wp2_with fail
    go_ret
    exact ⟨ret_b (by simp [sameG, E1.out, E2.out]), BW.out.trans (q1.mono BW.out.size)⟩
  have E2 := Lib.hid e2
  clear e2
  cases e3 : decide (ms1 = ms2)
  · have E3 := Lib.hid e3
    clear e3
    have EQ := fun w => eql_rules p1 s1 st1 sk1 re1 fe1 ag1 c1 sl1 p2 s2 st2 sk2 re2 fe2 ag2 c2 sl2 true E1.out w
    have a0 := G1.out.at_ 0 rfl
    have a1 := G1.out.at_ 1 rfl
    have a2 := G1.out.at_ 2 rfl
    have a3 := G1.out.at_ 3 rfl
    have a4 := G1.out.at_ 4 rfl
    have a5 := G1.out.at_ 5 rfl
    have a6 := G1.out.at_ 6 rfl
    have a7 := G1.out.at_ 7 rfl
    have a8 := G1.out.at_ 8 rfl
    have a9 := G1.out.at_ 9 rfl
    have a10 := G1.out.at_ 10 rfl
    have a11 := G1.out.at_ 11 rfl
    have a12 := G1.out.at_ 12 rfl
    have a13 := G1.out.at_ 13 rfl
    have a14 := G1.out.at_ 14 rfl
    have a15 := G1.out.at_ 15 rfl
    have a16 := G1.out.at_ 16 rfl
    have b0 := G2.out.at_ 0 rfl
    have b1 := G2.out.at_ 1 rfl
    have b2 := G2.out.at_ 2 rfl
    have b3 := G2.out.at_ 3 rfl
    have b4 := G2.out.at_ 4 rfl
    have b5 := G2.out.at_ 5 rfl
    have b6 := G2.out.at_ 6 rfl
    have b7 := G2.out.at_ 7 rfl
    have b8 := G2.out.at_ 8 rfl
    have b9 := G2.out.at_ 9 rfl
    have b10 := G2.out.at_ 10 rfl
    have b11 := G2.out.at_ 11 rfl
    have b12 := G2.out.at_ 12 rfl
    have b13 := G2.out.at_ 13 rfl
    have b14 := G2.out.at_ 14 rfl
    have b15 := G2.out.at_ 15 rfl
    have b16 := G2.out.at_ 16 rfl
    go_enter Try.func36, Try.ntmps36
    go_wp2_with fail
    refine (SamePosition_any _ _ _ _ _ _ _ _ _ _ _ _ xs1 xs1' xs2 xs2' _ _ _ (by rw [← HW.out]; exact H1.out.1) (by rw [← HW.out]; exact H1.out.2.1) (by rw [← HW.out]; exact H2.out.1) (by rw [← HW.out]; exact H2.out.2.1)).mono ?_
    rintro e w1 ⟨rfl, q1'⟩
    have q1 : Below W.heap.size W w1 := by rw [HW.out]; exact q1'
    clear q1'
    rw [E2.out]
    have X1 := G1.out.sub q1
    have X2 := G2.out.sub q1
    clear a0 b0 a1 b1 a2 b2 a3 b3 a4 b4 a5 b5 a6 b6 a7 b7 a8 b8 a9 b9 a10 b10 a11 b11 a12 b12 a13 b13 a14 b14 a15 b15 a16 b16
    have a0 := (X1.at_ 0 rfl)
    have a1 := (X1.at_ 1 rfl)
    have a2 := (X1.at_ 2 rfl)
    have a3 := (X1.at_ 3 rfl)
    have a4 := (X1.at_ 4 rfl)
    have a5 := (X1.at_ 5 rfl)
    have a6 := (X1.at_ 6 rfl)
    have a7 := (X1.at_ 7 rfl)
    have a8 := (X1.at_ 8 rfl)
    have a9 := (X1.at_ 9 rfl)
    have a10 := (X1.at_ 10 rfl)
    have a11 := (X1.at_ 11 rfl)
    have a12 := (X1.at_ 12 rfl)
    have a13 := (X1.at_ 13 rfl)
    have a14 := (X1.at_ 14 rfl)
    have a15 := (X1.at_ 15 rfl)
    have a16 := (X1.at_ 16 rfl)
    have b0 := (X2.at_ 0 rfl)
    have b1 := (X2.at_ 1 rfl)
    have b2 := (X2.at_ 2 rfl)
    have b3 := (X2.at_ 3 rfl)
    have b4 := (X2.at_ 4 rfl)
    have b5 := (X2.at_ 5 rfl)
    have b6 := (X2.at_ 6 rfl)
    have b7 := (X2.at_ 7 rfl)
    have b8 := (X2.at_ 8 rfl)
    have b9 := (X2.at_ 9 rfl)
    have b10 := (X2.at_ 10 rfl)
    have b11 := (X2.at_ 11 rfl)
    have b12 := (X2.at_ 12 rfl)
    have b13 := (X2.at_ 13 rfl)
    have b14 := (X2.at_ 14 rfl)
    have b15 := (X2.at_ 15 rfl)
    have b16 := (X2.at_ 16 rfl)
    go_wp2_with fail
    refine (sameNumbers_is _ _ _ _ _ _ _ _ ms1 ms2 false E3.out _ (by exact H1.out.2.2.1.sub q1) (by exact H2.out.2.2.1.sub q1)).mono ?_
    rintro e w2 ⟨rfl, m2, hm2⟩
    have q2 : Below W.heap.size W w2 := by rw [hm2]; exact below_drewN q1 _
    clear hm2
    have X1 := G1.out.sub q2
    have X2 := G2.out.sub q2
    clear a0 b0 a1 b1 a2 b2 a3 b3 a4 b4 a5 b5 a6 b6 a7 b7 a8 b8 a9 b9 a10 b10 a11 b11 a12 b12 a13 b13 a14 b14 a15 b15 a16 b16
    have a0 := (X1.at_ 0 rfl)
    have a1 := (X1.at_ 1 rfl)
    have a2 := (X1.at_ 2 rfl)
    have a3 := (X1.at_ 3 rfl)
    have a4 := (X1.at_ 4 rfl)
    have a5 := (X1.at_ 5 rfl)
    have a6 := (X1.at_ 6 rfl)
    have a7 := (X1.at_ 7 rfl)
    have a8 := (X1.at_ 8 rfl)
    have a9 := (X1.at_ 9 rfl)
    have a10 := (X1.at_ 10 rfl)
    have a11 := (X1.at_ 11 rfl)
    have a12 := (X1.at_ 12 rfl)
    have a13 := (X1.at_ 13 rfl)
    have a14 := (X1.at_ 14 rfl)
    have a15 := (X1.at_ 15 rfl)
    have a16 := (X1.at_ 16 rfl)
    have b0 := (X2.at_ 0 rfl)
    have b1 := (X2.at_ 1 rfl)
    have b2 := (X2.at_ 2 rfl)
    have b3 := (X2.at_ 3 rfl)
    have b4 := (X2.at_ 4 rfl)
    have b5 := (X2.at_ 5 rfl)
    have b6 := (X2.at_ 6 rfl)
    have b7 := (X2.at_ 7 rfl)
    have b8 := (X2.at_ 8 rfl)
    have b9 := (X2.at_ 9 rfl)
    have b10 := (X2.at_ 10 rfl)
    have b11 := (X2.at_ 11 rfl)
    have b12 := (X2.at_ 12 rfl)
    have b13 := (X2.at_ 13 rfl)
    have b14 := (X2.at_ 14 rfl)
    have b15 := (X2.at_ 15 rfl)
    have b16 := (X2.at_ 16 rfl)
    go_wp2_with fail
    go_ret
    exact ⟨ret_b (by simp only [sameG, E1.out, E2.out, E3.out, Bool.false_and, Bool.and_false]), BW.out.trans (q2.mono BW.out.size)⟩
  have E3 := Lib.hid e3
  clear e3
  cases e4 : sameP ys1 ys1' ql1 ys2 ys2' ql2
  · have E4 := Lib.hid e4
    clear e4
    have EQ := fun w => eql_rules p1 s1 st1 sk1 re1 fe1 ag1 c1 sl1 p2 s2 st2 sk2 re2 fe2 ag2 c2 sl2 true E1.out w
    have a0 := G1.out.at_ 0 rfl
    have a1 := G1.out.at_ 1 rfl
    have a2 := G1.out.at_ 2 rfl
    have a3 := G1.out.at_ 3 rfl
    have a4 := G1.out.at_ 4 rfl
    have a5 := G1.out.at_ 5 rfl
    have a6 := G1.out.at_ 6 rfl
    have a7 := G1.out.at_ 7 rfl
    have a8 := G1.out.at_ 8 rfl
    have a9 := G1.out.at_ 9 rfl
    have a10 := G1.out.at_ 10 rfl
    have a11 := G1.out.at_ 11 rfl
    have a12 := G1.out.at_ 12 rfl
    have a13 := G1.out.at_ 13 rfl
    have a14 := G1.out.at_ 14 rfl
    have a15 := G1.out.at_ 15 rfl
    have a16 := G1.out.at_ 16 rfl
    have b0 := G2.out.at_ 0 rfl
    have b1 := G2.out.at_ 1 rfl
    have b2 := G2.out.at_ 2 rfl
    have b3 := G2.out.at_ 3 rfl
    have b4 := G2.out.at_ 4 rfl
    have b5 := G2.out.at_ 5 rfl
    have b6 := G2.out.at_ 6 rfl
    have b7 := G2.out.at_ 7 rfl
    have b8 := G2.out.at_ 8 rfl
    have b9 := G2.out.at_ 9 rfl
    have b10 := G2.out.at_ 10 rfl
    have b11 := G2.out.at_ 11 rfl
    have b12 := G2.out.at_ 12 rfl
    have b13 := G2.out.at_ 13 rfl
    have b14 := G2.out.at_ 14 rfl
    have b15 := G2.out.at_ 15 rfl
    have b16 := G2.out.at_ 16 rfl
    go_enter Try.func36, Try.ntmps36
    go_wp2_with fail
    refine (SamePosition_any _ _ _ _ _ _ _ _ _ _ _ _ xs1 xs1' xs2 xs2' _ _ _ (by rw [← HW.out]; exact H1.out.1) (by rw [← HW.out]; exact H1.out.2.1) (by rw [← HW.out]; exact H2.out.1) (by rw [← HW.out]; exact H2.out.2.1)).mono ?_
    rintro e w1 ⟨rfl, q1'⟩
    have q1 : Below W.heap.size W w1 := by rw [HW.out]; exact q1'
    clear q1'
    rw [E2.out]
    have X1 := G1.out.sub q1
    have X2 := G2.out.sub q1
    clear a0 b0 a1 b1 a2 b2 a3 b3 a4 b4 a5 b5 a6 b6 a7 b7 a8 b8 a9 b9 a10 b10 a11 b11 a12 b12 a13 b13 a14 b14 a15 b15 a16 b16
    have a0 := (X1.at_ 0 rfl)
    have a1 := (X1.at_ 1 rfl)
    have a2 := (X1.at_ 2 rfl)
    have a3 := (X1.at_ 3 rfl)
    have a4 := (X1.at_ 4 rfl)
    have a5 := (X1.at_ 5 rfl)
    have a6 := (X1.at_ 6 rfl)
    have a7 := (X1.at_ 7 rfl)
    have a8 := (X1.at_ 8 rfl)
    have a9 := (X1.at_ 9 rfl)
    have a10 := (X1.at_ 10 rfl)
    have a11 := (X1.at_ 11 rfl)
    have a12 := (X1.at_ 12 rfl)
    have a13 := (X1.at_ 13 rfl)
    have a14 := (X1.at_ 14 rfl)
    have a15 := (X1.at_ 15 rfl)
    have a16 := (X1.at_ 16 rfl)
    have b0 := (X2.at_ 0 rfl)
    have b1 := (X2.at_ 1 rfl)
    have b2 := (X2.at_ 2 rfl)
    have b3 := (X2.at_ 3 rfl)
    have b4 := (X2.at_ 4 rfl)
    have b5 := (X2.at_ 5 rfl)
    have b6 := (X2.at_ 6 rfl)
    have b7 := (X2.at_ 7 rfl)
    have b8 := (X2.at_ 8 rfl)
    have b9 := (X2.at_ 9 rfl)
    have b10 := (X2.at_ 10 rfl)
    have b11 := (X2.at_ 11 rfl)
    have b12 := (X2.at_ 12 rfl)
    have b13 := (X2.at_ 13 rfl)
    have b14 := (X2.at_ 14 rfl)
    have b15 := (X2.at_ 15 rfl)
    have b16 := (X2.at_ 16 rfl)
    go_wp2_with fail
    refine (sameNumbers_is _ _ _ _ _ _ _ _ ms1 ms2 true E3.out _ (by exact H1.out.2.2.1.sub q1) (by exact H2.out.2.2.1.sub q1)).mono ?_
    rintro e w2 ⟨rfl, m2, hm2⟩
    have q2 : Below W.heap.size W w2 := by rw [hm2]; exact below_drewN q1 _
    clear hm2
    have X1 := G1.out.sub q2
    have X2 := G2.out.sub q2
    clear a0 b0 a1 b1 a2 b2 a3 b3 a4 b4 a5 b5 a6 b6 a7 b7 a8 b8 a9 b9 a10 b10 a11 b11 a12 b12 a13 b13 a14 b14 a15 b15 a16 b16
    have a0 := (X1.at_ 0 rfl)
    have a1 := (X1.at_ 1 rfl)
    have a2 := (X1.at_ 2 rfl)
    have a3 := (X1.at_ 3 rfl)
    have a4 := (X1.at_ 4 rfl)
    have a5 := (X1.at_ 5 rfl)
    have a6 := (X1.at_ 6 rfl)
    have a7 := (X1.at_ 7 rfl)
    have a8 := (X1.at_ 8 rfl)
    have a9 := (X1.at_ 9 rfl)
    have a10 := (X1.at_ 10 rfl)
    have a11 := (X1.at_ 11 rfl)
    have a12 := (X1.at_ 12 rfl)
    have a13 := (X1.at_ 13 rfl)
    have a14 := (X1.at_ 14 rfl)
    have a15 := (X1.at_ 15 rfl)
    have a16 := (X1.at_ 16 rfl)
    have b0 := (X2.at_ 0 rfl)
    have b1 := (X2.at_ 1 rfl)
    have b2 := (X2.at_ 2 rfl)
    have b3 := (X2.at_ 3 rfl)
    have b4 := (X2.at_ 4 rfl)
    have b5 := (X2.at_ 5 rfl)
    have b6 := (X2.at_ 6 rfl)
    have b7 := (X2.at_ 7 rfl)
    have b8 := (X2.at_ 8 rfl)
    have b9 := (X2.at_ 9 rfl)
    have b10 := (X2.at_ 10 rfl)
    have b11 := (X2.at_ 11 rfl)
    have b12 := (X2.at_ 12 rfl)
    have b13 := (X2.at_ 13 rfl)
    have b14 := (X2.at_ 14 rfl)
    have b15 := (X2.at_ 15 rfl)
    have b16 := (X2.at_ 16 rfl)
    go_wp2_with fail
    refine (SamePosition_any _ _ _ _ _ _ _ _ _ _ _ _ ys1 ys1' ys2 ys2' _ _ _ (by exact H1.out.2.2.2.1.sub q2) (by exact H1.out.2.2.2.2.sub q2) (by exact H2.out.2.2.2.1.sub q2) (by exact H2.out.2.2.2.2.sub q2)).mono ?_
    rintro e w3 ⟨rfl, q3'⟩
    have q3 := q2.trans (q3'.mono q2.size)
    clear q3'
    rw [E4.out]
    have X1 := G1.out.sub q3
    have X2 := G2.out.sub q3
    clear a0 b0 a1 b1 a2 b2 a3 b3 a4 b4 a5 b5 a6 b6 a7 b7 a8 b8 a9 b9 a10 b10 a11 b11 a12 b12 a13 b13 a14 b14 a15 b15 a16 b16
    have a0 := (X1.at_ 0 rfl)
    have a1 := (X1.at_ 1 rfl)
    have a2 := (X1.at_ 2 rfl)
    have a3 := (X1.at_ 3 rfl)
    have a4 := (X1.at_ 4 rfl)
    have a5 := (X1.at_ 5 rfl)
    have a6 := (X1.at_ 6 rfl)
    have a7 := (X1.at_ 7 rfl)
    have a8 := (X1.at_ 8 rfl)
    have a9 := (X1.at_ 9 rfl)
    have a10 := (X1.at_ 10 rfl)
    have a11 := (X1.at_ 11 rfl)
    have a12 := (X1.at_ 12 rfl)
    have a13 := (X1.at_ 13 rfl)
    have a14 := (X1.at_ 14 rfl)
    have a15 := (X1.at_ 15 rfl)
    have a16 := (X1.at_ 16 rfl)
    have b0 := (X2.at_ 0 rfl)
    have b1 := (X2.at_ 1 rfl)
    have b2 := (X2.at_ 2 rfl)
    have b3 := (X2.at_ 3 rfl)
    have b4 := (X2.at_ 4 rfl)
    have b5 := (X2.at_ 5 rfl)
    have b6 := (X2.at_ 6 rfl)
    have b7 := (X2.at_ 7 rfl)
    have b8 := (X2.at_ 8 rfl)
    have b9 := (X2.at_ 9 rfl)
    have b10 := (X2.at_ 10 rfl)
    have b11 := (X2.at_ 11 rfl)
    have b12 := (X2.at_ 12 rfl)
    have b13 := (X2.at_ 13 rfl)
    have b14 := (X2.at_ 14 rfl)
    have b15 := (X2.at_ 15 rfl)
    have b16 := (X2.at_ 16 rfl)
    go_wp2_with fail
    go_ret
    exact ⟨ret_b (by simp only [sameG, E1.out, E2.out, E3.out, E4.out, Bool.false_and, Bool.and_false, Bool.true_and]), BW.out.trans (q3.mono BW.out.size)⟩
  have E4 := Lib.hid e4
  clear e4
  cases e5 : (z1 == z2)
  · have E5 := Lib.hid e5
    clear e5
    have EQ := fun w => eql_rules p1 s1 st1 sk1 re1 fe1 ag1 c1 sl1 p2 s2 st2 sk2 re2 fe2 ag2 c2 sl2 true E1.out w
    have a0 := G1.out.at_ 0 rfl
    have a1 := G1.out.at_ 1 rfl
    have a2 := G1.out.at_ 2 rfl
    have a3 := G1.out.at_ 3 rfl
    have a4 := G1.out.at_ 4 rfl
    have a5 := G1.out.at_ 5 rfl
    have a6 := G1.out.at_ 6 rfl
    have a7 := G1.out.at_ 7 rfl
    have a8 := G1.out.at_ 8 rfl
    have a9 := G1.out.at_ 9 rfl
    have a10 := G1.out.at_ 10 rfl
    have a11 := G1.out.at_ 11 rfl
    have a12 := G1.out.at_ 12 rfl
    have a13 := G1.out.at_ 13 rfl
    have a14 := G1.out.at_ 14 rfl
    have a15 := G1.out.at_ 15 rfl
    have a16 := G1.out.at_ 16 rfl
    have b0 := G2.out.at_ 0 rfl
    have b1 := G2.out.at_ 1 rfl
    have b2 := G2.out.at_ 2 rfl
    have b3 := G2.out.at_ 3 rfl
    have b4 := G2.out.at_ 4 rfl
    have b5 := G2.out.at_ 5 rfl
    have b6 := G2.out.at_ 6 rfl
    have b7 := G2.out.at_ 7 rfl
    have b8 := G2.out.at_ 8 rfl
    have b9 := G2.out.at_ 9 rfl
    have b10 := G2.out.at_ 10 rfl
    have b11 := G2.out.at_ 11 rfl
    have b12 := G2.out.at_ 12 rfl
    have b13 := G2.out.at_ 13 rfl
    have b14 := G2.out.at_ 14 rfl
    have b15 := G2.out.at_ 15 rfl
    have b16 := G2.out.at_ 16 rfl
    go_enter Try.func36, Try.ntmps36
    go_wp2_with fail
    refine (SamePosition_any _ _ _ _ _ _ _ _ _ _ _ _ xs1 xs1' xs2 xs2' _ _ _ (by rw [← HW.out]; exact H1.out.1) (by rw [← HW.out]; exact H1.out.2.1) (by rw [← HW.out]; exact H2.out.1) (by rw [← HW.out]; exact H2.out.2.1)).mono ?_
    rintro e w1 ⟨rfl, q1'⟩
    have q1 : Below W.heap.size W w1 := by rw [HW.out]; exact q1'
    clear q1'
    rw [E2.out]
    have X1 := G1.out.sub q1
    have X2 := G2.out.sub q1
    clear a0 b0 a1 b1 a2 b2 a3 b3 a4 b4 a5 b5 a6 b6 a7 b7 a8 b8 a9 b9 a10 b10 a11 b11 a12 b12 a13 b13 a14 b14 a15 b15 a16 b16
    have a0 := (X1.at_ 0 rfl)
    have a1 := (X1.at_ 1 rfl)
    have a2 := (X1.at_ 2 rfl)
    have a3 := (X1.at_ 3 rfl)
    have a4 := (X1.at_ 4 rfl)
    have a5 := (X1.at_ 5 rfl)
    have a6 := (X1.at_ 6 rfl)
    have a7 := (X1.at_ 7 rfl)
    have a8 := (X1.at_ 8 rfl)
    have a9 := (X1.at_ 9 rfl)
    have a10 := (X1.at_ 10 rfl)
    have a11 := (X1.at_ 11 rfl)
    have a12 := (X1.at_ 12 rfl)
    have a13 := (X1.at_ 13 rfl)
    have a14 := (X1.at_ 14 rfl)
    have a15 := (X1.at_ 15 rfl)
    have a16 := (X1.at_ 16 rfl)
    have b0 := (X2.at_ 0 rfl)
    have b1 := (X2.at_ 1 rfl)
    have b2 := (X2.at_ 2 rfl)
    have b3 := (X2.at_ 3 rfl)
    have b4 := (X2.at_ 4 rfl)
    have b5 := (X2.at_ 5 rfl)
    have b6 := (X2.at_ 6 rfl)
    have b7 := (X2.at_ 7 rfl)
    have b8 := (X2.at_ 8 rfl)
    have b9 := (X2.at_ 9 rfl)
    have b10 := (X2.at_ 10 rfl)
    have b11 := (X2.at_ 11 rfl)
    have b12 := (X2.at_ 12 rfl)
    have b13 := (X2.at_ 13 rfl)
    have b14 := (X2.at_ 14 rfl)
    have b15 := (X2.at_ 15 rfl)
    have b16 := (X2.at_ 16 rfl)
    go_wp2_with fail
    refine (sameNumbers_is _ _ _ _ _ _ _ _ ms1 ms2 true E3.out _ (by exact H1.out.2.2.1.sub q1) (by exact H2.out.2.2.1.sub q1)).mono ?_
    rintro e w2 ⟨rfl, m2, hm2⟩
    have q2 : Below W.heap.size W w2 := by rw [hm2]; exact below_drewN q1 _
    clear hm2
    have X1 := G1.out.sub q2
    have X2 := G2.out.sub q2
    clear a0 b0 a1 b1 a2 b2 a3 b3 a4 b4 a5 b5 a6 b6 a7 b7 a8 b8 a9 b9 a10 b10 a11 b11 a12 b12 a13 b13 a14 b14 a15 b15 a16 b16
    have a0 := (X1.at_ 0 rfl)
    have a1 := (X1.at_ 1 rfl)
    have a2 := (X1.at_ 2 rfl)
    have a3 := (X1.at_ 3 rfl)
    have a4 := (X1.at_ 4 rfl)
    have a5 := (X1.at_ 5 rfl)
    have a6 := (X1.at_ 6 rfl)
    have a7 := (X1.at_ 7 rfl)
    have a8 := (X1.at_ 8 rfl)
    have a9 := (X1.at_ 9 rfl)
    have a10 := (X1.at_ 10 rfl)
    have a11 := (X1.at_ 11 rfl)
    have a12 := (X1.at_ 12 rfl)
    have a13 := (X1.at_ 13 rfl)
    have a14 := (X1.at_ 14 rfl)
    have a15 := (X1.at_ 15 rfl)
    have a16 := (X1.at_ 16 rfl)
    have b0 := (X2.at_ 0 rfl)
    have b1 := (X2.at_ 1 rfl)
    have b2 := (X2.at_ 2 rfl)
    have b3 := (X2.at_ 3 rfl)
    have b4 := (X2.at_ 4 rfl)
    have b5 := (X2.at_ 5 rfl)
    have b6 := (X2.at_ 6 rfl)
    have b7 := (X2.at_ 7 rfl)
    have b8 := (X2.at_ 8 rfl)
    have b9 := (X2.at_ 9 rfl)
    have b10 := (X2.at_ 10 rfl)
    have b11 := (X2.at_ 11 rfl)
    have b12 := (X2.at_ 12 rfl)
    have b13 := (X2.at_ 13 rfl)
    have b14 := (X2.at_ 14 rfl)
    have b15 := (X2.at_ 15 rfl)
    have b16 := (X2.at_ 16 rfl)
    go_wp2_with fail
    refine (SamePosition_any _ _ _ _ _ _ _ _ _ _ _ _ ys1 ys1' ys2 ys2' _ _ _ (by exact H1.out.2.2.2.1.sub q2) (by exact H1.out.2.2.2.2.sub q2) (by exact H2.out.2.2.2.1.sub q2) (by exact H2.out.2.2.2.2.sub q2)).mono ?_
    rintro e w3 ⟨rfl, q3'⟩
    have q3 := q2.trans (q3'.mono q2.size)
    clear q3'
    rw [E4.out]
    have X1 := G1.out.sub q3
    have X2 := G2.out.sub q3
    clear a0 b0 a1 b1 a2 b2 a3 b3 a4 b4 a5 b5 a6 b6 a7 b7 a8 b8 a9 b9 a10 b10 a11 b11 a12 b12 a13 b13 a14 b14 a15 b15 a16 b16
    have a0 := (X1.at_ 0 rfl)
    have a1 := (X1.at_ 1 rfl)
    have a2 := (X1.at_ 2 rfl)
    have a3 := (X1.at_ 3 rfl)
    have a4 := (X1.at_ 4 rfl)
    have a5 := (X1.at_ 5 rfl)
    have a6 := (X1.at_ 6 rfl)
    have a7 := (X1.at_ 7 rfl)
    have a8 := (X1.at_ 8 rfl)
    have a9 := (X1.at_ 9 rfl)
    have a10 := (X1.at_ 10 rfl)
    have a11 := (X1.at_ 11 rfl)
    have a12 := (X1.at_ 12 rfl)
    have a13 := (X1.at_ 13 rfl)
    have a14 := (X1.at_ 14 rfl)
    have a15 := (X1.at_ 15 rfl)
    have a16 := (X1.at_ 16 rfl)
    have b0 := (X2.at_ 0 rfl)
    have b1 := (X2.at_ 1 rfl)
    have b2 := (X2.at_ 2 rfl)
    have b3 := (X2.at_ 3 rfl)
    have b4 := (X2.at_ 4 rfl)
    have b5 := (X2.at_ 5 rfl)
    have b6 := (X2.at_ 6 rfl)
    have b7 := (X2.at_ 7 rfl)
    have b8 := (X2.at_ 8 rfl)
    have b9 := (X2.at_ 9 rfl)
    have b10 := (X2.at_ 10 rfl)
    have b11 := (X2.at_ 11 rfl)
    have b12 := (X2.at_ 12 rfl)
    have b13 := (X2.at_ 13 rfl)
    have b14 := (X2.at_ 14 rfl)
    have b15 := (X2.at_ 15 rfl)
    have b16 := (X2.at_ 16 rfl)
    have e5 := E5.out
    go_wp2_with fail
    go_ret
    exact ⟨ret_b (by simp only [sameG, E1.out, E2.out, E3.out, E4.out, E5.out, Bool.false_and, Bool.and_false, Bool.true_and, Bool.and_true]), BW.out.trans (q3.mono BW.out.size)⟩
  have E5 := Lib.hid e5
  clear e5
  have EQ := fun w => eql_rules p1 s1 st1 sk1 re1 fe1 ag1 c1 sl1 p2 s2 st2 sk2 re2 fe2 ag2 c2 sl2 true E1.out w
  have a0 := G1.out.at_ 0 rfl
  have a1 := G1.out.at_ 1 rfl
  have a2 := G1.out.at_ 2 rfl
  have a3 := G1.out.at_ 3 rfl
  have a4 := G1.out.at_ 4 rfl
  have a5 := G1.out.at_ 5 rfl
  have a6 := G1.out.at_ 6 rfl
  have a7 := G1.out.at_ 7 rfl
  have a8 := G1.out.at_ 8 rfl
  have a9 := G1.out.at_ 9 rfl
  have a10 := G1.out.at_ 10 rfl
  have a11 := G1.out.at_ 11 rfl
  have a12 := G1.out.at_ 12 rfl
  have a13 := G1.out.at_ 13 rfl
  have a14 := G1.out.at_ 14 rfl
  have a15 := G1.out.at_ 15 rfl
  have a16 := G1.out.at_ 16 rfl
  have b0 := G2.out.at_ 0 rfl
  have b1 := G2.out.at_ 1 rfl
  have b2 := G2.out.at_ 2 rfl
  have b3 := G2.out.at_ 3 rfl
  have b4 := G2.out.at_ 4 rfl
  have b5 := G2.out.at_ 5 rfl
  have b6 := G2.out.at_ 6 rfl
  have b7 := G2.out.at_ 7 rfl
  have b8 := G2.out.at_ 8 rfl
  have b9 := G2.out.at_ 9 rfl
  have b10 := G2.out.at_ 10 rfl
  have b11 := G2.out.at_ 11 rfl
  have b12 := G2.out.at_ 12 rfl
  have b13 := G2.out.at_ 13 rfl
  have b14 := G2.out.at_ 14 rfl
  have b15 := G2.out.at_ 15 rfl
  have b16 := G2.out.at_ 16 rfl
  go_enter Try.func36, Try.ntmps36
  go_wp2_with fail
  refine (SamePosition_any _ _ _ _ _ _ _ _ _ _ _ _ xs1 xs1' xs2 xs2' _ _ _ (by rw [← HW.out]; exact H1.out.1) (by rw [← HW.out]; exact H1.out.2.1) (by rw [← HW.out]; exact H2.out.1) (by rw [← HW.out]; exact H2.out.2.1)).mono ?_
  rintro e w1 ⟨rfl, q1'⟩
  have q1 : Below W.heap.size W w1 := by rw [HW.out]; exact q1'
  clear q1'
  rw [E2.out]
  have X1 := G1.out.sub q1
  have X2 := G2.out.sub q1
  clear a0 b0 a1 b1 a2 b2 a3 b3 a4 b4 a5 b5 a6 b6 a7 b7 a8 b8 a9 b9 a10 b10 a11 b11 a12 b12 a13 b13 a14 b14 a15 b15 a16 b16
  have a0 := (X1.at_ 0 rfl)
  have a1 := (X1.at_ 1 rfl)
  have a2 := (X1.at_ 2 rfl)
  have a3 := (X1.at_ 3 rfl)
  have a4 := (X1.at_ 4 rfl)
  have a5 := (X1.at_ 5 rfl)
  have a6 := (X1.at_ 6 rfl)
  have a7 := (X1.at_ 7 rfl)
  have a8 := (X1.at_ 8 rfl)
  have a9 := (X1.at_ 9 rfl)
  have a10 := (X1.at_ 10 rfl)
  have a11 := (X1.at_ 11 rfl)
  have a12 := (X1.at_ 12 rfl)
  have a13 := (X1.at_ 13 rfl)
  have a14 := (X1.at_ 14 rfl)
  have a15 := (X1.at_ 15 rfl)
  have a16 := (X1.at_ 16 rfl)
  have b0 := (X2.at_ 0 rfl)
  have b1 := (X2.at_ 1 rfl)
  have b2 := (X2.at_ 2 rfl)
  have b3 := (X2.at_ 3 rfl)
  have b4 := (X2.at_ 4 rfl)
  have b5 := (X2.at_ 5 rfl)
  have b6 := (X2.at_ 6 rfl)
  have b7 := (X2.at_ 7 rfl)
  have b8 := (X2.at_ 8 rfl)
  have b9 := (X2.at_ 9 rfl)
  have b10 := (X2.at_ 10 rfl)
  have b11 := (X2.at_ 11 rfl)
  have b12 := (X2.at_ 12 rfl)
  have b13 := (X2.at_ 13 rfl)
  have b14 := (X2.at_ 14 rfl)
  have b15 := (X2.at_ 15 rfl)
  have b16 := (X2.at_ 16 rfl)
  go_wp2_with fail
  refine (sameNumbers_is _ _ _ _ _ _ _ _ ms1 ms2 true E3.out _ (by exact H1.out.2.2.1.sub q1) (by exact H2.out.2.2.1.sub q1)).mono ?_
  rintro e w2 ⟨rfl, m2, hm2⟩
  have q2 : Below W.heap.size W w2 := by rw [hm2]; exact below_drewN q1 _
  clear hm2
  have X1 := G1.out.sub q2
  have X2 := G2.out.sub q2
  clear a0 b0 a1 b1 a2 b2 a3 b3 a4 b4 a5 b5 a6 b6 a7 b7 a8 b8 a9 b9 a10 b10 a11 b11 a12 b12 a13 b13 a14 b14 a15 b15 a16 b16
  have a0 := (X1.at_ 0 rfl)
  have a1 := (X1.at_ 1 rfl)
  have a2 := (X1.at_ 2 rfl)
  have a3 := (X1.at_ 3 rfl)
  have a4 := (X1.at_ 4 rfl)
  have a5 := (X1.at_ 5 rfl)
  have a6 := (X1.at_ 6 rfl)
  have a7 := (X1.at_ 7 rfl)
  have a8 := (X1.at_ 8 rfl)
  have a9 := (X1.at_ 9 rfl)
  have a10 := (X1.at_ 10 rfl)
  have a11 := (X1.at_ 11 rfl)
  have a12 := (X1.at_ 12 rfl)
  have a13 := (X1.at_ 13 rfl)
  have a14 := (X1.at_ 14 rfl)
  have a15 := (X1.at_ 15 rfl)
  have a16 := (X1.at_ 16 rfl)
  have b0 := (X2.at_ 0 rfl)
  have b1 := (X2.at_ 1 rfl)
  have b2 := (X2.at_ 2 rfl)
  have b3 := (X2.at_ 3 rfl)
  have b4 := (X2.at_ 4 rfl)
  have b5 := (X2.at_ 5 rfl)
  have b6 := (X2.at_ 6 rfl)
  have b7 := (X2.at_ 7 rfl)
  have b8 := (X2.at_ 8 rfl)
  have b9 := (X2.at_ 9 rfl)
  have b10 := (X2.at_ 10 rfl)
  have b11 := (X2.at_ 11 rfl)
  have b12 := (X2.at_ 12 rfl)
  have b13 := (X2.at_ 13 rfl)
  have b14 := (X2.at_ 14 rfl)
  have b15 := (X2.at_ 15 rfl)
  have b16 := (X2.at_ 16 rfl)
  go_wp2_with fail
  refine (SamePosition_any _ _ _ _ _ _ _ _ _ _ _ _ ys1 ys1' ys2 ys2' _ _ _ (by exact H1.out.2.2.2.1.sub q2) (by exact H1.out.2.2.2.2.sub q2) (by exact H2.out.2.2.2.1.sub q2) (by exact H2.out.2.2.2.2.sub q2)).mono ?_
  rintro e w3 ⟨rfl, q3'⟩
  have q3 := q2.trans (q3'.mono q2.size)
  clear q3'
  rw [E4.out]
  have X1 := G1.out.sub q3
  have X2 := G2.out.sub q3
  clear a0 b0 a1 b1 a2 b2 a3 b3 a4 b4 a5 b5 a6 b6 a7 b7 a8 b8 a9 b9 a10 b10 a11 b11 a12 b12 a13 b13 a14 b14 a15 b15 a16 b16
  have a0 := (X1.at_ 0 rfl)
  have a1 := (X1.at_ 1 rfl)
  have a2 := (X1.at_ 2 rfl)
  have a3 := (X1.at_ 3 rfl)
  have a4 := (X1.at_ 4 rfl)
  have a5 := (X1.at_ 5 rfl)
  have a6 := (X1.at_ 6 rfl)
  have a7 := (X1.at_ 7 rfl)
  have a8 := (X1.at_ 8 rfl)
  have a9 := (X1.at_ 9 rfl)
  have a10 := (X1.at_ 10 rfl)
  have a11 := (X1.at_ 11 rfl)
  have a12 := (X1.at_ 12 rfl)
  have a13 := (X1.at_ 13 rfl)
  have a14 := (X1.at_ 14 rfl)
  have a15 := (X1.at_ 15 rfl)
  have a16 := (X1.at_ 16 rfl)
  have b0 := (X2.at_ 0 rfl)
  have b1 := (X2.at_ 1 rfl)
  have b2 := (X2.at_ 2 rfl)
  have b3 := (X2.at_ 3 rfl)
  have b4 := (X2.at_ 4 rfl)
  have b5 := (X2.at_ 5 rfl)
  have b6 := (X2.at_ 6 rfl)
  have b7 := (X2.at_ 7 rfl)
  have b8 := (X2.at_ 8 rfl)
  have b9 := (X2.at_ 9 rfl)
  have b10 := (X2.at_ 10 rfl)
  have b11 := (X2.at_ 11 rfl)
  have b12 := (X2.at_ 12 rfl)
  have b13 := (X2.at_ 13 rfl)
  have b14 := (X2.at_ 14 rfl)
  have b15 := (X2.at_ 15 rfl)
  have b16 := (X2.at_ 16 rfl)
  have e5 := E5.out
  go_wp2_with fail
  go_ret
  exact ⟨ret_b (by simp only [sameG, E1.out, E2.out, E3.out, E4.out, E5.out, Bool.false_and, Bool.and_false, Bool.true_and, Bool.and_true]), BW.out.trans (q3.mono BW.out.size)⟩
end Go.Proofs.Ytnanaldolnehiaa
